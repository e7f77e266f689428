/-
  The walk of the law LinesCommands.
-/
import Derived.Test.YtjjinpohebcicaaDoorJC
import Derived.Test.YtjjinpohebcicaaDoorRfC
set_option linter.unusedSimpArgs false
set_option linter.unusedVariables false
namespace Go.Proofs.YtjjinpohebcicaaDoor
open Go.RowKit Ln Go.Proofs.YtjjinpohebcicaaDoorW.PrintWords

set_option maxRecDepth 100000 in
set_option maxHeartbeats 1000000 in
theorem linesCommands_walk (s : ByteArray) (w : World) (hs : s.size ≤ 140737488351232) (hg : Gc w) : Calls Tryd.prog 3 #[.string s] w fun e w' => e = .returned (.bool true) ∧ Below w.heap.size w w' := by
  have HG := Lib.hid hg
  clear hg
  by_cases hb : 4000 < s.size
  · go_enter Tryd.func3, Tryd.ntmps3
    go_wp2_with (go_at_call 8; (with_reducible refine (awake_w _ HG.out).mono ?_); rintro e w' ⟨rfl, hb1⟩)
    go_ret
    exact ⟨rfl, hb1⟩
  · have hs1 : s.size ≤ 1000000 := by omega
    obtain ⟨K, l, er, p, hcm⟩ : ∃ K l er p, cmdM s = (K, l, er, p) := ⟨_, _, _, _, rfl⟩
    have h1 := command_w s w hs1 HG.out
    have h2 := fun w' => rcommand_w s w' hs1
    rw [hcm] at h1
    simp only [hcm] at h2
    have H1 := Lib.hid h1
    have H2 := Lib.hid h2
    clear h1 h2 hcm
    go_enter Tryd.func3, Tryd.ntmps3
    go_wp2_with fail
    with_reducible refine H1.out.mono ?_
    rintro e w1 ⟨v1, rfl, hr1, hb1⟩
    obtain ⟨A1, c1, rfl, hc1, hC1⟩ := Kd.R_reads hr1
    have hl1 : l.length ≤ 9223372036854775807 := hC1.2.1
    have HC1 := Lib.hid hC1
    have HB1 := Lib.hid hb1
    clear hr1 hC1 hb1
    go_wp2_with fail
    with_reducible refine (H2.out _).mono ?_
    rintro e w2 ⟨v2, rfl, hr2, hb2⟩
    obtain ⟨A2, c2, rfl, hc2, hC2⟩ := Kd.R_reads hr2
    have hkf : w2.heap[w1.heap.size]? = some (.cells #[.int .i64 er, .int .i64 p] 27 (0, 0)) := by
      rw [hb2.block _ (by show w1.heap.size < (w1.heap.push _).size; simp)]; exact new_block w1 _
    have hbA : Below w.heap.size w w2 := Below.trans (below_alloc HB1.out _) (hb2.mono (below_alloc HB1.out _).size)
    have hC12 : Kd.C Kd.string w2 A1 l.length l := Kd.C_below HC1.out (Below.trans (below_alloc (Below.refl _ _) _) (hb2.mono (below_alloc (Below.refl _ _) _).size))
    obtain ⟨k0, k1, k2, k3, k4⟩ := own_two hkf
    have HC12 := Lib.hid hC12
    have HC2 := Lib.hid hC2
    have HB2 := Lib.hid hbA
    clear hC12 hC2 hbA hkf hb2 hr2
    go_wp2_with fail
    with_reducible refine (same_w _ _ _ _ _ _ _ hl1 (Kd.C_below HC12.out (by repeat (first | exact Below.refl _ _ | apply below_alloc | apply pw_below_drewN | apply below_drew1))) hc1 (Kd.C_below HC2.out (by repeat (first | exact Below.refl _ _ | apply below_alloc | apply pw_below_drewN | apply below_drew1))) hc2).mono ?_
    rintro e w' ⟨rfl, ⟨nd, rfl⟩⟩
    have hbz : Below w.heap.size w ((w2.alloc (.cells #[.int .i64 er, .int .i64 p] 27)).drewN nd) := by
      repeat (first | exact HB2.out | apply below_alloc | apply pw_below_drewN | apply below_drew1)
    go_wp2_with fail
    with_reducible refine (awake_w _ (HG.out.below hbz)).mono ?_
    rintro e w4 ⟨rfl, hb4⟩
    go_wp2
    go_ret
    exact ⟨by simp, hbz.trans (hb4.mono hbz.size)⟩
end Go.Proofs.YtjjinpohebcicaaDoor
