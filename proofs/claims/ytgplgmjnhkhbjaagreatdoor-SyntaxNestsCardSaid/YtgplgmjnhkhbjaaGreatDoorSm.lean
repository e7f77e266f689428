/-
  token.Scan's walk.
-/
import Derived.Test.YtgplgmjnhkhbjaaGreatDoorSn
import Derived.Test.YtgplgmjnhkhbjaaGreatDoorTi
import Derived.Laws.EntriesVeiled
import Derived.Test.YtgplgmjnhkhbjaaGreatDoorL
set_option linter.unusedVariables false
set_option linter.unusedSimpArgs false
namespace Go.Proofs.YtgplgmjnhkhbjaaGreatDoor
open Go.RowKit Go.Proofs.YtgplgmjnhkhbjaaGreatDoorW.PrintWords PScan PWord PflatTokens Syn

theorem own_two {w : World} {g t : Nat} {x y : Value} (h : w.heap[g]? = some (.cells #[x, y] t (0, 0))) :
    w.cell? ⟨g, 0, none⟩ = some x ∧ w.cell? ⟨g, 1, none⟩ = some y ∧ w.frozen? ⟨g, 0, none⟩ = false ∧ w.frozen? ⟨g, 1, none⟩ = false ∧ g < w.heap.size :=
  ⟨by rw [blk_cell h]; rfl, by rw [blk_cell h]; rfl, blk_frozen h 0, blk_frozen h 1, blk_lt h⟩

set_option maxRecDepth 100000 in
set_option maxHeartbeats 4000000 in
theorem scan_long (s : ByteArray) (w : World) (hs : 65536 < s.size) :
    Calls Tryz.prog 8 #[.string s] w fun e w' => ScanEnds w (.error (3, 0)) e w' := by
  have d0 : decide ((s.size : Int) > 65536) = true := decide_eq_true (by omega)
  obtain ⟨c0, c1, f0, f1, hz⟩ := own_two (blk_new w (.cells #[.int .i64 3, .int .i64 0] 26))
  go_enter Tryz.func8, Tryz.ntmps8
  go_wp2
  exact bodyPost_ret (v := .tuple #[.slice none 0 0, .agg #[.int .i64 3, .int .i64 0]]) (by simp [results, Tryz.results8, go_sem, c0, c1, hz]) rfl ⟨rfl, below_alloc (Below.refl _ _) _⟩

def cutsAt (g : Nat) : Array Value := #[.int .i64 2, .func (.func 16) #[.pointer (some ⟨g, 0, none⟩)] #[], .int .i64 3, .func (.func 17) #[.pointer (some ⟨g, 0, none⟩)] #[], .int .i64 4, .func (.func 18) #[.pointer (some ⟨g, 0, none⟩)] #[]]

theorem scan_start (s : ByteArray) (w : World) :
    Cu w (((w.alloc (.cells #[.int .i64 0, .int .i64 0] 26)).alloc (.cells #[.string s, .int .i64 0, .int .i64 (-1)] 61)).alloc (.cells (cutsAt (w.heap.size + 1)) 65)) (w.heap.size + 1) s 0 (-1) (((w.alloc (.cells #[.int .i64 0, .int .i64 0] 26)).alloc (.cells #[.string s, .int .i64 0, .int .i64 (-1)] 61)).alloc (.cells (cutsAt (w.heap.size + 1)) 65)) ∧
    (((w.alloc (.cells #[.int .i64 0, .int .i64 0] 26)).alloc (.cells #[.string s, .int .i64 0, .int .i64 (-1)] 61)).alloc (.cells (cutsAt (w.heap.size + 1)) 65)).heap[w.heap.size]? = some (.cells #[.int .i64 0, .int .i64 0] 26 (0, 0)) ∧
    (((w.alloc (.cells #[.int .i64 0, .int .i64 0] 26)).alloc (.cells #[.string s, .int .i64 0, .int .i64 (-1)] 61)).alloc (.cells (cutsAt (w.heap.size + 1)) 65)).heap[w.heap.size + 1 + 1]? = some (.cells (cutsAt (w.heap.size + 1)) 65 (0, 0)) ∧ w.heap.size + 3 = (((w.alloc (.cells #[.int .i64 0, .int .i64 0] 26)).alloc (.cells #[.string s, .int .i64 0, .int .i64 (-1)] 61)).alloc (.cells (cutsAt (w.heap.size + 1)) 65)).heap.size := by
  have h1 : ∀ o, (w.alloc o).heap.size = w.heap.size + 1 := fun o => by simp
  have h2 : ∀ o o', ((w.alloc o).alloc o').heap.size = w.heap.size + 1 + 1 := fun o o' => by simp
  refine ⟨⟨?_, ?_, KeepBut.refl _ _ _⟩, ?_, ?_, by simp⟩
  · have := IsS61.alloc (IsS61.new w (w.alloc (.cells #[.int .i64 0, .int .i64 0] 26)) s 0 (-1) (below_alloc (Below.refl _ _) _)) (.cells (cutsAt (w.heap.size + 1)) 65)
    rw [h1] at this
    exact this
  · exact below_alloc (below_alloc (below_alloc (Below.refl _ _) _) _) _
  · exact blk_alloc (blk_alloc (blk_new w (.cells #[.int .i64 0, .int .i64 0] 26)) (.cells #[.string s, .int .i64 0, .int .i64 (-1)] 61)) (.cells (cutsAt (w.heap.size + 1)) 65)
  · have := blk_new ((w.alloc (.cells #[.int .i64 0, .int .i64 0] 26)).alloc (.cells #[.string s, .int .i64 0, .int .i64 (-1)] 61)) (.cells (cutsAt (w.heap.size + 1)) 65)
    rw [h2] at this
    exact this

theorem cut_at0 (g : Nat) : ∀ w, (Instr.index 65 (.agg (cutsAt g)) (.int .i64 0)).run Tryz.prog w = .ok (.agg #[.int .i64 2, .func (.func 16) #[.pointer (some ⟨g, 0, none⟩)] #[]]) w := fun _ => by kernel_rfl
theorem cut_at1 (g : Nat) : ∀ w, (Instr.index 65 (.agg (cutsAt g)) (.int .i64 1)).run Tryz.prog w = .ok (.agg #[.int .i64 3, .func (.func 17) #[.pointer (some ⟨g, 0, none⟩)] #[]]) w := fun _ => by kernel_rfl
theorem cut_at2 (g : Nat) : ∀ w, (Instr.index 65 (.agg (cutsAt g)) (.int .i64 2)).run Tryz.prog w = .ok (.agg #[.int .i64 4, .func (.func 18) #[.pointer (some ⟨g, 0, none⟩)] #[]]) w := fun _ => by kernel_rfl

def scanAns : Except Nat (List Tok) → Except (Nat × Nat) (List Tok)
  | .error n => .error (120, n)
  | .ok l => .ok l

theorem outKeep {wr w' : World} {B C g : Nat} {v : Value} {l : List S38} (h : Kd.R k38 38 wr B (fun k => C ≤ k) v l) (hg : g < C) (hk : KeepBut wr w' g none) : Kd.R k38 38 w' B (fun k => C ≤ k) v l :=
  Kd.R_keep h hk (fun k hk => by omega)

theorem scanL_end {f at_ : Nat} {l : List UInt8} {acc : List Tok} (h : l.drop (skipL false l) = []) : scanL (f + 1) at_ l acc = some (.ok (acc.reverse ++ [⟨1, at_ + skipL false l, at_ + skipL false l, []⟩])) := by
  simp only [scanL, h]
theorem scanL_err {f at_ n : Nat} {l t : List UInt8} {c : UInt8} {acc : List Tok} (h : l.drop (skipL false l) = c :: t) (hc : cutL (c :: t) = .error n) : scanL (f + 1) at_ l acc = some (.error (at_ + skipL false l + n)) := by
  simp only [scanL, h, hc]
theorem scanL_ok {f at_ k n : Nat} {l t : List UInt8} {c : UInt8} {acc : List Tok} (h : l.drop (skipL false l) = c :: t) (hc : cutL (c :: t) = .ok (k, n)) :
    scanL (f + 1) at_ l acc = scanL f (at_ + skipL false l + n) ((c :: t).drop n) (⟨k, at_ + skipL false l, at_ + skipL false l + n, (c :: t).take n⟩ :: acc) := by
  simp only [scanL, h, hc]

theorem cut_un {w0 w : World} {g : Nat} {s : ByteArray} {a : Nat} {m : Except Nat (Nat × Nat)} {e : Ending} {w' : World} : CutEnds w0 w g s a m e w' → ∃ (k b : Nat) (bad : Int), k ≠ 0 ∧ e = .returned (.int .u8 k) ∧ Cu w0 w g s b bad w' ∧
    (match m with | .error n => bad = ((a + n : Nat) : Int) | .ok (k', n) => k = k' ∧ bad = -1 ∧ b = a + n) := by
  rcases m with n | ⟨k', n⟩
  · rintro ⟨k, b, h1, h2, h3⟩
    exact ⟨k, b, _, h1, h2, h3, rfl⟩
  · rintro ⟨h1, h2, h3⟩
    exact ⟨k', a + n, -1, h1, h2, h3, rfl, rfl, rfl⟩
theorem Cu.other {w0 w W : World} {g a b : Nat} {s : ByteArray} {bad : Int} (h : Cu w0 w g s a bad W) (h1 : g ≠ b) (h2 : w0.heap.size ≤ b) (h3 : w.heap.size ≤ b) (j : Nat) (u : Value) : Cu w0 w g s a bad (W.setCell ⟨b, j, none⟩ u) :=
  ⟨h.is.far (p := ⟨b, j, none⟩) h1 u, below_set h.bel h2, keep_far h.kp (p := ⟨b, j, none⟩) h3 u⟩
theorem Cu.grown {w0 w W W1 : World} {g a : Nat} {s : ByteArray} {bad : Int} {row : Option Nat} (h : Cu w0 w g s a bad W) (hr : ∀ k, row = some k → w.heap.size ≤ k) (hg : some g ≠ row) (r2 : Below w0.heap.size W W1) (r3 : W.grownBy W1 row) : Cu w0 w g s a bad W1 :=
  ⟨h.is.grown r3 hg, Below.trans h.bel r2, ⟨Nat.le_trans h.kp.1 r3.size, fun i hi h1 h2 => (r3.block i (Nat.lt_of_lt_of_le hi h.kp.1) (fun e => by have := hr i e.symm; omega)).trans (h.kp.2 i hi h1 h2)⟩⟩
theorem CutSt.no {c : UInt8} {l : List UInt8} {a j kind b : Nat} {bad : Int} (h : CutSt c l a j kind b bad) (hn : sortU c ≠ j + 2) : CutSt c l a (j + 1) kind b bad := by
  rcases h with ⟨h1, h2, h3, h4⟩ | ⟨h1, h2, h3, h4⟩
  · exact .inl ⟨h1, h2, h3, fun i hi => by
      rcases Nat.lt_or_ge i j with h | h
      · exact h4 i h
      · obtain rfl : i = j := by omega
        exact hn⟩
  · exact .inr ⟨h1, h2, by omega, h4⟩

set_option maxRecDepth 100000 in
set_option maxHeartbeats 8000000 in
theorem scan_go (s : ByteArray) (w : World) (hs : s.size ≤ 65536) (m : Except Nat (List Tok)) (f : Nat) (hf : f ≤ 65537) (hm : scanL f 0 s.data.toList [] = some m) :
    Calls Tryz.prog 8 #[.string s] w fun e w' => ScanEnds w (scanAns m) e w' := by
  have d0 : decide ((s.size : Int) > 65536) = false := decide_eq_false (by omega)
  have hmf : ∀ (fn : Go.Fn) (first cap : Array Value) (w : World), (Instr.makeFunc fn first cap).run Tryz.prog w = .ok (.func fn first cap) w := fun _ _ _ _ => rfl
  have HM := Lib.hid hm
  clear hm
  go_enter Tryz.func8, Tryz.ntmps8
  go_wp2
  obtain ⟨hC0, hb3, hb5, hB3⟩ := scan_start s w
  change Code.wp _ _ _ _ (((w.alloc (.cells #[.int .i64 0, .int .i64 0] 26)).alloc (.cells #[.string s, .int .i64 0, .int .i64 (-1)] 61)).alloc (.cells (cutsAt (w.heap.size + 1)) 65))
  generalize (((w.alloc (.cells #[.int .i64 0, .int .i64 0] 26)).alloc (.cells #[.string s, .int .i64 0, .int .i64 (-1)] 61)).alloc (.cells (cutsAt (w.heap.size + 1)) 65)) = W3 at hC0 hb3 hb5 hB3 ⊢
  have HB3 := Lib.hid hb3
  have HB5 := Lib.hid hb5
  clear hb3 hb5
  go_loopg [6] f (fun k v6 wr => ∃ (p : Nat) (acc : List Tok), p ≤ s.size ∧ acc.length + k = f ∧ Hid (Cu w W3 (w.heap.size + 1) s p (-1) wr) ∧ Hid (Kd.R k38 38 wr w.heap.size (fun k => W3.heap.size ≤ k) v6 (acc.reverse.map tk)) ∧ Hid (scanL k p (from_ s p) acc = some m) ∧ Hid (W3.heap.size ≤ wr.heap.size))
  case atStart => exact ⟨0, [], Nat.zero_le _, by simp, Lib.hid hC0, Lib.hid (Kd.R_nil _ _ _ _ _), HM, Lib.hid (Nat.le_refl _)⟩
  case round =>
    obtain ⟨p, acc, hp, hac, HC, HR, HS, HZ⟩ := hrel
    obtain ⟨k, rfl⟩ : ∃ k', gk = k' + 1 := by
      cases gk with
      | zero => exact absurd HS.out (by simp [scanL])
      | succ k => exact ⟨k, rfl⟩
    obtain ⟨sk, hsk⟩ : ∃ n, skipL false (from_ s p) = n := ⟨_, rfl⟩
    have hle : p + sk ≤ s.size := by
      have := skip_le false (from_ s p)
      rw [from_len, hsk] at this
      omega
    have HK := Lib.hid hsk
    clear hsk
    have hs6 : s.size ≤ 1000000 := by omega
    go_wp2_with fail
    refine (skip_w sk HK.out HC.out.self hp hs6).mono ?_
    rintro e w1 ⟨rfl, h1⟩
    obtain ⟨a, ha⟩ : ∃ a, p + sk = a := ⟨_, rfl⟩
    rw [ha] at h1 hle
    have HA := Lib.hid ha
    clear ha
    have HC1 := Lib.hid (HC.out.after h1)
    have HR1 := Lib.hid (outKeep HR.out (by omega) h1.kp)
    have HZ1 := Lib.hid (Nat.le_trans HZ.out h1.kp.1)
    obtain ⟨c0, c1, c2, f1, f2⟩ := h1.cells
    have hE1 : w1.heap[w.heap.size]? = some (.cells #[.int .i64 0, .int .i64 0] 26 (0, 0)) := by
      rw [HC1.out.kp.2 _ (by omega) (by omega) (by simp)]; exact HB3.out
    have HE1 := Lib.hid hE1
    have e0 : w1.cell? ⟨w.heap.size, 0, none⟩ = some (.int .i64 0) := (blk_cell hE1 0).trans rfl
    have e1 : w1.cell? ⟨w.heap.size, 1, none⟩ = some (.int .i64 0) := (blk_cell hE1 1).trans rfl
    have ef0 := blk_frozen hE1 0
    have ef1 := blk_frozen hE1 1
    have el := blk_lt hE1
    have hge : w.heap.size + 1 ≠ w.heap.size := by omega
    clear h1 hE1
    by_cases hend : a = s.size
    · subst hend
      have hfin : m = .ok (acc.reverse ++ [⟨1, s.size, s.size, []⟩]) := by
        have hd : (from_ s p).drop (skipL false (from_ s p)) = [] := by
          rw [HK.out, from_drop, HA.out]
          exact List.eq_nil_of_length_eq_zero (by rw [from_len]; omega)
        have := scanL_end (f := k) (at_ := p) (acc := acc) hd
        rw [HS.out, HK.out, HA.out] at this
        exact Option.some.inj this
      have hdr : Below w1.heap.size w1 w1.drew := Below.drew (Below.refl _ _)
      have q4 : Hid (Kd.R k38 38 w1.drew w.heap.size (fun k => W3.heap.size ≤ k) u6 (acc.reverse.map tk)) := Lib.hid (Kd.R_below HR1.out hdr)
      have q6 : Hid (w.heap.size ≤ w1.drew.heap.size) := Lib.hid (by show w.heap.size ≤ w1.heap.size; omega)
      have q7 : Hid (((acc.reverse.map tk).length + 1) * 24 ≤ 140737488355328) := Lib.hid (by rw [List.length_map, List.length_reverse]; omega)
      have q8 : Hid (some w.heap.size ≠ u6.ownBlock) := Lib.hid (fun e => by have := HR1.out.1 _ e.symm; omega)
      have q3 : Hid (∀ k, w1.drew.heap.size ≤ k → W3.heap.size ≤ k) := Lib.hid (fun k hk => by have h1 : w1.heap.size ≤ k := hk; have h2 := HZ1.out; omega)
      have HFN := Lib.hid hfin
      clear hfin hdr
      go_wp2_with fail
      go_region_law (refine append_any k38 w1.drew w1.drew w.heap.size rfl (.tmp 36) (.tmp 46) 23 38 rfl (.agg #[.int .u8 0, .int .i64 0, .int .i64 0]) 24 Tryz.underlying23 (by kernel_rfl) rfl (by decide) (by decide) u6 (acc.reverse.map tk) (tk ⟨1, s.size, s.size, []⟩) [.int .u8 1, .int .i64 (s.size : Int), .int .i64 (s.size : Int)] (fun k => W3.heap.size ≤ k) (fun _ => False) w1.heap.size rfl rfl (by simp [Act.eval]) (by simp [Act.eval]) (k38_mkM _ _ _ _) (fun _ h => h.elim) q3.out q4.out (Below.refl _ _) q6.out q7.out ?_; intro v1 wn r1 r2 r3 r4; have m0 := cell_far' (a := ⟨w.heap.size, 0, none⟩) r3 (show w.heap.size < w1.drew.heap.size from el) q8.out (v := .int .i64 0) e0; have m1 := cell_far' (a := ⟨w.heap.size, 1, none⟩) r3 (show w.heap.size < w1.drew.heap.size from el) q8.out (v := .int .i64 0) e1; have m2 := frozen_far' (a := ⟨w.heap.size, 0, none⟩) r3 (show w.heap.size < w1.drew.heap.size from el) q8.out ef0; have m3 := frozen_far' (a := ⟨w.heap.size, 1, none⟩) r3 (show w.heap.size < w1.drew.heap.size from el) q8.out ef1)
      all_goals
        have hX := blk_grown (show w1.drew.heap[w.heap.size]? = some (.cells #[.int .i64 0, .int .i64 0] 26 (0, 0)) from HE1.out) r3 q8.out
        have HX := Lib.hid hX
        have HR9 := Lib.hid r1
        have HB9 : Hid (Below w.heap.size w wn) := Lib.hid (Below.trans (Below.drew HC1.out.bel) r2)
        have HO9 : Hid (∀ k, v1.ownBlock = some k → k ≠ w.heap.size) := Lib.hid (fun k hk => by have := r1.1 k hk; omega)
        clear r1 r2 r3 r4 hX
        go_wp2
        rw [HFN.out]
        refine bodyPost_ret (results_tc rfl _ _ w.heap.size 26 #[.int .i64 0, .int .i64 0] (0, 0) _ rfl (blk_put (blk_put HX.out 0 (cs' := #[.int .i64 0, .int .i64 0]) (.int .i64 0) rfl) 1 (cs' := #[.int .i64 0, .int .i64 0]) (.int .i64 0) rfl) Tryz.underlying26 rfl (by kernel_rfl)) rfl ?_
        refine ⟨v1, rfl, ?_, below_set (below_set HB9.out (Nat.le_refl _)) (Nat.le_refl _)⟩
        rw [List.map_append]
        exact Kd.R_mono (Kd.R_far (p := ⟨w.heap.size, 1, none⟩) (Kd.R_far (p := ⟨w.heap.size, 0, none⟩) HR9.out (fun k hk => by show k ≠ w.heap.size; omega) (.int .i64 0)) (fun k hk => by show k ≠ w.heap.size; omega) (.int .i64 0)) (fun _ _ => trivial)
    · have d1 : ((a : Int) == (s.size : Int)) = false := beq_eq_false_iff_ne.2 (by omega)
      have hrow : w1.heap[w.heap.size + 1 + 1]? = some (.cells (cutsAt (w.heap.size + 1)) 65 (0, 0)) := by
        rw [HC1.out.kp.2 _ (by omega) (by omega) (by simp)]; exact HB5.out
      have hal : (w1.alloc (.cells #[.int .u8 0, .int .i64 a, .int .i64 0] 38)).heap[w.heap.size + 1 + 1]? = some (.cells (cutsAt (w.heap.size + 1)) 65 (0, 0)) := blk_alloc hrow _
      go_wp2_with (first | (refine wpList_load_row rfl 65 _ rfl (w.heap.size + 1 + 1) rfl 65 _ (0, 0) _ hal Tryz.underlying65 rfl (by kernel_rfl) ?_))
      have hlt : a < s.size := by omega
      obtain ⟨c, hc⟩ : ∃ c, (s[a]'hlt) = c := ⟨_, rfl⟩
      have hx : ∀ h : a < s.size, ((s[a]'h).toNat : Int) = (c.toNat : Int) := fun h => by rw [hc]
      have HF := Lib.hid (show from_ s a = c :: from_ s (a + 1) from by rw [from_lt hlt, hc])
      have htbl : W3.heap.size ≤ w1.heap.size := HZ1.out
      have hgt : w.heap.size + 1 ≠ w1.heap.size := by omega
      clear hc hrow hal c0 c1 c2 f1 f2 d1 d0 e0 e1 ef0 ef1 el
      go_loopw [55] (fun v55 wx => ∃ (j kind b : Nat) (bad : Int), j ≤ 3 ∧ v55 = .int .i64 j ∧ Hid (Cu w w1 (w.heap.size + 1) s b bad wx) ∧ Hid (wx.heap[w1.heap.size]? = some (.cells #[.int .u8 kind, .int .i64 a, .int .i64 0] 38 (0, 0))) ∧ Hid (CutSt c (c :: from_ s (a + 1)) a j kind b bad)) (fun v55 _ => 3 - (intOf v55).toNat)
      case atStart => exact ⟨0, 0, a, -1, by omega, rfl, Lib.hid (HC1.out.self.alloc _), Lib.hid (blk_new _ _), Lib.hid (.inl ⟨rfl, rfl, rfl, fun i hi => by omega⟩)⟩
      case round =>
        obtain ⟨j, kind, b, bad, hj, rfl, HCx, HTx, HD⟩ := hrel
        obtain rfl | rfl | rfl | rfl : j = 0 ∨ j = 1 ∨ j = 2 ∨ j = 3 := by omega
        · have k1 : ∀ o, (wr.alloc o).cell? ⟨w1.heap.size, 1, none⟩ = some (.int .i64 a) := fun o => (blk_cell (blk_alloc HTx.out o) 1).trans rfl
          have hix := cut_at0 (w.heap.size + 1)
          by_cases he : sortU c = 2
          · have d2 : ((sortU c : Int) == 2) = true := beq_iff_eq.2 (by omega)
            obtain ⟨rfl, rfl, rfl⟩ : kind = 0 ∧ b = a ∧ bad = -1 := by
              rcases HD.out with ⟨h1, h2, h3, _⟩ | ⟨_, _, h3, _⟩
              · exact ⟨h1, h2, h3⟩
              · omega
            have HCq0 := Lib.hid (HCx.out.alloc (.cells #[.int .i64 2, .func (.func 16) #[.pointer (some ⟨w.heap.size + 1, 0, none⟩)] #[]] 64))
            have HTq0 := Lib.hid (blk_alloc HTx.out (.cells #[.int .i64 2, .func (.func 16) #[.pointer (some ⟨w.heap.size + 1, 0, none⟩)] #[]] 64))
            go_wp2
            go_quiet (first | (go_at_call 20; (with_reducible refine (of_d c _).mono ?_); rintro e w' ⟨rfl, ⟨nd, rfl⟩⟩; (try first | exact ⟨rfl, _, World.drewN_drewN _ _ _⟩ | exact ⟨rfl, _, Eq.trans (World.drewN_drewN _ _ _) (congrArg (World.drewN _) (Nat.add_assoc _ _ _))⟩)))
            go_wp2_with fail
            have HCq := Lib.hid (HCq0.out.drewN nq)
            have HTq := Lib.hid (blk_drewN HTq0.out nq)
            clear HCq0 HTq0 k1 hix
            refine (name_e HF.out he HCq.out.self (by omega) hs6).mono ?_
            change ∀ e w', CutEnds w ((wr.alloc (.cells #[.int .i64 2, .func (.func 16) #[.pointer (some ⟨w.heap.size + 1, 0, none⟩)] #[]] 64)).drewN nq) (w.heap.size + 1) s b (cutL (c :: from_ s (b + 1))) e w' → _
            generalize ((wr.alloc (.cells #[.int .i64 2, .func (.func 16) #[.pointer (some ⟨w.heap.size + 1, 0, none⟩)] #[]] 64)).drewN nq) = wq at HCq HTq ⊢
            intro e w' hE
            obtain ⟨kk, b', bad', hk0, rfl, hcu, hst⟩ := cut_un hE
            have hT' := hcu.kp.blk HTq.out hgt.symm (by simp)
            have tf := blk_frozen hT' 0
            have tc := (blk_cell hT' 0).trans rfl
            have tl := blk_lt hT'
            have HCn := Lib.hid ((HCq.out.after hcu).other hgt (by omega) (Nat.le_refl _) 0 (.int .u8 kk))
            have HTn := Lib.hid (blk_put hT' 0 (cs' := #[.int .u8 kk, .int .i64 b, .int .i64 0]) (.int .u8 kk) rfl)
            have HDn : Hid (CutSt c (c :: from_ s (b + 1)) b 1 kk b' bad') := Lib.hid (.inr ⟨hk0, by omega, by omega, hst⟩)
            clear hcu hst hE hT'
            go_wp2
            go_roundw
            case rel => exact ⟨1, kk, b', bad', by omega, by go_num, HCn, HTn, HDn⟩
            case measure => simp [intOf]
          · have d2 : ((sortU c : Int) == 2) = false := beq_eq_false_iff_ne.2 (by omega)
            have HCq0 := Lib.hid (HCx.out.alloc (.cells #[.int .i64 2, .func (.func 16) #[.pointer (some ⟨w.heap.size + 1, 0, none⟩)] #[]] 64))
            have HTq0 := Lib.hid (blk_alloc HTx.out (.cells #[.int .i64 2, .func (.func 16) #[.pointer (some ⟨w.heap.size + 1, 0, none⟩)] #[]] 64))
            have HDn := Lib.hid (HD.out.no he)
            go_wp2
            go_quiet (first | (go_at_call 20; (with_reducible refine (of_d c _).mono ?_); rintro e w' ⟨rfl, ⟨nd, rfl⟩⟩; (try first | exact ⟨rfl, _, World.drewN_drewN _ _ _⟩ | exact ⟨rfl, _, Eq.trans (World.drewN_drewN _ _ _) (congrArg (World.drewN _) (Nat.add_assoc _ _ _))⟩)))
            have HCq := Lib.hid (HCq0.out.drewN nq)
            have HTq := Lib.hid (blk_drewN HTq0.out nq)
            go_wp2
            go_roundw
            case rel => exact ⟨1, kind, b, bad, by omega, by go_num, HCq, HTq, HDn⟩
            case measure => simp [intOf]
        · have k1 : ∀ o, (wr.alloc o).cell? ⟨w1.heap.size, 1, none⟩ = some (.int .i64 a) := fun o => (blk_cell (blk_alloc HTx.out o) 1).trans rfl
          have hix := cut_at1 (w.heap.size + 1)
          by_cases he : sortU c = 3
          · have d2 : ((sortU c : Int) == 3) = true := beq_iff_eq.2 (by omega)
            obtain ⟨rfl, rfl, rfl⟩ : kind = 0 ∧ b = a ∧ bad = -1 := by
              rcases HD.out with ⟨h1, h2, h3, _⟩ | ⟨_, _, h3, _⟩
              · exact ⟨h1, h2, h3⟩
              · omega
            have HCq0 := Lib.hid (HCx.out.alloc (.cells #[.int .i64 3, .func (.func 17) #[.pointer (some ⟨w.heap.size + 1, 0, none⟩)] #[]] 64))
            have HTq0 := Lib.hid (blk_alloc HTx.out (.cells #[.int .i64 3, .func (.func 17) #[.pointer (some ⟨w.heap.size + 1, 0, none⟩)] #[]] 64))
            go_wp2
            go_quiet (first | (go_at_call 20; (with_reducible refine (of_d c _).mono ?_); rintro e w' ⟨rfl, ⟨nd, rfl⟩⟩; (try first | exact ⟨rfl, _, World.drewN_drewN _ _ _⟩ | exact ⟨rfl, _, Eq.trans (World.drewN_drewN _ _ _) (congrArg (World.drewN _) (Nat.add_assoc _ _ _))⟩)))
            go_wp2_with fail
            have HCq := Lib.hid (HCq0.out.drewN nq)
            have HTq := Lib.hid (blk_drewN HTq0.out nq)
            clear HCq0 HTq0 k1 hix
            refine (literal_e HF.out he HCq.out.self (by omega) hs6).mono ?_
            change ∀ e w', CutEnds w ((wr.alloc (.cells #[.int .i64 3, .func (.func 17) #[.pointer (some ⟨w.heap.size + 1, 0, none⟩)] #[]] 64)).drewN nq) (w.heap.size + 1) s b (cutL (c :: from_ s (b + 1))) e w' → _
            generalize ((wr.alloc (.cells #[.int .i64 3, .func (.func 17) #[.pointer (some ⟨w.heap.size + 1, 0, none⟩)] #[]] 64)).drewN nq) = wq at HCq HTq ⊢
            intro e w' hE
            obtain ⟨kk, b', bad', hk0, rfl, hcu, hst⟩ := cut_un hE
            have hT' := hcu.kp.blk HTq.out hgt.symm (by simp)
            have tf := blk_frozen hT' 0
            have tc := (blk_cell hT' 0).trans rfl
            have tl := blk_lt hT'
            have HCn := Lib.hid ((HCq.out.after hcu).other hgt (by omega) (Nat.le_refl _) 0 (.int .u8 kk))
            have HTn := Lib.hid (blk_put hT' 0 (cs' := #[.int .u8 kk, .int .i64 b, .int .i64 0]) (.int .u8 kk) rfl)
            have HDn : Hid (CutSt c (c :: from_ s (b + 1)) b 2 kk b' bad') := Lib.hid (.inr ⟨hk0, by omega, by omega, hst⟩)
            clear hcu hst hE hT'
            go_wp2
            go_roundw
            case rel => exact ⟨2, kk, b', bad', by omega, by go_num, HCn, HTn, HDn⟩
            case measure => simp [intOf]
          · have d2 : ((sortU c : Int) == 3) = false := beq_eq_false_iff_ne.2 (by omega)
            have HCq0 := Lib.hid (HCx.out.alloc (.cells #[.int .i64 3, .func (.func 17) #[.pointer (some ⟨w.heap.size + 1, 0, none⟩)] #[]] 64))
            have HTq0 := Lib.hid (blk_alloc HTx.out (.cells #[.int .i64 3, .func (.func 17) #[.pointer (some ⟨w.heap.size + 1, 0, none⟩)] #[]] 64))
            have HDn := Lib.hid (HD.out.no he)
            go_wp2
            go_quiet (first | (go_at_call 20; (with_reducible refine (of_d c _).mono ?_); rintro e w' ⟨rfl, ⟨nd, rfl⟩⟩; (try first | exact ⟨rfl, _, World.drewN_drewN _ _ _⟩ | exact ⟨rfl, _, Eq.trans (World.drewN_drewN _ _ _) (congrArg (World.drewN _) (Nat.add_assoc _ _ _))⟩)))
            have HCq := Lib.hid (HCq0.out.drewN nq)
            have HTq := Lib.hid (blk_drewN HTq0.out nq)
            go_wp2
            go_roundw
            case rel => exact ⟨2, kind, b, bad, by omega, by go_num, HCq, HTq, HDn⟩
            case measure => simp [intOf]
        · have k1 : ∀ o, (wr.alloc o).cell? ⟨w1.heap.size, 1, none⟩ = some (.int .i64 a) := fun o => (blk_cell (blk_alloc HTx.out o) 1).trans rfl
          have hix := cut_at2 (w.heap.size + 1)
          by_cases he : sortU c = 4
          · have d2 : ((sortU c : Int) == 4) = true := beq_iff_eq.2 (by omega)
            obtain ⟨rfl, rfl, rfl⟩ : kind = 0 ∧ b = a ∧ bad = -1 := by
              rcases HD.out with ⟨h1, h2, h3, _⟩ | ⟨_, _, h3, _⟩
              · exact ⟨h1, h2, h3⟩
              · omega
            have HCq0 := Lib.hid (HCx.out.alloc (.cells #[.int .i64 4, .func (.func 18) #[.pointer (some ⟨w.heap.size + 1, 0, none⟩)] #[]] 64))
            have HTq0 := Lib.hid (blk_alloc HTx.out (.cells #[.int .i64 4, .func (.func 18) #[.pointer (some ⟨w.heap.size + 1, 0, none⟩)] #[]] 64))
            go_wp2
            go_quiet (first | (go_at_call 20; (with_reducible refine (of_d c _).mono ?_); rintro e w' ⟨rfl, ⟨nd, rfl⟩⟩; (try first | exact ⟨rfl, _, World.drewN_drewN _ _ _⟩ | exact ⟨rfl, _, Eq.trans (World.drewN_drewN _ _ _) (congrArg (World.drewN _) (Nat.add_assoc _ _ _))⟩)))
            go_wp2_with fail
            have HCq := Lib.hid (HCq0.out.drewN nq)
            have HTq := Lib.hid (blk_drewN HTq0.out nq)
            clear HCq0 HTq0 k1 hix
            refine (sign_e HF.out he HCq.out.self (by omega) hs6).mono ?_
            change ∀ e w', CutEnds w ((wr.alloc (.cells #[.int .i64 4, .func (.func 18) #[.pointer (some ⟨w.heap.size + 1, 0, none⟩)] #[]] 64)).drewN nq) (w.heap.size + 1) s b (cutL (c :: from_ s (b + 1))) e w' → _
            generalize ((wr.alloc (.cells #[.int .i64 4, .func (.func 18) #[.pointer (some ⟨w.heap.size + 1, 0, none⟩)] #[]] 64)).drewN nq) = wq at HCq HTq ⊢
            intro e w' hE
            obtain ⟨kk, b', bad', hk0, rfl, hcu, hst⟩ := cut_un hE
            have hT' := hcu.kp.blk HTq.out hgt.symm (by simp)
            have tf := blk_frozen hT' 0
            have tc := (blk_cell hT' 0).trans rfl
            have tl := blk_lt hT'
            have HCn := Lib.hid ((HCq.out.after hcu).other hgt (by omega) (Nat.le_refl _) 0 (.int .u8 kk))
            have HTn := Lib.hid (blk_put hT' 0 (cs' := #[.int .u8 kk, .int .i64 b, .int .i64 0]) (.int .u8 kk) rfl)
            have HDn : Hid (CutSt c (c :: from_ s (b + 1)) b 3 kk b' bad') := Lib.hid (.inr ⟨hk0, by omega, by omega, hst⟩)
            clear hcu hst hE hT'
            go_wp2
            go_roundw
            case rel => exact ⟨3, kk, b', bad', by omega, by go_num, HCn, HTn, HDn⟩
            case measure => simp [intOf]
          · have d2 : ((sortU c : Int) == 4) = false := beq_eq_false_iff_ne.2 (by omega)
            have HCq0 := Lib.hid (HCx.out.alloc (.cells #[.int .i64 4, .func (.func 18) #[.pointer (some ⟨w.heap.size + 1, 0, none⟩)] #[]] 64))
            have HTq0 := Lib.hid (blk_alloc HTx.out (.cells #[.int .i64 4, .func (.func 18) #[.pointer (some ⟨w.heap.size + 1, 0, none⟩)] #[]] 64))
            have HDn := Lib.hid (HD.out.no he)
            go_wp2
            go_quiet (first | (go_at_call 20; (with_reducible refine (of_d c _).mono ?_); rintro e w' ⟨rfl, ⟨nd, rfl⟩⟩; (try first | exact ⟨rfl, _, World.drewN_drewN _ _ _⟩ | exact ⟨rfl, _, Eq.trans (World.drewN_drewN _ _ _) (congrArg (World.drewN _) (Nat.add_assoc _ _ _))⟩)))
            have HCq := Lib.hid (HCq0.out.drewN nq)
            have HTq := Lib.hid (blk_drewN HTq0.out nq)
            go_wp2
            go_roundw
            case rel => exact ⟨3, kind, b, bad, by omega, by go_num, HCq, HTq, HDn⟩
            case measure => simp [intOf]
        · have t0 := (blk_cell HTx.out 0).trans rfl
          have t1 := (blk_cell HTx.out 1).trans rfl
          have t2 := (blk_cell HTx.out 2).trans rfl
          have tf2 := blk_frozen HTx.out 2
          have tl := blk_lt HTx.out
          obtain ⟨c0, c1, c2, f1, f2⟩ := HCx.out.cells
          have hE1 : wr.heap[w.heap.size]? = some (.cells #[.int .i64 0, .int .i64 0] 26 (0, 0)) := by
            rw [HCx.out.kp.2 _ (by omega) (by omega) (by simp)]; exact HE1.out
          have e0 : wr.cell? ⟨w.heap.size, 0, none⟩ = some (.int .i64 0) := (blk_cell hE1 0).trans rfl
          have e1 : wr.cell? ⟨w.heap.size, 1, none⟩ = some (.int .i64 0) := (blk_cell hE1 1).trans rfl
          have ef0 := blk_frozen hE1 0
          have ef1 := blk_frozen hE1 1
          have el := blk_lt hE1
          have HX1 := Lib.hid hE1
          have hdrop : (from_ s p).drop (skipL false (from_ s p)) = c :: from_ s (a + 1) := by rw [HK.out, from_drop, HA.out]; exact HF.out
          have HDR := Lib.hid hdrop
          clear hE1 hdrop
          rcases HD.out with ⟨rfl, rfl, rfl, hno⟩ | ⟨hk0, hs2, hs3, hst⟩
          · have hfin : m = .error b := by
              have hcl := cutL_o (c := c) (t := from_ s (b + 1)) (hno 0 (by omega)) (hno 1 (by omega)) (hno 2 (by omega))
              have := scanL_err (f := k) (at_ := p) (acc := acc) HDR.out hcl
              rw [HS.out, HK.out, HA.out] at this
              exact Option.some.inj this
            have HFN := Lib.hid hfin
            have d3 : decide ((b : Int) ≥ 0) = true := decide_eq_true (by omega)
            clear hno hfin
            go_wp2_with fail
            go_region
            all_goals
              go_wp2
              rw [HFN.out]
              refine bodyPost_ret (results_tc rfl _ _ w.heap.size 26 #[.int .i64 120, .int .i64 (b : Int)] (0, 0) _ rfl (blk_drew (blk_put (blk_put (blk_far HX1.out (p := ⟨w.heap.size + 1, 2, none⟩) hge.symm (.int .i64 (b : Int))) 0 (cs' := #[.int .i64 120, .int .i64 0]) (.int .i64 120) rfl) 1 (cs' := #[.int .i64 120, .int .i64 (b : Int)]) (.int .i64 (b : Int)) rfl)) Tryz.underlying26 rfl (by kernel_rfl)) rfl ?_
              exact ⟨rfl, Below.drew (below_set (below_set (below_set HCx.out.bel (by omega)) (Nat.le_refl _)) (Nat.le_refl _))⟩
          · cases hcut : cutL (c :: from_ s (a + 1)) with
            | error n =>
              rw [hcut] at hst
              obtain ⟨q, hq⟩ : ∃ q, a + n = q := ⟨_, rfl⟩
              have hbad : bad = ((a + n : Nat) : Int) := hst
              rw [hq] at hbad
              subst hbad
              have hfin : m = .error q := by
                have := scanL_err (f := k) (at_ := p) (acc := acc) HDR.out hcut
                rw [HS.out, HK.out, HA.out, hq] at this
                exact Option.some.inj this
              have HFN := Lib.hid hfin
              have d3 : decide ((q : Int) ≥ 0) = true := decide_eq_true (by omega)
              have d4 : ((kind : Int) == 0) = false := beq_eq_false_iff_ne.2 (by omega)
              clear hfin hst hcut hq
              go_wp2_with fail
              go_region
              all_goals
                go_wp2
                rw [HFN.out]
                refine bodyPost_ret (results_tc rfl _ _ w.heap.size 26 #[.int .i64 120, .int .i64 (q : Int)] (0, 0) _ rfl (blk_drew (blk_put (blk_put HX1.out 0 (cs' := #[.int .i64 120, .int .i64 0]) (.int .i64 120) rfl) 1 (cs' := #[.int .i64 120, .int .i64 (q : Int)]) (.int .i64 (q : Int)) rfl)) Tryz.underlying26 rfl (by kernel_rfl)) rfl ?_
                exact ⟨rfl, Below.drew (below_set (below_set HCx.out.bel (Nat.le_refl _)) (Nat.le_refl _))⟩
            | ok kn =>
              obtain ⟨k2, n⟩ := kn
              rw [hcut] at hst
              obtain ⟨rfl, rfl, hbn⟩ : kind = k2 ∧ bad = -1 ∧ b = a + n := hst
              have hnext := scanL_ok (f := k) (at_ := p) (acc := acc) HDR.out hcut
              rw [HS.out, HK.out, HA.out, ← HF.out, from_drop, ← hbn] at hnext
              have d3 : decide ((-1 : Int) ≥ 0) = false := by decide
              have d4 : ((kind : Int) == 0) = false := beq_eq_false_iff_ne.2 (by omega)
              have hln := (cutL_len _ _ _ hcut).1
              rw [← HF.out, from_len] at hln
              obtain ⟨txt, htxt⟩ : ∃ l, (from_ s a).take n = l := ⟨_, rfl⟩
              rw [htxt] at hnext
              have HNX := Lib.hid hnext
              have hbs : b ≤ s.size := by omega
              clear hnext hcut htxt hln hbn
              have HC2 := Lib.hid (((HC1.out.after HCx.out).other (b := w1.heap.size) hgt (by omega) htbl 2 (.int .i64 (b : Int))))
              have HT2 := Lib.hid (blk_put HTx.out 2 (cs' := #[.int .u8 kind, .int .i64 a, .int .i64 b]) (.int .i64 (b : Int)) rfl)
              have HR2 := Lib.hid (Kd.R_mono (Kd.R_far (p := ⟨w1.heap.size, 2, none⟩) (Kd.R_keep (Kd.R_mono (Kd.R_bound HR1.out) (fun k hk => (⟨hk.1, hk.2.2.1⟩ : W3.heap.size ≤ k ∧ k < w1.heap.size))) HCx.out.kp (fun k hk => by omega)) (fun k hk => by show k ≠ w1.heap.size; omega) (.int .i64 (b : Int))) (fun k hk => hk.1))
              have hsz : w1.heap.size < (wr.setCell ⟨w1.heap.size, 2, none⟩ (.int .i64 (b : Int))).heap.size := by simpa [World.setCell] using tl
              go_upto_region 21 with fail
              generalize wr.setCell ⟨w1.heap.size, 2, none⟩ (.int .i64 (b : Int)) = wd at HC2 HT2 HR2 hsz ⊢
              clear t0 t1 t2 tf2 tl c0 c1 c2 f1 f2 e0 e1 ef0 ef1 el
              have t0 := (blk_cell HT2.out 0).trans rfl
              have t1 := (blk_cell HT2.out 1).trans rfl
              have t2 := (blk_cell HT2.out 2).trans rfl
              go_wp2_with (refine append_list k38 wd wd w.heap.size rfl (.tmp 94) (.tmp 96) 23 38 rfl (.agg #[.int .u8 0, .int .i64 0, .int .i64 0]) 24 Tryz.underlying23 (by kernel_rfl) rfl (by decide) (by decide) u6 (acc.reverse.map tk) (tk ⟨kind, a, b, txt⟩) [.int .u8 kind, .int .i64 a, .int .i64 b] (fun k => W3.heap.size ≤ k) (fun _ => False) _ rfl rfl (by simp [Act.eval]) (by simp [Act.eval]) (k38_mkM _ _ _ (tk ⟨kind, a, b, txt⟩)) (fun _ h => h.elim) (fun k hk => by omega) HR2.out (Below.refl _ _) (by omega) (by rw [List.length_map, List.length_reverse]; omega) ?_; intro v1 wn r1 r2 r3 r4)
              have HCn := Lib.hid (HC2.out.grown (fun k hk => HR2.out.1 k hk) (fun e => by have := HR2.out.1 _ e.symm; omega) r2 r3)
              have HRn := Lib.hid (show Kd.R k38 38 wn w.heap.size (fun k => W3.heap.size ≤ k) v1 ((⟨kind, a, b, txt⟩ :: acc : List Tok).reverse.map tk) from by rw [List.reverse_cons, List.map_append]; exact r1)
              have HZn : Hid (W3.heap.size ≤ wn.heap.size) := Lib.hid (HCn.out.kp.1)
              clear r1 r2 r3 r4
              go_wp2
              go_roundg k
              case measure => omega
              case rel => exact ⟨b, ⟨kind, a, b, txt⟩ :: acc, hbs, by simp only [List.length_cons]; omega, HCn, HRn, Lib.hid HNX.out.symm, HZn⟩

theorem scan_ok : ScanOK := by
  intro s m w hm
  unfold scan at hm
  cases hb : Nat.ble s.data.toList.length 65536
  · rw [hb] at hm
    simp only [cond_false, Option.some.injEq] at hm
    subst hm
    refine scan_long s w ?_
    rw [← Bool.not_eq_true, Nat.ble_eq, Array.length_toList] at hb
    exact Nat.lt_of_not_le hb
  · rw [hb] at hm
    have hs : s.size ≤ 65536 := by
      rw [Nat.ble_eq, Array.length_toList] at hb
      exact hb
    simp only [cond_true] at hm
    cases hl : scanL (s.data.toList.length + 1) 0 s.data.toList [] with
    | none => rw [hl] at hm; cases hm
    | some r =>
      have hf : s.data.toList.length + 1 ≤ 65537 := by
        rw [Array.length_toList]
        show s.size + 1 ≤ 65537
        omega
      have hg := scan_go s w hs r _ hf hl
      rw [hl] at hm
      cases r with
      | error n =>
        simp only [Option.some.injEq] at hm
        subst hm
        exact hg
      | ok l =>
        simp only [Option.some.injEq] at hm
        subst hm
        exact hg

end Go.Proofs.YtgplgmjnhkhbjaaGreatDoor
