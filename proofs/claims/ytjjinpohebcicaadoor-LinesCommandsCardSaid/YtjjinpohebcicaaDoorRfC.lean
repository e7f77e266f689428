/-
  The walk of the document's Command.
-/
import Derived.Test.YtjjinpohebcicaaDoorJB
import Derived.Test.YtjjinpohebcicaaDoorWkC
set_option linter.unusedSimpArgs false
set_option linter.unusedVariables false
namespace Go.Proofs.YtjjinpohebcicaaDoor
open Go.RowKit Ln Go.Proofs.YtjjinpohebcicaaDoorW.PrintWords

theorem WRs.len {s : ByteArray} {xs ys : List (Nat × Nat × Bool)} (h : WRs s xs ys) : xs.length = ys.length := by
  induction h with
  | nil => rfl
  | cons _ _ ih => simp [ih]
theorem WRs.get {s : ByteArray} {xs ys : List (Nat × Nat × Bool)} (h : WRs s xs ys) : ∀ (i : Nat) (hi : i < xs.length), ∃ x y, xs[i]? = some x ∧ ys[i]? = some y ∧ WR s x y ∧ ys.drop i = y :: ys.drop (i + 1) := by
  induction h with
  | nil => intro i hi; simp at hi
  | @cons x y xs ys hx h ih =>
    intro i hi
    cases i with
    | zero => exact ⟨x, y, rfl, rfl, hx, rfl⟩
    | succ i =>
      obtain ⟨x', y', h1, h2, h3, h4⟩ := ih i (by simpa using hi)
      exact ⟨x', y', by simpa using h1, by simpa using h2, h3, by simpa using h4⟩

theorem cg_nil (s : ByteArray) (K : Nat) (acc : List ByteArray) : cmdGo s K [] acc = if acc.length < (formOf K).length then bad s.size else (K, acc, 0, 0) := rfl
theorem cg_bad (s : ByteArray) (K : Nat) (y : Nat × Nat × Bool) (r : List (Nat × Nat × Bool)) (acc : List ByteArray)
    (hb : ¬ ((acc.length < (formOf K).length ∨ K = 3) ∧ y.2.2 = true ∧ fitM (sub s y.1 y.2.1).data.toList (((formOf K).getD acc.length 105).toNat : Int) = true)) : cmdGo s K (y :: r) acc = bad y.1 := by
  obtain ⟨a, e, ok⟩ := y
  simp only [cmdGo]
  by_cases h1 : acc.length < (formOf K).length ∨ K = 3
  · rw [if_pos h1, if_neg (fun h2 => hb ⟨h1, h2⟩)]
  · rw [if_neg h1]
theorem cg_on (s : ByteArray) (K : Nat) (y : Nat × Nat × Bool) (r : List (Nat × Nat × Bool)) (acc : List ByteArray)
    (h1 : acc.length < (formOf K).length ∨ K = 3) (h2 : y.2.2 = true) (hf : fitM (sub s y.1 y.2.1).data.toList (((formOf K).getD acc.length 105).toNat : Int) = true) : cmdGo s K (y :: r) acc = cmdGo s K r (acc ++ [sub s y.1 y.2.1]) := by
  obtain ⟨a, e, ok⟩ := y
  simp only [cmdGo]
  rw [if_pos h1, if_pos ⟨h2, hf⟩]
theorem cm_bad (s : ByteArray) (y : Nat × Nat × Bool) (r : List (Nat × Nat × Bool)) (hw : wordsF s 0 = y :: r) (h : ¬ (y.2.2 = true ∧ kindOf (sub s y.1 y.2.1).data.toList ≠ 0)) : cmdM s = bad y.1 := by
  obtain ⟨a, e, ok⟩ := y
  unfold cmdM; rw [hw]; simp only []; rw [if_neg h]
theorem cm_go (s : ByteArray) (y : Nat × Nat × Bool) (r : List (Nat × Nat × Bool)) (hw : wordsF s 0 = y :: r) (h : y.2.2 = true ∧ kindOf (sub s y.1 y.2.1).data.toList ≠ 0) : cmdM s = cmdGo s (kindOf (sub s y.1 y.2.1).data.toList) r [] := by
  obtain ⟨a, e, ok⟩ := y
  unfold cmdM; rw [hw]; simp only []; rw [if_pos h]

theorem form_last (K : Nat) (h1 : 1 ≤ K) (h7 : K < 7) : (formR K).length = (formOf K).length + (if K = 3 then 1 else 0) ∧ 1 ≤ (formOf K).length ∧ (((formR K).getD ((formR K).length - 1) 0 = 43) ↔ K = 3) ∧ (∀ i, i < (formOf K).length → (formR K).getD i 0 = (formOf K).getD i 105) ∧ (∀ i, i < (formOf K).length → (formOf K).getD i 105 = 110 ∨ (formOf K).getD i 105 = 116 ∨ (formOf K).getD i 105 = 105) := by
  match K, h1, h7 with
  | 1, _, _ => exact ⟨rfl, by decide, by decide, by decide, by decide⟩
  | 2, _, _ => exact ⟨rfl, by decide, by decide, by decide, by decide⟩
  | 3, _, _ => exact ⟨rfl, by decide, by decide, by decide, by decide⟩
  | 4, _, _ => exact ⟨rfl, by decide, by decide, by decide, by decide⟩
  | 5, _, _ => exact ⟨rfl, by decide, by decide, by decide, by decide⟩
  | 6, _, _ => exact ⟨rfl, by decide, by decide, by decide, by decide⟩
theorem byte_at (F : ByteArray) (l : List UInt8) (hF : F = ⟨l.toArray⟩) (i : Nat) (h : i < F.size) : ((F[i]'h).toNat : Int) = ((l.getD i 0).toNat : Int) := by
  subst hF
  have h' : i < l.length := by simpa [ByteArray.size] using h
  rw [List.getD_eq_getElem?_getD, List.getElem?_eq_getElem h', Option.getD_some]
  simp [ByteArray.getElem_eq_getElem_data]

theorem kinds_q (s : ByteArray) (K : Nat) (F : ByteArray) (w : World) (hK : kindOf s.data.toList = K) (hF : F = ⟨(formR K).toArray⟩) :
    Calls Tryd.prog 27 #[.string s] w fun e w' => e = .returned (.tuple #[.int .u8 K, .string F]) ∧ ∃ m, w' = w.drewN m :=
  (kinds_w s K F w hK hF).mono fun _ _ h => ⟨h.1, h.2.out⟩

set_option maxRecDepth 100000 in
set_option maxHeartbeats 2000000 in
theorem rcommand_w (s : ByteArray) (w : World) (hs : s.size ≤ 1000000) :
    Calls Tryd.prog 10 #[.string s] w fun e w' => ∃ v, e = .returned (.tuple #[.int .u8 ((cmdM s).1 : Nat), v, .agg #[.int .i64 (cmdM s).2.2.1, .int .i64 ((cmdM s).2.2.2 : Nat)]]) ∧ Kd.R Kd.string 9 w' w.heap.size (fun _ => True) v (cmdM s).2.1 ∧ Below w.heap.size w w' := by
  have hk0 := new_block w (.cells #[.int .i64 0, .int .i64 0] 27)
  have hb0 := below_alloc (Below.refl w.heap.size w) (.cells #[.int .i64 0, .int .i64 0] 27)
  have HK0 := Lib.hid hk0
  have HB0 := Lib.hid hb0
  clear hk0 hb0
  go_enter Tryd.func10, Tryd.ntmps10
  go_wp2_with fail
  with_reducible refine (words_w s _ hs).mono ?_
  rintro e w1 ⟨v, xs, rfl, hr, hwr, hxs, hb1⟩
  have hk1 : w1.heap[w.heap.size]? = some (.cells #[.int .i64 0, .int .i64 0] 27 (0, 0)) := by
    rw [hb1.block _ (Array.getElem?_eq_some_iff.1 HK0.out).1]; exact HK0.out
  have hbw1 := HB0.out.trans (hb1.mono HB0.out.size)
  generalize (w.alloc (.cells #[.int .i64 0, .int .i64 0] 27)) = w0 at *
  obtain ⟨A, cp, rfl⟩ := Kd.R_slice hr
  have HWR := Lib.hid hwr
  have HRW := Lib.hid hr
  have HK1 := Lib.hid hk1
  have HB1 := Lib.hid hbw1
  have HLen := Lib.hid hwr.len
  clear hwr hr hk1 hbw1 hb1 HK0 HB0
  by_cases hn0 : xs.length = 0
  · have hx0 : xs = [] := List.length_eq_zero_iff.1 hn0
    subst hx0
    have HQ : Hid (cmdM s = bad 0) := Lib.hid (by
      have : wordsF s 0 = [] := List.length_eq_zero_iff.1 (by rw [← HLen.out]; rfl)
      unfold cmdM; rw [this])
    have hky := HK1.out
    have hby := HB1.out
    clear hn0
    go_wp2_with fail
    with_reducible refine (fault_w 0 _).mono ?_
    rintro e w4 ⟨rfl, hb4⟩
    have hk4 : w4.heap[w.heap.size]? = some (.cells #[.int .i64 0, .int .i64 0] 27 (0, 0)) := by rw [hb4.block _ (Array.getElem?_eq_some_iff.1 hky).1]; exact hky
    have hb5 := hby.trans (hb4.mono hby.size)
    clear hb4 hky hby
    obtain ⟨c0, c1, f0, f1, hz⟩ := own_two hk4
    go_wp2
    exact bodyPost_ret (v := .tuple #[.int .u8 0, .slice none 0 0, .agg #[.int .i64 410, .int .i64 0]]) (by simp [results, Tryd.results10, go_sem, c0, c1, hz]) rfl ⟨.slice none 0 0, by rw [HQ.out]; rfl, by rw [HQ.out]; exact Kd.R_nil _ _ _ _ _, by repeat (first | exact hb5 | refine below_set ?_ (Nat.le_refl _))⟩
  · have hpos : 0 < xs.length := by omega
    have dn : ((xs.length : Int) == 0) = false := beq_eq_false_iff_ne.2 (by omega)
    clear hn0
    obtain ⟨g, cp2, hv, hgl, hcells⟩ := kw_at HRW.out hpos
    injection hv with hA hA2 hA3
    subst hA
    subst hA3
    obtain ⟨x, y, hx, hy, hxy, hdr⟩ := HWR.out.get 0 hpos
    obtain ⟨xa, xe, xb⟩ := x
    obtain ⟨ya, ye, yo⟩ := y
    obtain ⟨q1, q2, q3, q4, q5⟩ := hxy
    simp only at q1 q2 q3 q4 q5
    subst q1
    obtain ⟨c0, c1, c2⟩ := hcells 0 _ hx
    simp only [Nat.zero_mul, Nat.zero_add] at c0 c1 c2
    obtain ⟨K, hK⟩ : ∃ K, kindOf (sub s xa xe).data.toList = K := ⟨_, rfl⟩
    obtain ⟨F, hF⟩ : ∃ F : ByteArray, F = ⟨(formR K).toArray⟩ := ⟨_, rfl⟩
    have HKd := Lib.hid hK
    have HFd := Lib.hid hF
    have HWf := Lib.hid (show wordsF s 0 = (xa, ye, yo) :: (wordsF s 0).drop 1 from hdr)
    have HC := Lib.hid hcells
    have hK7 : K < 7 := hK ▸ kindOf_lt _
    have hq4 : xa ≤ xe := by omega
    clear hx hy hdr hK hF hcells q4
    go_wp2_with fail
    go_quiet ((go_at_call 27; exact Calls.quiet_of (kinds_q _ K F _ HKd.out HFd.out)))
    by_cases hgood : yo = true ∧ K ≠ 0
    · obtain ⟨rfl, hK0⟩ := hgood
      have hxb : xb = false := q2
      subst hxb
      have hxe : xe = ye := q3 rfl
      subst hxe
      have dk : ((K : Int) == 0) = false := beq_eq_false_iff_ne.2 (by omega)
      have hk1 : 1 ≤ K := by omega
      have HM := Lib.hid (show cmdM s = cmdGo s K ((wordsF s 0).drop 1) [] from by
        have := cm_go s _ _ HWf.out ⟨rfl, by rw [HKd.out]; exact hK0⟩
        rw [this, HKd.out])
      obtain ⟨hf1, hf2, hf3, hf4, hf5⟩ := form_last K hk1 hK7
      have hFs : F.size = (formOf K).length + (if K = 3 then 1 else 0) := by rw [← hf1, HFd.out]; simp [ByteArray.size]
      have hF1 : 1 ≤ F.size := by omega
      have hF5 : F.size ≤ 5 := by rw [HFd.out]; simp only [ByteArray.size, List.size_toArray]; match K, hk1, hK7 with | 1, _, _ | 2, _, _ | 3, _, _ | 4, _, _ | 5, _, _ | 6, _, _ => decide
      have HFX := Lib.hid (byte_at F _ HFd.out)
      have HF3 := Lib.hid hf3
      have HF4 := Lib.hid hf4
      have HF5 := Lib.hid hf5
      have HFS := Lib.hid hFs
      have HFL := Lib.hid (show (formR K).length = F.size from by rw [HFd.out]; simp [ByteArray.size])
      have HKN := Lib.hid hK0
      clear hf1 hf2 hf3 hf4 hf5 hFs hK0 q2 q3
      go_wp2
      clear c0 c1 c2
      go_loopw [8, 9] (fun v8 v9 wx => ∃ (i : Nat) (acc : List ByteArray), v9 = .int .i64 i ∧ 1 ≤ i ∧ i ≤ xs.length ∧ acc.length + 1 = i ∧ Hid (Kd.R Kd.string 9 wx w1.heap.size (fun _ => True) v8 acc) ∧ Hid (Below w1.heap.size w1 wx) ∧ Hid (cmdGo s K ((wordsF s 0).drop i) acc = cmdM s)) (fun _ v9 _ => xs.length - (intOf v9).toNat)
      case atStart => exact ⟨1, [], rfl, Nat.le_refl _, hpos, rfl, Lib.hid (Kd.R_nil _ _ _ _ _), Lib.hid (pw_below_drewN (Below.refl _ _) _), Lib.hid HM.out.symm⟩
      case round =>
        obtain ⟨i, acc, rfl, hi1, hin, hai, HR2, HB2, HQ0⟩ := hrel
        obtain ⟨A2, cp3, rfl⟩ := Kd.R_slice HR2.out
        have hgB : w.heap.size < w1.heap.size := (Array.getElem?_eq_some_iff.1 HK1.out).1
        have hky : wr.heap[w.heap.size]? = some (.cells #[.int .i64 0, .int .i64 0] 27 (0, 0)) := by rw [HB2.out.block _ hgB]; exact HK1.out
        have hby : Below w.heap.size w wr := HB1.out.trans (HB2.out.mono HB1.out.size)
        by_cases hin2 : i < xs.length
        · subst hai
          obtain ⟨x, y, hx, hy, hxy, hdr⟩ := HWR.out.get (acc.length + 1) hin2
          obtain ⟨ua, ue, ub⟩ := x
          obtain ⟨va, vy, vo⟩ := y
          obtain ⟨p1, p2, p3, p4, p5⟩ := hxy
          simp only at p1 p2 p3 p4 p5
          subst p1
          have HDR := Lib.hid hdr
          obtain ⟨c0, c1, c2⟩ := HC.out _ _ hx
          have c0 := (HB2.out.cell (p := ⟨g, (acc.length + 1) * 3, none⟩) hgl).trans c0
          have c1 := (HB2.out.cell (p := ⟨g, (acc.length + 1) * 3 + 1, none⟩) hgl).trans c1
          have c2 := (HB2.out.cell (p := ⟨g, (acc.length + 1) * 3 + 2, none⟩) hgl).trans c2
          have hgr : g < wr.heap.size := by have := HB2.out.size; omega
          have hsub : (sub s ua ue).size ≤ 1000000 := by unfold sub; rw [ByteArray.size_extract]; omega
          have hue : ua ≤ ue := by omega
          have i1 : ((acc.length : Int) + 1) < (xs.length : Int) := by omega
          have i0 : 0 ≤ ((acc.length : Int) + 1) := by omega
          clear hx hy hdr p4
          cases vo with
          | false =>
            have hvb : ub = true := p2
            subst hvb
            have HQ : Hid (cmdM s = bad ua) := Lib.hid (by rw [← HQ0.out, HDR.out]; exact cg_bad s K (ua, vy, false) _ acc (fun h => by simp at h))
            clear p2 p3
            go_wp2_with fail
            go_quiet (fail)
            go_wp2_with fail
            all_goals
              with_reducible refine (fault_w ua _).mono ?_
              rintro e w4 ⟨rfl, hb4⟩
              have hk4 : w4.heap[w.heap.size]? = some (.cells #[.int .i64 0, .int .i64 0] 27 (0, 0)) := by rw [hb4.block _ (Array.getElem?_eq_some_iff.1 hky).1]; exact hky
              have hb5 := (pw_below_drewN hby _).trans (hb4.mono hby.size)
              clear hb4 hky hby
              obtain ⟨c0, c1, f0, f1, hz⟩ := own_two hk4
              go_wp2
              exact bodyPost_ret (v := .tuple #[.int .u8 0, .slice none 0 0, .agg #[.int .i64 410, .int .i64 ua]]) (by simp [results, Tryd.results10, go_sem, c0, c1, hz]) rfl ⟨.slice none 0 0, by rw [HQ.out]; rfl, by rw [HQ.out]; exact Kd.R_nil _ _ _ _ _, by repeat (first | exact hb5 | refine below_set ?_ (Nat.le_refl _))⟩
          | true =>
            have hvb : ub = false := p2
            subst hvb
            have hve : ue = vy := p3 rfl
            subst hve
            clear p2 p3
            by_cases hl : acc.length < (formOf K).length
            · have hlF : acc.length < F.size := by rw [HFS.out]; omega
              obtain ⟨kd, hkd⟩ : ∃ kd : Int, (((formOf K).getD acc.length 105).toNat : Int) = kd := ⟨_, rfl⟩
              have hxk : ∀ h : acc.length < F.size, ((F[acc.length]'h).toNat : Int) = kd := fun h => by rw [HFX.out _ h, HF4.out _ hl, hkd]
              have hkd3 : kd = 110 ∨ kd = 116 ∨ kd = 105 := by
                rcases HF5.out _ hl with h | h | h
                · left; rw [← hkd, h]; rfl
                · right; left; rw [← hkd, h]; rfl
                · right; right; rw [← hkd, h]; rfl
              have hkB : kindB kd = kd := by unfold kindB; rw [if_neg (by omega)]
              have HK4 := Lib.hid (show kd = 110 ∨ kd = 116 ∨ kd = 105 ∨ kd = 43 from by omega)
              have HKB := Lib.hid hkB
              have HKD := Lib.hid hkd
              have HL := Lib.hid hl
              clear hkd hkd3 hkB
              have hfe : fitM (sub s ua ue).data.toList (((formOf K).getD acc.length 105).toNat : Int) = fitM (sub s ua ue).data.toList (kindB kd) := by rw [HKD.out, HKB.out]
              by_cases hf : fitM (sub s ua ue).data.toList (kindB kd) = true
              · have hfv := hf
                have HGO := Lib.hid (cg_on s K (ua, ue, true) ((wordsF s 0).drop (acc.length + 1 + 1)) acc (Or.inl HL.out) rfl (by rw [show fitM (sub s (ua, ue, true).1 (ua, ue, true).2.1).data.toList (((formOf K).getD acc.length 105).toNat : Int) = _ from hfe]; exact hf))
                clear hf hfe
                go_wp2_with fail
                go_quiet (fail)
                go_wp2_with fail
                with_reducible refine (rfits_w (sub s ua ue) kd _ hsub HK4.out).mono ?_
                rintro e3 w3 ⟨rfl, hb3⟩
                rw [hfv]
                have hb3' := (pw_below_drewN HB2.out _).trans (hb3.mono HB2.out.size)
                have HB3 := Lib.hid hb3'
                have HR3 := Lib.hid (Kd.R_below (Kd.R_drewN HR2.out _) hb3)
                have hsz3 := hb3'.size
                clear hb3' hb3 hfv c0 c1 c2 hky hby
                go_wp2_with (at_builtin; refine Kd.R_append Kd.string (w0 := w1) w1.heap.size rfl (.tmp 106) (.tmp 108) 24 9 (.string ⟨#[]⟩) 16 rfl Tryd.underlying24 strInfo rfl (by decide) (by decide) _ acc (sub s ua ue) [.string (sub s ua ue)] (fun _ => True) (fun _ => False) rfl rfl rfl (fun _ h => h.elim) (fun _ _ => trivial) HR3.out HB3.out hsz3 (by omega) ?_)
                intro v5 w5 hr5 hb5 _ _
                have HR5 := Lib.hid hr5
                have HB5 := Lib.hid hb5
                clear hr5 hb5
                go_wp2
                go_roundw
                case rel => first | exact ⟨acc.length + 1 + 1, _, by go_num, by omega, by omega, by rw [List.length_append]; rfl, HR5, HB5, Lib.hid (by rw [← HGO.out, ← HDR.out]; exact HQ0.out)⟩ | ((repeat apply Exists.intro); exact ⟨⟨acc.length + 1 + 1, _, by go_num, by omega, by omega, by rw [List.length_append]; rfl, HR5, HB5, Lib.hid (by rw [← HGO.out, ← HDR.out]; exact HQ0.out)⟩, rfl⟩)
                case measure => simp [intOf]; omega
              · have hfv : fitM (sub s ua ue).data.toList (kindB kd) = false := Bool.eq_false_iff.2 hf
                have HQ : Hid (cmdM s = bad ua) := Lib.hid (by rw [← HQ0.out, HDR.out]; exact cg_bad s K (ua, ue, true) _ acc (fun h => hf (by rw [← hfe]; exact h.2.2)))
                clear hf hfe
                go_wp2_with fail
                go_quiet (fail)
                go_wp2_with fail
                with_reducible refine (rfits_w (sub s ua ue) kd _ hsub HK4.out).mono ?_
                rintro e3 w3 ⟨rfl, hb3⟩
                rw [hfv]
                have hky := (show w3.heap[w.heap.size]? = some (.cells #[.int .i64 0, .int .i64 0] 27 (0, 0)) from by rw [hb3.block _ (Array.getElem?_eq_some_iff.1 hky).1]; exact hky)
                have hby := (pw_below_drewN hby _).trans (hb3.mono hby.size)
                have c0 := (hb3.cell (p := ⟨g, (acc.length + 1) * 3, none⟩) hgr).trans c0
                clear c1 c2 hb3
                go_wp2_with fail
                with_reducible refine (fault_w ua _).mono ?_
                rintro e w4 ⟨rfl, hb4⟩
                have hk4 : w4.heap[w.heap.size]? = some (.cells #[.int .i64 0, .int .i64 0] 27 (0, 0)) := by rw [hb4.block _ (Array.getElem?_eq_some_iff.1 hky).1]; exact hky
                have hb5 := hby.trans (hb4.mono hby.size)
                clear hb4 hky hby
                obtain ⟨c0, c1, f0, f1, hz⟩ := own_two hk4
                go_wp2
                exact bodyPost_ret (v := .tuple #[.int .u8 0, .slice none 0 0, .agg #[.int .i64 410, .int .i64 ua]]) (by simp [results, Tryd.results10, go_sem, c0, c1, hz]) rfl ⟨.slice none 0 0, by rw [HQ.out]; rfl, by rw [HQ.out]; exact Kd.R_nil _ _ _ _ _, by repeat (first | exact hb5 | refine below_set ?_ (Nat.le_refl _))⟩
            · have h105 : (((formOf K).getD acc.length 105).toNat : Int) = 105 := by rw [List.getD_eq_getElem?_getD, List.getElem?_eq_none (by omega)]; rfl
              have H105 := Lib.hid h105
              clear h105
              have hFl0 : F.size - 1 < F.size := by omega
              obtain ⟨lb, hlb⟩ : ∃ lb : Int, (((formR K).getD (F.size - 1) 0).toNat : Int) = lb := ⟨_, rfl⟩
              have hxl : ∀ h : F.size - 1 < F.size, ((F[F.size - 1]'h).toNat : Int) = lb := fun h => by rw [← hlb]; exact HFX.out _ h
              have HLB := Lib.hid hlb
              clear hlb
              by_cases hK3 : K = 3
              · have dlb : lb = 43 := by rw [← HLB.out, ← HFL.out, (HF3.out).2 hK3]; rfl
                subst dlb
                have hFe2 : F.size = (formOf K).length + 1 := by rw [HFS.out, if_pos hK3]
                have HK3 := Lib.hid hK3
                by_cases hlF : acc.length < F.size
                · have hae : acc.length = F.size - 1 := by omega
                  have hxk : ∀ h : acc.length < F.size, ((F[acc.length]'h).toNat : Int) = 43 := fun h => by
                    have : (F[acc.length]'h) = (F[F.size - 1]'hFl0) := by congr 1
                    rw [this]; exact hxl _
                  clear hae hFe2 hl hK3
                  have hfe : fitM (sub s ua ue).data.toList (((formOf K).getD acc.length 105).toNat : Int) = fitM (sub s ua ue).data.toList (kindB 43) := by rw [H105.out]; rfl
                  by_cases hf : fitM (sub s ua ue).data.toList (kindB 43) = true
                  · have hfv := hf
                    have HGO := Lib.hid (cg_on s K (ua, ue, true) ((wordsF s 0).drop (acc.length + 1 + 1)) acc (Or.inr HK3.out) rfl (by rw [show fitM (sub s (ua, ue, true).1 (ua, ue, true).2.1).data.toList (((formOf K).getD acc.length 105).toNat : Int) = _ from hfe]; exact hf))
                    clear hf hfe
                    go_wp2_with fail
                    go_quiet (fail)
                    go_wp2_with fail
                    with_reducible refine (rfits_w (sub s ua ue) 43 _ hsub (Or.inr (Or.inr (Or.inr rfl)))).mono ?_
                    rintro e3 w3 ⟨rfl, hb3⟩
                    rw [hfv]
                    have hb3' := (pw_below_drewN HB2.out _).trans (hb3.mono HB2.out.size)
                    have HB3 := Lib.hid hb3'
                    have HR3 := Lib.hid (Kd.R_below (Kd.R_drewN HR2.out _) hb3)
                    have hsz3 := hb3'.size
                    clear hb3' hb3 hfv c0 c1 c2 hky hby
                    go_wp2_with (at_builtin; refine Kd.R_append Kd.string (w0 := w1) w1.heap.size rfl (.tmp 106) (.tmp 108) 24 9 (.string ⟨#[]⟩) 16 rfl Tryd.underlying24 strInfo rfl (by decide) (by decide) _ acc (sub s ua ue) [.string (sub s ua ue)] (fun _ => True) (fun _ => False) rfl rfl rfl (fun _ h => h.elim) (fun _ _ => trivial) HR3.out HB3.out hsz3 (by omega) ?_)
                    intro v5 w5 hr5 hb5 _ _
                    have HR5 := Lib.hid hr5
                    have HB5 := Lib.hid hb5
                    clear hr5 hb5
                    go_wp2
                    go_roundw
                    case rel => first | exact ⟨acc.length + 1 + 1, _, by go_num, by omega, by omega, by rw [List.length_append]; rfl, HR5, HB5, Lib.hid (by rw [← HGO.out, ← HDR.out]; exact HQ0.out)⟩ | ((repeat apply Exists.intro); exact ⟨⟨acc.length + 1 + 1, _, by go_num, by omega, by omega, by rw [List.length_append]; rfl, HR5, HB5, Lib.hid (by rw [← HGO.out, ← HDR.out]; exact HQ0.out)⟩, rfl⟩)
                    case measure => simp [intOf]; omega
                  · have hfv : fitM (sub s ua ue).data.toList (kindB 43) = false := Bool.eq_false_iff.2 hf
                    have HQ : Hid (cmdM s = bad ua) := Lib.hid (by rw [← HQ0.out, HDR.out]; exact cg_bad s K (ua, ue, true) _ acc (fun h => hf (by rw [← hfe]; exact h.2.2)))
                    clear hf hfe
                    go_wp2_with fail
                    go_quiet (fail)
                    go_wp2_with fail
                    with_reducible refine (rfits_w (sub s ua ue) 43 _ hsub (Or.inr (Or.inr (Or.inr rfl)))).mono ?_
                    rintro e3 w3 ⟨rfl, hb3⟩
                    rw [hfv]
                    have hky := (show w3.heap[w.heap.size]? = some (.cells #[.int .i64 0, .int .i64 0] 27 (0, 0)) from by rw [hb3.block _ (Array.getElem?_eq_some_iff.1 hky).1]; exact hky)
                    have hby := (pw_below_drewN hby _).trans (hb3.mono hby.size)
                    have c0 := (hb3.cell (p := ⟨g, (acc.length + 1) * 3, none⟩) hgr).trans c0
                    clear c1 c2 hb3
                    go_wp2_with fail
                    with_reducible refine (fault_w ua _).mono ?_
                    rintro e w4 ⟨rfl, hb4⟩
                    have hk4 : w4.heap[w.heap.size]? = some (.cells #[.int .i64 0, .int .i64 0] 27 (0, 0)) := by rw [hb4.block _ (Array.getElem?_eq_some_iff.1 hky).1]; exact hky
                    have hb5 := hby.trans (hb4.mono hby.size)
                    clear hb4 hky hby
                    obtain ⟨c0, c1, f0, f1, hz⟩ := own_two hk4
                    go_wp2
                    exact bodyPost_ret (v := .tuple #[.int .u8 0, .slice none 0 0, .agg #[.int .i64 410, .int .i64 ua]]) (by simp [results, Tryd.results10, go_sem, c0, c1, hz]) rfl ⟨.slice none 0 0, by rw [HQ.out]; rfl, by rw [HQ.out]; exact Kd.R_nil _ _ _ _ _, by repeat (first | exact hb5 | refine below_set ?_ (Nat.le_refl _))⟩
                · clear hFe2 hl hK3
                  have hfe : fitM (sub s ua ue).data.toList (((formOf K).getD acc.length 105).toNat : Int) = fitM (sub s ua ue).data.toList (kindB 43) := by rw [H105.out]; rfl
                  by_cases hf : fitM (sub s ua ue).data.toList (kindB 43) = true
                  · have hfv := hf
                    have HGO := Lib.hid (cg_on s K (ua, ue, true) ((wordsF s 0).drop (acc.length + 1 + 1)) acc (Or.inr HK3.out) rfl (by rw [show fitM (sub s (ua, ue, true).1 (ua, ue, true).2.1).data.toList (((formOf K).getD acc.length 105).toNat : Int) = _ from hfe]; exact hf))
                    clear hf hfe
                    go_wp2_with fail
                    go_quiet (fail)
                    go_wp2_with fail
                    with_reducible refine (rfits_w (sub s ua ue) 43 _ hsub (Or.inr (Or.inr (Or.inr rfl)))).mono ?_
                    rintro e3 w3 ⟨rfl, hb3⟩
                    rw [hfv]
                    have hb3' := (pw_below_drewN HB2.out _).trans (hb3.mono HB2.out.size)
                    have HB3 := Lib.hid hb3'
                    have HR3 := Lib.hid (Kd.R_below (Kd.R_drewN HR2.out _) hb3)
                    have hsz3 := hb3'.size
                    clear hb3' hb3 hfv c0 c1 c2 hky hby
                    go_wp2_with (at_builtin; refine Kd.R_append Kd.string (w0 := w1) w1.heap.size rfl (.tmp 106) (.tmp 108) 24 9 (.string ⟨#[]⟩) 16 rfl Tryd.underlying24 strInfo rfl (by decide) (by decide) _ acc (sub s ua ue) [.string (sub s ua ue)] (fun _ => True) (fun _ => False) rfl rfl rfl (fun _ h => h.elim) (fun _ _ => trivial) HR3.out HB3.out hsz3 (by omega) ?_)
                    intro v5 w5 hr5 hb5 _ _
                    have HR5 := Lib.hid hr5
                    have HB5 := Lib.hid hb5
                    clear hr5 hb5
                    go_wp2
                    go_roundw
                    case rel => first | exact ⟨acc.length + 1 + 1, _, by go_num, by omega, by omega, by rw [List.length_append]; rfl, HR5, HB5, Lib.hid (by rw [← HGO.out, ← HDR.out]; exact HQ0.out)⟩ | ((repeat apply Exists.intro); exact ⟨⟨acc.length + 1 + 1, _, by go_num, by omega, by omega, by rw [List.length_append]; rfl, HR5, HB5, Lib.hid (by rw [← HGO.out, ← HDR.out]; exact HQ0.out)⟩, rfl⟩)
                    case measure => simp [intOf]; omega
                  · have hfv : fitM (sub s ua ue).data.toList (kindB 43) = false := Bool.eq_false_iff.2 hf
                    have HQ : Hid (cmdM s = bad ua) := Lib.hid (by rw [← HQ0.out, HDR.out]; exact cg_bad s K (ua, ue, true) _ acc (fun h => hf (by rw [← hfe]; exact h.2.2)))
                    clear hf hfe
                    go_wp2_with fail
                    go_quiet (fail)
                    go_wp2_with fail
                    with_reducible refine (rfits_w (sub s ua ue) 43 _ hsub (Or.inr (Or.inr (Or.inr rfl)))).mono ?_
                    rintro e3 w3 ⟨rfl, hb3⟩
                    rw [hfv]
                    have hky := (show w3.heap[w.heap.size]? = some (.cells #[.int .i64 0, .int .i64 0] 27 (0, 0)) from by rw [hb3.block _ (Array.getElem?_eq_some_iff.1 hky).1]; exact hky)
                    have hby := (pw_below_drewN hby _).trans (hb3.mono hby.size)
                    have c0 := (hb3.cell (p := ⟨g, (acc.length + 1) * 3, none⟩) hgr).trans c0
                    clear c1 c2 hb3
                    go_wp2_with fail
                    with_reducible refine (fault_w ua _).mono ?_
                    rintro e w4 ⟨rfl, hb4⟩
                    have hk4 : w4.heap[w.heap.size]? = some (.cells #[.int .i64 0, .int .i64 0] 27 (0, 0)) := by rw [hb4.block _ (Array.getElem?_eq_some_iff.1 hky).1]; exact hky
                    have hb5 := hby.trans (hb4.mono hby.size)
                    clear hb4 hky hby
                    obtain ⟨c0, c1, f0, f1, hz⟩ := own_two hk4
                    go_wp2
                    exact bodyPost_ret (v := .tuple #[.int .u8 0, .slice none 0 0, .agg #[.int .i64 410, .int .i64 ua]]) (by simp [results, Tryd.results10, go_sem, c0, c1, hz]) rfl ⟨.slice none 0 0, by rw [HQ.out]; rfl, by rw [HQ.out]; exact Kd.R_nil _ _ _ _ _, by repeat (first | exact hb5 | refine below_set ?_ (Nat.le_refl _))⟩
              · have dlb : (lb == 43) = false := by
                  rw [beq_eq_false_iff_ne]; intro h
                  refine hK3 ((HF3.out).1 ?_)
                  rw [HFL.out]
                  have h2 := HLB.out
                  rw [h] at h2
                  exact (u8_eq _ 43).2 (show ((formR K).getD (F.size - 1) 0).toNat = 43 from by omega)
                have hFe : (formOf K).length = F.size := by rw [HFS.out, if_neg hK3]; rfl
                have HQ : Hid (cmdM s = bad ua) := Lib.hid (by rw [← HQ0.out, HDR.out]; exact cg_bad s K (ua, ue, true) _ acc (fun h => h.1.elim hl hK3))
                have hlF : ¬ acc.length < F.size := by omega
                clear hFe hl hK3
                go_wp2_with fail
                go_quiet (fail)
                go_wp2_with fail
                with_reducible refine (fault_w ua _).mono ?_
                rintro e w4 ⟨rfl, hb4⟩
                have hk4 : w4.heap[w.heap.size]? = some (.cells #[.int .i64 0, .int .i64 0] 27 (0, 0)) := by rw [hb4.block _ (Array.getElem?_eq_some_iff.1 hky).1]; exact hky
                have hb5 := (pw_below_drewN hby _).trans (hb4.mono hby.size)
                clear hb4 hky hby
                obtain ⟨c0, c1, f0, f1, hz⟩ := own_two hk4
                go_wp2
                exact bodyPost_ret (v := .tuple #[.int .u8 0, .slice none 0 0, .agg #[.int .i64 410, .int .i64 ua]]) (by simp [results, Tryd.results10, go_sem, c0, c1, hz]) rfl ⟨.slice none 0 0, by rw [HQ.out]; rfl, by rw [HQ.out]; exact Kd.R_nil _ _ _ _ _, by repeat (first | exact hb5 | refine below_set ?_ (Nat.le_refl _))⟩
        · obtain rfl : i = xs.length := by omega
          have HG0 := Lib.hid (show cmdM s = if acc.length < (formOf K).length then bad s.size else (K, acc, 0, 0) from by
            rw [← HQ0.out, List.drop_of_length_le (by rw [← HLen.out]; exact Nat.le_refl _)]; rfl)
          have hFl0 : F.size - 1 < F.size := by omega
          obtain ⟨lb, hlb⟩ : ∃ lb : Int, (((formR K).getD (F.size - 1) 0).toNat : Int) = lb := ⟨_, rfl⟩
          have hxl : ∀ h : F.size - 1 < F.size, ((F[F.size - 1]'h).toNat : Int) = lb := fun h => by rw [← hlb]; exact HFX.out _ h
          have HLB := Lib.hid hlb
          clear hlb
          by_cases hK3 : K = 3
          · have dlb : lb = 43 := by rw [← HLB.out, ← HFL.out, (HF3.out).2 hK3]; rfl
            subst dlb
            have hFe : (formOf K).length = F.size - 1 := by rw [HFS.out, if_pos hK3]; rfl
            have hFe2 : F.size = (formOf K).length + 1 := by omega
            have HFe := Lib.hid hFe
            clear hFe hFe2 hK3
            by_cases hfew : acc.length < F.size - 1
            · have HQ : Hid (cmdM s = bad s.size) := Lib.hid (by rw [HG0.out, if_pos (by rw [HFe.out]; exact hfew)])
              go_wp2_with fail
              with_reducible refine (fault_w s.size _).mono ?_
              rintro e w4 ⟨rfl, hb4⟩
              have hk4 : w4.heap[w.heap.size]? = some (.cells #[.int .i64 0, .int .i64 0] 27 (0, 0)) := by rw [hb4.block _ (Array.getElem?_eq_some_iff.1 hky).1]; exact hky
              have hb5 := hby.trans (hb4.mono hby.size)
              clear hb4 hky hby
              obtain ⟨c0, c1, f0, f1, hz⟩ := own_two hk4
              go_wp2
              exact bodyPost_ret (v := .tuple #[.int .u8 0, .slice none 0 0, .agg #[.int .i64 410, .int .i64 s.size]]) (by simp [results, Tryd.results10, go_sem, c0, c1, hz]) rfl ⟨.slice none 0 0, by rw [HQ.out]; rfl, by rw [HQ.out]; exact Kd.R_nil _ _ _ _ _, by repeat (first | exact hb5 | refine below_set ?_ (Nat.le_refl _))⟩
            · have HQ : Hid (cmdM s = (K, acc, 0, 0)) := Lib.hid (by rw [HG0.out, if_neg (by rw [HFe.out]; exact hfew)])
              obtain ⟨z0, z1, z2, z3, z4⟩ := own_two hky
              go_wp2
              exact bodyPost_ret (v := .tuple #[.int .u8 K, .slice A2 acc.length cp3, .agg #[.int .i64 0, .int .i64 0]]) (by simp [results, Tryd.results10, go_sem, z0, z1, z4]) rfl ⟨.slice A2 acc.length cp3, by rw [HQ.out]; rfl, by rw [HQ.out]; refine Kd.R_lower (base := w1.heap.size) ?_ HB1.out.size; repeat (first | exact HR2.out | refine list_far ?_ hgB), by repeat (first | exact hby | refine below_set ?_ (Nat.le_refl _))⟩
          · have dlb : (lb == 43) = false := by
              rw [beq_eq_false_iff_ne]; intro h
              refine hK3 ((HF3.out).1 ?_)
              rw [HFL.out]
              have h2 := HLB.out
              rw [h] at h2
              exact (u8_eq _ 43).2 (show ((formR K).getD (F.size - 1) 0).toNat = 43 from by omega)
            have hFe : (formOf K).length = F.size := by rw [HFS.out, if_neg hK3]; rfl
            have HFe := Lib.hid hFe
            clear hFe hK3
            by_cases hfew : acc.length < F.size
            · have HQ : Hid (cmdM s = bad s.size) := Lib.hid (by rw [HG0.out, if_pos (by rw [HFe.out]; exact hfew)])
              go_wp2_with fail
              with_reducible refine (fault_w s.size _).mono ?_
              rintro e w4 ⟨rfl, hb4⟩
              have hk4 : w4.heap[w.heap.size]? = some (.cells #[.int .i64 0, .int .i64 0] 27 (0, 0)) := by rw [hb4.block _ (Array.getElem?_eq_some_iff.1 hky).1]; exact hky
              have hb5 := hby.trans (hb4.mono hby.size)
              clear hb4 hky hby
              obtain ⟨c0, c1, f0, f1, hz⟩ := own_two hk4
              go_wp2
              exact bodyPost_ret (v := .tuple #[.int .u8 0, .slice none 0 0, .agg #[.int .i64 410, .int .i64 s.size]]) (by simp [results, Tryd.results10, go_sem, c0, c1, hz]) rfl ⟨.slice none 0 0, by rw [HQ.out]; rfl, by rw [HQ.out]; exact Kd.R_nil _ _ _ _ _, by repeat (first | exact hb5 | refine below_set ?_ (Nat.le_refl _))⟩
            · have HQ : Hid (cmdM s = (K, acc, 0, 0)) := Lib.hid (by rw [HG0.out, if_neg (by rw [HFe.out]; exact hfew)])
              obtain ⟨z0, z1, z2, z3, z4⟩ := own_two hky
              go_wp2
              exact bodyPost_ret (v := .tuple #[.int .u8 K, .slice A2 acc.length cp3, .agg #[.int .i64 0, .int .i64 0]]) (by simp [results, Tryd.results10, go_sem, z0, z1, z4]) rfl ⟨.slice A2 acc.length cp3, by rw [HQ.out]; rfl, by rw [HQ.out]; refine Kd.R_lower (base := w1.heap.size) ?_ HB1.out.size; repeat (first | exact HR2.out | refine list_far ?_ hgB), by repeat (first | exact hby | refine below_set ?_ (Nat.le_refl _))⟩
    · have HQ : Hid (cmdM s = bad xa) := Lib.hid (cm_bad s _ _ HWf.out (fun h => hgood (by
        have h1 : yo = true := h.1
        have h2 : xe = ye := q3 h1
        have h3 := h.2
        simp only at h3
        rw [← h2, HKd.out] at h3
        exact ⟨h1, h3⟩)))
      have hky := HK1.out
      have hby := HB1.out
      by_cases hK0 : K = 0
      · subst hK0
        clear hgood q2 q3
        have hcx := c0
        go_wp2_with fail
        with_reducible refine (fault_w xa _).mono ?_
        rintro e w4 ⟨rfl, hb4⟩
        have hk4 : w4.heap[w.heap.size]? = some (.cells #[.int .i64 0, .int .i64 0] 27 (0, 0)) := by rw [hb4.block _ (Array.getElem?_eq_some_iff.1 hky).1]; exact hky
        have hb5 := (pw_below_drewN hby _).trans (hb4.mono hby.size)
        clear hb4 hky hby
        obtain ⟨c0, c1, f0, f1, hz⟩ := own_two hk4
        go_wp2
        exact bodyPost_ret (v := .tuple #[.int .u8 0, .slice none 0 0, .agg #[.int .i64 410, .int .i64 xa]]) (by simp [results, Tryd.results10, go_sem, c0, c1, hz]) rfl ⟨.slice none 0 0, by rw [HQ.out]; rfl, by rw [HQ.out]; exact Kd.R_nil _ _ _ _ _, by repeat (first | exact hb5 | refine below_set ?_ (Nat.le_refl _))⟩
      · have dk : ((K : Int) == 0) = false := beq_eq_false_iff_ne.2 (by omega)
        have hyo : yo = false := by cases yo with
          | false => rfl
          | true => exact absurd ⟨rfl, hK0⟩ hgood
        subst hyo
        have hxb : xb = true := q2
        subst hxb
        clear hgood hK0 q2 q3
        go_wp2_with fail
        with_reducible refine (fault_w xa _).mono ?_
        rintro e w4 ⟨rfl, hb4⟩
        have hk4 : w4.heap[w.heap.size]? = some (.cells #[.int .i64 0, .int .i64 0] 27 (0, 0)) := by rw [hb4.block _ (Array.getElem?_eq_some_iff.1 hky).1]; exact hky
        have hb5 := (pw_below_drewN hby _).trans (hb4.mono hby.size)
        clear hb4 hky hby
        obtain ⟨c0, c1, f0, f1, hz⟩ := own_two hk4
        go_wp2
        exact bodyPost_ret (v := .tuple #[.int .u8 0, .slice none 0 0, .agg #[.int .i64 410, .int .i64 xa]]) (by simp [results, Tryd.results10, go_sem, c0, c1, hz]) rfl ⟨.slice none 0 0, by rw [HQ.out]; rfl, by rw [HQ.out]; exact Kd.R_nil _ _ _ _ _, by repeat (first | exact hb5 | refine below_set ?_ (Nat.le_refl _))⟩
end Go.Proofs.YtjjinpohebcicaaDoor
