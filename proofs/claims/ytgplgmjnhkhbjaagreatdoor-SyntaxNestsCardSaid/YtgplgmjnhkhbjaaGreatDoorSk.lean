/-
  The cutter's walks, 8: a whole literal. Printed by gen_lit.py.
-/
import Derived.Test.YtgplgmjnhkhbjaaGreatDoorSj
set_option linter.unusedVariables false
set_option linter.unusedSimpArgs false
namespace Go.Proofs.YtgplgmjnhkhbjaaGreatDoor
open Go.RowKit Go.Proofs.YtgplgmjnhkhbjaaGreatDoorW.PrintWords PScan PWord Syn

theorem cut_list (s : ByteArray) (b k : Nat) : (s.extract b (b + k)).toList = (from_ s b).take k := by
  rw [ByteArray.toList_eq, ext_list, show b + k - b = k from by omega]; rfl

set_option maxHeartbeats 2000000 in
theorem lit_i_e {w0 w : World} {g a : Nat} {s : ByteArray} {W : World} (ka : Nat) (rka : runL [3] (from_ s a) = ka) (a0 : Nat) (ea0 : a0 = a + ka) (bdot : hasL [46] (from_ s a0) = false) (kn : Nat) (rkn : runL [2, 3] (from_ s a0) = kn) (a1 : Nat) (ea1 : a1 = a0 + kn) (ht : (from_ s a0).take kn = []) (h : Cu w0 w g s a (-1) W) (ha : a ≤ s.size) (hs : s.size ≤ 1000000) :
    Calls Tryz.prog 17 #[.pointer (some ⟨g, 0, none⟩)] W fun e w' => e = .returned (.int .u8 4) ∧ Cu w0 w g s a1 (-1) w' := by
  have la := ha
  have la0 : a0 ≤ s.size := by rw [ea0, ← rka]; exact run_from _ s a la
  have la1 : a1 ≤ s.size := by rw [ea1, ← rkn]; exact run_from _ s a0 la0
  have HC := Lib.hid h
  obtain ⟨c0, c1, c2, f1, f2⟩ := h.cells
  clear h
  have RKA := Lib.hid rka
  clear rka
  have EA0 := Lib.hid ea0
  clear ea0
  have BDOT := Lib.hid bdot
  clear bdot
  have RKN := Lib.hid rkn
  clear rkn
  have hcl := cut_list s a0 kn
  rw [ht] at hcl
  have q0 : (s.extract a0 (a0 + kn)).toList.isEmpty = true := by rw [hcl]; rfl
  have b2 : (a0 : Int) + (kn : Int) ≤ (s.size : Int) := by omega
  have b1 : (a0 : Int) ≤ (a0 : Int) + (kn : Int) := by omega
  clear hcl ht
  have EA1 := Lib.hid ea1
  clear ea1
  go_enter Tryz.func17, Tryz.ntmps17
  go_wp2_with (first | (go_at_call 37; (with_reducible refine (row_c [3] _ _ (by with_unfolding_all rfl) _ (by with_unfolding_all rfl) ka RKA.out HC.out la hs (by with_unfolding_all decide)).mono ?_)))
  rintro e w1 ⟨rfl, h1⟩
  rw [← EA0.out] at h1
  obtain ⟨c0, c1, c2, f1, f2⟩ := h1.cells
  have H1 := Lib.hid h1
  clear h1
  go_wp2_with (first | (go_at_call 39; (with_reducible refine (has_c _ [46] (by with_unfolding_all rfl) false BDOT.out H1.out la0).mono ?_)))
  rintro e w2 ⟨rfl, h2⟩
  obtain ⟨c0, c1, c2, f1, f2⟩ := h2.cells
  have H2 := Lib.hid h2
  clear h2
  go_wp2_with (first | (go_at_call 37; (with_reducible refine (row_c [2, 3] _ _ (by with_unfolding_all rfl) _ (by with_unfolding_all rfl) kn RKN.out H2.out la0 hs (by with_unfolding_all decide)).mono ?_)))
  rintro e w3 ⟨rfl, h3⟩
  obtain ⟨c0, c1, c2, f1, f2⟩ := h3.cells
  have H3 := Lib.hid h3
  clear h3
  go_wp2
  go_quiet (fail)
  go_wp2
  go_ret
  rw [EA1.out]
  exact ⟨rfl, H3.out.drewN _⟩

set_option maxHeartbeats 2000000 in
theorem lit_i_i64 {w0 w : World} {g a : Nat} {s : ByteArray} {W : World} (ka : Nat) (rka : runL [3] (from_ s a) = ka) (a0 : Nat) (ea0 : a0 = a + ka) (bdot : hasL [46] (from_ s a0) = false) (kn : Nat) (rkn : runL [2, 3] (from_ s a0) = kn) (a1 : Nat) (ea1 : a1 = a0 + kn) (ht : (from_ s a0).take kn = [105, 54, 52]) (h : Cu w0 w g s a (-1) W) (ha : a ≤ s.size) (hs : s.size ≤ 1000000) :
    Calls Tryz.prog 17 #[.pointer (some ⟨g, 0, none⟩)] W fun e w' => e = .returned (.int .u8 4) ∧ Cu w0 w g s a1 (-1) w' := by
  have la := ha
  have la0 : a0 ≤ s.size := by rw [ea0, ← rka]; exact run_from _ s a la
  have la1 : a1 ≤ s.size := by rw [ea1, ← rkn]; exact run_from _ s a0 la0
  have HC := Lib.hid h
  obtain ⟨c0, c1, c2, f1, f2⟩ := h.cells
  clear h
  have RKA := Lib.hid rka
  clear rka
  have EA0 := Lib.hid ea0
  clear ea0
  have BDOT := Lib.hid bdot
  clear bdot
  have RKN := Lib.hid rkn
  clear rkn
  have hcl := cut_list s a0 kn
  rw [ht] at hcl
  have q0 : (s.extract a0 (a0 + kn)).toList.isEmpty = false := by rw [hcl]; rfl
  have q1 : ((s.extract a0 (a0 + kn)).toList == [105, 54, 52]) = true := by rw [hcl]; rfl
  have b2 : (a0 : Int) + (kn : Int) ≤ (s.size : Int) := by omega
  have b1 : (a0 : Int) ≤ (a0 : Int) + (kn : Int) := by omega
  clear hcl ht
  have EA1 := Lib.hid ea1
  clear ea1
  go_enter Tryz.func17, Tryz.ntmps17
  go_wp2_with (first | (go_at_call 37; (with_reducible refine (row_c [3] _ _ (by with_unfolding_all rfl) _ (by with_unfolding_all rfl) ka RKA.out HC.out la hs (by with_unfolding_all decide)).mono ?_)))
  rintro e w1 ⟨rfl, h1⟩
  rw [← EA0.out] at h1
  obtain ⟨c0, c1, c2, f1, f2⟩ := h1.cells
  have H1 := Lib.hid h1
  clear h1
  go_wp2_with (first | (go_at_call 39; (with_reducible refine (has_c _ [46] (by with_unfolding_all rfl) false BDOT.out H1.out la0).mono ?_)))
  rintro e w2 ⟨rfl, h2⟩
  obtain ⟨c0, c1, c2, f1, f2⟩ := h2.cells
  have H2 := Lib.hid h2
  clear h2
  go_wp2_with (first | (go_at_call 37; (with_reducible refine (row_c [2, 3] _ _ (by with_unfolding_all rfl) _ (by with_unfolding_all rfl) kn RKN.out H2.out la0 hs (by with_unfolding_all decide)).mono ?_)))
  rintro e w3 ⟨rfl, h3⟩
  obtain ⟨c0, c1, c2, f1, f2⟩ := h3.cells
  have H3 := Lib.hid h3
  clear h3
  go_wp2
  go_quiet (fail)
  go_wp2
  go_ret
  rw [EA1.out]
  exact ⟨rfl, H3.out.drewN _⟩

set_option maxHeartbeats 2000000 in
theorem lit_i_i32 {w0 w : World} {g a : Nat} {s : ByteArray} {W : World} (ka : Nat) (rka : runL [3] (from_ s a) = ka) (a0 : Nat) (ea0 : a0 = a + ka) (bdot : hasL [46] (from_ s a0) = false) (kn : Nat) (rkn : runL [2, 3] (from_ s a0) = kn) (a1 : Nat) (ea1 : a1 = a0 + kn) (ht : (from_ s a0).take kn = [105, 51, 50]) (h : Cu w0 w g s a (-1) W) (ha : a ≤ s.size) (hs : s.size ≤ 1000000) :
    Calls Tryz.prog 17 #[.pointer (some ⟨g, 0, none⟩)] W fun e w' => e = .returned (.int .u8 4) ∧ Cu w0 w g s a1 (-1) w' := by
  have la := ha
  have la0 : a0 ≤ s.size := by rw [ea0, ← rka]; exact run_from _ s a la
  have la1 : a1 ≤ s.size := by rw [ea1, ← rkn]; exact run_from _ s a0 la0
  have HC := Lib.hid h
  obtain ⟨c0, c1, c2, f1, f2⟩ := h.cells
  clear h
  have RKA := Lib.hid rka
  clear rka
  have EA0 := Lib.hid ea0
  clear ea0
  have BDOT := Lib.hid bdot
  clear bdot
  have RKN := Lib.hid rkn
  clear rkn
  have hcl := cut_list s a0 kn
  rw [ht] at hcl
  have q0 : (s.extract a0 (a0 + kn)).toList.isEmpty = false := by rw [hcl]; rfl
  have q1 : ((s.extract a0 (a0 + kn)).toList == [105, 54, 52]) = false := by rw [hcl]; rfl
  have q2 : ((s.extract a0 (a0 + kn)).toList == [105, 51, 50]) = true := by rw [hcl]; rfl
  have b2 : (a0 : Int) + (kn : Int) ≤ (s.size : Int) := by omega
  have b1 : (a0 : Int) ≤ (a0 : Int) + (kn : Int) := by omega
  clear hcl ht
  have EA1 := Lib.hid ea1
  clear ea1
  go_enter Tryz.func17, Tryz.ntmps17
  go_wp2_with (first | (go_at_call 37; (with_reducible refine (row_c [3] _ _ (by with_unfolding_all rfl) _ (by with_unfolding_all rfl) ka RKA.out HC.out la hs (by with_unfolding_all decide)).mono ?_)))
  rintro e w1 ⟨rfl, h1⟩
  rw [← EA0.out] at h1
  obtain ⟨c0, c1, c2, f1, f2⟩ := h1.cells
  have H1 := Lib.hid h1
  clear h1
  go_wp2_with (first | (go_at_call 39; (with_reducible refine (has_c _ [46] (by with_unfolding_all rfl) false BDOT.out H1.out la0).mono ?_)))
  rintro e w2 ⟨rfl, h2⟩
  obtain ⟨c0, c1, c2, f1, f2⟩ := h2.cells
  have H2 := Lib.hid h2
  clear h2
  go_wp2_with (first | (go_at_call 37; (with_reducible refine (row_c [2, 3] _ _ (by with_unfolding_all rfl) _ (by with_unfolding_all rfl) kn RKN.out H2.out la0 hs (by with_unfolding_all decide)).mono ?_)))
  rintro e w3 ⟨rfl, h3⟩
  obtain ⟨c0, c1, c2, f1, f2⟩ := h3.cells
  have H3 := Lib.hid h3
  clear h3
  go_wp2
  go_quiet (fail)
  go_wp2
  go_ret
  rw [EA1.out]
  exact ⟨rfl, H3.out.drewN _⟩

set_option maxHeartbeats 2000000 in
theorem lit_i_u8 {w0 w : World} {g a : Nat} {s : ByteArray} {W : World} (ka : Nat) (rka : runL [3] (from_ s a) = ka) (a0 : Nat) (ea0 : a0 = a + ka) (bdot : hasL [46] (from_ s a0) = false) (kn : Nat) (rkn : runL [2, 3] (from_ s a0) = kn) (a1 : Nat) (ea1 : a1 = a0 + kn) (ht : (from_ s a0).take kn = [117, 56]) (h : Cu w0 w g s a (-1) W) (ha : a ≤ s.size) (hs : s.size ≤ 1000000) :
    Calls Tryz.prog 17 #[.pointer (some ⟨g, 0, none⟩)] W fun e w' => e = .returned (.int .u8 4) ∧ Cu w0 w g s a1 (-1) w' := by
  have la := ha
  have la0 : a0 ≤ s.size := by rw [ea0, ← rka]; exact run_from _ s a la
  have la1 : a1 ≤ s.size := by rw [ea1, ← rkn]; exact run_from _ s a0 la0
  have HC := Lib.hid h
  obtain ⟨c0, c1, c2, f1, f2⟩ := h.cells
  clear h
  have RKA := Lib.hid rka
  clear rka
  have EA0 := Lib.hid ea0
  clear ea0
  have BDOT := Lib.hid bdot
  clear bdot
  have RKN := Lib.hid rkn
  clear rkn
  have hcl := cut_list s a0 kn
  rw [ht] at hcl
  have q0 : (s.extract a0 (a0 + kn)).toList.isEmpty = false := by rw [hcl]; rfl
  have q1 : ((s.extract a0 (a0 + kn)).toList == [105, 54, 52]) = false := by rw [hcl]; rfl
  have q2 : ((s.extract a0 (a0 + kn)).toList == [105, 51, 50]) = false := by rw [hcl]; rfl
  have q3 : ((s.extract a0 (a0 + kn)).toList == [117, 56]) = true := by rw [hcl]; rfl
  have b2 : (a0 : Int) + (kn : Int) ≤ (s.size : Int) := by omega
  have b1 : (a0 : Int) ≤ (a0 : Int) + (kn : Int) := by omega
  clear hcl ht
  have EA1 := Lib.hid ea1
  clear ea1
  go_enter Tryz.func17, Tryz.ntmps17
  go_wp2_with (first | (go_at_call 37; (with_reducible refine (row_c [3] _ _ (by with_unfolding_all rfl) _ (by with_unfolding_all rfl) ka RKA.out HC.out la hs (by with_unfolding_all decide)).mono ?_)))
  rintro e w1 ⟨rfl, h1⟩
  rw [← EA0.out] at h1
  obtain ⟨c0, c1, c2, f1, f2⟩ := h1.cells
  have H1 := Lib.hid h1
  clear h1
  go_wp2_with (first | (go_at_call 39; (with_reducible refine (has_c _ [46] (by with_unfolding_all rfl) false BDOT.out H1.out la0).mono ?_)))
  rintro e w2 ⟨rfl, h2⟩
  obtain ⟨c0, c1, c2, f1, f2⟩ := h2.cells
  have H2 := Lib.hid h2
  clear h2
  go_wp2_with (first | (go_at_call 37; (with_reducible refine (row_c [2, 3] _ _ (by with_unfolding_all rfl) _ (by with_unfolding_all rfl) kn RKN.out H2.out la0 hs (by with_unfolding_all decide)).mono ?_)))
  rintro e w3 ⟨rfl, h3⟩
  obtain ⟨c0, c1, c2, f1, f2⟩ := h3.cells
  have H3 := Lib.hid h3
  clear h3
  go_wp2
  go_quiet (fail)
  go_wp2
  go_ret
  rw [EA1.out]
  exact ⟨rfl, H3.out.drewN _⟩

set_option maxHeartbeats 2000000 in
theorem lit_i_bad {w0 w : World} {g a : Nat} {s : ByteArray} {W : World} (ka : Nat) (rka : runL [3] (from_ s a) = ka) (a0 : Nat) (ea0 : a0 = a + ka) (bdot : hasL [46] (from_ s a0) = false) (kn : Nat) (rkn : runL [2, 3] (from_ s a0) = kn) (a1 : Nat) (ea1 : a1 = a0 + kn) (l : List UInt8) (ht : (from_ s a0).take kn = l) (x0 : l ≠ []) (x1 : l ≠ [105, 54, 52]) (x2 : l ≠ [105, 51, 50]) (x3 : l ≠ [117, 56]) (h : Cu w0 w g s a (-1) W) (ha : a ≤ s.size) (hs : s.size ≤ 1000000) :
    Calls Tryz.prog 17 #[.pointer (some ⟨g, 0, none⟩)] W fun e w' => e = .returned (.int .u8 4) ∧ Cu w0 w g s a1 (a0 : Int) w' := by
  have la := ha
  have la0 : a0 ≤ s.size := by rw [ea0, ← rka]; exact run_from _ s a la
  have la1 : a1 ≤ s.size := by rw [ea1, ← rkn]; exact run_from _ s a0 la0
  have HC := Lib.hid h
  obtain ⟨c0, c1, c2, f1, f2⟩ := h.cells
  clear h
  have RKA := Lib.hid rka
  clear rka
  have EA0 := Lib.hid ea0
  clear ea0
  have BDOT := Lib.hid bdot
  clear bdot
  have RKN := Lib.hid rkn
  clear rkn
  have hcl := cut_list s a0 kn
  rw [ht] at hcl
  have q0 : (s.extract a0 (a0 + kn)).toList.isEmpty = false := by rw [hcl]; cases l with | nil => exact absurd rfl x0 | cons _ _ => rfl
  have q1 : ((s.extract a0 (a0 + kn)).toList == [105, 54, 52]) = false := by rw [hcl]; exact beq_eq_false_iff_ne.2 x1
  have q2 : ((s.extract a0 (a0 + kn)).toList == [105, 51, 50]) = false := by rw [hcl]; exact beq_eq_false_iff_ne.2 x2
  have q3 : ((s.extract a0 (a0 + kn)).toList == [117, 56]) = false := by rw [hcl]; exact beq_eq_false_iff_ne.2 x3
  have b2 : (a0 : Int) + (kn : Int) ≤ (s.size : Int) := by omega
  have b1 : (a0 : Int) ≤ (a0 : Int) + (kn : Int) := by omega
  clear hcl ht x0 x1 x2 x3
  have EA1 := Lib.hid ea1
  clear ea1
  go_enter Tryz.func17, Tryz.ntmps17
  go_wp2_with (first | (go_at_call 37; (with_reducible refine (row_c [3] _ _ (by with_unfolding_all rfl) _ (by with_unfolding_all rfl) ka RKA.out HC.out la hs (by with_unfolding_all decide)).mono ?_)))
  rintro e w1 ⟨rfl, h1⟩
  rw [← EA0.out] at h1
  obtain ⟨c0, c1, c2, f1, f2⟩ := h1.cells
  have H1 := Lib.hid h1
  clear h1
  go_wp2_with (first | (go_at_call 39; (with_reducible refine (has_c _ [46] (by with_unfolding_all rfl) false BDOT.out H1.out la0).mono ?_)))
  rintro e w2 ⟨rfl, h2⟩
  obtain ⟨c0, c1, c2, f1, f2⟩ := h2.cells
  have H2 := Lib.hid h2
  clear h2
  go_wp2_with (first | (go_at_call 37; (with_reducible refine (row_c [2, 3] _ _ (by with_unfolding_all rfl) _ (by with_unfolding_all rfl) kn RKN.out H2.out la0 hs (by with_unfolding_all decide)).mono ?_)))
  rintro e w3 ⟨rfl, h3⟩
  obtain ⟨c0, c1, c2, f1, f2⟩ := h3.cells
  have H3 := Lib.hid h3
  clear h3
  go_wp2
  go_quiet (fail)
  go_wp2
  go_ret
  rw [EA1.out]
  exact ⟨rfl, (H3.out.drewN _).set2 _⟩

end Go.Proofs.YtgplgmjnhkhbjaaGreatDoor
