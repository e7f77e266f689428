/-
  The cutter's walks, 7: a literal. Printed by gen_lit.py.
-/
import Derived.Test.YtgplgmjnhkhbjaaGreatDoorSi
set_option linter.unusedVariables false
set_option linter.unusedSimpArgs false
namespace Go.Proofs.YtgplgmjnhkhbjaaGreatDoor
open Go.RowKit Go.Proofs.YtgplgmjnhkhbjaaGreatDoorW.PrintWords PScan PWord Syn

theorem has_lt {c : UInt8} {s : ByteArray} {a : Nat} (h : hasL [c] (from_ s a) = true) (ha : a ≤ s.size) : a + 1 ≤ s.size := by
  have := congrArg List.length ((hasL_iff _ _).1 h)
  rw [List.length_take, from_len] at this
  simp at this
  omega

theorem cu0 {w0 w W : World} {g a : Nat} {s : ByteArray} {bad : Int} (h : Cu w0 w g s (a + 0) bad W) : Cu w0 w g s a bad W := h
theorem digits_z {w0 w : World} {g a : Nat} {s : ByteArray} {W : World} (R : Nat) (hR : runL [3] (from_ s a) = R) (h0 : R = 0) (h : Cu w0 w g s a (-1) W) (ha : a ≤ s.size) (hs : s.size ≤ 1000000) :
    Calls Tryz.prog 40 #[.pointer (some ⟨g, 0, none⟩)] W fun e w' => e = .returned (.tuple #[]) ∧ Cu w0 w g s a (a : Int) w' := by
  subst h0
  exact digits_w 0 hR h ha hs
theorem digits_s {w0 w : World} {g a : Nat} {s : ByteArray} {W : World} (R b : Nat) (hR : runL [3] (from_ s a) = R) (h0 : R ≠ 0) (hb : b = a + R) (h : Cu w0 w g s a (-1) W) (ha : a ≤ s.size) (hs : s.size ≤ 1000000) :
    Calls Tryz.prog 40 #[.pointer (some ⟨g, 0, none⟩)] W fun e w' => e = .returned (.tuple #[]) ∧ Cu w0 w g s b (-1) w' := by
  subst hb
  have := digits_w R hR h ha hs
  rw [if_neg h0] at this
  exact this

set_option maxHeartbeats 2000000 in
theorem lit_f0 {w0 w : World} {g a : Nat} {s : ByteArray} {W : World} (ka : Nat) (rka : runL [3] (from_ s a) = ka) (a0 : Nat) (ea0 : a0 = a + ka) (bdot : hasL [46] (from_ s a0) = true) (a1 : Nat) (ea1 : a1 = a0 + 1) (kb : Nat) (rkb : runL [3] (from_ s a1) = kb) (nkb : kb = 0) (h : Cu w0 w g s a (-1) W) (ha : a ≤ s.size) (hs : s.size ≤ 1000000) :
    Calls Tryz.prog 17 #[.pointer (some ⟨g, 0, none⟩)] W fun e w' => e = .returned (.int .u8 5) ∧ Cu w0 w g s a1 (a1 : Int) w' := by
  have la := ha
  have la0 : a0 ≤ s.size := by rw [ea0, ← rka]; exact run_from _ s a la
  have la1 : a1 ≤ s.size := by rw [ea1]; exact has_lt bdot la0
  have HC := Lib.hid h
  obtain ⟨c0, c1, c2, f1, f2⟩ := h.cells
  clear h
  have RKA := Lib.hid rka
  clear rka
  have EA0 := Lib.hid ea0
  clear ea0
  have BDOT := Lib.hid bdot
  clear bdot
  have EA1 := Lib.hid ea1
  clear ea1
  have RKB := Lib.hid rkb
  clear rkb
  have NKB := Lib.hid nkb
  clear nkb
  go_enter Tryz.func17, Tryz.ntmps17
  go_wp2_with (first | (go_at_call 37; (with_reducible refine (row_c [3] _ _ (by with_unfolding_all rfl) _ (by with_unfolding_all rfl) ka RKA.out HC.out la hs (by with_unfolding_all decide)).mono ?_)))
  rintro e w1 ⟨rfl, h1⟩
  rw [← EA0.out] at h1
  obtain ⟨c0, c1, c2, f1, f2⟩ := h1.cells
  have H1 := Lib.hid h1
  clear h1
  go_wp2_with (first | (go_at_call 39; (with_reducible refine (has_c _ [46] (by with_unfolding_all rfl) true BDOT.out H1.out la0).mono ?_)))
  rintro e w2 ⟨rfl, h2⟩
  obtain ⟨c0, c1, c2, f1, f2⟩ := h2.cells
  have H2 := Lib.hid h2
  clear h2
  go_wp2_with (first | (go_at_call 40; (with_reducible refine (digits_z kb RKB.out NKB.out (H2.out.set1 a1 _ (by have := EA1.out; omega)) la1 hs).mono ?_)))
  rintro e w3 ⟨rfl, h3⟩
  obtain ⟨c0, c1, c2, f1, f2⟩ := h3.cells
  have H3 := Lib.hid h3
  clear h3
  go_wp2
  go_ret
  exact ⟨rfl, H3.out⟩

set_option maxHeartbeats 2000000 in
theorem lit_p_row {w0 w : World} {g a : Nat} {s : ByteArray} {W : World} (ka : Nat) (rka : runL [3] (from_ s a) = ka) (a0 : Nat) (ea0 : a0 = a + ka) (bdot : hasL [46] (from_ s a0) = true) (a1 : Nat) (ea1 : a1 = a0 + 1) (kb : Nat) (rkb : runL [3] (from_ s a1) = kb) (nkb : kb ≠ 0) (a2 : Nat) (ea2 : a2 = a1 + kb) (bexp : hasL [101] (from_ s a2) = false) (kt : Nat) (rkt : runL [2, 3] (from_ s a2) = kt) (a6 : Nat) (ea6 : a6 = a2 + kt) (nkt : kt ≠ 0) (h : Cu w0 w g s a (-1) W) (ha : a ≤ s.size) (hs : s.size ≤ 1000000) :
    Calls Tryz.prog 17 #[.pointer (some ⟨g, 0, none⟩)] W fun e w' => e = .returned (.int .u8 5) ∧ Cu w0 w g s a6 (a2 : Int) w' := by
  have la := ha
  have la0 : a0 ≤ s.size := by rw [ea0, ← rka]; exact run_from _ s a la
  have la1 : a1 ≤ s.size := by rw [ea1]; exact has_lt bdot la0
  have la2 : a2 ≤ s.size := by rw [ea2, ← rkb]; exact run_from _ s a1 la1
  have la6 : a6 ≤ s.size := by rw [ea6, ← rkt]; exact run_from _ s a2 la2
  have HC := Lib.hid h
  obtain ⟨c0, c1, c2, f1, f2⟩ := h.cells
  clear h
  have RKA := Lib.hid rka
  clear rka
  have EA0 := Lib.hid ea0
  clear ea0
  have BDOT := Lib.hid bdot
  clear bdot
  have EA1 := Lib.hid ea1
  clear ea1
  have RKB := Lib.hid rkb
  clear rkb
  have NKB := Lib.hid nkb
  clear nkb
  have EA2 := Lib.hid ea2
  clear ea2
  have BEXP := Lib.hid bexp
  clear bexp
  have dt : 1 ≤ kt := by omega
  clear nkt
  have RKT := Lib.hid rkt
  clear rkt
  have EA6 := Lib.hid ea6
  clear ea6
  go_enter Tryz.func17, Tryz.ntmps17
  go_wp2_with (first | (go_at_call 37; (with_reducible refine (row_c [3] _ _ (by with_unfolding_all rfl) _ (by with_unfolding_all rfl) ka RKA.out HC.out la hs (by with_unfolding_all decide)).mono ?_)))
  rintro e w1 ⟨rfl, h1⟩
  rw [← EA0.out] at h1
  obtain ⟨c0, c1, c2, f1, f2⟩ := h1.cells
  have H1 := Lib.hid h1
  clear h1
  go_wp2_with (first | (go_at_call 39; (with_reducible refine (has_c _ [46] (by with_unfolding_all rfl) true BDOT.out H1.out la0).mono ?_)))
  rintro e w2 ⟨rfl, h2⟩
  obtain ⟨c0, c1, c2, f1, f2⟩ := h2.cells
  have H2 := Lib.hid h2
  clear h2
  go_wp2_with (first | (go_at_call 40; (with_reducible refine (digits_s kb a2 RKB.out NKB.out EA2.out (H2.out.set1 a1 _ (by have := EA1.out; omega)) la1 hs).mono ?_)))
  rintro e w3 ⟨rfl, h3⟩
  obtain ⟨c0, c1, c2, f1, f2⟩ := h3.cells
  have H3 := Lib.hid h3
  clear h3
  go_wp2_with (first | (go_at_call 39; (with_reducible refine (has_c _ [101] (by with_unfolding_all rfl) false BEXP.out H3.out la2).mono ?_)))
  rintro e w4 ⟨rfl, h4⟩
  obtain ⟨c0, c1, c2, f1, f2⟩ := h4.cells
  have H4 := Lib.hid h4
  clear h4
  go_wp2_with (first | (go_at_call 37; (with_reducible refine (row_c [2, 3] _ _ (by with_unfolding_all rfl) _ (by with_unfolding_all rfl) kt RKT.out H4.out la2 hs (by with_unfolding_all decide)).mono ?_)))
  rintro e w5 ⟨rfl, h5⟩
  rw [← EA6.out] at h5
  obtain ⟨c0, c1, c2, f1, f2⟩ := h5.cells
  have H5 := Lib.hid h5
  clear h5
  go_wp2
  go_ret
  exact ⟨rfl, H5.out.set2 _⟩

set_option maxHeartbeats 2000000 in
theorem lit_p_dot {w0 w : World} {g a : Nat} {s : ByteArray} {W : World} (ka : Nat) (rka : runL [3] (from_ s a) = ka) (a0 : Nat) (ea0 : a0 = a + ka) (bdot : hasL [46] (from_ s a0) = true) (a1 : Nat) (ea1 : a1 = a0 + 1) (kb : Nat) (rkb : runL [3] (from_ s a1) = kb) (nkb : kb ≠ 0) (a2 : Nat) (ea2 : a2 = a1 + kb) (bexp : hasL [101] (from_ s a2) = false) (r0 : runL [2, 3] (from_ s a2) = 0) (bdot2 : hasL [46] (from_ s a2) = true) (h : Cu w0 w g s a (-1) W) (ha : a ≤ s.size) (hs : s.size ≤ 1000000) :
    Calls Tryz.prog 17 #[.pointer (some ⟨g, 0, none⟩)] W fun e w' => e = .returned (.int .u8 5) ∧ Cu w0 w g s a2 (a2 : Int) w' := by
  have la := ha
  have la0 : a0 ≤ s.size := by rw [ea0, ← rka]; exact run_from _ s a la
  have la1 : a1 ≤ s.size := by rw [ea1]; exact has_lt bdot la0
  have la2 : a2 ≤ s.size := by rw [ea2, ← rkb]; exact run_from _ s a1 la1
  have HC := Lib.hid h
  obtain ⟨c0, c1, c2, f1, f2⟩ := h.cells
  clear h
  have RKA := Lib.hid rka
  clear rka
  have EA0 := Lib.hid ea0
  clear ea0
  have BDOT := Lib.hid bdot
  clear bdot
  have EA1 := Lib.hid ea1
  clear ea1
  have RKB := Lib.hid rkb
  clear rkb
  have NKB := Lib.hid nkb
  clear nkb
  have EA2 := Lib.hid ea2
  clear ea2
  have BEXP := Lib.hid bexp
  clear bexp
  have R0 := Lib.hid r0
  clear r0
  have BDOT2 := Lib.hid bdot2
  clear bdot2
  go_enter Tryz.func17, Tryz.ntmps17
  go_wp2_with (first | (go_at_call 37; (with_reducible refine (row_c [3] _ _ (by with_unfolding_all rfl) _ (by with_unfolding_all rfl) ka RKA.out HC.out la hs (by with_unfolding_all decide)).mono ?_)))
  rintro e w1 ⟨rfl, h1⟩
  rw [← EA0.out] at h1
  obtain ⟨c0, c1, c2, f1, f2⟩ := h1.cells
  have H1 := Lib.hid h1
  clear h1
  go_wp2_with (first | (go_at_call 39; (with_reducible refine (has_c _ [46] (by with_unfolding_all rfl) true BDOT.out H1.out la0).mono ?_)))
  rintro e w2 ⟨rfl, h2⟩
  obtain ⟨c0, c1, c2, f1, f2⟩ := h2.cells
  have H2 := Lib.hid h2
  clear h2
  go_wp2_with (first | (go_at_call 40; (with_reducible refine (digits_s kb a2 RKB.out NKB.out EA2.out (H2.out.set1 a1 _ (by have := EA1.out; omega)) la1 hs).mono ?_)))
  rintro e w3 ⟨rfl, h3⟩
  obtain ⟨c0, c1, c2, f1, f2⟩ := h3.cells
  have H3 := Lib.hid h3
  clear h3
  go_wp2_with (first | (go_at_call 39; (with_reducible refine (has_c _ [101] (by with_unfolding_all rfl) false BEXP.out H3.out la2).mono ?_)))
  rintro e w4 ⟨rfl, h4⟩
  obtain ⟨c0, c1, c2, f1, f2⟩ := h4.cells
  have H4 := Lib.hid h4
  clear h4
  go_wp2_with (first | (go_at_call 37; (with_reducible refine (row_c [2, 3] _ _ (by with_unfolding_all rfl) _ (by with_unfolding_all rfl) 0 R0.out H4.out la2 hs (by with_unfolding_all decide)).mono ?_)))
  rintro e w5 ⟨rfl, h5⟩
  obtain ⟨c0, c1, c2, f1, f2⟩ := h5.cells
  have H5 := Lib.hid h5
  clear h5
  go_wp2_with (first | (go_at_call 39; (with_reducible refine (has_c _ [46] (by with_unfolding_all rfl) true BDOT2.out (cu0 H5.out) la2).mono ?_)))
  rintro e w6 ⟨rfl, h6⟩
  obtain ⟨c0, c1, c2, f1, f2⟩ := h6.cells
  have H6 := Lib.hid h6
  clear h6
  go_wp2
  go_ret
  exact ⟨rfl, H6.out.set2 _⟩

set_option maxHeartbeats 2000000 in
theorem lit_p_ok {w0 w : World} {g a : Nat} {s : ByteArray} {W : World} (ka : Nat) (rka : runL [3] (from_ s a) = ka) (a0 : Nat) (ea0 : a0 = a + ka) (bdot : hasL [46] (from_ s a0) = true) (a1 : Nat) (ea1 : a1 = a0 + 1) (kb : Nat) (rkb : runL [3] (from_ s a1) = kb) (nkb : kb ≠ 0) (a2 : Nat) (ea2 : a2 = a1 + kb) (bexp : hasL [101] (from_ s a2) = false) (r0 : runL [2, 3] (from_ s a2) = 0) (bdot2 : hasL [46] (from_ s a2) = false) (h : Cu w0 w g s a (-1) W) (ha : a ≤ s.size) (hs : s.size ≤ 1000000) :
    Calls Tryz.prog 17 #[.pointer (some ⟨g, 0, none⟩)] W fun e w' => e = .returned (.int .u8 5) ∧ Cu w0 w g s a2 (-1) w' := by
  have la := ha
  have la0 : a0 ≤ s.size := by rw [ea0, ← rka]; exact run_from _ s a la
  have la1 : a1 ≤ s.size := by rw [ea1]; exact has_lt bdot la0
  have la2 : a2 ≤ s.size := by rw [ea2, ← rkb]; exact run_from _ s a1 la1
  have HC := Lib.hid h
  obtain ⟨c0, c1, c2, f1, f2⟩ := h.cells
  clear h
  have RKA := Lib.hid rka
  clear rka
  have EA0 := Lib.hid ea0
  clear ea0
  have BDOT := Lib.hid bdot
  clear bdot
  have EA1 := Lib.hid ea1
  clear ea1
  have RKB := Lib.hid rkb
  clear rkb
  have NKB := Lib.hid nkb
  clear nkb
  have EA2 := Lib.hid ea2
  clear ea2
  have BEXP := Lib.hid bexp
  clear bexp
  have R0 := Lib.hid r0
  clear r0
  have BDOT2 := Lib.hid bdot2
  clear bdot2
  go_enter Tryz.func17, Tryz.ntmps17
  go_wp2_with (first | (go_at_call 37; (with_reducible refine (row_c [3] _ _ (by with_unfolding_all rfl) _ (by with_unfolding_all rfl) ka RKA.out HC.out la hs (by with_unfolding_all decide)).mono ?_)))
  rintro e w1 ⟨rfl, h1⟩
  rw [← EA0.out] at h1
  obtain ⟨c0, c1, c2, f1, f2⟩ := h1.cells
  have H1 := Lib.hid h1
  clear h1
  go_wp2_with (first | (go_at_call 39; (with_reducible refine (has_c _ [46] (by with_unfolding_all rfl) true BDOT.out H1.out la0).mono ?_)))
  rintro e w2 ⟨rfl, h2⟩
  obtain ⟨c0, c1, c2, f1, f2⟩ := h2.cells
  have H2 := Lib.hid h2
  clear h2
  go_wp2_with (first | (go_at_call 40; (with_reducible refine (digits_s kb a2 RKB.out NKB.out EA2.out (H2.out.set1 a1 _ (by have := EA1.out; omega)) la1 hs).mono ?_)))
  rintro e w3 ⟨rfl, h3⟩
  obtain ⟨c0, c1, c2, f1, f2⟩ := h3.cells
  have H3 := Lib.hid h3
  clear h3
  go_wp2_with (first | (go_at_call 39; (with_reducible refine (has_c _ [101] (by with_unfolding_all rfl) false BEXP.out H3.out la2).mono ?_)))
  rintro e w4 ⟨rfl, h4⟩
  obtain ⟨c0, c1, c2, f1, f2⟩ := h4.cells
  have H4 := Lib.hid h4
  clear h4
  go_wp2_with (first | (go_at_call 37; (with_reducible refine (row_c [2, 3] _ _ (by with_unfolding_all rfl) _ (by with_unfolding_all rfl) 0 R0.out H4.out la2 hs (by with_unfolding_all decide)).mono ?_)))
  rintro e w5 ⟨rfl, h5⟩
  obtain ⟨c0, c1, c2, f1, f2⟩ := h5.cells
  have H5 := Lib.hid h5
  clear h5
  go_wp2_with (first | (go_at_call 39; (with_reducible refine (has_c _ [46] (by with_unfolding_all rfl) false BDOT2.out (cu0 H5.out) la2).mono ?_)))
  rintro e w6 ⟨rfl, h6⟩
  obtain ⟨c0, c1, c2, f1, f2⟩ := h6.cells
  have H6 := Lib.hid h6
  clear h6
  go_wp2
  go_ret
  exact ⟨rfl, H6.out⟩

set_option maxHeartbeats 2000000 in
theorem lit_e_z {w0 w : World} {g a : Nat} {s : ByteArray} {W : World} (ka : Nat) (rka : runL [3] (from_ s a) = ka) (a0 : Nat) (ea0 : a0 = a + ka) (bdot : hasL [46] (from_ s a0) = true) (a1 : Nat) (ea1 : a1 = a0 + 1) (kb : Nat) (rkb : runL [3] (from_ s a1) = kb) (nkb : kb ≠ 0) (a2 : Nat) (ea2 : a2 = a1 + kb) (bexp : hasL [101] (from_ s a2) = true) (a3 : Nat) (ea3 : a3 = a2 + 1) (bplus : hasL [43] (from_ s a3) = false) (bminus : hasL [45] (from_ s a3) = false) (kd : Nat) (rkd : runL [3] (from_ s a3) = kd) (nkd : kd = 0) (h : Cu w0 w g s a (-1) W) (ha : a ≤ s.size) (hs : s.size ≤ 1000000) :
    Calls Tryz.prog 17 #[.pointer (some ⟨g, 0, none⟩)] W fun e w' => e = .returned (.int .u8 5) ∧ Cu w0 w g s a3 (a3 : Int) w' := by
  have la := ha
  have la0 : a0 ≤ s.size := by rw [ea0, ← rka]; exact run_from _ s a la
  have la1 : a1 ≤ s.size := by rw [ea1]; exact has_lt bdot la0
  have la2 : a2 ≤ s.size := by rw [ea2, ← rkb]; exact run_from _ s a1 la1
  have la3 : a3 ≤ s.size := by rw [ea3]; exact has_lt bexp la2
  have HC := Lib.hid h
  obtain ⟨c0, c1, c2, f1, f2⟩ := h.cells
  clear h
  have RKA := Lib.hid rka
  clear rka
  have EA0 := Lib.hid ea0
  clear ea0
  have BDOT := Lib.hid bdot
  clear bdot
  have EA1 := Lib.hid ea1
  clear ea1
  have RKB := Lib.hid rkb
  clear rkb
  have NKB := Lib.hid nkb
  clear nkb
  have EA2 := Lib.hid ea2
  clear ea2
  have BEXP := Lib.hid bexp
  clear bexp
  have EA3 := Lib.hid ea3
  clear ea3
  have BPLUS := Lib.hid bplus
  clear bplus
  have BMINUS := Lib.hid bminus
  clear bminus
  have RKD := Lib.hid rkd
  clear rkd
  have NKD := Lib.hid nkd
  clear nkd
  go_enter Tryz.func17, Tryz.ntmps17
  go_wp2_with (first | (go_at_call 37; (with_reducible refine (row_c [3] _ _ (by with_unfolding_all rfl) _ (by with_unfolding_all rfl) ka RKA.out HC.out la hs (by with_unfolding_all decide)).mono ?_)))
  rintro e w1 ⟨rfl, h1⟩
  rw [← EA0.out] at h1
  obtain ⟨c0, c1, c2, f1, f2⟩ := h1.cells
  have H1 := Lib.hid h1
  clear h1
  go_wp2_with (first | (go_at_call 39; (with_reducible refine (has_c _ [46] (by with_unfolding_all rfl) true BDOT.out H1.out la0).mono ?_)))
  rintro e w2 ⟨rfl, h2⟩
  obtain ⟨c0, c1, c2, f1, f2⟩ := h2.cells
  have H2 := Lib.hid h2
  clear h2
  go_wp2_with (first | (go_at_call 40; (with_reducible refine (digits_s kb a2 RKB.out NKB.out EA2.out (H2.out.set1 a1 _ (by have := EA1.out; omega)) la1 hs).mono ?_)))
  rintro e w3 ⟨rfl, h3⟩
  obtain ⟨c0, c1, c2, f1, f2⟩ := h3.cells
  have H3 := Lib.hid h3
  clear h3
  go_wp2_with (first | (go_at_call 39; (with_reducible refine (has_c _ [101] (by with_unfolding_all rfl) true BEXP.out H3.out la2).mono ?_)))
  rintro e w4 ⟨rfl, h4⟩
  obtain ⟨c0, c1, c2, f1, f2⟩ := h4.cells
  have H4 := Lib.hid h4
  clear h4
  go_wp2_with (first | (go_at_call 39; (with_reducible refine (has_c _ [43] (by with_unfolding_all rfl) false BPLUS.out (H4.out.set1 a3 _ (by have := EA3.out; omega)) la3).mono ?_)))
  rintro e w5 ⟨rfl, h5⟩
  obtain ⟨c0, c1, c2, f1, f2⟩ := h5.cells
  have H5 := Lib.hid h5
  clear h5
  go_wp2_with (first | (go_at_call 39; (with_reducible refine (has_c _ [45] (by with_unfolding_all rfl) false BMINUS.out H5.out la3).mono ?_)))
  rintro e w6 ⟨rfl, h6⟩
  obtain ⟨c0, c1, c2, f1, f2⟩ := h6.cells
  have H6 := Lib.hid h6
  clear h6
  go_wp2_with (first | (go_at_call 40; (with_reducible refine (digits_z kd RKD.out NKD.out H6.out la3 hs).mono ?_)))
  rintro e w7 ⟨rfl, h7⟩
  obtain ⟨c0, c1, c2, f1, f2⟩ := h7.cells
  have H7 := Lib.hid h7
  clear h7
  go_wp2
  go_ret
  exact ⟨rfl, H7.out⟩

set_option maxHeartbeats 2000000 in
theorem lit_e_row {w0 w : World} {g a : Nat} {s : ByteArray} {W : World} (ka : Nat) (rka : runL [3] (from_ s a) = ka) (a0 : Nat) (ea0 : a0 = a + ka) (bdot : hasL [46] (from_ s a0) = true) (a1 : Nat) (ea1 : a1 = a0 + 1) (kb : Nat) (rkb : runL [3] (from_ s a1) = kb) (nkb : kb ≠ 0) (a2 : Nat) (ea2 : a2 = a1 + kb) (bexp : hasL [101] (from_ s a2) = true) (a3 : Nat) (ea3 : a3 = a2 + 1) (bplus : hasL [43] (from_ s a3) = false) (bminus : hasL [45] (from_ s a3) = false) (kd : Nat) (rkd : runL [3] (from_ s a3) = kd) (nkd : kd ≠ 0) (a5 : Nat) (ea5 : a5 = a3 + kd) (kt : Nat) (rkt : runL [2, 3] (from_ s a5) = kt) (a6 : Nat) (ea6 : a6 = a5 + kt) (nkt : kt ≠ 0) (h : Cu w0 w g s a (-1) W) (ha : a ≤ s.size) (hs : s.size ≤ 1000000) :
    Calls Tryz.prog 17 #[.pointer (some ⟨g, 0, none⟩)] W fun e w' => e = .returned (.int .u8 5) ∧ Cu w0 w g s a6 (a5 : Int) w' := by
  have la := ha
  have la0 : a0 ≤ s.size := by rw [ea0, ← rka]; exact run_from _ s a la
  have la1 : a1 ≤ s.size := by rw [ea1]; exact has_lt bdot la0
  have la2 : a2 ≤ s.size := by rw [ea2, ← rkb]; exact run_from _ s a1 la1
  have la3 : a3 ≤ s.size := by rw [ea3]; exact has_lt bexp la2
  have la5 : a5 ≤ s.size := by rw [ea5, ← rkd]; exact run_from _ s a3 la3
  have la6 : a6 ≤ s.size := by rw [ea6, ← rkt]; exact run_from _ s a5 la5
  have HC := Lib.hid h
  obtain ⟨c0, c1, c2, f1, f2⟩ := h.cells
  clear h
  have RKA := Lib.hid rka
  clear rka
  have EA0 := Lib.hid ea0
  clear ea0
  have BDOT := Lib.hid bdot
  clear bdot
  have EA1 := Lib.hid ea1
  clear ea1
  have RKB := Lib.hid rkb
  clear rkb
  have NKB := Lib.hid nkb
  clear nkb
  have EA2 := Lib.hid ea2
  clear ea2
  have BEXP := Lib.hid bexp
  clear bexp
  have EA3 := Lib.hid ea3
  clear ea3
  have BPLUS := Lib.hid bplus
  clear bplus
  have BMINUS := Lib.hid bminus
  clear bminus
  have RKD := Lib.hid rkd
  clear rkd
  have NKD := Lib.hid nkd
  clear nkd
  have EA5 := Lib.hid ea5
  clear ea5
  have dt : 1 ≤ kt := by omega
  clear nkt
  have RKT := Lib.hid rkt
  clear rkt
  have EA6 := Lib.hid ea6
  clear ea6
  go_enter Tryz.func17, Tryz.ntmps17
  go_wp2_with (first | (go_at_call 37; (with_reducible refine (row_c [3] _ _ (by with_unfolding_all rfl) _ (by with_unfolding_all rfl) ka RKA.out HC.out la hs (by with_unfolding_all decide)).mono ?_)))
  rintro e w1 ⟨rfl, h1⟩
  rw [← EA0.out] at h1
  obtain ⟨c0, c1, c2, f1, f2⟩ := h1.cells
  have H1 := Lib.hid h1
  clear h1
  go_wp2_with (first | (go_at_call 39; (with_reducible refine (has_c _ [46] (by with_unfolding_all rfl) true BDOT.out H1.out la0).mono ?_)))
  rintro e w2 ⟨rfl, h2⟩
  obtain ⟨c0, c1, c2, f1, f2⟩ := h2.cells
  have H2 := Lib.hid h2
  clear h2
  go_wp2_with (first | (go_at_call 40; (with_reducible refine (digits_s kb a2 RKB.out NKB.out EA2.out (H2.out.set1 a1 _ (by have := EA1.out; omega)) la1 hs).mono ?_)))
  rintro e w3 ⟨rfl, h3⟩
  obtain ⟨c0, c1, c2, f1, f2⟩ := h3.cells
  have H3 := Lib.hid h3
  clear h3
  go_wp2_with (first | (go_at_call 39; (with_reducible refine (has_c _ [101] (by with_unfolding_all rfl) true BEXP.out H3.out la2).mono ?_)))
  rintro e w4 ⟨rfl, h4⟩
  obtain ⟨c0, c1, c2, f1, f2⟩ := h4.cells
  have H4 := Lib.hid h4
  clear h4
  go_wp2_with (first | (go_at_call 39; (with_reducible refine (has_c _ [43] (by with_unfolding_all rfl) false BPLUS.out (H4.out.set1 a3 _ (by have := EA3.out; omega)) la3).mono ?_)))
  rintro e w5 ⟨rfl, h5⟩
  obtain ⟨c0, c1, c2, f1, f2⟩ := h5.cells
  have H5 := Lib.hid h5
  clear h5
  go_wp2_with (first | (go_at_call 39; (with_reducible refine (has_c _ [45] (by with_unfolding_all rfl) false BMINUS.out H5.out la3).mono ?_)))
  rintro e w6 ⟨rfl, h6⟩
  obtain ⟨c0, c1, c2, f1, f2⟩ := h6.cells
  have H6 := Lib.hid h6
  clear h6
  go_wp2_with (first | (go_at_call 40; (with_reducible refine (digits_s kd a5 RKD.out NKD.out EA5.out H6.out la3 hs).mono ?_)))
  rintro e w7 ⟨rfl, h7⟩
  obtain ⟨c0, c1, c2, f1, f2⟩ := h7.cells
  have H7 := Lib.hid h7
  clear h7
  go_wp2_with (first | (go_at_call 37; (with_reducible refine (row_c [2, 3] _ _ (by with_unfolding_all rfl) _ (by with_unfolding_all rfl) kt RKT.out H7.out la5 hs (by with_unfolding_all decide)).mono ?_)))
  rintro e w8 ⟨rfl, h8⟩
  rw [← EA6.out] at h8
  obtain ⟨c0, c1, c2, f1, f2⟩ := h8.cells
  have H8 := Lib.hid h8
  clear h8
  go_wp2
  go_ret
  exact ⟨rfl, H8.out.set2 _⟩

set_option maxHeartbeats 2000000 in
theorem lit_e_dot {w0 w : World} {g a : Nat} {s : ByteArray} {W : World} (ka : Nat) (rka : runL [3] (from_ s a) = ka) (a0 : Nat) (ea0 : a0 = a + ka) (bdot : hasL [46] (from_ s a0) = true) (a1 : Nat) (ea1 : a1 = a0 + 1) (kb : Nat) (rkb : runL [3] (from_ s a1) = kb) (nkb : kb ≠ 0) (a2 : Nat) (ea2 : a2 = a1 + kb) (bexp : hasL [101] (from_ s a2) = true) (a3 : Nat) (ea3 : a3 = a2 + 1) (bplus : hasL [43] (from_ s a3) = false) (bminus : hasL [45] (from_ s a3) = false) (kd : Nat) (rkd : runL [3] (from_ s a3) = kd) (nkd : kd ≠ 0) (a5 : Nat) (ea5 : a5 = a3 + kd) (r0 : runL [2, 3] (from_ s a5) = 0) (bdot2 : hasL [46] (from_ s a5) = true) (h : Cu w0 w g s a (-1) W) (ha : a ≤ s.size) (hs : s.size ≤ 1000000) :
    Calls Tryz.prog 17 #[.pointer (some ⟨g, 0, none⟩)] W fun e w' => e = .returned (.int .u8 5) ∧ Cu w0 w g s a5 (a5 : Int) w' := by
  have la := ha
  have la0 : a0 ≤ s.size := by rw [ea0, ← rka]; exact run_from _ s a la
  have la1 : a1 ≤ s.size := by rw [ea1]; exact has_lt bdot la0
  have la2 : a2 ≤ s.size := by rw [ea2, ← rkb]; exact run_from _ s a1 la1
  have la3 : a3 ≤ s.size := by rw [ea3]; exact has_lt bexp la2
  have la5 : a5 ≤ s.size := by rw [ea5, ← rkd]; exact run_from _ s a3 la3
  have HC := Lib.hid h
  obtain ⟨c0, c1, c2, f1, f2⟩ := h.cells
  clear h
  have RKA := Lib.hid rka
  clear rka
  have EA0 := Lib.hid ea0
  clear ea0
  have BDOT := Lib.hid bdot
  clear bdot
  have EA1 := Lib.hid ea1
  clear ea1
  have RKB := Lib.hid rkb
  clear rkb
  have NKB := Lib.hid nkb
  clear nkb
  have EA2 := Lib.hid ea2
  clear ea2
  have BEXP := Lib.hid bexp
  clear bexp
  have EA3 := Lib.hid ea3
  clear ea3
  have BPLUS := Lib.hid bplus
  clear bplus
  have BMINUS := Lib.hid bminus
  clear bminus
  have RKD := Lib.hid rkd
  clear rkd
  have NKD := Lib.hid nkd
  clear nkd
  have EA5 := Lib.hid ea5
  clear ea5
  have R0 := Lib.hid r0
  clear r0
  have BDOT2 := Lib.hid bdot2
  clear bdot2
  go_enter Tryz.func17, Tryz.ntmps17
  go_wp2_with (first | (go_at_call 37; (with_reducible refine (row_c [3] _ _ (by with_unfolding_all rfl) _ (by with_unfolding_all rfl) ka RKA.out HC.out la hs (by with_unfolding_all decide)).mono ?_)))
  rintro e w1 ⟨rfl, h1⟩
  rw [← EA0.out] at h1
  obtain ⟨c0, c1, c2, f1, f2⟩ := h1.cells
  have H1 := Lib.hid h1
  clear h1
  go_wp2_with (first | (go_at_call 39; (with_reducible refine (has_c _ [46] (by with_unfolding_all rfl) true BDOT.out H1.out la0).mono ?_)))
  rintro e w2 ⟨rfl, h2⟩
  obtain ⟨c0, c1, c2, f1, f2⟩ := h2.cells
  have H2 := Lib.hid h2
  clear h2
  go_wp2_with (first | (go_at_call 40; (with_reducible refine (digits_s kb a2 RKB.out NKB.out EA2.out (H2.out.set1 a1 _ (by have := EA1.out; omega)) la1 hs).mono ?_)))
  rintro e w3 ⟨rfl, h3⟩
  obtain ⟨c0, c1, c2, f1, f2⟩ := h3.cells
  have H3 := Lib.hid h3
  clear h3
  go_wp2_with (first | (go_at_call 39; (with_reducible refine (has_c _ [101] (by with_unfolding_all rfl) true BEXP.out H3.out la2).mono ?_)))
  rintro e w4 ⟨rfl, h4⟩
  obtain ⟨c0, c1, c2, f1, f2⟩ := h4.cells
  have H4 := Lib.hid h4
  clear h4
  go_wp2_with (first | (go_at_call 39; (with_reducible refine (has_c _ [43] (by with_unfolding_all rfl) false BPLUS.out (H4.out.set1 a3 _ (by have := EA3.out; omega)) la3).mono ?_)))
  rintro e w5 ⟨rfl, h5⟩
  obtain ⟨c0, c1, c2, f1, f2⟩ := h5.cells
  have H5 := Lib.hid h5
  clear h5
  go_wp2_with (first | (go_at_call 39; (with_reducible refine (has_c _ [45] (by with_unfolding_all rfl) false BMINUS.out H5.out la3).mono ?_)))
  rintro e w6 ⟨rfl, h6⟩
  obtain ⟨c0, c1, c2, f1, f2⟩ := h6.cells
  have H6 := Lib.hid h6
  clear h6
  go_wp2_with (first | (go_at_call 40; (with_reducible refine (digits_s kd a5 RKD.out NKD.out EA5.out H6.out la3 hs).mono ?_)))
  rintro e w7 ⟨rfl, h7⟩
  obtain ⟨c0, c1, c2, f1, f2⟩ := h7.cells
  have H7 := Lib.hid h7
  clear h7
  go_wp2_with (first | (go_at_call 37; (with_reducible refine (row_c [2, 3] _ _ (by with_unfolding_all rfl) _ (by with_unfolding_all rfl) 0 R0.out H7.out la5 hs (by with_unfolding_all decide)).mono ?_)))
  rintro e w8 ⟨rfl, h8⟩
  obtain ⟨c0, c1, c2, f1, f2⟩ := h8.cells
  have H8 := Lib.hid h8
  clear h8
  go_wp2_with (first | (go_at_call 39; (with_reducible refine (has_c _ [46] (by with_unfolding_all rfl) true BDOT2.out (cu0 H8.out) la5).mono ?_)))
  rintro e w9 ⟨rfl, h9⟩
  obtain ⟨c0, c1, c2, f1, f2⟩ := h9.cells
  have H9 := Lib.hid h9
  clear h9
  go_wp2
  go_ret
  exact ⟨rfl, H9.out.set2 _⟩

set_option maxHeartbeats 2000000 in
theorem lit_e_ok {w0 w : World} {g a : Nat} {s : ByteArray} {W : World} (ka : Nat) (rka : runL [3] (from_ s a) = ka) (a0 : Nat) (ea0 : a0 = a + ka) (bdot : hasL [46] (from_ s a0) = true) (a1 : Nat) (ea1 : a1 = a0 + 1) (kb : Nat) (rkb : runL [3] (from_ s a1) = kb) (nkb : kb ≠ 0) (a2 : Nat) (ea2 : a2 = a1 + kb) (bexp : hasL [101] (from_ s a2) = true) (a3 : Nat) (ea3 : a3 = a2 + 1) (bplus : hasL [43] (from_ s a3) = false) (bminus : hasL [45] (from_ s a3) = false) (kd : Nat) (rkd : runL [3] (from_ s a3) = kd) (nkd : kd ≠ 0) (a5 : Nat) (ea5 : a5 = a3 + kd) (r0 : runL [2, 3] (from_ s a5) = 0) (bdot2 : hasL [46] (from_ s a5) = false) (h : Cu w0 w g s a (-1) W) (ha : a ≤ s.size) (hs : s.size ≤ 1000000) :
    Calls Tryz.prog 17 #[.pointer (some ⟨g, 0, none⟩)] W fun e w' => e = .returned (.int .u8 5) ∧ Cu w0 w g s a5 (-1) w' := by
  have la := ha
  have la0 : a0 ≤ s.size := by rw [ea0, ← rka]; exact run_from _ s a la
  have la1 : a1 ≤ s.size := by rw [ea1]; exact has_lt bdot la0
  have la2 : a2 ≤ s.size := by rw [ea2, ← rkb]; exact run_from _ s a1 la1
  have la3 : a3 ≤ s.size := by rw [ea3]; exact has_lt bexp la2
  have la5 : a5 ≤ s.size := by rw [ea5, ← rkd]; exact run_from _ s a3 la3
  have HC := Lib.hid h
  obtain ⟨c0, c1, c2, f1, f2⟩ := h.cells
  clear h
  have RKA := Lib.hid rka
  clear rka
  have EA0 := Lib.hid ea0
  clear ea0
  have BDOT := Lib.hid bdot
  clear bdot
  have EA1 := Lib.hid ea1
  clear ea1
  have RKB := Lib.hid rkb
  clear rkb
  have NKB := Lib.hid nkb
  clear nkb
  have EA2 := Lib.hid ea2
  clear ea2
  have BEXP := Lib.hid bexp
  clear bexp
  have EA3 := Lib.hid ea3
  clear ea3
  have BPLUS := Lib.hid bplus
  clear bplus
  have BMINUS := Lib.hid bminus
  clear bminus
  have RKD := Lib.hid rkd
  clear rkd
  have NKD := Lib.hid nkd
  clear nkd
  have EA5 := Lib.hid ea5
  clear ea5
  have R0 := Lib.hid r0
  clear r0
  have BDOT2 := Lib.hid bdot2
  clear bdot2
  go_enter Tryz.func17, Tryz.ntmps17
  go_wp2_with (first | (go_at_call 37; (with_reducible refine (row_c [3] _ _ (by with_unfolding_all rfl) _ (by with_unfolding_all rfl) ka RKA.out HC.out la hs (by with_unfolding_all decide)).mono ?_)))
  rintro e w1 ⟨rfl, h1⟩
  rw [← EA0.out] at h1
  obtain ⟨c0, c1, c2, f1, f2⟩ := h1.cells
  have H1 := Lib.hid h1
  clear h1
  go_wp2_with (first | (go_at_call 39; (with_reducible refine (has_c _ [46] (by with_unfolding_all rfl) true BDOT.out H1.out la0).mono ?_)))
  rintro e w2 ⟨rfl, h2⟩
  obtain ⟨c0, c1, c2, f1, f2⟩ := h2.cells
  have H2 := Lib.hid h2
  clear h2
  go_wp2_with (first | (go_at_call 40; (with_reducible refine (digits_s kb a2 RKB.out NKB.out EA2.out (H2.out.set1 a1 _ (by have := EA1.out; omega)) la1 hs).mono ?_)))
  rintro e w3 ⟨rfl, h3⟩
  obtain ⟨c0, c1, c2, f1, f2⟩ := h3.cells
  have H3 := Lib.hid h3
  clear h3
  go_wp2_with (first | (go_at_call 39; (with_reducible refine (has_c _ [101] (by with_unfolding_all rfl) true BEXP.out H3.out la2).mono ?_)))
  rintro e w4 ⟨rfl, h4⟩
  obtain ⟨c0, c1, c2, f1, f2⟩ := h4.cells
  have H4 := Lib.hid h4
  clear h4
  go_wp2_with (first | (go_at_call 39; (with_reducible refine (has_c _ [43] (by with_unfolding_all rfl) false BPLUS.out (H4.out.set1 a3 _ (by have := EA3.out; omega)) la3).mono ?_)))
  rintro e w5 ⟨rfl, h5⟩
  obtain ⟨c0, c1, c2, f1, f2⟩ := h5.cells
  have H5 := Lib.hid h5
  clear h5
  go_wp2_with (first | (go_at_call 39; (with_reducible refine (has_c _ [45] (by with_unfolding_all rfl) false BMINUS.out H5.out la3).mono ?_)))
  rintro e w6 ⟨rfl, h6⟩
  obtain ⟨c0, c1, c2, f1, f2⟩ := h6.cells
  have H6 := Lib.hid h6
  clear h6
  go_wp2_with (first | (go_at_call 40; (with_reducible refine (digits_s kd a5 RKD.out NKD.out EA5.out H6.out la3 hs).mono ?_)))
  rintro e w7 ⟨rfl, h7⟩
  obtain ⟨c0, c1, c2, f1, f2⟩ := h7.cells
  have H7 := Lib.hid h7
  clear h7
  go_wp2_with (first | (go_at_call 37; (with_reducible refine (row_c [2, 3] _ _ (by with_unfolding_all rfl) _ (by with_unfolding_all rfl) 0 R0.out H7.out la5 hs (by with_unfolding_all decide)).mono ?_)))
  rintro e w8 ⟨rfl, h8⟩
  obtain ⟨c0, c1, c2, f1, f2⟩ := h8.cells
  have H8 := Lib.hid h8
  clear h8
  go_wp2_with (first | (go_at_call 39; (with_reducible refine (has_c _ [46] (by with_unfolding_all rfl) false BDOT2.out (cu0 H8.out) la5).mono ?_)))
  rintro e w9 ⟨rfl, h9⟩
  obtain ⟨c0, c1, c2, f1, f2⟩ := h9.cells
  have H9 := Lib.hid h9
  clear h9
  go_wp2
  go_ret
  exact ⟨rfl, H9.out⟩

set_option maxHeartbeats 2000000 in
theorem lit_ep_z {w0 w : World} {g a : Nat} {s : ByteArray} {W : World} (ka : Nat) (rka : runL [3] (from_ s a) = ka) (a0 : Nat) (ea0 : a0 = a + ka) (bdot : hasL [46] (from_ s a0) = true) (a1 : Nat) (ea1 : a1 = a0 + 1) (kb : Nat) (rkb : runL [3] (from_ s a1) = kb) (nkb : kb ≠ 0) (a2 : Nat) (ea2 : a2 = a1 + kb) (bexp : hasL [101] (from_ s a2) = true) (a3 : Nat) (ea3 : a3 = a2 + 1) (bplus : hasL [43] (from_ s a3) = true) (a4 : Nat) (ea4 : a4 = a3 + 1) (kd : Nat) (rkd : runL [3] (from_ s a4) = kd) (nkd : kd = 0) (h : Cu w0 w g s a (-1) W) (ha : a ≤ s.size) (hs : s.size ≤ 1000000) :
    Calls Tryz.prog 17 #[.pointer (some ⟨g, 0, none⟩)] W fun e w' => e = .returned (.int .u8 5) ∧ Cu w0 w g s a4 (a4 : Int) w' := by
  have la := ha
  have la0 : a0 ≤ s.size := by rw [ea0, ← rka]; exact run_from _ s a la
  have la1 : a1 ≤ s.size := by rw [ea1]; exact has_lt bdot la0
  have la2 : a2 ≤ s.size := by rw [ea2, ← rkb]; exact run_from _ s a1 la1
  have la3 : a3 ≤ s.size := by rw [ea3]; exact has_lt bexp la2
  have la4 : a4 ≤ s.size := by rw [ea4]; exact has_lt bplus la3
  have HC := Lib.hid h
  obtain ⟨c0, c1, c2, f1, f2⟩ := h.cells
  clear h
  have RKA := Lib.hid rka
  clear rka
  have EA0 := Lib.hid ea0
  clear ea0
  have BDOT := Lib.hid bdot
  clear bdot
  have EA1 := Lib.hid ea1
  clear ea1
  have RKB := Lib.hid rkb
  clear rkb
  have NKB := Lib.hid nkb
  clear nkb
  have EA2 := Lib.hid ea2
  clear ea2
  have BEXP := Lib.hid bexp
  clear bexp
  have EA3 := Lib.hid ea3
  clear ea3
  have BPLUS := Lib.hid bplus
  clear bplus
  have EA4 := Lib.hid ea4
  clear ea4
  have RKD := Lib.hid rkd
  clear rkd
  have NKD := Lib.hid nkd
  clear nkd
  go_enter Tryz.func17, Tryz.ntmps17
  go_wp2_with (first | (go_at_call 37; (with_reducible refine (row_c [3] _ _ (by with_unfolding_all rfl) _ (by with_unfolding_all rfl) ka RKA.out HC.out la hs (by with_unfolding_all decide)).mono ?_)))
  rintro e w1 ⟨rfl, h1⟩
  rw [← EA0.out] at h1
  obtain ⟨c0, c1, c2, f1, f2⟩ := h1.cells
  have H1 := Lib.hid h1
  clear h1
  go_wp2_with (first | (go_at_call 39; (with_reducible refine (has_c _ [46] (by with_unfolding_all rfl) true BDOT.out H1.out la0).mono ?_)))
  rintro e w2 ⟨rfl, h2⟩
  obtain ⟨c0, c1, c2, f1, f2⟩ := h2.cells
  have H2 := Lib.hid h2
  clear h2
  go_wp2_with (first | (go_at_call 40; (with_reducible refine (digits_s kb a2 RKB.out NKB.out EA2.out (H2.out.set1 a1 _ (by have := EA1.out; omega)) la1 hs).mono ?_)))
  rintro e w3 ⟨rfl, h3⟩
  obtain ⟨c0, c1, c2, f1, f2⟩ := h3.cells
  have H3 := Lib.hid h3
  clear h3
  go_wp2_with (first | (go_at_call 39; (with_reducible refine (has_c _ [101] (by with_unfolding_all rfl) true BEXP.out H3.out la2).mono ?_)))
  rintro e w4 ⟨rfl, h4⟩
  obtain ⟨c0, c1, c2, f1, f2⟩ := h4.cells
  have H4 := Lib.hid h4
  clear h4
  go_wp2_with (first | (go_at_call 39; (with_reducible refine (has_c _ [43] (by with_unfolding_all rfl) true BPLUS.out (H4.out.set1 a3 _ (by have := EA3.out; omega)) la3).mono ?_)))
  rintro e w5 ⟨rfl, h5⟩
  obtain ⟨c0, c1, c2, f1, f2⟩ := h5.cells
  have H5 := Lib.hid h5
  clear h5
  go_wp2_with (first | (go_at_call 40; (with_reducible refine (digits_z kd RKD.out NKD.out (H5.out.set1 a4 _ (by have := EA4.out; omega)) la4 hs).mono ?_)))
  rintro e w6 ⟨rfl, h6⟩
  obtain ⟨c0, c1, c2, f1, f2⟩ := h6.cells
  have H6 := Lib.hid h6
  clear h6
  go_wp2
  go_ret
  exact ⟨rfl, H6.out⟩

set_option maxHeartbeats 2000000 in
theorem lit_ep_row {w0 w : World} {g a : Nat} {s : ByteArray} {W : World} (ka : Nat) (rka : runL [3] (from_ s a) = ka) (a0 : Nat) (ea0 : a0 = a + ka) (bdot : hasL [46] (from_ s a0) = true) (a1 : Nat) (ea1 : a1 = a0 + 1) (kb : Nat) (rkb : runL [3] (from_ s a1) = kb) (nkb : kb ≠ 0) (a2 : Nat) (ea2 : a2 = a1 + kb) (bexp : hasL [101] (from_ s a2) = true) (a3 : Nat) (ea3 : a3 = a2 + 1) (bplus : hasL [43] (from_ s a3) = true) (a4 : Nat) (ea4 : a4 = a3 + 1) (kd : Nat) (rkd : runL [3] (from_ s a4) = kd) (nkd : kd ≠ 0) (a5 : Nat) (ea5 : a5 = a4 + kd) (kt : Nat) (rkt : runL [2, 3] (from_ s a5) = kt) (a6 : Nat) (ea6 : a6 = a5 + kt) (nkt : kt ≠ 0) (h : Cu w0 w g s a (-1) W) (ha : a ≤ s.size) (hs : s.size ≤ 1000000) :
    Calls Tryz.prog 17 #[.pointer (some ⟨g, 0, none⟩)] W fun e w' => e = .returned (.int .u8 5) ∧ Cu w0 w g s a6 (a5 : Int) w' := by
  have la := ha
  have la0 : a0 ≤ s.size := by rw [ea0, ← rka]; exact run_from _ s a la
  have la1 : a1 ≤ s.size := by rw [ea1]; exact has_lt bdot la0
  have la2 : a2 ≤ s.size := by rw [ea2, ← rkb]; exact run_from _ s a1 la1
  have la3 : a3 ≤ s.size := by rw [ea3]; exact has_lt bexp la2
  have la4 : a4 ≤ s.size := by rw [ea4]; exact has_lt bplus la3
  have la5 : a5 ≤ s.size := by rw [ea5, ← rkd]; exact run_from _ s a4 la4
  have la6 : a6 ≤ s.size := by rw [ea6, ← rkt]; exact run_from _ s a5 la5
  have HC := Lib.hid h
  obtain ⟨c0, c1, c2, f1, f2⟩ := h.cells
  clear h
  have RKA := Lib.hid rka
  clear rka
  have EA0 := Lib.hid ea0
  clear ea0
  have BDOT := Lib.hid bdot
  clear bdot
  have EA1 := Lib.hid ea1
  clear ea1
  have RKB := Lib.hid rkb
  clear rkb
  have NKB := Lib.hid nkb
  clear nkb
  have EA2 := Lib.hid ea2
  clear ea2
  have BEXP := Lib.hid bexp
  clear bexp
  have EA3 := Lib.hid ea3
  clear ea3
  have BPLUS := Lib.hid bplus
  clear bplus
  have EA4 := Lib.hid ea4
  clear ea4
  have RKD := Lib.hid rkd
  clear rkd
  have NKD := Lib.hid nkd
  clear nkd
  have EA5 := Lib.hid ea5
  clear ea5
  have dt : 1 ≤ kt := by omega
  clear nkt
  have RKT := Lib.hid rkt
  clear rkt
  have EA6 := Lib.hid ea6
  clear ea6
  go_enter Tryz.func17, Tryz.ntmps17
  go_wp2_with (first | (go_at_call 37; (with_reducible refine (row_c [3] _ _ (by with_unfolding_all rfl) _ (by with_unfolding_all rfl) ka RKA.out HC.out la hs (by with_unfolding_all decide)).mono ?_)))
  rintro e w1 ⟨rfl, h1⟩
  rw [← EA0.out] at h1
  obtain ⟨c0, c1, c2, f1, f2⟩ := h1.cells
  have H1 := Lib.hid h1
  clear h1
  go_wp2_with (first | (go_at_call 39; (with_reducible refine (has_c _ [46] (by with_unfolding_all rfl) true BDOT.out H1.out la0).mono ?_)))
  rintro e w2 ⟨rfl, h2⟩
  obtain ⟨c0, c1, c2, f1, f2⟩ := h2.cells
  have H2 := Lib.hid h2
  clear h2
  go_wp2_with (first | (go_at_call 40; (with_reducible refine (digits_s kb a2 RKB.out NKB.out EA2.out (H2.out.set1 a1 _ (by have := EA1.out; omega)) la1 hs).mono ?_)))
  rintro e w3 ⟨rfl, h3⟩
  obtain ⟨c0, c1, c2, f1, f2⟩ := h3.cells
  have H3 := Lib.hid h3
  clear h3
  go_wp2_with (first | (go_at_call 39; (with_reducible refine (has_c _ [101] (by with_unfolding_all rfl) true BEXP.out H3.out la2).mono ?_)))
  rintro e w4 ⟨rfl, h4⟩
  obtain ⟨c0, c1, c2, f1, f2⟩ := h4.cells
  have H4 := Lib.hid h4
  clear h4
  go_wp2_with (first | (go_at_call 39; (with_reducible refine (has_c _ [43] (by with_unfolding_all rfl) true BPLUS.out (H4.out.set1 a3 _ (by have := EA3.out; omega)) la3).mono ?_)))
  rintro e w5 ⟨rfl, h5⟩
  obtain ⟨c0, c1, c2, f1, f2⟩ := h5.cells
  have H5 := Lib.hid h5
  clear h5
  go_wp2_with (first | (go_at_call 40; (with_reducible refine (digits_s kd a5 RKD.out NKD.out EA5.out (H5.out.set1 a4 _ (by have := EA4.out; omega)) la4 hs).mono ?_)))
  rintro e w6 ⟨rfl, h6⟩
  obtain ⟨c0, c1, c2, f1, f2⟩ := h6.cells
  have H6 := Lib.hid h6
  clear h6
  go_wp2_with (first | (go_at_call 37; (with_reducible refine (row_c [2, 3] _ _ (by with_unfolding_all rfl) _ (by with_unfolding_all rfl) kt RKT.out H6.out la5 hs (by with_unfolding_all decide)).mono ?_)))
  rintro e w7 ⟨rfl, h7⟩
  rw [← EA6.out] at h7
  obtain ⟨c0, c1, c2, f1, f2⟩ := h7.cells
  have H7 := Lib.hid h7
  clear h7
  go_wp2
  go_ret
  exact ⟨rfl, H7.out.set2 _⟩

set_option maxHeartbeats 2000000 in
theorem lit_ep_dot {w0 w : World} {g a : Nat} {s : ByteArray} {W : World} (ka : Nat) (rka : runL [3] (from_ s a) = ka) (a0 : Nat) (ea0 : a0 = a + ka) (bdot : hasL [46] (from_ s a0) = true) (a1 : Nat) (ea1 : a1 = a0 + 1) (kb : Nat) (rkb : runL [3] (from_ s a1) = kb) (nkb : kb ≠ 0) (a2 : Nat) (ea2 : a2 = a1 + kb) (bexp : hasL [101] (from_ s a2) = true) (a3 : Nat) (ea3 : a3 = a2 + 1) (bplus : hasL [43] (from_ s a3) = true) (a4 : Nat) (ea4 : a4 = a3 + 1) (kd : Nat) (rkd : runL [3] (from_ s a4) = kd) (nkd : kd ≠ 0) (a5 : Nat) (ea5 : a5 = a4 + kd) (r0 : runL [2, 3] (from_ s a5) = 0) (bdot2 : hasL [46] (from_ s a5) = true) (h : Cu w0 w g s a (-1) W) (ha : a ≤ s.size) (hs : s.size ≤ 1000000) :
    Calls Tryz.prog 17 #[.pointer (some ⟨g, 0, none⟩)] W fun e w' => e = .returned (.int .u8 5) ∧ Cu w0 w g s a5 (a5 : Int) w' := by
  have la := ha
  have la0 : a0 ≤ s.size := by rw [ea0, ← rka]; exact run_from _ s a la
  have la1 : a1 ≤ s.size := by rw [ea1]; exact has_lt bdot la0
  have la2 : a2 ≤ s.size := by rw [ea2, ← rkb]; exact run_from _ s a1 la1
  have la3 : a3 ≤ s.size := by rw [ea3]; exact has_lt bexp la2
  have la4 : a4 ≤ s.size := by rw [ea4]; exact has_lt bplus la3
  have la5 : a5 ≤ s.size := by rw [ea5, ← rkd]; exact run_from _ s a4 la4
  have HC := Lib.hid h
  obtain ⟨c0, c1, c2, f1, f2⟩ := h.cells
  clear h
  have RKA := Lib.hid rka
  clear rka
  have EA0 := Lib.hid ea0
  clear ea0
  have BDOT := Lib.hid bdot
  clear bdot
  have EA1 := Lib.hid ea1
  clear ea1
  have RKB := Lib.hid rkb
  clear rkb
  have NKB := Lib.hid nkb
  clear nkb
  have EA2 := Lib.hid ea2
  clear ea2
  have BEXP := Lib.hid bexp
  clear bexp
  have EA3 := Lib.hid ea3
  clear ea3
  have BPLUS := Lib.hid bplus
  clear bplus
  have EA4 := Lib.hid ea4
  clear ea4
  have RKD := Lib.hid rkd
  clear rkd
  have NKD := Lib.hid nkd
  clear nkd
  have EA5 := Lib.hid ea5
  clear ea5
  have R0 := Lib.hid r0
  clear r0
  have BDOT2 := Lib.hid bdot2
  clear bdot2
  go_enter Tryz.func17, Tryz.ntmps17
  go_wp2_with (first | (go_at_call 37; (with_reducible refine (row_c [3] _ _ (by with_unfolding_all rfl) _ (by with_unfolding_all rfl) ka RKA.out HC.out la hs (by with_unfolding_all decide)).mono ?_)))
  rintro e w1 ⟨rfl, h1⟩
  rw [← EA0.out] at h1
  obtain ⟨c0, c1, c2, f1, f2⟩ := h1.cells
  have H1 := Lib.hid h1
  clear h1
  go_wp2_with (first | (go_at_call 39; (with_reducible refine (has_c _ [46] (by with_unfolding_all rfl) true BDOT.out H1.out la0).mono ?_)))
  rintro e w2 ⟨rfl, h2⟩
  obtain ⟨c0, c1, c2, f1, f2⟩ := h2.cells
  have H2 := Lib.hid h2
  clear h2
  go_wp2_with (first | (go_at_call 40; (with_reducible refine (digits_s kb a2 RKB.out NKB.out EA2.out (H2.out.set1 a1 _ (by have := EA1.out; omega)) la1 hs).mono ?_)))
  rintro e w3 ⟨rfl, h3⟩
  obtain ⟨c0, c1, c2, f1, f2⟩ := h3.cells
  have H3 := Lib.hid h3
  clear h3
  go_wp2_with (first | (go_at_call 39; (with_reducible refine (has_c _ [101] (by with_unfolding_all rfl) true BEXP.out H3.out la2).mono ?_)))
  rintro e w4 ⟨rfl, h4⟩
  obtain ⟨c0, c1, c2, f1, f2⟩ := h4.cells
  have H4 := Lib.hid h4
  clear h4
  go_wp2_with (first | (go_at_call 39; (with_reducible refine (has_c _ [43] (by with_unfolding_all rfl) true BPLUS.out (H4.out.set1 a3 _ (by have := EA3.out; omega)) la3).mono ?_)))
  rintro e w5 ⟨rfl, h5⟩
  obtain ⟨c0, c1, c2, f1, f2⟩ := h5.cells
  have H5 := Lib.hid h5
  clear h5
  go_wp2_with (first | (go_at_call 40; (with_reducible refine (digits_s kd a5 RKD.out NKD.out EA5.out (H5.out.set1 a4 _ (by have := EA4.out; omega)) la4 hs).mono ?_)))
  rintro e w6 ⟨rfl, h6⟩
  obtain ⟨c0, c1, c2, f1, f2⟩ := h6.cells
  have H6 := Lib.hid h6
  clear h6
  go_wp2_with (first | (go_at_call 37; (with_reducible refine (row_c [2, 3] _ _ (by with_unfolding_all rfl) _ (by with_unfolding_all rfl) 0 R0.out H6.out la5 hs (by with_unfolding_all decide)).mono ?_)))
  rintro e w7 ⟨rfl, h7⟩
  obtain ⟨c0, c1, c2, f1, f2⟩ := h7.cells
  have H7 := Lib.hid h7
  clear h7
  go_wp2_with (first | (go_at_call 39; (with_reducible refine (has_c _ [46] (by with_unfolding_all rfl) true BDOT2.out (cu0 H7.out) la5).mono ?_)))
  rintro e w8 ⟨rfl, h8⟩
  obtain ⟨c0, c1, c2, f1, f2⟩ := h8.cells
  have H8 := Lib.hid h8
  clear h8
  go_wp2
  go_ret
  exact ⟨rfl, H8.out.set2 _⟩

set_option maxHeartbeats 2000000 in
theorem lit_ep_ok {w0 w : World} {g a : Nat} {s : ByteArray} {W : World} (ka : Nat) (rka : runL [3] (from_ s a) = ka) (a0 : Nat) (ea0 : a0 = a + ka) (bdot : hasL [46] (from_ s a0) = true) (a1 : Nat) (ea1 : a1 = a0 + 1) (kb : Nat) (rkb : runL [3] (from_ s a1) = kb) (nkb : kb ≠ 0) (a2 : Nat) (ea2 : a2 = a1 + kb) (bexp : hasL [101] (from_ s a2) = true) (a3 : Nat) (ea3 : a3 = a2 + 1) (bplus : hasL [43] (from_ s a3) = true) (a4 : Nat) (ea4 : a4 = a3 + 1) (kd : Nat) (rkd : runL [3] (from_ s a4) = kd) (nkd : kd ≠ 0) (a5 : Nat) (ea5 : a5 = a4 + kd) (r0 : runL [2, 3] (from_ s a5) = 0) (bdot2 : hasL [46] (from_ s a5) = false) (h : Cu w0 w g s a (-1) W) (ha : a ≤ s.size) (hs : s.size ≤ 1000000) :
    Calls Tryz.prog 17 #[.pointer (some ⟨g, 0, none⟩)] W fun e w' => e = .returned (.int .u8 5) ∧ Cu w0 w g s a5 (-1) w' := by
  have la := ha
  have la0 : a0 ≤ s.size := by rw [ea0, ← rka]; exact run_from _ s a la
  have la1 : a1 ≤ s.size := by rw [ea1]; exact has_lt bdot la0
  have la2 : a2 ≤ s.size := by rw [ea2, ← rkb]; exact run_from _ s a1 la1
  have la3 : a3 ≤ s.size := by rw [ea3]; exact has_lt bexp la2
  have la4 : a4 ≤ s.size := by rw [ea4]; exact has_lt bplus la3
  have la5 : a5 ≤ s.size := by rw [ea5, ← rkd]; exact run_from _ s a4 la4
  have HC := Lib.hid h
  obtain ⟨c0, c1, c2, f1, f2⟩ := h.cells
  clear h
  have RKA := Lib.hid rka
  clear rka
  have EA0 := Lib.hid ea0
  clear ea0
  have BDOT := Lib.hid bdot
  clear bdot
  have EA1 := Lib.hid ea1
  clear ea1
  have RKB := Lib.hid rkb
  clear rkb
  have NKB := Lib.hid nkb
  clear nkb
  have EA2 := Lib.hid ea2
  clear ea2
  have BEXP := Lib.hid bexp
  clear bexp
  have EA3 := Lib.hid ea3
  clear ea3
  have BPLUS := Lib.hid bplus
  clear bplus
  have EA4 := Lib.hid ea4
  clear ea4
  have RKD := Lib.hid rkd
  clear rkd
  have NKD := Lib.hid nkd
  clear nkd
  have EA5 := Lib.hid ea5
  clear ea5
  have R0 := Lib.hid r0
  clear r0
  have BDOT2 := Lib.hid bdot2
  clear bdot2
  go_enter Tryz.func17, Tryz.ntmps17
  go_wp2_with (first | (go_at_call 37; (with_reducible refine (row_c [3] _ _ (by with_unfolding_all rfl) _ (by with_unfolding_all rfl) ka RKA.out HC.out la hs (by with_unfolding_all decide)).mono ?_)))
  rintro e w1 ⟨rfl, h1⟩
  rw [← EA0.out] at h1
  obtain ⟨c0, c1, c2, f1, f2⟩ := h1.cells
  have H1 := Lib.hid h1
  clear h1
  go_wp2_with (first | (go_at_call 39; (with_reducible refine (has_c _ [46] (by with_unfolding_all rfl) true BDOT.out H1.out la0).mono ?_)))
  rintro e w2 ⟨rfl, h2⟩
  obtain ⟨c0, c1, c2, f1, f2⟩ := h2.cells
  have H2 := Lib.hid h2
  clear h2
  go_wp2_with (first | (go_at_call 40; (with_reducible refine (digits_s kb a2 RKB.out NKB.out EA2.out (H2.out.set1 a1 _ (by have := EA1.out; omega)) la1 hs).mono ?_)))
  rintro e w3 ⟨rfl, h3⟩
  obtain ⟨c0, c1, c2, f1, f2⟩ := h3.cells
  have H3 := Lib.hid h3
  clear h3
  go_wp2_with (first | (go_at_call 39; (with_reducible refine (has_c _ [101] (by with_unfolding_all rfl) true BEXP.out H3.out la2).mono ?_)))
  rintro e w4 ⟨rfl, h4⟩
  obtain ⟨c0, c1, c2, f1, f2⟩ := h4.cells
  have H4 := Lib.hid h4
  clear h4
  go_wp2_with (first | (go_at_call 39; (with_reducible refine (has_c _ [43] (by with_unfolding_all rfl) true BPLUS.out (H4.out.set1 a3 _ (by have := EA3.out; omega)) la3).mono ?_)))
  rintro e w5 ⟨rfl, h5⟩
  obtain ⟨c0, c1, c2, f1, f2⟩ := h5.cells
  have H5 := Lib.hid h5
  clear h5
  go_wp2_with (first | (go_at_call 40; (with_reducible refine (digits_s kd a5 RKD.out NKD.out EA5.out (H5.out.set1 a4 _ (by have := EA4.out; omega)) la4 hs).mono ?_)))
  rintro e w6 ⟨rfl, h6⟩
  obtain ⟨c0, c1, c2, f1, f2⟩ := h6.cells
  have H6 := Lib.hid h6
  clear h6
  go_wp2_with (first | (go_at_call 37; (with_reducible refine (row_c [2, 3] _ _ (by with_unfolding_all rfl) _ (by with_unfolding_all rfl) 0 R0.out H6.out la5 hs (by with_unfolding_all decide)).mono ?_)))
  rintro e w7 ⟨rfl, h7⟩
  obtain ⟨c0, c1, c2, f1, f2⟩ := h7.cells
  have H7 := Lib.hid h7
  clear h7
  go_wp2_with (first | (go_at_call 39; (with_reducible refine (has_c _ [46] (by with_unfolding_all rfl) false BDOT2.out (cu0 H7.out) la5).mono ?_)))
  rintro e w8 ⟨rfl, h8⟩
  obtain ⟨c0, c1, c2, f1, f2⟩ := h8.cells
  have H8 := Lib.hid h8
  clear h8
  go_wp2
  go_ret
  exact ⟨rfl, H8.out⟩

set_option maxHeartbeats 2000000 in
theorem lit_em_z {w0 w : World} {g a : Nat} {s : ByteArray} {W : World} (ka : Nat) (rka : runL [3] (from_ s a) = ka) (a0 : Nat) (ea0 : a0 = a + ka) (bdot : hasL [46] (from_ s a0) = true) (a1 : Nat) (ea1 : a1 = a0 + 1) (kb : Nat) (rkb : runL [3] (from_ s a1) = kb) (nkb : kb ≠ 0) (a2 : Nat) (ea2 : a2 = a1 + kb) (bexp : hasL [101] (from_ s a2) = true) (a3 : Nat) (ea3 : a3 = a2 + 1) (bplus : hasL [43] (from_ s a3) = false) (bminus : hasL [45] (from_ s a3) = true) (a4 : Nat) (ea4 : a4 = a3 + 1) (kd : Nat) (rkd : runL [3] (from_ s a4) = kd) (nkd : kd = 0) (h : Cu w0 w g s a (-1) W) (ha : a ≤ s.size) (hs : s.size ≤ 1000000) :
    Calls Tryz.prog 17 #[.pointer (some ⟨g, 0, none⟩)] W fun e w' => e = .returned (.int .u8 5) ∧ Cu w0 w g s a4 (a4 : Int) w' := by
  have la := ha
  have la0 : a0 ≤ s.size := by rw [ea0, ← rka]; exact run_from _ s a la
  have la1 : a1 ≤ s.size := by rw [ea1]; exact has_lt bdot la0
  have la2 : a2 ≤ s.size := by rw [ea2, ← rkb]; exact run_from _ s a1 la1
  have la3 : a3 ≤ s.size := by rw [ea3]; exact has_lt bexp la2
  have la4 : a4 ≤ s.size := by rw [ea4]; exact has_lt bminus la3
  have HC := Lib.hid h
  obtain ⟨c0, c1, c2, f1, f2⟩ := h.cells
  clear h
  have RKA := Lib.hid rka
  clear rka
  have EA0 := Lib.hid ea0
  clear ea0
  have BDOT := Lib.hid bdot
  clear bdot
  have EA1 := Lib.hid ea1
  clear ea1
  have RKB := Lib.hid rkb
  clear rkb
  have NKB := Lib.hid nkb
  clear nkb
  have EA2 := Lib.hid ea2
  clear ea2
  have BEXP := Lib.hid bexp
  clear bexp
  have EA3 := Lib.hid ea3
  clear ea3
  have BPLUS := Lib.hid bplus
  clear bplus
  have BMINUS := Lib.hid bminus
  clear bminus
  have EA4 := Lib.hid ea4
  clear ea4
  have RKD := Lib.hid rkd
  clear rkd
  have NKD := Lib.hid nkd
  clear nkd
  go_enter Tryz.func17, Tryz.ntmps17
  go_wp2_with (first | (go_at_call 37; (with_reducible refine (row_c [3] _ _ (by with_unfolding_all rfl) _ (by with_unfolding_all rfl) ka RKA.out HC.out la hs (by with_unfolding_all decide)).mono ?_)))
  rintro e w1 ⟨rfl, h1⟩
  rw [← EA0.out] at h1
  obtain ⟨c0, c1, c2, f1, f2⟩ := h1.cells
  have H1 := Lib.hid h1
  clear h1
  go_wp2_with (first | (go_at_call 39; (with_reducible refine (has_c _ [46] (by with_unfolding_all rfl) true BDOT.out H1.out la0).mono ?_)))
  rintro e w2 ⟨rfl, h2⟩
  obtain ⟨c0, c1, c2, f1, f2⟩ := h2.cells
  have H2 := Lib.hid h2
  clear h2
  go_wp2_with (first | (go_at_call 40; (with_reducible refine (digits_s kb a2 RKB.out NKB.out EA2.out (H2.out.set1 a1 _ (by have := EA1.out; omega)) la1 hs).mono ?_)))
  rintro e w3 ⟨rfl, h3⟩
  obtain ⟨c0, c1, c2, f1, f2⟩ := h3.cells
  have H3 := Lib.hid h3
  clear h3
  go_wp2_with (first | (go_at_call 39; (with_reducible refine (has_c _ [101] (by with_unfolding_all rfl) true BEXP.out H3.out la2).mono ?_)))
  rintro e w4 ⟨rfl, h4⟩
  obtain ⟨c0, c1, c2, f1, f2⟩ := h4.cells
  have H4 := Lib.hid h4
  clear h4
  go_wp2_with (first | (go_at_call 39; (with_reducible refine (has_c _ [43] (by with_unfolding_all rfl) false BPLUS.out (H4.out.set1 a3 _ (by have := EA3.out; omega)) la3).mono ?_)))
  rintro e w5 ⟨rfl, h5⟩
  obtain ⟨c0, c1, c2, f1, f2⟩ := h5.cells
  have H5 := Lib.hid h5
  clear h5
  go_wp2_with (first | (go_at_call 39; (with_reducible refine (has_c _ [45] (by with_unfolding_all rfl) true BMINUS.out H5.out la3).mono ?_)))
  rintro e w6 ⟨rfl, h6⟩
  obtain ⟨c0, c1, c2, f1, f2⟩ := h6.cells
  have H6 := Lib.hid h6
  clear h6
  go_wp2_with (first | (go_at_call 40; (with_reducible refine (digits_z kd RKD.out NKD.out (H6.out.set1 a4 _ (by have := EA4.out; omega)) la4 hs).mono ?_)))
  rintro e w7 ⟨rfl, h7⟩
  obtain ⟨c0, c1, c2, f1, f2⟩ := h7.cells
  have H7 := Lib.hid h7
  clear h7
  go_wp2
  go_ret
  exact ⟨rfl, H7.out⟩

set_option maxHeartbeats 2000000 in
theorem lit_em_row {w0 w : World} {g a : Nat} {s : ByteArray} {W : World} (ka : Nat) (rka : runL [3] (from_ s a) = ka) (a0 : Nat) (ea0 : a0 = a + ka) (bdot : hasL [46] (from_ s a0) = true) (a1 : Nat) (ea1 : a1 = a0 + 1) (kb : Nat) (rkb : runL [3] (from_ s a1) = kb) (nkb : kb ≠ 0) (a2 : Nat) (ea2 : a2 = a1 + kb) (bexp : hasL [101] (from_ s a2) = true) (a3 : Nat) (ea3 : a3 = a2 + 1) (bplus : hasL [43] (from_ s a3) = false) (bminus : hasL [45] (from_ s a3) = true) (a4 : Nat) (ea4 : a4 = a3 + 1) (kd : Nat) (rkd : runL [3] (from_ s a4) = kd) (nkd : kd ≠ 0) (a5 : Nat) (ea5 : a5 = a4 + kd) (kt : Nat) (rkt : runL [2, 3] (from_ s a5) = kt) (a6 : Nat) (ea6 : a6 = a5 + kt) (nkt : kt ≠ 0) (h : Cu w0 w g s a (-1) W) (ha : a ≤ s.size) (hs : s.size ≤ 1000000) :
    Calls Tryz.prog 17 #[.pointer (some ⟨g, 0, none⟩)] W fun e w' => e = .returned (.int .u8 5) ∧ Cu w0 w g s a6 (a5 : Int) w' := by
  have la := ha
  have la0 : a0 ≤ s.size := by rw [ea0, ← rka]; exact run_from _ s a la
  have la1 : a1 ≤ s.size := by rw [ea1]; exact has_lt bdot la0
  have la2 : a2 ≤ s.size := by rw [ea2, ← rkb]; exact run_from _ s a1 la1
  have la3 : a3 ≤ s.size := by rw [ea3]; exact has_lt bexp la2
  have la4 : a4 ≤ s.size := by rw [ea4]; exact has_lt bminus la3
  have la5 : a5 ≤ s.size := by rw [ea5, ← rkd]; exact run_from _ s a4 la4
  have la6 : a6 ≤ s.size := by rw [ea6, ← rkt]; exact run_from _ s a5 la5
  have HC := Lib.hid h
  obtain ⟨c0, c1, c2, f1, f2⟩ := h.cells
  clear h
  have RKA := Lib.hid rka
  clear rka
  have EA0 := Lib.hid ea0
  clear ea0
  have BDOT := Lib.hid bdot
  clear bdot
  have EA1 := Lib.hid ea1
  clear ea1
  have RKB := Lib.hid rkb
  clear rkb
  have NKB := Lib.hid nkb
  clear nkb
  have EA2 := Lib.hid ea2
  clear ea2
  have BEXP := Lib.hid bexp
  clear bexp
  have EA3 := Lib.hid ea3
  clear ea3
  have BPLUS := Lib.hid bplus
  clear bplus
  have BMINUS := Lib.hid bminus
  clear bminus
  have EA4 := Lib.hid ea4
  clear ea4
  have RKD := Lib.hid rkd
  clear rkd
  have NKD := Lib.hid nkd
  clear nkd
  have EA5 := Lib.hid ea5
  clear ea5
  have dt : 1 ≤ kt := by omega
  clear nkt
  have RKT := Lib.hid rkt
  clear rkt
  have EA6 := Lib.hid ea6
  clear ea6
  go_enter Tryz.func17, Tryz.ntmps17
  go_wp2_with (first | (go_at_call 37; (with_reducible refine (row_c [3] _ _ (by with_unfolding_all rfl) _ (by with_unfolding_all rfl) ka RKA.out HC.out la hs (by with_unfolding_all decide)).mono ?_)))
  rintro e w1 ⟨rfl, h1⟩
  rw [← EA0.out] at h1
  obtain ⟨c0, c1, c2, f1, f2⟩ := h1.cells
  have H1 := Lib.hid h1
  clear h1
  go_wp2_with (first | (go_at_call 39; (with_reducible refine (has_c _ [46] (by with_unfolding_all rfl) true BDOT.out H1.out la0).mono ?_)))
  rintro e w2 ⟨rfl, h2⟩
  obtain ⟨c0, c1, c2, f1, f2⟩ := h2.cells
  have H2 := Lib.hid h2
  clear h2
  go_wp2_with (first | (go_at_call 40; (with_reducible refine (digits_s kb a2 RKB.out NKB.out EA2.out (H2.out.set1 a1 _ (by have := EA1.out; omega)) la1 hs).mono ?_)))
  rintro e w3 ⟨rfl, h3⟩
  obtain ⟨c0, c1, c2, f1, f2⟩ := h3.cells
  have H3 := Lib.hid h3
  clear h3
  go_wp2_with (first | (go_at_call 39; (with_reducible refine (has_c _ [101] (by with_unfolding_all rfl) true BEXP.out H3.out la2).mono ?_)))
  rintro e w4 ⟨rfl, h4⟩
  obtain ⟨c0, c1, c2, f1, f2⟩ := h4.cells
  have H4 := Lib.hid h4
  clear h4
  go_wp2_with (first | (go_at_call 39; (with_reducible refine (has_c _ [43] (by with_unfolding_all rfl) false BPLUS.out (H4.out.set1 a3 _ (by have := EA3.out; omega)) la3).mono ?_)))
  rintro e w5 ⟨rfl, h5⟩
  obtain ⟨c0, c1, c2, f1, f2⟩ := h5.cells
  have H5 := Lib.hid h5
  clear h5
  go_wp2_with (first | (go_at_call 39; (with_reducible refine (has_c _ [45] (by with_unfolding_all rfl) true BMINUS.out H5.out la3).mono ?_)))
  rintro e w6 ⟨rfl, h6⟩
  obtain ⟨c0, c1, c2, f1, f2⟩ := h6.cells
  have H6 := Lib.hid h6
  clear h6
  go_wp2_with (first | (go_at_call 40; (with_reducible refine (digits_s kd a5 RKD.out NKD.out EA5.out (H6.out.set1 a4 _ (by have := EA4.out; omega)) la4 hs).mono ?_)))
  rintro e w7 ⟨rfl, h7⟩
  obtain ⟨c0, c1, c2, f1, f2⟩ := h7.cells
  have H7 := Lib.hid h7
  clear h7
  go_wp2_with (first | (go_at_call 37; (with_reducible refine (row_c [2, 3] _ _ (by with_unfolding_all rfl) _ (by with_unfolding_all rfl) kt RKT.out H7.out la5 hs (by with_unfolding_all decide)).mono ?_)))
  rintro e w8 ⟨rfl, h8⟩
  rw [← EA6.out] at h8
  obtain ⟨c0, c1, c2, f1, f2⟩ := h8.cells
  have H8 := Lib.hid h8
  clear h8
  go_wp2
  go_ret
  exact ⟨rfl, H8.out.set2 _⟩

set_option maxHeartbeats 2000000 in
theorem lit_em_dot {w0 w : World} {g a : Nat} {s : ByteArray} {W : World} (ka : Nat) (rka : runL [3] (from_ s a) = ka) (a0 : Nat) (ea0 : a0 = a + ka) (bdot : hasL [46] (from_ s a0) = true) (a1 : Nat) (ea1 : a1 = a0 + 1) (kb : Nat) (rkb : runL [3] (from_ s a1) = kb) (nkb : kb ≠ 0) (a2 : Nat) (ea2 : a2 = a1 + kb) (bexp : hasL [101] (from_ s a2) = true) (a3 : Nat) (ea3 : a3 = a2 + 1) (bplus : hasL [43] (from_ s a3) = false) (bminus : hasL [45] (from_ s a3) = true) (a4 : Nat) (ea4 : a4 = a3 + 1) (kd : Nat) (rkd : runL [3] (from_ s a4) = kd) (nkd : kd ≠ 0) (a5 : Nat) (ea5 : a5 = a4 + kd) (r0 : runL [2, 3] (from_ s a5) = 0) (bdot2 : hasL [46] (from_ s a5) = true) (h : Cu w0 w g s a (-1) W) (ha : a ≤ s.size) (hs : s.size ≤ 1000000) :
    Calls Tryz.prog 17 #[.pointer (some ⟨g, 0, none⟩)] W fun e w' => e = .returned (.int .u8 5) ∧ Cu w0 w g s a5 (a5 : Int) w' := by
  have la := ha
  have la0 : a0 ≤ s.size := by rw [ea0, ← rka]; exact run_from _ s a la
  have la1 : a1 ≤ s.size := by rw [ea1]; exact has_lt bdot la0
  have la2 : a2 ≤ s.size := by rw [ea2, ← rkb]; exact run_from _ s a1 la1
  have la3 : a3 ≤ s.size := by rw [ea3]; exact has_lt bexp la2
  have la4 : a4 ≤ s.size := by rw [ea4]; exact has_lt bminus la3
  have la5 : a5 ≤ s.size := by rw [ea5, ← rkd]; exact run_from _ s a4 la4
  have HC := Lib.hid h
  obtain ⟨c0, c1, c2, f1, f2⟩ := h.cells
  clear h
  have RKA := Lib.hid rka
  clear rka
  have EA0 := Lib.hid ea0
  clear ea0
  have BDOT := Lib.hid bdot
  clear bdot
  have EA1 := Lib.hid ea1
  clear ea1
  have RKB := Lib.hid rkb
  clear rkb
  have NKB := Lib.hid nkb
  clear nkb
  have EA2 := Lib.hid ea2
  clear ea2
  have BEXP := Lib.hid bexp
  clear bexp
  have EA3 := Lib.hid ea3
  clear ea3
  have BPLUS := Lib.hid bplus
  clear bplus
  have BMINUS := Lib.hid bminus
  clear bminus
  have EA4 := Lib.hid ea4
  clear ea4
  have RKD := Lib.hid rkd
  clear rkd
  have NKD := Lib.hid nkd
  clear nkd
  have EA5 := Lib.hid ea5
  clear ea5
  have R0 := Lib.hid r0
  clear r0
  have BDOT2 := Lib.hid bdot2
  clear bdot2
  go_enter Tryz.func17, Tryz.ntmps17
  go_wp2_with (first | (go_at_call 37; (with_reducible refine (row_c [3] _ _ (by with_unfolding_all rfl) _ (by with_unfolding_all rfl) ka RKA.out HC.out la hs (by with_unfolding_all decide)).mono ?_)))
  rintro e w1 ⟨rfl, h1⟩
  rw [← EA0.out] at h1
  obtain ⟨c0, c1, c2, f1, f2⟩ := h1.cells
  have H1 := Lib.hid h1
  clear h1
  go_wp2_with (first | (go_at_call 39; (with_reducible refine (has_c _ [46] (by with_unfolding_all rfl) true BDOT.out H1.out la0).mono ?_)))
  rintro e w2 ⟨rfl, h2⟩
  obtain ⟨c0, c1, c2, f1, f2⟩ := h2.cells
  have H2 := Lib.hid h2
  clear h2
  go_wp2_with (first | (go_at_call 40; (with_reducible refine (digits_s kb a2 RKB.out NKB.out EA2.out (H2.out.set1 a1 _ (by have := EA1.out; omega)) la1 hs).mono ?_)))
  rintro e w3 ⟨rfl, h3⟩
  obtain ⟨c0, c1, c2, f1, f2⟩ := h3.cells
  have H3 := Lib.hid h3
  clear h3
  go_wp2_with (first | (go_at_call 39; (with_reducible refine (has_c _ [101] (by with_unfolding_all rfl) true BEXP.out H3.out la2).mono ?_)))
  rintro e w4 ⟨rfl, h4⟩
  obtain ⟨c0, c1, c2, f1, f2⟩ := h4.cells
  have H4 := Lib.hid h4
  clear h4
  go_wp2_with (first | (go_at_call 39; (with_reducible refine (has_c _ [43] (by with_unfolding_all rfl) false BPLUS.out (H4.out.set1 a3 _ (by have := EA3.out; omega)) la3).mono ?_)))
  rintro e w5 ⟨rfl, h5⟩
  obtain ⟨c0, c1, c2, f1, f2⟩ := h5.cells
  have H5 := Lib.hid h5
  clear h5
  go_wp2_with (first | (go_at_call 39; (with_reducible refine (has_c _ [45] (by with_unfolding_all rfl) true BMINUS.out H5.out la3).mono ?_)))
  rintro e w6 ⟨rfl, h6⟩
  obtain ⟨c0, c1, c2, f1, f2⟩ := h6.cells
  have H6 := Lib.hid h6
  clear h6
  go_wp2_with (first | (go_at_call 40; (with_reducible refine (digits_s kd a5 RKD.out NKD.out EA5.out (H6.out.set1 a4 _ (by have := EA4.out; omega)) la4 hs).mono ?_)))
  rintro e w7 ⟨rfl, h7⟩
  obtain ⟨c0, c1, c2, f1, f2⟩ := h7.cells
  have H7 := Lib.hid h7
  clear h7
  go_wp2_with (first | (go_at_call 37; (with_reducible refine (row_c [2, 3] _ _ (by with_unfolding_all rfl) _ (by with_unfolding_all rfl) 0 R0.out H7.out la5 hs (by with_unfolding_all decide)).mono ?_)))
  rintro e w8 ⟨rfl, h8⟩
  obtain ⟨c0, c1, c2, f1, f2⟩ := h8.cells
  have H8 := Lib.hid h8
  clear h8
  go_wp2_with (first | (go_at_call 39; (with_reducible refine (has_c _ [46] (by with_unfolding_all rfl) true BDOT2.out (cu0 H8.out) la5).mono ?_)))
  rintro e w9 ⟨rfl, h9⟩
  obtain ⟨c0, c1, c2, f1, f2⟩ := h9.cells
  have H9 := Lib.hid h9
  clear h9
  go_wp2
  go_ret
  exact ⟨rfl, H9.out.set2 _⟩

set_option maxHeartbeats 2000000 in
theorem lit_em_ok {w0 w : World} {g a : Nat} {s : ByteArray} {W : World} (ka : Nat) (rka : runL [3] (from_ s a) = ka) (a0 : Nat) (ea0 : a0 = a + ka) (bdot : hasL [46] (from_ s a0) = true) (a1 : Nat) (ea1 : a1 = a0 + 1) (kb : Nat) (rkb : runL [3] (from_ s a1) = kb) (nkb : kb ≠ 0) (a2 : Nat) (ea2 : a2 = a1 + kb) (bexp : hasL [101] (from_ s a2) = true) (a3 : Nat) (ea3 : a3 = a2 + 1) (bplus : hasL [43] (from_ s a3) = false) (bminus : hasL [45] (from_ s a3) = true) (a4 : Nat) (ea4 : a4 = a3 + 1) (kd : Nat) (rkd : runL [3] (from_ s a4) = kd) (nkd : kd ≠ 0) (a5 : Nat) (ea5 : a5 = a4 + kd) (r0 : runL [2, 3] (from_ s a5) = 0) (bdot2 : hasL [46] (from_ s a5) = false) (h : Cu w0 w g s a (-1) W) (ha : a ≤ s.size) (hs : s.size ≤ 1000000) :
    Calls Tryz.prog 17 #[.pointer (some ⟨g, 0, none⟩)] W fun e w' => e = .returned (.int .u8 5) ∧ Cu w0 w g s a5 (-1) w' := by
  have la := ha
  have la0 : a0 ≤ s.size := by rw [ea0, ← rka]; exact run_from _ s a la
  have la1 : a1 ≤ s.size := by rw [ea1]; exact has_lt bdot la0
  have la2 : a2 ≤ s.size := by rw [ea2, ← rkb]; exact run_from _ s a1 la1
  have la3 : a3 ≤ s.size := by rw [ea3]; exact has_lt bexp la2
  have la4 : a4 ≤ s.size := by rw [ea4]; exact has_lt bminus la3
  have la5 : a5 ≤ s.size := by rw [ea5, ← rkd]; exact run_from _ s a4 la4
  have HC := Lib.hid h
  obtain ⟨c0, c1, c2, f1, f2⟩ := h.cells
  clear h
  have RKA := Lib.hid rka
  clear rka
  have EA0 := Lib.hid ea0
  clear ea0
  have BDOT := Lib.hid bdot
  clear bdot
  have EA1 := Lib.hid ea1
  clear ea1
  have RKB := Lib.hid rkb
  clear rkb
  have NKB := Lib.hid nkb
  clear nkb
  have EA2 := Lib.hid ea2
  clear ea2
  have BEXP := Lib.hid bexp
  clear bexp
  have EA3 := Lib.hid ea3
  clear ea3
  have BPLUS := Lib.hid bplus
  clear bplus
  have BMINUS := Lib.hid bminus
  clear bminus
  have EA4 := Lib.hid ea4
  clear ea4
  have RKD := Lib.hid rkd
  clear rkd
  have NKD := Lib.hid nkd
  clear nkd
  have EA5 := Lib.hid ea5
  clear ea5
  have R0 := Lib.hid r0
  clear r0
  have BDOT2 := Lib.hid bdot2
  clear bdot2
  go_enter Tryz.func17, Tryz.ntmps17
  go_wp2_with (first | (go_at_call 37; (with_reducible refine (row_c [3] _ _ (by with_unfolding_all rfl) _ (by with_unfolding_all rfl) ka RKA.out HC.out la hs (by with_unfolding_all decide)).mono ?_)))
  rintro e w1 ⟨rfl, h1⟩
  rw [← EA0.out] at h1
  obtain ⟨c0, c1, c2, f1, f2⟩ := h1.cells
  have H1 := Lib.hid h1
  clear h1
  go_wp2_with (first | (go_at_call 39; (with_reducible refine (has_c _ [46] (by with_unfolding_all rfl) true BDOT.out H1.out la0).mono ?_)))
  rintro e w2 ⟨rfl, h2⟩
  obtain ⟨c0, c1, c2, f1, f2⟩ := h2.cells
  have H2 := Lib.hid h2
  clear h2
  go_wp2_with (first | (go_at_call 40; (with_reducible refine (digits_s kb a2 RKB.out NKB.out EA2.out (H2.out.set1 a1 _ (by have := EA1.out; omega)) la1 hs).mono ?_)))
  rintro e w3 ⟨rfl, h3⟩
  obtain ⟨c0, c1, c2, f1, f2⟩ := h3.cells
  have H3 := Lib.hid h3
  clear h3
  go_wp2_with (first | (go_at_call 39; (with_reducible refine (has_c _ [101] (by with_unfolding_all rfl) true BEXP.out H3.out la2).mono ?_)))
  rintro e w4 ⟨rfl, h4⟩
  obtain ⟨c0, c1, c2, f1, f2⟩ := h4.cells
  have H4 := Lib.hid h4
  clear h4
  go_wp2_with (first | (go_at_call 39; (with_reducible refine (has_c _ [43] (by with_unfolding_all rfl) false BPLUS.out (H4.out.set1 a3 _ (by have := EA3.out; omega)) la3).mono ?_)))
  rintro e w5 ⟨rfl, h5⟩
  obtain ⟨c0, c1, c2, f1, f2⟩ := h5.cells
  have H5 := Lib.hid h5
  clear h5
  go_wp2_with (first | (go_at_call 39; (with_reducible refine (has_c _ [45] (by with_unfolding_all rfl) true BMINUS.out H5.out la3).mono ?_)))
  rintro e w6 ⟨rfl, h6⟩
  obtain ⟨c0, c1, c2, f1, f2⟩ := h6.cells
  have H6 := Lib.hid h6
  clear h6
  go_wp2_with (first | (go_at_call 40; (with_reducible refine (digits_s kd a5 RKD.out NKD.out EA5.out (H6.out.set1 a4 _ (by have := EA4.out; omega)) la4 hs).mono ?_)))
  rintro e w7 ⟨rfl, h7⟩
  obtain ⟨c0, c1, c2, f1, f2⟩ := h7.cells
  have H7 := Lib.hid h7
  clear h7
  go_wp2_with (first | (go_at_call 37; (with_reducible refine (row_c [2, 3] _ _ (by with_unfolding_all rfl) _ (by with_unfolding_all rfl) 0 R0.out H7.out la5 hs (by with_unfolding_all decide)).mono ?_)))
  rintro e w8 ⟨rfl, h8⟩
  obtain ⟨c0, c1, c2, f1, f2⟩ := h8.cells
  have H8 := Lib.hid h8
  clear h8
  go_wp2_with (first | (go_at_call 39; (with_reducible refine (has_c _ [46] (by with_unfolding_all rfl) false BDOT2.out (cu0 H8.out) la5).mono ?_)))
  rintro e w9 ⟨rfl, h9⟩
  obtain ⟨c0, c1, c2, f1, f2⟩ := h9.cells
  have H9 := Lib.hid h9
  clear h9
  go_wp2
  go_ret
  exact ⟨rfl, H9.out⟩

end Go.Proofs.YtgplgmjnhkhbjaaGreatDoor
