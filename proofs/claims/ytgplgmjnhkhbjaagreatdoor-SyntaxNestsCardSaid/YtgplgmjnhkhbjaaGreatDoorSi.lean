/-
  The cutter's walks, 6.
-/
import Derived.Test.YtgplgmjnhkhbjaaGreatDoorSa
set_option linter.unusedVariables false
set_option linter.unusedSimpArgs false
namespace Go.Proofs.YtgplgmjnhkhbjaaGreatDoor
open Go.RowKit Go.Proofs.YtgplgmjnhkhbjaaGreatDoorW.PrintWords PScan PWord Syn

theorem one_has (a : Nat) : List.contains [1] a = Nat.beq a 1 := by
  rw [Bool.eq_iff_iff]; simp
theorem skip_run : ∀ l : List UInt8, skipL false l = runL [1] l + skipL false (l.drop (runL [1] l))
  | [] => rfl
  | c :: t => by
    by_cases h : Nat.beq (sortU c) 1 = true
    · have h1 : List.contains [1] (sortU c) = true := by rw [one_has]; exact h
      rw [runL_yes h1]
      conv => lhs; unfold skipL
      rw [h, cond_true, List.drop_succ_cons]
      have := skip_run t
      omega
    · rw [Bool.not_eq_true] at h
      have h1 : List.contains [1] (sortU c) = false := by rw [one_has]; exact h
      rw [runL_no h1]
      simp
theorem run_stop : ∀ l : List UInt8, ∀ c t, l.drop (runL [1] l) = c :: t → Nat.beq (sortU c) 1 = false
  | [], c, t, h => by simp [runL] at h
  | d :: u, c, t, h => by
    by_cases hd : Nat.beq (sortU d) 1 = true
    · have h1 : List.contains [1] (sortU d) = true := by rw [one_has]; exact hd
      rw [runL_yes h1, List.drop_succ_cons] at h
      exact run_stop u c t h
    · rw [Bool.not_eq_true] at hd
      have h1 : List.contains [1] (sortU d) = false := by rw [one_has]; exact hd
      rw [runL_no h1] at h
      simp only [List.drop_zero, List.cons.injEq] at h
      rw [← h.1]; exact hd
theorem skip_stop (l : List UInt8) (h : hasL [47, 47] (l.drop (runL [1] l)) = false) : skipL false l = runL [1] l := by
  rw [skip_run]
  rcases hd : l.drop (runL [1] l) with _ | ⟨c, t⟩
  · rfl
  · have h1 := run_stop l c t hd
    rw [hd] at h
    have h2 : (Nat.beq c.toNat 47 && hasL [47] t) = false := by
      simp only [hasL] at h ⊢
      have e : Nat.beq c.toNat 47 = Nat.beq 47 c.toNat := by rw [Bool.eq_iff_iff, Nat.beq_eq, Nat.beq_eq]; exact eq_comm
      rw [e]
      exact h
    simp only [skipL, h1, h2, cond_false]
    rfl
theorem sort47 : sortU 47 = 4 := by decide
theorem sort10 : sortU 10 = 1 := by decide
theorem skip_on (l : List UInt8) (h : hasL [47, 47] l = true) : skipL false l = skipL true l := by
  rw [hasL_iff] at h
  match l, h with
  | c :: d :: t, h =>
    simp only [List.length_cons, List.length_nil, List.take_succ_cons, List.cons.injEq] at h
    obtain ⟨rfl, rfl, _⟩ := h
    simp only [skipL, sort47, hasL]
    rfl
theorem skip_line : ∀ l : List UInt8, (Lib.indexByte l 10 = -1 ∧ skipL true l = l.length) ∨ (∃ n : Nat, Lib.indexByte l 10 = n ∧ n < l.length ∧ skipL true l = n + skipL false (l.drop n))
  | [] => .inl ⟨rfl, rfl⟩
  | c :: t => by
    by_cases h : c = 10
    · subst h
      refine .inr ⟨0, rfl, by simp, ?_⟩
      simp only [skipL, sort10, List.drop_zero, Nat.zero_add]
      rfl
    · have h1 : (c == 10) = false := by simpa using h
      have h2 : Nat.beq c.toNat 10 = false := by
        rw [← Bool.not_eq_true, Nat.beq_eq]
        exact fun e => h (UInt8.toNat_inj.1 e)
      simp only [Lib.indexByte, h1, Bool.false_eq_true, if_false, skipL, h2, cond_false]
      rcases skip_line t with ⟨h3, h4⟩ | ⟨n, h3, h4, h5⟩
      · left
        rw [h3, h4]
        exact ⟨rfl, by simp⟩
      · right
        refine ⟨n + 1, ?_, by simpa using h4, ?_⟩
        · rw [h3, if_neg (by simp)]; rfl
        · rw [h5, List.drop_succ_cons]; omega
theorem skip_le : ∀ (b : Bool) (l : List UInt8), skipL b l ≤ l.length
  | b, [] => by cases b <;> simp [skipL]
  | true, c :: t => by
    have h1 := skip_le true t
    have h2 := skip_le false t
    unfold skipL
    cases Nat.beq c.toNat 10 <;> simp <;> omega
  | false, c :: t => by
    have h1 := skip_le true t
    have h2 := skip_le false t
    unfold skipL
    cases Nat.beq (sortU c) 1 <;> cases (Nat.beq c.toNat 47 && hasL [47] t) <;> simp <;> omega
theorem from_drop (s : ByteArray) (p k : Nat) : (from_ s p).drop k = from_ s (p + k) := by
  unfold from_; rw [List.drop_drop]

theorem cu_at {w0 w W : World} {g a : Nat} {s : ByteArray} {bad : Int} (h : Cu w0 w g s a bad W) : atOf g W = a := atOf_is h.is

theorem idx_q {w : World} (x : ByteArray) (R : Int) (h : Lib.indexByte x.data.toList 10 = R) : Calls Tryz.prog 41 #[.string x, .int .u8 10] w fun e w' => e = .returned (.int .i64 R) ∧ Drawn0 w w' := by
  refine (idx_at x 10 R h w).mono ?_
  rintro e w' ⟨rfl, rfl⟩
  exact ⟨rfl, Drawn0.refl _⟩

set_option maxHeartbeats 1000000 in
theorem skip_w {w0 w : World} {g a : Nat} {s : ByteArray} {bad : Int} {W : World} (R : Nat) (hR : skipL false (from_ s a) = R) (h : Cu w0 w g s a bad W) (ha : a ≤ s.size) (hs : s.size ≤ 1000000) :
    Calls Tryz.prog 19 #[.pointer (some ⟨g, 0, none⟩)] W fun e w' => e = .returned (.tuple #[]) ∧ Cu w0 w g s (a + R) bad w' := by
  have HC := Lib.hid h
  have HR := Lib.hid hR
  clear h hR
  go_enter Tryz.func19, Tryz.ntmps19
  go_wp2
  go_loopw [] (fun wr => ∃ p : Nat, a ≤ p ∧ p ≤ s.size ∧ Hid (Cu w0 w g s p bad wr) ∧ Hid (a + R = p + skipL false (from_ s p))) (fun wr => s.size - atOf g wr)
  case atStart => exact ⟨a, Nat.le_refl _, ha, HC, Lib.hid (by rw [HR.out])⟩
  case round =>
    obtain ⟨p, hp1, hp2, HCr, HRr⟩ := hrel
    obtain ⟨k, hk⟩ : ∃ k, runL [1] (from_ s p) = k := ⟨_, rfl⟩
    have hkp : p + k ≤ s.size := by rw [← hk]; exact run_from _ s p hp2
    obtain ⟨b, hb⟩ : ∃ b, hasL [47, 47] (from_ s (p + k)) = b := ⟨_, rfl⟩
    have HK := Lib.hid hk
    have HB := Lib.hid hb
    clear hk hb
    go_wp2_with (first | (go_at_call 37; (with_reducible refine (row_c [1] _ _ (by with_unfolding_all rfl) _ (by with_unfolding_all rfl) k HK.out HCr.out hp2 hs (by with_unfolding_all decide)).mono ?_)))
    rintro e w1 ⟨rfl, h1⟩
    have H1 := Lib.hid h1
    clear h1
    go_wp2_with (first | (go_at_call 39; (with_reducible refine (has_c _ [47, 47] (by with_unfolding_all rfl) b HB.out H1.out hkp).mono ?_)))
    rintro e w2 ⟨rfl, h2⟩
    obtain ⟨c0, c1, c2, f1, f2⟩ := h2.cells
    have H2 := Lib.hid h2
    clear h2
    cases b
    · go_wp2
      refine bodyPost_ret (results_none rfl _ _ _) rfl ?_
      refine ⟨rfl, ?_⟩
      have hz : a + R = p + k := by
        rw [HRr.out, skip_stop _ (by rw [HK.out, from_drop]; exact HB.out), HK.out]
      rw [hz]
      exact H2.out
    · have hdl : k + p < s.size := by
        have := congrArg List.length ((hasL_iff _ _).1 HB.out)
        rw [List.length_take, from_len] at this
        simp at this
        omega
      have hz : a + R = (p + k) + skipL true (from_ s (p + k)) := by
        rw [HRr.out, skip_run, HK.out, from_drop, skip_on _ HB.out]; omega
      have hil := skip_line (from_ s (p + k))
      have hx : (s.extract ((p : Int) + (k : Int)).toNat s.size).data.toList = from_ s (p + k) := by
        rw [ext_list, List.take_of_length_le (by simp)]; rfl
      have b1 : (p : Int) + (k : Int) ≤ (s.size : Int) := by omega
      have b0 : 0 ≤ (p : Int) + (k : Int) := by omega
      have HZ := Lib.hid hz
      clear hz
      rw [← hx] at hil
      rcases hil with ⟨hi, hl⟩ | ⟨n, hi, hn, hl⟩
      · have HI := Lib.hid hi
        have hl2 : skipL true (from_ s (p + k)) = s.size - (p + k) := by rw [← hx, hl, hx, from_len]
        clear hi hx hl
        have HL := Lib.hid hl2
        clear hl2
        go_wp2
        go_quiet (first | (go_at_call 41; (with_reducible refine (idx_q _ _ HI.out).mono ?_); rintro e w' ⟨rfl, ⟨nd, rfl⟩⟩; (try first | exact ⟨rfl, _, World.drewN_drewN _ _ _⟩ | exact ⟨rfl, _, Eq.trans (World.drewN_drewN _ _ _) (congrArg (World.drewN _) (Nat.add_assoc _ _ _))⟩)))
        go_wp2
        have hI2 := ((H2.out.drewN nq).set1 s.size _ rfl)
        go_roundw
        case rel => exact ⟨s.size, by omega, Nat.le_refl _, Lib.hid hI2, Lib.hid (by rw [HZ.out, HL.out, from_ge (Nat.le_refl _)]; simp [skipL]; omega)⟩
        case measure => rw [cu_at HCr.out, cu_at hI2]; omega
      · have HI := Lib.hid hi
        rw [hx] at hn hl
        rw [from_len] at hn
        rw [from_drop] at hl
        have hn2 : 2 ≤ n := by
          have h47 := (hasL_iff _ _).1 HB.out
          rw [hx] at hi
          match hf : from_ s (p + k), h47, hi with
          | c :: d :: t, h47, hi =>
            simp only [List.length_cons, List.length_nil, List.take_succ_cons, List.cons.injEq] at h47
            obtain ⟨rfl, rfl, _⟩ := h47
            simp only [Lib.indexByte] at hi
            have := Lib.indexByte_ge t 10
            simp at hi
            split at hi
            · omega
            · split at hi
              · omega
              · omega
        clear hi hx
        have HL := Lib.hid hl
        clear hl
        go_wp2
        go_quiet (first | (go_at_call 41; (with_reducible refine (idx_q _ _ HI.out).mono ?_); rintro e w' ⟨rfl, ⟨nd, rfl⟩⟩; (try first | exact ⟨rfl, _, World.drewN_drewN _ _ _⟩ | exact ⟨rfl, _, Eq.trans (World.drewN_drewN _ _ _) (congrArg (World.drewN _) (Nat.add_assoc _ _ _))⟩)))
        go_wp2
        have hI2 := ((H2.out.drewN nq).set1 (p + k + n) ((p : Int) + (k : Int) + (n : Int)) (by omega))
        go_roundw
        case rel => exact ⟨p + k + n, by omega, by omega, Lib.hid hI2, Lib.hid (by rw [HZ.out, HL.out]; omega)⟩
        case measure => rw [cu_at HCr.out, cu_at hI2]; omega

end Go.Proofs.YtgplgmjnhkhbjaaGreatDoor
