/-
  The cutter's walks, 9: a literal as the model has it.
-/
import Derived.Test.YtgplgmjnhkhbjaaGreatDoorSk
set_option linter.unusedVariables false
set_option linter.unusedSimpArgs false
namespace Go.Proofs.YtgplgmjnhkhbjaaGreatDoor
open Go.RowKit Go.Proofs.YtgplgmjnhkhbjaaGreatDoorW.PrintWords PScan PWord Syn

/-- what a cut leaves: a kind, and the place behind; or the place where it can't go on -/
def CutEnds (w0 w : World) (g : Nat) (s : ByteArray) (a : Nat) (m : Except Nat (Nat × Nat)) (e : Ending) (w' : World) : Prop :=
  match m with
  | .error n => ∃ k b : Nat, k ≠ 0 ∧ e = .returned (.int .u8 k) ∧ Cu w0 w g s b ((a + n : Nat) : Int) w'
  | .ok (k, n) => k ≠ 0 ∧ e = .returned (.int .u8 k) ∧ Cu w0 w g s (a + n) (-1) w'

theorem bad_ends {w0 w : World} {g : Nat} {s : ByteArray} {a n b c : Nat} {k : Nat} {e : Ending} {w' : World} (hk : k ≠ 0) (hc : c = a + n) (h : e = .returned (.int .u8 k) ∧ Cu w0 w g s b (c : Int) w') : CutEnds w0 w g s a (.error n) e w' := by
  subst hc
  exact ⟨k, b, hk, h.1, h.2⟩
theorem ok_ends {w0 w : World} {g : Nat} {s : ByteArray} {a n c : Nat} {k : Nat} {e : Ending} {w' : World} (hk : k ≠ 0) (hc : c = a + n) (h : e = .returned (.int .u8 k) ∧ Cu w0 w g s c (-1) w') : CutEnds w0 w g s a (.ok (k, n)) e w' := by
  subst hc
  exact ⟨hk, h.1, h.2⟩

theorem cutlit_w {w0 w : World} {g a : Nat} {s : ByteArray} {W : World} (h : Cu w0 w g s a (-1) W) (ha : a ≤ s.size) (hs : s.size ≤ 1000000) :
    Calls Tryz.prog 17 #[.pointer (some ⟨g, 0, none⟩)] W fun e w' => CutEnds w0 w g s a (literalL (from_ s a)) e w' := by
  obtain ⟨ka, hka⟩ : ∃ k, runL [3] (from_ s a) = k := ⟨_, rfl⟩
  unfold literalL
  simp only [hka, from_drop]
  cases hdot : hasL [46] (from_ s (a + ka))
  · simp only [cond_false]
    obtain ⟨kn, hkn⟩ : ∃ k, runL nameCh (from_ s (a + ka)) = k := ⟨_, rfl⟩
    simp only [hkn]
    obtain ⟨l, hl⟩ : ∃ l, (from_ s (a + ka)).take kn = l := ⟨_, rfl⟩
    have hle : kn = l.length := by
      rw [← hl, List.length_take]
      have := runL_le nameCh (from_ s (a + ka))
      omega
    simp only [hl, sameL_dec]
    by_cases x0 : l = []
    · subst x0
      exact (lit_i_e ka hka (a + ka) rfl hdot kn hkn (a + ka + kn) rfl hl h ha hs).mono fun e w' h => ok_ends (by decide) (by simp at hle; simp; omega) h
    · by_cases x1 : l = [105, 54, 52]
      · subst x1
        exact (lit_i_i64 ka hka (a + ka) rfl hdot kn hkn (a + ka + kn) rfl hl h ha hs).mono fun e w' h => ok_ends (by decide) (by simp at hle; simp; omega) h
      · by_cases x2 : l = [105, 51, 50]
        · subst x2
          exact (lit_i_i32 ka hka (a + ka) rfl hdot kn hkn (a + ka + kn) rfl hl h ha hs).mono fun e w' h => ok_ends (by decide) (by simp at hle; simp; omega) h
        · by_cases x3 : l = [117, 56]
          · subst x3
            exact (lit_i_u8 ka hka (a + ka) rfl hdot kn hkn (a + ka + kn) rfl hl h ha hs).mono fun e w' h => ok_ends (by decide) (by simp at hle; simp; omega) h
          · rw [decide_eq_false x0, decide_eq_false x1, decide_eq_false x2, decide_eq_false x3]
            exact (lit_i_bad ka hka (a + ka) rfl hdot kn hkn (a + ka + kn) rfl l hl x0 x1 x2 x3 h ha hs).mono fun e w' h => bad_ends (by decide) rfl h
  · simp only [cond_true]
    obtain ⟨kb, hkb⟩ : ∃ k, runL [3] (from_ s (a + ka + 1)) = k := ⟨_, rfl⟩
    simp only [hkb]
    by_cases h0 : kb = 0
    · rw [show Nat.beq kb 0 = true from by rw [Nat.beq_eq]; exact h0]
      exact (lit_f0 ka hka (a + ka) rfl hdot (a + ka + 1) rfl kb hkb h0 h ha hs).mono fun e w' h => bad_ends (by decide) rfl h
    · rw [show Nat.beq kb 0 = false from by rw [← Bool.not_eq_true, Nat.beq_eq]; exact h0]
      simp only [cond_false]
      cases hexp : hasL [101] (from_ s (a + ka + 1 + kb))
      · simp only [cond_false]
        have e2 : a + (ka + 1 + kb) = a + ka + 1 + kb := by omega
        rw [e2]
        obtain ⟨kt, hkt⟩ : ∃ k, runL nameCh (from_ s (a + ka + 1 + kb)) = k := ⟨_, rfl⟩
        simp only [hkt]
        by_cases ht : kt = 0
        · subst ht
          cases hd2 : hasL [46] (from_ s (a + ka + 1 + kb))
          · exact (lit_p_ok ka hka (a + ka) rfl hdot (a + ka + 1) rfl kb hkb h0 (a + ka + 1 + kb) rfl hexp hkt hd2 h ha hs).mono fun e w' h => ok_ends (by decide) e2.symm h
          · exact (lit_p_dot ka hka (a + ka) rfl hdot (a + ka + 1) rfl kb hkb h0 (a + ka + 1 + kb) rfl hexp hkt hd2 h ha hs).mono fun e w' h => bad_ends (by decide) e2.symm h
        · rw [show Nat.ble 1 kt = true from by rw [Nat.ble_eq]; omega, Bool.true_or, cond_true]
          exact (lit_p_row ka hka (a + ka) rfl hdot (a + ka + 1) rfl kb hkb h0 (a + ka + 1 + kb) rfl hexp kt hkt (a + ka + 1 + kb + kt) rfl ht h ha hs).mono fun e w' h => bad_ends (by decide) e2.symm h
      · simp only [cond_true]
        cases hplus : hasL [43] (from_ s (a + ka + 1 + kb + 1))
        · cases hminus : hasL [45] (from_ s (a + ka + 1 + kb + 1))
          · simp only [Bool.or_self, cond_false]
            obtain ⟨kd, hkd⟩ : ∃ k, runL [3] (from_ s (a + ka + 1 + kb + 1)) = k := ⟨_, rfl⟩
            simp only [Nat.add_zero, hkd]
            by_cases hz : kd = 0
            · rw [show Nat.beq kd 0 = true from by rw [Nat.beq_eq]; exact hz]
              exact (lit_e_z ka hka (a + ka) rfl hdot (a + ka + 1) rfl kb hkb h0 (a + ka + 1 + kb) rfl hexp (a + ka + 1 + kb + 1) rfl hplus hminus kd hkd hz h ha hs).mono fun e w' h => bad_ends (by decide) (by omega) h
            · rw [show Nat.beq kd 0 = false from by rw [← Bool.not_eq_true, Nat.beq_eq]; exact hz]
              simp only [cond_false]
              have e2 : a + (ka + 1 + kb + 1 + kd) = a + ka + 1 + kb + 1 + kd := by omega
              rw [e2]
              obtain ⟨kt, hkt⟩ : ∃ k, runL nameCh (from_ s (a + ka + 1 + kb + 1 + kd)) = k := ⟨_, rfl⟩
              simp only [hkt]
              by_cases ht : kt = 0
              · subst ht
                cases hd2 : hasL [46] (from_ s (a + ka + 1 + kb + 1 + kd))
                · exact (lit_e_ok ka hka (a + ka) rfl hdot (a + ka + 1) rfl kb hkb h0 (a + ka + 1 + kb) rfl hexp (a + ka + 1 + kb + 1) rfl hplus hminus kd hkd hz (a + ka + 1 + kb + 1 + kd) rfl hkt hd2 h ha hs).mono fun e w' h => ok_ends (by decide) e2.symm h
                · exact (lit_e_dot ka hka (a + ka) rfl hdot (a + ka + 1) rfl kb hkb h0 (a + ka + 1 + kb) rfl hexp (a + ka + 1 + kb + 1) rfl hplus hminus kd hkd hz (a + ka + 1 + kb + 1 + kd) rfl hkt hd2 h ha hs).mono fun e w' h => bad_ends (by decide) e2.symm h
              · rw [show Nat.ble 1 kt = true from by rw [Nat.ble_eq]; omega, Bool.true_or, cond_true]
                exact (lit_e_row ka hka (a + ka) rfl hdot (a + ka + 1) rfl kb hkb h0 (a + ka + 1 + kb) rfl hexp (a + ka + 1 + kb + 1) rfl hplus hminus kd hkd hz (a + ka + 1 + kb + 1 + kd) rfl kt hkt (a + ka + 1 + kb + 1 + kd + kt) rfl ht h ha hs).mono fun e w' h => bad_ends (by decide) e2.symm h
          · simp only [Bool.false_or, cond_true]
            obtain ⟨kd, hkd⟩ : ∃ k, runL [3] (from_ s (a + ka + 1 + kb + 1 + 1)) = k := ⟨_, rfl⟩
            simp only [Nat.add_zero, hkd]
            by_cases hz : kd = 0
            · rw [show Nat.beq kd 0 = true from by rw [Nat.beq_eq]; exact hz]
              exact (lit_em_z ka hka (a + ka) rfl hdot (a + ka + 1) rfl kb hkb h0 (a + ka + 1 + kb) rfl hexp (a + ka + 1 + kb + 1) rfl hplus hminus (a + ka + 1 + kb + 1 + 1) rfl kd hkd hz h ha hs).mono fun e w' h => bad_ends (by decide) (by omega) h
            · rw [show Nat.beq kd 0 = false from by rw [← Bool.not_eq_true, Nat.beq_eq]; exact hz]
              simp only [cond_false]
              have e2 : a + (ka + 1 + kb + 1 + 1 + kd) = a + ka + 1 + kb + 1 + 1 + kd := by omega
              rw [e2]
              obtain ⟨kt, hkt⟩ : ∃ k, runL nameCh (from_ s (a + ka + 1 + kb + 1 + 1 + kd)) = k := ⟨_, rfl⟩
              simp only [hkt]
              by_cases ht : kt = 0
              · subst ht
                cases hd2 : hasL [46] (from_ s (a + ka + 1 + kb + 1 + 1 + kd))
                · exact (lit_em_ok ka hka (a + ka) rfl hdot (a + ka + 1) rfl kb hkb h0 (a + ka + 1 + kb) rfl hexp (a + ka + 1 + kb + 1) rfl hplus hminus (a + ka + 1 + kb + 1 + 1) rfl kd hkd hz (a + ka + 1 + kb + 1 + 1 + kd) rfl hkt hd2 h ha hs).mono fun e w' h => ok_ends (by decide) e2.symm h
                · exact (lit_em_dot ka hka (a + ka) rfl hdot (a + ka + 1) rfl kb hkb h0 (a + ka + 1 + kb) rfl hexp (a + ka + 1 + kb + 1) rfl hplus hminus (a + ka + 1 + kb + 1 + 1) rfl kd hkd hz (a + ka + 1 + kb + 1 + 1 + kd) rfl hkt hd2 h ha hs).mono fun e w' h => bad_ends (by decide) e2.symm h
              · rw [show Nat.ble 1 kt = true from by rw [Nat.ble_eq]; omega, Bool.true_or, cond_true]
                exact (lit_em_row ka hka (a + ka) rfl hdot (a + ka + 1) rfl kb hkb h0 (a + ka + 1 + kb) rfl hexp (a + ka + 1 + kb + 1) rfl hplus hminus (a + ka + 1 + kb + 1 + 1) rfl kd hkd hz (a + ka + 1 + kb + 1 + 1 + kd) rfl kt hkt (a + ka + 1 + kb + 1 + 1 + kd + kt) rfl ht h ha hs).mono fun e w' h => bad_ends (by decide) e2.symm h
        · simp only [Bool.true_or, cond_true]
          obtain ⟨kd, hkd⟩ : ∃ k, runL [3] (from_ s (a + ka + 1 + kb + 1 + 1)) = k := ⟨_, rfl⟩
          simp only [Nat.add_zero, hkd]
          by_cases hz : kd = 0
          · rw [show Nat.beq kd 0 = true from by rw [Nat.beq_eq]; exact hz]
            exact (lit_ep_z ka hka (a + ka) rfl hdot (a + ka + 1) rfl kb hkb h0 (a + ka + 1 + kb) rfl hexp (a + ka + 1 + kb + 1) rfl hplus (a + ka + 1 + kb + 1 + 1) rfl kd hkd hz h ha hs).mono fun e w' h => bad_ends (by decide) (by omega) h
          · rw [show Nat.beq kd 0 = false from by rw [← Bool.not_eq_true, Nat.beq_eq]; exact hz]
            simp only [cond_false]
            have e2 : a + (ka + 1 + kb + 1 + 1 + kd) = a + ka + 1 + kb + 1 + 1 + kd := by omega
            rw [e2]
            obtain ⟨kt, hkt⟩ : ∃ k, runL nameCh (from_ s (a + ka + 1 + kb + 1 + 1 + kd)) = k := ⟨_, rfl⟩
            simp only [hkt]
            by_cases ht : kt = 0
            · subst ht
              cases hd2 : hasL [46] (from_ s (a + ka + 1 + kb + 1 + 1 + kd))
              · exact (lit_ep_ok ka hka (a + ka) rfl hdot (a + ka + 1) rfl kb hkb h0 (a + ka + 1 + kb) rfl hexp (a + ka + 1 + kb + 1) rfl hplus (a + ka + 1 + kb + 1 + 1) rfl kd hkd hz (a + ka + 1 + kb + 1 + 1 + kd) rfl hkt hd2 h ha hs).mono fun e w' h => ok_ends (by decide) e2.symm h
              · exact (lit_ep_dot ka hka (a + ka) rfl hdot (a + ka + 1) rfl kb hkb h0 (a + ka + 1 + kb) rfl hexp (a + ka + 1 + kb + 1) rfl hplus (a + ka + 1 + kb + 1 + 1) rfl kd hkd hz (a + ka + 1 + kb + 1 + 1 + kd) rfl hkt hd2 h ha hs).mono fun e w' h => bad_ends (by decide) e2.symm h
            · rw [show Nat.ble 1 kt = true from by rw [Nat.ble_eq]; omega, Bool.true_or, cond_true]
              exact (lit_ep_row ka hka (a + ka) rfl hdot (a + ka + 1) rfl kb hkb h0 (a + ka + 1 + kb) rfl hexp (a + ka + 1 + kb + 1) rfl hplus (a + ka + 1 + kb + 1 + 1) rfl kd hkd hz (a + ka + 1 + kb + 1 + 1 + kd) rfl kt hkt (a + ka + 1 + kb + 1 + 1 + kd + kt) rfl ht h ha hs).mono fun e w' h => bad_ends (by decide) e2.symm h

end Go.Proofs.YtgplgmjnhkhbjaaGreatDoor
