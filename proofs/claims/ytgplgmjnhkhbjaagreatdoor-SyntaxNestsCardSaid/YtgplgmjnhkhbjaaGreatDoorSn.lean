/-
  The three cuts as the model has them.
-/
import Derived.Test.YtgplgmjnhkhbjaaGreatDoorSl
set_option linter.unusedVariables false
set_option linter.unusedSimpArgs false
namespace Go.Proofs.YtgplgmjnhkhbjaaGreatDoor
open Go.RowKit Go.Proofs.YtgplgmjnhkhbjaaGreatDoorW.PrintWords PScan PWord Syn

theorem cutL_2 {c : UInt8} {t : List UInt8} (h : sortU c = 2) : cutL (c :: t) = bif Nat.ble (runL nameCh (c :: t)) 32 then .ok (bif isWord ((c :: t).take (runL nameCh (c :: t))) then 3 else 2, runL nameCh (c :: t)) else .error 0 := by
  simp only [cutL, h]
theorem cutL_3 {c : UInt8} {t : List UInt8} (h : sortU c = 3) : cutL (c :: t) = literalL (c :: t) := by
  simp only [cutL, h]
theorem cutL_4 {c : UInt8} {t : List UInt8} (h : sortU c = 4) : cutL (c :: t) = .ok (6, sLen (twos.any (hasL · (c :: t)))) := by
  simp only [cutL, h]
  rfl
theorem cutL_o {c : UInt8} {t : List UInt8} (h2 : sortU c ≠ 2) (h3 : sortU c ≠ 3) (h4 : sortU c ≠ 4) : cutL (c :: t) = .error 0 := by
  simp only [cutL]

theorem name_e {w0 w : World} {g a : Nat} {s : ByteArray} {W : World} {c : UInt8} {t : List UInt8} (hf : from_ s a = c :: t) (hc : sortU c = 2) (h : Cu w0 w g s a (-1) W) (ha : a ≤ s.size) (hs : s.size ≤ 1000000) :
    Calls Tryz.prog 16 #[.pointer (some ⟨g, 0, none⟩)] W fun e w' => CutEnds w0 w g s a (cutL (c :: t)) e w' := by
  refine (name_w (runL nameCh (from_ s a)) rfl (isWord ((from_ s a).take (runL nameCh (from_ s a)))) rfl h ha hs).mono ?_
  rw [hf, cutL_2 hc]
  rintro e w' ⟨rfl, h1⟩
  by_cases hn : runL nameCh (c :: t) ≤ 32
  · rw [if_pos hn] at h1
    rw [show Nat.ble (runL nameCh (c :: t)) 32 = true from by rw [Nat.ble_eq]; exact hn]
    cases isWord ((c :: t).take (runL nameCh (c :: t)))
    · exact ⟨by decide, rfl, h1⟩
    · exact ⟨by decide, rfl, h1⟩
  · rw [if_neg hn] at h1
    rw [show Nat.ble (runL nameCh (c :: t)) 32 = false from by rw [← Bool.not_eq_true, Nat.ble_eq]; exact hn]
    cases isWord ((c :: t).take (runL nameCh (c :: t)))
    · exact ⟨2, _, by decide, rfl, h1⟩
    · exact ⟨3, _, by decide, rfl, h1⟩
theorem literal_e {w0 w : World} {g a : Nat} {s : ByteArray} {W : World} {c : UInt8} {t : List UInt8} (hf : from_ s a = c :: t) (hc : sortU c = 3) (h : Cu w0 w g s a (-1) W) (ha : a ≤ s.size) (hs : s.size ≤ 1000000) :
    Calls Tryz.prog 17 #[.pointer (some ⟨g, 0, none⟩)] W fun e w' => CutEnds w0 w g s a (cutL (c :: t)) e w' := by
  rw [cutL_3 hc, ← hf]
  exact cutlit_w h ha hs
theorem sign_e {w0 w : World} {g a : Nat} {s : ByteArray} {W : World} {c : UInt8} {t : List UInt8} (hf : from_ s a = c :: t) (hc : sortU c = 4) (h : Cu w0 w g s a (-1) W) (ha : a ≤ s.size) (hs : s.size ≤ 1000000) :
    Calls Tryz.prog 18 #[.pointer (some ⟨g, 0, none⟩)] W fun e w' => CutEnds w0 w g s a (cutL (c :: t)) e w' := by
  rw [cutL_4 hc, ← hf]
  refine (sign_w _ rfl h ha hs).mono ?_
  rintro e w' ⟨rfl, h1⟩
  exact ⟨by decide, rfl, h1⟩

/-- what stands behind j of the three cuts -/
def CutSt (c : UInt8) (l : List UInt8) (a j kind b : Nat) (bad : Int) : Prop :=
  (kind = 0 ∧ b = a ∧ bad = -1 ∧ ∀ i, i < j → sortU c ≠ i + 2) ∨
  (kind ≠ 0 ∧ 2 ≤ sortU c ∧ sortU c < j + 2 ∧ match cutL l with | .error n => bad = ((a + n : Nat) : Int) | .ok (k, n) => kind = k ∧ bad = -1 ∧ b = a + n)

end Go.Proofs.YtgplgmjnhkhbjaaGreatDoor
