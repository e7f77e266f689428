/-
  Plain facts on quoted texts: quoting and reading back. No program in sight.
-/
import Derived.Test.YtjjinpohebcicaaDoorJA
set_option linter.unusedVariables false
set_option linter.unusedSimpArgs false
namespace Go.Proofs.YtjjinpohebcicaaDoor
namespace Ln

theorem all256 (p : UInt8 → Bool) (h : ∀ n : Nat, n < 256 → p (UInt8.ofNat n) = true) (c : UInt8) : p c = true := by
  have := h c.toNat (UInt8.toNat_lt c)
  simpa using this

theorem esc_hex (c : UInt8) : (hexU (hexDigits.getD (c.toNat / 16) 0) != 16 && hexU (hexDigits.getD (c.toNat % 16) 0) != 16 && 16 * hexU (hexDigits.getD (c.toNat / 16) 0) + hexU (hexDigits.getD (c.toNat % 16) 0) == c) = true :=
  all256 (fun c => hexU (hexDigits.getD (c.toNat / 16) 0) != 16 && hexU (hexDigits.getD (c.toNat % 16) 0) != 16 && 16 * hexU (hexDigits.getD (c.toNat / 16) 0) + hexU (hexDigits.getD (c.toNat % 16) 0) == c) (by decide +kernel) c

theorem esc_ok (c : UInt8) : ((esc c).all fun b => 32 ≤ b && b ≤ 126) = true :=
  all256 (fun c => (esc c).all fun b => 32 ≤ b && b ≤ 126) (by decide +kernel) c
theorem esc_len (c : UInt8) : (esc c).length ≤ 4 := by
  have := all256 (fun c => decide ((esc c).length ≤ 4)) (by decide +kernel) c
  simpa using this

theorem unq_cons (c : UInt8) (r : List UInt8) (h : okByte c = true) (h1 : c ≠ 92) : unq (c :: r) = (unq r).map (c :: ·) := by
  rw [unq.eq_def]
  simp only [h, if_true, h1, if_false]
theorem unq_self (d : UInt8) (r : List UInt8) (h : d = 34 ∨ d = 92) : unq (92 :: d :: r) = (unq r).map (d :: ·) := by
  rw [unq.eq_def]
  simp only [show okByte 92 = true from by decide, if_true, h]
theorem unq_n (r : List UInt8) : unq (92 :: 110 :: r) = (unq r).map (10 :: ·) := by
  rw [unq.eq_def]
  simp only [show okByte 92 = true from by decide, if_true, show ¬ ((110 : UInt8) = 34 ∨ (110 : UInt8) = 92) from by decide, if_false]
theorem unq_t (r : List UInt8) : unq (92 :: 116 :: r) = (unq r).map (9 :: ·) := by
  rw [unq.eq_def]
  simp only [show okByte 92 = true from by decide, if_true, show ¬ ((116 : UInt8) = 34 ∨ (116 : UInt8) = 92) from by decide, if_false, show ¬ (116 : UInt8) = 110 from by decide]
theorem unq_x (a b : UInt8) (r : List UInt8) : unq (92 :: 120 :: a :: b :: r) = if hexU a = 16 ∨ hexU b = 16 then none else (unq r).map ((16 * hexU a + hexU b) :: ·) := by
  rw [unq.eq_def]
  simp only [show okByte 92 = true from by decide, if_true, show ¬ ((120 : UInt8) = 34 ∨ (120 : UInt8) = 92) from by decide, if_false, show ¬ (120 : UInt8) = 110 from by decide, show ¬ (120 : UInt8) = 116 from by decide]
theorem unq_esc (c : UInt8) (l : List UInt8) : unq (esc c ++ l) = (unq l).map (c :: ·) := by
  unfold esc
  split
  · rename_i h
    show unq (92 :: c :: l) = _
    exact unq_self c l h
  · rename_i h0
    split
    · rename_i h; subst h; exact unq_n l
    · split
      · rename_i h; subst h; exact unq_t l
      · split
        · have hx := esc_hex c
          simp only [Bool.and_eq_true, bne_iff_ne, ne_eq, beq_iff_eq] at hx
          obtain ⟨⟨h1, h2⟩, h3⟩ := hx
          generalize hexDigits.getD (c.toNat / 16) 0 = a at *
          generalize hexDigits.getD (c.toNat % 16) 0 = b at *
          show unq (92 :: 120 :: a :: b :: l) = _
          rw [unq_x, if_neg (by rintro (h | h) <;> contradiction), h3]
        · rename_i h1 h2 h3
          show unq (c :: l) = _
          have hok : okByte c = true := by
            unfold okByte
            simp only [Bool.and_eq_true, decide_eq_true_eq, bne_iff_ne, ne_eq]
            refine ⟨⟨?_, ?_⟩, fun h => h0 (Or.inl h)⟩
            · exact UInt8.not_lt.1 fun h => h3 (Or.inl h)
            · exact UInt8.not_lt.1 fun h => h3 (Or.inr h)
          exact unq_cons c l hok (fun h => h0 (Or.inr h))

theorem unq_quo (l : List UInt8) : unq (l.flatMap esc) = some l := by
  induction l with
  | nil => rfl
  | cons c l ih => rw [List.flatMap_cons, unq_esc, ih]; rfl

theorem mid_quo (x : List UInt8) : mid (34 :: (x ++ [34])) = x := by
  unfold mid
  simp

theorem txt_quo (l : List UInt8) : txtM (quoM l) = (l, true) := by
  unfold txtM quoM
  have h : (34 :: (l.flatMap esc ++ [34])).getLast? = some (34 : UInt8) := by
    rw [← List.cons_append, List.getLast?_append]; rfl
  rw [if_neg (by simp only [h]; simp), mid_quo, unq_quo]

theorem quo_ok (l : List UInt8) : ∀ b ∈ quoM l, 32 ≤ b ∧ b ≤ 126 := by
  intro b hb
  unfold quoM at hb
  simp only [List.mem_cons, List.mem_append, List.mem_flatMap, List.not_mem_nil, or_false] at hb
  rcases hb with rfl | ⟨c, _, hc⟩ | rfl
  · decide
  · have := List.all_eq_true.1 (esc_ok c) b hc
    simpa using this
  · decide

theorem flat_len (l : List UInt8) : (l.flatMap esc).length ≤ 4 * l.length := by
  induction l with
  | nil => simp
  | cons c l ih =>
    rw [List.flatMap_cons, List.length_append, List.length_cons]
    have := esc_len c
    omega
theorem quo_len (l : List UInt8) : (quoM l).length ≤ 4 * l.length + 2 := by
  unfold quoM
  have := flat_len l
  rw [List.length_cons, List.length_append, List.length_singleton]
  omega

theorem unq_len (l : List UInt8) : ∀ t, unq l = some t → t.length ≤ l.length := by
  fun_induction unq l <;> intro t ht
  all_goals first
    | (cases ht; simp; done)
    | (cases ht; done)
    | (rename_i ih
       obtain ⟨u, hu, rfl⟩ := Option.map_eq_some_iff.1 ht
       have := ih u hu
       simp only [List.length_cons] at *
       omega)

theorem txt_len {q t : List UInt8} (h : txtM q = (t, true)) : t.length + 2 ≤ q.length := by
  unfold txtM at h
  split at h
  · simp at h
  · rename_i hc
    split at h
    · rename_i u hu
      simp only [Prod.mk.injEq, and_true] at h
      subst h
      have := unq_len _ _ hu
      have hm : (mid q).length ≤ q.length - 2 := by unfold mid; simp; omega
      have h2 : ¬ q.length < 2 := fun h => hc (Or.inl h)
      omega
    · simp at h
theorem txt_no {q t : List UInt8} (h : txtM q = (t, false)) : t = [] := by
  unfold txtM at h
  split at h
  · simpa using h.symm
  · split at h
    · simp at h
    · simpa using h.symm
end Ln
end Go.Proofs.YtjjinpohebcicaaDoor
