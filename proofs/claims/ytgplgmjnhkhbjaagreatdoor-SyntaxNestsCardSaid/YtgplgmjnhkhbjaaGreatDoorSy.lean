/-
  The parser's walks, 10: expr, its parts.
-/
import Derived.Test.YtgplgmjnhkhbjaaGreatDoorSx
import Derived.ScopeJumps
import Derived.Deep.RegionHeld3
set_option linter.unusedVariables false
set_option linter.unusedSimpArgs false
namespace Go.Proofs.YtgplgmjnhkhbjaaGreatDoor
attribute [local go_sem] tok_0 tok_1 tok_2
open Go.RowKit Go.Proofs.YtgplgmjnhkhbjaaGreatDoorW.PrintWords PSameTree PflatTokens Syn

section
variable {P : Program} {a : Act} {w : World} {Q : Exit → Act → World → Prop}
/-- a scope into which the run jumps back; a number goes down -/
theorem wp_scope_ghost {c rest : Code} (l : Nat) (I : Nat → Act → World → Prop) (hf : findLabel c l = some rest)
    (first : c.wp P (Exit.jump l (fun a w => ∃ n, I n a w) Q) a w)
    (pass : ∀ n a w, I n a w → rest.wp P (Exit.jump l (fun a' w' => ∃ n', n' < n ∧ I n' a' w') Q) a w) : (Code.scope c).wp P Q a w := by
  refine wp_scope_jumps l (fun a w => ∃ n, I n a w) (fun a w => leastOf (fun n => I n a w)) hf first ?_
  intro a w hJ
  refine Code.wp_mono ?_ (pass _ a w (leastOf_spec hJ).1)
  intro e a' w' hq
  cases e with
  | goto l' =>
    obtain ⟨rfl, n', hlt, hI'⟩ := hq
    exact ⟨rfl, ⟨n', hI'⟩, Nat.lt_of_le_of_lt ((leastOf_spec ⟨n', hI'⟩).2 n' hI') hlt⟩
  | normal => exact hq
  | exit id => exact hq
  | ret => exact hq
  | panic ch => exact hq
  | outgrown => exact hq
theorem wp_scope_pass {c X : Code} (l : Nat) (I : Nat → Act → World → Prop) (hf : findLabel c l = some (.seq .skip X))
    (pass : ∀ n a w, I n a w → X.wp P (Exit.jump l (fun a' w' => ∃ n', n' < n ∧ I n' a' w') Q) a w)
    (first : (∀ n a w, I n a w → X.wp P (Exit.jump l (fun a w => ∃ n, I n a w) Q) a w) → c.wp P (Exit.jump l (fun a w => ∃ n, I n a w) Q) a w) : (Code.scope c).wp P Q a w := by
  refine wp_scope_ghost l I hf (first fun n a w hI => Code.wp_mono ?_ (pass n a w hI)) (fun n a w hI => wp_seq (wp_skip (pass n a w hI)))
  intro e a' w' hq
  cases e with
  | goto l' =>
    obtain ⟨rfl, n', _, hI'⟩ := hq
    exact ⟨rfl, n', hI'⟩
  | normal => exact hq
  | exit id => exact hq
  | ret => exact hq
  | panic ch => exact hq
  | outgrown => exact hq
end

theorem jump_ret {l : Nat} {J : Act → World → Prop} {Q : Exit → Act → World → Prop} {a : Act} {w : World} (h : Q .ret a w) : Exit.jump l J Q .ret a w := h

/-- the rows of the operators, as the program's variable holds them -/
def rowV (r : Row) : List Value := [.string ⟨r.sign.toArray⟩, .int .i64 (r.at_ : Int), .int .u8 (r.kind : Int), .int .u8 (r.op : Int)]
def rowsL : List Value := (rows.map rowV).flatten
set_option maxRecDepth 100000 in
theorem row_at (i : Nat) (h : i < 18) : ∀ w, (Instr.index 175 (.agg rowsL.toArray) (.int .i64 (i : Int))).run Tryz.prog w = .ok (.agg (rowV (rows.getD i ⟨[], 0, 0, 0⟩)).toArray) w := by
  intro w
  obtain rfl | rfl | rfl | rfl | rfl | rfl | rfl | rfl | rfl | rfl | rfl | rfl | rfl | rfl | rfl | rfl | rfl | rfl : i = 0 ∨ i = 1 ∨ i = 2 ∨ i = 3 ∨ i = 4 ∨ i = 5 ∨ i = 6 ∨ i = 7 ∨ i = 8 ∨ i = 9 ∨ i = 10 ∨ i = 11 ∨ i = 12 ∨ i = 13 ∨ i = 14 ∨ i = 15 ∨ i = 16 ∨ i = 17 := by omega
  all_goals kernel_rfl

theorem row_get (i : Nat) (h : i < 18) : ∃ r, rows[i]? = some r ∧ ∀ w, (Instr.index 175 (.agg rowsL.toArray) (.int .i64 (i : Int))).run Tryz.prog w = .ok (.agg #[.string ⟨r.sign.toArray⟩, .int .i64 (r.at_ : Int), .int .u8 (r.kind : Int), .int .u8 (r.op : Int)]) w := by
  have hl : rows.length = 18 := rfl
  refine ⟨rows.getD i ⟨[], 0, 0, 0⟩, ?_, fun w => row_at i h w⟩
  rw [List.getD_eq_getElem?_getD, List.getElem?_eq_getElem (by omega)]
  rfl
theorem find_at {l : List Row} {q : Row → Bool} {i : Nat} {r : Row} (hi : l[i]? = some r) (h0 : (l.take i).find? q = none) (hq : q r = true) : l.find? q = some r := by
  obtain ⟨hl, he⟩ := List.getElem?_eq_some_iff.1 hi
  have : l = l.take i ++ r :: l.drop (i + 1) := by
    rw [← he, List.getElem_cons_drop, List.take_append_drop]
  rw [this, List.find?_append, h0]
  simp [hq]
theorem find_next {l : List Row} {q : Row → Bool} {i : Nat} {r : Row} (hi : l[i]? = some r) (h0 : (l.take i).find? q = none) (hq : q r = false) : (l.take (i + 1)).find? q = none := by
  obtain ⟨hl, he⟩ := List.getElem?_eq_some_iff.1 hi
  rw [List.take_succ_eq_append_getElem hl, List.find?_append, h0, he]
  simp [hq]

theorem again_inv {c : Cs} {p left : Nat} {s : St} {x : Except Fault (Nat × St)} (h : againM c p left s = some x) :
    ∃ t r, s.toks = t :: r ∧ ((rows.find? (fun r => Nat.beq r.at_ p && isT r.sign t) = none ∧ x = .ok (left, s)) ∨
      ∃ row, rows.find? (fun r => Nat.beq r.at_ p && isT r.sign t) = some row ∧ ∃ y, wantM row.sign s = some y ∧ ((∃ f, y = .error f ∧ x = .error f) ∨ ∃ s1, y = .ok ((), s1) ∧
        ∃ z, c.expr (p + 1) s1 = some z ∧ ((∃ f, z = .error f ∧ x = .error f) ∨ ∃ k s2, z = .ok (k, s2) ∧
          ∃ l s3, putM { kind := row.kind, at_ := t.at_, op := row.op, kids := [left, k] } s2 = some (.ok (l, s3)) ∧ c.again p l s3 = some x))) := by
  unfold againM at h
  rcases bind_is h with ⟨e, h1, _⟩ | ⟨t, s0, h1, h2⟩
  · obtain ⟨t, r, _, hx⟩ := nextM_inv h1
    cases hx
  · obtain ⟨rfl, r, ht⟩ := nextM_ok (x := .ok (t, s0)) h1
    refine ⟨t, r, ht, ?_⟩
    cases hf : rows.find? (fun r => Nat.beq r.at_ p && isT r.sign t) with
    | none =>
      rw [hf] at h2
      have h2 : some (Except.ok (left, s0)) = some x := h2
      exact .inl ⟨rfl, (Option.some.inj h2).symm⟩
    | some row =>
      rw [hf] at h2
      simp only at h2
      refine .inr ⟨row, rfl, ?_⟩
      rcases bind_is h2 with ⟨e, h3, hx⟩ | ⟨u, s1, h3, h4⟩
      · exact ⟨_, h3, .inl ⟨e, rfl, hx⟩⟩
      · refine ⟨_, h3, .inr ⟨s1, rfl, ?_⟩⟩
        rcases bind_is h4 with ⟨e, h5, hx⟩ | ⟨k, s2, h5, h6⟩
        · exact ⟨_, h5, .inl ⟨e, rfl, hx⟩⟩
        · refine ⟨_, h5, .inr ⟨k, s2, rfl, ?_⟩⟩
          rcases bind_is h6 with ⟨e, h7, hx⟩ | ⟨l, s3, h7, h8⟩
          · obtain ⟨_, hx'⟩ := putM_inv h7
            cases hx'
          · exact ⟨l, s3, h7, h8⟩

end Go.Proofs.YtgplgmjnhkhbjaaGreatDoor
