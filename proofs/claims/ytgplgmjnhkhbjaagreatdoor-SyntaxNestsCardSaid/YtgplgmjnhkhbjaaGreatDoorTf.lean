/-
  The parser's walks, 17: what holds of all levels; the row of parameters.
-/
import Derived.Test.YtgplgmjnhkhbjaaGreatDoorTe
set_option linter.unusedVariables false
set_option linter.unusedSimpArgs false
namespace Go.Proofs.YtgplgmjnhkhbjaaGreatDoor
attribute [local go_sem] tok_0 tok_1 tok_2
open Go.RowKit Go.Proofs.YtgplgmjnhkhbjaaGreatDoorW.PrintWords PSameTree PflatTokens Syn

theorem all_ok {w0 : World} {g : Nat} {src : ByteArray} (hG : ∃ t fr, w0.heap[0]? = some (.cells rowsL.toArray t fr)) (fv : Value) : ∀ N, (∀ j, j ≤ N → ExprOK w0 g src fv (lvl j).expr) ∧ UnaryOK w0 g src fv (lvl N).unary ∧ (∀ j, j ≤ N → StmtOK w0 g src fv (lvl j).stmt) ∧ ChoiceOK w0 g src fv (lvl N).choice := by
  intro N
  induction N with
  | zero =>
    refine ⟨fun j hj => ?_, ?_, fun j hj => ?_, ?_⟩
    · obtain rfl : j = 0 := by omega
      intro rs p i W s nv x _ _ hm _
      cases hm
    · intro rs W s nv x hm _
      cases hm
    · obtain rfl : j = 0 := by omega
      intro rs W s nv x hm _
      cases hm
    · intro rs a W s nv x hm _
      cases hm
  | succ N ih =>
    obtain ⟨hE, hU, hS, hC⟩ := ih
    have e1 := expr_w N hG hE hU
    have s1 := stmt_w N (hE N (Nat.le_refl _)) hC
    refine ⟨fun j hj => ?_, ?_, fun j hj => ?_, ?_⟩
    · rcases Nat.lt_or_ge N j with h | h
      · obtain rfl : j = N + 1 := by omega
        exact e1
      · exact hE j h
    · intro rs W s nv x hm h
      exact unary_w N hE hU hm h
    · rcases Nat.lt_or_ge N j with h | h
      · obtain rfl : j = N + 1 := by omega
        exact s1
      · exact hS j h
    · exact choice_w N (hE N (Nat.le_refl _)) (fun j hj => hS j (by omega))

/-- a row of parameters that is being made -/
structure Ky (w0 : World) (rs : Nat → Prop) (wr : World) (ov : Value) (out : List S82) : Prop where
  row : k82.R 82 wr w0.heap.size (fun _ => True) ov out
  nrs : ∀ k, ov.ownBlock = some k → ¬ rs k

theorem R_82 {w : World} {base : Nat} {ok ok' : Nat → Prop} {v : Value} {xs : List S82} (h : k82.R 82 w base ok v xs) (hk : ∀ k, v.ownBlock = some k → ok' k) : k82.R 82 w base ok' v xs := by
  obtain ⟨h0, inner, ho, hr⟩ := h
  exact ⟨hk, inner, ho, hr.imp_ (fun _ _ hp => by obtain rfl := k82_openM hp; exact k82_mkM _ _ _ _)⟩

section
variable {w0 W wr w' : World} {g : Nat} {src : ByteArray} {rs rs' : Nat → Prop} {s : St} {nv fv ov nv' : Value} {out : List S82}
theorem Ky.move (h : Ky w0 rs wr ov out) (hm : ∀ k, ov.ownBlock = some k → w'.heap[k]? = wr.heap[k]?) : Ky w0 rs w' ov out :=
  ⟨R_82 (Kd.R_move (ok := fun k => ov.ownBlock = some k) (R_82 h.row (fun k hk => hk)) hm) (fun _ _ => trivial), h.nrs⟩
theorem Ky.lt (h : Ky w0 rs wr ov out) {k : Nat} (hk : ov.ownBlock = some k) : k < wr.heap.size := by
  obtain ⟨_, ho⟩ := Kd.R_own h.row
  exact own_lt ho k hk
theorem Ky.mv (h : Ky w0 rs wr ov out) (p : Pz w0 g src rs' s nv fv wr) (hr : ∀ k, ov.ownBlock = some k → rs' k) (m : Mv g wr nv w' nv') : Ky w0 rs w' ov out :=
  h.move fun k hk => m.kp.2 k (h.lt hk) (p.ng (hr k hk)) (p.nn (hr k hk))
theorem Ky.below (h : Ky w0 rs wr ov out) (hb : Below wr.heap.size wr w') : Ky w0 rs w' ov out := h.move fun k hk => hb.block k (h.lt hk)
theorem Ky.far (h : Ky w0 rs wr ov out) {b : Nat} (hb : some b ≠ ov.ownBlock) (j : Nat) (u : Value) : Ky w0 rs (wr.setCell ⟨b, j, none⟩ u) ov out :=
  h.move fun k hk => Below.heap_setCell wr ⟨b, j, none⟩ u k (fun e => hb (by rw [hk, e]))
theorem Ky.done (k : Ky w0 rs wr ov out) (p : Pz w0 g src (ro rs ov) s nv fv wr) :
    k82.R 82 wr w0.heap.size (fun k => k ≠ g ∧ some k ≠ fv.ownBlock ∧ some k ≠ nv.ownBlock ∧ ¬ rs k) ov out :=
  R_82 k.row fun i hi => ⟨p.ng (.inr hi.symm), fun e => (p.fns.1 i e.symm).1.2 (.inr hi.symm), p.nn (.inr hi.symm), k.nrs i hi⟩

/-- a row grown by one -/
theorem row_grow {v1 : Value} {wn : World} (h : Pz w0 g src (ro rs ov) s nv fv wr) (hlt : ∀ k, v1.ownBlock = some k → k < wn.heap.size) (r2 : Below w0.heap.size w0 wn) (r3 : wr.grownBy wn ov.ownBlock)
    (r4 : v1.ownBlock = ov.ownBlock ∨ ∃ b, v1.ownBlock = some b ∧ wr.heap.size ≤ b) : Pz w0 g src (ro rs v1) s nv fv wn := by
  have hg : some g ≠ ov.ownBlock := fun e => h.rg (.inr e)
  obtain ⟨b, o, c, h1, h2, h3⟩ := h.cells
  have hv : ∀ k, k < wr.heap.size → ¬ ro rs ov k → ¬ ro rs v1 k := by
    intro k hk hn hr
    rcases hr with hr | hr
    · exact hn (.inl hr)
    · rcases r4 with e | ⟨b, e, hb⟩
      · exact hn (.inr (hr.trans e))
      · rw [e] at hr
        injection hr with hr
        omega
  refine ⟨⟨b, o, c, blk_grown h1 r3 hg, h2, h3⟩, h.ge, r2, h.fit, ?_, h.cnt, ?_, h.opn, h.big, fun k hk => ?_, fun k hk => ?_, fun hk => ?_⟩
  · exact Kd.R_mono (Kd.R_grown (Kd.R_bound h.nds) r3 (fun k hk e => hk.1.2.2 (.inr e))) (fun k hk => ⟨hk.1.1, hk.1.2.1, hv k hk.2.2.1 hk.1.2.2⟩)
  · exact Kd.R_mono (Kd.R_grown (Kd.R_bound h.fns) r3 (fun k hk e => hk.1.1.2 (.inr e))) (fun k hk => ⟨⟨hk.1.1.1, hv k hk.2.2.1 hk.1.1.2⟩, hk.1.2⟩)
  · rcases hk with hk | hk
    · exact Nat.lt_of_lt_of_le (h.rlt k (.inl hk)) r3.size
    · exact hlt k hk.symm
  · rcases hk with hk | hk
    · exact h.rlow k (.inl hk)
    · rcases r4 with e | ⟨b, e, hb⟩
      · exact h.rlow k (.inr (hk.trans e))
      · rw [e] at hk
        injection hk with hk
        have := h.low
        omega
  · rcases hk with hk | hk
    · exact h.rg (.inl hk)
    · rcases r4 with e | ⟨b, e, hb⟩
      · exact hg (hk.trans e)
      · rw [e] at hk
        injection hk with hk
        have := h.lt
        omega

/-- a function more -/
theorem fun_end {Wb w1 : World} {f : Syn.Fn} {A : Option Addr} {m c : Nat} (h : Pz w0 g src rs s nv fv W) (hb : Below W.heap.size W Wb) (hm : m = s.funcs.length + 1) (r1 : k49.R 49 w1 w0.heap.size (fun k => (k ≠ g ∧ ¬ rs k) ∧ some k ≠ nv.ownBlock) (.slice A m c) (s.funcs.map fd ++ [fd f])) (r2 : Below w0.heap.size w0 w1) (r3 : Wb.grownBy w1 fv.ownBlock)
    (r4 : (Value.slice A m c).ownBlock = fv.ownBlock ∨ ∃ b, (Value.slice A m c).ownBlock = some b ∧ Wb.heap.size ≤ b) :
    Pz w0 g src rs { s with funcs := s.funcs ++ [f] } nv (.slice A m c) (w1.setCell ⟨g, 4, none⟩ (.slice A m c)) := by
  have hg : some g ≠ fv.ownBlock := fun e => (h.fns.1 g e.symm).1.1 rfl
  have hbp := h.below hb
  obtain ⟨b, o, k, h1, h2, h3⟩ := hbp.cells
  refine ⟨⟨b, o, k, blk_put (blk_grown h1 r3 hg) 4 _ (by simp), h2, h3⟩, h.ge, Below.setCell r2 h.ge _, h.fit, ?_, h.cnt, ?_, h.opn, h.big, fun k hk => ?_, h.rlow, h.rg⟩
  · have h5 : k46.R 46 Wb w0.heap.size (fun k => (k ≠ g ∧ ¬ rs k) ∧ some k ≠ fv.ownBlock) nv (s.nodes.map nd) := Kd.R_mono hbp.nds (fun k hk => ⟨⟨hk.1, hk.2.2⟩, hk.2.1⟩)
    have h6 := Kd.R_far (p := ⟨g, 4, none⟩) (Kd.R_after h5 r3 r4) (fun k hk => hk.1.1) (.slice A m c)
    exact Kd.R_mono h6 (fun k hk => ⟨hk.1.1, hk.2, hk.1.2⟩)
  · have := Kd.R_far (p := ⟨g, 4, none⟩) r1 (fun k hk => hk.1.1) (.slice A m c)
    rw [List.map_append]
    exact this
  · have h5 := hbp.rlt k hk
    have h6 := r3.size
    simp only [World.setCell, Array.size_modify]
    omega
end

theorem params_inv {j : Nat} {out : List (List UInt8 × Nat × Nat)} {s : St} {x : Except Fault (List (List UInt8 × Nat × Nat) × St)} (h : paramsM (j + 1) out s = some x) :
    ∃ b s1, gotM [41] s = some (.ok (b, s1)) ∧ ((b = true ∧ x = .ok (out, s1)) ∨ (b = false ∧ ∃ z, ((out = [] ∧ z = .ok ((), s1)) ∨ (out ≠ [] ∧ wantM [44] s1 = some z)) ∧ ((∃ f, z = .error f ∧ x = .error f) ∨
      ∃ s2, z = .ok ((), s2) ∧ ∃ t r, s2.toks = t :: r ∧ ∃ y, takeM 2 s2 = some y ∧ ((∃ f, y = .error f ∧ x = .error f) ∨ ∃ nm s3, y = .ok (nm, s3) ∧ ∃ u, typM s3 = some u ∧ ((∃ f, u = .error f ∧ x = .error f) ∨
        ∃ ty s4, u = .ok (ty, s4) ∧ out.length < cap ∧ paramsM j (out ++ [(nm, t.at_, ty)]) s4 = some x))))) := by
  unfold paramsM at h
  rcases bind_is h with ⟨e, h1, _⟩ | ⟨b, s1, h1, h2⟩
  · obtain ⟨t, r, _, hx⟩ := gotM_inv h1
    rcases hx with ⟨_, hx⟩ | ⟨_, _, _, _, hx⟩ <;> cases hx
  · refine ⟨b, s1, h1, ?_⟩
    cases b
    · right
      refine ⟨rfl, ?_⟩
      simp only [cond_false] at h2
      have tail : ∀ s2, (do let t ← nextM; let name ← takeM 2; let ty ← typM; roomM out.length; paramsM j (out ++ [(name, t.at_, ty)]) : M (List (List UInt8 × Nat × Nat))) s2 = some x →
          ∃ t r, s2.toks = t :: r ∧ ∃ y, takeM 2 s2 = some y ∧ ((∃ f, y = .error f ∧ x = .error f) ∨ ∃ nm s3, y = .ok (nm, s3) ∧ ∃ u, typM s3 = some u ∧ ((∃ f, u = .error f ∧ x = .error f) ∨
            ∃ ty s4, u = .ok (ty, s4) ∧ out.length < cap ∧ paramsM j (out ++ [(nm, t.at_, ty)]) s4 = some x)) := by
        intro s2 h3
        rcases bind_is h3 with ⟨e, h1, _⟩ | ⟨t, s0, h1, h31⟩
        · obtain ⟨t, r, _, hx⟩ := nextM_inv h1
          cases hx
        · obtain ⟨rfl, r, ht⟩ := nextM_ok (x := .ok (t, s0)) h1
          refine ⟨t, r, ht, ?_⟩
          rcases bind_is h31 with ⟨e, h4, hx⟩ | ⟨nm, s3, h4, h5⟩
          · exact ⟨_, h4, .inl ⟨e, rfl, hx⟩⟩
          · refine ⟨_, h4, .inr ⟨nm, s3, rfl, ?_⟩⟩
            rcases bind_is h5 with ⟨e, h6, hx⟩ | ⟨ty, s4, h6, h7⟩
            · exact ⟨_, h6, .inl ⟨e, rfl, hx⟩⟩
            · refine ⟨_, h6, .inr ⟨ty, s4, rfl, ?_⟩⟩
              rcases bind_is h7 with ⟨e, h8, hx⟩ | ⟨u, s5, h8, h9⟩
              · unfold roomM at h8
                cases hb : Nat.blt out.length cap <;> rw [hb] at h8 <;> cases h8
              · unfold roomM at h8
                cases hb : Nat.blt out.length cap
                · rw [hb] at h8; cases h8
                · rw [hb] at h8
                  simp only [cond_true, Option.some.injEq, Except.ok.injEq, Prod.mk.injEq] at h8
                  obtain ⟨_, rfl⟩ := h8
                  exact ⟨by simpa [Nat.blt_eq] using hb, h9⟩
      cases hout : out with
      | nil =>
        subst hout
        simp only [List.isEmpty_nil, cond_true] at h2
        exact ⟨_, .inl ⟨rfl, rfl⟩, .inr ⟨s1, rfl, tail s1 h2⟩⟩
      | cons y ys =>
        rw [← hout]
        have he : out.isEmpty = false := by rw [hout]; rfl
        rw [he] at h2
        simp only [cond_false] at h2
        rcases bind_is h2 with ⟨e, h3, hx⟩ | ⟨u, s2, h3, h4⟩
        · exact ⟨_, .inr ⟨by rw [hout]; simp, h3⟩, .inl ⟨e, rfl, hx⟩⟩
        · exact ⟨_, .inr ⟨by rw [hout]; simp, h3⟩, .inr ⟨s2, rfl, tail s2 h4⟩⟩
    · left
      refine ⟨rfl, ?_⟩
      have h2 : some (Except.ok (out, s1)) = some x := h2
      exact (Option.some.inj h2).symm

end Go.Proofs.YtgplgmjnhkhbjaaGreatDoor
