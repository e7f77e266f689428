/-
  What a parser in memory is, and what its functions leave.
-/
import Derived.Test.YtgplgmjnhkhbjaaGreatDoorMa
import Derived.Test.YtgplgmjnhkhbjaaGreatDoorL
import Derived.Lib.Hide
import Derived.WalkLawsBesides
import Derived.WalkMore
import Derived.BigQuiet
import Derived.Deep.QuietTactic
import Derived.Laws.EntriesVeiled
set_option linter.unusedVariables false
set_option linter.unusedSimpArgs false
namespace Go.Proofs.YtgplgmjnhkhbjaaGreatDoor
open Go.RowKit Go.Proofs.YtgplgmjnhkhbjaaGreatDoorW.PrintWords PSameTree PflatTokens Syn

/-- a token, a node, a parameter, a function as they lie in memory -/
def tk (t : Tok) : S38 := ⟨t.kind, t.at_, t.stop⟩
def nd (n : Nd) : S46 := ⟨n.kind, n.at_, ⟨n.name.toArray⟩, n.typ, n.op, n.bits, n.size, n.kids.map fun k : Nat => (k : Int)⟩
def pd (p : List UInt8 × Nat × Nat) : S82 := ⟨⟨p.1.toArray⟩, p.2.1, p.2.2⟩
def fd (f : Syn.Fn) : S49 := ⟨⟨f.name.toArray⟩, f.at_, f.params.map pd, f.result, f.body⟩

/-- a parser at block g -/
structure Pz (w0 : World) (g : Nat) (src : ByteArray) (rs : Nat → Prop) (s : St) (nv fv : Value) (W : World) : Prop where
  cells : ∃ b o c, W.heap[g]? = some (.cells #[.string src, .slice (some ⟨b, o, none⟩) s.toks.length c, .int .i64 (s.opn : Int), nv, fv] 72 (0, 0)) ∧ s.toks.length ≤ c ∧ k38.C w0 (some ⟨b, o, none⟩) s.toks.length (s.toks.map tk)
  ge : w0.heap.size ≤ g
  bel : Below w0.heap.size w0 W
  fit : ∀ t ∈ s.toks, Fit src.data.toList t
  nds : k46.R 46 W w0.heap.size (fun k => k ≠ g ∧ some k ≠ fv.ownBlock ∧ ¬ rs k) nv (s.nodes.map nd)
  cnt : s.count = s.nodes.length
  fns : k49.R 49 W w0.heap.size (fun k => (k ≠ g ∧ ¬ rs k) ∧ some k ≠ nv.ownBlock) fv (s.funcs.map fd)
  opn : s.opn ≤ 101
  big : src.size ≤ 65536
  rlt : ∀ k, rs k → k < W.heap.size
  rlow : ∀ k, rs k → w0.heap.size ≤ k
  rg : ¬ rs g

/-- what a function of the parser may change: the parser, the row of the nodes, what is new -/
structure Mv (g : Nat) (W : World) (nv : Value) (W' : World) (nv' : Value) : Prop where
  kp : KeepBut W W' g nv.ownBlock
  own : nv'.ownBlock = nv.ownBlock ∨ ∃ b, nv'.ownBlock = some b ∧ W.heap.size ≤ b

theorem Mv.refl (g : Nat) (W : World) (nv : Value) : Mv g W nv W nv := ⟨KeepBut.refl _ _ _, .inl rfl⟩
theorem Mv.trans {g : Nat} {W W1 W2 : World} {nv n1 n2 : Value} (h : Mv g W nv W1 n1) (k : Mv g W1 n1 W2 n2) : Mv g W nv W2 n2 := by
  refine ⟨⟨Nat.le_trans h.kp.1 k.kp.1, fun i hi h1 h2 => ?_⟩, ?_⟩
  · rw [k.kp.2 i (Nat.lt_of_lt_of_le hi h.kp.1) h1 ?_, h.kp.2 i hi h1 h2]
    rcases h.own with e | ⟨b, e, hb⟩
    · rw [e]; exact h2
    · rw [e]; intro e2
      injection e2 with e2
      omega
  · rcases k.own with e | ⟨b, e, hb⟩
    · rw [e]; exact h.own
    · exact .inr ⟨b, e, Nat.le_trans h.kp.1 hb⟩
theorem Mv.below {g : Nat} {W W' : World} {nv : Value} (h : Below W.heap.size W W') : Mv g W nv W' nv := ⟨KeepBut.of_below h _ _, .inl rfl⟩

/-- as Mv, but for one block more -/
structure Mb (g b : Nat) (W : World) (nv : Value) (W' : World) (nv' : Value) : Prop where
  size : W.heap.size ≤ W'.heap.size
  kp : ∀ i, i < W.heap.size → i ≠ g → some i ≠ nv.ownBlock → i ≠ b → W'.heap[i]? = W.heap[i]?
  own : nv'.ownBlock = nv.ownBlock ∨ ∃ b, nv'.ownBlock = some b ∧ W.heap.size ≤ b
theorem Mv.mb {g : Nat} {W W' : World} {nv nv' : Value} (h : Mv g W nv W' nv') (b : Nat) : Mb g b W nv W' nv' := ⟨h.kp.1, fun i h1 h2 h3 _ => h.kp.2 i h1 h2 h3, h.own⟩
theorem Mb.trans {g b : Nat} {W W1 W2 : World} {nv n1 n2 : Value} (h : Mb g b W nv W1 n1) (k : Mb g b W1 n1 W2 n2) : Mb g b W nv W2 n2 := by
  refine ⟨Nat.le_trans h.size k.size, fun i hi h1 h2 h3 => ?_, ?_⟩
  · rw [k.kp i (Nat.lt_of_lt_of_le hi h.size) h1 ?_ h3, h.kp i hi h1 h2 h3]
    rcases h.own with e | ⟨b, e, hb⟩
    · rw [e]; exact h2
    · rw [e]; intro e2
      injection e2 with e2
      omega
  · rcases k.own with e | ⟨b, e, hb⟩
    · rw [e]; exact h.own
    · exact .inr ⟨b, e, Nat.le_trans h.size hb⟩
/-- where the block is new -/
theorem Mb.mv {g b : Nat} {W W1 W2 : World} {nv n1 n2 : Value} (h : Mv g W nv W1 n1) (hb : W.heap.size ≤ b) (k : Mb g b W1 n1 W2 n2) : Mv g W nv W2 n2 := by
  have := (h.mb b).trans k
  exact ⟨⟨this.size, fun i hi h1 h2 => this.kp i hi h1 h2 (by omega)⟩, this.own⟩
theorem Mb.set {g b : Nat} {W W1 : World} {nv n1 : Value} (h : Mb g b W nv W1 n1) (j : Nat) (u : Value) : Mb g b W nv (W1.setCell ⟨b, j, none⟩ u) n1 :=
  ⟨Nat.le_trans h.size (by simp [World.setCell]), fun i hi h1 h2 h3 => (Below.heap_setCell W1 _ u i h3).trans (h.kp i hi h1 h2 h3), h.own⟩
theorem Mb.setg {g b : Nat} {W W1 : World} {nv n1 : Value} (h : Mb g b W nv W1 n1) (j : Nat) (u : Value) : Mb g b W nv (W1.setCell ⟨g, j, none⟩ u) n1 :=
  ⟨Nat.le_trans h.size (by simp [World.setCell]), fun i hi h1 h2 h3 => (Below.heap_setCell W1 _ u i h1).trans (h.kp i hi h1 h2 h3), h.own⟩

section
variable {w0 W W' : World} {g : Nat} {src : ByteArray} {rs : Nat → Prop} {s : St} {nv fv : Value}
theorem Pz.lt (h : Pz w0 g src rs s nv fv W) : g < W.heap.size := by
  obtain ⟨b, o, c, h1, _⟩ := h.cells
  exact (Array.getElem?_eq_some_iff.1 h1).1
theorem Pz.low (h : Pz w0 g src rs s nv fv W) : w0.heap.size ≤ W.heap.size := h.bel.size
/-- memory that is new alone -/
theorem Pz.below (h : Pz w0 g src rs s nv fv W) (hb : Below W.heap.size W W') : Pz w0 g src rs s nv fv W' := by
  obtain ⟨b, o, c, h1, h2, h3⟩ := h.cells
  exact ⟨⟨b, o, c, (hb.block g h.lt).trans h1, h2, h3⟩, h.ge, Below.trans h.bel (Below.mono hb h.low), h.fit, Kd.R_below h.nds hb, h.cnt, Kd.R_below h.fns hb, h.opn, h.big, fun k hk => Nat.lt_of_lt_of_le (h.rlt k hk) hb.size, h.rlow, h.rg⟩
end

section
variable {w0 W W' : World} {g : Nat} {src : ByteArray} {rs rs' : Nat → Prop} {s : St} {nv fv : Value}
/-- what is new is set aside -/
theorem Pz.resB (h : Pz w0 g src rs s nv fv W) (hb : Below W.heap.size W W') : Pz w0 g src (fun k => rs k ∨ (W.heap.size ≤ k ∧ k < W'.heap.size)) s nv fv W' := by
  have hn := h.below hb
  obtain ⟨b, o, c, h1, h2, h3⟩ := hn.cells
  refine ⟨⟨b, o, c, h1, h2, h3⟩, h.ge, hn.bel, h.fit, ?_, h.cnt, ?_, h.opn, h.big, fun k hk => ?_, fun k hk => ?_, fun hk => ?_⟩
  · exact Kd.R_below (Kd.R_mono (Kd.R_bound h.nds) (fun k hk => ⟨hk.1.1, hk.1.2.1, fun hr => by
      rcases hr with hr | ⟨hr, _⟩
      · exact hk.1.2.2 hr
      · have := hk.2.2.1
        omega⟩)) hb
  · exact Kd.R_below (Kd.R_mono (Kd.R_bound h.fns) (fun k hk => ⟨⟨hk.1.1.1, fun hr => by
      rcases hr with hr | ⟨hr, _⟩
      · exact hk.1.1.2 hr
      · have := hk.2.2.1
        omega⟩, hk.1.2⟩)) hb
  · rcases hk with hk | hk
    · exact hn.rlt k hk
    · exact hk.2
  · rcases hk with hk | hk
    · exact h.rlow k hk
    · exact Nat.le_trans h.low hk.1
  · rcases hk with hk | hk
    · exact h.rg hk
    · have := h.lt
      omega
theorem Pz.free (h : Pz w0 g src rs' s nv fv W) (hr : ∀ k, rs k → rs' k) : Pz w0 g src rs s nv fv W :=
  ⟨h.cells, h.ge, h.bel, h.fit, Kd.R_mono h.nds (fun k hk => ⟨hk.1, hk.2.1, fun e => hk.2.2 (hr k e)⟩), h.cnt, Kd.R_mono h.fns (fun k hk => ⟨⟨hk.1.1, fun e => hk.1.2 (hr k e)⟩, hk.2⟩), h.opn, h.big, fun k hk => h.rlt k (hr k hk), fun k hk => h.rlow k (hr k hk), fun e => h.rg (hr g e)⟩
theorem Pz.nn {i : Nat} (h : Pz w0 g src rs s nv fv W) (hi : rs i) : some i ≠ nv.ownBlock := fun e => (h.nds.1 i e.symm).2.2 hi
theorem Pz.ng {i : Nat} (h : Pz w0 g src rs s nv fv W) (hi : rs i) : i ≠ g := fun e => h.rg (e ▸ hi)
/-- a store to what is set aside -/
theorem Pz.other {i : Nat} (h : Pz w0 g src rs s nv fv W) (hi : rs i) (j : Nat) (u : Value) : Pz w0 g src rs s nv fv (W.setCell ⟨i, j, none⟩ u) := by
  obtain ⟨b, o, c, h1, h2, h3⟩ := h.cells
  exact ⟨⟨b, o, c, blk_far h1 (p := ⟨i, j, none⟩) (fun e => h.ng hi e.symm) u, h2, h3⟩, h.ge, Below.setCell h.bel (h.rlow i hi) u, h.fit, Kd.R_far (p := ⟨i, j, none⟩) h.nds (fun k hk e => hk.2.2 (e ▸ hi)) u, h.cnt, Kd.R_far (p := ⟨i, j, none⟩) h.fns (fun k hk e => hk.1.2 (e ▸ hi)) u, h.opn, h.big, fun k hk => by have := h.rlt k hk; simpa [World.setCell] using this, h.rlow, h.rg⟩
end

abbrev faultV (f : Fault) : Value := .agg #[.int .i64 (f.1 : Int), .int .i64 (f.2 : Int)]

/-- what a function of the parser leaves -/
def Ends {α : Type} (w0 : World) (g : Nat) (src : ByteArray) (rs : Nat → Prop) (fv : Value) (W : World) (nv : Value) (val : α → Value) (r : Except Fault (α × St)) (e : Ending) (W' : World) : Prop :=
  match r with
  | .error f => e = .panicked [{ v := .iface 68 (faultV f), recovered := false }] ∧ Below w0.heap.size w0 W'
  | .ok (a, s') => e = .returned (val a) ∧ ∃ nv', Pz w0 g src rs s' nv' fv W' ∧ Mv g W nv W' nv'

theorem tok_0 (a b c : Value) (w : World) : (Instr.field 38 (.agg #[a, b, c]) 0).run Tryz.prog w = .ok a w := by kernel_rfl
theorem tok_1 (a b c : Value) (w : World) : (Instr.field 38 (.agg #[a, b, c]) 1).run Tryz.prog w = .ok b w := by kernel_rfl
theorem tok_2 (a b c : Value) (w : World) : (Instr.field 38 (.agg #[a, b, c]) 2).run Tryz.prog w = .ok c w := by kernel_rfl

/-- what a closure leaves in one block -/
def EndsB {α : Type} (w0 : World) (g : Nat) (src : ByteArray) (rs : Nat → Prop) (fv : Value) (b : Nat) (W : World) (nv : Value) (X : α → Value → World → Prop) (r : Except Fault (α × St)) (e : Ending) (W' : World) : Prop :=
  match r with
  | .error f => e = .panicked [{ v := .iface 68 (faultV f), recovered := false }] ∧ Below w0.heap.size w0 W'
  | .ok (a, s') => e = .returned (.tuple #[]) ∧ ∃ nv', Pz w0 g src rs s' nv' fv W' ∧ Mb g b W nv W' nv' ∧ X a nv' W'

theorem bind_is {α β : Type} {m : M α} {f : α → M β} {s : St} {r : Except Fault (β × St)} (h : (m >>= f) s = some r) :
    (∃ e, m s = some (.error e) ∧ r = .error e) ∨ ∃ a s1, m s = some (.ok (a, s1)) ∧ f a s1 = some r := by
  have h : M.andThen m f s = some r := h
  unfold M.andThen at h
  cases hm : m s with
  | none => rw [hm] at h; cases h
  | some x =>
    rw [hm] at h
    cases x with
    | error e =>
      simp only [Option.some.injEq] at h
      exact .inl ⟨e, rfl, h.symm⟩
    | ok p => exact .inr ⟨p.1, p.2, rfl, h⟩

end Go.Proofs.YtgplgmjnhkhbjaaGreatDoor
