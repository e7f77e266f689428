/-
  The parser's walks, 3: typ, put, opened.
-/
import Derived.Test.YtgplgmjnhkhbjaaGreatDoorSq
import Derived.Test.YtgplgmjnhkhbjaaGreatDoorL
import Derived.Deep.RegionLaw
import Derived.Deep.AppendLies
set_option linter.unusedVariables false
set_option linter.unusedSimpArgs false
namespace Go.Proofs.YtgplgmjnhkhbjaaGreatDoor
attribute [local go_sem] tok_0 tok_1 tok_2
open Go.RowKit Go.Proofs.YtgplgmjnhkhbjaaGreatDoorW.PrintWords PSameTree PflatTokens Syn

theorem typed_f (x : List UInt8) : Ptyped.syntax_typed.f ⟨x.toArray⟩ = some (typedL x : Int) := by
  unfold Ptyped.syntax_typed.f typedL
  simp only [sameL_beq, ByteArray.toList_eq]
  by_cases h1 : x = [98, 111, 111, 108]
  · subst h1; rfl
  · by_cases h2 : x = [117, 56]
    · subst h2; rfl
    · by_cases h3 : x = [105, 51, 50]
      · subst h3; rfl
      · by_cases h4 : x = [105, 54, 52]
        · subst h4; rfl
        · by_cases h5 : x = [102, 54, 52]
          · subst h5; rfl
          · simp [h1, h2, h3, h4, h5, beq_eq_false_iff_ne.2]
theorem typed_w (x : List UInt8) (w : World) : Calls Tryz.prog 88 #[.string ⟨x.toArray⟩] w fun e w' => e = .returned (.int .u8 (typedL x : Int)) ∧ Below w.heap.size w w' := by
  refine (Ptyped.syntax_typed.calls ⟨x.toArray⟩ (typedL x) w (typed_f x)).mono ?_
  rintro e w' ⟨rfl, ⟨n, rfl⟩⟩
  exact ⟨rfl, pw_below_drewN (Below.refl _ _) _⟩

section
variable {P : Program} {ops : Array Oper} {o : Oper} {rest : List Oper} {a : Act} {Q : Exit → Act → World → Prop} {Kc : Act → World → Prop} {α : Type} {E : Prop}
/-- append of one value that has just been laid, as a step of a region; the world by an equation -/
theorem append_any (d : Kd α) (w0 W : World) {w : World} (base : Nat) (hgd : o.guard = none) (s x : Operand) (t e : TypeId)
    (ho : o.op = .call { callee := .builtin .append, args := #[s, x], argTypes := #[t, t] })
    (z : Value) (bytes : Nat) (ht : P.underlying t = some (.slice e)) (hinfo : (P.info? e).map (fun i => (i.zero, i.size, i.bytes)) = some (some z, d.sz, bytes)) (hz : z.cells.size = d.sz) (hs0 : 0 < d.sz) (hb0 : 0 < bytes)
    (v : Value) (xs : List α) (p : α) (cs : List Value) (ok okp : Nat → Prop) (H : Nat) (hww : w = W.alloc (.cells cs.toArray e)) (hH : H = W.heap.size) (hs : a.eval s = v) (hx : a.eval x = .slice (some ⟨H, 0, none⟩) 1 1) (hp : d.M W base okp p cs) (hokp : ∀ k, okp k → ok k ∧ some k ≠ v.ownBlock) (hfresh : ∀ k, W.heap.size ≤ k → ok k)
    (HO : d.R e W base ok v xs) (HB : Below base w0 W) (hbase : base ≤ W.heap.size) (hl : (xs.length + 1) * bytes ≤ 140737488355328)
    (h : ∀ v1 w1, d.R e w1 base ok v1 (xs ++ [p]) → Below base w0 w1 → W.grownBy w1 v.ownBlock → (v1.ownBlock = v.ownBlock ∨ ∃ b, v1.ownBlock = some b ∧ W.heap.size ≤ b) → Kc (a.put o.dst v1) w1) :
    if Region.wanted o (yielded ops a.tmps) = true then Oper.wp P o a w Kc Q else E := by
  subst hww hH
  have hw : Region.wanted o (yielded ops a.tmps) = true := by simp [Region.wanted, hgd]
  have := Kd.R_append_step (Q := Q) (Kc := Kc) d base hw s x t e z bytes ho ht hinfo hz hs0 hb0 v xs p cs ok okp hs hx hp hokp hfresh HO HB hbase hl h
  rw [if_pos hw] at this ⊢
  exact this
theorem append_list (d : Kd α) (w0 W : World) {w : World} (base : Nat) (hgd : o.guard = none) (s x : Operand) (t e : TypeId)
    (ho : o.op = .call { callee := .builtin .append, args := #[s, x], argTypes := #[t, t] })
    (z : Value) (bytes : Nat) (ht : P.underlying t = some (.slice e)) (hinfo : (P.info? e).map (fun i => (i.zero, i.size, i.bytes)) = some (some z, d.sz, bytes)) (hz : z.cells.size = d.sz) (hs0 : 0 < d.sz) (hb0 : 0 < bytes)
    (v : Value) (xs : List α) (p : α) (cs : List Value) (ok okp : Nat → Prop) (H : Nat) (hww : w = W.alloc (.cells cs.toArray e)) (hH : H = W.heap.size) (hs : a.eval s = v) (hx : a.eval x = .slice (some ⟨H, 0, none⟩) 1 1) (hp : d.M W base okp p cs) (hokp : ∀ k, okp k → ok k ∧ some k ≠ v.ownBlock) (hfresh : ∀ k, W.heap.size ≤ k → ok k)
    (HO : d.R e W base ok v xs) (HB : Below base w0 W) (hbase : base ≤ W.heap.size) (hl : (xs.length + 1) * bytes ≤ 140737488355328)
    (h : ∀ v1 w1, d.R e w1 base ok v1 (xs ++ [p]) → Below base w0 w1 → W.grownBy w1 v.ownBlock → (v1.ownBlock = v.ownBlock ∨ ∃ b, v1.ownBlock = some b ∧ W.heap.size ≤ b) → wpList P ops Q rest (a.put o.dst v1) w1) :
    wpList P ops Q (o :: rest) a w := by
  subst hww hH
  exact Kd.R_append d base hgd s x t e z bytes ho ht hinfo hz hs0 hb0 v xs p cs ok okp hs hx hp hokp hfresh HO HB hbase hl h
end

theorem cell_far' {w w' : World} {row : Option Nat} (hg : w.grownBy w' row) {a : Addr} (hlt : a.block < w.heap.size) (hne : some a.block ≠ row) {v : Value} (h : w.cell? a = some v) : w'.cell? a = some v := (hg.cell_far a hlt hne).trans h
theorem frozen_far' {w w' : World} {row : Option Nat} (hg : w.grownBy w' row) {a : Addr} (hlt : a.block < w.heap.size) (hne : some a.block ≠ row) (h : w.frozen? a = false) : w'.frozen? a = false := (hg.frozen_far a hlt hne).trans h

section
variable {w0 W W' : World} {g : Nat} {src : ByteArray} {rs : Nat → Prop} {s : St} {nv fv : Value}

theorem put_end {Wb w1 : World} {n : Nd} {A : Option Addr} {m c : Nat} (hm : m = s.nodes.length + 1) (h : Pz w0 g src rs s nv fv W) (hb : Below W.heap.size W Wb) (r1 : k46.R 46 w1 w0.heap.size (fun k => k ≠ g ∧ some k ≠ fv.ownBlock ∧ ¬ rs k) (.slice A m c) (s.nodes.map nd ++ [nd n])) (r2 : Below w0.heap.size w0 w1) (r3 : Wb.grownBy w1 nv.ownBlock)
    (r4 : (Value.slice A m c).ownBlock = nv.ownBlock ∨ ∃ b, (Value.slice A m c).ownBlock = some b ∧ Wb.heap.size ≤ b) :
    Pz w0 g src rs { s with nodes := s.nodes ++ [n], count := s.count + 1 } (.slice A m c) fv (w1.setCell ⟨g, 3, none⟩ (.slice A m c)) ∧ Mv g W nv (w1.setCell ⟨g, 3, none⟩ (.slice A m c)) (.slice A m c) := by
  have hg : some g ≠ nv.ownBlock := fun e => (h.nds.1 g e.symm).1 rfl
  have hbp := h.below hb
  obtain ⟨b, o, k, h1, h2, h3⟩ := hbp.cells
  refine ⟨⟨⟨b, o, k, blk_put (blk_grown h1 r3 hg) 3 _ (by simp), h2, h3⟩, h.ge, Below.setCell r2 h.ge _, h.fit, ?_, ?_, ?_, h.opn, h.big, fun k hk => ?_, h.rlow, h.rg⟩, ⟨?_, ?_⟩⟩
  · have := Kd.R_far (p := ⟨g, 3, none⟩) r1 (fun k hk => hk.1) (.slice A m c)
    rw [List.map_append]
    exact this
  · show s.count + 1 = (s.nodes ++ [n]).length
    rw [List.length_append, h.cnt]
    rfl
  · exact Kd.R_far (p := ⟨g, 3, none⟩) (Kd.R_after hbp.fns r3 r4) (fun k hk => hk.1.1) (.slice A m c)
  · have h5 := hbp.rlt k hk
    have h6 := r3.size
    simp only [World.setCell, Array.size_modify]
    omega
  · have k1 : KeepBut W w1 g nv.ownBlock := by
      refine ⟨Nat.le_trans hb.size r3.size, fun i hi h5 h6 => ?_⟩
      rw [r3.block i (Nat.lt_of_lt_of_le hi hb.size) h6, hb.block i hi]
    exact KeepBut.set_ k1 _ _
  · rcases r4 with e | ⟨b, e, hl⟩
    · exact .inl e
    · exact .inr ⟨b, e, Nat.le_trans hb.size hl⟩

set_option maxRecDepth 100000 in
set_option maxHeartbeats 2000000 in
theorem put_w (n : Nd) (kv : Value) (hc : s.count < cap) (h : Pz w0 g src rs s nv fv W) (hk : (Kd.int .i64).R 3 W w0.heap.size (fun k => k ≠ g ∧ some k ≠ fv.ownBlock ∧ some k ≠ nv.ownBlock ∧ ¬ rs k) kv (nd n).f7) :
    Calls Tryz.prog 92 #[.pointer (some ⟨g, 0, none⟩), .agg #[.int .u8 (n.kind : Int), .int .i64 (n.at_ : Int), .string ⟨n.name.toArray⟩, .int .u8 (n.typ : Int), .int .u8 (n.op : Int), .int .u64 (n.bits : Int), .int .i64 (n.size : Int), kv]] W
      fun e W' => Ends w0 g src rs fv W nv (fun k : Nat => .int .i64 (k : Int)) (.ok (s.count, { s with nodes := s.nodes ++ [n], count := s.count + 1 })) e W' := by
  have HP := Lib.hid h
  have HK := Lib.hid hk
  obtain ⟨b, o, c, h1, h2, h3⟩ := h.cells
  have hlt := h.lt
  have c3 : W.cell? ⟨g, 3, none⟩ = some nv := (blk_cell h1 3).trans rfl
  have f3 : W.frozen? ⟨g, 3, none⟩ = false := blk_frozen h1 3
  have hlow := h.low
  have W1' : Below W.heap.size W (W.alloc (.cells #[.int .u8 (n.kind : Int), .int .i64 (n.at_ : Int), .string ⟨n.name.toArray⟩, .int .u8 (n.typ : Int), .int .u8 (n.op : Int), .int .u64 (n.bits : Int), .int .i64 (n.size : Int), kv] 46)).drew := Below.drew (below_alloc (Below.refl _ _) _)
  have q1 : Hid (k46.M (W.alloc (.cells #[.int .u8 (n.kind : Int), .int .i64 (n.at_ : Int), .string ⟨n.name.toArray⟩, .int .u8 (n.typ : Int), .int .u8 (n.op : Int), .int .u64 (n.bits : Int), .int .i64 (n.size : Int), kv] 46)).drew w0.heap.size (fun k => k ≠ g ∧ some k ≠ fv.ownBlock ∧ some k ≠ nv.ownBlock ∧ ¬ rs k) (nd n) [.int .u8 (n.kind : Int), .int .i64 (n.at_ : Int), .string ⟨n.name.toArray⟩, .int .u8 (n.typ : Int), .int .u8 (n.op : Int), .int .u64 (n.bits : Int), .int .i64 (n.size : Int), kv]) := k46_mkM _ _ _ (nd n) (Kd.R_below hk W1')
  have q2 : Hid (∀ k, (k ≠ g ∧ some k ≠ fv.ownBlock ∧ some k ≠ nv.ownBlock ∧ ¬ rs k) → (k ≠ g ∧ some k ≠ fv.ownBlock ∧ ¬ rs k) ∧ some k ≠ nv.ownBlock) := fun k hk => ⟨⟨hk.1, hk.2.1, hk.2.2.2⟩, hk.2.2.1⟩
  have q3 : Hid (∀ k, (W.alloc (.cells #[.int .u8 (n.kind : Int), .int .i64 (n.at_ : Int), .string ⟨n.name.toArray⟩, .int .u8 (n.typ : Int), .int .u8 (n.op : Int), .int .u64 (n.bits : Int), .int .i64 (n.size : Int), kv] 46)).drew.heap.size ≤ k → k ≠ g ∧ some k ≠ fv.ownBlock ∧ ¬ rs k) := fun k hk => by
    have hk : W.heap.size + 1 ≤ k := by simpa using hk
    refine ⟨by omega, fun e => ?_, fun hr => by have := h.rlt k hr; omega⟩
    obtain ⟨_, ho⟩ := Kd.R_own h.fns
    have := own_lt ho k e.symm
    omega
  have q4 : Hid (k46.R 46 (W.alloc (.cells #[.int .u8 (n.kind : Int), .int .i64 (n.at_ : Int), .string ⟨n.name.toArray⟩, .int .u8 (n.typ : Int), .int .u8 (n.op : Int), .int .u64 (n.bits : Int), .int .i64 (n.size : Int), kv] 46)).drew w0.heap.size (fun k => k ≠ g ∧ some k ≠ fv.ownBlock ∧ ¬ rs k) nv (s.nodes.map nd)) := Kd.R_below h.nds W1'
  have q5 : Hid (Below w0.heap.size w0 (W.alloc (.cells #[.int .u8 (n.kind : Int), .int .i64 (n.at_ : Int), .string ⟨n.name.toArray⟩, .int .u8 (n.typ : Int), .int .u8 (n.op : Int), .int .u64 (n.bits : Int), .int .i64 (n.size : Int), kv] 46)).drew) := Below.trans h.bel (Below.mono W1' hlow)
  have q6 : Hid (w0.heap.size ≤ (W.alloc (.cells #[.int .u8 (n.kind : Int), .int .i64 (n.at_ : Int), .string ⟨n.name.toArray⟩, .int .u8 (n.typ : Int), .int .u8 (n.op : Int), .int .u64 (n.bits : Int), .int .i64 (n.size : Int), kv] 46)).drew.heap.size) := Nat.le_trans hlow W1'.size
  have q7 : Hid (((s.nodes.map nd).length + 1) * 80 ≤ 140737488355328) := by
    have := h.cnt
    show ((s.nodes.map nd).length + 1) * 80 ≤ 140737488355328
    rw [List.length_map]
    unfold cap at hc
    omega
  have q8 : Hid (g < (W.alloc (.cells #[.int .u8 (n.kind : Int), .int .i64 (n.at_ : Int), .string ⟨n.name.toArray⟩, .int .u8 (n.typ : Int), .int .u8 (n.op : Int), .int .u64 (n.bits : Int), .int .i64 (n.size : Int), kv] 46)).drew.heap.size) := Nat.lt_of_lt_of_le hlt W1'.size
  have q9 : Hid (some g ≠ nv.ownBlock) := fun e => (h.nds.1 g e.symm).1 rfl
  have c3' : (W.alloc (.cells #[.int .u8 (n.kind : Int), .int .i64 (n.at_ : Int), .string ⟨n.name.toArray⟩, .int .u8 (n.typ : Int), .int .u8 (n.op : Int), .int .u64 (n.bits : Int), .int .i64 (n.size : Int), kv] 46)).drew.cell? ⟨g, 3, none⟩ = some nv := pw_cell_below W1' c3
  have f3' : (W.alloc (.cells #[.int .u8 (n.kind : Int), .int .i64 (n.at_ : Int), .string ⟨n.name.toArray⟩, .int .u8 (n.typ : Int), .int .u8 (n.op : Int), .int .u64 (n.bits : Int), .int .i64 (n.size : Int), kv] 46)).drew.frozen? ⟨g, 3, none⟩ = false := (W1'.frozen hlt).trans f3
  have W1 := Lib.hid W1'
  clear h hk h1 h2 h3 W1'
  go_enter Tryz.func92, Tryz.ntmps92
  go_wp2
  go_region_law (refine append_any k46 w0 (W.alloc (.cells #[.int .u8 (n.kind : Int), .int .i64 (n.at_ : Int), .string ⟨n.name.toArray⟩, .int .u8 (n.typ : Int), .int .u8 (n.op : Int), .int .u64 (n.bits : Int), .int .i64 (n.size : Int), kv] 46)).drew w0.heap.size rfl (.tmp 10) (.tmp 12) 29 46 rfl (.agg #[.int .u8 0, .int .i64 0, .string ⟨#[]⟩, .int .u8 0, .int .u8 0, .int .u64 0, .int .i64 0, .slice none 0 0]) 80 Tryz.underlying29 (by kernel_rfl) rfl (by decide) (by decide) nv (s.nodes.map nd) (nd n) [.int .u8 (n.kind : Int), .int .i64 (n.at_ : Int), .string ⟨n.name.toArray⟩, .int .u8 (n.typ : Int), .int .u8 (n.op : Int), .int .u64 (n.bits : Int), .int .i64 (n.size : Int), kv] (fun k => k ≠ g ∧ some k ≠ fv.ownBlock ∧ ¬ rs k) (fun k => k ≠ g ∧ some k ≠ fv.ownBlock ∧ some k ≠ nv.ownBlock ∧ ¬ rs k) (W.heap.size + 1) rfl (by simp) (by simp [Act.eval]) (by simp [Act.eval]) q1.out q2.out q3.out q4.out q5.out q6.out q7.out ?_; intro v1 w1 r1 r2 r3 r4; obtain ⟨A1, k1, rfl⟩ := Kd.R_slice r1; have m3 := (cell_far' r3 q8.out q9.out c3'); have m4 := (frozen_far' r3 q8.out q9.out f3'))
  all_goals
    have hlen : (List.map nd s.nodes ++ [nd n]).length = s.nodes.length + 1 := by simp
    rw [hlen] at r1 r4
    obtain ⟨p1, p2⟩ := put_end (n := n) rfl HP.out W1.out r1 r2 r3 r4
    have P1 := Lib.hid p1
    have P2 := Lib.hid p2
    have m0 : (w1.setCell ⟨g, 3, none⟩ (.slice A1 (s.nodes.length + 1) k1)).cell? ⟨g, 3, none⟩ = some (.slice A1 (s.nodes.length + 1) k1) := by
      obtain ⟨b, o, c, h1, _⟩ := p1.cells
      exact (blk_cell h1 3).trans rfl
    clear p1 p2 r1 r2 r3 r4
    go_wp2
    go_ret
    refine ⟨?_, _, P1.out, P2.out⟩
    rw [HP.out.cnt]
    have : wrap64 (s.nodes.length : Int) = (s.nodes.length : Int) := by
      have h7 := q7.out
      rw [List.length_map] at h7
      unfold wrap64
      omega
    simp [this]
/-- how many are open -/
theorem Pz.setOpen (h : Pz w0 g src rs s nv fv W) (n : Nat) (x : Int) (hx : x = (n : Int)) (hn : n ≤ 101) : Pz w0 g src rs { s with opn := n } nv fv (W.setCell ⟨g, 2, none⟩ (.int .i64 x)) ∧ Mv g W nv (W.setCell ⟨g, 2, none⟩ (.int .i64 x)) nv := by
  subst hx
  obtain ⟨b, o, c, h1, h2, h3⟩ := h.cells
  exact ⟨⟨⟨b, o, c, blk_put h1 2 _ (by simp), h2, h3⟩, h.ge, Below.setCell h.bel h.ge _, h.fit, Kd.R_far (p := ⟨g, 2, none⟩) h.nds (fun k hk => hk.1) _, h.cnt, Kd.R_far (p := ⟨g, 2, none⟩) h.fns (fun k hk => hk.1.1) _, hn, h.big, fun k hk => by have := h.rlt k hk; simpa [World.setCell] using this, h.rlow, h.rg⟩, ⟨KeepBut.set_ (KeepBut.refl _ _ _) _ _, .inl rfl⟩⟩
theorem Pz.open_ (h : Pz w0 g src rs s nv fv W) : W.cell? ⟨g, 2, none⟩ = some (.int .i64 (s.opn : Int)) ∧ W.frozen? ⟨g, 2, none⟩ = false := by
  obtain ⟨b, o, c, h1, h2, h3⟩ := h.cells
  exact ⟨(blk_cell h1 2).trans rfl, blk_frozen h1 2⟩

theorem openM_inv {x : Except Fault (Unit × St)} (h : openM s = some x) : s.opn ≤ 100 ∧ ((s.opn + 1 ≤ 32 ∧ x = .ok ((), { s with opn := s.opn + 1 })) ∨ (32 < s.opn + 1 ∧ ∃ t r, s.toks = t :: r ∧ x = .error (132, t.at_))) := by
  unfold openM at h
  cases h1 : Nat.ble s.opn 100
  · rw [h1] at h; cases h
  · rw [h1] at h
    refine ⟨Nat.le_of_ble_eq_true h1, ?_⟩
    simp only [cond_true] at h
    cases h2 : Nat.ble (s.opn + 1) 32
    · rw [h2] at h
      obtain ⟨t, r, ht, hx⟩ := failM_inv h
      refine .inr ⟨?_, t, r, ht, hx⟩
      rw [← Bool.not_eq_true, Nat.ble_eq] at h2
      omega
    · rw [h2] at h
      simp only [cond_true, Option.some.injEq] at h
      exact .inl ⟨Nat.le_of_ble_eq_true h2, h.symm⟩
theorem shutM_inv {x : Except Fault (Unit × St)} (h : shutM s = some x) : 1 ≤ s.opn ∧ x = .ok ((), { s with opn := s.opn - 1 }) := by
  unfold shutM at h
  cases h1 : Nat.ble 1 s.opn
  · rw [h1] at h; cases h
  · rw [h1] at h
    simp only [cond_true, Option.some.injEq] at h
    exact ⟨Nat.le_of_ble_eq_true h1, h.symm⟩
theorem openedM_inv {α : Type} {m : M α} {x : Except Fault (α × St)} (h : openedM m s = some x) :
    s.opn ≤ 100 ∧ ((32 < s.opn + 1 ∧ ∃ t r, s.toks = t :: r ∧ x = .error (132, t.at_)) ∨ (s.opn + 1 ≤ 32 ∧ ∃ y, m { s with opn := s.opn + 1 } = some y ∧
      ((∃ f, y = .error f ∧ x = .error f) ∨ ∃ a s', y = .ok (a, s') ∧ 1 ≤ s'.opn ∧ x = .ok (a, { s' with opn := s'.opn - 1 })))) := by
  unfold openedM at h
  rcases bind_is h with ⟨e, h1, hx⟩ | ⟨u, s1, h1, h2⟩
  · obtain ⟨h3, ⟨h4, hx'⟩ | ⟨h4, t, r, ht, hx'⟩⟩ := openM_inv h1
    · cases hx'
    · injection hx' with hx'
      subst hx'
      exact ⟨h3, .inl ⟨h4, t, r, ht, hx⟩⟩
  · obtain ⟨h3, ⟨h4, hx'⟩ | ⟨h4, t, r, ht, hx'⟩⟩ := openM_inv h1
    · simp only [Except.ok.injEq, Prod.mk.injEq] at hx'
      obtain ⟨_, rfl⟩ := hx'
      refine ⟨h3, .inr ⟨h4, ?_⟩⟩
      rcases bind_is h2 with ⟨e, h5, hx⟩ | ⟨a, s2, h5, h6⟩
      · exact ⟨_, h5, .inl ⟨e, rfl, hx⟩⟩
      · rcases bind_is h6 with ⟨e, h7, hx⟩ | ⟨u2, s3, h7, h8⟩
        · obtain ⟨_, hx'⟩ := shutM_inv h7
          cases hx'
        · obtain ⟨h9, hx'⟩ := shutM_inv h7
          simp only [Except.ok.injEq, Prod.mk.injEq] at hx'
          obtain ⟨_, rfl⟩ := hx'
          have h8 : some (Except.ok (a, ({ s2 with opn := s2.opn - 1 } : St))) = some x := h8
          simp only [Option.some.injEq] at h8
          exact ⟨_, h5, .inr ⟨a, s2, rfl, h9, h8.symm⟩⟩
    · cases hx'

set_option maxRecDepth 100000 in
set_option maxHeartbeats 2000000 in
theorem opened_w {α : Type} {m : M α} {x : Except Fault (α × St)} (b : Nat) (X : α → Value → World → Prop) (F : FuncId) (caps : Array Value) (hm : openedM m s = some x) (h : Pz w0 g src rs s nv fv W)
    (hE : ∀ w, (callFunc F caps).run Tryz.prog w = .ok (.enter F caps) w) (hX : ∀ a nv' W1 u, X a nv' W1 → X a nv' (W1.setCell ⟨g, 2, none⟩ u))
    (hby : ∀ W1 y, Pz w0 g src rs { s with opn := s.opn + 1 } nv fv W1 → Mv g W nv W1 nv → m { s with opn := s.opn + 1 } = some y → Calls Tryz.prog F caps W1 fun e W' => EndsB w0 g src rs fv b W1 nv X y e W') :
    Calls Tryz.prog 89 #[.pointer (some ⟨g, 0, none⟩), .func (.func F) #[] caps] W fun e W' => EndsB w0 g src rs fv b W nv X x e W' := by
  obtain ⟨h3, ⟨h4, t, r, ht, rfl⟩ | ⟨h4, y, hy, hx⟩⟩ := openedM_inv hm
  · obtain ⟨c2, f2⟩ := h.open_
    obtain ⟨p1, p2⟩ := h.setOpen (s.opn + 1) ((s.opn : Int) + 1) (by omega) (by omega)
    obtain ⟨d2, _⟩ := p1.open_
    have d0 : ((s.opn : Int) + 1 > 32) := by omega
    have P1 := Lib.hid p1
    have ht1 : ({ s with opn := s.opn + 1 } : St).toks = t :: r := ht
    have HT := Lib.hid ht1
    have hw : wrap64 ((s.opn : Int) + 1) = (s.opn : Int) + 1 := by
      unfold wrap64
      omega
    have hlow := h.low
    clear h hm hby ht ht1 p1 p2 h4 hX d2
    go_enter Tryz.func89, Tryz.ntmps89
    go_wp2_with (go_at_call 85; (with_reducible refine (fail_w 132 132 rfl HT.out P1.out).mono ?_))
    rintro e w1 rfl hb1
    have HB1 := Lib.hid hb1
    clear hb1
    go_wp2
    exact ⟨rfl, rfl, Below.trans P1.out.bel (Below.mono HB1.out hlow)⟩
  · obtain ⟨c2, f2⟩ := h.open_
    obtain ⟨p1, p2⟩ := h.setOpen (s.opn + 1) ((s.opn : Int) + 1) (by omega) (by omega)
    obtain ⟨d2, _⟩ := p1.open_
    have d0 : ¬ ((s.opn : Int) + 1 > 32) := by omega
    have HB := Lib.hid (hby _ y p1 p2 hy)
    have P2 := Lib.hid p2
    have hw : wrap64 ((s.opn : Int) + 1) = (s.opn : Int) + 1 := by
      unfold wrap64
      omega
    have HX := Lib.hid hX
    have HM := Lib.hid hx
    clear h hm hby p1 p2 h4 hX d2 hy hx
    go_enter Tryz.func89, Tryz.ntmps89
    go_wp2_with fail
    refine (HB.out).mono ?_
    clear hE
    rcases HM.out with ⟨f, rfl, rfl⟩ | ⟨a, s', rfl, ho, rfl⟩
    · rintro e w1 ⟨rfl, hb1⟩
      have HB1 := Lib.hid hb1
      clear hb1
      go_wp2
      exact ⟨rfl, rfl, HB1.out⟩
    · rintro e w1 ⟨rfl, nv', hp, hmb, hx1⟩
      obtain ⟨c2, f2⟩ := hp.open_
      have hopn := hp.opn
      obtain ⟨p1, p2⟩ := hp.setOpen (s'.opn - 1) ((s'.opn : Int) - 1) (by omega) (by omega)
      have P3 := Lib.hid p1
      have M3 := Lib.hid (((P2.out.mb b).trans hmb).setg 2 (.int .i64 ((s'.opn : Int) - 1)))
      have X3 := Lib.hid (HX.out a nv' w1 (.int .i64 ((s'.opn : Int) - 1)) hx1)
      have hw : wrap64 ((s'.opn : Int) - 1) = (s'.opn : Int) - 1 := by
        unfold wrap64
        omega
      clear hp hmb hx1 p1 p2
      go_wp2
      go_end0
      exact ⟨rfl, nv', P3.out, M3.out, X3.out⟩
theorem typM_inv {x : Except Fault (Nat × St)} (h : typM s = some x) :
    ∃ t r, s.toks = t :: r ∧ ((t.kind = 3 ∧ typedL t.txt ≠ 0 ∧ ∃ t2 r2, r = t2 :: r2 ∧ x = .ok (typedL t.txt, { s with toks := t2 :: r2 })) ∨ ((t.kind ≠ 3 ∨ typedL t.txt = 0) ∧ x = .error (130, t.at_))) := by
  unfold typM at h
  rcases bind_is h with ⟨e, h1, _⟩ | ⟨t, s1, h1, h2⟩
  · obtain ⟨t, r, _, hx⟩ := nextM_inv h1
    cases hx
  · obtain ⟨t', r, ht, hx⟩ := nextM_inv h1
    simp only [Except.ok.injEq, Prod.mk.injEq] at hx
    obtain ⟨rfl, rfl⟩ := hx
    refine ⟨t, r, ht, ?_⟩
    have fin : ∀ n : Nat, (bif Nat.beq n 0 then failM 130 else do stepM; return n : M Nat) s1 = some x → (n ≠ 0 ∧ ∃ t2 r2, r = t2 :: r2 ∧ x = .ok (n, { s1 with toks := t2 :: r2 })) ∨ (n = 0 ∧ x = .error (130, t.at_)) := by
      intro n h2
      cases hn : Nat.beq n 0
      · rw [hn] at h2
        simp only [cond_false] at h2
        left
        refine ⟨fun e => (by rw [e] at hn; cases hn), ?_⟩
        rcases bind_is h2 with ⟨e, h3, _⟩ | ⟨u, s2, h3, h4⟩
        · obtain ⟨_, _, _, _, hx⟩ := stepM_inv h3
          cases hx
        · obtain ⟨t', t2, r2, ht', hx⟩ := stepM_inv h3
          simp only [Except.ok.injEq, Prod.mk.injEq] at hx
          obtain ⟨_, rfl⟩ := hx
          have h4 : some (Except.ok (n, ({ s1 with toks := t2 :: r2 } : St))) = some x := h4
          simp only [Option.some.injEq] at h4
          rw [ht] at ht'
          injection ht' with e1 e2
          exact ⟨t2, r2, e2, h4.symm⟩
      · rw [hn] at h2
        right
        obtain ⟨t', r', ht', hx'⟩ := failM_inv h2
        rw [ht] at ht'
        injection ht' with e1 e2
        subst e1
        exact ⟨Nat.eq_of_beq_eq_true hn, hx'⟩
    have h2' := fin _ h2
    cases hk : Nat.beq t.kind 3
    · rw [hk] at h2'
      rcases h2' with ⟨h5, _⟩ | ⟨_, h6⟩
      · exact absurd rfl h5
      · exact .inr ⟨.inl fun e => (by rw [e] at hk; cases hk), h6⟩
    · rw [hk] at h2'
      rcases h2' with ⟨h5, h6⟩ | ⟨h5, h6⟩
      · exact .inl ⟨Nat.eq_of_beq_eq_true hk, h5, h6⟩
      · exact .inr ⟨.inr h5, h6⟩

set_option maxRecDepth 100000 in
set_option maxHeartbeats 2000000 in
theorem typ_w {x : Except Fault (Nat × St)} (hm : typM s = some x) (h : Pz w0 g src rs s nv fv W) :
    Calls Tryz.prog 45 #[.pointer (some ⟨g, 0, none⟩)] W fun e W' => Ends w0 g src rs fv W nv (fun n : Nat => .int .u8 (n : Int)) x e W' := by
  obtain ⟨t, r, ht, ⟨hk, hn, t2, r2, rfl, rfl⟩ | ⟨hk, rfl⟩⟩ := typM_inv hm
  · have HP := Lib.hid h
    have HI := Lib.hid (next_w ht h)
    have HT := Lib.hid ht
    have d0 : ((t.kind : Int) == 3) = true := beq_iff_eq.2 (by omega)
    have d1 : ((typedL t.txt : Int) == 0) = false := beq_eq_false_iff_ne.2 (by omega)
    clear h hm ht hk hn
    go_enter Tryz.func45, Tryz.ntmps45
    go_wp2_with (go_at_call 22; (with_reducible refine (HI.out).mono ?_))
    rintro e w1 ⟨rfl, hb1⟩
    have HP1 := Lib.hid (HP.out.below hb1)
    go_wp2_with (go_at_call 86; (with_reducible refine (text_w HT.out HP1.out).mono ?_))
    rintro e w2 ⟨rfl, hb2⟩
    have HP2 := Lib.hid (HP1.out.below hb2)
    go_wp2_with (go_at_call 88; (with_reducible refine (typed_w t.txt _).mono ?_))
    rintro e w3 ⟨rfl, hb3⟩
    have HP3 := Lib.hid (HP2.out.below hb3)
    obtain ⟨b, o, c, c1, f1, hc, hp, hm⟩ := HP3.out.step HT.out
    have HP4 := Lib.hid hp
    have HM4 := Lib.hid (((Mv.below hb1).trans ((Mv.below hb2).trans (Mv.below hb3))).trans hm)
    clear hp hm
    go_wp2
    go_ret
    exact ⟨rfl, nv, HP4.out, HM4.out⟩
  · have HP := Lib.hid h
    have HI := Lib.hid (next_w ht h)
    have HT := Lib.hid ht
    by_cases h3 : t.kind = 3
    · have d0 : ((t.kind : Int) == 3) = true := beq_iff_eq.2 (by omega)
      have hz : typedL t.txt = 0 := by rcases hk with hk | hk; exact absurd h3 hk; exact hk
      have HZ : Hid (∀ w, Calls Tryz.prog 88 #[.string ⟨t.txt.toArray⟩] w fun e w' => e = .returned (.int .u8 0) ∧ Below w.heap.size w w') := fun w => by
        have := typed_w t.txt w
        rw [hz] at this
        exact this
      clear h hm ht hk hz
      go_enter Tryz.func45, Tryz.ntmps45
      go_wp2_with (go_at_call 22; (with_reducible refine (HI.out).mono ?_))
      rintro e w1 ⟨rfl, hb1⟩
      have HP1 := Lib.hid (HP.out.below hb1)
      go_wp2_with (go_at_call 86; (with_reducible refine (text_w HT.out HP1.out).mono ?_))
      rintro e w2 ⟨rfl, hb2⟩
      have HP2 := Lib.hid (HP1.out.below hb2)
      go_wp2_with (go_at_call 88; (with_reducible refine (HZ.out _).mono ?_))
      rintro e w3 ⟨rfl, hb3⟩
      have HP3 := Lib.hid (HP2.out.below hb3)
      go_wp2_with (go_at_call 85; (with_reducible refine (fail_w 130 130 rfl HT.out HP3.out).mono ?_))
      rintro e w4 ⟨rfl, hb4⟩
      go_wp2
      exact ⟨rfl, Ends.bad HP3.out rfl hb4⟩
    · have d0 : ((t.kind : Int) == 3) = false := beq_eq_false_iff_ne.2 (by omega)
      clear h hm ht hk
      go_enter Tryz.func45, Tryz.ntmps45
      go_wp2_with (go_at_call 22; (with_reducible refine (HI.out).mono ?_))
      rintro e w1 ⟨rfl, hb1⟩
      have HP1 := Lib.hid (HP.out.below hb1)
      go_wp2_with (go_at_call 85; (with_reducible refine (fail_w 130 130 rfl HT.out HP1.out).mono ?_))
      rintro e w4 ⟨rfl, hb4⟩
      go_wp2
      exact ⟨rfl, Ends.bad HP1.out rfl hb4⟩
end

end Go.Proofs.YtgplgmjnhkhbjaaGreatDoor
