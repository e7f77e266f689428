/-
  The parser's walks, 2: got, want, take, typ.
-/
import Derived.Test.YtgplgmjnhkhbjaaGreatDoorSp
set_option linter.unusedVariables false
set_option linter.unusedSimpArgs false
namespace Go.Proofs.YtgplgmjnhkhbjaaGreatDoor
attribute [local go_sem] tok_0 tok_1 tok_2
open Go.RowKit Go.Proofs.YtgplgmjnhkhbjaaGreatDoorW.PrintWords PSameTree PflatTokens Syn

section
variable {w0 W W' : World} {g : Nat} {src : ByteArray} {rs : Nat → Prop} {s : St} {nv fv : Value}

/-- another cell of the parser's own -/
theorem Pz.put1 {cs : Array Value} (h : Pz w0 g src rs s nv fv W) (j : Nat) (u : Value) : Below w0.heap.size w0 (W.setCell ⟨g, j, none⟩ u) ∧ k46.R 46 (W.setCell ⟨g, j, none⟩ u) w0.heap.size (fun k => k ≠ g ∧ some k ≠ fv.ownBlock ∧ ¬ rs k) nv (s.nodes.map nd) ∧ k49.R 49 (W.setCell ⟨g, j, none⟩ u) w0.heap.size (fun k => (k ≠ g ∧ ¬ rs k) ∧ some k ≠ nv.ownBlock) fv (s.funcs.map fd) ∧ KeepBut W (W.setCell ⟨g, j, none⟩ u) g nv.ownBlock :=
  ⟨Below.setCell h.bel h.ge u, Kd.R_far (p := ⟨g, j, none⟩) h.nds (fun k hk => hk.1) u, Kd.R_far (p := ⟨g, j, none⟩) h.fns (fun k hk => hk.1.1) u, KeepBut.set_ (KeepBut.refl _ _ _) _ _⟩

/-- the next token -/
theorem Pz.step {t t2 : Tok} {r : List Tok} (ht : s.toks = t :: t2 :: r) (h : Pz w0 g src rs s nv fv W) :
    ∃ b o c, W.cell? ⟨g, 1, none⟩ = some (.slice (some ⟨b, o, none⟩) (r.length + 2) c) ∧ W.frozen? ⟨g, 1, none⟩ = false ∧ r.length + 2 ≤ c ∧
      Pz w0 g src rs { s with toks := t2 :: r } nv fv (W.setCell ⟨g, 1, none⟩ (.slice (some ⟨b, o + 3, none⟩) (r.length + 1) (c - 1))) ∧
      Mv g W nv (W.setCell ⟨g, 1, none⟩ (.slice (some ⟨b, o + 3, none⟩) (r.length + 1) (c - 1))) nv := by
  obtain ⟨b, o, c, h1, h2, h3⟩ := h.cells
  have hl : s.toks.length = r.length + 2 := by rw [ht]; rfl
  rw [hl] at h1 h2
  obtain ⟨p1, p2, p3, p4⟩ := h.put1 (cs := #[]) 1 (.slice (some ⟨b, o + 3, none⟩) (r.length + 1) (c - 1))
  refine ⟨b, o, c, (blk_cell h1 1).trans rfl, blk_frozen h1 1, h2, ⟨⟨b, o + 3, c - 1, ?_, ?_, ?_⟩, h.ge, p1, fun x hx => h.fit x (by rw [ht]; exact List.mem_cons_of_mem _ hx), p2, h.cnt, p3, h.opn, h.big, fun k hk => by have := h.rlt k hk; simpa [World.setCell] using this, h.rlow, h.rg⟩, ⟨p4, .inl rfl⟩⟩
  · simpa using blk_set h1 1 (.slice (some ⟨b, o + 3, none⟩) (r.length + 1) (c - 1))
  · show r.length + 1 ≤ c - 1
    omega
  · rw [ht] at h3
    obtain ⟨e1, e2, e3⟩ := h3
    refine ⟨by simp, ?_, fun _ => ?_⟩
    · simp only [List.length_cons] at e2 ⊢
      omega
    · obtain ⟨ad, ea, ec⟩ := e3 (by simp)
      injection ea with ea
      subst ea
      refine ⟨_, rfl, fun j p hj => ?_⟩
      obtain ⟨cs, c1, c2, c3⟩ := ec (j + 1) p (by simpa using hj)
      refine ⟨cs, c1, c2, fun i u hu => ?_⟩
      have := c3 i u hu
      rw [← this]
      have hz : k38.sz = 3 := rfl
      rw [hz]
      have e : ∀ k, (⟨b, o, none⟩ : Addr).add (k + 3) = (⟨b, o + 3, none⟩ : Addr).add k := by
        intro k
        unfold Addr.add
        by_cases hk : k = 0
        · subst hk; simp
        · simp [hk]; omega
      rw [← e]
      congr 2
      omega

end

set_option maxRecDepth 100000 in
set_option maxHeartbeats 1000000 in
theorem got_yes {w0 W : World} {g : Nat} {src : ByteArray} {rs : Nat → Prop} {s : St} {nv fv : Value} {t t2 : Tok} {r : List Tok} (l : List UInt8) (hb : isT l t = true) (ht : s.toks = t :: t2 :: r) (h : Pz w0 g src rs s nv fv W) :
    Calls Tryz.prog 44 #[.pointer (some ⟨g, 0, none⟩), .string ⟨l.toArray⟩] W fun e W' => e = .returned (.bool true) ∧ Pz w0 g src rs { s with toks := t2 :: r } nv fv W' ∧ Mv g W nv W' nv := by
  have HI := Lib.hid (is_w l true hb ht h)
  have HP := Lib.hid h
  have HT := Lib.hid ht
  clear h ht
  go_enter Tryz.func44, Tryz.ntmps44
  go_wp2_with (go_at_call 87; (with_reducible refine (HI.out).mono ?_))
  rintro e w1 ⟨rfl, hb1⟩
  obtain ⟨b, o, c, c1, f1, hc, hp, hm⟩ := (HP.out.below hb1).step HT.out
  have HP1 := Lib.hid hp
  have HM1 := Lib.hid ((Mv.below hb1).trans hm)
  clear hp hm
  go_wp2
  go_ret
  exact ⟨rfl, HP1.out, HM1.out⟩

set_option maxRecDepth 100000 in
set_option maxHeartbeats 1000000 in
theorem got_no {w0 W : World} {g : Nat} {src : ByteArray} {rs : Nat → Prop} {s : St} {nv fv : Value} {t : Tok} {r : List Tok} (l : List UInt8) (hb : isT l t = false) (ht : s.toks = t :: r) (h : Pz w0 g src rs s nv fv W) :
    Calls Tryz.prog 44 #[.pointer (some ⟨g, 0, none⟩), .string ⟨l.toArray⟩] W fun e W' => e = .returned (.bool false) ∧ Below W.heap.size W W' := by
  have HI := Lib.hid (is_w l false hb ht h)
  clear h ht
  go_enter Tryz.func44, Tryz.ntmps44
  go_wp2_with (go_at_call 87; (with_reducible refine (HI.out).mono ?_))
  rintro e w1 ⟨rfl, hb1⟩
  go_wp2
  go_ret
  exact ⟨rfl, hb1⟩

theorem stepM_inv {s : St} {x : Except Fault (Unit × St)} (h : stepM s = some x) : ∃ t t2 r, s.toks = t :: t2 :: r ∧ x = .ok ((), { s with toks := t2 :: r }) := by
  unfold stepM at h
  split at h
  · cases h
  · cases h
  · rename_i t t2 r ht
    simp only [Option.some.injEq] at h
    exact ⟨t, t2, r, ht, h.symm⟩
theorem nextM_inv {s : St} {x : Except Fault (Tok × St)} (h : nextM s = some x) : ∃ t r, s.toks = t :: r ∧ x = .ok (t, s) := by
  unfold nextM at h
  split at h
  · cases h
  · rename_i t r ht
    simp only [Option.some.injEq] at h
    exact ⟨t, r, ht, h.symm⟩
theorem failM_inv {α : Type} {s : St} {er : Nat} {x : Except Fault (α × St)} (h : failM er s = some x) : ∃ t r, s.toks = t :: r ∧ x = .error (er, t.at_) := by
  unfold failM at h
  split at h
  · cases h
  · rename_i t r ht
    simp only [Option.some.injEq] at h
    exact ⟨t, r, ht, h.symm⟩
theorem isM_inv {s : St} {l : List UInt8} {x : Except Fault (Bool × St)} (h : isM l s = some x) : ∃ t r, s.toks = t :: r ∧ x = .ok (isT l t, s) := by
  unfold isM at h
  rcases bind_is h with ⟨e, h1, _⟩ | ⟨t, s1, h1, h2⟩
  · obtain ⟨t, r, _, hx⟩ := nextM_inv h1
    cases hx
  · obtain ⟨t', r, ht, hx⟩ := nextM_inv h1
    simp only [Except.ok.injEq, Prod.mk.injEq] at hx
    obtain ⟨rfl, rfl⟩ := hx
    have h2 : some (Except.ok (isT l t, s1)) = some x := h2
    simp only [Option.some.injEq] at h2
    exact ⟨t, r, ht, h2.symm⟩
theorem gotM_inv {s : St} {l : List UInt8} {x : Except Fault (Bool × St)} (h : gotM l s = some x) :
    ∃ t r, s.toks = t :: r ∧ ((isT l t = false ∧ x = .ok (false, s)) ∨ (isT l t = true ∧ ∃ t2 r2, r = t2 :: r2 ∧ x = .ok (true, { s with toks := t2 :: r2 }))) := by
  unfold gotM at h
  rcases bind_is h with ⟨e, h1, _⟩ | ⟨b, s1, h1, h2⟩
  · obtain ⟨t, r, _, hx⟩ := isM_inv h1
    cases hx
  · obtain ⟨t, r, ht, hx⟩ := isM_inv h1
    simp only [Except.ok.injEq, Prod.mk.injEq] at hx
    obtain ⟨rfl, rfl⟩ := hx
    refine ⟨t, r, ht, ?_⟩
    cases hb : isT l t
    · left
      rw [hb] at h2
      have h2 : some (Except.ok (false, s1)) = some x := h2
      simp only [Option.some.injEq] at h2
      exact ⟨rfl, h2.symm⟩
    · right
      rw [hb] at h2
      simp only [cond_true] at h2
      rcases bind_is h2 with ⟨e, h3, _⟩ | ⟨u, s2, h3, h4⟩
      · obtain ⟨_, _, _, _, hx⟩ := stepM_inv h3
        cases hx
      · obtain ⟨t', t2, r2, ht', hx⟩ := stepM_inv h3
        simp only [Except.ok.injEq, Prod.mk.injEq] at hx
        obtain ⟨_, rfl⟩ := hx
        have h4 : some (Except.ok (true, ({ s1 with toks := t2 :: r2 } : St))) = some x := h4
        simp only [Option.some.injEq] at h4
        rw [ht] at ht'
        injection ht' with e1 e2
        exact ⟨rfl, t2, r2, e2, h4.symm⟩
theorem wantM_inv {s : St} {l : List UInt8} {x : Except Fault (Unit × St)} (h : wantM l s = some x) :
    ∃ t r, s.toks = t :: r ∧ ((isT l t = false ∧ x = .error (130, t.at_)) ∨ (isT l t = true ∧ ∃ t2 r2, r = t2 :: r2 ∧ x = .ok ((), { s with toks := t2 :: r2 }))) := by
  unfold wantM at h
  rcases bind_is h with ⟨e, h1, _⟩ | ⟨b, s1, h1, h2⟩
  · obtain ⟨t, r, _, hx⟩ := gotM_inv h1
    rcases hx with ⟨_, hx⟩ | ⟨_, _, _, _, hx⟩ <;> cases hx
  · obtain ⟨t, r, ht, hx⟩ := gotM_inv h1
    refine ⟨t, r, ht, ?_⟩
    rcases hx with ⟨hb, hx⟩ | ⟨hb, t2, r2, hr, hx⟩
    · simp only [Except.ok.injEq, Prod.mk.injEq] at hx
      obtain ⟨rfl, rfl⟩ := hx
      obtain ⟨t', r', ht', hx'⟩ := failM_inv h2
      rw [ht] at ht'
      injection ht' with e1 e2
      subst e1
      exact .inl ⟨hb, hx'⟩
    · simp only [Except.ok.injEq, Prod.mk.injEq] at hx
      obtain ⟨rfl, rfl⟩ := hx
      have h2 : some (Except.ok ((), ({ s with toks := t2 :: r2 } : St))) = some x := h2
      simp only [Option.some.injEq] at h2
      exact .inr ⟨hb, t2, r2, hr, h2.symm⟩
theorem takeM_inv {s : St} {k : Nat} {x : Except Fault (List UInt8 × St)} (h : takeM k s = some x) :
    ∃ t r, s.toks = t :: r ∧ ((t.kind ≠ k ∧ x = .error (130, t.at_)) ∨ (t.kind = k ∧ ∃ t2 r2, r = t2 :: r2 ∧ x = .ok (t.txt, { s with toks := t2 :: r2 }))) := by
  unfold takeM at h
  rcases bind_is h with ⟨e, h1, _⟩ | ⟨b, s1, h1, h2⟩
  · obtain ⟨t, r, _, hx⟩ := nextM_inv h1
    cases hx
  · obtain ⟨t, r, ht, hx⟩ := nextM_inv h1
    simp only [Except.ok.injEq, Prod.mk.injEq] at hx
    obtain ⟨rfl, rfl⟩ := hx
    refine ⟨b, r, ht, ?_⟩
    cases hb : Nat.beq b.kind k
    · left
      rw [hb] at h2
      obtain ⟨t', r', ht', hx'⟩ := failM_inv h2
      rw [ht] at ht'
      injection ht' with e1 e2
      subst e1
      exact ⟨fun e => by rw [e] at hb; simp at hb, hx'⟩
    · right
      rw [hb] at h2
      simp only [cond_true] at h2
      rcases bind_is h2 with ⟨e, h3, _⟩ | ⟨u, s2, h3, h4⟩
      · obtain ⟨_, _, _, _, hx⟩ := stepM_inv h3
        cases hx
      · obtain ⟨t', t2, r2, ht', hx⟩ := stepM_inv h3
        simp only [Except.ok.injEq, Prod.mk.injEq] at hx
        obtain ⟨_, rfl⟩ := hx
        have h4 : some (Except.ok (b.txt, ({ s1 with toks := t2 :: r2 } : St))) = some x := h4
        simp only [Option.some.injEq] at h4
        rw [ht] at ht'
        injection ht' with e1 e2
        exact ⟨Nat.eq_of_beq_eq_true hb, t2, r2, e2, h4.symm⟩

section
variable {w0 W W' : World} {g : Nat} {src : ByteArray} {rs : Nat → Prop} {s : St} {nv fv : Value}

theorem Ends.same {α : Type} {val : α → Value} {a : α} {e : Ending} (h : Pz w0 g src rs s nv fv W) (he : e = .returned (val a)) (hb : Below W.heap.size W W') : Ends w0 g src rs fv W nv val (.ok (a, s)) e W' :=
  ⟨he, nv, h.below hb, Mv.below hb⟩
theorem Ends.bad {α : Type} {val : α → Value} {er at_ : Nat} {e : Ending} {W1 : World} (h : Pz w0 g src rs s nv fv W1) (he : e = gives er at_) (hb : Below W1.heap.size W1 W') : Ends w0 g src rs fv W nv val (.error (er, at_) : Except Fault (α × St)) e W' :=
  ⟨he, Below.trans h.bel (Below.mono hb h.low)⟩

theorem got_w (l : List UInt8) {x : Except Fault (Bool × St)} (hm : gotM l s = some x) (h : Pz w0 g src rs s nv fv W) :
    Calls Tryz.prog 44 #[.pointer (some ⟨g, 0, none⟩), .string ⟨l.toArray⟩] W fun e W' => Ends w0 g src rs fv W nv Value.bool x e W' := by
  obtain ⟨t, r, ht, ⟨hb, rfl⟩ | ⟨hb, t2, r2, rfl, rfl⟩⟩ := gotM_inv hm
  · refine (got_no l hb ht h).mono ?_
    rintro e w' ⟨rfl, hb'⟩
    exact Ends.same h rfl hb'
  · refine (got_yes l hb ht h).mono ?_
    rintro e w' ⟨rfl, hp, hm'⟩
    exact ⟨rfl, nv, hp, hm'⟩

set_option maxRecDepth 100000 in
set_option maxHeartbeats 1000000 in
theorem want_w (l : List UInt8) {x : Except Fault (Unit × St)} (hm : wantM l s = some x) (h : Pz w0 g src rs s nv fv W) :
    Calls Tryz.prog 42 #[.pointer (some ⟨g, 0, none⟩), .string ⟨l.toArray⟩] W fun e W' => Ends w0 g src rs fv W nv (fun _ => .tuple #[]) x e W' := by
  obtain ⟨t, r, ht, ⟨hb, rfl⟩ | ⟨hb, t2, r2, rfl, rfl⟩⟩ := wantM_inv hm
  · have HP := Lib.hid h
    have HI := Lib.hid (got_no l hb ht h)
    have HT := Lib.hid ht
    clear h hm ht
    go_enter Tryz.func42, Tryz.ntmps42
    go_wp2_with (go_at_call 44; (with_reducible refine (HI.out).mono ?_))
    rintro e w1 ⟨rfl, hb1⟩
    have HP1 := Lib.hid (HP.out.below hb1)
    go_wp2_with (go_at_call 85; (with_reducible refine (fail_w 130 130 rfl HT.out HP1.out).mono ?_))
    rintro e w2 ⟨rfl, hb2⟩
    go_wp2
    exact ⟨rfl, Ends.bad HP1.out rfl hb2⟩
  · have HI := Lib.hid (got_yes l hb ht h)
    clear h hm ht
    go_enter Tryz.func42, Tryz.ntmps42
    go_wp2_with (go_at_call 44; (with_reducible refine (HI.out).mono ?_))
    rintro e w1 ⟨rfl, hp, hm'⟩
    have HP := Lib.hid hp
    have HM := Lib.hid hm'
    clear hp hm'
    go_wp2
    go_end0
    exact ⟨rfl, nv, HP.out, HM.out⟩

set_option maxRecDepth 100000 in
set_option maxHeartbeats 1000000 in
theorem take_w (k : Nat) (i : Int) (hi : i = (k : Int)) {x : Except Fault (List UInt8 × St)} (hm : takeM k s = some x) (h : Pz w0 g src rs s nv fv W) :
    Calls Tryz.prog 43 #[.pointer (some ⟨g, 0, none⟩), .int .u8 i] W fun e W' => Ends w0 g src rs fv W nv (fun t => .string ⟨t.toArray⟩) x e W' := by
  subst hi
  obtain ⟨t, r, ht, ⟨hb, rfl⟩ | ⟨hb, t2, r2, rfl, rfl⟩⟩ := takeM_inv hm
  · have HP := Lib.hid h
    have HI := Lib.hid (next_w ht h)
    have HT := Lib.hid ht
    have d0 : ((t.kind : Int) == (k : Int)) = false := beq_eq_false_iff_ne.2 (by omega)
    clear h hm ht
    go_enter Tryz.func43, Tryz.ntmps43
    go_wp2_with (go_at_call 22; (with_reducible refine (HI.out).mono ?_))
    rintro e w1 ⟨rfl, hb1⟩
    have HP1 := Lib.hid (HP.out.below hb1)
    go_wp2_with (go_at_call 85; (with_reducible refine (fail_w 130 130 rfl HT.out HP1.out).mono ?_))
    rintro e w2 ⟨rfl, hb2⟩
    go_wp2
    exact ⟨rfl, Ends.bad HP1.out rfl hb2⟩
  · have HP := Lib.hid h
    have HI := Lib.hid (next_w ht h)
    have HT := Lib.hid ht
    have d0 : ((t.kind : Int) == (k : Int)) = true := beq_iff_eq.2 (by omega)
    clear h hm ht
    go_enter Tryz.func43, Tryz.ntmps43
    go_wp2_with (go_at_call 22; (with_reducible refine (HI.out).mono ?_))
    rintro e w1 ⟨rfl, hb1⟩
    have HP1 := Lib.hid (HP.out.below hb1)
    go_wp2_with (go_at_call 86; (with_reducible refine (text_w HT.out HP1.out).mono ?_))
    rintro e w2 ⟨rfl, hb2⟩
    have HP2 := Lib.hid (HP1.out.below hb2)
    obtain ⟨b, o, c, c1, f1, hc, hp, hm⟩ := HP2.out.step HT.out
    have HP3 := Lib.hid hp
    have HM3 := Lib.hid (((Mv.below hb1).trans (Mv.below hb2)).trans hm)
    clear hp hm
    go_wp2
    go_ret
    exact ⟨rfl, nv, HP3.out, HM3.out⟩
end

end Go.Proofs.YtgplgmjnhkhbjaaGreatDoor
