/-
  The parser's walks, 6: list, named.
-/
import Derived.Test.YtgplgmjnhkhbjaaGreatDoorSt
set_option linter.unusedVariables false
set_option linter.unusedSimpArgs false
namespace Go.Proofs.YtgplgmjnhkhbjaaGreatDoor
attribute [local go_sem] tok_0 tok_1 tok_2
open Go.RowKit Go.Proofs.YtgplgmjnhkhbjaaGreatDoorW.PrintWords PSameTree PflatTokens Syn

/-- whose block a row of kids may be -/
def kok (g : Nat) (rs : Nat → Prop) (fv nv : Value) : Nat → Prop := fun k => k ≠ g ∧ some k ≠ fv.ownBlock ∧ some k ≠ nv.ownBlock ∧ ¬ rs k

/-- what list leaves -/
def EndsL (w0 : World) (g : Nat) (src : ByteArray) (rs : Nat → Prop) (fv : Value) (W : World) (nv : Value) (r : Except Fault (List Nat × St)) (e : Ending) (W' : World) : Prop :=
  match r with
  | .error f => e = .panicked [{ v := .iface 68 (faultV f), recovered := false }] ∧ Below w0.heap.size w0 W'
  | .ok (out, s') => ∃ A c, e = .returned (.slice A out.length c) ∧ ∃ nv', Pz w0 g src rs s' nv' fv W' ∧ Mv g W nv W' nv' ∧ (Kd.int .i64).R 3 W' w0.heap.size (kok g rs fv nv') (.slice A out.length c) (ns out)

section
variable {w0 W : World} {g : Nat} {src : ByteArray} {rs : Nat → Prop} {s : St} {nv fv : Value}

set_option maxRecDepth 100000 in
set_option maxHeartbeats 2000000 in
theorem list_w (N : Nat) (hE : ∀ j, j < N → ExprOK w0 g src fv (lvl j).expr) {x : Except Fault (List Nat × St)} (hm : listM (lvl N) s = some x) (h : Pz w0 g src rs s nv fv W) :
    Calls Tryz.prog 147 #[.pointer (some ⟨g, 0, none⟩)] W fun e W' => EndsL w0 g src rs fv W nv x e W' := by
  obtain ⟨hb, i1, i2, hz⟩ := alloc2 W (.cells #[.pointer (some ⟨g, 0, none⟩)] 70) (.cells #[.slice none 0 0] 44)
  have hmf : ∀ (fn : Fn) (first cap : Array Value) (w : World), (Instr.makeFunc fn first cap).run Tryz.prog w = .ok (.func fn first cap) w := fun _ _ _ _ => rfl
  have hp := h.resB hb
  have HC := Lib.hid (opened_w (W.heap.size + 1) (ListX w0 g (fun k => rs k ∨ (W.heap.size ≤ k ∧ k < ((W.alloc (.cells #[.pointer (some ⟨g, 0, none⟩)] 70)).alloc (.cells #[.slice none 0 0] 44)).heap.size)) fv (W.heap.size + 1)) 152
    #[.pointer (some ⟨W.heap.size, 0, none⟩), .pointer (some ⟨W.heap.size + 1, 0, none⟩)] hm hp (fun w => by kernel_rfl)
    (fun out nv' W1 u hx => by
      obtain ⟨ov, h1, h2⟩ := hx
      exact ⟨ov, blk_far h1 (p := ⟨g, 2, none⟩) (by have := h.lt; show W.heap.size + 1 ≠ g; omega) u, Kd.R_far (p := ⟨g, 2, none⟩) h2 (fun k hk => hk.1) u⟩)
    (fun W1 y hp1 hm1 hy => list1_w N hE hy hp1 W.heap.size (W.heap.size + 1)
      (Bx.mv ⟨i1, .inr ⟨by omega, by rw [hz]; omega⟩⟩ hp hm1) (Bx.mv ⟨i2, .inr ⟨by omega, by rw [hz]; omega⟩⟩ hp hm1) (by omega)))
  have HB := Lib.hid hb
  have hk : W.heap.size ≤ W.heap.size + 1 := by omega
  have hrs : W.heap.size ≤ W.heap.size + 1 ∧ W.heap.size + 1 < ((W.alloc (.cells #[.pointer (some ⟨g, 0, none⟩)] 70)).alloc (.cells #[.slice none 0 0] 44)).heap.size := ⟨by omega, by rw [hz]; omega⟩
  have HR := Lib.hid hrs
  clear hz i1 i2 h hE hm hp hb hrs
  go_enter Tryz.func147, Tryz.ntmps147
  go_wp2_with (go_at_call 89; (with_reducible refine (HC.out).mono ?_))
  generalize ((W.alloc (.cells #[.pointer (some ⟨g, 0, none⟩)] 70)).alloc (.cells #[.slice none 0 0] 44)) = W1 at HB HC HR ⊢
  clear HC
  rcases x with f | ⟨out, s'⟩
  · rintro e w1 ⟨rfl, hb⟩
    have HB := Lib.hid hb
    clear hb
    go_wp2
    exact ⟨rfl, rfl, HB.out⟩
  · rintro e w1 ⟨rfl, nv', hp, hm, ov, hx, hr⟩
    obtain ⟨A, c, hov⟩ := Kd.R_slice hr
    rw [ns_len] at hov
    subst hov
    have c6 : w1.cell? ⟨W.heap.size + 1, 0, none⟩ = some (.slice A out.length c) := (blk_cell hx 0).trans rfl
    have f6 := blk_frozen hx 0
    have HP1 := Lib.hid (Pz.free (rs := rs) (hp.other (.inr HR.out) 0 (.slice A out.length c)) (fun k hk => .inl hk))
    have HM1 := Lib.hid (Mb.mv (Mv.below HB.out) hk (hm.set 0 (.slice A out.length c)))
    have d6 : (w1.setCell ⟨W.heap.size + 1, 0, none⟩ (.slice A out.length c)).cell? ⟨W.heap.size + 1, 0, none⟩ = some (.slice A out.length c) := (blk_cell (blk_set hx 0 (.slice A out.length c)) 0).trans rfl
    have HR1 : Hid ((Kd.int .i64).R 3 (w1.setCell ⟨W.heap.size + 1, 0, none⟩ (.slice A out.length c)) w0.heap.size (kok g rs fv nv') (.slice A out.length c) (ns out)) :=
      R_int (Kd.R_far (p := ⟨W.heap.size + 1, 0, none⟩) hr (fun k hk e => hk.2.2.2 (e ▸ .inr HR.out)) _) (fun k hk => ⟨(hr.1 k hk).1, (hr.1 k hk).2.1, (hr.1 k hk).2.2.1, fun e => (hr.1 k hk).2.2.2 (.inl e)⟩)
    clear hp hm hx hr
    go_wp2
    exact bodyPost_ret (v := .slice A out.length c) (by simp [results, Tryz.results147, go_sem, d6]) rfl ⟨A, c, rfl, nv', HP1.out, HM1.out, HR1.out⟩

theorem putM_inv {n : Nd} {x : Except Fault (Nat × St)} (h : putM n s = some x) : s.count < cap ∧ x = .ok (s.count, { s with nodes := s.nodes ++ [n], count := s.count + 1 }) := by
  unfold putM at h
  cases hb : Nat.blt s.count cap
  · rw [hb] at h; cases h
  · rw [hb] at h
    simp only [cond_true, Option.some.injEq] at h
    exact ⟨by simpa [Nat.blt_eq] using hb, h.symm⟩
theorem put_at (n : Nd) (kv : Value) {x : Except Fault (Nat × St)} (hm : putM n s = some x) (k a ty op bi sz : Int) (nm : ByteArray) (e1 : k = (n.kind : Int)) (e2 : a = (n.at_ : Int)) (e3 : nm = ⟨n.name.toArray⟩) (e4 : ty = (n.typ : Int)) (e5 : op = (n.op : Int)) (e6 : bi = (n.bits : Int)) (e7 : sz = (n.size : Int))
    (h : Pz w0 g src rs s nv fv W) (hk : (Kd.int .i64).R 3 W w0.heap.size (kok g rs fv nv) kv (ns n.kids)) :
    Calls Tryz.prog 92 #[.pointer (some ⟨g, 0, none⟩), .agg #[.int .u8 k, .int .i64 a, .string nm, .int .u8 ty, .int .u8 op, .int .u64 bi, .int .i64 sz, kv]] W
      fun e W' => Ends w0 g src rs fv W nv (fun k : Nat => .int .i64 (k : Int)) x e W' := by
  subst e1 e2 e3 e4 e5 e6 e7
  obtain ⟨hc, rfl⟩ := putM_inv hm
  exact put_w n kv hc h hk

/-- a node's block -/
abbrev ndC (k a : Int) (nm : ByteArray) (ty op bi sz : Int) (kv : Value) : Array Value := #[.int .u8 k, .int .i64 a, .string nm, .int .u8 ty, .int .u8 op, .int .u64 bi, .int .i64 sz, kv]

theorem kids_lit (W : World) (base : Nat) (ok : Nat → Prop) (l : List Nat) (hb : base ≤ W.heap.size) (hl : l.length ≤ 1000) (hok : ok W.heap.size) :
    (Kd.int .i64).R 3 (W.alloc (.cells (l.map fun k : Nat => Value.int .i64 (k : Int)).toArray 3)) base ok (.slice (some ⟨W.heap.size, 0, none⟩) l.length l.length) (ns l) := by
  refine ⟨fun k hk => ?_, ?_⟩
  · have : W.heap.size = k := by simpa [Value.ownBlock] using hk
    exact this ▸ hok
  · have hr : Reps ((Kd.int .i64).M (W.alloc (.cells (l.map fun k : Nat => Value.int .i64 (k : Int)).toArray 3)) base (fun k => ok k ∧ some k ≠ (Value.slice (some ⟨W.heap.size, 0, none⟩) l.length l.length).ownBlock)) 1 (ns l) (l.map fun k : Nat => Value.int .i64 (k : Int)) := by
      have := Kd.reps_scalar (enc := Value.int .i64) (ns l)
      have he : encs (Value.int .i64) (ns l) = l.map fun k : Nat => Value.int .i64 (k : Int) := by simp [encs, ns]
      rw [he] at this
      exact this
    have := OwnRow.lit (e := 3) W base hr hb (by rw [ns_len]; omega)
    rw [ns_len] at this
    exact this

/-- a row of one kid, new -/
theorem Pz.kid1 (h : Pz w0 g src rs s nv fv W) (k H : Nat) (hH : W.heap.size = H) : Below W.heap.size W (W.alloc (.cells #[.int .i64 (k : Int)] 3)) ∧ (Kd.int .i64).R 3 (W.alloc (.cells #[.int .i64 (k : Int)] 3)) w0.heap.size (kok g rs fv nv) (.slice (some ⟨H, 0, none⟩) 1 1) (ns [k]) := by
  subst hH
  have hgl := h.lt
  exact ⟨(alloc1 W _).1, kids_lit W w0.heap.size (kok g rs fv nv) [k] h.low (by simp) ⟨by omega, fun e => by
        obtain ⟨_, ho⟩ := Kd.R_own h.fns
        have := own_lt ho _ e.symm
        omega, fun e => by
        obtain ⟨_, ho⟩ := Kd.R_own h.nds
        have := own_lt ho _ e.symm
        omega, fun e => by have := h.rlt _ e; omega⟩⟩
theorem Pz.kid2 (h : Pz w0 g src rs s nv fv W) (k l H : Nat) (hH : W.heap.size = H) : Below W.heap.size W (W.alloc (.cells #[.int .i64 (k : Int), .int .i64 (l : Int)] 3)) ∧ (Kd.int .i64).R 3 (W.alloc (.cells #[.int .i64 (k : Int), .int .i64 (l : Int)] 3)) w0.heap.size (kok g rs fv nv) (.slice (some ⟨H, 0, none⟩) 2 2) (ns [k, l]) := by
  subst hH
  have hgl := h.lt
  exact ⟨(alloc1 W _).1, kids_lit W w0.heap.size (kok g rs fv nv) [k, l] h.low (by simp) ⟨by omega, fun e => by
        obtain ⟨_, ho⟩ := Kd.R_own h.fns
        have := own_lt ho _ e.symm
        omega, fun e => by
        obtain ⟨_, ho⟩ := Kd.R_own h.nds
        have := own_lt ho _ e.symm
        omega, fun e => by have := h.rlt _ e; omega⟩⟩

theorem nextM_ok {x : Except Fault (Tok × St)} {t : Tok} {s1 : St} (h : nextM s = some (.ok (t, s1))) : s1 = s ∧ ∃ r, s.toks = t :: r := by
  obtain ⟨t', r, ht, hx⟩ := nextM_inv h
  simp only [Except.ok.injEq, Prod.mk.injEq] at hx
  obtain ⟨rfl, rfl⟩ := hx
  exact ⟨rfl, r, ht⟩
theorem named_inv {c : Cs} {x : Except Fault (Nat × St)} (h : namedM c s = some x) :
    ∃ t r, s.toks = t :: r ∧ ∃ y, takeM 2 s = some y ∧ ((∃ f, y = .error f ∧ x = .error f) ∨ ∃ name s1, y = .ok (name, s1) ∧ ∃ t1 r1, s1.toks = t1 :: r1 ∧
      ((isT [40] t1 = true ∧ ∃ z, listM c s1 = some z ∧ ((∃ f, z = .error f ∧ x = .error f) ∨ ∃ ks s2, z = .ok (ks, s2) ∧ putM { kind := 4, at_ := t.at_, name, kids := ks } s2 = some x)) ∨
       (isT [40] t1 = false ∧ isT [91] t1 = true ∧ ∃ z, innerM c [91] [93] s1 = some z ∧ ((∃ f, z = .error f ∧ x = .error f) ∨ ∃ k s2, z = .ok (k, s2) ∧ putM { kind := 3, at_ := t.at_, name, kids := [k] } s2 = some x)) ∨
       (isT [40] t1 = false ∧ isT [91] t1 = false ∧ putM { kind := 2, at_ := t.at_, name } s1 = some x))) := by
  unfold namedM at h
  rcases bind_is h with ⟨e, h1, _⟩ | ⟨t, s0, h1, h2⟩
  · obtain ⟨t, r, _, hx⟩ := nextM_inv h1
    cases hx
  · obtain ⟨rfl, r, ht⟩ := nextM_ok (x := .ok (t, s0)) h1
    refine ⟨t, r, ht, ?_⟩
    rcases bind_is h2 with ⟨e, h3, hx⟩ | ⟨name, s1, h3, h4⟩
    · exact ⟨_, h3, .inl ⟨e, rfl, hx⟩⟩
    · refine ⟨_, h3, .inr ⟨name, s1, rfl, ?_⟩⟩
      rcases bind_is h4 with ⟨e, h5, _⟩ | ⟨b, s2, h5, h6⟩
      · obtain ⟨t, r, _, hx⟩ := isM_inv h5
        cases hx
      · obtain ⟨t1, r1, ht1, hx⟩ := isM_inv h5
        simp only [Except.ok.injEq, Prod.mk.injEq] at hx
        obtain ⟨rfl, rfl⟩ := hx
        refine ⟨t1, r1, ht1, ?_⟩
        cases hb : isT [40] t1
        · rw [hb] at h6
          simp only [cond_false] at h6
          rcases bind_is h6 with ⟨e, h7, _⟩ | ⟨b, s3, h7, h8⟩
          · obtain ⟨t, r, _, hx⟩ := isM_inv h7
            cases hx
          · obtain ⟨t1', r1', ht1', hx⟩ := isM_inv h7
            simp only [Except.ok.injEq, Prod.mk.injEq] at hx
            obtain ⟨rfl, rfl⟩ := hx
            rw [ht1] at ht1'
            injection ht1' with e1 e2
            subst e1
            cases hb2 : isT [91] t1
            · rw [hb2] at h8
              exact .inr (.inr ⟨rfl, rfl, h8⟩)
            · rw [hb2] at h8
              simp only [cond_true] at h8
              right; left
              refine ⟨rfl, rfl, ?_⟩
              rcases bind_is h8 with ⟨e, h9, hx⟩ | ⟨k, s2, h9, h10⟩
              · exact ⟨_, h9, .inl ⟨e, rfl, hx⟩⟩
              · exact ⟨_, h9, .inr ⟨k, s2, rfl, h10⟩⟩
        · rw [hb] at h6
          simp only [cond_true] at h6
          left
          refine ⟨rfl, ?_⟩
          rcases bind_is h6 with ⟨e, h9, hx⟩ | ⟨k, s2, h9, h10⟩
          · exact ⟨_, h9, .inl ⟨e, rfl, hx⟩⟩
          · exact ⟨_, h9, .inr ⟨k, s2, rfl, h10⟩⟩

set_option maxRecDepth 100000 in
set_option maxHeartbeats 4000000 in
theorem named_w (N : Nat) (hE : ∀ j, j ≤ N → ExprOK w0 g src fv (lvl j).expr) {x : Except Fault (Nat × St)} (hm : namedM (lvl N) s = some x) (h : Pz w0 g src rs s nv fv W) :
    Calls Tryz.prog 163 #[.pointer (some ⟨g, 0, none⟩)] W fun e W' => Ends w0 g src rs fv W nv (fun k : Nat => .int .i64 (k : Int)) x e W' := by
  obtain ⟨t, r, ht, y, hy, hx⟩ := named_inv hm
  have HN := Lib.hid (next_w ht h)
  have HP := Lib.hid h
  have HE := Lib.hid hE
  have HX := Lib.hid hx
  have HY := Lib.hid hy
  clear hm h hE hx ht hy
  go_enter Tryz.func163, Tryz.ntmps163
  go_wp2_with (go_at_call 22; (with_reducible refine (HN.out).mono ?_))
  rintro e w1 ⟨rfl, hb1⟩
  have HB1 := Lib.hid hb1
  have HP1 := Lib.hid (HP.out.below hb1)
  clear hb1
  go_wp2_with (go_at_call 43; (with_reducible refine (take_w 2 2 rfl HY.out HP1.out).mono ?_))
  rcases HX.out with ⟨f, rfl, rfl⟩ | ⟨name, s1, rfl, t1, r1, ht1, hcase⟩
  · rintro e w2 ⟨rfl, hb⟩
    have HB := Lib.hid hb
    clear hb
    go_wp2
    exact ⟨rfl, rfl, HB.out⟩
  · rintro e w2 ⟨rfl, nv2, hp2, hm2⟩
    have HM2 := Lib.hid ((Mv.below HB1.out).trans hm2)
    have HP2 := Lib.hid hp2
    have HC := Lib.hid hcase
    have HT := Lib.hid ht1
    clear hp2 hm2 hcase ht1
    obtain ⟨hb3, i3, hz3⟩ := alloc1 w2 (.cells (ndC 2 (t.at_ : Int) ⟨name.toArray⟩ 0 0 0 0 (.slice none 0 0)) 46)
    have hp3 := HP2.out.resB hb3
    have HP3 := Lib.hid hp3
    have HM3 := Lib.hid (HM2.out.trans (Mv.below hb3))
    have HB3 : Hid (Bx (fun k => rs k ∨ (w2.heap.size ≤ k ∧ k < (w2.alloc (.cells (ndC 2 (t.at_ : Int) ⟨name.toArray⟩ 0 0 0 0 (.slice none 0 0)) 46)).heap.size)) (w2.alloc (.cells (ndC 2 (t.at_ : Int) ⟨name.toArray⟩ 0 0 0 0 (.slice none 0 0)) 46)) w2.heap.size (ndC 2 (t.at_ : Int) ⟨name.toArray⟩ 0 0 0 0 (.slice none 0 0)) 46) :=
      ⟨i3, .inr ⟨Nat.le_refl _, by rw [hz3]; omega⟩⟩
    have hbW : W.heap.size ≤ w2.heap.size := HM2.out.kp.1
    clear hp3 hb3 i3 hz3
    go_wp2_with fail
    change Calls Tryz.prog 87 _ (w2.alloc (.cells (ndC 2 (t.at_ : Int) ⟨name.toArray⟩ 0 0 0 0 (.slice none 0 0)) 46)) _
    have hrs : ∀ k, rs k → rs k ∨ (w2.heap.size ≤ k ∧ k < (w2.alloc (.cells (ndC 2 (t.at_ : Int) ⟨name.toArray⟩ 0 0 0 0 (.slice none 0 0)) 46)).heap.size) := fun k hk => .inl hk
    generalize hR3 : (fun k => rs k ∨ (w2.heap.size ≤ k ∧ k < (w2.alloc (.cells (ndC 2 (t.at_ : Int) ⟨name.toArray⟩ 0 0 0 0 (.slice none 0 0)) 46)).heap.size)) = rs3 at HP3 HB3
    have hrs3 : Hid (∀ k, rs k → rs3 k) := fun k hk => by rw [← hR3]; exact hrs k hk
    clear hR3 hrs
    generalize w2.alloc (.cells (ndC 2 (t.at_ : Int) ⟨name.toArray⟩ 0 0 0 0 (.slice none 0 0)) 46) = w3 at HP3 HB3 HM3 ⊢
    generalize w2.heap.size = b at HB3 hbW ⊢
    rcases HC.out with ⟨hq, z, hz, hx⟩ | ⟨hq, hq2, z, hz, hx⟩ | ⟨hq, hq2, hx⟩
    · refine (is_w [40] true hq HT.out HP3.out).mono ?_
      rintro e w4 ⟨rfl, hb4⟩
      have HP4 := Lib.hid (HP3.out.below hb4)
      have HB4 := Lib.hid (HB3.out.below hb4)
      have HM4 := Lib.hid (HM3.out.trans (Mv.below hb4))
      have HZ := Lib.hid hz
      have HX3 := Lib.hid hx
      clear hb4 hx hq hz
      go_wp2_with fail
      refine (list_w N (fun j hj => HE.out j (by omega)) HZ.out HP4.out).mono ?_
      rcases HX3.out with ⟨f, rfl, rfl⟩ | ⟨ks, s2, rfl, hx4⟩
      · rintro e w5 ⟨rfl, hb⟩
        have HB := Lib.hid hb
        clear hb
        go_wp2
        exact ⟨rfl, rfl, HB.out⟩
      rintro e w5 ⟨A, c, rfl, nv5, hp5, hm5, hr5⟩
      have b5 := HB4.out.mv HP4.out hm5
      have HM5 := Lib.hid (HM4.out.trans hm5)
      have HX4 := Lib.hid hx4
      have c0 := (b5.cell 0).trans rfl
      have c1 := (b5.cell 1).trans rfl
      have c2 := (b5.cell 2).trans rfl
      have c3 := (b5.cell 3).trans rfl
      have c4 := (b5.cell 4).trans rfl
      have c5 := (b5.cell 5).trans rfl
      have c6 := (b5.cell 6).trans rfl
      have c7 := (b5.cell 7).trans rfl
      have f0 := b5.frozen 0
      have f7 := b5.frozen 7
      have p6 := (hp5.other b5.rs 0 (.int .u8 4)).other b5.rs 7 (.slice A ks.length c)
      have HP5 := Lib.hid p6
      have hnb : ∀ k, kok g rs3 fv nv5 k → k ≠ b := fun k hk e => hk.2.2.2 (e ▸ b5.rs)
      have HR := Lib.hid (Kd.R_far (p := ⟨b, 7, none⟩) (Kd.R_far (p := ⟨b, 0, none⟩) hr5 hnb (.int .u8 4)) hnb (.slice A ks.length c))
      have HMZ := Lib.hid (Mb.mv (Mv.refl g W nv) hbW (((HM5.out.mb b).set 0 (.int .u8 4)).set 7 (.slice A ks.length c)))
      clear hp5 hm5 hr5 b5 hx4 p6 hnb
      go_wp2_with fail
      refine (put_at { kind := 4, at_ := t.at_, name, kids := ks } (.slice A ks.length c) HX4.out 4 _ _ _ _ _ _ rfl rfl rfl rfl rfl rfl rfl HP5.out HR.out).mono ?_
      clear c0 c1 c2 c3 c4 c5 c6 c7 f0 f7
      obtain ⟨_, rfl⟩ := putM_inv HX4.out
      rintro e w6 ⟨rfl, nv6, hp6, hm6⟩
      have HP6 := Lib.hid (hp6.free hrs3.out)
      have HM6 := Lib.hid (HMZ.out.trans hm6)
      clear hp6 hm6
      go_wp2
      go_ret
      exact ⟨rfl, nv6, HP6.out, HM6.out⟩
    · refine (is_w [40] false hq HT.out HP3.out).mono ?_
      rintro e w4 ⟨rfl, hb4⟩
      have HP4 := Lib.hid (HP3.out.below hb4)
      have HB4 := Lib.hid (HB3.out.below hb4)
      have HM4 := Lib.hid (HM3.out.trans (Mv.below hb4))
      have HZ := Lib.hid hz
      have HX3 := Lib.hid hx
      have HQ := Lib.hid hq2
      clear hb4 hx hq hz hq2
      go_wp2_with fail
      refine (is_w [91] true HQ.out HT.out HP4.out).mono ?_
      rintro e w4' ⟨rfl, hb4⟩
      have HP4' := Lib.hid (HP4.out.below hb4)
      have HB4' := Lib.hid (HB4.out.below hb4)
      have HM4' := Lib.hid (HM4.out.trans (Mv.below hb4))
      clear hb4
      go_wp2_with fail
      refine (inner_w (HE.out N (Nat.le_refl _)) [91] [93] HZ.out HP4'.out).mono ?_
      rcases HX3.out with ⟨f, rfl, rfl⟩ | ⟨kk, s2, rfl, hx4⟩
      · rintro e w5 ⟨rfl, hb⟩
        have HB := Lib.hid hb
        clear hb
        go_wp2
        exact ⟨rfl, rfl, HB.out⟩
      rintro e w5 ⟨rfl, nv5, hp5, hm5⟩
      have b5 := HB4'.out.mv HP4'.out hm5
      have HM5 := Lib.hid (HM4'.out.trans hm5)
      have HX4 := Lib.hid hx4
      have c0 := (b5.cell 0).trans rfl
      have c1 := (b5.cell 1).trans rfl
      have c2 := (b5.cell 2).trans rfl
      have c3 := (b5.cell 3).trans rfl
      have c4 := (b5.cell 4).trans rfl
      have c5 := (b5.cell 5).trans rfl
      have c6 := (b5.cell 6).trans rfl
      have c7 := (b5.cell 7).trans rfl
      have f0 := b5.frozen 0
      have f7 := b5.frozen 7
      have p6 := (hp5.other b5.rs 0 (.int .u8 3)).other b5.rs 7 (.slice (some ⟨w5.heap.size, 0, none⟩) 1 1)
      have hbl := b5.lt
      obtain ⟨hba, hr5⟩ := p6.kid1 kk (w5.heap.size) (by simp [World.setCell])
      have HP5 := Lib.hid (p6.below hba)
      have HR := Lib.hid hr5
      have HMZ := Lib.hid (((Mb.mv (Mv.refl g W nv) hbW (((HM5.out.mb b).set 0 (.int .u8 3)).set 7 (.slice (some ⟨w5.heap.size, 0, none⟩) 1 1))).trans (Mv.below hba)))
      clear hp5 hm5 hr5 b5 hx4 p6 hba
      go_wp2_with fail
      refine (put_at { kind := 3, at_ := t.at_, name, kids := [kk] } (.slice (some ⟨w5.heap.size, 0, none⟩) 1 1) HX4.out 3 _ _ _ _ _ _ rfl rfl rfl rfl rfl rfl rfl HP5.out HR.out).mono ?_
      clear c0 c1 c2 c3 c4 c5 c6 c7 f0 f7
      obtain ⟨_, rfl⟩ := putM_inv HX4.out
      rintro e w6 ⟨rfl, nv6, hp6, hm6⟩
      have HP6 := Lib.hid (hp6.free hrs3.out)
      have HM6 := Lib.hid (HMZ.out.trans hm6)
      clear hp6 hm6
      go_wp2
      go_ret
      exact ⟨rfl, nv6, HP6.out, HM6.out⟩
    · refine (is_w [40] false hq HT.out HP3.out).mono ?_
      rintro e w4 ⟨rfl, hb4⟩
      have HP4 := Lib.hid (HP3.out.below hb4)
      have HB4 := Lib.hid (HB3.out.below hb4)
      have HM4 := Lib.hid (HM3.out.trans (Mv.below hb4))
      have HX4 := Lib.hid hx
      have HQ := Lib.hid hq2
      clear hb4 hx hq hq2
      go_wp2_with (go_at_call 87; (with_reducible refine (is_w [91] false HQ.out HT.out HP4.out).mono ?_))
      rintro e w5 ⟨rfl, hb5⟩
      have HP5 := Lib.hid (HP4.out.below hb5)
      have b5 := HB4.out.below hb5
      have HM5 := Lib.hid (HM4.out.trans (Mv.below hb5))
      have c0 := (b5.cell 0).trans rfl
      have c1 := (b5.cell 1).trans rfl
      have c2 := (b5.cell 2).trans rfl
      have c3 := (b5.cell 3).trans rfl
      have c4 := (b5.cell 4).trans rfl
      have c5 := (b5.cell 5).trans rfl
      have c6 := (b5.cell 6).trans rfl
      have c7 := (b5.cell 7).trans rfl
      clear hb5 b5
      have HMZ := HM5
      go_wp2_with fail
      refine (put_at { kind := 2, at_ := t.at_, name } (.slice none 0 0) HX4.out 2 _ _ _ _ _ _ rfl rfl rfl rfl rfl rfl rfl HP5.out (Kd.R_nil _ _ _ _ _)).mono ?_
      clear c0 c1 c2 c3 c4 c5 c6 c7
      obtain ⟨_, rfl⟩ := putM_inv HX4.out
      rintro e w6 ⟨rfl, nv6, hp6, hm6⟩
      have HP6 := Lib.hid (hp6.free hrs3.out)
      have HM6 := Lib.hid (HMZ.out.trans hm6)
      clear hp6 hm6
      go_wp2
      go_ret
      exact ⟨rfl, nv6, HP6.out, HM6.out⟩
end
end Go.Proofs.YtgplgmjnhkhbjaaGreatDoor
