/-
  The parser's walks, 14: set.
-/
import Derived.Test.YtgplgmjnhkhbjaaGreatDoorSz
import Derived.Test.YtgplgmjnhkhbjaaGreatDoorTb
set_option linter.unusedVariables false
set_option linter.unusedSimpArgs false
namespace Go.Proofs.YtgplgmjnhkhbjaaGreatDoor
attribute [local go_sem] tok_0 tok_1 tok_2
open Go.RowKit Go.Proofs.YtgplgmjnhkhbjaaGreatDoorW.PrintWords PSameTree PflatTokens Syn

/-- a node that a function hands on -/
def EndsN (w0 : World) (g : Nat) (src : ByteArray) (rs : Nat → Prop) (fv : Value) (W : World) (nv : Value) (r : Except Fault (Nd × St)) (e : Ending) (W' : World) : Prop :=
  match r with
  | .error f => e = .panicked [{ v := .iface 68 (faultV f), recovered := false }] ∧ Below w0.heap.size w0 W'
  | .ok (n, s') => ∃ A c, e = .returned (.agg (ndC (n.kind : Int) (n.at_ : Int) ⟨n.name.toArray⟩ (n.typ : Int) (n.op : Int) (n.bits : Int) (n.size : Int) (.slice A n.kids.length c))) ∧ ∃ nv', Pz w0 g src rs s' nv' fv W' ∧ Mv g W nv W' nv' ∧ (Kd.int .i64).R 3 W' w0.heap.size (kok g rs fv nv') (.slice A n.kids.length c) (ns n.kids)

theorem Pz.new2 {w0 W : World} {g : Nat} {src : ByteArray} {rs : Nat → Prop} {s : St} {nv fv : Value} (h : Pz w0 g src rs s nv fv W) (cs1 cs2 : Array Value) (t1 t2 : TypeId) :
    ∃ rs' : Nat → Prop, (∀ k, rs k → rs' k) ∧ Pz w0 g src rs' s nv fv ((W.alloc (.cells cs1 t1)).alloc (.cells cs2 t2)) ∧ Bx rs' ((W.alloc (.cells cs1 t1)).alloc (.cells cs2 t2)) W.heap.size cs1 t1 ∧ Bx rs' ((W.alloc (.cells cs1 t1)).alloc (.cells cs2 t2)) (W.heap.size + 1) cs2 t2 ∧ Mv g W nv ((W.alloc (.cells cs1 t1)).alloc (.cells cs2 t2)) nv := by
  obtain ⟨hb, i1, i2, hz⟩ := alloc2 W (.cells cs1 t1) (.cells cs2 t2)
  exact ⟨_, fun k hk => .inl hk, h.resB hb, ⟨i1, .inr ⟨Nat.le_refl _, by rw [hz]; omega⟩⟩, ⟨i2, .inr ⟨by omega, by rw [hz]; omega⟩⟩, Mv.below hb⟩

theorem Mv.set_new {g b : Nat} {W W1 : World} {nv n1 : Value} (h : Mv g W nv W1 n1) (hb : W.heap.size ≤ b) (j : Nat) (u : Value) : Mv g W nv (W1.setCell ⟨b, j, none⟩ u) n1 := by
  have := (h.mb b).set j u
  exact ⟨⟨this.size, fun i hi h1 h2 => this.kp i hi h1 h2 (by omega)⟩, this.own⟩
abbrev fill8 (w : World) (b : Nat) (v0 v1 v2 v3 v4 v5 v6 v7 : Value) : World := (((((((w.setCell ⟨b, 0, none⟩ v0).setCell ⟨b, 1, none⟩ v1).setCell ⟨b, 2, none⟩ v2).setCell ⟨b, 3, none⟩ v3).setCell ⟨b, 4, none⟩ v4).setCell ⟨b, 5, none⟩ v5).setCell ⟨b, 6, none⟩ v6).setCell ⟨b, 7, none⟩ v7
theorem Mv.fill {g b : Nat} {W W1 : World} {nv n1 : Value} (h : Mv g W nv W1 n1) (hb : W.heap.size ≤ b) (v0 v1 v2 v3 v4 v5 v6 v7 : Value) : Mv g W nv (fill8 W1 b v0 v1 v2 v3 v4 v5 v6 v7) n1 :=
  (((((((h.set_new hb 0 v0).set_new hb 1 v1).set_new hb 2 v2).set_new hb 3 v3).set_new hb 4 v4).set_new hb 5 v5).set_new hb 6 v6).set_new hb 7 v7
theorem Pz.fill {w0 W : World} {g b : Nat} {src : ByteArray} {rs : Nat → Prop} {s : St} {nv fv : Value} (h : Pz w0 g src rs s nv fv W) (hb : rs b) (v0 v1 v2 v3 v4 v5 v6 v7 : Value) : Pz w0 g src rs s nv fv (fill8 W b v0 v1 v2 v3 v4 v5 v6 v7) :=
  (((((((h.other hb 0 v0).other hb 1 v1).other hb 2 v2).other hb 3 v3).other hb 4 v4).other hb 5 v5).other hb 6 v6).other hb 7 v7
section
variable {w0 W : World} {g : Nat} {src : ByteArray} {rs : Nat → Prop} {s : St} {nv fv : Value}

theorem set_inv {c : Cs} {a : Nat} {x : Except Fault (Nd × St)} (h : setM c a s = some x) :
    ∃ y, takeM 2 s = some y ∧ ((∃ f, y = .error f ∧ x = .error f) ∨ ∃ nm s1, y = .ok (nm, s1) ∧ ∃ t r, s1.toks = t :: r ∧ isT [40] t = false ∧ isT [91] t = false ∧
      ∃ z, wantM [61] s1 = some z ∧ ((∃ f, z = .error f ∧ x = .error f) ∨ ∃ s2, z = .ok ((), s2) ∧ ∃ u, c.expr 1 s2 = some u ∧ ((∃ f, u = .error f ∧ x = .error f) ∨
        ∃ k s3, u = .ok (k, s3) ∧ x = .ok ({ kind := 12, at_ := a, name := nm, kids := [k] }, s3)))) := by
  unfold setM at h
  rcases bind_is h with ⟨e, h1, hx⟩ | ⟨nm, s1, h1, h2⟩
  · exact ⟨_, h1, .inl ⟨e, rfl, hx⟩⟩
  · refine ⟨_, h1, .inr ⟨nm, s1, rfl, ?_⟩⟩
    rcases bind_is h2 with ⟨e, h3, _⟩ | ⟨b, s2, h3, h4⟩
    · obtain ⟨_, _, _, hx⟩ := isM_inv h3
      cases hx
    · obtain ⟨t, r, ht, hx⟩ := isM_inv h3
      simp only [Except.ok.injEq, Prod.mk.injEq] at hx
      obtain ⟨rfl, rfl⟩ := hx
      refine ⟨t, r, ht, ?_⟩
      cases ka : isT [40] t
      · rw [ka] at h4
        simp only [cond_false] at h4
        refine ⟨rfl, ?_⟩
        rcases bind_is h4 with ⟨e, h5, _⟩ | ⟨b, s3, h5, h6⟩
        · obtain ⟨_, _, _, hx⟩ := isM_inv h5
          cases hx
        · obtain ⟨t', r', ht', hx⟩ := isM_inv h5
          simp only [Except.ok.injEq, Prod.mk.injEq] at hx
          obtain ⟨rfl, rfl⟩ := hx
          rw [ht] at ht'
          injection ht' with ht' _
          subst ht'
          cases kb : isT [91] t
          · rw [kb] at h6
            simp only [cond_false] at h6
            refine ⟨rfl, ?_⟩
            rcases bind_is h6 with ⟨e, h7, hx⟩ | ⟨u, s4, h7, h8⟩
            · exact ⟨_, h7, .inl ⟨e, rfl, hx⟩⟩
            · refine ⟨_, h7, .inr ⟨s4, rfl, ?_⟩⟩
              rcases bind_is h8 with ⟨e, h9, hx⟩ | ⟨k, s5, h9, h10⟩
              · exact ⟨_, h9, .inl ⟨e, rfl, hx⟩⟩
              · refine ⟨_, h9, .inr ⟨k, s5, rfl, ?_⟩⟩
                have h10 : some (Except.ok _) = some x := h10
                exact (Option.some.inj h10).symm
          · rw [kb] at h6
            cases h6
      · rw [ka] at h4
        cases h4

set_option maxRecDepth 100000 in
set_option maxHeartbeats 4000000 in
theorem set_w (N : Nat) (hE : ExprOK w0 g src fv (lvl N).expr) (a : Nat) (k0 : Int) {x : Except Fault (Nd × St)} (hm : setM (lvl N) a s = some x) (h : Pz w0 g src rs s nv fv W) :
    Calls Tryz.prog 130 #[.pointer (some ⟨g, 0, none⟩), .agg (ndC k0 (a : Int) ⟨#[]⟩ 0 0 0 0 (.slice none 0 0))] W fun e W' => EndsN w0 g src rs fv W nv x e W' := by
  obtain ⟨y, hy, hcase⟩ := set_inv hm
  obtain ⟨rs1, hrs1, hp0, hn0, ho0, hm0⟩ := h.new2 (ndC k0 (a : Int) ⟨#[]⟩ 0 0 0 0 (.slice none 0 0)) (ndC 0 0 ⟨#[]⟩ 0 0 0 0 (.slice none 0 0)) 46 46
  have HT := Lib.hid (take_w 2 2 rfl hy hp0)
  have HRS := Lib.hid hrs1
  have HP0 := Lib.hid hp0
  have HN0 := Lib.hid hn0
  have HO0 := Lib.hid ho0
  have HM0 := Lib.hid hm0
  have HC := Lib.hid hcase
  have HE := Lib.hid hE
  have hnb : W.heap.size ≤ W.heap.size := Nat.le_refl _
  have hob : W.heap.size ≤ W.heap.size + 1 := by omega
  have hno : W.heap.size ≠ W.heap.size + 1 := by omega
  clear hm h hcase hy hE hrs1 hp0 hn0 ho0 hm0
  go_enter Tryz.func130, Tryz.ntmps130
  go_wp2_with fail
  refine (HT.out).mono ?_
  clear HT
  generalize ((W.alloc (.cells (ndC k0 (a : Int) ⟨#[]⟩ 0 0 0 0 (.slice none 0 0)) 46)).alloc (.cells (ndC 0 0 ⟨#[]⟩ 0 0 0 0 (.slice none 0 0)) 46)) = w1 at HP0 HN0 HO0 HM0 ⊢
  generalize hone : W.heap.size + 1 = ob at HO0 hob hno ⊢
  generalize hnne : W.heap.size = nb at HN0 hno ⊢
  have hnb : W.heap.size ≤ nb := by omega
  rcases HC.out with ⟨f, rfl, rfl⟩ | ⟨nm, s1, rfl, t, r, ht, ka, kb, z, hz, hx⟩
  · rintro e wz ⟨rfl, hb⟩
    have HBz := Lib.hid hb
    clear hb
    go_wp2
    exact ⟨rfl, rfl, HBz.out⟩
  · rintro e w2 ⟨rfl, nv2, hp2, hm2⟩
    have HP2 := Lib.hid hp2
    have HN2 := Lib.hid (HN0.out.mv HP0.out hm2)
    have HO2 := Lib.hid (HO0.out.mv HP0.out hm2)
    have HM2 := Lib.hid (HM0.out.trans hm2)
    have HX := Lib.hid hx
    have HZ := Lib.hid hz
    have HTK := Lib.hid ht
    have HI1 := Lib.hid (is_w [40] false ka ht hp2)
    have KB := Lib.hid kb
    clear hp2 hm2 hx hz ht ka kb
    go_wp2_with fail
    refine (HI1.out).mono ?_
    rintro e w3 ⟨rfl, hb⟩
    have HP3 := Lib.hid (HP2.out.below hb)
    have HN3 := Lib.hid (HN2.out.below hb)
    have HO3 := Lib.hid (HO2.out.below hb)
    have HM3 := Lib.hid (HM2.out.trans (Mv.below hb))
    clear hb
    go_wp2_with fail
    refine (is_w [91] false KB.out HTK.out HP3.out).mono ?_
    rintro e w4 ⟨rfl, hb⟩
    have HP4 := Lib.hid (HP3.out.below hb)
    have HN4 := Lib.hid (HN3.out.below hb)
    have HO4 := Lib.hid (HO3.out.below hb)
    have HM4 := Lib.hid (HM3.out.trans (Mv.below hb))
    clear hb
    go_wp2_with fail
    refine (want_w [61] HZ.out HP4.out).mono ?_
    rcases HX.out with ⟨f, rfl, rfl⟩ | ⟨s2, rfl, u, hu, hx⟩
    · rintro e wz ⟨rfl, hb⟩
      have HBz := Lib.hid hb
      clear hb
      go_wp2
      exact ⟨rfl, rfl, HBz.out⟩
    · rintro e w5 ⟨rfl, nv5, hp5, hm5⟩
      have HP5 := Lib.hid hp5
      have HN5 := Lib.hid (HN4.out.mv HP4.out hm5)
      have HO5 := Lib.hid (HO4.out.mv HP4.out hm5)
      have HM5 := Lib.hid (HM4.out.trans hm5)
      have HU := Lib.hid (HE.out rs1 1 1 w5 s2 nv5 u rfl (by omega) hu hp5)
      have HX := Lib.hid hx
      clear hp5 hm5 hu hx
      go_wp2_with fail
      refine (HU.out).mono ?_
      rcases HX.out with ⟨f, rfl, rfl⟩ | ⟨k, s3, rfl, rfl⟩
      · rintro e wz ⟨rfl, hb⟩
        have HBz := Lib.hid hb
        clear hb
        go_wp2
        exact ⟨rfl, rfl, HBz.out⟩
      · rintro e w6 ⟨rfl, nv6, hp6, hm6⟩
        have HN6 := Lib.hid (HN5.out.mv HP5.out hm6)
        have HO6 := Lib.hid (HO5.out.mv HP5.out hm6)
        have HM6 := Lib.hid (HM5.out.trans hm6)
        have HP6 := Lib.hid hp6
        have HP5 := Lib.hid HP5.out
        clear hp6 hm6
        have nbl := HN6.out.lt
        have obl := HO6.out.lt
        have f0 := HN6.out.frozen 0
        have f1 := HN6.out.frozen 1
        have f2 := HN6.out.frozen 2
        have f3 := HN6.out.frozen 3
        have f4 := HN6.out.frozen 4
        have f5 := HN6.out.frozen 5
        have f6 := HN6.out.frozen 6
        have f7 := HN6.out.frozen 7
        have n0 := (HN6.out.cell 0).trans rfl
        have n1 := (HN6.out.cell 1).trans rfl
        have n2 := (HN6.out.cell 2).trans rfl
        have n3 := (HN6.out.cell 3).trans rfl
        have n4 := (HN6.out.cell 4).trans rfl
        have n5 := (HN6.out.cell 5).trans rfl
        have n6 := (HN6.out.cell 6).trans rfl
        have n7 := (HN6.out.cell 7).trans rfl
        have g0 := HO6.out.frozen 0
        have g1 := HO6.out.frozen 1
        have g2 := HO6.out.frozen 2
        have g3 := HO6.out.frozen 3
        have g4 := HO6.out.frozen 4
        have g5 := HO6.out.frozen 5
        have g6 := HO6.out.frozen 6
        have g7 := HO6.out.frozen 7
        have m0 := (HO6.out.cell 0).trans rfl
        have m1 := (HO6.out.cell 1).trans rfl
        have m2 := (HO6.out.cell 2).trans rfl
        have m3 := (HO6.out.cell 3).trans rfl
        have m4 := (HO6.out.cell 4).trans rfl
        have m5 := (HO6.out.cell 5).trans rfl
        have m6 := (HO6.out.cell 6).trans rfl
        have m7 := (HO6.out.cell 7).trans rfl
        go_wp2_with fail
        have p6 := ((HP6.out.other HN6.out.rs 0 (.int .u8 12)).other HN6.out.rs 2 (.string ⟨nm.toArray⟩)).other HN6.out.rs 7 (.slice (some ⟨w6.heap.size, 0, none⟩) 1 1)
        have q6 := (((HM6.out.set_new hnb 0 (.int .u8 12)).set_new hnb 2 (.string ⟨nm.toArray⟩)).set_new hnb 7 (.slice (some ⟨w6.heap.size, 0, none⟩) 1 1))
        have o6 := ((HO6.out.far hno.symm 0 (.int .u8 12)).far hno.symm 2 (.string ⟨nm.toArray⟩)).far hno.symm 7 (.slice (some ⟨w6.heap.size, 0, none⟩) 1 1)
        have p7 := p6.fill HO6.out.rs (.int .u8 12) (.int .i64 (a : Int)) (.string ⟨nm.toArray⟩) (.int .u8 0) (.int .u8 0) (.int .u64 0) (.int .i64 0) (.slice (some ⟨w6.heap.size, 0, none⟩) 1 1)
        have q7 := q6.fill hob (.int .u8 12) (.int .i64 (a : Int)) (.string ⟨nm.toArray⟩) (.int .u8 0) (.int .u8 0) (.int .u64 0) (.int .i64 0) (.slice (some ⟨w6.heap.size, 0, none⟩) 1 1)
        have o7 := nd_fill o6.is (.int .u8 12) (.int .i64 (a : Int)) (.string ⟨nm.toArray⟩) (.int .u8 0) (.int .u8 0) (.int .u64 0) (.int .i64 0) (.slice (some ⟨w6.heap.size, 0, none⟩) 1 1)
        obtain ⟨hba, hr⟩ := p7.kid1 k (w6.heap.size) (by simp [World.setCell])
        refine bodyPost_ret (results_cell_row rfl _ _ ob 46 (ndC 12 (a : Int) ⟨nm.toArray⟩ 0 0 0 0 (.slice (some ⟨w6.heap.size, 0, none⟩) 1 1)) (0, 0) _ rfl (blk_alloc o7 _) Tryz.underlying46 rfl (by kernel_rfl)) rfl ?_
        exact ⟨_, _, rfl, nv6, (p7.below hba).free HRS.out, q7.trans (Mv.below hba), R_int hr (fun i hi => ⟨(hr.1 i hi).1, (hr.1 i hi).2.1, (hr.1 i hi).2.2.1, fun e => (hr.1 i hi).2.2.2 (HRS.out i e)⟩)⟩
end

end Go.Proofs.YtgplgmjnhkhbjaaGreatDoor
