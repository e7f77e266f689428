/-
  The parser's walks, 9: unary.
-/
import Derived.Test.YtgplgmjnhkhbjaaGreatDoorSw
import Derived.RegionTactic
set_option linter.unusedVariables false
set_option linter.unusedSimpArgs false
namespace Go.Proofs.YtgplgmjnhkhbjaaGreatDoor
attribute [local go_sem] tok_0 tok_1 tok_2
open Go.RowKit Go.Proofs.YtgplgmjnhkhbjaaGreatDoorW.PrintWords PSameTree PflatTokens Syn

/-- unary does what the model does -/
def UnaryOK (w0 : World) (g : Nat) (src : ByteArray) (fv : Value) (f : M Nat) : Prop :=
  ∀ (rs : Nat → Prop) (W : World) (s : St) (nv : Value) (x : Except Fault (Nat × St)), f s = some x → Pz w0 g src rs s nv fv W →
    Calls Tryz.prog 151 #[.pointer (some ⟨g, 0, none⟩)] W fun e W' => Ends w0 g src rs fv W nv (fun k : Nat => .int .i64 (k : Int)) x e W'

/-- a node of one kid, in its block -/
def KidX (w0 : World) (g : Nat) (rs : Nat → Prop) (fv : Value) (nb : Nat) (k0 a op : Int) (k : Nat) (nv' : Value) (W' : World) : Prop :=
  ∃ A c, W'.heap[nb]? = some (.cells (ndC k0 a ⟨#[]⟩ 0 op 0 0 (.slice A 1 c)) 46 (0, 0)) ∧ (Kd.int .i64).R 3 W' w0.heap.size (kok g rs fv nv') (.slice A 1 c) (ns [k])

section
variable {w0 W : World} {g : Nat} {src : ByteArray} {rs : Nat → Prop} {s : St} {nv fv : Value}

theorem step_inv {m : M Nat} {x : Except Fault (Nat × St)} (h : (do stepM; m : M Nat) s = some x) : ∃ t t2 r, s.toks = t :: t2 :: r ∧ m { s with toks := t2 :: r } = some x := by
  rcases bind_is h with ⟨e, h3, _⟩ | ⟨u, s2, h3, h4⟩
  · obtain ⟨_, _, _, _, hx⟩ := stepM_inv h3
    cases hx
  · obtain ⟨t', t2, r2, ht', hx⟩ := stepM_inv h3
    simp only [Except.ok.injEq, Prod.mk.injEq] at hx
    obtain ⟨_, rfl⟩ := hx
    exact ⟨t', t2, r2, ht', h4⟩

set_option maxRecDepth 100000 in
set_option maxHeartbeats 4000000 in
theorem unary1_w (c : Cs) (hU : UnaryOK w0 g src fv c.unary) {x : Except Fault (Nat × St)} (hm : (do stepM; c.unary : M Nat) s = some x) (h : Pz w0 g src rs s nv fv W) (pb nb : Nat) (a op : Int)
    (b1 : Bx rs W pb #[.pointer (some ⟨g, 0, none⟩)] 70) (b2 : Bx rs W nb (ndC 6 a ⟨#[]⟩ 0 op 0 0 (.slice none 0 0)) 46) (n1 : pb ≠ nb) :
    Calls Tryz.prog 157 #[.pointer (some ⟨pb, 0, none⟩), .pointer (some ⟨nb, 0, none⟩)] W
      fun e W' => EndsB w0 g src rs fv nb W nv (KidX w0 g rs fv nb 6 a op) x e W' := by
  obtain ⟨t, t2, r, ht, hu⟩ := step_inv hm
  have hd := h.below (Below.drew (Below.refl _ W))
  obtain ⟨tb, tq, tc, k1, kf, kc, hp1, hm1⟩ := hd.step ht
  have k1' : W.cell? ⟨g, 1, none⟩ = some (.slice (some ⟨tb, tq, none⟩) (r.length + 2) tc) := k1
  have kf' : W.frozen? ⟨g, 1, none⟩ = false := kf
  have e1 : W.drew.setCell ⟨g, 1, none⟩ (.slice (some ⟨tb, tq + 3, none⟩) (r.length + 1) (tc - 1)) = (W.setCell ⟨g, 1, none⟩ (.slice (some ⟨tb, tq + 3, none⟩) (r.length + 1) (tc - 1))).drew := rfl
  rw [e1] at hp1 hm1
  have HM1 := Lib.hid ((Mv.below (g := g) (nv := nv) (Below.drew (Below.refl _ W))).trans hm1)
  have B1 := Lib.hid (b1.mv h HM1.out)
  have B2 := Lib.hid (b2.mv h HM1.out)
  have HP1 := Lib.hid hp1
  have c1 : W.cell? ⟨pb, 0, none⟩ = some (.pointer (some ⟨g, 0, none⟩)) := (b1.cell 0).trans rfl
  have c2 : (W.setCell ⟨g, 1, none⟩ (.slice (some ⟨tb, tq + 3, none⟩) (r.length + 1) (tc - 1))).drew.cell? ⟨pb, 0, none⟩ = some (.pointer (some ⟨g, 0, none⟩)) := (B1.out.cell 0).trans rfl
  have HC := Lib.hid (hU rs _ _ nv x hu hp1)
  clear hm h hd hp1 hm1 k1 kf b1 b2 hu ht hU e1
  go_enter Tryz.func157, Tryz.ntmps157
  go_wp2
  go_region
  all_goals
    go_wp2_with fail
    refine (HC.out).mono ?_
    rcases x with f | ⟨kk, s'⟩
    · rintro e wz ⟨rfl, hb⟩
      have HBz := Lib.hid hb
      clear hb
      go_wp2
      exact ⟨rfl, rfl, HBz.out⟩
    · rintro e w2 ⟨rfl, nv2, hp2, hm2⟩
      have b2 := B2.out.mv HP1.out hm2
      have HM2 := Lib.hid (HM1.out.trans hm2)
      have hbl := b2.lt
      have f7 := b2.frozen 7
      have c7 := (b2.cell 7).trans rfl
      have p3 := hp2.other b2.rs 7 (.slice (some ⟨w2.heap.size, 0, none⟩) 1 1)
      obtain ⟨hba, hr⟩ := p3.kid1 kk (w2.heap.size) (by simp [World.setCell])
      have HPA := Lib.hid (p3.below hba)
      have HR := Lib.hid hr
      have HMZ := Lib.hid (((HM2.out.mb nb).set 7 (.slice (some ⟨w2.heap.size, 0, none⟩) 1 1)).trans ((Mv.below hba).mb nb))
      have HN := Lib.hid ((b2.set 7 (.slice (some ⟨w2.heap.size, 0, none⟩) 1 1) (cs' := ndC 6 a ⟨#[]⟩ 0 op 0 0 (.slice (some ⟨w2.heap.size, 0, none⟩) 1 1)) rfl).below hba)
      clear hp2 hm2 b2 p3 hba hr
      go_wp2
      go_end0
      exact ⟨rfl, nv2, HPA.out, HMZ.out, _, _, HN.out.is, HR.out⟩

theorem unary_inv {c : Cs} {x : Except Fault (Nat × St)} (h : unaryM c s = some x) :
    ∃ t r, s.toks = t :: r ∧
      ((isT [45] t = true ∧ ∃ y, openedM (do stepM; c.unary : M Nat) s = some y ∧ ((∃ f, y = .error f ∧ x = .error f) ∨ ∃ k s1, y = .ok (k, s1) ∧ putM { kind := 6, at_ := t.at_, op := 17, kids := [k] } s1 = some x)) ∨
       (isT [45] t = false ∧ isT [33] t = true ∧ ∃ y, openedM (do stepM; c.unary : M Nat) s = some y ∧ ((∃ f, y = .error f ∧ x = .error f) ∨ ∃ k s1, y = .ok (k, s1) ∧ putM { kind := 6, at_ := t.at_, op := 18, kids := [k] } s1 = some x)) ∨
       (isT [45] t = false ∧ isT [33] t = false ∧ primaryM c s = some x)) := by
  unfold unaryM at h
  rcases bind_is h with ⟨e, h1, _⟩ | ⟨t, s0, h1, h2⟩
  · obtain ⟨t, r, _, hx⟩ := nextM_inv h1
    cases hx
  · obtain ⟨rfl, r, ht⟩ := nextM_ok (x := .ok (t, s0)) h1
    refine ⟨t, r, ht, ?_⟩
    cases ka : isT [45] t
    · rw [ka] at h2
      simp only [cond_false] at h2
      cases kb : isT [33] t
      · rw [kb] at h2
        exact .inr (.inr ⟨rfl, rfl, h2⟩)
      · rw [kb] at h2
        simp only [cond_true] at h2
        refine .inr (.inl ⟨rfl, rfl, ?_⟩)
        rcases bind_is h2 with ⟨e, h9, hx⟩ | ⟨k, s3, h9, h10⟩
        · exact ⟨_, h9, .inl ⟨e, rfl, hx⟩⟩
        · exact ⟨_, h9, .inr ⟨k, s3, rfl, h10⟩⟩
    · rw [ka] at h2
      simp only [cond_true] at h2
      refine .inl ⟨rfl, ?_⟩
      rcases bind_is h2 with ⟨e, h9, hx⟩ | ⟨k, s3, h9, h10⟩
      · exact ⟨_, h9, .inl ⟨e, rfl, hx⟩⟩
      · exact ⟨_, h9, .inr ⟨k, s3, rfl, h10⟩⟩
set_option maxRecDepth 100000 in
set_option maxHeartbeats 4000000 in
theorem unary_w (N : Nat) (hE : ∀ j, j ≤ N → ExprOK w0 g src fv (lvl j).expr) (hU : UnaryOK w0 g src fv (lvl N).unary) {x : Except Fault (Nat × St)} (hm : unaryM (lvl N) s = some x) (h : Pz w0 g src rs s nv fv W) :
    Calls Tryz.prog 151 #[.pointer (some ⟨g, 0, none⟩)] W fun e W' => Ends w0 g src rs fv W nv (fun k : Nat => .int .i64 (k : Int)) x e W' := by
  obtain ⟨t, r, ht, hcase⟩ := unary_inv hm
  have hmf : ∀ (fn : Fn) (first cap : Array Value) (w : World), (Instr.makeFunc fn first cap).run Tryz.prog w = .ok (.func fn first cap) w := fun _ _ _ _ => rfl
  obtain ⟨rs1, hrs1, hp0, hb0, hm0⟩ := h.new1 #[.pointer (some ⟨g, 0, none⟩)] 70
  have HRS1 := Lib.hid hrs1
  have HN := Lib.hid (next_w ht hp0)
  have HP0 := Lib.hid hp0
  have HQ0 := Lib.hid hb0
  have HM0 := Lib.hid hm0
  have HE := Lib.hid hE
  have HU := Lib.hid hU
  have HC := Lib.hid hcase
  have HT := Lib.hid ht
  have hpb : W.heap.size < (W.alloc (.cells #[.pointer (some ⟨g, 0, none⟩)] 70)).heap.size := by simp
  clear hm h hcase ht hE hU hrs1 hp0 hb0 hm0
  go_enter Tryz.func151, Tryz.ntmps151
  go_wp2_with fail
  refine (HN.out).mono ?_
  generalize W.alloc (.cells #[.pointer (some ⟨g, 0, none⟩)] 70) = w0' at HP0 HQ0 HM0 HN hpb ⊢
  rintro e w1 ⟨rfl, hb1⟩
  have HP1 := Lib.hid (HP0.out.below hb1)
  have HQ1 := Lib.hid (HQ0.out.below hb1)
  have HM1 := Lib.hid (HM0.out.trans (Mv.below hb1))
  have hpb1 : W.heap.size < w1.heap.size := Nat.lt_of_lt_of_le hpb hb1.size
  clear hb1 HP0 HQ0 HM0 HN hpb
  obtain ⟨rs2, hrs2, hp2, hb2, hm2⟩ := HP1.out.new1 (ndC 6 (t.at_ : Int) ⟨#[]⟩ 0 0 0 0 (.slice none 0 0)) 46
  have HRS2 := Lib.hid hrs2
  have HP2 := Lib.hid hp2
  have HB2 := Lib.hid hb2
  have HQ2 : Hid (Bx rs2 (w1.alloc (.cells (ndC 6 (t.at_ : Int) ⟨#[]⟩ 0 0 0 0 (.slice none 0 0)) 46)) W.heap.size #[.pointer (some ⟨g, 0, none⟩)] 70) := ⟨blk_alloc HQ1.out.is _, hrs2 _ HQ1.out.rs⟩
  have HM2 := Lib.hid (HM1.out.trans hm2)
  have npq : W.heap.size ≠ w1.heap.size := by omega
  have hnb : W.heap.size ≤ w1.heap.size := by omega
  have c1 : (w1.alloc (.cells (ndC 6 (t.at_ : Int) ⟨#[]⟩ 0 0 0 0 (.slice none 0 0)) 46)).cell? ⟨W.heap.size, 0, none⟩ = some (.pointer (some ⟨g, 0, none⟩)) := (HQ2.out.cell 0).trans rfl
  clear hrs2 hp2 hb2 hm2
  go_wp2_with fail
  change Calls Tryz.prog 87 _ (w1.alloc (.cells (ndC 6 (t.at_ : Int) ⟨#[]⟩ 0 0 0 0 (.slice none 0 0)) 46)) _
  clear c1
  generalize w1.alloc (.cells (ndC 6 (t.at_ : Int) ⟨#[]⟩ 0 0 0 0 (.slice none 0 0)) 46) = w2 at HP2 HB2 HQ2 HM2 ⊢
  generalize hnbe : w1.heap.size = nb at HB2 npq hnb ⊢
  generalize hpbe : W.heap.size = pb at HQ2 npq ⊢
  have hnb : W.heap.size ≤ nb := by omega
  rcases HC.out with ⟨ka, y, hy, hx⟩ | ⟨ka, kb, y, hy, hx⟩ | ⟨ka, kb, hx⟩
  · refine (is_w [45] true ka HT.out HP2.out).mono ?_
    rintro e w9 ⟨rfl, hb⟩
    have HP9 := Lib.hid (HP2.out.below hb)
    have HB9 := Lib.hid (HB2.out.below hb)
    have HQ9 := Lib.hid (HQ2.out.below hb)
    have HM9 := Lib.hid (HM2.out.trans (Mv.below hb))
    have c1 : w9.cell? ⟨pb, 0, none⟩ = some (.pointer (some ⟨g, 0, none⟩)) := (HQ9.out.cell 0).trans rfl
    clear hb
    have HY := Lib.hid hy
    have HX := Lib.hid hx
    have f4 := HB9.out.frozen 4
    have c4 := (HB9.out.cell 4).trans rfl
    have hp5 := HP9.out.other HB9.out.rs 4 (.int .u8 17)
    have hn5 := HB9.out.set 4 (.int .u8 17) (cs' := ndC 6 (t.at_ : Int) ⟨#[]⟩ 0 17 0 0 (.slice none 0 0)) rfl
    have hb5 := HQ9.out.far npq 4 (.int .u8 17)
    have c1 : (w9.setCell ⟨nb, 4, none⟩ (.int .u8 17)).cell? ⟨pb, 0, none⟩ = some (.pointer (some ⟨g, 0, none⟩)) := (hb5.cell 0).trans rfl
    have HM5 := Lib.hid (Mb.mv (Mv.refl g W nv) hnb ((HM9.out.mb nb).set 4 (.int .u8 17)))
    have hgb : nb ≠ g := HP9.out.ng HB9.out.rs
    have HC := Lib.hid (opened_w nb (KidX w0 g rs2 fv nb 6 (t.at_ : Int) 17) 157 #[.pointer (some ⟨pb, 0, none⟩), .pointer (some ⟨nb, 0, none⟩)] hy hp5 (fun w => by kernel_rfl)
      (fun k nv' W1 u hx => by
        obtain ⟨A, c, h1, h2⟩ := hx
        exact ⟨A, c, blk_far h1 (p := ⟨g, 2, none⟩) hgb u, Kd.R_far (p := ⟨g, 2, none⟩) h2 (fun k hk => hk.1) u⟩)
      (fun W1 y hp1 hm1 hy => unary1_w (lvl N) HU.out hy hp1 pb nb (t.at_ : Int) 17 (Bx.mv hb5 hp5 hm1) (Bx.mv hn5 hp5 hm1) npq))
    have HP5 := Lib.hid hp5
    have HQ5 := Lib.hid hb5
    clear hy hx hp5 hn5 hb5
    go_wp2_with fail
    refine (HC.out).mono ?_
    rcases HX.out with ⟨f, rfl, rfl⟩ | ⟨kk, s1, rfl, hx4⟩
    · rintro e wz ⟨rfl, hb⟩
      have HBz := Lib.hid hb
      clear hb
      go_wp2
      exact ⟨rfl, rfl, HBz.out⟩
    · rintro e w6 ⟨rfl, nv6, hp6, hm6, A, cc, hx6, hr6⟩
      have HX4 := Lib.hid hx4
      have hq6 := HQ5.out.mb HP5.out hm6 npq
      have d1 : w6.cell? ⟨pb, 0, none⟩ = some (.pointer (some ⟨g, 0, none⟩)) := (hq6.cell 0).trans rfl
      have e0 := (blk_cell hx6 0).trans rfl
      have e1 := (blk_cell hx6 1).trans rfl
      have e2 := (blk_cell hx6 2).trans rfl
      have e3 := (blk_cell hx6 3).trans rfl
      have e4 := (blk_cell hx6 4).trans rfl
      have e5 := (blk_cell hx6 5).trans rfl
      have e6 := (blk_cell hx6 6).trans rfl
      have e7 := (blk_cell hx6 7).trans rfl
      have HP6 := Lib.hid hp6
      have HR6 := Lib.hid hr6
      have HM6 := Lib.hid (Mb.mv HM5.out hnb hm6)
      clear hp6 hm6 hx6 hr6 hq6 hx4 c4 f4 c1
      go_wp2_with fail
      refine (put_at { kind := 6, at_ := t.at_, op := 17, kids := [kk] } (.slice A 1 cc) HX4.out 6 _ _ 17 _ _ ⟨#[]⟩ rfl rfl rfl rfl rfl rfl rfl HP6.out HR6.out).mono ?_
      clear d1 e0 e1 e2 e3 e4 e5 e6 e7
      obtain ⟨_, rfl⟩ := putM_inv HX4.out
      rintro e wz ⟨rfl, nvz, hpz, hmz⟩
      have HPz := Lib.hid (hpz.free (fun k hk => HRS2.out k (HRS1.out k hk)))
      have HMz := Lib.hid (HM6.out.trans hmz)
      clear hpz hmz
      go_wp2
      go_ret
      exact ⟨rfl, nvz, HPz.out, HMz.out⟩
  · refine (is_w [45] false ka HT.out HP2.out).mono ?_
    rintro e w3 ⟨rfl, hb⟩
    have HP3 := Lib.hid (HP2.out.below hb)
    have HB3 := Lib.hid (HB2.out.below hb)
    have HQ3 := Lib.hid (HQ2.out.below hb)
    have HM3 := Lib.hid (HM2.out.trans (Mv.below hb))
    have c1 : w3.cell? ⟨pb, 0, none⟩ = some (.pointer (some ⟨g, 0, none⟩)) := (HQ3.out.cell 0).trans rfl
    clear hb
    go_wp2_with fail
    clear c1
    refine (is_w [33] true kb HT.out HP3.out).mono ?_
    rintro e w9 ⟨rfl, hb⟩
    have HP9 := Lib.hid (HP3.out.below hb)
    have HB9 := Lib.hid (HB3.out.below hb)
    have HQ9 := Lib.hid (HQ3.out.below hb)
    have HM9 := Lib.hid (HM3.out.trans (Mv.below hb))
    have c1 : w9.cell? ⟨pb, 0, none⟩ = some (.pointer (some ⟨g, 0, none⟩)) := (HQ9.out.cell 0).trans rfl
    clear hb
    have HY := Lib.hid hy
    have HX := Lib.hid hx
    have f4 := HB9.out.frozen 4
    have c4 := (HB9.out.cell 4).trans rfl
    have hp5 := HP9.out.other HB9.out.rs 4 (.int .u8 18)
    have hn5 := HB9.out.set 4 (.int .u8 18) (cs' := ndC 6 (t.at_ : Int) ⟨#[]⟩ 0 18 0 0 (.slice none 0 0)) rfl
    have hb5 := HQ9.out.far npq 4 (.int .u8 18)
    have c1 : (w9.setCell ⟨nb, 4, none⟩ (.int .u8 18)).cell? ⟨pb, 0, none⟩ = some (.pointer (some ⟨g, 0, none⟩)) := (hb5.cell 0).trans rfl
    have HM5 := Lib.hid (Mb.mv (Mv.refl g W nv) hnb ((HM9.out.mb nb).set 4 (.int .u8 18)))
    have hgb : nb ≠ g := HP9.out.ng HB9.out.rs
    have HC := Lib.hid (opened_w nb (KidX w0 g rs2 fv nb 6 (t.at_ : Int) 18) 157 #[.pointer (some ⟨pb, 0, none⟩), .pointer (some ⟨nb, 0, none⟩)] hy hp5 (fun w => by kernel_rfl)
      (fun k nv' W1 u hx => by
        obtain ⟨A, c, h1, h2⟩ := hx
        exact ⟨A, c, blk_far h1 (p := ⟨g, 2, none⟩) hgb u, Kd.R_far (p := ⟨g, 2, none⟩) h2 (fun k hk => hk.1) u⟩)
      (fun W1 y hp1 hm1 hy => unary1_w (lvl N) HU.out hy hp1 pb nb (t.at_ : Int) 18 (Bx.mv hb5 hp5 hm1) (Bx.mv hn5 hp5 hm1) npq))
    have HP5 := Lib.hid hp5
    have HQ5 := Lib.hid hb5
    clear hy hx hp5 hn5 hb5
    go_wp2_with fail
    refine (HC.out).mono ?_
    rcases HX.out with ⟨f, rfl, rfl⟩ | ⟨kk, s1, rfl, hx4⟩
    · rintro e wz ⟨rfl, hb⟩
      have HBz := Lib.hid hb
      clear hb
      go_wp2
      exact ⟨rfl, rfl, HBz.out⟩
    · rintro e w6 ⟨rfl, nv6, hp6, hm6, A, cc, hx6, hr6⟩
      have HX4 := Lib.hid hx4
      have hq6 := HQ5.out.mb HP5.out hm6 npq
      have d1 : w6.cell? ⟨pb, 0, none⟩ = some (.pointer (some ⟨g, 0, none⟩)) := (hq6.cell 0).trans rfl
      have e0 := (blk_cell hx6 0).trans rfl
      have e1 := (blk_cell hx6 1).trans rfl
      have e2 := (blk_cell hx6 2).trans rfl
      have e3 := (blk_cell hx6 3).trans rfl
      have e4 := (blk_cell hx6 4).trans rfl
      have e5 := (blk_cell hx6 5).trans rfl
      have e6 := (blk_cell hx6 6).trans rfl
      have e7 := (blk_cell hx6 7).trans rfl
      have HP6 := Lib.hid hp6
      have HR6 := Lib.hid hr6
      have HM6 := Lib.hid (Mb.mv HM5.out hnb hm6)
      clear hp6 hm6 hx6 hr6 hq6 hx4 c4 f4 c1
      go_wp2_with fail
      refine (put_at { kind := 6, at_ := t.at_, op := 18, kids := [kk] } (.slice A 1 cc) HX4.out 6 _ _ 18 _ _ ⟨#[]⟩ rfl rfl rfl rfl rfl rfl rfl HP6.out HR6.out).mono ?_
      clear d1 e0 e1 e2 e3 e4 e5 e6 e7
      obtain ⟨_, rfl⟩ := putM_inv HX4.out
      rintro e wz ⟨rfl, nvz, hpz, hmz⟩
      have HPz := Lib.hid (hpz.free (fun k hk => HRS2.out k (HRS1.out k hk)))
      have HMz := Lib.hid (HM6.out.trans hmz)
      clear hpz hmz
      go_wp2
      go_ret
      exact ⟨rfl, nvz, HPz.out, HMz.out⟩
  · refine (is_w [45] false ka HT.out HP2.out).mono ?_
    rintro e w3 ⟨rfl, hb⟩
    have HP3 := Lib.hid (HP2.out.below hb)
    have HB3 := Lib.hid (HB2.out.below hb)
    have HQ3 := Lib.hid (HQ2.out.below hb)
    have HM3 := Lib.hid (HM2.out.trans (Mv.below hb))
    have c1 : w3.cell? ⟨pb, 0, none⟩ = some (.pointer (some ⟨g, 0, none⟩)) := (HQ3.out.cell 0).trans rfl
    clear hb
    go_wp2_with fail
    clear c1
    refine (is_w [33] false kb HT.out HP3.out).mono ?_
    rintro e w9 ⟨rfl, hb⟩
    have HP9 := Lib.hid (HP3.out.below hb)
    have HB9 := Lib.hid (HB3.out.below hb)
    have HQ9 := Lib.hid (HQ3.out.below hb)
    have HM9 := Lib.hid (HM3.out.trans (Mv.below hb))
    have c1 : w9.cell? ⟨pb, 0, none⟩ = some (.pointer (some ⟨g, 0, none⟩)) := (HQ9.out.cell 0).trans rfl
    clear hb
    have HX := Lib.hid hx
    clear hx
    go_wp2_with fail
    clear c1
    refine (primary_w N HE.out HX.out HP9.out).mono ?_
    rcases x with f | ⟨k, s'⟩
    · rintro e wz ⟨rfl, hb⟩
      have HBz := Lib.hid hb
      clear hb
      go_wp2
      exact ⟨rfl, rfl, HBz.out⟩
    · rintro e wz ⟨rfl, nvz, hp, hm⟩
      have HPz := Lib.hid (hp.free (fun k hk => HRS2.out k (HRS1.out k hk)))
      have HMz := Lib.hid (HM9.out.trans hm)
      clear hp hm
      go_wp2
      go_ret
      exact ⟨rfl, nvz, HPz.out, HMz.out⟩
end

end Go.Proofs.YtgplgmjnhkhbjaaGreatDoor
