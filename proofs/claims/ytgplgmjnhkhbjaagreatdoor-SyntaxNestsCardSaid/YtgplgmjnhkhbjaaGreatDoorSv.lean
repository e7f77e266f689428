/-
  The parser's walks, 7: literal, primary, unary.
-/
import Derived.Test.YtgplgmjnhkhbjaaGreatDoorSu
import Derived.Test.YtgplgmjnhkhbjaaGreatDoorCc
import Derived.KernelRfl
import Derived.Test.YtgplgmjnhkhbjaaGreatDoorChecked
set_option linter.unusedVariables false
set_option linter.unusedSimpArgs false
namespace Go.Proofs.YtgplgmjnhkhbjaaGreatDoor
attribute [local go_sem] tok_0 tok_1 tok_2
open Go.RowKit Go.Proofs.YtgplgmjnhkhbjaaGreatDoorW.PrintWords PSameTree PflatTokens Syn

section
open Ce
noncomputable def ceN : Env := ⟨Tryz.prog, tabF Tryz.prog, fun _ => false, fun _ => none, fun _ => none⟩
def outV : Rz → Option Value
  | .out v _ _ => some v
  | _ => none
set_option maxRecDepth 1000000 in
theorem whole1_ok : outV (fZ ceN 12 60 169 [.string ⟨#[49]⟩] .nil 1 Rz.out) = some (.tuple #[.int .u64 1, .int .u8 4, .bool true]) := by kernel_rfl
set_option maxRecDepth 1000000 in
theorem whole2_ok : outV (fZ ceN 12 60 169 [.string ⟨#[50]⟩] .nil 1 Rz.out) = some (.tuple #[.int .u64 2, .int .u8 4, .bool true]) := by kernel_rfl
theorem outV_ev {E : Env} {lf n : Nat} {f : FuncId} {args : List Value} {H : Hp} {c : Nat} {v : Value} (h : outV (fZ E lf n f args H c Rz.out) = some v) : ∃ H' c', evF E lf n f args H c = some (v, H', c') := by
  cases hr : fZ E lf n f args H c Rz.out with
  | out v' H' c' =>
    rw [hr] at h
    injection h with h
    subst h
    exact ⟨H', c', fZ_out E lf n hr⟩
  | _ => rw [hr] at h; cases h
theorem plain_call {f : FuncId} {args : List Value} {v : Value} {lf n : Nat} (ha : args.all (flat 3) = true) (hv : flat 3 v = true) (h : outV (fZ ceN lf n f args .nil 1 Rz.out) = some v) (w : World) :
    Calls Tryz.prog f args.toArray w fun e w' => e = .returned v ∧ Below w.heap.size w w' := by
  obtain ⟨H', c', hev⟩ := outV_ev h
  exact closed_call (E := ceN) (envOK _ _ Tryz.checked.mixed) (fun _ => none) (H := .nil) (c := 1) (fun r => by simp [lk, Tr.get]) (fun g hg => by cases hg) (fun r l t' hr => by cases hr) (fun r hr => rfl) (fun r l t' hr => by cases hr) ha hv hev
theorem whole1_w (w : World) : Calls Tryz.prog 169 #[.string ⟨#[49]⟩] w fun e w' => e = .returned (.tuple #[.int .u64 1, .int .u8 4, .bool true]) ∧ Below w.heap.size w w' := plain_call (args := [.string ⟨#[49]⟩]) rfl rfl whole1_ok w
theorem whole2_w (w : World) : Calls Tryz.prog 169 #[.string ⟨#[50]⟩] w fun e w' => e = .returned (.tuple #[.int .u64 2, .int .u8 4, .bool true]) ∧ Below w.heap.size w w' := plain_call (args := [.string ⟨#[50]⟩]) rfl rfl whole2_ok w
end

section
variable {w0 W : World} {g : Nat} {src : ByteArray} {rs : Nat → Prop} {s : St} {nv fv : Value}

theorem lit_put {n : Nd} {x : Except Fault (Nat × St)} (h : (do stepM; putM n : M Nat) s = some x) : ∃ t t2 r, s.toks = t :: t2 :: r ∧ putM n { s with toks := t2 :: r } = some x := by
  rcases bind_is h with ⟨e, h3, _⟩ | ⟨u, s2, h3, h4⟩
  · obtain ⟨_, _, _, _, hx⟩ := stepM_inv h3
    cases hx
  · obtain ⟨t', t2, r2, ht', hx⟩ := stepM_inv h3
    simp only [Except.ok.injEq, Prod.mk.injEq] at hx
    obtain ⟨_, rfl⟩ := hx
    exact ⟨t', t2, r2, ht', h4⟩
/-- what a literal's token makes -/
theorem literal_inv {x : Except Fault (Nat × St)} (h : literalM s = some x) :
    ∃ t t2 r, s.toks = t :: t2 :: r ∧
      ((t.kind = 4 ∧ t.txt = [49] ∧ putM { kind := 1, at_ := t.at_, bits := 1, typ := 4 } { s with toks := t2 :: r } = some x) ∨
       (t.kind = 4 ∧ t.txt = [50] ∧ putM { kind := 1, at_ := t.at_, bits := 2, typ := 4 } { s with toks := t2 :: r } = some x) ∨
       (t.kind ≠ 4 ∧ t.kind ≠ 5 ∧ putM { kind := 1, at_ := t.at_, typ := 1, bits := bif sameL t.txt kwTrue then 1 else 0 } { s with toks := t2 :: r } = some x)) := by
  unfold literalM at h
  rcases bind_is h with ⟨e, h1, _⟩ | ⟨t, s0, h1, h2⟩
  · obtain ⟨t, r, _, hx⟩ := nextM_inv h1
    cases hx
  · obtain ⟨rfl, r, ht⟩ := nextM_ok (x := .ok (t, s0)) h1
    cases h4 : Nat.beq t.kind 4
    · rw [h4] at h2
      simp only [cond_false] at h2
      cases h5 : Nat.beq t.kind 5
      · rw [h5] at h2
        simp only [cond_false] at h2
        obtain ⟨t', t2, r2, ht', hp⟩ := lit_put h2
        rw [ht] at ht'
        injection ht' with e1 e2
        subst e1
        exact ⟨t, t2, r2, by rw [ht, e2], .inr (.inr ⟨fun e => (by rw [e] at h4; cases h4), fun e => (by rw [e] at h5; cases h5), hp⟩)⟩
      · rw [h5] at h2; cases h2
    · rw [h4] at h2
      simp only [cond_true] at h2
      cases ha : sameL t.txt [49]
      · rw [ha] at h2
        simp only [cond_false] at h2
        cases hb : sameL t.txt [50]
        · rw [hb] at h2; cases h2
        · rw [hb] at h2
          simp only [cond_true] at h2
          obtain ⟨t', t2, r2, ht', hp⟩ := lit_put h2
          rw [ht] at ht'
          injection ht' with e1 e2
          subst e1
          exact ⟨t, t2, r2, by rw [ht, e2], .inr (.inl ⟨Nat.eq_of_beq_eq_true h4, sameL_same.1 hb, hp⟩)⟩
      · rw [ha] at h2
        simp only [cond_true] at h2
        obtain ⟨t', t2, r2, ht', hp⟩ := lit_put h2
        rw [ht] at ht'
        injection ht' with e1 e2
        subst e1
        exact ⟨t, t2, r2, by rw [ht, e2], .inl ⟨Nat.eq_of_beq_eq_true h4, sameL_same.1 ha, hp⟩⟩

/-- a new block, set aside -/
theorem Pz.new1 {w0 W : World} {g : Nat} {src : ByteArray} {rs : Nat → Prop} {s : St} {nv fv : Value} (h : Pz w0 g src rs s nv fv W) (cs : Array Value) (t : TypeId) :
    ∃ rs' : Nat → Prop, (∀ k, rs k → rs' k) ∧ Pz w0 g src rs' s nv fv (W.alloc (.cells cs t)) ∧ Bx rs' (W.alloc (.cells cs t)) W.heap.size cs t ∧ Mv g W nv (W.alloc (.cells cs t)) nv := by
  obtain ⟨hb, i1, hz⟩ := alloc1 W (.cells cs t)
  exact ⟨_, fun k hk => .inl hk, h.resB hb, ⟨i1, .inr ⟨Nat.le_refl _, by rw [hz]; omega⟩⟩, Mv.below hb⟩

set_option maxRecDepth 100000 in
set_option maxHeartbeats 4000000 in
theorem literal_w {x : Except Fault (Nat × St)} (hm : literalM s = some x) (h : Pz w0 g src rs s nv fv W) :
    Calls Tryz.prog 164 #[.pointer (some ⟨g, 0, none⟩)] W fun e W' => Ends w0 g src rs fv W nv (fun k : Nat => .int .i64 (k : Int)) x e W' := by
  obtain ⟨t, t2, r, ht, hcase⟩ := literal_inv hm
  have HN := Lib.hid (next_w ht h)
  have HP := Lib.hid h
  have HC := Lib.hid hcase
  have HT := Lib.hid ht
  clear hm h hcase ht
  go_enter Tryz.func164, Tryz.ntmps164
  go_wp2_with (go_at_call 22; (with_reducible refine (HN.out).mono ?_))
  rintro e w1 ⟨rfl, hb1⟩
  have HP1 := Lib.hid (HP.out.below hb1)
  have HM1 := Lib.hid (Mv.below (g := g) (nv := nv) hb1)
  have hlow1 := hb1.size
  clear hb1
  obtain ⟨rs', hrs, hp2, hb2, hm2⟩ := HP1.out.new1 (ndC 1 (t.at_ : Int) ⟨#[]⟩ 0 0 0 0 (.slice none 0 0)) 46
  have HRS := Lib.hid hrs
  have HP2 := Lib.hid hp2
  have HB2 := Lib.hid hb2
  have HM2 := Lib.hid (HM1.out.trans hm2)
  clear hrs hp2 hb2 hm2
  go_wp2_with fail
  change Calls Tryz.prog 86 _ (w1.alloc (.cells (ndC 1 (t.at_ : Int) ⟨#[]⟩ 0 0 0 0 (.slice none 0 0)) 46)) _
  generalize w1.alloc (.cells (ndC 1 (t.at_ : Int) ⟨#[]⟩ 0 0 0 0 (.slice none 0 0)) 46) = w2 at HP2 HB2 HM2 ⊢
  generalize w1.heap.size = b at HB2 hlow1 ⊢
  refine (text_w HT.out HP2.out).mono ?_
  rintro e w3 ⟨rfl, hb3⟩
  have HP3 := Lib.hid (HP2.out.below hb3)
  have HB3 := Lib.hid (HB2.out.below hb3)
  have HM3 := Lib.hid (HM2.out.trans (Mv.below hb3))
  clear hb3
  go_wp2_with fail
  refine (next_w HT.out HP3.out).mono ?_
  rintro e w4 ⟨rfl, hb4⟩
  have HP4 := Lib.hid (HP3.out.below hb4)
  have HB4 := Lib.hid (HB3.out.below hb4)
  have HM4 := Lib.hid (HM3.out.trans (Mv.below hb4))
  clear hb4
  rcases HC.out with ⟨hk, htx, hx⟩ | ⟨hk, htx, hx⟩ | ⟨hk, hk5, hx⟩
  · have d4 : ((t.kind : Int) == 4) = true := beq_iff_eq.2 (by omega)
    have HX := Lib.hid hx
    rw [htx]
    clear hx hk htx
    go_wp2_with fail
    refine (whole1_w _).mono ?_
    rintro e w5 ⟨rfl, hb5⟩
    have b5 := HB4.out.below hb5
    have hp5 := HP4.out.below hb5
    have HM5 := Lib.hid (HM4.out.trans (Mv.below hb5))
    have c0 := (b5.cell 0).trans rfl
    have c1 := (b5.cell 1).trans rfl
    have c2 := (b5.cell 2).trans rfl
    have c3 := (b5.cell 3).trans rfl
    have c4 := (b5.cell 4).trans rfl
    have c5 := (b5.cell 5).trans rfl
    have c6 := (b5.cell 6).trans rfl
    have c7 := (b5.cell 7).trans rfl
    have f3 := b5.frozen 3
    have f5 := b5.frozen 5
    have hp6 := (hp5.other b5.rs 5 (.int .u64 1)).other b5.rs 3 (.int .u8 4)
    have HMA := Lib.hid (((HM5.out.mb b).set 5 (.int .u64 1)).set 3 (.int .u8 4))
    obtain ⟨tb, tq, tc, k1, kf, kc, hp7, hm7⟩ := hp6.step HT.out
    have HP7 := Lib.hid hp7
    have HMZ := Lib.hid (Mb.mv (Mv.refl g W nv) hlow1 (HMA.out.trans (hm7.mb b)))
    have hgb : g ≠ b := fun e => hp5.ng b5.rs e.symm
    have k1' : w5.cell? ⟨g, 1, none⟩ = some (.slice (some ⟨tb, tq, none⟩) (r.length + 2) tc) := by
      rw [← k1]; simp [go_sem, hgb, Ne.symm hgb]
    have kf' : w5.frozen? ⟨g, 1, none⟩ = false := by
      rw [← kf]; simp [go_sem]
    clear hp5 hp6 hb5 b5 hp7 hm7 k1 kf
    go_wp2_with fail
    refine (put_at { kind := 1, at_ := t.at_, bits := 1, typ := 4 } (.slice none 0 0) HX.out 1 _ 4 _ 1 _ ⟨#[]⟩ rfl rfl rfl rfl rfl rfl rfl HP7.out (Kd.R_nil _ _ _ _ _)).mono ?_
    clear c0 c1 c2 c3 c4 c5 c6 c7 f3 f5 k1' kf'
    obtain ⟨_, rfl⟩ := putM_inv HX.out
    rintro e w8 ⟨rfl, nv8, hp8, hm8⟩
    have HP8 := Lib.hid (hp8.free HRS.out)
    have HM8 := Lib.hid (HMZ.out.trans hm8)
    clear hp8 hm8
    go_wp2
    go_ret
    exact ⟨rfl, nv8, HP8.out, HM8.out⟩
  · have d4 : ((t.kind : Int) == 4) = true := beq_iff_eq.2 (by omega)
    have HX := Lib.hid hx
    rw [htx]
    clear hx hk htx
    go_wp2_with fail
    refine (whole2_w _).mono ?_
    rintro e w5 ⟨rfl, hb5⟩
    have b5 := HB4.out.below hb5
    have hp5 := HP4.out.below hb5
    have HM5 := Lib.hid (HM4.out.trans (Mv.below hb5))
    have c0 := (b5.cell 0).trans rfl
    have c1 := (b5.cell 1).trans rfl
    have c2 := (b5.cell 2).trans rfl
    have c3 := (b5.cell 3).trans rfl
    have c4 := (b5.cell 4).trans rfl
    have c5 := (b5.cell 5).trans rfl
    have c6 := (b5.cell 6).trans rfl
    have c7 := (b5.cell 7).trans rfl
    have f3 := b5.frozen 3
    have f5 := b5.frozen 5
    have hp6 := (hp5.other b5.rs 5 (.int .u64 2)).other b5.rs 3 (.int .u8 4)
    have HMA := Lib.hid (((HM5.out.mb b).set 5 (.int .u64 2)).set 3 (.int .u8 4))
    obtain ⟨tb, tq, tc, k1, kf, kc, hp7, hm7⟩ := hp6.step HT.out
    have HP7 := Lib.hid hp7
    have HMZ := Lib.hid (Mb.mv (Mv.refl g W nv) hlow1 (HMA.out.trans (hm7.mb b)))
    have hgb : g ≠ b := fun e => hp5.ng b5.rs e.symm
    have k1' : w5.cell? ⟨g, 1, none⟩ = some (.slice (some ⟨tb, tq, none⟩) (r.length + 2) tc) := by
      rw [← k1]; simp [go_sem, hgb, Ne.symm hgb]
    have kf' : w5.frozen? ⟨g, 1, none⟩ = false := by
      rw [← kf]; simp [go_sem]
    clear hp5 hp6 hb5 b5 hp7 hm7 k1 kf
    go_wp2_with fail
    refine (put_at { kind := 1, at_ := t.at_, bits := 2, typ := 4 } (.slice none 0 0) HX.out 1 _ 4 _ 2 _ ⟨#[]⟩ rfl rfl rfl rfl rfl rfl rfl HP7.out (Kd.R_nil _ _ _ _ _)).mono ?_
    clear c0 c1 c2 c3 c4 c5 c6 c7 f3 f5 k1' kf'
    obtain ⟨_, rfl⟩ := putM_inv HX.out
    rintro e w8 ⟨rfl, nv8, hp8, hm8⟩
    have HP8 := Lib.hid (hp8.free HRS.out)
    have HM8 := Lib.hid (HMZ.out.trans hm8)
    clear hp8 hm8
    go_wp2
    go_ret
    exact ⟨rfl, nv8, HP8.out, HM8.out⟩
  · have d4 : ((t.kind : Int) == 4) = false := beq_eq_false_iff_ne.2 (by omega)
    have d5 : ((t.kind : Int) == 5) = false := beq_eq_false_iff_ne.2 (by omega)
    clear hk hk5
    cases htr : sameL t.txt kwTrue
    · rw [show (bif sameL t.txt kwTrue then 1 else 0) = 0 from by rw [htr]; rfl] at hx
      have HX := Lib.hid hx
      have htr' : (t.txt == [116, 114, 117, 101]) = false := by rw [← sameL_beq]; exact htr
      have htr2 : ¬ (t.txt = [116, 114, 117, 101]) := beq_eq_false_iff_ne.1 htr'
      clear hx
      go_wp2_with fail
      refine (next_w HT.out HP4.out).mono ?_
      rintro e w5 ⟨rfl, hb5⟩
      have b5 := HB4.out.below hb5
      have hp5 := HP4.out.below hb5
      have HM5 := Lib.hid (HM4.out.trans (Mv.below hb5))
      have c0 := (b5.cell 0).trans rfl
      have c1 := (b5.cell 1).trans rfl
      have c2 := (b5.cell 2).trans rfl
      have c3 := (b5.cell 3).trans rfl
      have c4 := (b5.cell 4).trans rfl
      have c5 := (b5.cell 5).trans rfl
      have c6 := (b5.cell 6).trans rfl
      have c7 := (b5.cell 7).trans rfl
      have f3 := b5.frozen 3
      have f5 := b5.frozen 5
      have hp6 := (hp5.other b5.rs 3 (.int .u8 1))
      have HMA := Lib.hid ((HM5.out.mb b).set 3 (.int .u8 1))
      obtain ⟨tb, tq, tc, k1, kf, kc, hp7, hm7⟩ := hp6.step HT.out
      have HP7 := Lib.hid hp7
      have HMZ := Lib.hid (Mb.mv (Mv.refl g W nv) hlow1 (HMA.out.trans (hm7.mb b)))
      have hgb : g ≠ b := fun e => hp5.ng b5.rs e.symm
      have k1' : w5.cell? ⟨g, 1, none⟩ = some (.slice (some ⟨tb, tq, none⟩) (r.length + 2) tc) := by
        rw [← k1]; simp [go_sem, hgb, Ne.symm hgb]
      have kf' : w5.frozen? ⟨g, 1, none⟩ = false := by
        rw [← kf]; simp [go_sem]
      clear hp5 hp6 hb5 b5 hp7 hm7 k1 kf
      go_wp2_with fail
      refine (put_at { kind := 1, at_ := t.at_, typ := 1, bits := 0 } (.slice none 0 0) HX.out 1 _ 1 _ 0 _ ⟨#[]⟩ rfl rfl rfl rfl rfl rfl rfl HP7.out (Kd.R_nil _ _ _ _ _)).mono ?_
      clear c0 c1 c2 c3 c4 c5 c6 c7 f3 f5 k1' kf'
      obtain ⟨_, rfl⟩ := putM_inv HX.out
      rintro e w8 ⟨rfl, nv8, hp8, hm8⟩
      have HP8 := Lib.hid (hp8.free HRS.out)
      have HM8 := Lib.hid (HMZ.out.trans hm8)
      clear hp8 hm8
      go_wp2
      go_ret
      exact ⟨rfl, nv8, HP8.out, HM8.out⟩
    · rw [show (bif sameL t.txt kwTrue then 1 else 0) = 1 from by rw [htr]; rfl] at hx
      have HX := Lib.hid hx
      have htr' : (t.txt == [116, 114, 117, 101]) = true := by rw [← sameL_beq]; exact htr
      have htr2 : t.txt = [116, 114, 117, 101] := beq_iff_eq.1 htr'
      clear hx
      go_wp2_with fail
      refine (next_w HT.out HP4.out).mono ?_
      rintro e w5 ⟨rfl, hb5⟩
      have b5 := HB4.out.below hb5
      have hp5 := HP4.out.below hb5
      have HM5 := Lib.hid (HM4.out.trans (Mv.below hb5))
      have c0 := (b5.cell 0).trans rfl
      have c1 := (b5.cell 1).trans rfl
      have c2 := (b5.cell 2).trans rfl
      have c3 := (b5.cell 3).trans rfl
      have c4 := (b5.cell 4).trans rfl
      have c5 := (b5.cell 5).trans rfl
      have c6 := (b5.cell 6).trans rfl
      have c7 := (b5.cell 7).trans rfl
      have f3 := b5.frozen 3
      have f5 := b5.frozen 5
      have hp6 := ((hp5.other b5.rs 3 (.int .u8 1)).other b5.rs 5 (.int .u64 1))
      have HMA := Lib.hid (((HM5.out.mb b).set 3 (.int .u8 1)).set 5 (.int .u64 1))
      obtain ⟨tb, tq, tc, k1, kf, kc, hp7, hm7⟩ := hp6.step HT.out
      have HP7 := Lib.hid hp7
      have HMZ := Lib.hid (Mb.mv (Mv.refl g W nv) hlow1 (HMA.out.trans (hm7.mb b)))
      have hgb : g ≠ b := fun e => hp5.ng b5.rs e.symm
      have k1' : w5.cell? ⟨g, 1, none⟩ = some (.slice (some ⟨tb, tq, none⟩) (r.length + 2) tc) := by
        rw [← k1]; simp [go_sem, hgb, Ne.symm hgb]
      have kf' : w5.frozen? ⟨g, 1, none⟩ = false := by
        rw [← kf]; simp [go_sem]
      clear hp5 hp6 hb5 b5 hp7 hm7 k1 kf
      go_wp2_with fail
      refine (put_at { kind := 1, at_ := t.at_, typ := 1, bits := 1 } (.slice none 0 0) HX.out 1 _ 1 _ 1 _ ⟨#[]⟩ rfl rfl rfl rfl rfl rfl rfl HP7.out (Kd.R_nil _ _ _ _ _)).mono ?_
      clear c0 c1 c2 c3 c4 c5 c6 c7 f3 f5 k1' kf'
      obtain ⟨_, rfl⟩ := putM_inv HX.out
      rintro e w8 ⟨rfl, nv8, hp8, hm8⟩
      have HP8 := Lib.hid (hp8.free HRS.out)
      have HM8 := Lib.hid (HMZ.out.trans hm8)
      clear hp8 hm8
      go_wp2
      go_ret
      exact ⟨rfl, nv8, HP8.out, HM8.out⟩
end

end Go.Proofs.YtgplgmjnhkhbjaaGreatDoor
