/-
  The parser's walks, 8: primary, unary.
-/
import Derived.Test.YtgplgmjnhkhbjaaGreatDoorSv
set_option linter.unusedVariables false
set_option linter.unusedSimpArgs false
namespace Go.Proofs.YtgplgmjnhkhbjaaGreatDoor
attribute [local go_sem] tok_0 tok_1 tok_2
open Go.RowKit Go.Proofs.YtgplgmjnhkhbjaaGreatDoorW.PrintWords PSameTree PflatTokens Syn

section
variable {w0 W : World} {g : Nat} {src : ByteArray} {rs : Nat → Prop} {s : St} {nv fv : Value}

theorem primary_inv {c : Cs} {x : Except Fault (Nat × St)} (h : primaryM c s = some x) :
    ∃ t r, s.toks = t :: r ∧
      ((t.kind = 2 ∧ namedM c s = some x) ∨
       (t.kind ≠ 2 ∧ (t.kind = 4 ∨ t.kind = 5 ∨ isT kwTrue t = true ∨ isT kwFalse t = true) ∧ literalM s = some x) ∨
       (t.kind ≠ 2 ∧ t.kind ≠ 4 ∧ t.kind ≠ 5 ∧ isT kwTrue t = false ∧ isT kwFalse t = false ∧ isT [40] t = true ∧ innerM c [40] [41] s = some x) ∨
       (t.kind ≠ 2 ∧ t.kind ≠ 4 ∧ t.kind ≠ 5 ∧ isT kwTrue t = false ∧ isT kwFalse t = false ∧ isT [40] t = false ∧ ∃ y, typM s = some y ∧ ((∃ f, y = .error f ∧ x = .error f) ∨ ∃ ty s1, y = .ok (ty, s1) ∧ ∃ t1 r1, s1.toks = t1 :: r1 ∧
          ((isT [40] t1 = false ∧ x = .error (130, t1.at_)) ∨ (isT [40] t1 = true ∧ ∃ z, innerM c [40] [41] s1 = some z ∧ ((∃ f, z = .error f ∧ x = .error f) ∨ ∃ k s2, z = .ok (k, s2) ∧ putM { kind := 5, at_ := t.at_, typ := ty, kids := [k] } s2 = some x)))))) := by
  unfold primaryM at h
  rcases bind_is h with ⟨e, h1, _⟩ | ⟨t, s0, h1, h2⟩
  · obtain ⟨t, r, _, hx⟩ := nextM_inv h1
    cases hx
  · obtain ⟨rfl, r, ht⟩ := nextM_ok (x := .ok (t, s0)) h1
    refine ⟨t, r, ht, ?_⟩
    cases k2 : Nat.beq t.kind 2
    · have n2 : t.kind ≠ 2 := fun e => by rw [e] at k2; cases k2
      rw [k2] at h2
      simp only [cond_false] at h2
      cases k4 : Nat.beq t.kind 4
      · have n4 : t.kind ≠ 4 := fun e => by rw [e] at k4; cases k4
        cases k5 : Nat.beq t.kind 5
        · have n5 : t.kind ≠ 5 := fun e => by rw [e] at k5; cases k5
          cases ktr : isT kwTrue t
          · cases kfa : isT kwFalse t
            · rw [k4, k5, ktr, kfa] at h2
              simp only [Bool.or_self, cond_false] at h2
              cases kp : isT [40] t
              · rw [kp] at h2
                simp only [cond_false] at h2
                refine .inr (.inr (.inr ⟨n2, n4, n5, rfl, rfl, rfl, ?_⟩))
                rcases bind_is h2 with ⟨e, h3, hx⟩ | ⟨ty, s1, h3, h4⟩
                · exact ⟨_, h3, .inl ⟨e, rfl, hx⟩⟩
                · refine ⟨_, h3, .inr ⟨ty, s1, rfl, ?_⟩⟩
                  rcases bind_is h4 with ⟨e, h5, _⟩ | ⟨b, s2, h5, h6⟩
                  · obtain ⟨t, r, _, hx⟩ := isM_inv h5
                    cases hx
                  · obtain ⟨t1, r1, ht1, hx⟩ := isM_inv h5
                    simp only [Except.ok.injEq, Prod.mk.injEq] at hx
                    obtain ⟨rfl, rfl⟩ := hx
                    refine ⟨t1, r1, ht1, ?_⟩
                    cases kq : isT [40] t1
                    · rw [kq] at h6
                      obtain ⟨t', r', ht', hx'⟩ := failM_inv h6
                      rw [ht1] at ht'
                      injection ht' with e1 e2
                      subst e1
                      exact .inl ⟨rfl, hx'⟩
                    · rw [kq] at h6
                      simp only [cond_true] at h6
                      right
                      refine ⟨rfl, ?_⟩
                      rcases bind_is h6 with ⟨e, h9, hx⟩ | ⟨k, s3, h9, h10⟩
                      · exact ⟨_, h9, .inl ⟨e, rfl, hx⟩⟩
                      · exact ⟨_, h9, .inr ⟨k, s3, rfl, h10⟩⟩
              · rw [kp] at h2
                exact .inr (.inr (.inl ⟨n2, n4, n5, rfl, rfl, rfl, h2⟩))
            · rw [k4, k5, ktr, kfa] at h2
              exact .inr (.inl ⟨n2, .inr (.inr (.inr rfl)), h2⟩)
          · rw [k4, k5, ktr] at h2
            exact .inr (.inl ⟨n2, .inr (.inr (.inl rfl)), h2⟩)
        · rw [k4, k5] at h2
          exact .inr (.inl ⟨n2, .inr (.inl (Nat.eq_of_beq_eq_true k5)), h2⟩)
      · rw [k4] at h2
        exact .inr (.inl ⟨n2, .inl (Nat.eq_of_beq_eq_true k4), h2⟩)
    · rw [k2] at h2
      exact .inl ⟨Nat.eq_of_beq_eq_true k2, h2⟩

set_option maxRecDepth 100000 in
set_option maxHeartbeats 4000000 in
theorem primary_w (N : Nat) (hE : ∀ j, j ≤ N → ExprOK w0 g src fv (lvl j).expr) {x : Except Fault (Nat × St)} (hm : primaryM (lvl N) s = some x) (h : Pz w0 g src rs s nv fv W) :
    Calls Tryz.prog 156 #[.pointer (some ⟨g, 0, none⟩)] W fun e W' => Ends w0 g src rs fv W nv (fun k : Nat => .int .i64 (k : Int)) x e W' := by
  obtain ⟨t, r, ht, hcase⟩ := primary_inv hm
  have HN := Lib.hid (next_w ht h)
  have HP := Lib.hid h
  have HE := Lib.hid hE
  have HC := Lib.hid hcase
  have HT := Lib.hid ht
  clear hm h hcase ht hE
  go_enter Tryz.func156, Tryz.ntmps156
  go_wp2_with (go_at_call 22; (with_reducible refine (HN.out).mono ?_))
  rintro e w1 ⟨rfl, hb1⟩
  have HP1 := Lib.hid (HP.out.below hb1)
  have HM1 := Lib.hid (Mv.below (g := g) (nv := nv) hb1)
  clear hb1
  rcases HC.out with ⟨k2, hx⟩ | ⟨k2, hl, hx⟩ | ⟨k2, k4, k5, ktr, kfa, kp, hx⟩ | ⟨k2, k4, k5, ktr, kfa, kp, y, hy, hx⟩
  · have d2 : ((t.kind : Int) == 2) = true := beq_iff_eq.2 (by omega)
    have HX := Lib.hid hx
    clear hx k2
    go_wp2_with fail
    refine (named_w N HE.out HX.out HP1.out).mono ?_
    rcases x with f | ⟨k, s'⟩
    · rintro e wz ⟨rfl, hb⟩
      have HBz := Lib.hid hb
      clear hb
      go_wp2
      exact ⟨rfl, rfl, HBz.out⟩
    · rintro e wz ⟨rfl, nvz, hp, hm⟩
      have HPz := Lib.hid hp
      have HMz := Lib.hid (HM1.out.trans hm)
      clear hp hm
      go_wp2
      go_ret
      exact ⟨rfl, nvz, HPz.out, HMz.out⟩
  · have d2 : ((t.kind : Int) == 2) = false := beq_eq_false_iff_ne.2 (by omega)
    have HX := Lib.hid hx
    have HL := Lib.hid hl
    clear hx k2 hl
    by_cases k4 : t.kind = 4
    · have d4 : ((t.kind : Int) == 4) = true := beq_iff_eq.2 (by omega)
      go_wp2_with fail
      refine (literal_w HX.out HP1.out).mono ?_
      rcases x with f | ⟨k, s'⟩
      · rintro e wz ⟨rfl, hb⟩
        have HBz := Lib.hid hb
        clear hb
        go_wp2
        exact ⟨rfl, rfl, HBz.out⟩
      · rintro e wz ⟨rfl, nvz, hp, hm⟩
        have HPz := Lib.hid hp
        have HMz := Lib.hid (HM1.out.trans hm)
        clear hp hm
        go_wp2
        go_ret
        exact ⟨rfl, nvz, HPz.out, HMz.out⟩
    · have d4 : ((t.kind : Int) == 4) = false := beq_eq_false_iff_ne.2 (by omega)
      by_cases k5 : t.kind = 5
      · have d5 : ((t.kind : Int) == 5) = true := beq_iff_eq.2 (by omega)
        go_wp2_with fail
        refine (literal_w HX.out HP1.out).mono ?_
        rcases x with f | ⟨k, s'⟩
        · rintro e wz ⟨rfl, hb⟩
          have HBz := Lib.hid hb
          clear hb
          go_wp2
          exact ⟨rfl, rfl, HBz.out⟩
        · rintro e wz ⟨rfl, nvz, hp, hm⟩
          have HPz := Lib.hid hp
          have HMz := Lib.hid (HM1.out.trans hm)
          clear hp hm
          go_wp2
          go_ret
          exact ⟨rfl, nvz, HPz.out, HMz.out⟩
      · have d5 : ((t.kind : Int) == 5) = false := beq_eq_false_iff_ne.2 (by omega)
        go_wp2_with fail
        obtain ⟨bt, hbt⟩ : ∃ b, isT kwTrue t = b := ⟨_, rfl⟩
        refine (is_w kwTrue bt hbt HT.out HP1.out).mono ?_
        rintro e w2 ⟨rfl, hb⟩
        have HP2 := Lib.hid (HP1.out.below hb)
        have HM2 := Lib.hid (HM1.out.trans (Mv.below hb))
        clear hb
        cases bt
        · have hfa : isT kwFalse t = true := by
            rcases HL.out with h | h | h | h
            · exact absurd h k4
            · exact absurd h k5
            · rw [hbt] at h; cases h
            · exact h
          go_wp2_with fail
          refine (is_w kwFalse true hfa HT.out HP2.out).mono ?_
          rintro e w3 ⟨rfl, hb⟩
          have HP3 := Lib.hid (HP2.out.below hb)
          have HM3 := Lib.hid (HM2.out.trans (Mv.below hb))
          clear hb
          go_wp2_with fail
          refine (literal_w HX.out HP3.out).mono ?_
          rcases x with f | ⟨k, s'⟩
          · rintro e wz ⟨rfl, hb⟩
            have HBz := Lib.hid hb
            clear hb
            go_wp2
            exact ⟨rfl, rfl, HBz.out⟩
          · rintro e wz ⟨rfl, nvz, hp, hm⟩
            have HPz := Lib.hid hp
            have HMz := Lib.hid (HM3.out.trans hm)
            clear hp hm
            go_wp2
            go_ret
            exact ⟨rfl, nvz, HPz.out, HMz.out⟩
        · go_wp2_with fail
          refine (literal_w HX.out HP2.out).mono ?_
          rcases x with f | ⟨k, s'⟩
          · rintro e wz ⟨rfl, hb⟩
            have HBz := Lib.hid hb
            clear hb
            go_wp2
            exact ⟨rfl, rfl, HBz.out⟩
          · rintro e wz ⟨rfl, nvz, hp, hm⟩
            have HPz := Lib.hid hp
            have HMz := Lib.hid (HM2.out.trans hm)
            clear hp hm
            go_wp2
            go_ret
            exact ⟨rfl, nvz, HPz.out, HMz.out⟩
  · have d2 : ((t.kind : Int) == 2) = false := beq_eq_false_iff_ne.2 (by omega)
    have d4 : ((t.kind : Int) == 4) = false := beq_eq_false_iff_ne.2 (by omega)
    have d5 : ((t.kind : Int) == 5) = false := beq_eq_false_iff_ne.2 (by omega)
    have HX := Lib.hid hx
    have KT := Lib.hid ktr
    have KF := Lib.hid kfa
    have KP := Lib.hid kp
    clear hx k2 k4 k5 ktr kfa kp
    go_wp2_with fail
    refine (is_w kwTrue false KT.out HT.out HP1.out).mono ?_
    rintro e w2 ⟨rfl, hb⟩
    have HP2 := Lib.hid (HP1.out.below hb)
    have HM2 := Lib.hid (HM1.out.trans (Mv.below hb))
    clear hb
    go_wp2_with fail
    refine (is_w kwFalse false KF.out HT.out HP2.out).mono ?_
    rintro e w3 ⟨rfl, hb⟩
    have HP3 := Lib.hid (HP2.out.below hb)
    have HM3 := Lib.hid (HM2.out.trans (Mv.below hb))
    clear hb
    go_wp2_with fail
    refine (is_w [40] true KP.out HT.out HP3.out).mono ?_
    rintro e w4 ⟨rfl, hb⟩
    have HP4 := Lib.hid (HP3.out.below hb)
    have HM4 := Lib.hid (HM3.out.trans (Mv.below hb))
    clear hb
    go_wp2_with fail
    refine (inner_w (HE.out N (Nat.le_refl _)) [40] [41] HX.out HP4.out).mono ?_
    rcases x with f | ⟨k, s'⟩
    · rintro e wz ⟨rfl, hb⟩
      have HBz := Lib.hid hb
      clear hb
      go_wp2
      exact ⟨rfl, rfl, HBz.out⟩
    · rintro e wz ⟨rfl, nvz, hp, hm⟩
      have HPz := Lib.hid hp
      have HMz := Lib.hid (HM4.out.trans hm)
      clear hp hm
      go_wp2
      go_ret
      exact ⟨rfl, nvz, HPz.out, HMz.out⟩
  · have d2 : ((t.kind : Int) == 2) = false := beq_eq_false_iff_ne.2 (by omega)
    have d4 : ((t.kind : Int) == 4) = false := beq_eq_false_iff_ne.2 (by omega)
    have d5 : ((t.kind : Int) == 5) = false := beq_eq_false_iff_ne.2 (by omega)
    have HX := Lib.hid hx
    have KT := Lib.hid ktr
    have KF := Lib.hid kfa
    have KP := Lib.hid kp
    have HY := Lib.hid hy
    clear hy hx k2 k4 k5 ktr kfa kp
    go_wp2_with fail
    refine (is_w kwTrue false KT.out HT.out HP1.out).mono ?_
    rintro e w2 ⟨rfl, hb⟩
    have HP2 := Lib.hid (HP1.out.below hb)
    have HM2 := Lib.hid (HM1.out.trans (Mv.below hb))
    clear hb
    go_wp2_with fail
    refine (is_w kwFalse false KF.out HT.out HP2.out).mono ?_
    rintro e w3 ⟨rfl, hb⟩
    have HP3 := Lib.hid (HP2.out.below hb)
    have HM3 := Lib.hid (HM2.out.trans (Mv.below hb))
    clear hb
    go_wp2_with fail
    refine (is_w [40] false KP.out HT.out HP3.out).mono ?_
    rintro e w4 ⟨rfl, hb⟩
    have HP4 := Lib.hid (HP3.out.below hb)
    have HM4 := Lib.hid (HM3.out.trans (Mv.below hb))
    clear hb
    go_wp2_with fail
    refine (next_w HT.out HP4.out).mono ?_
    rintro e w5 ⟨rfl, hb⟩
    have HP5 := Lib.hid (HP4.out.below hb)
    have HM5 := Lib.hid (HM4.out.trans (Mv.below hb))
    clear hb
    go_wp2_with fail
    refine (typ_w HY.out HP5.out).mono ?_
    rcases HX.out with ⟨f, rfl, rfl⟩ | ⟨ty, s1, rfl, t1, r1, ht1, hx2⟩
    · rintro e wz ⟨rfl, hb⟩
      have HBz := Lib.hid hb
      clear hb
      go_wp2
      exact ⟨rfl, rfl, HBz.out⟩
    · rintro e w6 ⟨rfl, nv6, hp6, hm6⟩
      have HP6 := Lib.hid hp6
      have HM6 := Lib.hid (HM5.out.trans hm6)
      have HX2 := Lib.hid hx2
      have HT1 := Lib.hid ht1
      have hlow6 : W.heap.size ≤ w6.heap.size := HM6.out.kp.1
      clear hp6 hm6 hx2 ht1
      obtain ⟨rs', hrs, hp7, hb7, hm7⟩ := HP6.out.new1 (ndC 5 (t.at_ : Int) ⟨#[]⟩ (ty : Int) 0 0 0 (.slice none 0 0)) 46
      have HRS := Lib.hid hrs
      have HP7 := Lib.hid hp7
      have HB7 := Lib.hid hb7
      have HM7 := Lib.hid (HM6.out.trans hm7)
      clear hrs hp7 hb7 hm7
      go_wp2_with fail
      change Calls Tryz.prog 87 _ (w6.alloc (.cells (ndC 5 (t.at_ : Int) ⟨#[]⟩ (ty : Int) 0 0 0 (.slice none 0 0)) 46)) _
      generalize w6.alloc (.cells (ndC 5 (t.at_ : Int) ⟨#[]⟩ (ty : Int) 0 0 0 (.slice none 0 0)) 46) = w7 at HP7 HB7 HM7 ⊢
      generalize w6.heap.size = b at HB7 hlow6 ⊢
      rcases HX2.out with ⟨kq, rfl⟩ | ⟨kq, z, hz, hx3⟩
      · refine (is_w [40] false kq HT1.out HP7.out).mono ?_
        rintro e w8 ⟨rfl, hb⟩
        have HP8 := Lib.hid (HP7.out.below hb)
        clear hb
        go_wp2_with fail
        refine (fail_w 130 130 rfl HT1.out HP8.out).mono ?_
        rintro e w9 ⟨rfl, hb9⟩
        go_wp2
        exact ⟨rfl, rfl, Below.trans HP8.out.bel (Below.mono hb9 HP8.out.low)⟩
      · refine (is_w [40] true kq HT1.out HP7.out).mono ?_
        rintro e w8 ⟨rfl, hb⟩
        have HP8 := Lib.hid (HP7.out.below hb)
        have HB8 := Lib.hid (HB7.out.below hb)
        have HM8 := Lib.hid (HM7.out.trans (Mv.below hb))
        have HZ := Lib.hid hz
        have HX3 := Lib.hid hx3
        clear hb hz hx3 kq
        go_wp2_with fail
        refine (inner_w (HE.out N (Nat.le_refl _)) [40] [41] HZ.out HP8.out).mono ?_
        rcases HX3.out with ⟨f, rfl, rfl⟩ | ⟨kk, s2, rfl, hx4⟩
        · rintro e wz ⟨rfl, hb⟩
          have HBz := Lib.hid hb
          clear hb
          go_wp2
          exact ⟨rfl, rfl, HBz.out⟩
        · rintro e w9 ⟨rfl, nv9, hp9, hm9⟩
          have b9 := HB8.out.mv HP8.out hm9
          have HM9 := Lib.hid (HM8.out.trans hm9)
          have HX4 := Lib.hid hx4
          have c0 := (b9.cell 0).trans rfl
          have c1 := (b9.cell 1).trans rfl
          have c2 := (b9.cell 2).trans rfl
          have c3 := (b9.cell 3).trans rfl
          have c4 := (b9.cell 4).trans rfl
          have c5 := (b9.cell 5).trans rfl
          have c6 := (b9.cell 6).trans rfl
          have c7 := (b9.cell 7).trans rfl
          have f7 := b9.frozen 7
          have hbl := b9.lt
          have p6 := hp9.other b9.rs 7 (.slice (some ⟨w9.heap.size, 0, none⟩) 1 1)
          obtain ⟨hba, hr5⟩ := p6.kid1 kk (w9.heap.size) (by simp [World.setCell])
          have HPA := Lib.hid (p6.below hba)
          have HR := Lib.hid hr5
          have HMZ := Lib.hid (((Mb.mv (Mv.refl g W nv) hlow6 ((HM9.out.mb b).set 7 (.slice (some ⟨w9.heap.size, 0, none⟩) 1 1))).trans (Mv.below hba)))
          clear hp9 hm9 hr5 b9 hx4 p6 hba
          go_wp2_with fail
          refine (put_at { kind := 5, at_ := t.at_, typ := ty, kids := [kk] } (.slice (some ⟨w9.heap.size, 0, none⟩) 1 1) HX4.out 5 _ _ _ _ _ _ rfl rfl rfl rfl rfl rfl rfl HPA.out HR.out).mono ?_
          clear c0 c1 c2 c3 c4 c5 c6 c7 f7
          obtain ⟨_, rfl⟩ := putM_inv HX4.out
          rintro e wz ⟨rfl, nvz, hpz, hmz⟩
          have HPz := Lib.hid (hpz.free HRS.out)
          have HMz := Lib.hid (HMZ.out.trans hmz)
          clear hpz hmz
          go_wp2
          go_ret
          exact ⟨rfl, nvz, HPz.out, HMz.out⟩
end

end Go.Proofs.YtgplgmjnhkhbjaaGreatDoor
