/-
  The parser's walks, 16: stmt. (printed by gen_stmt.py)
-/
import Derived.Test.YtgplgmjnhkhbjaaGreatDoorTd
set_option linter.unusedVariables false
set_option linter.unusedSimpArgs false
namespace Go.Proofs.YtgplgmjnhkhbjaaGreatDoor
attribute [local go_sem] tok_0 tok_1 tok_2
open Go.RowKit Go.Proofs.YtgplgmjnhkhbjaaGreatDoorW.PrintWords PSameTree PflatTokens Syn

theorem got_step {α : Type} {s : St} {t : Tok} {r : List Tok} {l : List UInt8} {k : Bool → M α} {x : Except Fault (α × St)} (ht : s.toks = t :: r) (h : (do let b ← gotM l; k b : M α) s = some x) :
    (isT l t = false ∧ k false s = some x) ∨ (isT l t = true ∧ ∃ s1, gotM l s = some (.ok (true, s1)) ∧ k true s1 = some x) := by
  rcases bind_is h with ⟨e, h1, _⟩ | ⟨b, s1, h1, h2⟩
  · obtain ⟨t, r, _, hx⟩ := gotM_inv h1
    rcases hx with ⟨_, hx⟩ | ⟨_, _, _, _, hx⟩ <;> cases hx
  · obtain ⟨t', r', ht', hx⟩ := gotM_inv h1
    rw [ht] at ht'
    injection ht' with e1 e2
    subst e1
    rcases hx with ⟨hb, hx⟩ | ⟨hb, t2, r2, _, hx⟩
    · simp only [Except.ok.injEq, Prod.mk.injEq] at hx
      obtain ⟨rfl, rfl⟩ := hx
      exact .inl ⟨hb, h2⟩
    · simp only [Except.ok.injEq, Prod.mk.injEq] at hx
      obtain ⟨rfl, hs⟩ := hx
      exact .inr ⟨hb, s1, h1, h2⟩

/-- the end of a statement -/
def EndS (n : Nd) (s : St) (x : Except Fault (Nat × St)) : Prop :=
  ∃ z, wantM [59] s = some z ∧ ((∃ f, z = .error f ∧ x = .error f) ∨ ∃ s2, z = .ok ((), s2) ∧ putM n s2 = some x)
theorem endM_inv {n : Nd} {s : St} {x : Except Fault (Nat × St)} (h : endM n s = some x) : EndS n s x := by
  unfold endM at h
  rcases bind_is h with ⟨e, h1, hx⟩ | ⟨u, s1, h1, h2⟩
  · exact ⟨_, h1, .inl ⟨e, rfl, hx⟩⟩
  · exact ⟨_, h1, .inr ⟨s1, rfl, h2⟩⟩

theorem stmt_inv {c : Cs} {s : St} {x : Except Fault (Nat × St)} (h : stmtM c s = some x) :
    ∃ t r, s.toks = t :: r ∧
      ((t.kind = 2 ∧ ∃ y, setM c t.at_ s = some y ∧ ((∃ f, y = .error f ∧ x = .error f) ∨ ∃ n s1, y = .ok (n, s1) ∧ EndS n s1 x)) ∨
       (t.kind ≠ 2 ∧ isT [118, 97, 114] t = false ∧ ∃ s1, gotM kwIf s = some (.ok (true, s1)) ∧ c.choice t.at_ s1 = some x) ∨
       (t.kind ≠ 2 ∧ isT [118, 97, 114] t = false ∧ isT kwIf t = false ∧ isT [119, 104, 105, 108, 101] t = false ∧ isT [98, 114, 101, 97, 107] t = false ∧ isT [99, 111, 110, 116, 105, 110, 117, 101] t = false ∧
        ∃ s1, gotM [114, 101, 116, 117, 114, 110] s = some (.ok (true, s1)) ∧ ∃ y, c.expr 1 s1 = some y ∧ ((∃ f, y = .error f ∧ x = .error f) ∨ ∃ k s2, y = .ok (k, s2) ∧ EndS { kind := 18, at_ := t.at_, kids := [k] } s2 x))) := by
  unfold stmtM at h
  rcases bind_is h with ⟨e, h1, _⟩ | ⟨t, s0, h1, h2⟩
  · obtain ⟨t, r, _, hx⟩ := nextM_inv h1
    cases hx
  · obtain ⟨rfl, r, ht⟩ := nextM_ok (x := .ok (t, s0)) h1
    refine ⟨t, r, ht, ?_⟩
    cases hk : Nat.beq t.kind 2
    · rw [hk] at h2
      simp only [cond_false] at h2
      have hk : t.kind ≠ 2 := by rw [← Bool.not_eq_true, Nat.beq_eq] at hk; exact hk
      rcases got_step ht h2 with ⟨b1, h3⟩ | ⟨_, s1, _, h3⟩
      · simp only [cond_false] at h3
        rcases got_step ht h3 with ⟨b2, h4⟩ | ⟨b2, s1, hg, h4⟩
        · simp only [cond_false] at h4
          rcases got_step ht h4 with ⟨b3, h5⟩ | ⟨_, s1, _, h5⟩
          · simp only [cond_false] at h5
            rcases got_step ht h5 with ⟨b4, h6⟩ | ⟨_, s1, _, h6⟩
            · simp only [cond_false] at h6
              rcases got_step ht h6 with ⟨b5, h7⟩ | ⟨_, s1, _, h7⟩
              · simp only [cond_false] at h7
                rcases got_step ht h7 with ⟨_, h8⟩ | ⟨_, s1, hg, h8⟩
                · cases h8
                · simp only [cond_true] at h8
                  refine .inr (.inr ⟨hk, b1, b2, b3, b4, b5, s1, hg, ?_⟩)
                  rcases bind_is h8 with ⟨e, h9, hx⟩ | ⟨k, s3, h9, h10⟩
                  · exact ⟨_, h9, .inl ⟨e, rfl, hx⟩⟩
                  · exact ⟨_, h9, .inr ⟨k, s3, rfl, endM_inv h10⟩⟩
              · cases h7
            · cases h6
          · cases h5
        · simp only [cond_true] at h4
          exact .inr (.inl ⟨hk, b1, s1, hg, h4⟩)
      · cases h3
    · rw [hk] at h2
      simp only [cond_true] at h2
      have hk : t.kind = 2 := Nat.eq_of_beq_eq_true hk
      refine .inl ⟨hk, ?_⟩
      rcases bind_is h2 with ⟨e, h9, hx⟩ | ⟨n, s3, h9, h10⟩
      · exact ⟨_, h9, .inl ⟨e, rfl, hx⟩⟩
      · exact ⟨_, h9, .inr ⟨n, s3, rfl, endM_inv h10⟩⟩

section
variable {w0 W W1 : World} {g : Nat} {src : ByteArray} {rs : Nat → Prop} {s s1 : St} {nv n1 fv kv : Value} {l : List Int}
theorem kids_mv (h : Pz w0 g src rs s nv fv W) (m : Mv g W nv W1 n1) (hr : (Kd.int .i64).R 3 W w0.heap.size (kok g rs fv nv) kv l) : (Kd.int .i64).R 3 W1 w0.heap.size (kok g rs fv n1) kv l := by
  obtain ⟨_, ho⟩ := Kd.R_own hr
  have hlt : ∀ k, kv.ownBlock = some k → k < W.heap.size := fun k hk => own_lt ho k hk
  refine R_int (Kd.R_move (ok := fun k => kv.ownBlock = some k) (R_int hr (fun k hk => hk)) (fun k hk => ?_)) (fun k hk => ?_)
  · exact m.kp.2 k (hlt k hk) (hr.1 k hk).1 (hr.1 k hk).2.2.1
  · refine ⟨(hr.1 k hk).1, (hr.1 k hk).2.1, ?_, (hr.1 k hk).2.2.2⟩
    rcases m.own with e | ⟨b, e, hb⟩
    · rw [e]; exact (hr.1 k hk).2.2.1
    · rw [e]
      intro e2
      injection e2 with e2
      have := hlt k hk
      omega
theorem kids_set {b : Nat} (hr : (Kd.int .i64).R 3 W w0.heap.size (kok g rs fv nv) kv l) (hb : rs b) (j : Nat) (u : Value) : (Kd.int .i64).R 3 (W.setCell ⟨b, j, none⟩ u) w0.heap.size (kok g rs fv nv) kv l :=
  Kd.R_far (p := ⟨b, j, none⟩) hr (fun k hk e => hk.2.2.2 (e ▸ hb)) u
theorem kids_fill {b : Nat} (hr : (Kd.int .i64).R 3 W w0.heap.size (kok g rs fv nv) kv l) (hb : rs b) (v0 v1 v2 v3 v4 v5 v6 v7 : Value) : (Kd.int .i64).R 3 (fill8 W b v0 v1 v2 v3 v4 v5 v6 v7) w0.heap.size (kok g rs fv nv) kv l :=
  kids_set (kids_set (kids_set (kids_set (kids_set (kids_set (kids_set (kids_set hr hb 0 v0) hb 1 v1) hb 2 v2) hb 3 v3) hb 4 v4) hb 5 v5) hb 6 v6) hb 7 v7
end

section
variable {w0 W : World} {g : Nat} {src : ByteArray} {rs : Nat → Prop} {s : St} {nv fv : Value}

set_option maxRecDepth 100000 in
set_option maxHeartbeats 8000000 in
theorem stmt_w (N : Nat) (hE : ExprOK w0 g src fv (lvl N).expr) (hC : ChoiceOK w0 g src fv (lvl N).choice) : StmtOK w0 g src fv (lvl (N + 1)).stmt := by
  intro rs W s nv x hm h
  obtain ⟨t, r, ht, hcase⟩ := stmt_inv (show stmtM (lvl N) s = some x from hm)
  have HN := Lib.hid (next_w ht h)
  have HP0 := Lib.hid h
  have HE := Lib.hid hE
  have HCH := Lib.hid hC
  have HC := Lib.hid hcase
  have HT := Lib.hid ht
  clear hm h hcase ht hE hC
  go_enter Tryz.func91, Tryz.ntmps91
  go_wp2_with fail
  refine (HN.out).mono ?_
  clear HN
  rintro e w1 ⟨rfl, hb1⟩
  have HP1 := Lib.hid (HP0.out.below hb1)
  have HM1 := Lib.hid (Mv.below (g := g) (nv := nv) hb1)
  have hlow1 := hb1.size
  clear hb1
  obtain ⟨rs2, hrs2, hp2, hn2, hm2⟩ := HP1.out.new1 (ndC 0 (t.at_ : Int) ⟨#[]⟩ 0 0 0 0 (.slice none 0 0)) 46
  have HRS2 := Lib.hid hrs2
  have HNX := Lib.hid (next_w HT.out hp2)
  have HP2 := Lib.hid hp2
  have HN2 := Lib.hid hn2
  have HM2 := Lib.hid (HM1.out.trans hm2)
  clear hrs2 hp2 hn2 hm2
  go_wp2_with fail
  change Calls Tryz.prog 22 _ (w1.alloc (.cells (ndC 0 (t.at_ : Int) ⟨#[]⟩ 0 0 0 0 (.slice none 0 0)) 46)) _
  refine (HNX.out).mono ?_
  clear HNX
  generalize w1.alloc (.cells (ndC 0 (t.at_ : Int) ⟨#[]⟩ 0 0 0 0 (.slice none 0 0)) 46) = w2 at HP2 HN2 HM2 ⊢
  generalize hnbe : w1.heap.size = nb at HN2 ⊢
  have hnb : W.heap.size ≤ nb := by omega
  rintro e w3 ⟨rfl, hb⟩
  have HP3 := Lib.hid (HP2.out.below hb)
  have HN3 := Lib.hid (HN2.out.below hb)
  have HM3 := Lib.hid (HM2.out.trans (Mv.below hb))
  clear hb HP2 HN2 HM2 hlow1 hnbe HM1 HP1
  rcases HC.out with ⟨hk, y, hy, hx⟩ | ⟨hk, k1, s1, hg, hx⟩ | ⟨hk, k1, k2, k3, k4, k5, s1, hg, y, hy, hx⟩
  · have d1 : ((t.kind : Int) == 2) = true := beq_iff_eq.2 (by omega)
    have HS := Lib.hid (set_w N HE.out t.at_ 0 hy HP3.out)
    have HX := Lib.hid hx
    clear hy hx
    have n0 := (HN3.out.cell 0).trans rfl
    have n1 := (HN3.out.cell 1).trans rfl
    have n2 := (HN3.out.cell 2).trans rfl
    have n3 := (HN3.out.cell 3).trans rfl
    have n4 := (HN3.out.cell 4).trans rfl
    have n5 := (HN3.out.cell 5).trans rfl
    have n6 := (HN3.out.cell 6).trans rfl
    have n7 := (HN3.out.cell 7).trans rfl
    go_wp2_with fail
    refine (HS.out).mono ?_
    clear HS
    rcases HX.out with ⟨f, rfl, rfl⟩ | ⟨n, s1, rfl, hend⟩
    · rintro e wz ⟨rfl, hb⟩
      have HBz := Lib.hid hb
      clear hb
      go_wp2
      exact ⟨rfl, rfl, HBz.out⟩
    · rintro e w4 ⟨A, cc, rfl, nv4, hp4, hm4, hr4⟩
      clear n0 n1 n2 n3 n4 n5 n6 n7
      have HP4 := Lib.hid hp4
      have HN4 := Lib.hid (HN3.out.mv HP3.out hm4)
      have HM4 := Lib.hid (HM3.out.trans hm4)
      have HR4 := Lib.hid hr4
      have HEND := Lib.hid hend
      clear hp4 hm4 hr4 hend
      have nbl := HN4.out.lt
      have f0 := HN4.out.frozen 0
      have f1 := HN4.out.frozen 1
      have f2 := HN4.out.frozen 2
      have f3 := HN4.out.frozen 3
      have f4 := HN4.out.frozen 4
      have f5 := HN4.out.frozen 5
      have f6 := HN4.out.frozen 6
      have f7 := HN4.out.frozen 7
      have n0 := (HN4.out.cell 0).trans rfl
      have n1 := (HN4.out.cell 1).trans rfl
      have n2 := (HN4.out.cell 2).trans rfl
      have n3 := (HN4.out.cell 3).trans rfl
      have n4 := (HN4.out.cell 4).trans rfl
      have n5 := (HN4.out.cell 5).trans rfl
      have n6 := (HN4.out.cell 6).trans rfl
      have n7 := (HN4.out.cell 7).trans rfl
      go_upto_region 22 with fail
      have HP5 := Lib.hid (HP4.out.fill HN4.out.rs (.int .u8 (n.kind : Int)) (.int .i64 (n.at_ : Int)) (.string ⟨n.name.toArray⟩) (.int .u8 (n.typ : Int)) (.int .u8 (n.op : Int)) (.int .u64 (n.bits : Int)) (.int .i64 (n.size : Int)) (.slice A n.kids.length cc))
      have HM5 := Lib.hid (HM4.out.fill hnb (.int .u8 (n.kind : Int)) (.int .i64 (n.at_ : Int)) (.string ⟨n.name.toArray⟩) (.int .u8 (n.typ : Int)) (.int .u8 (n.op : Int)) (.int .u64 (n.bits : Int)) (.int .i64 (n.size : Int)) (.slice A n.kids.length cc))
      have HN5 : Hid (Bx rs2 (fill8 w4 nb (.int .u8 (n.kind : Int)) (.int .i64 (n.at_ : Int)) (.string ⟨n.name.toArray⟩) (.int .u8 (n.typ : Int)) (.int .u8 (n.op : Int)) (.int .u64 (n.bits : Int)) (.int .i64 (n.size : Int)) (.slice A n.kids.length cc)) nb (ndC (n.kind : Int) (n.at_ : Int) ⟨n.name.toArray⟩ (n.typ : Int) (n.op : Int) (n.bits : Int) (n.size : Int) (.slice A n.kids.length cc)) 46) :=
        Lib.hid ⟨nd_fill HN4.out.is _ _ _ _ _ _ _ _, HN4.out.rs⟩
      have HR5 := Lib.hid (kids_fill HR4.out HN4.out.rs (.int .u8 (n.kind : Int)) (.int .i64 (n.at_ : Int)) (.string ⟨n.name.toArray⟩) (.int .u8 (n.typ : Int)) (.int .u8 (n.op : Int)) (.int .u64 (n.bits : Int)) (.int .i64 (n.size : Int)) (.slice A n.kids.length cc))
      change Code.wp _ _ _ _ (fill8 w4 nb (.int .u8 (n.kind : Int)) (.int .i64 (n.at_ : Int)) (.string ⟨n.name.toArray⟩) (.int .u8 (n.typ : Int)) (.int .u8 (n.op : Int)) (.int .u64 (n.bits : Int)) (.int .i64 (n.size : Int)) (.slice A n.kids.length cc))
      generalize fill8 w4 nb (.int .u8 (n.kind : Int)) (.int .i64 (n.at_ : Int)) (.string ⟨n.name.toArray⟩) (.int .u8 (n.typ : Int)) (.int .u8 (n.op : Int)) (.int .u64 (n.bits : Int)) (.int .i64 (n.size : Int)) (.slice A n.kids.length cc) = w5 at HP5 HM5 HN5 HR5 ⊢
      clear f0 f1 f2 f3 f4 f5 f6 f7 n0 n1 n2 n3 n4 n5 n6 n7
      obtain ⟨z, hz, hx⟩ := HEND.out
      have HX9 := Lib.hid hx
      have HW9 := Lib.hid (want_w [59] hz HP5.out)
      clear hz hx
      go_wp2_with fail
      refine (HW9.out).mono ?_
      clear HW9
      rcases HX9.out with ⟨f, rfl, rfl⟩ | ⟨s9, rfl, hput⟩
      · rintro e wz ⟨rfl, hb⟩
        have HBz := Lib.hid hb
        clear hb
        go_wp2
        exact ⟨rfl, rfl, HBz.out⟩
      · rintro e w9 ⟨rfl, nv9, hp9, hm9⟩
        have HN9 := Lib.hid (HN5.out.mv HP5.out hm9)
        have HR9 := Lib.hid (kids_mv HP5.out hm9 HR5.out)
        have HM9 := Lib.hid (HM5.out.trans hm9)
        have HP9 := Lib.hid hp9
        have HPUT := Lib.hid hput
        clear hp9 hm9 hput
        have e0 := (HN9.out.cell 0).trans rfl
        have e1 := (HN9.out.cell 1).trans rfl
        have e2 := (HN9.out.cell 2).trans rfl
        have e3 := (HN9.out.cell 3).trans rfl
        have e4 := (HN9.out.cell 4).trans rfl
        have e5 := (HN9.out.cell 5).trans rfl
        have e6 := (HN9.out.cell 6).trans rfl
        have e7 := (HN9.out.cell 7).trans rfl
        go_wp2_with fail
        refine (put_at n (.slice A n.kids.length cc) HPUT.out _ _ _ _ _ _ _ rfl rfl rfl rfl rfl rfl rfl HP9.out HR9.out).mono ?_
        clear e0 e1 e2 e3 e4 e5 e6 e7
        obtain ⟨_, rfl⟩ := putM_inv HPUT.out
        rintro e wz ⟨rfl, nvz, hpz, hmz⟩
        have HPz := Lib.hid (hpz.free HRS2.out)
        have HMz := Lib.hid (HM9.out.trans hmz)
        clear hpz hmz
        go_wp2
        go_ret
        exact ⟨rfl, nvz, HPz.out, HMz.out⟩
  · have d1 : ((t.kind : Int) == 2) = false := beq_eq_false_iff_ne.2 (by omega)
    have K1 := Lib.hid k1
    have HG := Lib.hid hg
    have HX := Lib.hid hx
    clear k1 hg hx
    go_wp2_with fail
    refine (got_no [118, 97, 114] K1.out HT.out HP3.out).mono ?_
    rintro e w4 ⟨rfl, hb⟩
    have HP4 := Lib.hid (HP3.out.below hb)
    have HN4 := Lib.hid (HN3.out.below hb)
    have HM4 := Lib.hid (HM3.out.trans (Mv.below hb))
    clear hb HP3 HN3 HM3
    go_wp2_with fail
    refine (got_w kwIf HG.out HP4.out).mono ?_
    rintro e w5 ⟨rfl, nv5, hp5, hm5⟩
    have HN5 := Lib.hid (HN4.out.mv HP4.out hm5)
    have HM5 := Lib.hid (HM4.out.trans hm5)
    have HCH5 := Lib.hid (HCH.out rs2 t.at_ w5 s1 nv5 x HX.out hp5)
    clear hp5 hm5
    have n0 := (HN5.out.cell 0).trans rfl
    have n1 := (HN5.out.cell 1).trans rfl
    have n2 := (HN5.out.cell 2).trans rfl
    have n3 := (HN5.out.cell 3).trans rfl
    have n4 := (HN5.out.cell 4).trans rfl
    have n5 := (HN5.out.cell 5).trans rfl
    have n6 := (HN5.out.cell 6).trans rfl
    have n7 := (HN5.out.cell 7).trans rfl
    go_wp2_with fail
    refine (HCH5.out).mono ?_
    clear HCH5 n0 n1 n2 n3 n4 n5 n6 n7
    rcases x with f | ⟨k, s'⟩
    · rintro e wz ⟨rfl, hb⟩
      have HBz := Lib.hid hb
      clear hb
      go_wp2
      exact ⟨rfl, rfl, HBz.out⟩
    · rintro e wz ⟨rfl, nvz, hp, hm⟩
      have HPz := Lib.hid (hp.free HRS2.out)
      have HMz := Lib.hid (HM5.out.trans hm)
      clear hp hm
      go_wp2
      go_ret
      exact ⟨rfl, nvz, HPz.out, HMz.out⟩
  · have d1 : ((t.kind : Int) == 2) = false := beq_eq_false_iff_ne.2 (by omega)
    have K1 := Lib.hid k1
    have K2 := Lib.hid k2
    have K3 := Lib.hid k3
    have K4 := Lib.hid k4
    have K5 := Lib.hid k5
    have HG := Lib.hid hg
    have HX := Lib.hid hx
    have HY := Lib.hid hy
    clear k1 k2 k3 k4 k5 hg hx hy
    go_wp2_with fail
    refine (got_no [118, 97, 114] K1.out HT.out HP3.out).mono ?_
    rintro e w4 ⟨rfl, hb⟩
    have HP4 := Lib.hid (HP3.out.below hb)
    have HN4 := Lib.hid (HN3.out.below hb)
    have HM4 := Lib.hid (HM3.out.trans (Mv.below hb))
    clear hb HP3 HN3 HM3
    go_wp2_with fail
    refine (got_no kwIf K2.out HT.out HP4.out).mono ?_
    rintro e w5 ⟨rfl, hb⟩
    have HP5 := Lib.hid (HP4.out.below hb)
    have HN5 := Lib.hid (HN4.out.below hb)
    have HM5 := Lib.hid (HM4.out.trans (Mv.below hb))
    clear hb HP4 HN4 HM4
    go_wp2_with fail
    refine (got_no [119, 104, 105, 108, 101] K3.out HT.out HP5.out).mono ?_
    rintro e w6 ⟨rfl, hb⟩
    have HP6 := Lib.hid (HP5.out.below hb)
    have HN6 := Lib.hid (HN5.out.below hb)
    have HM6 := Lib.hid (HM5.out.trans (Mv.below hb))
    clear hb HP5 HN5 HM5
    go_wp2_with fail
    refine (got_no [98, 114, 101, 97, 107] K4.out HT.out HP6.out).mono ?_
    rintro e w7 ⟨rfl, hb⟩
    have HP7 := Lib.hid (HP6.out.below hb)
    have HN7 := Lib.hid (HN6.out.below hb)
    have HM7 := Lib.hid (HM6.out.trans (Mv.below hb))
    clear hb HP6 HN6 HM6
    go_wp2_with fail
    refine (got_no [99, 111, 110, 116, 105, 110, 117, 101] K5.out HT.out HP7.out).mono ?_
    rintro e w8 ⟨rfl, hb⟩
    have HP8 := Lib.hid (HP7.out.below hb)
    have HN8 := Lib.hid (HN7.out.below hb)
    have HM8 := Lib.hid (HM7.out.trans (Mv.below hb))
    clear hb HP7 HN7 HM7
    go_wp2_with fail
    refine (got_w [114, 101, 116, 117, 114, 110] HG.out HP8.out).mono ?_
    rintro e wa ⟨rfl, nva, hpa, hma⟩
    have HNa := Lib.hid (HN8.out.mv HP8.out hma)
    have HMa := Lib.hid (HM8.out.trans hma)
    have HPa := Lib.hid hpa
    have HU := Lib.hid (HE.out rs2 1 1 wa s1 nva y rfl (by omega) HY.out hpa)
    clear hpa hma
    go_wp2_with fail
    refine (HU.out).mono ?_
    clear HU
    rcases HX.out with ⟨f, rfl, rfl⟩ | ⟨k, s2, rfl, hend⟩
    · rintro e wz ⟨rfl, hb⟩
      have HBz := Lib.hid hb
      clear hb
      go_wp2
      exact ⟨rfl, rfl, HBz.out⟩
    · rintro e wb ⟨rfl, nvb, hpb, hmb⟩
      have HNb := Lib.hid (HNa.out.mv HPa.out hmb)
      have HMb := Lib.hid (HMa.out.trans hmb)
      have HPb := Lib.hid hpb
      have HEND := Lib.hid hend
      clear hpb hmb hend
      have nbl := HNb.out.lt
      have f0 := HNb.out.frozen 0
      have f7 := HNb.out.frozen 7
      have n0 := (HNb.out.cell 0).trans rfl
      have n7 := (HNb.out.cell 7).trans rfl
      have p6 := (HPb.out.other HNb.out.rs 0 (.int .u8 18)).other HNb.out.rs 7 (.slice (some ⟨wb.heap.size, 0, none⟩) 1 1)
      have q6 := ((HMb.out.set_new hnb 0 (.int .u8 18)).set_new hnb 7 (.slice (some ⟨wb.heap.size, 0, none⟩) 1 1))
      have o6 := (HNb.out.set 0 (.int .u8 18) (cs' := ndC 18 (t.at_ : Int) ⟨#[]⟩ 0 0 0 0 (.slice none 0 0)) rfl).set 7 (.slice (some ⟨wb.heap.size, 0, none⟩) 1 1) (cs' := ndC 18 (t.at_ : Int) ⟨#[]⟩ 0 0 0 0 (.slice (some ⟨wb.heap.size, 0, none⟩) 1 1)) rfl
      obtain ⟨hba, hr⟩ := p6.kid1 k (wb.heap.size) (by simp [World.setCell])
      have HPc := Lib.hid (p6.below hba)
      have HMc := Lib.hid (q6.trans (Mv.below hba))
      have HNc := Lib.hid (o6.below hba)
      have HRc := Lib.hid hr
      clear p6 q6 o6 hba hr
      go_upto_region 22 with fail
      generalize (((wb.setCell ⟨nb, 0, none⟩ (.int .u8 18)).setCell ⟨nb, 7, none⟩ (.slice (some ⟨wb.heap.size, 0, none⟩) 1 1)).alloc (.cells #[.int .i64 (k : Int)] 3)) = wc at HPc HMc HNc HRc ⊢
      clear f0 f7 n0 n7
      obtain ⟨z, hz, hx⟩ := HEND.out
      have HX9 := Lib.hid hx
      have HW9 := Lib.hid (want_w [59] hz HPc.out)
      clear hz hx
      go_wp2_with fail
      refine (HW9.out).mono ?_
      clear HW9
      rcases HX9.out with ⟨f, rfl, rfl⟩ | ⟨s9, rfl, hput⟩
      · rintro e wz ⟨rfl, hb⟩
        have HBz := Lib.hid hb
        clear hb
        go_wp2
        exact ⟨rfl, rfl, HBz.out⟩
      · rintro e w9 ⟨rfl, nv9, hp9, hm9⟩
        have HN9 := Lib.hid (HNc.out.mv HPc.out hm9)
        have HR9 := Lib.hid (kids_mv HPc.out hm9 HRc.out)
        have HM9 := Lib.hid (HMc.out.trans hm9)
        have HP9 := Lib.hid hp9
        have HPUT := Lib.hid hput
        clear hp9 hm9 hput
        have e0 := (HN9.out.cell 0).trans rfl
        have e1 := (HN9.out.cell 1).trans rfl
        have e2 := (HN9.out.cell 2).trans rfl
        have e3 := (HN9.out.cell 3).trans rfl
        have e4 := (HN9.out.cell 4).trans rfl
        have e5 := (HN9.out.cell 5).trans rfl
        have e6 := (HN9.out.cell 6).trans rfl
        have e7 := (HN9.out.cell 7).trans rfl
        go_wp2_with fail
        refine (put_at { kind := 18, at_ := t.at_, kids := [k] } (.slice (some ⟨wb.heap.size, 0, none⟩) 1 1) HPUT.out 18 _ _ 0 _ _ ⟨#[]⟩ rfl rfl rfl rfl rfl rfl rfl HP9.out HR9.out).mono ?_
        clear e0 e1 e2 e3 e4 e5 e6 e7
        obtain ⟨_, rfl⟩ := putM_inv HPUT.out
        rintro e wz ⟨rfl, nvz, hpz, hmz⟩
        have HPz := Lib.hid (hpz.free HRS2.out)
        have HMz := Lib.hid (HM9.out.trans hmz)
        clear hpz hmz
        go_wp2
        go_ret
        exact ⟨rfl, nvz, HPz.out, HMz.out⟩
end

end Go.Proofs.YtgplgmjnhkhbjaaGreatDoor
