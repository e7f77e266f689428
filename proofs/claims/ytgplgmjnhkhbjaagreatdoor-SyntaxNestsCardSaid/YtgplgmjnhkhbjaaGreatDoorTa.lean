/-
  The parser's walks, 12: block.
-/
import Derived.Test.YtgplgmjnhkhbjaaGreatDoorSx
import Derived.Deep.LoopGhost
import Derived.Deep.RegionWith
set_option linter.unusedVariables false
set_option linter.unusedSimpArgs false
namespace Go.Proofs.YtgplgmjnhkhbjaaGreatDoor
attribute [local go_sem] tok_0 tok_1 tok_2
open Go.RowKit Go.Proofs.YtgplgmjnhkhbjaaGreatDoorW.PrintWords PSameTree PflatTokens Syn

/-- stmt does what the model does -/
def StmtOK (w0 : World) (g : Nat) (src : ByteArray) (fv : Value) (f : M Nat) : Prop :=
  ∀ (rs : Nat → Prop) (W : World) (s : St) (nv : Value) (x : Except Fault (Nat × St)), f s = some x → Pz w0 g src rs s nv fv W →
    Calls Tryz.prog 91 #[.pointer (some ⟨g, 0, none⟩)] W fun e W' => Ends w0 g src rs fv W nv (fun k : Nat => .int .i64 (k : Int)) x e W'

theorem stmts_inv {c : Cs} {out : List Nat} {s : St} {x : Except Fault (List Nat × St)} (h : stmtsM c out s = some x) :
    ∃ b s1, gotM [125] s = some (.ok (b, s1)) ∧ ((b = true ∧ x = .ok (out, s1)) ∨ (b = false ∧ ∃ u, c.stmt s1 = some u ∧ ((∃ f, u = .error f ∧ x = .error f) ∨ ∃ k s3, u = .ok (k, s3) ∧ out.length < cap ∧ c.stmts (out ++ [k]) s3 = some x))) := by
  unfold stmtsM at h
  rcases bind_is h with ⟨e, h1, _⟩ | ⟨b, s1, h1, h2⟩
  · obtain ⟨t, r, _, hx⟩ := gotM_inv h1
    rcases hx with ⟨_, hx⟩ | ⟨_, _, _, _, hx⟩ <;> cases hx
  · refine ⟨b, s1, h1, ?_⟩
    cases b
    · right
      refine ⟨rfl, ?_⟩
      simp only [cond_false] at h2
      rcases bind_is h2 with ⟨e, h4, hx⟩ | ⟨k, s3, h4, h5⟩
      · exact ⟨_, h4, .inl ⟨e, rfl, hx⟩⟩
      · refine ⟨_, h4, .inr ⟨k, s3, rfl, ?_⟩⟩
        rcases bind_is h5 with ⟨e, h6, hx⟩ | ⟨u, s4, h6, h7⟩
        · unfold roomM at h6
          cases hb : Nat.blt out.length cap <;> rw [hb] at h6 <;> cases h6
        · unfold roomM at h6
          cases hb : Nat.blt out.length cap
          · rw [hb] at h6; cases h6
          · rw [hb] at h6
            simp only [cond_true, Option.some.injEq, Except.ok.injEq, Prod.mk.injEq] at h6
            obtain ⟨_, rfl⟩ := h6
            exact ⟨by simpa [Nat.blt_eq] using hb, h7⟩
    · left
      refine ⟨rfl, ?_⟩
      have h2 : some (Except.ok (out, s1)) = some x := h2
      exact (Option.some.inj h2).symm

/-- what block's closure leaves -/
def BlkX (w0 : World) (g : Nat) (rs : Nat → Prop) (fv : Value) (nb : Nat) (a : Int) (out : List Nat) (nv' : Value) (W' : World) : Prop :=
  ∃ A c, W'.heap[nb]? = some (.cells (ndC 21 a ⟨#[]⟩ 0 0 0 0 (.slice A out.length c)) 46 (0, 0)) ∧ (Kd.int .i64).R 3 W' w0.heap.size (kok g rs fv nv') (.slice A out.length c) (ns out)

section
variable {w0 W : World} {g : Nat} {src : ByteArray} {rs : Nat → Prop} {s : St} {nv fv : Value}

set_option maxRecDepth 100000 in
set_option maxHeartbeats 4000000 in
theorem block1_w (N : Nat) (hE : ∀ j, j < N → StmtOK w0 g src fv (lvl j).stmt) {x : Except Fault (List Nat × St)} (hm : (do wantM [123]; (lvl N).stmts [] : M (List Nat)) s = some x) (h : Pz w0 g src rs s nv fv W) (pb ob : Nat) (a : Int)
    (b1 : Bx rs W pb #[.pointer (some ⟨g, 0, none⟩)] 70) (b2 : Bx rs W ob (ndC 21 a ⟨#[]⟩ 0 0 0 0 (.slice none 0 0)) 46) (n1 : pb ≠ ob) :
    Calls Tryz.prog 90 #[.pointer (some ⟨pb, 0, none⟩), .pointer (some ⟨ob, 0, none⟩)] W
      fun e W' => EndsB w0 g src rs fv ob W nv (BlkX w0 g rs fv ob a) x e W' := by
  rcases bind_is hm with ⟨f, hy, rfl⟩ | ⟨u, s1, hy, hx⟩
  · have HW := Lib.hid (want_w [123] hy h)
    have c1 := (b1.cell 0).trans rfl
    clear hm hy h hE b1 b2
    go_enter Tryz.func90, Tryz.ntmps90
    go_wp2_with (go_at_call 42; (with_reducible refine (HW.out).mono ?_))
    rintro e w1 ⟨rfl, hb⟩
    have HB := Lib.hid hb
    clear hb
    go_wp2
    exact ⟨rfl, rfl, HB.out⟩
  · have HW := Lib.hid (want_w [123] hy h)
    have c1 := (b1.cell 0).trans rfl
    have hob := b2.lt
    have hpb := b1.lt
    have HP := Lib.hid h
    have HE := Lib.hid hE
    have B1 := Lib.hid b1
    have B2 := Lib.hid b2
    have HX := Lib.hid hx
    clear hm hy h hE b1 b2 hx
    go_enter Tryz.func90, Tryz.ntmps90
    go_wp2_with (go_at_call 42; (with_reducible refine (HW.out).mono ?_))
    rintro e w1 ⟨rfl, nv1, hp1, hm1⟩
    have B1' := Lib.hid (B1.out.mv HP.out hm1)
    have B2' := Lib.hid (B2.out.mv HP.out hm1)
    have HP1 := Lib.hid hp1
    have HM1 := Lib.hid hm1
    clear c1 hp1 hm1
    go_wp2
    go_loopg [] N (fun j wr => ∃ (out : List Nat) (s' : St) (nv' ov : Value), Hid ((lvl j).stmts out s' = some x) ∧ j ≤ N ∧ Hid (Pz w0 g src (ro rs ov) s' nv' fv wr) ∧ Hid (Mb g ob W nv wr nv') ∧ Hid (Bx rs wr ob (ndC 21 a ⟨#[]⟩ 0 0 0 0 ov) 46) ∧ Hid (Bx rs wr pb #[.pointer (some ⟨g, 0, none⟩)] 70) ∧ Hid (Kx w0 W wr ov out))
    case atStart =>
      refine ⟨[], s1, nv1, .slice none 0 0, HX, Nat.le_refl _, ?_, Lib.hid (HM1.out.mb ob), B2', B1', Lib.hid ⟨Kd.R_nil _ _ _ _ _, fun k hk => by cases hk⟩⟩
      exact Lib.hid (HP1.out.free (fun k hk => by rcases hk with hk | hk; exact hk; cases hk))
    case round =>
      obtain ⟨out, s', nv', ov, HA, hj, HPr, HMr, HBo, HBp, HK⟩ := hrel
      obtain ⟨j, rfl⟩ : ∃ j, gk = j + 1 := by
        cases gk with
        | zero => exact absurd HA.out (by simp [lvl, noneM])
        | succ j => exact ⟨j, rfl⟩
      obtain ⟨b, s2, hg, hrest⟩ := stmts_inv (show stmtsM (lvl j) out s' = some x from HA.out)
      have HG := Lib.hid (got_w [125] hg HPr.out)
      have HR := Lib.hid hrest
      have c1 := (HBp.out.cell 0).trans rfl
      clear hg hrest HA
      go_wp2_with (go_at_call 44; (with_reducible refine (HG.out).mono ?_))
      rintro e w2 ⟨rfl, nv2, hp2, hm2⟩
      have HBo2 := Lib.hid (HBo.out.mvr HPr.out hm2)
      have HBp2 := Lib.hid (HBp.out.mvr HPr.out hm2)
      have HK2 := Lib.hid (HK.out.mv HPr.out hm2)
      have HP2 := Lib.hid hp2
      have HM2 := Lib.hid (HMr.out.trans (hm2.mb ob))
      clear c1 hp2 hm2 HBo HBp HK HG HMr HPr
      rcases HR.out with ⟨rfl, hx⟩ | ⟨rfl, u, hu, hx4⟩
      · go_wp2
        go_end0
        subst hx
        obtain ⟨A, k, hov⟩ := Kd.R_slice HK2.out.row
        rw [ns_len] at hov
        subst hov
        exact ⟨rfl, nv2, HP2.out.free (fun k hk => .inl hk), HM2.out, A, k, HBo2.out.is, HK2.out.done HP.out HP2.out⟩
      · obtain ⟨A, k, hov⟩ := Kd.R_slice HK2.out.row
        rw [ns_len] at hov
        subst hov
        have HX4 := Lib.hid hx4
        obtain ⟨nvx, hnx⟩ : ∃ v, nv2 = v := ⟨_, rfl⟩
        subst hnx
        have HPd := Lib.hid (HP2.out.below (Below.drew (Below.refl _ w2)))
        have HC := Lib.hid (HE.out j (by omega) (ro rs (.slice A out.length k)) w2.drew _ nv2 u hu HPd.out)
        have c5 : w2.cell? ⟨ob, 7, none⟩ = some (.slice A out.length k) := (HBo2.out.cell 7).trans rfl
        have c6 : w2.cell? ⟨pb, 0, none⟩ = some (.pointer (some ⟨g, 0, none⟩)) := (HBp2.out.cell 0).trans rfl
        have HBod := Lib.hid (HBo2.out.below (Below.drew (Below.refl _ w2)))
        have HBpd := Lib.hid (HBp2.out.below (Below.drew (Below.refl _ w2)))
        have HKd := Lib.hid (HK2.out.below (Below.drew (Below.refl _ w2)))
        clear hu hx4
        go_wp2_with fail
        go_region_law (first
        | (go_simp; go_at_call 91; (with_reducible refine (HC.out).mono ?_); intro e w' he; obtain ⟨f, rfl, rfl⟩ | ⟨kk, s5, rfl, hcap, hx5⟩ := HX4.out; (obtain ⟨rfl, hb⟩ := he; exact ⟨rfl, rfl, hb⟩); obtain ⟨rfl, nv6, hp6, hm6⟩ := he; have HP6 := Lib.hid hp6; have HM6 := Lib.hid hm6; have HBo6 := Lib.hid (HBod.out.mvr HPd.out hm6); have HBp6 := Lib.hid (HBpd.out.mvr HPd.out hm6); have HK6 := Lib.hid (HKd.out.mv HPd.out hm6); clear hp6 hm6; have c7 : w'.cell? ⟨ob, 7, none⟩ = some (.slice A out.length k) := (HBo6.out.cell 7).trans rfl; have f7 := (HBo6.out.frozen 7); have l5 := HBo6.out.lt; have l6 : some ob ≠ (Value.slice A out.length k).ownBlock := fun e => absurd (HK6.out.new ob e.symm) (by omega))
          | (refine append_any (Kd.int .i64) w0 _ w0.heap.size rfl (.tmp 8) (.tmp 11) 44 3 rfl (.int .i64 0) 8 Tryz.underlying44 (by kernel_rfl) rfl (by decide) (by decide) (.slice A out.length k) (ns out) (kk : Int) [.int .i64 (kk : Int)] (fun _ => True) (fun _ => False) _ rfl rfl (by simp [Act.eval]) (by simp [Act.eval]) rfl (fun _ h => h.elim) (fun _ _ => trivial) HK6.out.row HP6.out.bel HP6.out.low (by rw [ns_len]; unfold cap at hcap; omega) ?_; intro v1 wn r1 r2 r3 r4; obtain ⟨A1, k1, hv⟩ := Kd.R_slice r1; rw [show (ns out ++ [(kk : Int)]).length = (ns out).length + 1 from by simp] at hv; subst hv; have m3 := (cell_far' (a := ⟨ob, 7, none⟩) r3 l5 l6 c7); have m4 := (frozen_far' (a := ⟨ob, 7, none⟩) r3 l5 l6 f7)))
        all_goals
          have p7 := (kids_grow HP6.out r1 r2 r3 r4).other (i := ob) (.inl HBo6.out.rs) 7 (.slice A1 ((ns out).length + 1) k1)
          have l7 : some pb ≠ (Value.slice A out.length k).ownBlock := fun e => absurd (HK6.out.new pb e.symm) (by omega)
          have HP7 := Lib.hid p7
          have HM7 := Lib.hid ((((HM2.out.drew).trans (HM6.out.mb ob)).grown r3 HK6.out.new).set 7 (.slice A1 ((ns out).length + 1) k1))
          have HBo7 := Lib.hid ((HBo6.out.grown r3 l6).set 7 (.slice A1 ((ns out).length + 1) k1) (cs' := ndC 21 a ⟨#[]⟩ 0 0 0 0 (.slice A1 ((ns out).length + 1) k1)) rfl)
          have HBp7 := Lib.hid ((HBp6.out.grown r3 l7).far n1 7 (.slice A1 ((ns out).length + 1) k1))
          have hnew : ∀ i, (Value.slice A1 ((ns out).length + 1) k1).ownBlock = some i → W.heap.size ≤ i := by
            intro i hi
            rcases r4 with e | ⟨b, e, hb⟩
            · exact HK6.out.new i (e.symm.trans hi)
            · rw [e] at hi
              injection hi with hi
              have h1 := HM7.out.size
              have h2 := (HM2.out.drew.trans (HM6.out.mb ob)).size
              omega
          have hne : some ob ≠ (Value.slice A1 ((ns out).length + 1) k1).ownBlock := fun e => by
            have := hnew ob e.symm
            omega
          have HK7 : Hid (Kx w0 W (wn.setCell ⟨ob, 7, none⟩ (.slice A1 ((ns out).length + 1) k1)) (.slice A1 ((ns out).length + 1) k1) (out ++ [kk])) :=
            Kx.far ⟨by rw [ns_snoc]; exact r1, hnew⟩ hne 7 _
          have HX7 := Lib.hid hx5
          clear p7 r1 r2 r3 r4 hnew hne hx5
          go_wp2
          go_roundg j
          case measure => omega
          case rel => exact ⟨out ++ [kk], s5, nv6, _, HX7, by omega, HP7, HM7, HBo7, HBp7, HK7⟩
end

end Go.Proofs.YtgplgmjnhkhbjaaGreatDoor
