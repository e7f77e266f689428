/-
  The parser's walks, 5: list.
-/
import Derived.Test.YtgplgmjnhkhbjaaGreatDoorSs
import Derived.Deep.LoopGhost
import Derived.Deep.RegionWith
set_option linter.unusedVariables false
set_option linter.unusedSimpArgs false
namespace Go.Proofs.YtgplgmjnhkhbjaaGreatDoor
attribute [local go_sem] tok_0 tok_1 tok_2
open Go.RowKit Go.Proofs.YtgplgmjnhkhbjaaGreatDoorW.PrintWords PSameTree PflatTokens Syn

/-- numbers as they lie in memory -/
def ns (l : List Nat) : List Int := l.map fun k : Nat => (k : Int)
theorem ns_len (l : List Nat) : (ns l).length = l.length := List.length_map _

/-- a row of kids that is being made since W: its block is new, and set aside -/
structure Kx (w0 : World) (W : World) (wr : World) (ov : Value) (out : List Nat) : Prop where
  row : (Kd.int .i64).R 3 wr w0.heap.size (fun _ => True) ov (ns out)
  new : ∀ k, ov.ownBlock = some k → W.heap.size ≤ k

theorem args_inv {c : Cs} {out : List Nat} {s : St} {x : Except Fault (List Nat × St)} (h : argsM c out s = some x) :
    ∃ b s1, gotM [41] s = some (.ok (b, s1)) ∧ ((b = true ∧ x = .ok (out, s1)) ∨ (b = false ∧ ∃ z, ((out = [] ∧ z = .ok ((), s1)) ∨ (out ≠ [] ∧ wantM [44] s1 = some z)) ∧ ((∃ f, z = .error f ∧ x = .error f) ∨
      ∃ s2, z = .ok ((), s2) ∧ ∃ u, c.expr 1 s2 = some u ∧ ((∃ f, u = .error f ∧ x = .error f) ∨ ∃ k s3, u = .ok (k, s3) ∧ out.length < cap ∧ c.args (out ++ [k]) s3 = some x)))) := by
  unfold argsM at h
  rcases bind_is h with ⟨e, h1, _⟩ | ⟨b, s1, h1, h2⟩
  · obtain ⟨t, r, _, hx⟩ := gotM_inv h1
    rcases hx with ⟨_, hx⟩ | ⟨_, _, _, _, hx⟩ <;> cases hx
  · refine ⟨b, s1, h1, ?_⟩
    cases b
    · right
      refine ⟨rfl, ?_⟩
      simp only [cond_false] at h2
      have tail : ∀ s2, (do let k ← c.expr 1; roomM out.length; c.args (out ++ [k]) : M (List Nat)) s2 = some x → ∃ u, c.expr 1 s2 = some u ∧ ((∃ f, u = .error f ∧ x = .error f) ∨ ∃ k s3, u = .ok (k, s3) ∧ out.length < cap ∧ c.args (out ++ [k]) s3 = some x) := by
        intro s2 h3
        rcases bind_is h3 with ⟨e, h4, hx⟩ | ⟨k, s3, h4, h5⟩
        · exact ⟨_, h4, .inl ⟨e, rfl, hx⟩⟩
        · refine ⟨_, h4, .inr ⟨k, s3, rfl, ?_⟩⟩
          rcases bind_is h5 with ⟨e, h6, hx⟩ | ⟨u, s4, h6, h7⟩
          · unfold roomM at h6
            cases hb : Nat.blt out.length cap <;> rw [hb] at h6 <;> cases h6
          · unfold roomM at h6
            cases hb : Nat.blt out.length cap
            · rw [hb] at h6; cases h6
            · rw [hb] at h6
              simp only [cond_true, Option.some.injEq, Except.ok.injEq, Prod.mk.injEq] at h6
              obtain ⟨_, rfl⟩ := h6
              exact ⟨by simpa [Nat.blt_eq] using hb, h7⟩
      cases hout : out with
      | nil =>
        subst hout
        simp only [List.isEmpty_nil, cond_true] at h2
        refine ⟨_, .inl ⟨rfl, rfl⟩, .inr ⟨s1, rfl, ?_⟩⟩
        exact tail s1 h2
      | cons y ys =>
        rw [← hout]
        have he : out.isEmpty = false := by rw [hout]; rfl
        rw [he] at h2
        simp only [cond_false] at h2
        rcases bind_is h2 with ⟨e, h3, hx⟩ | ⟨u, s2, h3, h4⟩
        · exact ⟨_, .inr ⟨by rw [hout]; simp, h3⟩, .inl ⟨e, rfl, hx⟩⟩
        · exact ⟨_, .inr ⟨by rw [hout]; simp, h3⟩, .inr ⟨s2, rfl, tail s2 h4⟩⟩
    · left
      refine ⟨rfl, ?_⟩
      have h2 : some (Except.ok (out, s1)) = some x := h2
      exact (Option.some.inj h2).symm

/-- what is set aside, and a row's own block -/
def ro (rs : Nat → Prop) (ov : Value) : Nat → Prop := fun k => rs k ∨ some k = ov.ownBlock

theorem R_int {w : World} {base : Nat} {ok ok' : Nat → Prop} {v : Value} {xs : List Int} (h : (Kd.int .i64).R 3 w base ok v xs) (hk : ∀ k, v.ownBlock = some k → ok' k) : (Kd.int .i64).R 3 w base ok' v xs := by
  obtain ⟨h0, inner, ho, hr⟩ := h
  exact ⟨hk, inner, ho, hr.imp_ (fun _ _ hp => hp)⟩

section
variable {w0 W wr w' : World} {g : Nat} {src : ByteArray} {rs : Nat → Prop} {s : St} {nv fv ov nv' : Value} {out : List Nat}
theorem Kx.move (h : Kx w0 W wr ov out) (hm : ∀ k, ov.ownBlock = some k → w'.heap[k]? = wr.heap[k]?) : Kx w0 W w' ov out :=
  ⟨R_int (Kd.R_move (ok := fun k => ov.ownBlock = some k) (R_int h.row (fun k hk => hk)) hm) (fun _ _ => trivial), h.new⟩
theorem Kx.lt (h : Kx w0 W wr ov out) {k : Nat} (hk : ov.ownBlock = some k) : k < wr.heap.size := by
  obtain ⟨_, ho⟩ := Kd.R_own h.row
  exact own_lt ho k hk
theorem Kx.mv (h : Kx w0 W wr ov out) (p : Pz w0 g src (ro rs ov) s nv fv wr) (m : Mv g wr nv w' nv') : Kx w0 W w' ov out :=
  h.move fun k hk => m.kp.2 k (h.lt hk) (p.ng (.inr hk.symm)) (p.nn (.inr hk.symm))
theorem Kx.below (h : Kx w0 W wr ov out) (hb : Below wr.heap.size wr w') : Kx w0 W w' ov out := h.move fun k hk => hb.block k (h.lt hk)
theorem Kx.far (h : Kx w0 W wr ov out) {b : Nat} (hb : some b ≠ ov.ownBlock) (j : Nat) (u : Value) : Kx w0 W (wr.setCell ⟨b, j, none⟩ u) ov out :=
  h.move fun k hk => Below.heap_setCell wr ⟨b, j, none⟩ u k (fun e => hb (by rw [hk, e]))
/-- a row grown by one -/
theorem kids_grow {v1 : Value} {wn : World} {xs : List Int} (h : Pz w0 g src (ro rs ov) s nv fv wr) (r1 : (Kd.int .i64).R 3 wn w0.heap.size (fun _ => True) v1 xs) (r2 : Below w0.heap.size w0 wn) (r3 : wr.grownBy wn ov.ownBlock)
    (r4 : v1.ownBlock = ov.ownBlock ∨ ∃ b, v1.ownBlock = some b ∧ wr.heap.size ≤ b) : Pz w0 g src (ro rs v1) s nv fv wn := by
  have hg : some g ≠ ov.ownBlock := fun e => h.rg (.inr e)
  obtain ⟨b, o, c, h1, h2, h3⟩ := h.cells
  have hv : ∀ k, k < wr.heap.size → ¬ ro rs ov k → ¬ ro rs v1 k := by
    intro k hk hn hr
    rcases hr with hr | hr
    · exact hn (.inl hr)
    · rcases r4 with e | ⟨b, e, hb⟩
      · exact hn (.inr (hr.trans e))
      · rw [e] at hr
        injection hr with hr
        omega
  have hlt : ∀ k, v1.ownBlock = some k → k < wn.heap.size := by
    intro k hk
    obtain ⟨_, ho⟩ := Kd.R_own r1
    exact own_lt ho k hk
  refine ⟨⟨b, o, c, blk_grown h1 r3 hg, h2, h3⟩, h.ge, r2, h.fit, ?_, h.cnt, ?_, h.opn, h.big, fun k hk => ?_, fun k hk => ?_, fun hk => ?_⟩
  · exact Kd.R_mono (Kd.R_grown (Kd.R_bound h.nds) r3 (fun k hk e => hk.1.2.2 (.inr e))) (fun k hk => ⟨hk.1.1, hk.1.2.1, hv k hk.2.2.1 hk.1.2.2⟩)
  · exact Kd.R_mono (Kd.R_grown (Kd.R_bound h.fns) r3 (fun k hk e => hk.1.1.2 (.inr e))) (fun k hk => ⟨⟨hk.1.1.1, hv k hk.2.2.1 hk.1.1.2⟩, hk.1.2⟩)
  · rcases hk with hk | hk
    · exact Nat.lt_of_lt_of_le (h.rlt k (.inl hk)) r3.size
    · exact hlt k hk.symm
  · rcases hk with hk | hk
    · exact h.rlow k (.inl hk)
    · rcases r4 with e | ⟨b, e, hb⟩
      · exact h.rlow k (.inr (hk.trans e))
      · rw [e] at hk
        injection hk with hk
        have := h.low
        omega
  · rcases hk with hk | hk
    · exact h.rg (.inl hk)
    · rcases r4 with e | ⟨b, e, hb⟩
      · exact hg (hk.trans e)
      · rw [e] at hk
        injection hk with hk
        have := h.lt
        omega
end

theorem Bx.ro {rs : Nat → Prop} {W : World} {i : Nat} {cs : Array Value} {t : TypeId} (h : Bx rs W i cs t) (ov : Value) : Bx (ro rs ov) W i cs t := ⟨h.is, .inl h.rs⟩
theorem Bx.mvr {w0 W W' : World} {g i : Nat} {src : ByteArray} {rs : Nat → Prop} {s : St} {nv fv nv' ov : Value} {cs : Array Value} {t : TypeId} (h : Bx rs W i cs t) (p : Pz w0 g src (Go.Proofs.YtgplgmjnhkhbjaaGreatDoor.ro rs ov) s nv fv W) (m : Mv g W nv W' nv') : Bx rs W' i cs t :=
  ⟨((h.ro ov).mv p m).is, h.rs⟩

theorem Mb.grown {g b : Nat} {W w' wn : World} {nv n1 ov : Value} (h : Mb g b W nv w' n1) (hg : w'.grownBy wn ov.ownBlock) (hn : ∀ k, ov.ownBlock = some k → W.heap.size ≤ k) : Mb g b W nv wn n1 :=
  ⟨Nat.le_trans h.size hg.size, fun i hi h1 h2 h3 => (hg.block i (Nat.lt_of_lt_of_le hi h.size) (fun e => by have := hn i e.symm; omega)).trans (h.kp i hi h1 h2 h3), h.own⟩
theorem Mb.drew {g b : Nat} {W w' : World} {nv n1 : Value} (h : Mb g b W nv w' n1) : Mb g b W nv w'.drew n1 := ⟨h.size, h.kp, h.own⟩
theorem Bx.grown {rs : Nat → Prop} {w' wn : World} {i : Nat} {cs : Array Value} {t : TypeId} {row : Option Nat} (h : Bx rs w' i cs t) (hg : w'.grownBy wn row) (hn : some i ≠ row) : Bx rs wn i cs t := ⟨blk_grown h.is hg hn, h.rs⟩
theorem ns_snoc (l : List Nat) (k : Nat) : ns (l ++ [k]) = ns l ++ [(k : Int)] := by simp [ns]

/-- what list's closure leaves -/
def ListX (w0 : World) (g : Nat) (rs : Nat → Prop) (fv : Value) (ob : Nat) (out : List Nat) (nv' : Value) (W' : World) : Prop :=
  ∃ ov, W'.heap[ob]? = some (.cells #[ov] 44 (0, 0)) ∧ (Kd.int .i64).R 3 W' w0.heap.size (fun k => k ≠ g ∧ some k ≠ fv.ownBlock ∧ some k ≠ nv'.ownBlock ∧ ¬ rs k) ov (ns out)

section
variable {w0 W wr : World} {g : Nat} {src : ByteArray} {rs : Nat → Prop} {s : St} {nv fv ov nv' : Value} {out : List Nat}
theorem Kx.done (k : Kx w0 W wr ov out) (p0 : Pz w0 g src rs s nv fv W) {s' : St} (p : Pz w0 g src (ro rs ov) s' nv' fv wr) :
    (Kd.int .i64).R 3 wr w0.heap.size (fun k => k ≠ g ∧ some k ≠ fv.ownBlock ∧ some k ≠ nv'.ownBlock ∧ ¬ rs k) ov (ns out) :=
  R_int k.row fun i hi => ⟨p.ng (.inr hi.symm), fun e => (p.fns.1 i e.symm).1.2 (.inr hi.symm), p.nn (.inr hi.symm), fun hr => by have h1 := p0.rlt i hr; have h2 := k.new i hi; omega⟩

set_option maxRecDepth 100000 in
set_option maxHeartbeats 4000000 in
theorem list1_w (N : Nat) (hE : ∀ j, j < N → ExprOK w0 g src fv (lvl j).expr) {x : Except Fault (List Nat × St)} (hm : (do wantM [40]; (lvl N).args [] : M (List Nat)) s = some x) (h : Pz w0 g src rs s nv fv W) (pb ob : Nat)
    (b1 : Bx rs W pb #[.pointer (some ⟨g, 0, none⟩)] 70) (b2 : Bx rs W ob #[.slice none 0 0] 44) (n1 : pb ≠ ob) :
    Calls Tryz.prog 152 #[.pointer (some ⟨pb, 0, none⟩), .pointer (some ⟨ob, 0, none⟩)] W
      fun e W' => EndsB w0 g src rs fv ob W nv (ListX w0 g rs fv ob) x e W' := by
  rcases bind_is hm with ⟨f, hy, rfl⟩ | ⟨u, s1, hy, hx⟩
  · have HW := Lib.hid (want_w [40] hy h)
    have c1 := (b1.cell 0).trans rfl
    clear hm hy h hE b1 b2
    go_enter Tryz.func152, Tryz.ntmps152
    go_wp2_with (go_at_call 42; (with_reducible refine (HW.out).mono ?_))
    rintro e w1 ⟨rfl, hb⟩
    have HB := Lib.hid hb
    clear hb
    go_wp2
    exact ⟨rfl, rfl, HB.out⟩
  · have HW := Lib.hid (want_w [40] hy h)
    have c1 := (b1.cell 0).trans rfl
    have hob := b2.lt
    have hpb := b1.lt
    have HP := Lib.hid h
    have HE := Lib.hid hE
    have B1 := Lib.hid b1
    have B2 := Lib.hid b2
    have HX := Lib.hid hx
    clear hm hy h hE b1 b2 hx
    go_enter Tryz.func152, Tryz.ntmps152
    go_wp2_with (go_at_call 42; (with_reducible refine (HW.out).mono ?_))
    rintro e w1 ⟨rfl, nv1, hp1, hm1⟩
    have B1' := Lib.hid (B1.out.mv HP.out hm1)
    have B2' := Lib.hid (B2.out.mv HP.out hm1)
    have HP1 := Lib.hid hp1
    have HM1 := Lib.hid hm1
    clear c1 hp1 hm1
    go_wp2
    go_loopg [] N (fun j wr => ∃ (out : List Nat) (s' : St) (nv' ov : Value), Hid ((lvl j).args out s' = some x) ∧ j ≤ N ∧ Hid (Pz w0 g src (ro rs ov) s' nv' fv wr) ∧ Hid (Mb g ob W nv wr nv') ∧ Hid (Bx rs wr ob #[ov] 44) ∧ Hid (Bx rs wr pb #[.pointer (some ⟨g, 0, none⟩)] 70) ∧ Hid (Kx w0 W wr ov out))
    case atStart =>
      refine ⟨[], s1, nv1, .slice none 0 0, HX, Nat.le_refl _, ?_, Lib.hid (HM1.out.mb ob), B2', B1', Lib.hid ⟨Kd.R_nil _ _ _ _ _, fun k hk => by cases hk⟩⟩
      exact Lib.hid (HP1.out.free (fun k hk => by rcases hk with hk | hk; exact hk; cases hk))
    case round =>
      obtain ⟨out, s', nv', ov, HA, hj, HPr, HMr, HBo, HBp, HK⟩ := hrel
      obtain ⟨j, rfl⟩ : ∃ j, gk = j + 1 := by
        cases gk with
        | zero => exact absurd HA.out (by simp [lvl, noneM])
        | succ j => exact ⟨j, rfl⟩
      obtain ⟨b, s2, hg, hrest⟩ := args_inv (show argsM (lvl j) out s' = some x from HA.out)
      have HG := Lib.hid (got_w [41] hg HPr.out)
      have HR := Lib.hid hrest
      have c1 := (HBp.out.cell 0).trans rfl
      clear hg hrest HA
      go_wp2_with (go_at_call 44; (with_reducible refine (HG.out).mono ?_))
      rintro e w2 ⟨rfl, nv2, hp2, hm2⟩
      have HBo2 := Lib.hid (HBo.out.mvr HPr.out hm2)
      have HBp2 := Lib.hid (HBp.out.mvr HPr.out hm2)
      have HK2 := Lib.hid (HK.out.mv HPr.out hm2)
      have HP2 := Lib.hid hp2
      have HM2 := Lib.hid (HMr.out.trans (hm2.mb ob))
      clear c1 hp2 hm2 HBo HBp HK HG HMr HPr
      rcases HR.out with ⟨rfl, hx⟩ | ⟨rfl, z, hz, hx⟩
      · go_wp2
        go_end0
        subst hx
        exact ⟨rfl, nv2, HP2.out.free (fun k hk => .inl hk), HM2.out, ov, HBo2.out.is, HK2.out.done HP.out HP2.out⟩
      · obtain ⟨A, k, hov⟩ := Kd.R_slice HK2.out.row
        rw [ns_len] at hov
        subst hov
        have c2 := (HBo2.out.cell 0).trans rfl
        have HX := Lib.hid hx
        clear hx
        -- the comma
        have hcomma : (out = [] ∧ z = .ok ((), s2)) ∨ (∃ d0 : 0 < out.length, Calls Tryz.prog 42 #[.pointer (some ⟨g, 0, none⟩), .string ⟨#[44]⟩] w2 fun e W' => Ends w0 g src (ro rs (.slice A out.length k)) fv w2 nv2 (fun _ => .tuple #[]) z e W') := by
          rcases hz with hz | ⟨hne, hz⟩
          · exact .inl hz
          · refine .inr ⟨?_, want_w [44] hz HP2.out⟩
            exact List.length_pos_iff.2 hne
        rcases hcomma with ⟨hnil, rfl⟩ | ⟨d0, hcall⟩
        · have d0 : ¬ (0 < out.length) := by rw [hnil]; simp
          have hx3 : ∃ u, (lvl j).expr 1 s2 = some u ∧ ((∃ f, u = .error f ∧ x = .error f) ∨ ∃ k s3, u = .ok (k, s3) ∧ out.length < cap ∧ (lvl j).args (out ++ [k]) s3 = some x) := by
            rcases HX.out with ⟨f, hf, _⟩ | ⟨s3, hs, hx⟩
            · cases hf
            · simp only [Except.ok.injEq, Prod.mk.injEq, true_and] at hs
              subst hs
              exact hx
          obtain ⟨nvx, hnx⟩ : ∃ v, nv2 = v := ⟨_, rfl⟩
          subst hnx
          have HN := Lib.hid hnil
          have HX3 := Lib.hid hx3
          clear hx3 hnil HX hz
          go_wp2_with fail
          obtain ⟨u, hu, hx4⟩ := HX3.out
          have HX4 := Lib.hid hx4
          have HPd := Lib.hid (HP2.out.below (Below.drew (Below.refl _ w2)))
          have HC := Lib.hid (HE.out j (by omega) (ro rs (.slice A out.length k)) 1 1 w2.drew _ nv2 u rfl (by omega) hu HPd.out)
          have c5 : w2.cell? ⟨ob, 0, none⟩ = some (.slice A out.length k) := (HBo2.out.cell 0).trans rfl
          have c6 : w2.cell? ⟨pb, 0, none⟩ = some (.pointer (some ⟨g, 0, none⟩)) := (HBp2.out.cell 0).trans rfl
          have HBod := Lib.hid (HBo2.out.below (Below.drew (Below.refl _ w2)))
          have HBpd := Lib.hid (HBp2.out.below (Below.drew (Below.refl _ w2)))
          have HKd := Lib.hid (HK2.out.below (Below.drew (Below.refl _ w2)))
          clear hu hx4
          go_region_law (first
          | (go_simp; go_at_call 133; (with_reducible refine (HC.out).mono ?_); intro e w' he; obtain ⟨f, rfl, rfl⟩ | ⟨kk, s5, rfl, hcap, hx5⟩ := HX4.out; (obtain ⟨rfl, hb⟩ := he; exact ⟨rfl, rfl, hb⟩); obtain ⟨rfl, nv6, hp6, hm6⟩ := he; have HP6 := Lib.hid hp6; have HM6 := Lib.hid hm6; have HBo6 := Lib.hid (HBod.out.mvr HPd.out hm6); have HBp6 := Lib.hid (HBpd.out.mvr HPd.out hm6); have HK6 := Lib.hid (HKd.out.mv HPd.out hm6); clear hp6 hm6; have c7 : w'.cell? ⟨ob, 0, none⟩ = some (.slice A out.length k) := (HBo6.out.cell 0).trans rfl; have f7 := (HBo6.out.frozen 0); have l5 := HBo6.out.lt; have l6 : some ob ≠ (Value.slice A out.length k).ownBlock := fun e => absurd (HK6.out.new ob e.symm) (by omega))
            | (refine append_any (Kd.int .i64) w0 _ w0.heap.size rfl (.tmp 12) (.tmp 15) 44 3 rfl (.int .i64 0) 8 Tryz.underlying44 (by kernel_rfl) rfl (by decide) (by decide) (.slice A out.length k) (ns out) (kk : Int) [.int .i64 (kk : Int)] (fun _ => True) (fun _ => False) _ rfl rfl (by simp [Act.eval]) (by simp [Act.eval]) rfl (fun _ h => h.elim) (fun _ _ => trivial) HK6.out.row HP6.out.bel HP6.out.low (by rw [ns_len]; unfold cap at hcap; omega) ?_; intro v1 wn r1 r2 r3 r4; obtain ⟨A1, k1, hv⟩ := Kd.R_slice r1; rw [show (ns out ++ [(kk : Int)]).length = (ns out).length + 1 from by simp] at hv; subst hv; have m3 := (cell_far' (a := ⟨ob, 0, none⟩) r3 l5 l6 c7); have m4 := (frozen_far' (a := ⟨ob, 0, none⟩) r3 l5 l6 f7)))
          all_goals
            have p7 := (kids_grow HP6.out r1 r2 r3 r4).other (i := ob) (.inl HBo6.out.rs) 0 (.slice A1 ((ns out).length + 1) k1)
            have l7 : some pb ≠ (Value.slice A out.length k).ownBlock := fun e => absurd (HK6.out.new pb e.symm) (by omega)
            have HP7 := Lib.hid p7
            have HM7 := Lib.hid ((((HM2.out.drew).trans (HM6.out.mb ob)).grown r3 HK6.out.new).set 0 (.slice A1 ((ns out).length + 1) k1))
            have HBo7 := Lib.hid ((HBo6.out.grown r3 l6).set 0 (.slice A1 ((ns out).length + 1) k1) (cs' := #[.slice A1 ((ns out).length + 1) k1]) rfl)
            have HBp7 := Lib.hid ((HBp6.out.grown r3 l7).far n1 0 (.slice A1 ((ns out).length + 1) k1))
            have hnew : ∀ i, (Value.slice A1 ((ns out).length + 1) k1).ownBlock = some i → W.heap.size ≤ i := by
              intro i hi
              rcases r4 with e | ⟨b, e, hb⟩
              · exact HK6.out.new i (e.symm.trans hi)
              · rw [e] at hi
                injection hi with hi
                have h1 := HM7.out.size
                have h2 := (HM2.out.drew.trans (HM6.out.mb ob)).size
                omega
            have hne : some ob ≠ (Value.slice A1 ((ns out).length + 1) k1).ownBlock := fun e => by
              have := hnew ob e.symm
              omega
            have HK7 : Hid (Kx w0 W (wn.setCell ⟨ob, 0, none⟩ (.slice A1 ((ns out).length + 1) k1)) (.slice A1 ((ns out).length + 1) k1) (out ++ [kk])) :=
              Kx.far ⟨by rw [ns_snoc]; exact r1, hnew⟩ hne 0 _
            have HX7 := Lib.hid hx5
            clear p7 r1 r2 r3 r4 hnew hne hx5
            go_wp2
            go_roundg j
            case measure => omega
            case rel => exact ⟨out ++ [kk], s5, nv6, _, HX7, by omega, HP7, HM7, HBo7, HBp7, HK7⟩
        · have HX2 := Lib.hid HX.out
          have HN := Lib.hid hcall
          have c9 : w2.cell? ⟨pb, 0, none⟩ = some (.pointer (some ⟨g, 0, none⟩)) := (HBp2.out.cell 0).trans rfl
          clear HX hcall hz
          go_wp2_with (go_at_call 42; (with_reducible refine (HN.out).mono ?_))
          rcases HX2.out with ⟨f, rfl, rfl⟩ | ⟨s3, rfl, hx3⟩
          · rintro e w3 ⟨rfl, hb⟩
            have HB := Lib.hid hb
            clear hb
            go_wp2
            exact ⟨rfl, rfl, HB.out⟩
          · rintro e w3 ⟨rfl, nv3, hp3, hm3⟩
            have HBo3 := Lib.hid (HBo2.out.mvr HP2.out hm3)
            have HBp3 := Lib.hid (HBp2.out.mvr HP2.out hm3)
            have HK3 := Lib.hid (HK2.out.mv HP2.out hm3)
            have HP3 := Lib.hid hp3
            have HM3 := Lib.hid (HM2.out.trans (hm3.mb ob))
            have HX3 := Lib.hid hx3
            have c2 : w3.cell? ⟨ob, 0, none⟩ = some (.slice A out.length k) := (HBo3.out.cell 0).trans rfl
            clear hp3 hm3 hx3 c9
            go_wp2_with fail
            obtain ⟨u, hu, hx4⟩ := HX3.out
            have HX4 := Lib.hid hx4
            have HPd := Lib.hid (HP3.out.below (Below.drew (Below.refl _ w3)))
            have HC := Lib.hid (HE.out j (by omega) (ro rs (.slice A out.length k)) 1 1 w3.drew _ nv3 u rfl (by omega) hu HPd.out)
            have c5 : w3.cell? ⟨ob, 0, none⟩ = some (.slice A out.length k) := (HBo3.out.cell 0).trans rfl
            have c6 : w3.cell? ⟨pb, 0, none⟩ = some (.pointer (some ⟨g, 0, none⟩)) := (HBp3.out.cell 0).trans rfl
            have HBod := Lib.hid (HBo3.out.below (Below.drew (Below.refl _ w3)))
            have HBpd := Lib.hid (HBp3.out.below (Below.drew (Below.refl _ w3)))
            have HKd := Lib.hid (HK3.out.below (Below.drew (Below.refl _ w3)))
            clear hu hx4
            go_region_law (first
            | (go_simp; go_at_call 133; (with_reducible refine (HC.out).mono ?_); intro e w' he; obtain ⟨f, rfl, rfl⟩ | ⟨kk, s5, rfl, hcap, hx5⟩ := HX4.out; (obtain ⟨rfl, hb⟩ := he; exact ⟨rfl, rfl, hb⟩); obtain ⟨rfl, nv6, hp6, hm6⟩ := he; have HP6 := Lib.hid hp6; have HM6 := Lib.hid hm6; have HBo6 := Lib.hid (HBod.out.mvr HPd.out hm6); have HBp6 := Lib.hid (HBpd.out.mvr HPd.out hm6); have HK6 := Lib.hid (HKd.out.mv HPd.out hm6); clear hp6 hm6; have c7 : w'.cell? ⟨ob, 0, none⟩ = some (.slice A out.length k) := (HBo6.out.cell 0).trans rfl; have f7 := (HBo6.out.frozen 0); have l5 := HBo6.out.lt; have l6 : some ob ≠ (Value.slice A out.length k).ownBlock := fun e => absurd (HK6.out.new ob e.symm) (by omega))
              | (refine append_any (Kd.int .i64) w0 _ w0.heap.size rfl (.tmp 12) (.tmp 15) 44 3 rfl (.int .i64 0) 8 Tryz.underlying44 (by kernel_rfl) rfl (by decide) (by decide) (.slice A out.length k) (ns out) (kk : Int) [.int .i64 (kk : Int)] (fun _ => True) (fun _ => False) _ rfl rfl (by simp [Act.eval]) (by simp [Act.eval]) rfl (fun _ h => h.elim) (fun _ _ => trivial) HK6.out.row HP6.out.bel HP6.out.low (by rw [ns_len]; unfold cap at hcap; omega) ?_; intro v1 wn r1 r2 r3 r4; obtain ⟨A1, k1, hv⟩ := Kd.R_slice r1; rw [show (ns out ++ [(kk : Int)]).length = (ns out).length + 1 from by simp] at hv; subst hv; have m3 := (cell_far' (a := ⟨ob, 0, none⟩) r3 l5 l6 c7); have m4 := (frozen_far' (a := ⟨ob, 0, none⟩) r3 l5 l6 f7)))
            all_goals
              have p7 := (kids_grow HP6.out r1 r2 r3 r4).other (i := ob) (.inl HBo6.out.rs) 0 (.slice A1 ((ns out).length + 1) k1)
              have l7 : some pb ≠ (Value.slice A out.length k).ownBlock := fun e => absurd (HK6.out.new pb e.symm) (by omega)
              have HP7 := Lib.hid p7
              have HM7 := Lib.hid ((((HM3.out.drew).trans (HM6.out.mb ob)).grown r3 HK6.out.new).set 0 (.slice A1 ((ns out).length + 1) k1))
              have HBo7 := Lib.hid ((HBo6.out.grown r3 l6).set 0 (.slice A1 ((ns out).length + 1) k1) (cs' := #[.slice A1 ((ns out).length + 1) k1]) rfl)
              have HBp7 := Lib.hid ((HBp6.out.grown r3 l7).far n1 0 (.slice A1 ((ns out).length + 1) k1))
              have hnew : ∀ i, (Value.slice A1 ((ns out).length + 1) k1).ownBlock = some i → W.heap.size ≤ i := by
                intro i hi
                rcases r4 with e | ⟨b, e, hb⟩
                · exact HK6.out.new i (e.symm.trans hi)
                · rw [e] at hi
                  injection hi with hi
                  have h1 := HM7.out.size
                  have h2 := (HM3.out.drew.trans (HM6.out.mb ob)).size
                  omega
              have hne : some ob ≠ (Value.slice A1 ((ns out).length + 1) k1).ownBlock := fun e => by
                have := hnew ob e.symm
                omega
              have HK7 : Hid (Kx w0 W (wn.setCell ⟨ob, 0, none⟩ (.slice A1 ((ns out).length + 1) k1)) (.slice A1 ((ns out).length + 1) k1) (out ++ [kk])) :=
                Kx.far ⟨by rw [ns_snoc]; exact r1, hnew⟩ hne 0 _
              have HX7 := Lib.hid hx5
              clear p7 r1 r2 r3 r4 hnew hne hx5
              go_wp2
              go_roundg j
              case measure => omega
              case rel => exact ⟨out ++ [kk], s5, nv6, _, HX7, by omega, HP7, HM7, HBo7, HBp7, HK7⟩
end

end Go.Proofs.YtgplgmjnhkhbjaaGreatDoor
