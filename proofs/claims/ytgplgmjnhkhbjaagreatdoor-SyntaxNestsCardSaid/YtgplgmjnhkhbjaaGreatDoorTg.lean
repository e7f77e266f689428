/-
  The parser's walks, 18: fn. (printed by gen_fn.py)
-/
import Derived.Test.YtgplgmjnhkhbjaaGreatDoorTf
set_option linter.unusedVariables false
set_option linter.unusedSimpArgs false
namespace Go.Proofs.YtgplgmjnhkhbjaaGreatDoor
attribute [local go_sem] tok_0 tok_1 tok_2
open Go.RowKit Go.Proofs.YtgplgmjnhkhbjaaGreatDoorW.PrintWords PSameTree PflatTokens Syn

theorem bind_ex {α β : Type} {m : M α} {f : α → M β} {s : St} {r : Except Fault (β × St)} (h : (m >>= f) s = some r) :
    ∃ y, m s = some y ∧ ((∃ e, y = .error e ∧ r = .error e) ∨ ∃ a s1, y = .ok (a, s1) ∧ f a s1 = some r) := by
  rcases bind_is h with ⟨e, h1, hx⟩ | ⟨a, s1, h1, h2⟩
  · exact ⟨_, h1, .inl ⟨e, rfl, hx⟩⟩
  · exact ⟨_, h1, .inr ⟨a, s1, rfl, h2⟩⟩

/-- what fn leaves -/
def EndsF (w0 : World) (g : Nat) (src : ByteArray) (rs : Nat → Prop) (r : Except Fault (Unit × St)) (e : Ending) (W' : World) : Prop :=
  match r with
  | .error f => e = .panicked [{ v := .iface 68 (faultV f), recovered := false }] ∧ Below w0.heap.size w0 W'
  | .ok (_, s') => e = .returned (.tuple #[]) ∧ ∃ nv' fv', Pz w0 g src rs s' nv' fv' W'

section
variable {w0 W : World} {g : Nat} {src : ByteArray} {rs : Nat → Prop} {s : St} {nv fv : Value}

set_option maxRecDepth 100000 in
set_option maxHeartbeats 8000000 in
theorem fn_w (N : Nat) (hS : ∀ j, j < N → StmtOK w0 g src fv (lvl j).stmt) {x : Except Fault (Unit × St)} (hm : fnM N s = some x) (h : Pz w0 g src rs s nv fv W) :
    Calls Tryz.prog 23 #[.pointer (some ⟨g, 0, none⟩)] W fun e W' => EndsF w0 g src rs x e W' := by
  unfold fnM at hm
  obtain ⟨y1, h1, k1⟩ := bind_ex hm
  have H1 := Lib.hid (want_w [102, 117, 110, 99] h1 h)
  have K1 := Lib.hid k1
  have HS := Lib.hid hS
  clear hm h h1 k1 hS
  go_enter Tryz.func23, Tryz.ntmps23
  go_wp2_with fail
  refine (H1.out).mono ?_
  clear H1
  rcases K1.out with ⟨f, rfl, rfl⟩ | ⟨_, s1, rfl, hm1⟩
  · rintro e wz ⟨rfl, hb⟩
    have HBz := Lib.hid hb
    clear hb
    go_wp2
    exact ⟨rfl, rfl, HBz.out⟩
  · rintro e w1 ⟨rfl, nv1, hp1, hm⟩
    obtain ⟨y2, h2, k2⟩ := bind_ex hm1
    obtain ⟨t, r, ht, rfl⟩ := nextM_inv h2
    rcases k2 with ⟨f, hf, _⟩ | ⟨t', s1', hq, hm2⟩
    · cases hf
    simp only [Except.ok.injEq, Prod.mk.injEq] at hq
    obtain ⟨rfl, rfl⟩ := hq
    obtain ⟨y3, h3, k3⟩ := bind_ex hm2
    have HP1 := Lib.hid hp1
    have H2 := Lib.hid (next_w ht hp1)
    have H3 := Lib.hid h3
    have K3 := Lib.hid k3
    clear K1 hp1 hm hm1 h2 ht hm2 h3 k3
    go_wp2_with fail
    refine (H2.out).mono ?_
    clear H2
    rintro e w2 ⟨rfl, hb⟩
    have HP2 := Lib.hid (HP1.out.below hb)
    clear hb
    go_wp2_with fail
    refine (take_w 2 2 rfl H3.out HP2.out).mono ?_
    rcases K3.out with ⟨f, rfl, rfl⟩ | ⟨nm, s2, rfl, hm3⟩
    · rintro e wz ⟨rfl, hb⟩
      have HBz := Lib.hid hb
      clear hb
      go_wp2
      exact ⟨rfl, rfl, HBz.out⟩
    · rintro e w3 ⟨rfl, nv3, hp3, hmx⟩
      obtain ⟨rs1, hrs1, hp4, hb4, hm4⟩ := hp3.new1 #[.string ⟨nm.toArray⟩, .int .i64 (t.at_ : Int), .slice none 0 0, .int .u8 0, .int .i64 0] 49
      obtain ⟨y4, h4, k4⟩ := bind_ex hm3
      have HRS := Lib.hid hrs1
      have HP4 := Lib.hid hp4
      have HB4 := Lib.hid hb4
      have H4 := Lib.hid (want_w [40] h4 hp4)
      have K4 := Lib.hid k4
      clear K3 H3 hp3 hmx hp4 hb4 hm4 hrs1 h4 k4 hm3
      go_wp2_with fail
      refine (H4.out).mono ?_
      clear H4
      generalize w3.alloc (.cells #[.string ⟨nm.toArray⟩, .int .i64 (t.at_ : Int), .slice none 0 0, .int .u8 0, .int .i64 0] 49) = w4 at HP4 HB4 ⊢
      generalize w3.heap.size = ob at HB4 ⊢
      rcases K4.out with ⟨f, rfl, rfl⟩ | ⟨_, s3, rfl, hm4⟩
      · rintro e wz ⟨rfl, hb⟩
        have HBz := Lib.hid hb
        clear hb
        go_wp2
        exact ⟨rfl, rfl, HBz.out⟩
      · rintro e w5 ⟨rfl, nv5, hp5, hm5⟩
        have HP5 := Lib.hid hp5
        have HB5 := Lib.hid (HB4.out.mv HP4.out hm5)
        obtain ⟨y5, h5, k5⟩ := bind_ex hm4
        have H5 := Lib.hid h5
        have K5 := Lib.hid k5
        clear K4 hp5 hm5 hm4 h5 k5
        go_wp2
        go_loopg [] N (fun j wr => ∃ (out : List (List UInt8 × Nat × Nat)) (s' : St) (nv' ov : Value), Hid (paramsM j out s' = some y5) ∧ Hid (Pz w0 g src (ro rs1 ov) s' nv' fv wr) ∧ Hid (Bx rs1 wr ob #[.string ⟨nm.toArray⟩, .int .i64 (t.at_ : Int), ov, .int .u8 0, .int .i64 0] 49) ∧ Hid (Ky w0 rs1 wr ov (out.map pd)))
        case atStart =>
          refine ⟨[], s3, nv5, .slice none 0 0, H5, ?_, HB5, Lib.hid ⟨Kd.R_nil _ _ _ _ _, fun k hk => by cases hk⟩⟩
          exact Lib.hid (HP5.out.free (fun k hk => by rcases hk with hk | hk; exact hk; cases hk))
        case round =>
          obtain ⟨out, s', nv', ov, HA, HPr, HBo, HK⟩ := hrel
          obtain ⟨j, rfl⟩ : ∃ j, gk = j + 1 := by
            cases gk with
            | zero => exact absurd HA.out (by simp [paramsM, noneM])
            | succ j => exact ⟨j, rfl⟩
          obtain ⟨b, s2', hg, hrest⟩ := params_inv HA.out
          have HG := Lib.hid (got_w [41] hg HPr.out)
          have HR := Lib.hid hrest
          obtain ⟨A, kc, hov⟩ := Kd.R_slice HK.out.row
          rw [List.length_map] at hov
          subst hov
          clear hg hrest HA
          go_wp2_with fail
          refine (HG.out).mono ?_
          rintro e wb ⟨rfl, nvb, hpb, hmb⟩
          have HBb := Lib.hid (HBo.out.mvr HPr.out hmb)
          have HKb := Lib.hid (HK.out.mv HPr.out (fun k hk => .inr hk.symm) hmb)
          have HPb := Lib.hid hpb
          clear hpb hmb HBo HK HG HPr
          rcases HR.out with ⟨rfl, rfl⟩ | ⟨rfl, z, hz, hx⟩
          · clear HR H5
            obtain ⟨y6, hy6, hm6⟩ : ∃ y6, typM s2' = some y6 ∧ ((∃ f, y6 = .error f ∧ x = .error f) ∨ ∃ ty s6, y6 = .ok (ty, s6) ∧ ∃ y7, blockM (lvl N) s6 = some y7 ∧ ((∃ f, y7 = .error f ∧ x = .error f) ∨ ∃ bb s7, y7 = .ok (bb, s7) ∧ s7.funcs.length < cap ∧ x = .ok ((), { s7 with funcs := s7.funcs ++ [⟨nm, t.at_, out, ty, bb⟩] }))) := by
              rcases K5.out with ⟨f', hq, _⟩ | ⟨ps, sp, hq, hm6⟩
              · cases hq
              · simp only [Except.ok.injEq, Prod.mk.injEq] at hq
                obtain ⟨rfl, rfl⟩ := hq
                obtain ⟨y6, h6, k6⟩ := bind_ex hm6
                refine ⟨y6, h6, ?_⟩
                rcases k6 with k6 | ⟨ty, s6, hq, hm7⟩
                · exact .inl k6
                · refine .inr ⟨ty, s6, hq, ?_⟩
                  obtain ⟨y7, h7, k7⟩ := bind_ex hm7
                  refine ⟨y7, h7, ?_⟩
                  rcases k7 with k7 | ⟨bb, s7, hq, hm8⟩
                  · exact .inl k7
                  · refine .inr ⟨bb, s7, hq, ?_⟩
                    obtain ⟨y8, h8, k8⟩ := bind_ex hm8
                    simp only [Option.some.injEq] at h8
                    subst h8
                    rcases k8 with ⟨_, hq, _⟩ | ⟨n8, s8, hq, hm9⟩
                    · cases hq
                    · simp only [Except.ok.injEq, Prod.mk.injEq] at hq
                      obtain ⟨rfl, rfl⟩ := hq
                      obtain ⟨y9, h9, k9⟩ := bind_ex hm9
                      unfold roomM at h9
                      cases hb : Nat.blt s7.funcs.length cap
                      · rw [hb] at h9; cases h9
                      · rw [hb] at h9
                        simp only [cond_true, Option.some.injEq] at h9
                        subst h9
                        rcases k9 with ⟨_, hq, _⟩ | ⟨_, s9, hq, hm10⟩
                        · cases hq
                        · simp only [Except.ok.injEq, Prod.mk.injEq, true_and] at hq
                          subst hq
                          simp only [Option.some.injEq] at hm10
                          exact ⟨by simpa [Nat.blt_eq] using hb, hm10.symm⟩
            have H6 := Lib.hid (typ_w hy6 HPb.out)
            have K6 := Lib.hid hm6
            clear K5 hm6 hy6
            go_wp2_with fail
            refine (H6.out).mono ?_
            clear H6
            rcases K6.out with ⟨f, rfl, rfl⟩ | ⟨ty, s6, rfl, y7, hy7, k7⟩
            · rintro e wz ⟨rfl, hb⟩
              have HBz := Lib.hid hb
              clear hb
              go_wp2
              exact ⟨rfl, rfl, HBz.out⟩
            · rintro e w6 ⟨rfl, nv6, hp6, hm6⟩
              have b6 := HBb.out.mvr HPb.out hm6
              have k6 := HKb.out.mv HPb.out (fun k hk => .inr hk.symm) hm6
              have l6 : some ob ≠ (Value.slice A out.length kc).ownBlock := fun e => k6.nrs ob e.symm b6.rs
              have HP7 := Lib.hid (hp6.other (i := ob) (.inl b6.rs) 3 (.int .u8 (ty : Int)))
              have HB7 := Lib.hid (b6.set 3 (.int .u8 (ty : Int)) (cs' := #[.string ⟨nm.toArray⟩, .int .i64 (t.at_ : Int), .slice A out.length kc, .int .u8 (ty : Int), .int .i64 0]) rfl)
              have HK7 := Lib.hid (k6.far l6 3 (.int .u8 (ty : Int)))
              have xf := b6.frozen 3
              have xc := (b6.cell 3).trans rfl
              have xl := b6.lt
              have H7 := Lib.hid (block_w N HS.out hy7 HP7.out)
              have K7 := Lib.hid k7
              clear K6 hp6 hm6 b6 k6 hy7 k7 HPb HBb HKb
              go_upto_region 10 with fail
              generalize w6.setCell ⟨ob, 3, none⟩ (.int .u8 (ty : Int)) = w7 at HP7 HB7 HK7 H7 ⊢
              clear xf xc xl
              go_wp2_with fail
              refine (H7.out).mono ?_
              clear H7
              rcases K7.out with ⟨f, rfl, rfl⟩ | ⟨bb, s7, rfl, hcap, rfl⟩
              · rintro e wz ⟨rfl, hb⟩
                have HBz := Lib.hid hb
                clear hb
                go_wp2
                exact ⟨rfl, rfl, HBz.out⟩
              · rintro e w8 ⟨rfl, nv8, hp8, hm8⟩
                have b8 := HB7.out.mvr HP7.out hm8
                have k8 := HK7.out.mv HP7.out (fun k hk => .inr hk.symm) hm8
                have HP9 := Lib.hid (hp8.other (i := ob) (.inl b8.rs) 4 (.int .i64 (bb : Int)))
                have HB9 := Lib.hid (b8.set 4 (.int .i64 (bb : Int)) (cs' := #[.string ⟨nm.toArray⟩, .int .i64 (t.at_ : Int), .slice A out.length kc, .int .u8 (ty : Int), .int .i64 (bb : Int)]) rfl)
                have HK9 := Lib.hid (k8.far l6 4 (.int .i64 (bb : Int)))
                have xf := b8.frozen 4
                have xc := (b8.cell 4).trans rfl
                have xl := b8.lt
                have HCAP := Lib.hid hcap
                clear K7 hp8 hm8 b8 k8 HP7 HB7 HK7 hcap
                go_upto_region 11 with fail
                generalize w8.setCell ⟨ob, 4, none⟩ (.int .i64 (bb : Int)) = w9 at HP9 HB9 HK9 ⊢
                clear xf xc xl
                have x0 := (HB9.out.cell 0).trans rfl
                have x1 := (HB9.out.cell 1).trans rfl
                have x2 := (HB9.out.cell 2).trans rfl
                have x3 := (HB9.out.cell 3).trans rfl
                have x4 := (HB9.out.cell 4).trans rfl
                have hR := HK9.out.done HP9.out
                have HPf := Lib.hid (Pz.free (rs := rs1) HP9.out (fun k hk => .inl hk))
                have hdr : Below w9.heap.size w9 w9.drew := Below.drew (Below.refl _ _)
                obtain ⟨tb, tq, tc, h1, h2, h3⟩ := HPf.out.cells
                have c4 : w9.cell? ⟨g, 4, none⟩ = some fv := (blk_cell h1 4).trans rfl
                have f4 : w9.frozen? ⟨g, 4, none⟩ = false := blk_frozen h1 4
                have hlt := HPf.out.lt
                have q1 : Hid (k49.M w9.drew w0.heap.size (fun k => k ≠ g ∧ some k ≠ fv.ownBlock ∧ some k ≠ nv8.ownBlock ∧ ¬ rs1 k) (fd ⟨nm, t.at_, out, ty, bb⟩) [.string ⟨nm.toArray⟩, .int .i64 (t.at_ : Int), .slice A out.length kc, .int .u8 (ty : Int), .int .i64 (bb : Int)]) := Lib.hid (k49_mkM _ _ _ (fd ⟨nm, t.at_, out, ty, bb⟩) (Kd.R_below hR hdr))
                have q2 : Hid (∀ k, (k ≠ g ∧ some k ≠ fv.ownBlock ∧ some k ≠ nv8.ownBlock ∧ ¬ rs1 k) → ((k ≠ g ∧ ¬ rs1 k) ∧ some k ≠ nv8.ownBlock) ∧ some k ≠ fv.ownBlock) := Lib.hid (fun k hk => ⟨⟨⟨hk.1, hk.2.2.2⟩, hk.2.2.1⟩, hk.2.1⟩)
                have q3 : Hid (∀ k, w9.drew.heap.size ≤ k → (k ≠ g ∧ ¬ rs1 k) ∧ some k ≠ nv8.ownBlock) := Lib.hid (fun k hk => by
                  have hk : w9.heap.size ≤ k := hk
                  refine ⟨⟨by omega, fun hr => by have := HPf.out.rlt k hr; omega⟩, fun e => ?_⟩
                  obtain ⟨_, ho⟩ := Kd.R_own HPf.out.nds
                  have := own_lt ho k e.symm
                  omega)
                have q4 := Lib.hid (Kd.R_below HPf.out.fns hdr)
                have q5 : Hid (Below w0.heap.size w0 w9.drew) := Lib.hid (Below.drew HPf.out.bel)
                have q6 : Hid (w0.heap.size ≤ w9.drew.heap.size) := Lib.hid HPf.out.low
                have q7 : Hid (((s7.funcs.map fd).length + 1) * 64 ≤ 140737488355328) := Lib.hid (by
                  have := HCAP.out
                  rw [List.length_map]
                  unfold cap at this
                  omega)
                have q8 : Hid (g < w9.drew.heap.size) := Lib.hid hlt
                have q9 : Hid (some g ≠ fv.ownBlock) := Lib.hid (fun e => (HPf.out.fns.1 g e.symm).1.1 rfl)
                have c4' : w9.drew.cell? ⟨g, 4, none⟩ = some fv := c4
                have f4' : w9.drew.frozen? ⟨g, 4, none⟩ = false := f4
                have HDR := Lib.hid hdr
                clear h1 h2 h3 hR hdr
                go_region_law (refine append_any k49 w0 w9.drew w0.heap.size rfl (.tmp 49) (.tmp 51) 30 49 rfl (.agg #[.string ⟨#[]⟩, .int .i64 0, .slice none 0 0, .int .u8 0, .int .i64 0]) 64 Tryz.underlying30 (by kernel_rfl) rfl (by decide) (by decide) fv (s7.funcs.map fd) (fd ⟨nm, t.at_, out, ty, bb⟩) [.string ⟨nm.toArray⟩, .int .i64 (t.at_ : Int), .slice A out.length kc, .int .u8 (ty : Int), .int .i64 (bb : Int)] (fun k => (k ≠ g ∧ ¬ rs1 k) ∧ some k ≠ nv8.ownBlock) (fun k => k ≠ g ∧ some k ≠ fv.ownBlock ∧ some k ≠ nv8.ownBlock ∧ ¬ rs1 k) w9.heap.size rfl rfl (by simp [Act.eval]) (by simp [Act.eval]) q1.out q2.out q3.out q4.out q5.out q6.out q7.out ?_; intro v1 wn r1 r2 r3 r4; obtain ⟨A1, k1, rfl⟩ := Kd.R_slice r1; have m3 := (cell_far' r3 q8.out q9.out c4'); have m4 := (frozen_far' r3 q8.out q9.out f4'))
                all_goals
                  have hlen : (List.map fd s7.funcs ++ [fd ⟨nm, t.at_, out, ty, bb⟩]).length = s7.funcs.length + 1 := by simp
                  rw [hlen] at r1 r4
                  have HPz := Lib.hid ((fun_end (f := ⟨nm, t.at_, out, ty, bb⟩) HPf.out HDR.out rfl r1 r2 r3 r4).free HRS.out)
                  clear r1 r2 r3 r4
                  go_wp2
                  go_end0
                  exact ⟨rfl, _, _, HPz.out⟩
          · have c2 := (HBb.out.cell 2).trans rfl
            have HX := Lib.hid hx
            clear hx
            have hcomma : (out = [] ∧ z = .ok ((), s2')) ∨ (∃ d0 : 0 < out.length, Calls Tryz.prog 42 #[.pointer (some ⟨g, 0, none⟩), .string ⟨#[44]⟩] wb fun e W' => Ends w0 g src (ro rs1 (.slice A out.length kc)) fv wb nvb (fun _ => .tuple #[]) z e W') := by
              rcases hz with hz | ⟨hne, hz⟩
              · exact .inl hz
              · refine .inr ⟨?_, want_w [44] hz HPb.out⟩
                exact List.length_pos_iff.2 hne
            rcases hcomma with ⟨hnil, rfl⟩ | ⟨d0, hcall⟩
            · have d0 : ¬ (0 < out.length) := by rw [hnil]; simp
              have hx3 := HX.out
              rcases hx3 with ⟨f, hf, _⟩ | ⟨s3', hs, hx3⟩
              · cases hf
              simp only [Except.ok.injEq, Prod.mk.injEq, true_and] at hs
              subst hs
              have HX3 := Lib.hid hx3
              clear hx3 hnil HX hz
              obtain ⟨pt, pr, hpt, y6, h6, k6⟩ := HX3.out
              have HN6 := Lib.hid (next_w hpt HPb.out)
              have H6 := Lib.hid h6
              have K6 := Lib.hid k6
              clear hpt h6 k6
              go_wp2_with fail
              refine (HN6.out).mono ?_
              clear HN6
              rintro e w6 ⟨rfl, hb⟩
              have HP6 := Lib.hid (HPb.out.below hb)
              have HB6 := Lib.hid (HBb.out.below hb)
              have HK6 := Lib.hid (HKb.out.below hb)
              clear hb
              go_wp2_with fail
              refine (take_w 2 2 rfl H6.out HP6.out).mono ?_
              rcases K6.out with ⟨f, rfl, rfl⟩ | ⟨pn, s7, rfl, y8, h8, k8⟩
              · rintro e wz ⟨rfl, hb⟩
                have HBz := Lib.hid hb
                clear hb
                have hxf : x = .error f := by
                  rcases K5.out with ⟨f', hq, hx⟩ | ⟨_, _, hq, _⟩
                  · cases hq; exact hx
                  · cases hq
                have HXF := Lib.hid hxf
                clear hxf
                go_wp2
                rw [HXF.out]
                exact ⟨rfl, rfl, HBz.out⟩
              · rintro e w7 ⟨rfl, nv7, hp7, hm7⟩
                have HK7 := Lib.hid (HK6.out.mv HP6.out (fun k hk => .inr hk.symm) hm7)
                have HB7 := Lib.hid (HB6.out.mvr HP6.out hm7)
                obtain ⟨rs8, hrs8, hp8, hb8, hm8⟩ := hp7.new1 #[.string ⟨pn.toArray⟩, .int .i64 (pt.at_ : Int), .int .u8 0] 82
                have HK8 := Lib.hid (HK7.out.mv hp7 (fun k hk => .inr hk.symm) hm8)
                have HB8 := Lib.hid (HB7.out.mvr hp7 hm8)
                have HRS8 := Lib.hid hrs8
                have HP8 := Lib.hid hp8
                have HX8 := Lib.hid hb8
                have H9 := Lib.hid (typ_w h8 hp8)
                have K8 := Lib.hid k8
                have hxn : some w7.heap.size ≠ (Value.slice A out.length kc).ownBlock := fun e => by have := HK7.out.lt e.symm; omega
                have hxo : w7.heap.size ≠ ob := by have := HB7.out.lt; omega
                clear hp7 hm7 hrs8 hp8 hb8 hm8 h8 k8
                go_wp2_with fail
                refine (H9.out).mono ?_
                clear H9
                generalize w7.alloc (.cells #[.string ⟨pn.toArray⟩, .int .i64 (pt.at_ : Int), .int .u8 0] 82) = w8 at HP8 HX8 HK8 HB8 ⊢
                generalize w7.heap.size = xb at HX8 hxo hxn ⊢
                rcases K8.out with ⟨f, rfl, rfl⟩ | ⟨py, s9, rfl, hcap, h10⟩
                · rintro e wz ⟨rfl, hb⟩
                  have HBz := Lib.hid hb
                  clear hb
                  have hxf : x = .error f := by
                    rcases K5.out with ⟨f', hq, hx⟩ | ⟨_, _, hq, _⟩
                    · cases hq; exact hx
                    · cases hq
                  have HXF := Lib.hid hxf
                  clear hxf
                  go_wp2
                  rw [HXF.out]
                  exact ⟨rfl, rfl, HBz.out⟩
                · rintro e w9 ⟨rfl, nv9, hp9, hm9⟩
                  have HK9 := Lib.hid (HK8.out.mv HP8.out (fun k hk => HRS8.out k (.inr hk.symm)) hm9)
                  have HB9 : Hid (Bx rs1 w9 ob #[.string ⟨nm.toArray⟩, .int .i64 (t.at_ : Int), (.slice A out.length kc), .int .u8 0, .int .i64 0] 49) := Lib.hid ⟨(Bx.mv (rs := rs8) ⟨HB8.out.is, HRS8.out _ (.inl HB8.out.rs)⟩ HP8.out hm9).is, HB8.out.rs⟩
                  have hx9 := HX8.out.mv HP8.out hm9
                  have HXC := Lib.hid hx9
                  have HP9 := Lib.hid hp9
                  have HCAP := Lib.hid hcap
                  have H10 := Lib.hid h10
                  have xf := hx9.frozen 2
                  have xc := (hx9.cell 2).trans rfl
                  have xl := hx9.lt
                  have HPd := Lib.hid (Pz.free (rs := ro rs1 (.slice A out.length kc)) (hp9.other hx9.rs 2 (.int .u8 (py : Int))) HRS8.out)
                  have HBd := Lib.hid (HB9.out.far hxo.symm 2 (.int .u8 (py : Int)))
                  have HXd := Lib.hid (hx9.set 2 (.int .u8 (py : Int)) (cs' := #[.string ⟨pn.toArray⟩, .int .i64 (pt.at_ : Int), .int .u8 (py : Int)]) rfl)
                  have HKd := Lib.hid (HK9.out.far hxn 2 (.int .u8 (py : Int)))
                  clear hp9 hm9 hx9 hcap h10
                  go_upto_region 8 with fail
                  generalize w9.setCell ⟨xb, 2, none⟩ (.int .u8 (py : Int)) = wd at HPd HBd HXd HKd ⊢
                  clear xf xc xl
                  have x0 := (HXd.out.cell 0).trans rfl
                  have x1 := (HXd.out.cell 1).trans rfl
                  have x2 := (HXd.out.cell 2).trans rfl
                  have b2 : wd.cell? ⟨ob, 2, none⟩ = some (.slice A out.length kc) := (HBd.out.cell 2).trans rfl
                  have bf := HBd.out.frozen 2
                  have bl := HBd.out.lt
                  have l6 : some ob ≠ (Value.slice A out.length kc).ownBlock := fun e => HKd.out.nrs ob e.symm HBd.out.rs
                  go_wp2_with (refine append_list k82 w0 wd w0.heap.size rfl (.tmp 33) (.tmp 35) 47 82 rfl (.agg #[.string ⟨#[]⟩, .int .i64 0, .int .u8 0]) 32 Tryz.underlying47 (by kernel_rfl) rfl (by decide) (by decide) (.slice A out.length kc) (out.map pd) (pd (pn, pt.at_, py)) [.string ⟨pn.toArray⟩, .int .i64 (pt.at_ : Int), .int .u8 (py : Int)] (fun _ => True) (fun _ => False) _ rfl rfl (by simp [Act.eval]) (by simp [Act.eval]) (k82_mkM _ _ _ _) (fun _ h => h.elim) (fun _ _ => trivial) HKd.out.row HPd.out.bel HPd.out.low (by have := HCAP.out; rw [List.length_map]; unfold cap at this; omega) ?_; intro v1 wn r1 r2 r3 r4; obtain ⟨A1, k1, hv⟩ := Kd.R_slice r1; rw [show (out.map pd ++ [pd (pn, pt.at_, py)]).length = (out.length + 1) from by simp] at hv; subst hv; have m3 := (cell_far' (a := ⟨ob, 2, none⟩) r3 bl l6 b2); have m4 := (frozen_far' (a := ⟨ob, 2, none⟩) r3 bl l6 bf))
                  have hnrs : ∀ i, (Value.slice A1 (out.length + 1) k1).ownBlock = some i → ¬ rs1 i := by
                    intro i hi hr
                    rcases r4 with e | ⟨b, e, hb⟩
                    · exact HKd.out.nrs i (e.symm.trans hi) hr
                    · rw [e] at hi
                      injection hi with hi
                      have := HPd.out.rlt i (.inl hr)
                      omega
                  have hlt : ∀ i, (Value.slice A1 (out.length + 1) k1).ownBlock = some i → i < wn.heap.size := by
                    intro i hi
                    obtain ⟨_, ho⟩ := Kd.R_own r1
                    exact own_lt ho i hi
                  have HPe := Lib.hid ((row_grow HPd.out hlt r2 r3 r4).other (i := ob) (.inl HBd.out.rs) 2 (.slice A1 (out.length + 1) k1))
                  have HBe := Lib.hid ((HBd.out.grown r3 l6).set 2 (.slice A1 (out.length + 1) k1) (cs' := #[.string ⟨nm.toArray⟩, .int .i64 (t.at_ : Int), (.slice A1 (out.length + 1) k1), .int .u8 0, .int .i64 0]) rfl)
                  have HKe : Hid (Ky w0 rs1 (wn.setCell ⟨ob, 2, none⟩ (.slice A1 (out.length + 1) k1)) (.slice A1 (out.length + 1) k1) ((out ++ [(pn, pt.at_, py)]).map pd)) :=
                    Lib.hid (Ky.far ⟨by rw [List.map_append]; exact r1, hnrs⟩ (fun e => hnrs ob e.symm HBd.out.rs) 2 _)
                  clear r1 r2 r3 r4 hnrs hlt
                  go_wp2
                  go_roundg j
                  case measure => omega
                  case rel => exact ⟨out ++ [(pn, pt.at_, py)], s9, nv9, _, H10, HPe, HBe, HKe⟩
            · have HN := Lib.hid hcall
              clear hcall hz
              go_wp2_with fail
              refine (HN.out).mono ?_
              clear HN
              rcases HX.out with ⟨f, rfl, rfl⟩ | ⟨s3', rfl, hx3⟩
              · rintro e wz ⟨rfl, hb⟩
                have HBz := Lib.hid hb
                clear hb
                have hxf : x = .error f := by
                  rcases K5.out with ⟨f', hq, hx⟩ | ⟨_, _, hq, _⟩
                  · cases hq; exact hx
                  · cases hq
                have HXF := Lib.hid hxf
                clear hxf
                go_wp2
                rw [HXF.out]
                exact ⟨rfl, rfl, HBz.out⟩
              · rintro e wc ⟨rfl, nvc, hpc, hmc⟩
                have HPc := Lib.hid hpc
                have HBc := Lib.hid (HBb.out.mvr HPb.out hmc)
                have HKc := Lib.hid (HKb.out.mv HPb.out (fun k hk => .inr hk.symm) hmc)
                have HX3 := Lib.hid hx3
                clear hpc hmc hx3 c2
                obtain ⟨pt, pr, hpt, y6, h6, k6⟩ := HX3.out
                have HN6 := Lib.hid (next_w hpt HPc.out)
                have H6 := Lib.hid h6
                have K6 := Lib.hid k6
                clear hpt h6 k6
                go_wp2_with fail
                refine (HN6.out).mono ?_
                clear HN6
                rintro e w6 ⟨rfl, hb⟩
                have HP6 := Lib.hid (HPc.out.below hb)
                have HB6 := Lib.hid (HBc.out.below hb)
                have HK6 := Lib.hid (HKc.out.below hb)
                clear hb
                go_wp2_with fail
                refine (take_w 2 2 rfl H6.out HP6.out).mono ?_
                rcases K6.out with ⟨f, rfl, rfl⟩ | ⟨pn, s7, rfl, y8, h8, k8⟩
                · rintro e wz ⟨rfl, hb⟩
                  have HBz := Lib.hid hb
                  clear hb
                  have hxf : x = .error f := by
                    rcases K5.out with ⟨f', hq, hx⟩ | ⟨_, _, hq, _⟩
                    · cases hq; exact hx
                    · cases hq
                  have HXF := Lib.hid hxf
                  clear hxf
                  go_wp2
                  rw [HXF.out]
                  exact ⟨rfl, rfl, HBz.out⟩
                · rintro e w7 ⟨rfl, nv7, hp7, hm7⟩
                  have HK7 := Lib.hid (HK6.out.mv HP6.out (fun k hk => .inr hk.symm) hm7)
                  have HB7 := Lib.hid (HB6.out.mvr HP6.out hm7)
                  obtain ⟨rs8, hrs8, hp8, hb8, hm8⟩ := hp7.new1 #[.string ⟨pn.toArray⟩, .int .i64 (pt.at_ : Int), .int .u8 0] 82
                  have HK8 := Lib.hid (HK7.out.mv hp7 (fun k hk => .inr hk.symm) hm8)
                  have HB8 := Lib.hid (HB7.out.mvr hp7 hm8)
                  have HRS8 := Lib.hid hrs8
                  have HP8 := Lib.hid hp8
                  have HX8 := Lib.hid hb8
                  have H9 := Lib.hid (typ_w h8 hp8)
                  have K8 := Lib.hid k8
                  have hxn : some w7.heap.size ≠ (Value.slice A out.length kc).ownBlock := fun e => by have := HK7.out.lt e.symm; omega
                  have hxo : w7.heap.size ≠ ob := by have := HB7.out.lt; omega
                  clear hp7 hm7 hrs8 hp8 hb8 hm8 h8 k8
                  go_wp2_with fail
                  refine (H9.out).mono ?_
                  clear H9
                  generalize w7.alloc (.cells #[.string ⟨pn.toArray⟩, .int .i64 (pt.at_ : Int), .int .u8 0] 82) = w8 at HP8 HX8 HK8 HB8 ⊢
                  generalize w7.heap.size = xb at HX8 hxo hxn ⊢
                  rcases K8.out with ⟨f, rfl, rfl⟩ | ⟨py, s9, rfl, hcap, h10⟩
                  · rintro e wz ⟨rfl, hb⟩
                    have HBz := Lib.hid hb
                    clear hb
                    have hxf : x = .error f := by
                      rcases K5.out with ⟨f', hq, hx⟩ | ⟨_, _, hq, _⟩
                      · cases hq; exact hx
                      · cases hq
                    have HXF := Lib.hid hxf
                    clear hxf
                    go_wp2
                    rw [HXF.out]
                    exact ⟨rfl, rfl, HBz.out⟩
                  · rintro e w9 ⟨rfl, nv9, hp9, hm9⟩
                    have HK9 := Lib.hid (HK8.out.mv HP8.out (fun k hk => HRS8.out k (.inr hk.symm)) hm9)
                    have HB9 : Hid (Bx rs1 w9 ob #[.string ⟨nm.toArray⟩, .int .i64 (t.at_ : Int), (.slice A out.length kc), .int .u8 0, .int .i64 0] 49) := Lib.hid ⟨(Bx.mv (rs := rs8) ⟨HB8.out.is, HRS8.out _ (.inl HB8.out.rs)⟩ HP8.out hm9).is, HB8.out.rs⟩
                    have hx9 := HX8.out.mv HP8.out hm9
                    have HXC := Lib.hid hx9
                    have HP9 := Lib.hid hp9
                    have HCAP := Lib.hid hcap
                    have H10 := Lib.hid h10
                    have xf := hx9.frozen 2
                    have xc := (hx9.cell 2).trans rfl
                    have xl := hx9.lt
                    have HPd := Lib.hid (Pz.free (rs := ro rs1 (.slice A out.length kc)) (hp9.other hx9.rs 2 (.int .u8 (py : Int))) HRS8.out)
                    have HBd := Lib.hid (HB9.out.far hxo.symm 2 (.int .u8 (py : Int)))
                    have HXd := Lib.hid (hx9.set 2 (.int .u8 (py : Int)) (cs' := #[.string ⟨pn.toArray⟩, .int .i64 (pt.at_ : Int), .int .u8 (py : Int)]) rfl)
                    have HKd := Lib.hid (HK9.out.far hxn 2 (.int .u8 (py : Int)))
                    clear hp9 hm9 hx9 hcap h10
                    go_upto_region 8 with fail
                    generalize w9.setCell ⟨xb, 2, none⟩ (.int .u8 (py : Int)) = wd at HPd HBd HXd HKd ⊢
                    clear xf xc xl
                    have x0 := (HXd.out.cell 0).trans rfl
                    have x1 := (HXd.out.cell 1).trans rfl
                    have x2 := (HXd.out.cell 2).trans rfl
                    have b2 : wd.cell? ⟨ob, 2, none⟩ = some (.slice A out.length kc) := (HBd.out.cell 2).trans rfl
                    have bf := HBd.out.frozen 2
                    have bl := HBd.out.lt
                    have l6 : some ob ≠ (Value.slice A out.length kc).ownBlock := fun e => HKd.out.nrs ob e.symm HBd.out.rs
                    go_wp2_with (refine append_list k82 w0 wd w0.heap.size rfl (.tmp 33) (.tmp 35) 47 82 rfl (.agg #[.string ⟨#[]⟩, .int .i64 0, .int .u8 0]) 32 Tryz.underlying47 (by kernel_rfl) rfl (by decide) (by decide) (.slice A out.length kc) (out.map pd) (pd (pn, pt.at_, py)) [.string ⟨pn.toArray⟩, .int .i64 (pt.at_ : Int), .int .u8 (py : Int)] (fun _ => True) (fun _ => False) _ rfl rfl (by simp [Act.eval]) (by simp [Act.eval]) (k82_mkM _ _ _ _) (fun _ h => h.elim) (fun _ _ => trivial) HKd.out.row HPd.out.bel HPd.out.low (by have := HCAP.out; rw [List.length_map]; unfold cap at this; omega) ?_; intro v1 wn r1 r2 r3 r4; obtain ⟨A1, k1, hv⟩ := Kd.R_slice r1; rw [show (out.map pd ++ [pd (pn, pt.at_, py)]).length = (out.length + 1) from by simp] at hv; subst hv; have m3 := (cell_far' (a := ⟨ob, 2, none⟩) r3 bl l6 b2); have m4 := (frozen_far' (a := ⟨ob, 2, none⟩) r3 bl l6 bf))
                    have hnrs : ∀ i, (Value.slice A1 (out.length + 1) k1).ownBlock = some i → ¬ rs1 i := by
                      intro i hi hr
                      rcases r4 with e | ⟨b, e, hb⟩
                      · exact HKd.out.nrs i (e.symm.trans hi) hr
                      · rw [e] at hi
                        injection hi with hi
                        have := HPd.out.rlt i (.inl hr)
                        omega
                    have hlt : ∀ i, (Value.slice A1 (out.length + 1) k1).ownBlock = some i → i < wn.heap.size := by
                      intro i hi
                      obtain ⟨_, ho⟩ := Kd.R_own r1
                      exact own_lt ho i hi
                    have HPe := Lib.hid ((row_grow HPd.out hlt r2 r3 r4).other (i := ob) (.inl HBd.out.rs) 2 (.slice A1 (out.length + 1) k1))
                    have HBe := Lib.hid ((HBd.out.grown r3 l6).set 2 (.slice A1 (out.length + 1) k1) (cs' := #[.string ⟨nm.toArray⟩, .int .i64 (t.at_ : Int), (.slice A1 (out.length + 1) k1), .int .u8 0, .int .i64 0]) rfl)
                    have HKe : Hid (Ky w0 rs1 (wn.setCell ⟨ob, 2, none⟩ (.slice A1 (out.length + 1) k1)) (.slice A1 (out.length + 1) k1) ((out ++ [(pn, pt.at_, py)]).map pd)) :=
                      Lib.hid (Ky.far ⟨by rw [List.map_append]; exact r1, hnrs⟩ (fun e => hnrs ob e.symm HBd.out.rs) 2 _)
                    clear r1 r2 r3 r4 hnrs hlt
                    go_wp2
                    go_roundg j
                    case measure => omega
                    case rel => exact ⟨out ++ [(pn, pt.at_, py)], s9, nv9, _, H10, HPe, HBe, HKe⟩
end

end Go.Proofs.YtgplgmjnhkhbjaaGreatDoor
