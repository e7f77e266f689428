/-
  The parser's walks, 11: expr.
-/
import Derived.Test.YtgplgmjnhkhbjaaGreatDoorSy
import Derived.Deep.CutRange
set_option linter.unusedVariables false
set_option linter.unusedSimpArgs false
namespace Go.Proofs.YtgplgmjnhkhbjaaGreatDoor
attribute [local go_sem] tok_0 tok_1 tok_2
open Go.RowKit Go.Proofs.YtgplgmjnhkhbjaaGreatDoorW.PrintWords PSameTree PflatTokens Syn

theorem nd_new_lt (w : World) (o : Obj) : w.heap.size < (w.alloc o).heap.size := by simp
theorem nd_below {w w' : World} (h : Below w.heap.size w w') (v0 v1 v2 v3 v4 v5 v6 v7 : Value) : Below w.heap.size w ((((((((w'.setCell ⟨w.heap.size, 0, none⟩ v0).setCell ⟨w.heap.size, 1, none⟩ v1).setCell ⟨w.heap.size, 2, none⟩ v2).setCell ⟨w.heap.size, 3, none⟩ v3).setCell ⟨w.heap.size, 4, none⟩ v4).setCell ⟨w.heap.size, 5, none⟩ v5).setCell ⟨w.heap.size, 6, none⟩ v6).setCell ⟨w.heap.size, 7, none⟩ v7) :=
  below_set (below_set (below_set (below_set (below_set (below_set (below_set (below_set h (Nat.le_refl _)) (Nat.le_refl _)) (Nat.le_refl _)) (Nat.le_refl _)) (Nat.le_refl _)) (Nat.le_refl _)) (Nat.le_refl _)) (Nat.le_refl _)
theorem nd_fill {w : World} {b : Nat} {u0 u1 u2 u3 u4 u5 u6 u7 : Value} (h : w.heap[b]? = some (.cells #[u0, u1, u2, u3, u4, u5, u6, u7] 46 (0, 0))) (v0 v1 v2 v3 v4 v5 v6 v7 : Value) : ((((((((w.setCell ⟨b, 0, none⟩ v0).setCell ⟨b, 1, none⟩ v1).setCell ⟨b, 2, none⟩ v2).setCell ⟨b, 3, none⟩ v3).setCell ⟨b, 4, none⟩ v4).setCell ⟨b, 5, none⟩ v5).setCell ⟨b, 6, none⟩ v6).setCell ⟨b, 7, none⟩ v7).heap[b]? = some (.cells #[v0, v1, v2, v3, v4, v5, v6, v7] 46 (0, 0)) := by
  refine blk_put (cs := #[v0, v1, v2, v3, v4, v5, v6, u7]) ?_ 7 _ rfl
  refine blk_put (cs := #[v0, v1, v2, v3, v4, v5, u6, u7]) ?_ 6 _ rfl
  refine blk_put (cs := #[v0, v1, v2, v3, v4, u5, u6, u7]) ?_ 5 _ rfl
  refine blk_put (cs := #[v0, v1, v2, v3, u4, u5, u6, u7]) ?_ 4 _ rfl
  refine blk_put (cs := #[v0, v1, v2, u3, u4, u5, u6, u7]) ?_ 3 _ rfl
  refine blk_put (cs := #[v0, v1, u2, u3, u4, u5, u6, u7]) ?_ 2 _ rfl
  refine blk_put (cs := #[v0, u1, u2, u3, u4, u5, u6, u7]) ?_ 1 _ rfl
  exact blk_put h 0 _ rfl
theorem nd_lt {w : World} {b : Nat} {u0 u1 u2 u3 u4 u5 u6 u7 : Value} (h : w.heap[b]? = some (.cells #[u0, u1, u2, u3, u4, u5, u6, u7] 46 (0, 0))) (v0 v1 v2 v3 v4 v5 v6 v7 : Value) : b < ((((((((w.setCell ⟨b, 0, none⟩ v0).setCell ⟨b, 1, none⟩ v1).setCell ⟨b, 2, none⟩ v2).setCell ⟨b, 3, none⟩ v3).setCell ⟨b, 4, none⟩ v4).setCell ⟨b, 5, none⟩ v5).setCell ⟨b, 6, none⟩ v6).setCell ⟨b, 7, none⟩ v7).heap.size := blk_lt (nd_fill h v0 v1 v2 v3 v4 v5 v6 v7)

/-- what holds where expr jumps back -/
def ExI (w0 : World) (g : Nat) (src : ByteArray) (rs : Nat → Prop) (fv : Value) (W : World) (nv : Value) (p N : Nat) (x : Except Fault (Nat × St)) (n : Nat) (a : Act) (w : World) : Prop :=
  ∃ (left : Nat) (s' : St) (nv' : Value), (∃ u2 u3 u4 u6 u7 u8 u9 u10 u11 u12 u13 u14 u15 u16 u17 u18 u19 u20 u21 u22 u23 u24 u25 u26 u27 u28 u29 u30 u31 u32 u33 u34 u35 u36 u37 u38 u39 u40 u41 u42 u43 u44 u45 u46 u47 u48 u49 u50 u51 u52 u53 u54, a = { tmps := #[.pointer (some ⟨g, 0, none⟩), .int .i64 (p : Int), u2, u3, u4, .int .i64 (left : Int), u6, u7, u8, u9, u10, u11, u12, u13, u14, u15, u16, u17, u18, u19, u20, u21, u22, u23, u24, u25, u26, u27, u28, u29, u30, u31, u32, u33, u34, u35, u36, u37, u38, u39, u40, u41, u42, u43, u44, u45, u46, u47, u48, u49, u50, u51, u52, u53, u54], defers := [] }) ∧ n ≤ N ∧ Hid ((lvl n).again p left s' = some x) ∧ Hid (Pz w0 g src rs s' nv' fv w) ∧ Hid (Mv g W nv w nv')

section
variable {w0 W : World} {g : Nat} {src : ByteArray} {rs : Nat → Prop} {s : St} {nv fv : Value}

theorem expr_inv {c : Cs} {p : Nat} {x : Except Fault (Nat × St)} (h : exprM c p s = some x) :
    (5 < p ∧ c.unary s = some x) ∨ (p ≤ 5 ∧ ∃ y, c.expr (p + 1) s = some y ∧ ((∃ f, y = .error f ∧ x = .error f) ∨ ∃ l s1, y = .ok (l, s1) ∧ c.again p l s1 = some x)) := by
  unfold exprM at h
  cases hb : Nat.blt 5 p
  · rw [hb] at h
    simp only [cond_false] at h
    refine .inr ⟨by rw [← Bool.not_eq_true, Nat.blt_eq] at hb; omega, ?_⟩
    rcases bind_is h with ⟨e, h3, hx⟩ | ⟨l, s1, h3, h4⟩
    · exact ⟨_, h3, .inl ⟨e, rfl, hx⟩⟩
    · exact ⟨_, h3, .inr ⟨l, s1, rfl, h4⟩⟩
  · rw [hb] at h
    exact .inl ⟨by simpa [Nat.blt_eq] using hb, h⟩

set_option maxRecDepth 100000 in
set_option maxHeartbeats 8000000 in
theorem expr_w (N : Nat) (hG : ∃ t fr, w0.heap[0]? = some (.cells rowsL.toArray t fr)) (hE : ∀ j, j ≤ N → ExprOK w0 g src fv (lvl j).expr) (hU : UnaryOK w0 g src fv (lvl N).unary) : ExprOK w0 g src fv (lvl (N + 1)).expr := by
  intro rs p i W s nv x hi hp hm h
  subst hi
  have hm : exprM (lvl N) p s = some x := hm
  rcases expr_inv hm with ⟨h5, hx⟩ | ⟨h5, y, hy, hx⟩
  · have HC := Lib.hid (hU rs W s nv x hx h)
    have d0 : ((p : Int) > 5) := by omega
    clear hm h hx hE hU
    go_enter Tryz.func133, Tryz.ntmps133
    go_wp2
    go_step3
    go_wp2_with fail
    refine (HC.out).mono ?_
    rcases x with f | ⟨k, s'⟩
    · rintro e wz ⟨rfl, hb⟩
      have HBz := Lib.hid hb
      clear hb
      go_wp2
      exact ⟨rfl, rfl, HBz.out⟩
    · rintro e wz ⟨rfl, nvz, hp, hm⟩
      have HPz := Lib.hid hp
      have HMz := Lib.hid hm
      clear hp hm
      go_wp2
      rw [Exit.noGoto_ret]
      go_ret
      exact ⟨rfl, nvz, HPz.out, HMz.out⟩
  · have HE := Lib.hid hE
    have HP := Lib.hid h
    have HC := Lib.hid (hE N (Nat.le_refl _) rs (p + 1) ((p : Int) + 1) W s nv y (by omega) (by omega) hy h)
    have HX := Lib.hid hx
    have d0 : ¬ ((p : Int) > 5) := by omega
    have hw : wrap64 ((p : Int) + 1) = (p : Int) + 1 := by unfold wrap64; omega
    clear hm h hx hE hU hy
    go_enter Tryz.func133, Tryz.ntmps133
    go_wp2
    refine wp_scope_pass 0 (ExI w0 g src rs fv W nv p N x) rfl ?pass ?first
    case first =>
      intro H
      have HH := Lib.hid H
      clear H
      go_wp2_with fail
      refine (HC.out).mono ?_
      rcases HX.out with ⟨f, rfl, rfl⟩ | ⟨l, s1, rfl, hx1⟩
      · rintro e wz ⟨rfl, hb⟩
        have HBz := Lib.hid hb
        clear hb
        go_wp2
        exact ⟨rfl, rfl, HBz.out⟩
      · rintro e w1 ⟨rfl, nv1, hp1, hm1⟩
        have HP1 := Lib.hid hp1
        have HM1 := Lib.hid hm1
        have HX1 := Lib.hid hx1
        clear hp1 hm1 hx1
        go_wp2
        refine wp_label ?_
        refine ‹∀ (a : Act) (w : World), Code.wp Tryz.prog _ _ a w → _› _ _ (HH.out N _ _ ?_)
        exact ⟨l, s1, nv1, ⟨_, _, _, _, _, _, _, _, _, _, _, _, _, _, _, _, _, _, _, _, _, _, _, _, _, _, _, _, _, _, _, _, _, _, _, _, _, _, _, _, _, _, _, _, _, _, _, _, _, _, _, _, rfl⟩, Nat.le_refl _, HX1, HP1, HM1⟩
    case pass =>
      intro n a w hI
      obtain ⟨left, s', nv', ⟨u2, u3, u4, u6, u7, u8, u9, u10, u11, u12, u13, u14, u15, u16, u17, u18, u19, u20, u21, u22, u23, u24, u25, u26, u27, u28, u29, u30, u31, u32, u33, u34, u35, u36, u37, u38, u39, u40, u41, u42, u43, u44, u45, u46, u47, u48, u49, u50, u51, u52, u53, u54, rfl⟩, hn, HA, HPa, HMa⟩ := hI
      obtain ⟨j, rfl⟩ : ∃ j, n = j + 1 := by
        cases n with
        | zero => exact absurd HA.out (by simp [lvl, noneM])
        | succ j => exact ⟨j, rfl⟩
      obtain ⟨t, r, ht, hcase⟩ := again_inv (show againM (lvl j) p left s' = some x from HA.out)
      have HT := Lib.hid ht
      have HCs := Lib.hid hcase
      obtain ⟨gt, gfr, hg0⟩ := hG
      have hg : w.heap[0]? = some (.cells rowsL.toArray gt gfr) := (HPa.out.bel.block 0 (Array.getElem?_eq_some_iff.1 hg0).1).trans hg0
      clear ht hcase HA HC HX hg0
      go_wp2_with (first | (refine wpList_load_row rfl 175 _ rfl 0 rfl gt _ gfr _ hg Tryz.underlying175 rfl (by kernel_rfl) ?_))
      clear hg
      go_loopw [5, 18] (fun v5 v wr => ∃ i : Nat, i ≤ 18 ∧ v = .int .i64 (i : Int) ∧ v5 = .int .i64 (left : Int) ∧ Hid (Pz w0 g src rs s' nv' fv wr) ∧ Hid (Mv g W nv wr nv') ∧ Hid ((rows.take i).find? (fun r => Nat.beq r.at_ p && isT r.sign t) = none)) (fun _ v wr => 18 - (intOf v).toNat)
      case atStart => exact ⟨0, by omega, rfl, rfl, HPa, HMa, Lib.hid rfl⟩
      case round =>
        obtain ⟨i, hi, rfl, rfl, HPr, HMr, HF⟩ := hrel
        by_cases hi8 : i < 18
        · have d1 : decide ((i : Int) < 18) = true := decide_eq_true (by omega)
          obtain ⟨row, hrow, hix⟩ := row_get i hi8
          obtain ⟨rs2, hrs2, hp2, hb2, hm2⟩ := HPr.out.new1 #[.string ⟨row.sign.toArray⟩, .int .i64 (row.at_ : Int), .int .u8 (row.kind : Int), .int .u8 (row.op : Int)] 174
          have HRS := Lib.hid hrs2
          have HP2 := Lib.hid hp2
          have HB2 := Lib.hid hb2
          have HM2 := Lib.hid (HMr.out.trans hm2)
          have HRW := Lib.hid hrow
          have hlowr := HMr.out.kp.1
          clear hrs2 hp2 hb2 hm2 hrow
          by_cases he : row.at_ = p
          · have d2 : ((row.at_ : Int) == (p : Int)) = true := beq_iff_eq.2 (by omega)
            have be : Nat.beq row.at_ p = true := by rw [Nat.beq_eq]; exact he
            obtain ⟨bb, hbb⟩ : ∃ b, isT row.sign t = b := ⟨_, rfl⟩
            have HI := Lib.hid (is_w row.sign bb hbb HT.out HP2.out)
            have HBB := Lib.hid hbb
            have BE := Lib.hid be
            clear hbb he be
            go_wp2_with fail
            refine (HI.out).mono ?_
            clear HI
            generalize wr.alloc (.cells #[.string ⟨row.sign.toArray⟩, .int .i64 (row.at_ : Int), .int .u8 (row.kind : Int), .int .u8 (row.op : Int)] 174) = w2 at HP2 HB2 HM2 ⊢
            generalize wr.heap.size = rb at HB2 hlowr ⊢
            rintro e w3 ⟨rfl, hb3⟩
            have HP3 := Lib.hid (HP2.out.below hb3)
            have HB3 := Lib.hid (HB2.out.below hb3)
            have HM3 := Lib.hid (HM2.out.trans (Mv.below hb3))
            clear hb3
            cases bb
            · go_wp2
              go_roundw
              case rel => exact ⟨i + 1, by omega, by go_num, rfl, Lib.hid (HP3.out.free HRS.out), HM3, Lib.hid (find_next HRW.out HF.out (by rw [BE.out, HBB.out]; rfl))⟩
              case measure => simp [intOf]; omega
            · have c0 : w3.cell? ⟨rb, 0, none⟩ = some (.string ⟨row.sign.toArray⟩) := (HB3.out.cell 0).trans rfl
              have c2 : w3.cell? ⟨rb, 2, none⟩ = some (.int .u8 (row.kind : Int)) := (HB3.out.cell 2).trans rfl
              have c3 : w3.cell? ⟨rb, 3, none⟩ = some (.int .u8 (row.op : Int)) := (HB3.out.cell 3).trans rfl
              have hrb := HB3.out.lt
              have HNX : Hid (∀ W', Below w3.heap.size w3 W' → Calls Tryz.prog 22 #[.pointer (some ⟨g, 0, none⟩)] W' fun e w' => e = .returned (.agg #[.int .u8 (t.kind : Int), .int .i64 (t.at_ : Int), .int .i64 (t.stop : Int)]) ∧ Below w3.heap.size w3 w' ∧ Below W'.heap.size W' w' ∧ w'.cell? ⟨rb, 2, none⟩ = some (.int .u8 (row.kind : Int)) ∧ w'.cell? ⟨rb, 3, none⟩ = some (.int .u8 (row.op : Int)) ∧ rb < w'.heap.size) := by
                intro W' hb
                refine (next_w HT.out (HP3.out.below hb)).mono ?_
                rintro e w' ⟨rfl, hb'⟩
                have hb2 := Below.trans hb (Below.mono hb' hb.size)
                exact ⟨rfl, hb2, hb', pw_cell_below hb2 c2, pw_cell_below hb2 c3, Nat.lt_of_lt_of_le hrb hb2.size⟩
              have hd := Lib.hid (Below.drew (Below.refl w3.heap.size w3))
              have hda := Lib.hid (Below.drew (below_alloc (Below.refl w3.heap.size w3) (.cells (ndC 0 0 ⟨#[]⟩ 0 0 0 0 (.slice none 0 0)) 46)))
              go_wp2_with fail
              go_cut [8] from 31 to 38 (fun s8 wc => ∃ nb : Nat, s8 = .pointer (some ⟨nb, 0, none⟩) ∧ w3.heap.size ≤ nb ∧ nb < wc.heap.size ∧ Below w3.heap.size w3 wc ∧ wc.heap[nb]? = some (.cells (ndC (row.kind : Int) (t.at_ : Int) ⟨#[]⟩ 0 (row.op : Int) 0 0 (.slice none 0 0)) 46 (0, 0)))
              case first =>
                rename_i J9 K9 hj9 hk9
                clear HCs HF HRW HPa HMa HP2 HB2 HM2 HPr HMr HP
                go_region_with (first | (go_at_call 22; (with_reducible refine (HNX.out _ hd.out).mono ?_); rintro e w' ⟨rfl, hb4, hb5, c2', c3', hrb'⟩) | (go_at_call 22; (refine (HNX.out _ hda.out).mono ?_); rintro e w' ⟨rfl, hb4, hb5, c2', c3', hrb'⟩; have zb := Lib.hid (blk_below (blk_drew (blk_new w3 (.cells (ndC 0 0 ⟨#[]⟩ 0 0 0 0 (.slice none 0 0)) 46))) hb5); have z0 := (blk_cell zb.out 0).trans rfl; have z1 := (blk_cell zb.out 1).trans rfl; have z2 := (blk_cell zb.out 2).trans rfl; have z3 := (blk_cell zb.out 3).trans rfl; have z4 := (blk_cell zb.out 4).trans rfl; have z5 := (blk_cell zb.out 5).trans rfl; have z6 := (blk_cell zb.out 6).trans rfl; have z7 := (blk_cell zb.out 7).trans rfl; have y0 := blk_frozen zb.out 0; have y1 := blk_frozen zb.out 1; have y2 := blk_frozen zb.out 2; have y3 := blk_frozen zb.out 3; have y4 := blk_frozen zb.out 4; have y5 := blk_frozen zb.out 5; have y6 := blk_frozen zb.out 6; have y7 := blk_frozen zb.out 7))
                all_goals
                  refine hk9 _ _ (Met.intro (hj9 _ _ ?_))
                  (repeat apply Exists.intro)
                  refine ⟨?rel, rfl⟩
                  case rel => first | exact ⟨_, rfl, Nat.le_refl _, nd_lt zb.out _ _ _ _ _ _ _ _, nd_below hb4 _ _ _ _ _ _ _ _, nd_fill zb.out _ _ _ _ _ _ _ _⟩ | exact ⟨_, rfl, hb4.size, nd_new_lt _ _, below_alloc hb4 _, blk_new _ _⟩
              case rest =>
                obtain ⟨nb, rfl, hn1, hn2, hbw, hnc⟩ := hcut
                rcases HCs.out with ⟨hf, _⟩ | ⟨row', hf, y, hy, hx⟩
                · rw [find_at HRW.out HF.out (by rw [BE.out, HBB.out]; rfl)] at hf
                  cases hf
                · have hf' := find_at HRW.out HF.out (by rw [BE.out, HBB.out]; rfl)
                  rw [hf'] at hf
                  obtain rfl := Option.some.inj hf
                  clear hf hf' c0 c2 c3 hd hda HNX
                  obtain ⟨rs3, hrs3, hp3, hbn, hbr⟩ : ∃ rs3 : Nat → Prop, (∀ k, rs2 k → rs3 k) ∧ Pz w0 g src rs3 s' nv' fv wc ∧ Bx rs3 wc nb (ndC (row.kind : Int) (t.at_ : Int) ⟨#[]⟩ 0 (row.op : Int) 0 0 (.slice none 0 0)) 46 ∧ Bx rs3 wc rb #[.string ⟨row.sign.toArray⟩, .int .i64 (row.at_ : Int), .int .u8 (row.kind : Int), .int .u8 (row.op : Int)] 174 :=
                    ⟨_, fun k hk => .inl hk, HP3.out.resB hbw, ⟨hnc, .inr ⟨hn1, hn2⟩⟩, ⟨(HB3.out.below hbw).is, .inl HB3.out.rs⟩⟩
                  have HRS3 := Lib.hid hrs3
                  have HPc := Lib.hid hp3
                  have HBn := Lib.hid hbn
                  have HMc := Lib.hid (HM3.out.trans (Mv.below hbw))
                  have c0 : wc.cell? ⟨rb, 0, none⟩ = some (.string ⟨row.sign.toArray⟩) := (hbr.cell 0).trans rfl
                  have HW := Lib.hid (want_w row.sign hy hp3)
                  have HX := Lib.hid hx
                  have hww : wrap64 ((p : Int) + 1) = (p : Int) + 1 := by unfold wrap64; omega
                  have hlown : W.heap.size ≤ nb := Nat.le_trans HM3.out.kp.1 hn1
                  clear hrs3 hp3 hbn hbr hy hx hbw hnc hn1 hn2 HM3 HP3 HB3 HB2 HP2 HM2 hrb hlowr
                  go_wp2_with fail
                  refine (HW.out).mono ?_
                  clear HW
                  rcases HX.out with ⟨f, rfl, rfl⟩ | ⟨s1, rfl, z, hz, hx⟩
                  · rintro e wz ⟨rfl, hb⟩
                    have HBz := Lib.hid hb
                    clear hb
                    go_wp2
                    exact ⟨rfl, rfl, HBz.out⟩
                  · rintro e w4 ⟨rfl, nv4, hp4, hm4⟩
                    have HP4 := Lib.hid hp4
                    have HB4 := Lib.hid (HBn.out.mv HPc.out hm4)
                    have HM4 := Lib.hid (HMc.out.trans hm4)
                    have HX := Lib.hid hx
                    have HZ := Lib.hid (HE.out j (by omega) rs3 (p + 1) ((p : Int) + 1) w4 s1 nv4 z (by omega) (by omega) hz hp4)
                    clear hp4 hm4 hx hz c0
                    go_wp2_with fail
                    refine (HZ.out).mono ?_
                    clear HZ
                    rcases HX.out with ⟨f, rfl, rfl⟩ | ⟨k, s2, rfl, l, s3, hput, hx⟩
                    · rintro e wz ⟨rfl, hb⟩
                      have HBz := Lib.hid hb
                      clear hb
                      go_wp2
                      exact ⟨rfl, rfl, HBz.out⟩
                    · rintro e w5 ⟨rfl, nv5, hp5, hm5⟩
                      have b5 := HB4.out.mv HP4.out hm5
                      have HM5 := Lib.hid (HM4.out.trans hm5)
                      have hbl := b5.lt
                      have f7 := b5.frozen 7
                      have c7 := (b5.cell 7).trans rfl
                      have p6 := hp5.other b5.rs 7 (.slice (some ⟨w5.heap.size, 0, none⟩) 2 2)
                      obtain ⟨hba, hr⟩ := p6.kid2 left k (w5.heap.size) (by simp [World.setCell])
                      have HP6 := Lib.hid (p6.below hba)
                      have HR6 := Lib.hid hr
                      have HM6 := Lib.hid (Mb.mv HM5.out (Nat.le_trans hlown (Nat.le_refl _)) (((Mv.refl g w5 nv5).mb nb).set 7 (.slice (some ⟨w5.heap.size, 0, none⟩) 2 2) |>.trans ((Mv.below hba).mb nb)))
                      have HN6 := Lib.hid ((b5.set 7 (.slice (some ⟨w5.heap.size, 0, none⟩) 2 2) (cs' := ndC (row.kind : Int) (t.at_ : Int) ⟨#[]⟩ 0 (row.op : Int) 0 0 (.slice (some ⟨w5.heap.size, 0, none⟩) 2 2)) rfl).below hba)
                      have e0 := (HN6.out.cell 0).trans rfl
                      have e1 := (HN6.out.cell 1).trans rfl
                      have e2 := (HN6.out.cell 2).trans rfl
                      have e3 := (HN6.out.cell 3).trans rfl
                      have e4 := (HN6.out.cell 4).trans rfl
                      have e5 := (HN6.out.cell 5).trans rfl
                      have e6 := (HN6.out.cell 6).trans rfl
                      have e7 := (HN6.out.cell 7).trans rfl
                      have HPUT := Lib.hid hput
                      have HX := Lib.hid hx
                      clear hp5 hm5 b5 p6 hba hr hput hx
                      go_wp2_with fail
                      refine (put_at { kind := row.kind, at_ := t.at_, op := row.op, kids := [left, k] } (.slice (some ⟨w5.heap.size, 0, none⟩) 2 2) HPUT.out _ _ _ _ _ _ ⟨#[]⟩ rfl rfl rfl rfl rfl rfl rfl HP6.out HR6.out).mono ?_
                      clear e0 e1 e2 e3 e4 e5 e6 e7 f7 c7
                      rintro e wz ⟨rfl, nvz, hpz, hmz⟩
                      have HPz := Lib.hid (hpz.free (fun k hk => HRS3.out k (HRS.out k hk)))
                      have HMz := Lib.hid (HM6.out.trans hmz)
                      clear hpz hmz
                      go_wp2
                      refine (wp_goto ?_)
                      exact ⟨rfl, j, Nat.lt_succ_self j, l, s3, nvz, ⟨_, _, _, _, _, _, _, _, _, _, _, _, _, _, _, _, _, _, _, _, _, _, _, _, _, _, _, _, _, _, _, _, _, _, _, _, _, _, _, _, _, _, _, _, _, _, _, _, _, _, _, _, rfl⟩, by omega, HX.out, HPz.out, HMz.out⟩
          · have d2 : ((row.at_ : Int) == (p : Int)) = false := beq_eq_false_iff_ne.2 (by omega)
            have be : Nat.beq row.at_ p = false := by rw [← Bool.not_eq_true, Nat.beq_eq]; exact he
            have BE := Lib.hid be
            clear he be
            go_wp2
            go_roundw
            case rel => exact ⟨i + 1, by omega, by go_num, rfl, Lib.hid (HP2.out.free HRS.out), HM2, Lib.hid (find_next HRW.out HF.out (by rw [BE.out]; rfl))⟩
            case measure => simp [intOf]; omega
        · have d1 : decide ((i : Int) < 18) = false := decide_eq_false (by omega)
          have hn0 : rows.find? (fun r => Nat.beq r.at_ p && isT r.sign t) = none := by
            have := HF.out
            rwa [List.take_of_length_le (by show rows.length ≤ i; have : rows.length = 18 := rfl; omega)] at this
          have hfin : x = .ok (left, s') := by
            rcases HCs.out with ⟨_, hx⟩ | ⟨row, hf, _⟩
            · exact hx
            · rw [hn0] at hf; cases hf
          have HFN := Lib.hid hfin
          clear hfin hn0
          go_wp2
          refine jump_ret ?_
          go_ret
          rw [HFN.out]
          exact ⟨rfl, nv', HPr.out, HMr.out⟩
end

end Go.Proofs.YtgplgmjnhkhbjaaGreatDoor
