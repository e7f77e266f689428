/-
  The parser's walks, 13: block.
-/
import Derived.Test.YtgplgmjnhkhbjaaGreatDoorTa
set_option linter.unusedVariables false
set_option linter.unusedSimpArgs false
namespace Go.Proofs.YtgplgmjnhkhbjaaGreatDoor
attribute [local go_sem] tok_0 tok_1 tok_2
open Go.RowKit Go.Proofs.YtgplgmjnhkhbjaaGreatDoorW.PrintWords PSameTree PflatTokens Syn

section
variable {w0 W : World} {g : Nat} {src : ByteArray} {rs : Nat → Prop} {s : St} {nv fv : Value}

theorem block_inv {c : Cs} {x : Except Fault (Nat × St)} (h : blockM c s = some x) :
    ∃ t r, s.toks = t :: r ∧
      ((isT [123] t = true ∧ ∃ y, openedM (do wantM [123]; c.stmts [] : M (List Nat)) s = some y ∧ ((∃ f, y = .error f ∧ x = .error f) ∨ ∃ k s1, y = .ok (k, s1) ∧ putM { kind := 21, at_ := t.at_, kids := k } s1 = some x)) ∨
       (isT [123] t = false ∧ x = .error (130, t.at_))) := by
  unfold blockM at h
  rcases bind_is h with ⟨e, h1, _⟩ | ⟨t, s0, h1, h2⟩
  · obtain ⟨t, r, _, hx⟩ := nextM_inv h1
    cases hx
  · obtain ⟨rfl, r, ht⟩ := nextM_ok (x := .ok (t, s0)) h1
    refine ⟨t, r, ht, ?_⟩
    cases ka : isT [123] t
    · rw [ka] at h2
      simp only [cond_false] at h2
      obtain ⟨t', r', ht', hx⟩ := failM_inv h2
      rw [ht] at ht'
      injection ht' with ht' _
      subst ht'
      exact .inr ⟨rfl, hx⟩
    · rw [ka] at h2
      simp only [cond_true] at h2
      refine .inl ⟨rfl, ?_⟩
      rcases bind_is h2 with ⟨e, h9, hx⟩ | ⟨k, s3, h9, h10⟩
      · exact ⟨_, h9, .inl ⟨e, rfl, hx⟩⟩
      · exact ⟨_, h9, .inr ⟨k, s3, rfl, h10⟩⟩

set_option maxRecDepth 100000 in
set_option maxHeartbeats 4000000 in
theorem block_w (N : Nat) (hE : ∀ j, j < N → StmtOK w0 g src fv (lvl j).stmt) {x : Except Fault (Nat × St)} (hm : blockM (lvl N) s = some x) (h : Pz w0 g src rs s nv fv W) :
    Calls Tryz.prog 46 #[.pointer (some ⟨g, 0, none⟩)] W fun e W' => Ends w0 g src rs fv W nv (fun k : Nat => .int .i64 (k : Int)) x e W' := by
  obtain ⟨t, r, ht, hcase⟩ := block_inv hm
  have hmf : ∀ (fn : Fn) (first cap : Array Value) (w : World), (Instr.makeFunc fn first cap).run Tryz.prog w = .ok (.func fn first cap) w := fun _ _ _ _ => rfl
  obtain ⟨rs1, hrs1, hp0, hb0, hm0⟩ := h.new1 #[.pointer (some ⟨g, 0, none⟩)] 70
  have HRS1 := Lib.hid hrs1
  have HN := Lib.hid (next_w ht hp0)
  have HP0 := Lib.hid hp0
  have HQ0 := Lib.hid hb0
  have HM0 := Lib.hid hm0
  have HE := Lib.hid hE
  have HC := Lib.hid hcase
  have HT := Lib.hid ht
  have hpb : W.heap.size < (W.alloc (.cells #[.pointer (some ⟨g, 0, none⟩)] 70)).heap.size := by simp
  clear hm h hcase ht hE hrs1 hp0 hb0 hm0
  go_enter Tryz.func46, Tryz.ntmps46
  go_wp2_with fail
  refine (HN.out).mono ?_
  generalize W.alloc (.cells #[.pointer (some ⟨g, 0, none⟩)] 70) = w0' at HP0 HQ0 HM0 HN hpb ⊢
  rintro e w1 ⟨rfl, hb1⟩
  have HP1 := Lib.hid (HP0.out.below hb1)
  have HQ1 := Lib.hid (HQ0.out.below hb1)
  have HM1 := Lib.hid (HM0.out.trans (Mv.below hb1))
  have hpb1 : W.heap.size < w1.heap.size := Nat.lt_of_lt_of_le hpb hb1.size
  clear hb1 HP0 HQ0 HM0 HN hpb
  obtain ⟨rs2, hrs2, hp2, hb2, hm2⟩ := HP1.out.new1 (ndC 21 (t.at_ : Int) ⟨#[]⟩ 0 0 0 0 (.slice none 0 0)) 46
  have HRS2 := Lib.hid hrs2
  have HP2 := Lib.hid hp2
  have HB2 := Lib.hid hb2
  have HQ2 : Hid (Bx rs2 (w1.alloc (.cells (ndC 21 (t.at_ : Int) ⟨#[]⟩ 0 0 0 0 (.slice none 0 0)) 46)) W.heap.size #[.pointer (some ⟨g, 0, none⟩)] 70) := ⟨blk_alloc HQ1.out.is _, hrs2 _ HQ1.out.rs⟩
  have HM2 := Lib.hid (HM1.out.trans hm2)
  have npq : W.heap.size ≠ w1.heap.size := by omega
  have hnb : W.heap.size ≤ w1.heap.size := by omega
  have c1 : (w1.alloc (.cells (ndC 21 (t.at_ : Int) ⟨#[]⟩ 0 0 0 0 (.slice none 0 0)) 46)).cell? ⟨W.heap.size, 0, none⟩ = some (.pointer (some ⟨g, 0, none⟩)) := (HQ2.out.cell 0).trans rfl
  clear hrs2 hp2 hb2 hm2
  go_wp2_with fail
  change Calls Tryz.prog 87 _ (w1.alloc (.cells (ndC 21 (t.at_ : Int) ⟨#[]⟩ 0 0 0 0 (.slice none 0 0)) 46)) _
  clear c1
  generalize w1.alloc (.cells (ndC 21 (t.at_ : Int) ⟨#[]⟩ 0 0 0 0 (.slice none 0 0)) 46) = w2 at HP2 HB2 HQ2 HM2 ⊢
  generalize hnbe : w1.heap.size = nb at HB2 npq hnb ⊢
  generalize hpbe : W.heap.size = pb at HQ2 npq ⊢
  have hnb : W.heap.size ≤ nb := by omega
  rcases HC.out with ⟨ka, y, hy, hx⟩ | ⟨ka, hx⟩
  · refine (is_w [123] true ka HT.out HP2.out).mono ?_
    rintro e w9 ⟨rfl, hb⟩
    have HP9 := Lib.hid (HP2.out.below hb)
    have HB9 := Lib.hid (HB2.out.below hb)
    have HQ9 := Lib.hid (HQ2.out.below hb)
    have HM9 := Lib.hid (HM2.out.trans (Mv.below hb))
    have c1 : w9.cell? ⟨pb, 0, none⟩ = some (.pointer (some ⟨g, 0, none⟩)) := (HQ9.out.cell 0).trans rfl
    clear hb
    have HX := Lib.hid hx
    have hgb : nb ≠ g := HP9.out.ng HB9.out.rs
    have HC := Lib.hid (opened_w nb (BlkX w0 g rs2 fv nb (t.at_ : Int)) 90 #[.pointer (some ⟨pb, 0, none⟩), .pointer (some ⟨nb, 0, none⟩)] hy HP9.out (fun w => by kernel_rfl)
      (fun k nv' W1 u hx => by
        obtain ⟨A, c, h1, h2⟩ := hx
        exact ⟨A, c, blk_far h1 (p := ⟨g, 2, none⟩) hgb u, Kd.R_far (p := ⟨g, 2, none⟩) h2 (fun k hk => hk.1) u⟩)
      (fun W1 y hp1 hm1 hy => block1_w N HE.out hy hp1 pb nb (t.at_ : Int) (Bx.mv HQ9.out HP9.out hm1) (Bx.mv HB9.out HP9.out hm1) npq))
    clear hy hx
    go_wp2_with fail
    refine (HC.out).mono ?_
    rcases HX.out with ⟨f, rfl, rfl⟩ | ⟨kk, s1, rfl, hx4⟩
    · rintro e wz ⟨rfl, hb⟩
      have HBz := Lib.hid hb
      clear hb
      go_wp2
      exact ⟨rfl, rfl, HBz.out⟩
    · rintro e w6 ⟨rfl, nv6, hp6, hm6, A, cc, hx6, hr6⟩
      have HX4 := Lib.hid hx4
      have hq6 := HQ9.out.mb HP9.out hm6 npq
      have d1 : w6.cell? ⟨pb, 0, none⟩ = some (.pointer (some ⟨g, 0, none⟩)) := (hq6.cell 0).trans rfl
      have e0 := (blk_cell hx6 0).trans rfl
      have e1 := (blk_cell hx6 1).trans rfl
      have e2 := (blk_cell hx6 2).trans rfl
      have e3 := (blk_cell hx6 3).trans rfl
      have e4 := (blk_cell hx6 4).trans rfl
      have e5 := (blk_cell hx6 5).trans rfl
      have e6 := (blk_cell hx6 6).trans rfl
      have e7 := (blk_cell hx6 7).trans rfl
      have HP6 := Lib.hid hp6
      have HR6 := Lib.hid hr6
      have HM6 := Lib.hid (Mb.mv HM9.out hnb hm6)
      clear hp6 hm6 hx6 hr6 hq6 hx4 c1
      go_wp2_with fail
      refine (put_at { kind := 21, at_ := t.at_, kids := kk } (.slice A kk.length cc) HX4.out 21 _ _ 0 _ _ ⟨#[]⟩ rfl rfl rfl rfl rfl rfl rfl HP6.out HR6.out).mono ?_
      clear d1 e0 e1 e2 e3 e4 e5 e6 e7
      obtain ⟨_, rfl⟩ := putM_inv HX4.out
      rintro e wz ⟨rfl, nvz, hpz, hmz⟩
      have HPz := Lib.hid (hpz.free (fun k hk => HRS2.out k (HRS1.out k hk)))
      have HMz := Lib.hid (HM6.out.trans hmz)
      clear hpz hmz
      go_wp2
      go_ret
      exact ⟨rfl, nvz, HPz.out, HMz.out⟩
  · subst hx
    refine (is_w [123] false ka HT.out HP2.out).mono ?_
    rintro e w3 ⟨rfl, hb⟩
    have HP3 := Lib.hid (HP2.out.below hb)
    have HQ3 := Lib.hid (HQ2.out.below hb)
    have c1 : w3.cell? ⟨pb, 0, none⟩ = some (.pointer (some ⟨g, 0, none⟩)) := (HQ3.out.cell 0).trans rfl
    clear hb
    go_wp2_with fail
    refine (fail_w 130 130 rfl HT.out HP3.out).mono ?_
    rintro e wz ⟨rfl, hb⟩
    have HBz := Lib.hid (Below.trans HP3.out.bel (Below.mono hb HP3.out.low))
    clear hb c1
    go_wp2
    exact ⟨rfl, rfl, HBz.out⟩
end

end Go.Proofs.YtgplgmjnhkhbjaaGreatDoor
