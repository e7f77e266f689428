/-
  The parser's walks, 15: choice.
-/
import Derived.Test.YtgplgmjnhkhbjaaGreatDoorTc
set_option linter.unusedVariables false
set_option linter.unusedSimpArgs false
namespace Go.Proofs.YtgplgmjnhkhbjaaGreatDoor
attribute [local go_sem] tok_0 tok_1 tok_2
open Go.RowKit Go.Proofs.YtgplgmjnhkhbjaaGreatDoorW.PrintWords PSameTree PflatTokens Syn

/-- choice does what the model does -/
def ChoiceOK (w0 : World) (g : Nat) (src : ByteArray) (fv : Value) (f : Nat → M Nat) : Prop :=
  ∀ (rs : Nat → Prop) (a : Nat) (W : World) (s : St) (nv : Value) (x : Except Fault (Nat × St)), f a s = some x → Pz w0 g src rs s nv fv W →
    Calls Tryz.prog 132 #[.pointer (some ⟨g, 0, none⟩), .agg (ndC 0 (a : Int) ⟨#[]⟩ 0 0 0 0 (.slice none 0 0))] W fun e W' => Ends w0 g src rs fv W nv (fun k : Nat => .int .i64 (k : Int)) x e W'

section
variable {w0 W : World} {g : Nat} {src : ByteArray} {rs : Nat → Prop} {s : St} {nv fv : Value}

theorem choice_inv {c : Cs} {a : Nat} {x : Except Fault (Nat × St)} (h : choiceM c a s = some x) :
    ∃ y, c.expr 1 s = some y ∧ ((∃ f, y = .error f ∧ x = .error f) ∨ ∃ k s1, y = .ok (k, s1) ∧ ∃ z, blockM c s1 = some z ∧ ((∃ f, z = .error f ∧ x = .error f) ∨
      ∃ b s2, z = .ok (b, s2) ∧ ∃ s3, gotM [101, 108, 115, 101] s2 = some (.ok (false, s3)) ∧ putM { kind := 14, at_ := a, kids := [k, b] } s3 = some x)) := by
  unfold choiceM at h
  rcases bind_is h with ⟨e, h1, hx⟩ | ⟨k, s1, h1, h2⟩
  · exact ⟨_, h1, .inl ⟨e, rfl, hx⟩⟩
  · refine ⟨_, h1, .inr ⟨k, s1, rfl, ?_⟩⟩
    rcases bind_is h2 with ⟨e, h3, hx⟩ | ⟨b, s2, h3, h4⟩
    · exact ⟨_, h3, .inl ⟨e, rfl, hx⟩⟩
    · refine ⟨_, h3, .inr ⟨b, s2, rfl, ?_⟩⟩
      rcases bind_is h4 with ⟨e, h5, _⟩ | ⟨o, s3, h5, h6⟩
      · obtain ⟨t, r, _, hx⟩ := gotM_inv h5
        rcases hx with ⟨_, hx⟩ | ⟨_, _, _, _, hx⟩ <;> cases hx
      · cases o
        · exact ⟨s3, h5, h6⟩
        · cases h6

set_option maxRecDepth 100000 in
set_option maxHeartbeats 8000000 in
theorem choice_w (N : Nat) (hE : ExprOK w0 g src fv (lvl N).expr) (hS : ∀ j, j < N → StmtOK w0 g src fv (lvl j).stmt) : ChoiceOK w0 g src fv (lvl (N + 1)).choice := by
  intro rs a W s nv x hm h
  obtain ⟨y, hy, hcase⟩ := choice_inv (show choiceM (lvl N) a s = some x from hm)
  obtain ⟨rs1, hrs1, hp0, hq0, hn0, hm0⟩ := h.new2 #[.pointer (some ⟨g, 0, none⟩)] (ndC 0 (a : Int) ⟨#[]⟩ 0 0 0 0 (.slice none 0 0)) 70 46
  have HRS := Lib.hid hrs1
  have HP0 := Lib.hid hp0
  have HN0 := Lib.hid hn0
  have HQ0 := Lib.hid hq0
  have HM0 := Lib.hid hm0
  have HC := Lib.hid hcase
  have HY := Lib.hid hy
  have HE := Lib.hid hE
  have HS := Lib.hid hS
  have hob : W.heap.size ≤ W.heap.size + 1 := by omega
  have n1 : W.heap.size ≠ W.heap.size + 1 := by omega
  clear hm h hcase hy hE hS hrs1 hp0 hq0 hn0 hm0
  go_enter Tryz.func132, Tryz.ntmps132
  go_upto_region 1 with fail
  generalize ((W.alloc (.cells #[.pointer (some ⟨g, 0, none⟩)] 70)).alloc (.cells (ndC 0 (a : Int) ⟨#[]⟩ 0 0 0 0 (.slice none 0 0)) 46)) = w1 at HP0 HN0 HQ0 HM0 ⊢
  generalize W.heap.size + 1 = ob at HN0 hob n1 ⊢
  generalize hpe : W.heap.size = pb at HQ0 n1 ⊢
  have hob : W.heap.size ≤ ob := by omega
  have hobl := HN0.out.lt
  have hpbl := HQ0.out.lt
  have f0 := HN0.out.frozen 0
  have z0 := (HN0.out.cell 0).trans rfl
  have HP1 := Lib.hid (HP0.out.other HN0.out.rs 0 (.int .u8 14))
  have HN1 := Lib.hid (HN0.out.set 0 (.int .u8 14) (cs' := ndC 14 (a : Int) ⟨#[]⟩ 0 0 0 0 (.slice none 0 0)) rfl)
  have HQ1 := Lib.hid (HQ0.out.far n1 0 (.int .u8 14))
  have HM1 := Lib.hid (((Mv.refl g w1 nv).mb ob).set 0 (.int .u8 14))
  have c1 : (w1.setCell ⟨ob, 0, none⟩ (.int .u8 14)).cell? ⟨pb, 0, none⟩ = some (.pointer (some ⟨g, 0, none⟩)) := (HQ1.out.cell 0).trans rfl
  have c0 : w1.cell? ⟨pb, 0, none⟩ = some (.pointer (some ⟨g, 0, none⟩)) := (HQ0.out.cell 0).trans rfl
  go_wp2_with fail
  refine (HE.out rs1 1 1 _ s nv y rfl (by omega) HY.out HP1.out).mono ?_
  generalize w1.setCell ⟨ob, 0, none⟩ (.int .u8 14) = w2 at HP1 HN1 HQ1 HM1 c1 ⊢
  clear c1 c0 f0 z0
  rcases HC.out with ⟨f, rfl, rfl⟩ | ⟨k, s1, rfl, z, hz, hx⟩
  · rintro e wz ⟨rfl, hb⟩
    have HBz := Lib.hid hb
    clear hb
    go_wp2
    exact ⟨rfl, rfl, HBz.out⟩
  · rintro e w3 ⟨rfl, nv3, hp3, hm3⟩
    have HP3 := Lib.hid hp3
    have HN3 := Lib.hid (HN1.out.mv HP1.out hm3)
    have HQ3 := Lib.hid (HQ1.out.mv HP1.out hm3)
    have HM3 := Lib.hid (HM1.out.trans (hm3.mb ob))
    have HX := Lib.hid hx
    have HZ := Lib.hid hz
    clear hp3 hm3 hx hz
    have hobl3 := HN3.out.lt
    have f7 := HN3.out.frozen 7
    have z7 := (HN3.out.cell 7).trans rfl
    have p4 := HP3.out.other HN3.out.rs 7 (.slice (some ⟨w3.heap.size, 0, none⟩) 1 1)
    have hsz : (w3.setCell ⟨ob, 7, none⟩ (.slice (some ⟨w3.heap.size, 0, none⟩) 1 1)).heap.size = w3.heap.size := by simp [World.setCell]
    obtain ⟨hba, hr⟩ := p4.kid1 k w3.heap.size hsz
    have p5 := p4.resB hba
    rw [hsz] at p5
    have hsz2 : ((w3.setCell ⟨ob, 7, none⟩ (.slice (some ⟨w3.heap.size, 0, none⟩) 1 1)).alloc (.cells #[.int .i64 (k : Int)] 3)).heap.size = w3.heap.size + 1 := by simp [World.setCell]
    have HP5 : Hid (Pz w0 g src (ro rs1 (.slice (some ⟨w3.heap.size, 0, none⟩) 1 1)) s1 nv3 fv ((w3.setCell ⟨ob, 7, none⟩ (.slice (some ⟨w3.heap.size, 0, none⟩) 1 1)).alloc (.cells #[.int .i64 (k : Int)] 3))) :=
      p5.free (fun i hi => by
        rcases hi with hi | hi
        · exact .inl hi
        · have : i = w3.heap.size := by simpa [Value.ownBlock] using hi
          exact .inr ⟨by omega, by rw [hsz2]; omega⟩)
    have HN5 := Lib.hid ((HN3.out.set 7 (.slice (some ⟨w3.heap.size, 0, none⟩) 1 1) (cs' := ndC 14 (a : Int) ⟨#[]⟩ 0 0 0 0 (.slice (some ⟨w3.heap.size, 0, none⟩) 1 1)) rfl).below hba)
    have HQ5 := Lib.hid ((HQ3.out.far n1 7 (.slice (some ⟨w3.heap.size, 0, none⟩) 1 1)).below hba)
    have HM5 := Lib.hid ((HM3.out.set 7 (.slice (some ⟨w3.heap.size, 0, none⟩) 1 1)).trans ((Mv.below hba).mb ob))
    have HK5 : Hid (Kx w0 w1 ((w3.setCell ⟨ob, 7, none⟩ (.slice (some ⟨w3.heap.size, 0, none⟩) 1 1)).alloc (.cells #[.int .i64 (k : Int)] 3)) (.slice (some ⟨w3.heap.size, 0, none⟩) 1 1) [k]) :=
      ⟨R_int hr (fun _ _ => trivial), fun i hi => by
        have : w3.heap.size = i := by simpa [Value.ownBlock] using hi
        have := HM3.out.size
        omega⟩
    have HZW := Lib.hid (block_w N HS.out HZ.out (HP5.out.below (Below.drew (Below.refl _ _))))
    clear p4 hba hr p5
    go_wp2_with fail
    generalize ((w3.setCell ⟨ob, 7, none⟩ (.slice (some ⟨w3.heap.size, 0, none⟩) 1 1)).alloc (.cells #[.int .i64 (k : Int)] 3)) = w5 at HP5 HN5 HQ5 HM5 HK5 HZW ⊢
    clear hsz hsz2
    generalize hbe : w3.heap.size = bb at HP5 HN5 HQ5 HM5 HK5 HZW ⊢
    have HPd := Lib.hid (HP5.out.below (Below.drew (Below.refl _ w5)))
    have c5 : w5.cell? ⟨ob, 7, none⟩ = some (.slice (some ⟨bb, 0, none⟩) 1 1) := (HN5.out.cell 7).trans rfl
    have c6 : w5.cell? ⟨pb, 0, none⟩ = some (.pointer (some ⟨g, 0, none⟩)) := (HQ5.out.cell 0).trans rfl
    have HBod := Lib.hid (HN5.out.below (Below.drew (Below.refl _ w5)))
    have HBpd := Lib.hid (HQ5.out.below (Below.drew (Below.refl _ w5)))
    have HKd := Lib.hid (HK5.out.below (Below.drew (Below.refl _ w5)))
    clear f7 z7
    go_region_law (first
      | (go_simp; go_at_call 46; (with_reducible refine (HZW.out).mono ?_); intro e w' he; obtain ⟨f, rfl, rfl⟩ | ⟨kk, s5, rfl, hx5⟩ := HX.out; (obtain ⟨rfl, hb⟩ := he; exact ⟨rfl, rfl, hb⟩); obtain ⟨rfl, nv6, hp6, hm6⟩ := he; have HP6 := Lib.hid hp6; have HM6 := Lib.hid hm6; have HBo6 := Lib.hid (HBod.out.mvr HPd.out hm6); have HBp6 := Lib.hid (HBpd.out.mvr HPd.out hm6); have HK6 := Lib.hid (HKd.out.mv HPd.out hm6); clear hp6 hm6; have c7 : w'.cell? ⟨ob, 7, none⟩ = some (.slice (some ⟨bb, 0, none⟩) 1 1) := (HBo6.out.cell 7).trans rfl; have f7 := (HBo6.out.frozen 7); have l5 := HBo6.out.lt; have l6 : some ob ≠ (Value.slice (some ⟨bb, 0, none⟩) 1 1).ownBlock := fun e => absurd (HK6.out.new ob e.symm) (by omega))
      | (refine append_any (Kd.int .i64) w0 _ w0.heap.size rfl (.tmp 12) (.tmp 15) 44 3 rfl (.int .i64 0) 8 Tryz.underlying44 (by kernel_rfl) rfl (by decide) (by decide) (.slice (some ⟨bb, 0, none⟩) 1 1) (ns [k]) (kk : Int) [.int .i64 (kk : Int)] (fun _ => True) (fun _ => False) _ rfl rfl (by simp [Act.eval]) (by simp [Act.eval]) rfl (fun _ h => h.elim) (fun _ _ => trivial) HK6.out.row HP6.out.bel HP6.out.low (by simp [ns_len]) ?_; intro v1 wn r1 r2 r3 r4; obtain ⟨A1, k1, hv⟩ := Kd.R_slice r1; rw [show (ns [k] ++ [(kk : Int)]).length = 2 from rfl] at hv; subst hv; have m3 := (cell_far' (a := ⟨ob, 7, none⟩) r3 l5 l6 c7); have m4 := (frozen_far' (a := ⟨ob, 7, none⟩) r3 l5 l6 f7)))
    all_goals
      obtain ⟨s6, hg6, hput⟩ := hx5
      have p7 := (kids_grow HP6.out r1 r2 r3 r4).other (i := ob) (.inl HBo6.out.rs) 7 (.slice A1 2 k1)
      have l7 : some pb ≠ (Value.slice (some ⟨bb, 0, none⟩) 1 1).ownBlock := fun e => absurd (HK6.out.new pb e.symm) (by omega)
      have HP7 := Lib.hid p7
      have HM7 := Lib.hid ((((HM5.out.drew).trans (HM6.out.mb ob)).grown r3 HK6.out.new).set 7 (.slice A1 2 k1))
      have HBo7 := Lib.hid ((HBo6.out.grown r3 l6).set 7 (.slice A1 2 k1) (cs' := ndC 14 (a : Int) ⟨#[]⟩ 0 0 0 0 (.slice A1 2 k1)) rfl)
      have HBp7 := Lib.hid ((HBp6.out.grown r3 l7).far n1 7 (.slice A1 2 k1))
      have hnew : ∀ i, (Value.slice A1 2 k1).ownBlock = some i → w1.heap.size ≤ i := by
        intro i hi
        rcases r4 with e | ⟨b, e, hb⟩
        · exact HK6.out.new i (e.symm.trans hi)
        · rw [e] at hi
          injection hi with hi
          have h1 := HM7.out.size
          have h2 := (HM5.out.drew.trans (HM6.out.mb ob)).size
          omega
      have hne : some ob ≠ (Value.slice A1 2 k1).ownBlock := fun e => by
        have := hnew ob e.symm
        omega
      have HK7 : Hid (Kx w0 w1 (wn.setCell ⟨ob, 7, none⟩ (.slice A1 2 k1)) (.slice A1 2 k1) [k, kk]) :=
        Kx.far ⟨r1, hnew⟩ hne 7 _
      have HG := Lib.hid (got_w [101, 108, 115, 101] hg6 p7)
      have HPUT := Lib.hid hput
      have c8 : (wn.setCell ⟨ob, 7, none⟩ (.slice A1 2 k1)).cell? ⟨pb, 0, none⟩ = some (.pointer (some ⟨g, 0, none⟩)) := (HBp7.out.cell 0).trans rfl
      clear p7 r1 r2 r3 r4 hnew hne hg6 hput m3 m4 c7 c5 c6 f7
      go_wp2_with fail
      refine (HG.out).mono ?_
      clear HG c8
      rintro e w8 ⟨rfl, nv8, hp8, hm8⟩
      have HBo8 := Lib.hid (HBo7.out.mvr HP7.out hm8)
      have HBp8 := Lib.hid (HBp7.out.mvr HP7.out hm8)
      have HK8 := Lib.hid (HK7.out.mv HP7.out hm8)
      have HR8 := Lib.hid (HK8.out.done HP0.out hp8)
      have HP8 := Lib.hid (Pz.free (rs := rs1) hp8 (fun k hk => .inl hk))
      have HM8 := Lib.hid (Mb.mv HM0.out hob (HM7.out.trans (hm8.mb ob)))
      have d1 : w8.cell? ⟨pb, 0, none⟩ = some (.pointer (some ⟨g, 0, none⟩)) := (HBp8.out.cell 0).trans rfl
      have e0 := (HBo8.out.cell 0).trans rfl
      have e1 := (HBo8.out.cell 1).trans rfl
      have e2 := (HBo8.out.cell 2).trans rfl
      have e3 := (HBo8.out.cell 3).trans rfl
      have e4 := (HBo8.out.cell 4).trans rfl
      have e5 := (HBo8.out.cell 5).trans rfl
      have e6 := (HBo8.out.cell 6).trans rfl
      have e7 := (HBo8.out.cell 7).trans rfl
      clear hp8 hm8
      go_wp2_with fail
      refine (put_at { kind := 14, at_ := a, kids := [k, kk] } (.slice A1 2 k1) HPUT.out 14 _ _ 0 _ _ ⟨#[]⟩ rfl rfl rfl rfl rfl rfl rfl HP8.out HR8.out).mono ?_
      clear d1 e0 e1 e2 e3 e4 e5 e6 e7
      obtain ⟨_, rfl⟩ := putM_inv HPUT.out
      rintro e wz ⟨rfl, nvz, hpz, hmz⟩
      have HPz := Lib.hid (hpz.free HRS.out)
      have HMz := Lib.hid (HM8.out.trans hmz)
      clear hpz hmz
      go_wp2
      go_ret
      exact ⟨rfl, nvz, HPz.out, HMz.out⟩
end

end Go.Proofs.YtgplgmjnhkhbjaaGreatDoor
