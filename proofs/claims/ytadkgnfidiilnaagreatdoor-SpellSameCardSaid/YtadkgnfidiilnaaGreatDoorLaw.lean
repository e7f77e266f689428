/-
  The walk of the law SpellSame.
-/
import Derived.Test.YtadkgnfidiilnaaGreatDoorSam
import Derived.Test.YtadkgnfidiilnaaGreatDoorAwk
import Derived.Test.YtadkgnfidiilnaaGreatDoorCc
import Derived.Deep.RegionHeld3
import Derived.Deep.DrawnRows
set_option linter.unusedVariables false
set_option linter.unusedSimpArgs false
namespace Go.Proofs.YtadkgnfidiilnaaGreatDoor
open Go.RowKit Go.Proofs.YtadkgnfidiilnaaGreatDoorW.PrintWords PSame
attribute [local go_sem ↓] Go.wp_at_zero Go.wp_at_succ

/-- The listed variables that are read. -/
structure Gv (w : World) : Prop where
  g0 : ∃ t fr, w.heap[0]? = some (.cells typesL.toArray t fr)
  g1 : ∃ t fr, w.heap[1]? = some (.cells rowsL.toArray t fr)
  g2 : ∃ t fr, w.heap[2]? = some (.cells signsL.toArray t fr)

theorem Gv.below {w w' : World} (h : Gv w) (hb : Below w.heap.size w w') : Gv w' := by
  have k : ∀ {i : Nat} {x : Obj}, w.heap[i]? = some x → w'.heap[i]? = some x := fun {i x} hx => (hb.block i (Array.getElem?_eq_some_iff.1 hx).1).trans hx
  obtain ⟨⟨t0, f0, h0⟩, ⟨t1, f1, h1⟩, ⟨t2, f2, h2⟩⟩ := h
  exact ⟨⟨t0, f0, k h0⟩, ⟨t1, f1, k h1⟩, ⟨t2, f2, k h2⟩⟩

open Ce in
theorem prim_cases {f : FuncId} {p : List Value → Hp → Nat → Option (Value × Hp × Nat)} (h : ceE.M f = some p) : (f = 64 ∧ p = bldCheck 67 5) ∨ (f = 27 ∧ p = bldString) := by
  have h : cond (Nat.beq f 64) (some (bldCheck 67 5)) (cond (Nat.beq f 27) (some bldString) none) = some p := h
  rw [Bool.cond_eq_ite, Bool.cond_eq_ite] at h
  by_cases h1 : f = 64
  · rw [if_pos (Nat.beq_eq ▸ h1)] at h
    exact .inl ⟨h1, (Option.some.inj h).symm⟩
  · rw [if_neg (by rw [Nat.beq_eq]; exact h1)] at h
    by_cases h2 : f = 27
    · rw [if_pos (by rw [Nat.beq_eq]; exact h2)] at h
      exact .inr ⟨h2, (Option.some.inj h).symm⟩
    · rw [if_neg (by rw [Nat.beq_eq]; exact h2)] at h
      cases h
open Ce in
set_option maxRecDepth 100000 in
theorem tab64 : ceE.F 64 = some Tryz.f64 := by kernel_rfl
open Ce in
set_option maxRecDepth 100000 in
theorem tab27 : ceE.F 27 = some Tryz.f27 := by kernel_rfl
theorem body64 : Tryz.f64.body.isNone = false := by kernel_rfl
theorem body27 : Tryz.f27.body.isNone = false := by kernel_rfl

open Ce in
set_option maxRecDepth 1000000 in
theorem ceE_ok : EnvOK ceE where
  fn := fun f fn h => by
    have h : tabF Tryz.prog f = some fn := h
    have := tabF_ok Tryz.prog f fn h
    exact this
  mixed := Tryz.checked.mixed
  ext := fun f s h => by cases h
  prim := by
    intro f p h
    rcases prim_cases h with ⟨rfl, rfl⟩ | ⟨rfl, rfl⟩
    · exact ⟨⟨_, tab64, body64⟩, fun args H c v H' c' h ρ w cargs _ _ hR hV _ => check_prim args H c v H' c' h ρ w cargs hR hV⟩
    · exact ⟨⟨_, tab27, body27⟩, fun args H c v H' c' h ρ w cargs _ _ hR hV _ => string_prim args H c v H' c' h ρ w cargs hR hV⟩

open Ce in
theorem awake_w {w : World} (h : Gv w) : Calls Tryz.prog 6 #[] w fun e w' => e = .returned (.bool true) ∧ Below w.heap.size w w' := by
  obtain ⟨⟨t0, f0, h0⟩, ⟨t1, f1, h1⟩, ⟨t2, f2, h2⟩⟩ := h
  obtain ⟨H', c', hev⟩ := isTrue_ev (awake_ok t0 t1 t2)
  refine closed_call ceE_ok (fun r => match r with | 0 => some (typesL, t0) | 1 => some (rowsL, t1) | 2 => some (signsL, t2) | _ => none) (H := ceH t0 t1 t2) (c := 3) (fun r => ?_) (fun g hg => ?_) (fun r l t' hr => ?_) (fun r hr => ?_) (fun r l t' hr => ?_) (args := []) rfl (v := .bool true) rfl hev
  · rcases r with _ | _ | _ | r
    · rfl
    · rfl
    · rfl
    · show lk (ceH t0 t1 t2) (r + 3) = .dead
      unfold lk ceH
      simp only [Tr.get, Bool.cond_eq_ite, Nat.beq_eq, Tr.modE, Tr.divE, Nat.sub_eq]
      rw [if_neg (by omega)]
      split
      · rw [if_neg (by omega)]
        split <;> rfl
      · rw [if_neg (by omega)]
        split <;> rfl
  · have hg : Nat.blt g 3 = true := hg
    have : g < 3 := by simpa using hg
    rcases g with _ | _ | _ | g
    · exact ⟨_, rfl⟩
    · exact ⟨_, rfl⟩
    · exact ⟨_, rfl⟩
    · omega
  · rcases r with _ | _ | _ | r
    · simp only [Option.some.injEq, Prod.mk.injEq] at hr; obtain ⟨rfl, rfl⟩ := hr; rfl
    · simp only [Option.some.injEq, Prod.mk.injEq] at hr; obtain ⟨rfl, rfl⟩ := hr; rfl
    · simp only [Option.some.injEq, Prod.mk.injEq] at hr; obtain ⟨rfl, rfl⟩ := hr; rfl
    · cases hr
  · rcases r with _ | _ | _ | r
    · omega
    · omega
    · omega
    · rfl
  · rcases r with _ | _ | _ | r
    · simp only [Option.some.injEq, Prod.mk.injEq] at hr; obtain ⟨rfl, rfl⟩ := hr; exact ⟨f0, h0⟩
    · simp only [Option.some.injEq, Prod.mk.injEq] at hr; obtain ⟨rfl, rfl⟩ := hr; exact ⟨f1, h1⟩
    · simp only [Option.some.injEq, Prod.mk.injEq] at hr; obtain ⟨rfl, rfl⟩ := hr; exact ⟨f2, h2⟩
    · cases hr

theorem great_w (n f c d : Nat) (A B : Option Addr) (w : World) :
    Calls Tryz.prog 5 #[.agg #[.slice A n c, .slice B f d]] w fun e w' => e = .returned (.bool (decide (n > 1500) || decide (f > 200))) ∧ Below w.heap.size w w' := by
  by_cases h : n > 1500
  · have d0 : decide ((n : Int) > 1500) = true := decide_eq_true (by omega)
    rw [decide_eq_true h, Bool.true_or]
    clear h
    go_enter Tryz.func5, Tryz.ntmps5
    go_wp2
    go_ret
    exact ⟨rfl, by repeat (first | exact Below.refl _ _ | apply below_alloc)⟩
  · have d0 : decide ((n : Int) > 1500) = false := decide_eq_false (by omega)
    rw [decide_eq_false h, Bool.false_or]
    have HF : Hid (decide (f > 200) = decide ((f : Int) > 200)) := Lib.hid (by rw [Bool.eq_iff_iff]; simp; omega)
    generalize decide (f > 200) = R at HF ⊢
    clear h
    go_enter Tryz.func5, Tryz.ntmps5
    go_wp2
    go_ret
    exact ⟨by rw [HF.out]; rfl, by repeat (first | exact Below.refl _ _ | apply below_alloc)⟩

theorem nodeEq_refl (x : S36) : nodeEq x x = true := by simp [nodeEq]
theorem prmEq_refl (x : S41) : prmEq x x = true := by simp [prmEq]
theorem eqL_refl {α : Type} {f : α → α → Bool} (h : ∀ x, f x x = true) (l : List α) : eqL f l l = true := by
  unfold eqL
  rw [decide_eq_true rfl, Bool.true_and]
  induction l with
  | nil => rfl
  | cons x l ih => rw [List.zip_cons_cons, List.all_cons, h, ih]; rfl
theorem funEq_refl (x : S39) : funEq x x = true := by simp [funEq, eqL_refl prmEq_refl]
theorem treeEq_refl (n : List S36) (f : List S39) : treeEq n n f f = true := by unfold treeEq; rw [eqL_refl nodeEq_refl, eqL_refl funEq_refl]; rfl

theorem keepS {w W : World} {f : FuncId} {args : Array Value} {r : Value} {a1 a2 a3 a4 : Addr} {v1 v2 v3 v4 : Value} (hW : Below w.heap.size w W) (hS : W.cell? a1 = some v1 ∧ W.cell? a2 = some v2 ∧ W.cell? a3 = some v3 ∧ W.cell? a4 = some v4)
    (h : Calls Tryz.prog f args W fun e w' => e = .returned r ∧ Below W.heap.size W w') : Calls Tryz.prog f args W fun e w' => e = .returned r ∧ Below w.heap.size w w' ∧ (w'.cell? a1 = some v1 ∧ w'.cell? a2 = some v2 ∧ w'.cell? a3 = some v3 ∧ w'.cell? a4 = some v4) := by
  refine h.mono ?_
  rintro e w' ⟨rfl, hb⟩
  exact ⟨rfl, thru hW hb, pw_cell_below hb hS.1, pw_cell_below hb hS.2.1, pw_cell_below hb hS.2.2.1, pw_cell_below hb hS.2.2.2⟩
theorem two_le {w w1 : World} {o p : Obj} (h : Below ((w.alloc o).alloc p).heap.size ((w.alloc o).alloc p) w1) : w.heap.size + 2 ≤ w1.heap.size := by
  have e : ((w.alloc o).alloc p).heap.size = w.heap.size + 2 := by show ((w.heap.push o).push p).size = _; simp
  have := h.size
  omega
theorem c2_of {w : World} {b : Nat} {x y : Value} {t : TypeId} {fr : Nat × Nat} (h : w.heap[b]? = some (.cells #[x, y] t fr)) : w.cell? ⟨b, 0, none⟩ = some x ∧ w.cell? ⟨b, 1, none⟩ = some y :=
  ⟨by rw [Lib.cell_of_heap h]; rfl, by rw [Lib.cell_of_heap h]; rfl⟩

set_option maxRecDepth 100000 in
set_option maxHeartbeats 2000000 in
theorem law_w (n m : List S36) (f g : List S39) (A B A' B' : Option Addr) (c d c' d' : Nat) (w : World) (hg : Gv w) (h1 : Kd.C k36 w A n.length n) (l1 : n.length ≤ c) (h2 : Kd.C k39 w B f.length f) (l2 : f.length ≤ d) (h3 : Kd.C k36 w A' m.length m) (l3 : m.length ≤ c') (h4 : Kd.C k39 w B' g.length g) (l4 : g.length ≤ d') :
    Calls Tryz.prog 3 #[.agg #[.slice A n.length c, .slice B f.length d], .agg #[.slice A' m.length c', .slice B' g.length d']] w fun e w' => e = .returned (.bool true) ∧ Below w.heap.size w w' := by
  have H1 := Lib.hid h1
  have H2 := Lib.hid h2
  have H3 := Lib.hid h3
  have H4 := Lib.hid h4
  have HG := Lib.hid hg
  clear h1 h2 h3 h4 hg
  go_enter Tryz.func3, Tryz.ntmps3
  go_wp2_with fail
  with_reducible refine (great_w _ _ _ _ _ _ _).mono ?_
  rintro e w1 ⟨rfl, hb1⟩
  have HB1 := Lib.hid (show Below w.heap.size w w1 from thru (by repeat (first | exact Below.refl _ _ | apply below_alloc)) hb1)
  obtain ⟨k1, k2⟩ := push_kept hb1
  have z1 : w.heap.size + 2 ≤ w1.heap.size := two_le hb1
  have K1 := Lib.hid k1
  have K2 := Lib.hid k2
  have c1 := c2_of k1
  have c2 := c2_of k2
  clear hb1 k1 k2
  obtain ⟨c10, c11⟩ := c1
  obtain ⟨c20, c21⟩ := c2
  by_cases hg1 : (decide (n.length > 1500) || decide (f.length > 200)) = true
  · rw [hg1]
    clear hg1
    go_wp2_with fail
    with_reducible refine (awake_w (HG.out.below HB1.out)).mono ?_
    rintro e w2 ⟨rfl, hb2⟩
    have HB2 := Lib.hid (show Below w.heap.size w w2 from thru HB1.out hb2)
    clear hb2
    go_wp2
    go_ret
    exact ⟨rfl, HB2.out⟩
  · rw [Bool.not_eq_true] at hg1
    rw [hg1]
    clear hg1
    go_wp2_with fail
    with_reducible refine (great_w _ _ _ _ _ _ _).mono ?_
    rintro e w2 ⟨rfl, hb2⟩
    have HB2 := Lib.hid (show Below w.heap.size w w2 from thru HB1.out hb2)
    have z2 : w.heap.size + 2 ≤ w2.heap.size := Nat.le_trans z1 hb2.size
    have k1 := (hb2.block w.heap.size (by omega)).trans K1.out
    have k2 := (hb2.block (w.heap.size + 1) (by omega)).trans K2.out
    have J1 := Lib.hid k1
    have J2 := Lib.hid k2
    have c1 := c2_of k1
    have c2 := c2_of k2
    clear hb2 k1 k2 c10 c11 c20 c21 K1 K2
    obtain ⟨c10, c11⟩ := c1
    obtain ⟨c20, c21⟩ := c2
    by_cases hg2 : (decide (m.length > 1500) || decide (g.length > 200)) = true
    · rw [hg2]
      clear hg2
      go_wp2_with fail
      with_reducible refine (awake_w (HG.out.below HB2.out)).mono ?_
      rintro e w3 ⟨rfl, hb3⟩
      have HB3 := Lib.hid (show Below w.heap.size w w3 from thru HB2.out hb3)
      clear hb3
      go_wp2
      go_ret
      exact ⟨rfl, HB3.out⟩
    · rw [Bool.not_eq_true] at hg2
      rw [hg2]
      clear hg2
      have C1 : ∀ W : World, Below w.heap.size w W ∧ (W.cell? ⟨w.heap.size, 0, none⟩ = some (.slice A n.length c) ∧ W.cell? ⟨w.heap.size, 1, none⟩ = some (.slice B f.length d) ∧ W.cell? ⟨w.heap.size + 1, 0, none⟩ = some (.slice A' m.length c') ∧ W.cell? ⟨w.heap.size + 1, 1, none⟩ = some (.slice B' g.length d')) → Calls Tryz.prog 7 #[.agg #[.slice A n.length c, .slice B f.length d], .agg #[.slice A' m.length c', .slice B' g.length d']] W fun e w' => e = .returned (.bool (treeEq n m f g)) ∧ Below w.heap.size w w' ∧ (w'.cell? ⟨w.heap.size, 0, none⟩ = some (.slice A n.length c) ∧ w'.cell? ⟨w.heap.size, 1, none⟩ = some (.slice B f.length d) ∧ w'.cell? ⟨w.heap.size + 1, 0, none⟩ = some (.slice A' m.length c') ∧ w'.cell? ⟨w.heap.size + 1, 1, none⟩ = some (.slice B' g.length d')) := fun W ⟨hW, hS⟩ => keepS hW hS <|
        spl_w n m f g _ _ _ _ _ _ _ _ _ (Kd.C_below H1.out hW) l1 (Kd.C_below H2.out hW) l2 (Kd.C_below H3.out hW) l3 (Kd.C_below H4.out hW) l4
      have C2 : ∀ W : World, Below w.heap.size w W ∧ (W.cell? ⟨w.heap.size, 0, none⟩ = some (.slice A n.length c) ∧ W.cell? ⟨w.heap.size, 1, none⟩ = some (.slice B f.length d) ∧ W.cell? ⟨w.heap.size + 1, 0, none⟩ = some (.slice A' m.length c') ∧ W.cell? ⟨w.heap.size + 1, 1, none⟩ = some (.slice B' g.length d')) → Calls Tryz.prog 8 #[.agg #[.slice A n.length c, .slice B f.length d], .agg #[.slice A' m.length c', .slice B' g.length d']] W fun e w' => e = .returned (.bool (treeEq n m f g)) ∧ Below w.heap.size w w' ∧ (w'.cell? ⟨w.heap.size, 0, none⟩ = some (.slice A n.length c) ∧ w'.cell? ⟨w.heap.size, 1, none⟩ = some (.slice B f.length d) ∧ w'.cell? ⟨w.heap.size + 1, 0, none⟩ = some (.slice A' m.length c') ∧ w'.cell? ⟨w.heap.size + 1, 1, none⟩ = some (.slice B' g.length d')) := fun W ⟨hW, hS⟩ => keepS hW hS <|
        ref_w n m f g _ _ _ _ _ _ _ _ _ (Kd.C_below H1.out hW) l1 (Kd.C_below H2.out hW) l2 (Kd.C_below H3.out hW) l3 (Kd.C_below H4.out hW) l4
      have C3 : ∀ W : World, Below w.heap.size w W ∧ (W.cell? ⟨w.heap.size, 0, none⟩ = some (.slice A n.length c) ∧ W.cell? ⟨w.heap.size, 1, none⟩ = some (.slice B f.length d) ∧ W.cell? ⟨w.heap.size + 1, 0, none⟩ = some (.slice A' m.length c') ∧ W.cell? ⟨w.heap.size + 1, 1, none⟩ = some (.slice B' g.length d')) → Calls Tryz.prog 7 #[.agg #[.slice A n.length c, .slice B f.length d], .agg #[.slice A n.length c, .slice B f.length d]] W fun e w' => e = .returned (.bool true) ∧ Below w.heap.size w w' ∧ (w'.cell? ⟨w.heap.size, 0, none⟩ = some (.slice A n.length c) ∧ w'.cell? ⟨w.heap.size, 1, none⟩ = some (.slice B f.length d) ∧ w'.cell? ⟨w.heap.size + 1, 0, none⟩ = some (.slice A' m.length c') ∧ w'.cell? ⟨w.heap.size + 1, 1, none⟩ = some (.slice B' g.length d')) := fun W ⟨hW, hS⟩ => keepS hW hS <| by
        have := spl_w n n f f _ _ _ _ _ _ _ _ _ (Kd.C_below H1.out hW) l1 (Kd.C_below H2.out hW) l2 (Kd.C_below H1.out hW) l1 (Kd.C_below H2.out hW) l2
        rw [treeEq_refl] at this
        exact this
      have C4 : ∀ W : World, Below w.heap.size w W ∧ (W.cell? ⟨w.heap.size, 0, none⟩ = some (.slice A n.length c) ∧ W.cell? ⟨w.heap.size, 1, none⟩ = some (.slice B f.length d) ∧ W.cell? ⟨w.heap.size + 1, 0, none⟩ = some (.slice A' m.length c') ∧ W.cell? ⟨w.heap.size + 1, 1, none⟩ = some (.slice B' g.length d')) → Calls Tryz.prog 6 #[] W fun e w' => e = .returned (.bool true) ∧ Below w.heap.size w w' ∧ (w'.cell? ⟨w.heap.size, 0, none⟩ = some (.slice A n.length c) ∧ w'.cell? ⟨w.heap.size, 1, none⟩ = some (.slice B f.length d) ∧ w'.cell? ⟨w.heap.size + 1, 0, none⟩ = some (.slice A' m.length c') ∧ w'.cell? ⟨w.heap.size + 1, 1, none⟩ = some (.slice B' g.length d')) := fun W ⟨hW, hS⟩ => keepS hW hS <| awake_w (HG.out.below hW)
      have hq : (treeEq n m f g == treeEq n m f g) = true := beq_self_eq_true _
      generalize treeEq n m f g = R at hq C1 C2
      have D1 := Lib.hid C1
      have D2 := Lib.hid C2
      have D3 := Lib.hid C3
      have D4 := Lib.hid C4
      clear C1 C2 C3 C4 J1 J2
      go_wp2_with fail
      go_region_held3 (fun W => W.cell? ⟨w.heap.size, 0, none⟩ = some (.slice A n.length c) ∧ W.cell? ⟨w.heap.size, 1, none⟩ = some (.slice B f.length d) ∧ W.cell? ⟨w.heap.size + 1, 0, none⟩ = some (.slice A' m.length c') ∧ W.cell? ⟨w.heap.size + 1, 1, none⟩ = some (.slice B' g.length d')) (first | exact ⟨s1, s2, s3, s4⟩ | exact ⟨c10, c11, c20, c21⟩ | go_keep)
        (first
          | (go_at_call 7; (with_reducible refine (D1.out _ (by with_unfolding_all first | exact ⟨hb', s1, s2, s3, s4⟩ | exact ⟨below_drew1 HB2.out, c10, c11, c20, c21⟩)).mono ?_); rintro e w' ⟨rfl, hb', s1, s2, s3, s4⟩)
          | (go_at_call 8; (with_reducible refine (D2.out _ (by with_unfolding_all first | exact ⟨hb', s1, s2, s3, s4⟩ | exact ⟨below_drew1 HB2.out, c10, c11, c20, c21⟩)).mono ?_); rintro e w' ⟨rfl, hb', s1, s2, s3, s4⟩)
          | (go_at_call 7; (with_reducible refine (D3.out _ (by with_unfolding_all first | exact ⟨hb', s1, s2, s3, s4⟩ | exact ⟨below_drew1 HB2.out, c10, c11, c20, c21⟩)).mono ?_); rintro e w' ⟨rfl, hb', s1, s2, s3, s4⟩)
          | (go_at_call 6; (with_reducible refine (D4.out _ (by with_unfolding_all first | exact ⟨hb', s1, s2, s3, s4⟩ | exact ⟨below_drew1 HB2.out, c10, c11, c20, c21⟩)).mono ?_); rintro e w' ⟨rfl, hb', s1, s2, s3, s4⟩))
      all_goals
        go_wp2
        go_ret
        exact ⟨by first | rfl | simp, hb'⟩

end Go.Proofs.YtadkgnfidiilnaaGreatDoor
