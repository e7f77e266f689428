/-
  The law SpellSame holds for every input: its row, and its tied card.
  Conditions: none beyond the row's own: the listed package-level variables hold what the program's text lays into them.
-/
import Derived.Test.YtadkgnfidiilnaaGreatDoorCards
import Derived.Test.YtadkgnfidiilnaaGreatDoorTie
import Derived.Test.YtadkgnfidiilnaaGreatDoorOpn
import Derived.Lay
import Derived.Carry
import Derived.ProofKit
import Derived.SevenTiedAt
set_option linter.unusedVariables false
namespace Go.Proofs.YtadkgnfidiilnaaGreatDoor
open Go.ChangeShapes Go.WideShapes Go.ChangeAt Go.WideMaps Go.WideElems Go.RowKit

abbrev laidAll : List (String × DataW Unit) := Rows.spellSameRow.laid
theorem lawOwn : ownKnob Tryz.prog.godebug = none := by kernel_rfl
theorem laidOut : laidOutB Tryz.prog = true := by kernel_rfl
theorem gTypes : Tryz.prog.globalNamed "smithy/spell.types" = some 0 := by kernel_rfl
theorem gRows : Tryz.prog.globalNamed "smithy/syntax.rows" = some 1 := by kernel_rfl
theorem gSigns : Tryz.prog.globalNamed "smithy/spell.signs" = some 2 := by kernel_rfl

theorem laid_mem {P : Program} {w : World} : ∀ (l : List (String × DataW Unit)) (ps : List MemPlace), DataW.LaidVars P w l ps → ∀ (nm : String) (d : DataW Unit), (nm, d) ∈ l →
    ∃ g t cs fuel p, P.globalNamed nm = some g ∧ (P.globals[g]?).map (·.type) = some t ∧ w.var? P nm = some cs ∧ DataW.trod (fun _ => ()) P w 0 (fun _ => true) false fuel t cs.toList = some (d, p) := by
  intro l
  induction l with
  | nil => intro ps _ nm d h; cases h
  | cons x l ih =>
    intro ps h nm d hm
    obtain ⟨n0, d0⟩ := x
    obtain ⟨g, t, cs, fuel, p, q, h1, h2, h3, h4, h5, _⟩ := h
    rcases List.mem_cons.1 hm with e | hm
    · cases e
      exact ⟨g, t, cs, fuel, p, h1, h2, h3, h4⟩
    · exact ih q h5 nm d hm

open Ce in
/-- A listed variable of plain values, as its block holds it. -/
theorem block_of {W : World} (h : laidMet Tryz.prog laidAll W) (name : String) (d : DataW Unit) (g : Nat) (l : List Value) (t : TypeId) (n : Nat) (hm : (name, d) ∈ laidAll) (hg : Tryz.prog.globalNamed name = some g) (ht : (Tryz.prog.globals[g]?).map (·.type) = some t) (hl : unTrod Tryz.prog n t d = some l) :
    ∃ t fr, W.heap[g]? = some (.cells l.toArray t fr) := by
  obtain ⟨ps, hps, _⟩ := h
  obtain ⟨g', t', cs, fuel, p, h1, h2, h3, h4⟩ := laid_mem _ _ hps name d hm
  obtain rfl := Option.some.inj (hg.symm.trans h1)
  obtain rfl := Option.some.inj (ht.symm.trans h2)
  have := unTrod_spec n t d l hl _ _ _ h4
  simp only [World.var?, h1, Option.bind_some] at h3
  split at h3
  · rename_i c t' fr hb
    simp only [Option.some.injEq] at h3
    subst h3
    exact ⟨t', fr, by rw [hb, ← this]⟩
  · cases h3

set_option maxRecDepth 100000 in
theorem gv_laid {W : World} (h0 : laidMetH Tryz.prog laidAll W) : Gv W := by
  rw [MakeChecks.laidMetH_plain _ _ _ (by kernel_rfl)] at h0
  have h : laidMet Tryz.prog laidAll W := h0
  have e : laidAll = [("math/bits.deBruijn32tab", Rows.laid_math_bits_deBruijn32tab), ("math/bits.deBruijn64tab", Rows.laid_math_bits_deBruijn64tab), ("internal/strconv.optimize", Rows.laid_internal_strconv_optimize), ("internal/strconv.uint64pow10", Rows.laid_internal_strconv_uint64pow10), ("smithy/syntax.rows", Rows.laid_smithy_syntax_rows), ("smithy/spell.types", Rows.laid_smithy_spell_types), ("smithy/spell.signs", Rows.laid_smithy_spell_signs), ("internal/strconv.leftcheats", Rows.laid_internal_strconv_leftcheats), ("internal/strconv.pow10Tab", Rows.laid_internal_strconv_pow10Tab)] := rfl
  have m0 : ("smithy/spell.types", Rows.laid_smithy_spell_types) ∈ laidAll := by rw [e]; simp only [List.mem_cons, true_or, or_true]
  have m1 : ("smithy/syntax.rows", Rows.laid_smithy_syntax_rows) ∈ laidAll := by rw [e]; simp only [List.mem_cons, true_or, or_true]
  have m2 : ("smithy/spell.signs", Rows.laid_smithy_spell_signs) ∈ laidAll := by rw [e]; simp only [List.mem_cons, true_or, or_true]
  refine ⟨block_of h _ _ 0 typesL 69 5 m0 gTypes (by kernel_rfl) (by kernel_rfl), block_of h _ _ 1 rowsL 131 5 m1 gRows (by kernel_rfl) (by kernel_rfl), block_of h _ _ 2 signsL 148 5 m2 gSigns (by kernel_rfl) (by kernel_rfl)⟩

set_option maxRecDepth 100000 in
theorem spellSame_lifted (os : Os) (started : os.Started) (H : Type) (enc : TypeId × Value → H) :
    ReturnsInHanded {} Tryz.checked os 3 .any (fun w args => (Rows.spellSameSpec.pre enc Tryz.prog Tryz.f3 [] false w args ∧ laidMetH Tryz.prog laidAll w) ∧ sizedMet enc Tryz.prog Tryz.f3 (OpenSpec.ofChange Rows.spellSameSpec) false w args)
      (Rows.spellSameSpec.post enc Tryz.prog Tryz.f3 false true false false) := by
  refine returnsInHanded_of_change_and (C := Tryz.checked) (X := fun w _ => laidMetH Tryz.prog laidAll w) (fun _ _ _ hh h => h.of_heap hh) lawOwn started (by kernel_rfl) Tryz.func3
    (ChangeSpec.witness_shaped (enc := enc) (C := Tryz.checked) (os := os) (X := fun w _ => laidMetH Tryz.prog laidAll w) false (World.laidAll Tryz.prog os laidAll) #[.agg #[.slice none 0 0, .slice none 0 0], .agg #[.slice none 0 0, .slice none 0 0]] 8 (World.laidAll_os _ _ _)
      (World.shaped_of_ZipB (by kernel_rfl) (by kernel_rfl)) (by kernel_rfl) (by kernel_rfl) (by kernel_rfl)
      (by rw [MakeChecks.laidMetH_plain _ _ _ (by kernel_rfl)]; exact laidMet_laidAll _ (by kernel_rfl) (by kernel_rfl))) ?_
  intro W base args ds gs before hval0 hW _ hsz0 hL _
  have hval : ∀ (j : Nat) t v, Tryz.f3.params[j]? = some t → args[j]? = some v → Value.okWide Tryz.prog W .any base t v := hval0
  have hW' := hW
  obtain ⟨p, q, hA0, hV, rfl, hfz, hnd⟩ := hW
  have hA : DataW.TrodAll enc Tryz.prog W 0 (fun _ => true) true Tryz.f3.params.toList args.toList ds p := hA0
  rw [Tryz.params3] at hA hval
  obtain ⟨v0, vs0, d0, ds0, p0, q0, hargs, rfl, rfl, h0, r0⟩ := trodAll_cons hA
  obtain ⟨v1, vs1, d1, ds1, p1, q1, rfl, rfl, rfl, h1, r1⟩ := trodAll_cons r0
  obtain ⟨rfl, rfl, rfl⟩ := trodAll_nil r1
  obtain rfl : args = #[v0, v1] := by cases args; simp_all
  obtain ⟨rfl, rfl⟩ := trodVars_none hV
  have k0 := h0
  have k1 := h1
  have t0 : ∀ x ∈ p0, x.block < W.heap.size := by obtain ⟨m, hm⟩ := k0; exact DataW.trod_lt m _ _ _ hm
  have t1 : ∀ x ∈ p1, x.block < W.heap.size := by obtain ⟨m, hm⟩ := k1; exact DataW.trod_lt m _ _ _ hm
  obtain ⟨n, f, A, B, c, c', rfl, l1, l2, C1, C2⟩ := open_tree (hval 0 25 v0 rfl rfl) h0
  obtain ⟨m, g, A', B', d, d', rfl, l3, l4, C3, C4⟩ := open_tree (hval 1 25 v1 rfl rfl) h1
  clear hA0 hval0 hsz0
  refine (law_w n m f g A B A' B' c c' d d' W (gv_laid hL) C1 l1 C2 l2 C3 l3 C4 l4).mono fun e W' ⟨he, bel⟩ => ?_
  subst he
  exact ⟨_, rfl, _, _, _, [], _, [], hW', trodAll_mk1 (shut_bool Tryz.underlying4 _), (trodAll_cons_mk (Below.trod laidOut (by kernel_rfl) (of_decide_eq_true (by kernel_rfl)) k0 bel t0) (trodAll_cons_mk (Below.trod laidOut (by kernel_rfl) (of_decide_eq_true (by kernel_rfl)) k1 bel t1) trodAll_mk0)), rfl, bel.frame _, fun h => by cases h⟩

theorem spellSame_holds : Rows.SpellSameSaid :=
  OpenClaim.holds_of_wide 3 Tryz.f3 rfl rfl rfl rfl rfl rfl rfl ⟨rfl, rfl, rfl, rfl, rfl⟩ rfl rfl rfl rfl rfl (by kernel_rfl) Tryz.func3 (by kernel_rfl)
    (of_decide_eq_true (by kernel_rfl)) (by unfold Func.isWrapper; first | (rw [if_pos (by decide +kernel)]; kernel_rfl) | (rw [if_neg (by decide +kernel)]; exact ⟨rfl, rfl⟩))
    (fun os started H enc _ => spellSame_lifted os started H enc)

/-- The tied card. -/
theorem spellSame_card : Rows.SpellSameCardSaid :=
  Claim7.holds_tied_plain_at .later [] [.data, .data, .data, .data, .data, .data, .data, .pinned, .pinned] true (true, "fde5b9990be97ae95633cf51d2bdb1a8fee6089dc1cda85bd71e1ceadd460262") false
    spellSame_holds (fun _ h => by cases h) (by kernel_rfl) (fun _ h => by cases h) spellSame_row_tie rfl ⟨rfl, rfl⟩ (by kernel_rfl) rfl
    (fun f fn hf hfn => by
      obtain rfl : f = 3 := Option.some.inj ((show Tryz.prog.funcNamed "smithy/smithylaw04.SpellSame" = some 3 by kernel_rfl).symm.trans hf) |>.symm
      obtain rfl : fn = Tryz.f3 := (Option.some.inj (Tryz.func3.symm.trans hfn)).symm
      exact ⟨by kernel_rfl, fun j t ht => by
        rw [Tryz.params3] at ht
        rcases j with _ | j
        · obtain rfl : t = 25 := by simpa using ht.symm
          exact (show Tryz.prog.wantsStandIn 25 = false by kernel_rfl)
        rcases j with _ | j
        · obtain rfl : t = 25 := by simpa using ht.symm
          exact (show Tryz.prog.wantsStandIn 25 = false by kernel_rfl)
        simp at ht⟩)
    (by kernel_rfl)
#print axioms spellSame_card
end Go.Proofs.YtadkgnfidiilnaaGreatDoor
