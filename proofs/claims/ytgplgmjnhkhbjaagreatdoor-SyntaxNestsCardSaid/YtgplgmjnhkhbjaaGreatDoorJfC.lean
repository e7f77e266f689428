/-
  Closed facts of the row SyntaxNests.
-/
import Derived.Test.YtgplgmjnhkhbjaaGreatDoorJfA
import Derived.Test.YtgplgmjnhkhbjaaGreatDoorJfB
set_option linter.unusedVariables false
namespace Go.Proofs.YtgplgmjnhkhbjaaGreatDoor
open Go.ChangeShapes Go.WideShapes Go.ChangeAt Go.WideMaps Go.WideElems Go.RowKit
set_option maxRecDepth 100000
theorem jf_wf : (Rows.syntaxNestsRow.wf (OpenSpec.ofChange Rows.syntaxNestsSpec)) = true := by kernel_rfl
theorem jf_lo : (laidOutB Tryz.prog) = true := by kernel_rfl
theorem jf_mr : (mapsRowed Tryz.prog) = true := by kernel_rfl
theorem jf_rr : (Tryz.f5.params.all (Tryz.prog.readableRec ·)) = true := by kernel_rfl
theorem jf_nt : (namedTie Tryz.prog Rows.syntaxNestsRow.named Rows.syntaxNestsSpec.vars) = true := by kernel_rfl
theorem jf_st : ((Rows.syntaxNestsRow.stops == [])) = true := by kernel_rfl
theorem jf_ps : ((Tryz.prog.stops == [])) = true := by kernel_rfl
theorem jf_kn : ((Rows.syntaxNestsRow.knobs == [])) = true := by kernel_rfl
theorem jf_pk : ((Tryz.prog.stopKnobs == [])) = true := by kernel_rfl
theorem jf_ma : ((Rows.syntaxNestsRow.maps == (Tryz.f5.params.toList ++ Rows.syntaxNestsSpec.plain.varTypes Tryz.prog).any (Tryz.prog.mapsRec ·))) = true := by kernel_rfl
theorem jf_ifa : ((Rows.syntaxNestsRow.ifaces == (Tryz.f5.params.toList ++ Rows.syntaxNestsSpec.plain.varTypes Tryz.prog).any (Tryz.prog.ifacesRec ·))) = true := by kernel_rfl
theorem jf_mo : ((Rows.syntaxNestsRow.mapsOut == Tryz.prog.mapsAmong Tryz.f5.resultTypes.toList)) = true := by kernel_rfl
theorem jf_lp : ((Rows.syntaxNestsRow.loops == (Tryz.f5.params.toList ++ Rows.syntaxNestsSpec.plain.varTypes Tryz.prog).any (Tryz.prog.loopsFrom ·))) = true := by kernel_rfl
theorem jf_wk : ((Rows.syntaxNestsRow.wideKeys == (Tryz.f5.params.toList ++ Rows.syntaxNestsSpec.plain.varTypes Tryz.prog ++ Tryz.f5.resultTypes.toList).any (Tryz.prog.wideKeysFrom ·))) = true := by kernel_rfl
theorem jf_vr : (Rows.syntaxNestsSpec.vars.all (Tryz.prog.varReadable ·)) = true := by kernel_rfl
theorem jf_rs : (Tryz.f5.resultTypes.all (fun t => Tryz.prog.readableRec t && decide (t < Tryz.prog.types.size))) = true := by kernel_rfl
theorem jf_io : ((Rows.syntaxNestsRow.ifacesOut == Tryz.f5.resultTypes.toList.any (Tryz.prog.ifacesRec ·))) = true := by kernel_rfl
theorem jf_lpo : ((Rows.syntaxNestsRow.loopsOut == Tryz.f5.resultTypes.toList.any (Tryz.prog.loopsFrom ·))) = true := by kernel_rfl
theorem jf_pl : ((Rows.syntaxNestsRow.plainKeys == Tryz.prog.plainKeys)) = true := by kernel_rfl
theorem jf_sh : (Rows.syntaxNestsRow.shortTexts.isNone) = true := by kernel_rfl
theorem jf_sd : (Tryz.prog.stopsHeard) = true := by kernel_rfl
theorem jf_me : (Tryz.prog.mayEnter) = true := by kernel_rfl
theorem jf_li : ((Rows.syntaxNestsRow.lifted == Tryz.prog.liftsFinal)) = true := by kernel_rfl
theorem jf_mk : ((Tryz.prog.make == some Rows.syntaxNestsRow.make)) = true := by kernel_rfl
theorem jf_ki : ((Rows.syntaxNestsRow.kinds == (if Rows.syntaxNestsRow.domain.isEmpty then [] else Tryz.f5.params.toList.map fun t => match Tryz.prog.underlying t with | some (.int k) => some k | _ => none))) = true := by kernel_rfl
theorem jf_pi : ((Rows.syntaxNestsRow.pinned == Rows.syntaxNestsRow.pinnedBy)) = true := by kernel_rfl
theorem jf_ve : ((Rows.syntaxNestsRow.veiled == (Tryz.f5.params.toList ++ Rows.syntaxNestsSpec.plain.varTypes Tryz.prog ++ Tryz.f5.resultTypes.toList).any (Tryz.prog.veiledRec ·))) = true := by kernel_rfl
theorem jf_vf : (Rows.syntaxNestsRow.veiledFits Tryz.prog Tryz.f5.params.toList (Tryz.f5.params.toList ++ Rows.syntaxNestsSpec.plain.varTypes Tryz.prog ++ Tryz.f5.resultTypes.toList)) = true := by kernel_rfl
theorem and2 {a b : Bool} (h : a = true) (k : b = true) : (a && b) = true := by rw [h, k]; rfl
theorem jf_all : joinedFacts Tryz.prog 5 Tryz.f5 Rows.syntaxNestsSpec Rows.syntaxNestsRow = true :=
  (and2 (and2 (and2 (and2 (and2 (and2 (and2 (and2 (and2 (and2 (and2 (and2 (and2 (and2 (and2 (and2 (and2 (and2 (and2 (and2 (and2 (and2 (and2 (and2 (and2 (and2 (and2 (and2 (and2 (and2 (and2 jf_wf jf_lo) jf_mr) jf_rr) jf_nt) jf_st) jf_ps) jf_kn) jf_pk) jf_ip) jf_uf) jf_rc) jf_nm) jf_ma) jf_ifa) jf_mo) jf_lp) jf_wk) jf_vr) jf_rs) jf_io) jf_lpo) jf_pl) jf_sh) jf_sd) jf_me) jf_li) jf_mk) jf_ki) jf_pi) jf_ve) jf_vf)
end Go.Proofs.YtgplgmjnhkhbjaaGreatDoor
