/-
  The walk of the law LinesTexts.
-/
import Derived.Test.YtjjinpohebcicaaDoorJC
set_option linter.unusedSimpArgs false
set_option linter.unusedVariables false
namespace Go.Proofs.YtjjinpohebcicaaDoor
open Go.RowKit Ln Go.Proofs.YtjjinpohebcicaaDoorW.PrintWords

set_option maxRecDepth 100000 in
set_option maxHeartbeats 1000000 in
theorem linesTexts_walk (s : ByteArray) (w : World) (hs : s.size ≤ 140737488351232) (hg : Gc w) : Calls Tryd.prog 4 #[.string s] w fun e w' => e = .returned (.bool true) ∧ Below w.heap.size w w' := by
  have HG := Lib.hid hg
  clear hg
  by_cases hb : 4000 < s.size
  · go_enter Tryd.func4, Tryd.ntmps4
    go_wp2_with fail
    with_reducible refine (awake_w _ HG.out).mono ?_
    rintro e w1 ⟨rfl, hb1⟩
    go_wp2
    go_ret
    exact ⟨rfl, hb1⟩
  · have hs1 : s.size ≤ 1000000 := by omega
    have h1 := fun w => text_w s w hs1
    have h2 := fun w => rtext_w s w hs1
    have h3 := fun w hg => number_w s w (by omega) hg
    have h4 := fun w => rnumber_w s w
    have h5 := fun w => quote_w s w hs1
    have h6 := fun w => rquote_w s w hs1
    generalize (txtM s.data.toList).1.toArray = r at *
    generalize (txtM s.data.toList).2 = b at *
    generalize (numM s.data.toList).1 = n at *
    generalize (numM s.data.toList).2 = ok at *
    generalize (quoM s.data.toList).toArray = q at *
    have H1 := Lib.hid h1
    have H2 := Lib.hid h2
    have H3 := Lib.hid h3
    have H4 := Lib.hid h4
    have H5 := Lib.hid h5
    have H6 := Lib.hid h6
    clear h1 h2 h3 h4 h5 h6
    go_enter Tryd.func4, Tryd.ntmps4
    go_wp2_with fail
    with_reducible refine (H1.out _).mono ?_
    rintro e w1 ⟨rfl, hb1⟩
    have HB1 := Lib.hid hb1
    clear hb1
    go_wp2_with fail
    with_reducible refine (H2.out _).mono ?_
    rintro e w2 ⟨rfl, hb2⟩
    have HB2 := Lib.hid (HB1.out.trans (hb2.mono HB1.out.size))
    clear hb2 HB1
    go_wp2_with fail
    with_reducible refine (H3.out _ (HG.out.gl.below HB2.out)).mono ?_
    rintro e w3 ⟨rfl, hb3⟩
    have HB3 := Lib.hid (HB2.out.trans (hb3.mono HB2.out.size))
    clear hb3 HB2
    go_wp2_with fail
    with_reducible refine (H4.out _).mono ?_
    rintro e w4 ⟨rfl, ⟨nd, rfl⟩⟩
    have HB4 := Lib.hid (pw_below_drewN HB3.out nd)
    generalize w3.drewN nd = w4 at *
    go_wp2_with fail
    with_reducible refine (H5.out _).mono ?_
    rintro e w5 ⟨rfl, hb5⟩
    have HB5 := Lib.hid (HB4.out.trans (hb5.mono HB4.out.size))
    clear hb5 HB4
    go_wp2_with fail
    with_reducible refine (H6.out _).mono ?_
    rintro e w6 ⟨rfl, hb6⟩
    have HB6 := Lib.hid (HB5.out.trans (hb6.mono HB5.out.size))
    clear hb6 HB5
    go_wp2_with fail
    with_reducible refine (awake_w _ (HG.out.below HB6.out)).mono ?_
    rintro e w7 ⟨rfl, hb7⟩
    go_wp2
    go_ret
    exact ⟨by simp, HB6.out.trans (hb7.mono HB6.out.size)⟩
end Go.Proofs.YtjjinpohebcicaaDoor
