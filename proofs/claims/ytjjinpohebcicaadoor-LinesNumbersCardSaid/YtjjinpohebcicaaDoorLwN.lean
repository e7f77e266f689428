/-
  The walk of the law LinesNumbers.
-/
import Derived.Test.YtjjinpohebcicaaDoorLwT
set_option linter.unusedSimpArgs false
set_option linter.unusedVariables false
namespace Go.Proofs.YtjjinpohebcicaaDoor
open Go.RowKit Ln Go.Proofs.YtjjinpohebcicaaDoorW.PrintWords

def longName : ByteArray := ⟨#[97, 98, 99, 100, 101, 102, 103, 104, 105, 106, 107, 108, 109, 110, 111, 112, 113, 114, 115, 116, 117, 118, 119, 120, 121, 122, 95, 65, 48, 49, 50, 57]⟩
def showLongX : ByteArray := ⟨#[115, 104, 111, 119, 32]⟩ ++ ⟨#[97, 98, 99, 100, 101, 102, 103, 104, 105, 106, 107, 108, 109, 110, 111, 112, 113, 114, 115, 116, 117, 118, 119, 120, 121, 122, 95, 65, 48, 49, 50, 57]⟩ ++ ⟨#[120]⟩
def oddL : List ByteArray := [⟨#[]⟩, ⟨#[32, 32]⟩, ⟨#[103, 111, 32, 97]⟩, ⟨#[115, 104, 111, 119, 32, 97, 32, 98]⟩, ⟨#[115, 104, 111, 119, 32, 97, 45, 98]⟩, ⟨#[98, 117, 105, 108, 100, 32, 98, 32, 97, 32, 48, 49]⟩, ⟨#[115, 111, 117, 114, 99, 101, 32, 97, 32, 34, 120]⟩, ⟨#[115, 111, 117, 114, 99, 101, 32, 97, 32, 34, 120, 34, 121]⟩, ⟨#[115, 111, 117, 114, 99, 101, 32, 97, 32, 120]⟩, ⟨#[115, 116, 101, 112, 32, 114]⟩, showLongX, ⟨#[34, 115, 104, 111, 119, 34, 32, 97]⟩, ⟨#[34, 115, 104, 111, 119]⟩, ⟨#[115, 111, 117, 114, 99, 101, 32, 97, 32, 34, 120, 92, 34]⟩, ⟨#[115, 111, 117, 114, 99, 101, 32, 97, 32, 34, 92, 113, 34]⟩, ⟨#[115, 116, 97, 114, 116, 32, 114, 32, 98, 32, 102]⟩, ⟨#[115, 116, 97, 114, 116, 32, 114, 32, 98, 32, 102, 32, 49, 32, 120]⟩, ⟨#[115, 116, 97, 114, 116, 32, 114, 32, 98, 32, 102, 32, 49, 32, 50, 32, 34]⟩, ⟨#[98, 117, 105, 108, 100, 32, 98, 32, 34, 97, 34, 32, 49]⟩, ⟨#[115, 116, 101, 112, 32, 114, 32, 57, 50, 50, 51, 51, 55, 50, 48, 51, 54, 56, 53, 52, 55, 55, 53, 56, 48, 56]⟩, ⟨#[32, 115, 104, 111, 119, 32, 32]⟩, ⟨#[115, 104, 111, 119, 10, 97]⟩, ⟨#[100, 114, 111, 112, 32, 195, 169]⟩]
def atL : List Int := [0, 0, 0, 7, 5, 10, 9, 9, 9, 6, 5, 0, 0, 9, 9, 11, 14, 16, 8, 7, 7, 0, 5]
def numL : List ByteArray := [⟨#[48]⟩, ⟨#[57, 50, 50, 51, 51, 55, 50, 48, 51, 54, 56, 53, 52, 55, 55, 53, 56, 48, 55]⟩, ⟨#[45, 57, 50, 50, 51, 51, 55, 50, 48, 51, 54, 56, 53, 52, 55, 55, 53, 56, 48, 56]⟩, ⟨#[57, 50, 50, 51, 51, 55, 50, 48, 51, 54, 56, 53, 52, 55, 55, 53, 56, 48, 56]⟩, ⟨#[45, 57, 50, 50, 51, 51, 55, 50, 48, 51, 54, 56, 53, 52, 55, 55, 53, 56, 48, 57]⟩, ⟨#[45, 48]⟩, ⟨#[48, 48]⟩, ⟨#[43, 49]⟩, ⟨#[]⟩, ⟨#[45]⟩, ⟨#[49, 32]⟩, ⟨#[57, 57, 57, 57, 57, 57, 57, 57, 57, 57, 57, 57, 57, 57, 57, 57, 57, 57, 57, 57, 57, 57, 57]⟩, ⟨#[48, 120, 49]⟩]
theorem odd_ok : ((oddL.zip atL).all fun x => isM x.1 0 x.2 [] && decide (x.1.size ≤ 1000)) = true := by decide +kernel
theorem num_ok : (numL.all fun x => decide (x.size ≤ 1000)) = true := by decide +kernel
theorem odd_at (k : Nat) (h : k < 23) : ∃ s p, oddL[k]? = some s ∧ atL[k]? = some p ∧ isM s 0 p [] = true ∧ s.size ≤ 1000 := by
  have h1 : k < oddL.length := h
  have h2 : k < atL.length := h
  refine ⟨oddL[k]'h1, atL[k]'h2, List.getElem?_eq_getElem h1, List.getElem?_eq_getElem h2, ?_⟩
  have hz : k < (oddL.zip atL).length := by rw [List.length_zip]; exact h
  have := List.all_eq_true.1 odd_ok _ (List.getElem_mem hz)
  rw [List.getElem_zip] at this
  simpa using this
theorem num_at (k : Nat) (h : k < 13) : ∃ s, numL[k]? = some s ∧ s.size ≤ 1000 := by
  have h1 : k < numL.length := h
  refine ⟨numL[k]'h1, List.getElem?_eq_getElem h1, ?_⟩
  have := List.all_eq_true.1 num_ok _ (List.getElem_mem h1)
  simpa using this
theorem cells_at {w : World} {g t : Nat} {vs : List Value} {fr : Nat × Nat} {k : Nat} {v : Value} (h : w.heap[g]? = some (.cells vs.toArray t fr)) (hv : vs[k]? = some v) : w.cell? ⟨g, k, none⟩ = some v := by
  rw [Lib.cell_of_heap h]; simpa using hv

theorem at_push1 (w : World) (o p : Obj) : ((w.alloc o).alloc p).heap[w.heap.size]? = some o := by
  show ((w.heap.push o).push p)[w.heap.size]? = some o
  rw [Array.getElem?_push_lt (by simp)]; simp
theorem at_push2 (w : World) (o p : Obj) : ((w.alloc o).alloc p).heap[w.heap.size + 1]? = some p := by
  show ((w.heap.push o).push p)[w.heap.size + 1]? = some p
  have h := Array.getElem?_push_size (xs := w.heap.push o) (x := p)
  rw [Array.size_push] at h
  exact h

set_option maxRecDepth 100000 in
set_option maxHeartbeats 4000000 in
theorem linesNumbers_walk (w : World) (hg : Gc w) : Calls Tryd.prog 5 #[] w fun e w' => e = .returned (.bool true) ∧ Below w.heap.size w w' := by
  have HG := Lib.hid hg
  have HB0 := Lib.hid (Below.refl w.heap.size w)
  clear hg
  go_enter Tryd.func5, Tryd.ntmps5
  go_wp2_with fail
  have hbA := below_alloc HB0.out (.cells #[.string ⟨#[97]⟩] 9)
  have hnA := new_block w (.cells #[.string ⟨#[97]⟩] 9)
  with_reducible refine (is_l ⟨#[115, 104, 111, 119, 32, 32, 97]⟩ 5 5 0 _ 1 1 [⟨#[97]⟩] true _ (by decide +kernel) (HG.out.below hbA) (by decide) (by decide) (by decide) (strC hnA (by decide)) (by decide) (by decide +kernel)).mono ?_
  rintro e w1 ⟨rfl, hb⟩
  have HB1 := Lib.hid (hbA.trans (hb.mono hbA.size))
  clear hb hbA hnA HB0
  go_wp2_with fail
  have hbA := below_alloc HB1.out (.cells #[.string ⟨#[97]⟩] 9)
  have hnA := new_block w1 (.cells #[.string ⟨#[97]⟩] 9)
  with_reducible refine (is_l ⟨#[9, 100, 114, 111, 112, 32, 97, 9, 32]⟩ 6 6 0 _ 1 1 [⟨#[97]⟩] true _ (by decide +kernel) (HG.out.below hbA) (by decide) (by decide) (by decide) (strC hnA (by decide)) (by decide) (by decide +kernel)).mono ?_
  rintro e w2 ⟨rfl, hb⟩
  have HB2 := Lib.hid (hbA.trans (hb.mono hbA.size))
  clear hb hbA hnA HB1
  go_wp2_with fail
  have hbA := below_alloc HB2.out (.cells #[.string ⟨#[98]⟩, .string ⟨#[97]⟩, .string ⟨#[45, 49]⟩] 9)
  have hnA := new_block w2 (.cells #[.string ⟨#[98]⟩, .string ⟨#[97]⟩, .string ⟨#[45, 49]⟩] 9)
  with_reducible refine (is_l ⟨#[98, 117, 105, 108, 100, 32, 98, 32, 97, 32, 45, 49]⟩ 2 2 0 _ 3 3 [⟨#[98]⟩, ⟨#[97]⟩, ⟨#[45, 49]⟩] true _ (by decide +kernel) (HG.out.below hbA) (by decide) (by decide) (by decide) (strC hnA (by decide)) (by decide) (by decide +kernel)).mono ?_
  rintro e w3 ⟨rfl, hb⟩
  have HB3 := Lib.hid (hbA.trans (hb.mono hbA.size))
  clear hb hbA hnA HB2
  go_wp2_with fail
  have hbA := below_alloc HB3.out (.cells #[.string ⟨#[114]⟩, .string ⟨#[98]⟩, .string ⟨#[102]⟩, .string ⟨#[49, 48, 48]⟩, .string ⟨#[50, 49]⟩, .string ⟨#[45, 51]⟩] 9)
  have hnA := new_block w3 (.cells #[.string ⟨#[114]⟩, .string ⟨#[98]⟩, .string ⟨#[102]⟩, .string ⟨#[49, 48, 48]⟩, .string ⟨#[50, 49]⟩, .string ⟨#[45, 51]⟩] 9)
  with_reducible refine (is_l ⟨#[115, 116, 97, 114, 116, 32, 114, 32, 98, 32, 102, 32, 49, 48, 48, 32, 50, 49, 32, 45, 51]⟩ 3 3 0 _ 6 6 [⟨#[114]⟩, ⟨#[98]⟩, ⟨#[102]⟩, ⟨#[49, 48, 48]⟩, ⟨#[50, 49]⟩, ⟨#[45, 51]⟩] true _ (by decide +kernel) (HG.out.below hbA) (by decide) (by decide) (by decide) (strC hnA (by decide)) (by decide) (by decide +kernel)).mono ?_
  rintro e w4 ⟨rfl, hb⟩
  have HB4 := Lib.hid (hbA.trans (hb.mono hbA.size))
  clear hb hbA hnA HB3
  go_wp2_with fail
  have hbA := below_alloc HB4.out (.cells #[.string ⟨#[114]⟩, .string ⟨#[98]⟩, .string ⟨#[102]⟩, .string ⟨#[48]⟩] 9)
  have hnA := new_block w4 (.cells #[.string ⟨#[114]⟩, .string ⟨#[98]⟩, .string ⟨#[102]⟩, .string ⟨#[48]⟩] 9)
  with_reducible refine (is_l ⟨#[115, 116, 97, 114, 116, 32, 114, 32, 98, 32, 102, 32, 48]⟩ 3 3 0 _ 4 4 [⟨#[114]⟩, ⟨#[98]⟩, ⟨#[102]⟩, ⟨#[48]⟩] true _ (by decide +kernel) (HG.out.below hbA) (by decide) (by decide) (by decide) (strC hnA (by decide)) (by decide) (by decide +kernel)).mono ?_
  rintro e w5 ⟨rfl, hb⟩
  have HB5 := Lib.hid (hbA.trans (hb.mono hbA.size))
  clear hb hbA hnA HB4
  go_wp2_with fail
  have hbA := below_alloc HB5.out (.cells #[.string ⟨#[97]⟩, .string ⟨#[34, 120, 32, 92, 34, 32, 121, 34]⟩] 9)
  have hnA := new_block w5 (.cells #[.string ⟨#[97]⟩, .string ⟨#[34, 120, 32, 92, 34, 32, 121, 34]⟩] 9)
  with_reducible refine (is_l ⟨#[115, 111, 117, 114, 99, 101, 32, 97, 32, 34, 120, 32, 92, 34, 32, 121, 34]⟩ 1 1 0 _ 2 2 [⟨#[97]⟩, ⟨#[34, 120, 32, 92, 34, 32, 121, 34]⟩] true _ (by decide +kernel) (HG.out.below hbA) (by decide) (by decide) (by decide) (strC hnA (by decide)) (by decide) (by decide +kernel)).mono ?_
  rintro e w6 ⟨rfl, hb⟩
  have HB6 := Lib.hid (hbA.trans (hb.mono hbA.size))
  clear hb hbA hnA HB5
  go_wp2_with fail
  have hbA := below_alloc HB6.out (.cells #[.string ⟨#[97, 98, 99, 100, 101, 102, 103, 104, 105, 106, 107, 108, 109, 110, 111, 112, 113, 114, 115, 116, 117, 118, 119, 120, 121, 122, 95, 65, 48, 49, 50, 57]⟩] 9)
  have hnA := new_block w6 (.cells #[.string ⟨#[97, 98, 99, 100, 101, 102, 103, 104, 105, 106, 107, 108, 109, 110, 111, 112, 113, 114, 115, 116, 117, 118, 119, 120, 121, 122, 95, 65, 48, 49, 50, 57]⟩] 9)
  with_reducible refine (is_l _ 5 5 0 _ 1 1 [⟨#[97, 98, 99, 100, 101, 102, 103, 104, 105, 106, 107, 108, 109, 110, 111, 112, 113, 114, 115, 116, 117, 118, 119, 120, 121, 122, 95, 65, 48, 49, 50, 57]⟩] true _ (by decide +kernel) (HG.out.below hbA) (by decide) (by decide) (by decide) (strC hnA (by decide)) (by decide) (by decide +kernel)).mono ?_
  rintro e w7 ⟨rfl, hb⟩
  have HB7 := Lib.hid (hbA.trans (hb.mono hbA.size))
  clear hb hbA hnA HB6
  go_wp2_with fail
  go_loopw [4] (fun i wr => ∃ k : Nat, k ≤ 23 ∧ i = .int .i64 k ∧ Hid (Below w.heap.size w wr) ∧ Hid (wr.heap[w7.heap.size]? = some (.cells (oddL.map Value.string).toArray 9 (0, 0))) ∧ Hid (wr.heap[w7.heap.size + 1]? = some (.cells (atL.map (Value.int .i64)).toArray 3 (0, 0)))) (fun i wr => 23 - (intOf i).toNat)
  case atStart => exact ⟨0, by omega, rfl, Lib.hid (below_alloc (below_alloc HB7.out _) _), Lib.hid (at_push1 _ _ _), Lib.hid (at_push2 _ _ _)⟩
  case round =>
    obtain ⟨k, hk, rfl, HB, HO, HP⟩ := hrel
    by_cases hlt : k < 23
    · obtain ⟨s, p, hs, hp, his, hsz⟩ := odd_at k hlt
      have c0 : wr.cell? ⟨w7.heap.size, k, none⟩ = some (.string s) := cells_at HO.out (by simp [hs])
      have c1 : wr.cell? ⟨w7.heap.size + 1, k, none⟩ = some (.int .i64 p) := cells_at HP.out (by simp [hp])
      have d0 : decide ((k : Int) < 23) = true := decide_eq_true (by omega)
      have n0 : 0 ≤ (k : Int) := by omega
      have n1 : (k : Int) < 23 := by omega
      clear hs hp
      have HST : Hid (Calls Tryd.prog 18 #[.string s, .int .u8 0, .int .i64 p, .slice none 0 0] wr.drew fun e w' => e = .returned (.bool true) ∧ Below w.heap.size w w' ∧ w'.heap[w7.heap.size]? = some (.cells (oddL.map Value.string).toArray 9 (0, 0)) ∧ w'.heap[w7.heap.size + 1]? = some (.cells (atL.map (Value.int .i64)).toArray 3 (0, 0))) := by
        refine Lib.hid ?_
        have hbd := below_drew1 HB.out
        refine (is_l s 0 0 p none 0 0 [] true _ (by omega) (HG.out.below hbd) (by decide) (by decide) (by decide) (nilC _) (by decide) his).mono ?_
        rintro e w' ⟨rfl, hb'⟩
        refine ⟨rfl, hbd.trans (hb'.mono hbd.size), ?_, ?_⟩
        · rw [hb'.block _ (Array.getElem?_eq_some_iff.1 HO.out).1]; exact HO.out
        · rw [hb'.block _ (Array.getElem?_eq_some_iff.1 HP.out).1]; exact HP.out
      clear his hsz
      go_wp2_with fail
      go_region_with (go_at_call 18; (with_reducible refine HST.out.mono ?_); rintro e w' ⟨rfl, hb', hO', hP'⟩)
      all_goals
        clear c0 c1
        go_wp2
        go_roundw
        case rel => exact ⟨k + 1, by omega, by go_num, Lib.hid hb', Lib.hid hO', Lib.hid hP'⟩
        case measure => simp [intOf]; omega
    · obtain rfl : k = 23 := by omega
      have d0 : decide (((23 : Nat) : Int) < 23) = false := by decide
      clear HO HP
      have hbA := fun o => below_alloc HB.out o
      go_wp2_with fail
      go_loopw [6] (fun i wx => ∃ k : Nat, k ≤ 13 ∧ i = .int .i64 k ∧ Hid (Below w.heap.size w wx) ∧ Hid (wx.heap[wr.heap.size]? = some (.cells (numL.map Value.string).toArray 9 (0, 0)))) (fun i wx => 13 - (intOf i).toNat)
      case atStart => exact ⟨0, by omega, rfl, Lib.hid (below_alloc HB.out _), Lib.hid (new_block _ _)⟩
      case round =>
        obtain ⟨k, hk, rfl, HB2, HO⟩ := hrel
        by_cases hlt2 : k < 13
        · obtain ⟨s, hs, hsz⟩ := num_at k hlt2
          have c0 := cells_at (k := k) (v := .string s) HO.out (by simp [hs])
          have d1 : decide ((k : Int) < 13) = true := decide_eq_true (by omega)
          have n0 : 0 ≤ (k : Int) := by omega
          have n1 : (k : Int) < 13 := by omega
          clear hs
          go_wp2_with fail
          with_reducible refine (linesTexts_walk s _ (by omega) (HG.out.below HB2.out)).mono ?_
          rintro e w' ⟨rfl, hb'⟩
          have HB3 := Lib.hid (HB2.out.trans (hb'.mono HB2.out.size))
          have hO' := HO.out
          rw [← hb'.block _ (Array.getElem?_eq_some_iff.1 hO').1] at hO'
          clear hb' c0
          go_wp2
          go_roundw
          case rel => first | exact ⟨k + 1, by omega, by go_num, HB3, Lib.hid hO'⟩ | ((repeat apply Exists.intro); exact ⟨⟨k + 1, by omega, by go_num, HB3, Lib.hid hO'⟩, rfl⟩)
          case measure => simp [intOf]; omega
        · obtain rfl : k = 13 := by omega
          have d1 : decide (((13 : Nat) : Int) < 13) = false := by decide
          clear HO HB
          go_wp2_with fail
          with_reducible refine (text_l ⟨#[34, 97, 92, 110, 92, 120, 48, 48, 92, 116, 92, 92, 34]⟩ ⟨#[97, 10, 0, 9, 92]⟩ true _ (by decide) (by decide +kernel)).mono ?_
          rintro e x1 ⟨rfl, hb⟩
          have HX1 := Lib.hid (HB2.out.trans (hb.mono HB2.out.size))
          clear hb HB2
          go_wp2_with fail
          with_reducible refine (text_l ⟨#[34, 92, 120, 70, 70, 34]⟩ ⟨#[]⟩ false _ (by decide) (by decide +kernel)).mono ?_
          rintro e x2 ⟨rfl, hb⟩
          have HX2 := Lib.hid (HX1.out.trans (hb.mono HX1.out.size))
          clear hb HX1
          go_wp2_with fail
          with_reducible refine (text_l ⟨#[34, 92, 34]⟩ ⟨#[]⟩ false _ (by decide) (by decide +kernel)).mono ?_
          rintro e x3 ⟨rfl, hb⟩
          have HX3 := Lib.hid (HX2.out.trans (hb.mono HX2.out.size))
          clear hb HX2
          go_wp2_with fail
          with_reducible refine (text_l ⟨#[34]⟩ ⟨#[]⟩ false _ (by decide) (by decide +kernel)).mono ?_
          rintro e x4 ⟨rfl, hb⟩
          have HX4 := Lib.hid (HX3.out.trans (hb.mono HX3.out.size))
          clear hb HX3
          go_wp2_with fail
          with_reducible refine (quote_l ⟨#[34, 200, 9, 127]⟩ ⟨#[34, 92, 34, 92, 120, 99, 56, 92, 116, 92, 120, 55, 102, 34]⟩ _ (by decide) (by decide +kernel)).mono ?_
          rintro e x5 ⟨rfl, hb⟩
          have HX5 := Lib.hid (HX4.out.trans (hb.mono HX4.out.size))
          clear hb HX4
          go_wp2_with fail
          with_reducible refine (awake_w _ (HG.out.below HX5.out)).mono ?_
          rintro e x6 ⟨rfl, hb⟩
          go_wp2
          go_ret
          exact ⟨rfl, HX5.out.trans (hb.mono HX5.out.size)⟩
end Go.Proofs.YtjjinpohebcicaaDoor
