/-
  Plain facts for the law LinesBack: words joined, a kind's word, a picked number.
-/
import Derived.Test.YtjjinpohebcicaaDoorPuw
import Derived.Test.YtjjinpohebcicaaDoorPPickx1
import Derived.Test.YtjjinpohebcicaaDoorPjoinedx1
import Derived.Test.YtjjinpohebcicaaDoorPfirstx1
set_option linter.unusedSimpArgs false
set_option linter.unusedVariables false
namespace Go.Proofs.YtjjinpohebcicaaDoor
open Go.RowKit Ln Go.Proofs.YtjjinpohebcicaaDoorW.PrintWords

theorem pick_k (a : Int) : ∃ j : Nat, j ≤ 3 ∧ PPick.smithykit_Pick.f a 4 = some (j : Int) := by
  unfold PPick.smithykit_Pick.f
  rw [if_neg (by omega), if_neg (by omega)]
  have h1 : Int.tmod a 4 < 4 := Int.tmod_lt_of_pos a (by omega)
  have h2 : -4 < Int.tmod a 4 := Int.lt_tmod_of_pos a (by omega)
  by_cases h : Int.tmod a 4 < 0
  · rw [if_pos h]
    refine ⟨(Int.tmod a 4 + 4).toNat, by omega, ?_⟩
    rw [show wrap64 (Int.tmod a 4 + 4) = Int.tmod a 4 + 4 from by unfold wrap64; omega]
    congr 1; omega
  · rw [if_neg h]
    exact ⟨(Int.tmod a 4).toNat, by omega, by congr 1; omega⟩

theorem first_k {k : Nat} (h1 : 1 ≤ k) (h2 : k ≤ 6) : Pfirst.smithylaw31_first.f (k : Int) = some (nameOf k) := by
  obtain rfl | rfl | rfl | rfl | rfl | rfl : k = 1 ∨ k = 2 ∨ k = 3 ∨ k = 4 ∨ k = 5 ∨ k = 6 := by omega
  all_goals decide +kernel

theorem tot_get : ∀ (l : List ByteArray) (i : Nat) (h : i < l.length), tot (l.drop i) = (l[i]'h).size + tot (l.drop (i + 1)) := by
  intro l i h
  rw [List.drop_eq_getElem_cons h]; rfl
theorem flat_get (b : List UInt8) (l : List ByteArray) (i : Nat) (h : i < l.length) : flat b (l.drop i) = b ++ (l[i]'h).data.toList ++ flat b (l.drop (i + 1)) := by
  unfold flat
  rw [List.drop_eq_getElem_cons h, List.flatMap_cons]
theorem app_toList (a b : ByteArray) : (a ++ b).data.toList = a.data.toList ++ b.data.toList := by
  rw [ByteArray.data_append, Array.toList_append]

theorem joined_l (l : List ByteArray) (b : ByteArray) : ∀ (d k i : Nat) (x : ByteArray), 1 ≤ i → i ≤ l.length → l.length - i = d → d < k → l.length ≤ 1000000 → x.size + b.size * d + tot (l.drop i) ≤ 1000000 →
    ∃ r : ByteArray, Pjoined.smithylaw31_joined.l0 k l b x (i : Int) = some r ∧ r.data.toList = x.data.toList ++ flat b.data.toList (l.drop i) := by
  intro d
  induction d with
  | zero =>
    intro k i x h1 h2 h3 h4 h5 h6
    obtain ⟨k, rfl⟩ : ∃ k', k = k' + 1 := ⟨k - 1, by omega⟩
    unfold Pjoined.smithylaw31_joined.l0
    rw [if_neg (by omega)]
    have : l.drop i = [] := List.drop_of_length_le (by omega)
    exact ⟨x, rfl, by rw [this]; simp [flat]⟩
  | succ d ih =>
    intro k i x h1 h2 h3 h4 h5 h6
    obtain ⟨k, rfl⟩ : ∃ k', k = k' + 1 := ⟨k - 1, by omega⟩
    have hi : i < l.length := by omega
    have ht := tot_get l i hi
    have hrd : rdOf ByteArray.empty l (i : Int) = l[i]'hi := by
      unfold rdOf; simp [hi]
    have hmul : b.size * (d + 1) = b.size * d + b.size := Nat.mul_succ _ _
    unfold Pjoined.smithylaw31_joined.l0
    rw [if_pos (by omega), if_pos (by omega), if_pos (by omega), if_pos (by omega), hrd, ByteArray.size_append, if_pos (by omega)]
    rw [show wrap64 ((i : Int) + 1) = ((i + 1 : Nat) : Int) from by unfold wrap64; omega]
    obtain ⟨r, e1, e2⟩ := ih k (i + 1) ((x ++ b) ++ l[i]'hi) (by omega) (by omega) (by omega) (by omega) h5 (by rw [ByteArray.size_append, ByteArray.size_append]; omega)
    refine ⟨r, e1, ?_⟩
    rw [e2, app_toList, app_toList, flat_get _ l i hi]; simp

/-- the words, joined -/
theorem joined_k (w0 : ByteArray) (l : List ByteArray) (b : ByteArray) (hl : l.length ≤ 100000) (hz : w0.size + b.size * l.length + tot l ≤ 1000000) :
    ∃ r : ByteArray, Pjoined.smithylaw31_joined.f (l.length + 9) (w0 :: l) b = some r ∧ r.data.toList = w0.data.toList ++ flat b.data.toList l := by
  unfold Pjoined.smithylaw31_joined.f
  rw [show l.length + 9 = (l.length + 8) + 1 from rfl]
  unfold Pjoined.smithylaw31_joined.l0
  have hrd : rdOf ByteArray.empty (w0 :: l) 0 = w0 := rfl
  have hs : (⟨#[]⟩ : ByteArray).size = 0 := rfl
  rw [if_pos (by rw [List.length_cons]; omega), if_neg (by omega), if_pos (by omega), hrd, if_pos (by omega)]
  rw [show wrap64 ((0 : Int) + 1) = ((1 : Nat) : Int) from by decide +kernel]
  obtain ⟨r, e1, e2⟩ := joined_l (w0 :: l) b l.length (l.length + 8) 1 (⟨#[]⟩ ++ w0) (by omega) (by simp) (by simp) (by omega) (by simp; omega) (by rw [ByteArray.size_append, List.drop_one, List.tail_cons]; omega)
  exact ⟨r, e1, by rw [e2, app_toList]; simp⟩

theorem flat_size (b : List UInt8) (l : List ByteArray) : (flat b l).length = b.length * l.length + tot l := by
  induction l with
  | nil => simp [flat, tot]
  | cons w l ih =>
    have e : flat b (w :: l) = b ++ w.data.toList ++ flat b l := by simp [flat]
    have e2 : w.data.toList.length = w.size := by simp
    rw [e, List.length_append, List.length_append, ih, e2, List.length_cons, Nat.mul_succ]
    simp only [tot]; omega

theorem one_R (p : ByteArray) (w : World) : Kd.R Kd.string 9 (w.alloc (.cells #[.string p] 9)) w.heap.size (fun _ => True) (.slice (some ⟨w.heap.size, 0, none⟩) 1 1) [p] := by
  refine ⟨fun _ _ => trivial, [.string p], ?_, Reps.one (show Kd.M Kd.string _ _ _ p [.string p] from rfl) (Reps.none _ _)⟩
  have h2 := World.ownsRow_lit (base := w.heap.size) (e := 9) (size := 1) w #[.string p] 1 (Nat.le_refl _) (by decide) (by simp)
  have h3 : (w.alloc (.cells #[.string p] 9)).ownsRow w.heap.size 9 1 (.slice (some ⟨w.heap.size, 0, none⟩) 1 1) 1 [.string p] := by simpa using h2
  exact h3

theorem src_cmd (F : ByteArray) (t : List UInt8) (h : txtM F.data.toList = (t, true)) : cmdM (⟨#[115, 111, 117, 114, 99, 101, 32, 97, 32]⟩ ++ F) = (1, [⟨#[97]⟩, F], 0, 0) := by
  refine cmd_good (b0 := []) (b := [32]) (fin := []) (k := 1) (ws := [⟨#[97]⟩, F]) (by omega) (by omega) (by simp) (by intro x hx; simp at hx; subst hx; decide) (by simp) (by simp) ?_ ?_
  · rw [app_toList]; simp [nameOf, flat]
  · refine ⟨.inl (by decide), by decide +kernel, .inl (by decide), ?_, (show (formOf 1).length ≤ 2 from by decide)⟩
    show fitM F.data.toList 116 = true
    unfold fitM
    rw [if_neg (by decide), if_pos rfl, h]

end Go.Proofs.YtjjinpohebcicaaDoor
