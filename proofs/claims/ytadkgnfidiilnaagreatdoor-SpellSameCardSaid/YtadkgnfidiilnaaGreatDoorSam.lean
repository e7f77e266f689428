/-
  What both Sames say of two trees: the same plain function.
-/
import Derived.Test.YtadkgnfidiilnaaGreatDoorPSamex3
import Derived.Test.YtadkgnfidiilnaaGreatDoorSpl
set_option linter.unusedVariables false
set_option linter.unusedSimpArgs false
namespace Go.Proofs.YtadkgnfidiilnaaGreatDoor
open Go.RowKit Go.Proofs.YtadkgnfidiilnaaGreatDoorW.PrintWords PSame

def treeEq (n m : List S36) (f g : List S39) : Bool := eqL nodeEq n m && eqL funEq f g

theorem sum_le (l : List Nat) (x : Nat) (h : x ∈ l) : x ≤ l.sum := by
  induction l with
  | nil => cases h
  | cons y l ih =>
    rw [List.sum_cons]
    rcases List.mem_cons.1 h with rfl | h
    · omega
    · have := ih h; omega

/-- The rest of a comparison from a place on. -/
theorem eqL_from {α : Type} {f : α → α → Bool} {l m : List α} {i : Nat} (h : l.length = m.length) (hi : i < l.length) : ((l.drop i).zip (m.drop i)).all (fun p => f p.1 p.2) = (f (l[i]'hi) (m[i]'(h ▸ hi)) && ((l.drop (i + 1)).zip (m.drop (i + 1))).all fun p => f p.1 p.2) := by
  have hj : i < m.length := h ▸ hi
  rw [List.drop_eq_getElem_cons hi, List.drop_eq_getElem_cons hj]
  rfl

theorem at_push1 (w : World) (o p : Obj) : ((w.alloc o).alloc p).heap[w.heap.size]? = some o := by
  show ((w.heap.push o).push p)[w.heap.size]? = some o
  rw [Array.getElem?_push_lt (by simp)]; simp
theorem at_push2 (w : World) (o p : Obj) : ((w.alloc o).alloc p).heap[w.heap.size + 1]? = some p := by
  show ((w.heap.push o).push p)[w.heap.size + 1]? = some p
  have h := Array.getElem?_push_size (xs := w.heap.push o) (x := p)
  rw [Array.size_push] at h
  exact h
theorem push_kept {w w1 : World} {o p : Obj} (h : Below ((w.alloc o).alloc p).heap.size ((w.alloc o).alloc p) w1) : w1.heap[w.heap.size]? = some o ∧ w1.heap[w.heap.size + 1]? = some p := by
  have e : ((w.alloc o).alloc p).heap.size = w.heap.size + 2 := by show ((w.heap.push o).push p).size = _; simp
  exact ⟨(h.block _ (by omega)).trans (at_push1 w o p), (h.block _ (by omega)).trans (at_push2 w o p)⟩

theorem node_l0 (x y : S36) (h : x.f7.length = y.f7.length) (hb : x.f7.length ≤ 9223372036854775807) : ∀ d k i : Nat, i ≤ x.f7.length → x.f7.length - i = d → d < k →
    smithyref04_node.l0 k i x.f0 x.f1 x.f2 x.f3 x.f4 x.f5 x.f6 x.f7 y.f0 y.f1 y.f2 y.f3 y.f4 y.f5 y.f6 y.f7 = some (((x.f7.drop i).zip (y.f7.drop i)).all fun p => decide (p.1 = p.2)) := by
  intro d
  induction d with
  | zero =>
    intro k i hi hd hk
    obtain ⟨k, rfl⟩ : ∃ m, k = m + 1 := ⟨k - 1, by omega⟩
    simp only [smithyref04_node.l0]
    rw [if_neg (by omega), List.drop_eq_nil_of_le (by omega)]
    rfl
  | succ d ih =>
    intro k i hi hd hk
    obtain ⟨k, rfl⟩ : ∃ m, k = m + 1 := ⟨k - 1, by omega⟩
    have h1 : i < x.f7.length := by omega
    simp only [smithyref04_node.l0]
    rw [if_pos (by omega), if_pos (by omega), if_pos (by omega)]
    have e1 : rd x.f7 (i : Int) = x.f7[i] := by unfold rd; simp [List.getD_eq_getElem?_getD, h1]
    have e2 : rd y.f7 (i : Int) = y.f7[i]'(h ▸ h1) := by unfold rd; simp [List.getD_eq_getElem?_getD, h ▸ h1]
    rw [e1, e2, eqL_from (f := fun a b => decide (a = b)) h h1]
    by_cases he : x.f7[i] = y.f7[i]'(h ▸ h1)
    · rw [if_pos he, decide_eq_true he, Bool.true_and, show wrap64 ((i : Int) + 1) = ((i + 1 : Nat) : Int) from by unfold wrap64; omega]
      exact ih k (i + 1) (by omega) (by omega) (by omega)
    · rw [if_neg he, decide_eq_false he]; rfl

theorem node_f (x y : S36) (hb : x.f7.length ≤ 9223372036854775807) (k : Nat) (hk : x.f7.length + 2 ≤ k) :
    smithyref04_node.f k x.f0 x.f1 x.f2 x.f3 x.f4 x.f5 x.f6 x.f7 y.f0 y.f1 y.f2 y.f3 y.f4 y.f5 y.f6 y.f7 = some (nodeEq x y) := by
  obtain ⟨k, rfl⟩ : ∃ m, k = m + 1 := ⟨k - 1, by omega⟩
  unfold smithyref04_node.f nodeEq
  simp only [smithyref04_node.j0]
  by_cases h0 : x.f0 = y.f0
  · rw [if_pos h0, decide_eq_true h0, Bool.true_and]
    by_cases h2 : x.f2.toList = y.f2.toList
    · rw [if_pos h2, decide_eq_true (str_eq h2), Bool.true_and]
      by_cases h3 : x.f3 = y.f3
      · rw [if_pos h3, decide_eq_true h3, Bool.true_and]
        by_cases h4 : x.f4 = y.f4
        · rw [if_pos h4, decide_eq_true h4, Bool.true_and]
          by_cases h5 : x.f5 = y.f5
          · rw [if_pos h5, decide_eq_true h5, Bool.true_and]
            by_cases h6 : x.f6 = y.f6
            · rw [if_pos h6, decide_eq_true h6, Bool.true_and, ← eqL_eq]
              by_cases hl : x.f7.length = y.f7.length
              · rw [if_neg (by simp [hl])]
                have := node_l0 x y hl hb x.f7.length k 0 (by omega) (by omega) (by omega)
                rw [show ((0 : Nat) : Int) = 0 from rfl] at this
                rw [this]
                unfold eqL
                rw [decide_eq_true hl]
                rfl
              · rw [if_pos (by simp; omega), eqL_ne hl]
            · rw [if_neg h6, decide_eq_false h6]; rfl
          · rw [if_neg h5, decide_eq_false h5]; rfl
        · rw [if_neg h4, decide_eq_false h4]; rfl
      · rw [if_neg h3, decide_eq_false h3]; rfl
    · rw [if_neg h2, str_ne h2]; rfl
  · rw [if_neg h0, decide_eq_false h0]; rfl

theorem fun_l0 (x y : S39) (h : x.f2.length = y.f2.length) (hb : x.f2.length ≤ 9223372036854775807) : ∀ d k i : Nat, i ≤ x.f2.length → x.f2.length - i = d → d < k →
    smithyref04_function.l0 k i x.f0 x.f1 x.f2 x.f3 x.f4 y.f0 y.f1 y.f2 y.f3 y.f4 = some (((x.f2.drop i).zip (y.f2.drop i)).all fun p => prmEq p.1 p.2) := by
  intro d
  induction d with
  | zero =>
    intro k i hi hd hk
    obtain ⟨k, rfl⟩ : ∃ m, k = m + 1 := ⟨k - 1, by omega⟩
    simp only [smithyref04_function.l0]
    rw [if_neg (by omega), List.drop_eq_nil_of_le (by omega)]
    rfl
  | succ d ih =>
    intro k i hi hd hk
    obtain ⟨k, rfl⟩ : ∃ m, k = m + 1 := ⟨k - 1, by omega⟩
    have h1 : i < x.f2.length := by omega
    simp only [smithyref04_function.l0]
    rw [if_pos (by omega), if_pos (by omega), if_pos (by omega)]
    have e1 : rd_T41 x.f2 (i : Int) = x.f2[i] := by unfold rd_T41; simp [List.getD_eq_getElem?_getD, h1]
    have e2 : rd_T41 y.f2 (i : Int) = y.f2[i]'(h ▸ h1) := by unfold rd_T41; simp [List.getD_eq_getElem?_getD, h ▸ h1]
    rw [e1, e2, eqL_from (f := prmEq) h h1]
    unfold prmEq
    by_cases he : (x.f2[i]).f0.toList = (y.f2[i]'(h ▸ h1)).f0.toList
    · rw [if_pos he, decide_eq_true (str_eq he), Bool.true_and]
      by_cases h2 : (x.f2[i]).f2 = (y.f2[i]'(h ▸ h1)).f2
      · rw [if_pos h2, decide_eq_true h2, Bool.true_and, show wrap64 ((i : Int) + 1) = ((i + 1 : Nat) : Int) from by unfold wrap64; omega]
        exact ih k (i + 1) (by omega) (by omega) (by omega)
      · rw [if_neg h2, decide_eq_false h2]; rfl
    · rw [if_neg he, str_ne he]; rfl

theorem fun_f (x y : S39) (hb : x.f2.length ≤ 9223372036854775807) (k : Nat) (hk : x.f2.length + 2 ≤ k) :
    smithyref04_function.f k x.f0 x.f1 x.f2 x.f3 x.f4 y.f0 y.f1 y.f2 y.f3 y.f4 = some (funEq x y) := by
  obtain ⟨k, rfl⟩ : ∃ m, k = m + 1 := ⟨k - 1, by omega⟩
  unfold smithyref04_function.f funEq
  simp only [smithyref04_function.j0]
  by_cases h0 : x.f0.toList = y.f0.toList
  · rw [if_pos h0, decide_eq_true (str_eq h0), Bool.true_and]
    by_cases h3 : x.f3 = y.f3
    · rw [if_pos h3, decide_eq_true h3, Bool.true_and]
      by_cases h4 : x.f4 = y.f4
      · rw [if_pos h4, decide_eq_true h4, Bool.true_and]
        by_cases hl : x.f2.length = y.f2.length
        · rw [if_neg (by simp [hl])]
          have := fun_l0 x y hl hb x.f2.length k 0 (by omega) (by omega) (by omega)
          rw [show ((0 : Nat) : Int) = 0 from rfl] at this
          rw [this]
          unfold eqL
          rw [decide_eq_true hl]
          rfl
        · rw [if_pos (by simp; omega), eqL_ne hl]
      · rw [if_neg h4, decide_eq_false h4]; rfl
    · rw [if_neg h3, decide_eq_false h3]; rfl
  · rw [if_neg h0, str_ne h0]; rfl

theorem same_l1 (n m : List S36) (f g : List S39) (h : f.length = g.length) (hb : f.length ≤ 9223372036854775807) (K : Nat) (hK : ∀ x ∈ f, x.f2.length ≤ 9223372036854775807 ∧ x.f2.length + 2 ≤ K) : ∀ d k i : Nat, i ≤ f.length → f.length - i = d → d + K < k →
    smithyref04_Same.l1 k i n f m g = some (((f.drop i).zip (g.drop i)).all fun p => funEq p.1 p.2) := by
  intro d
  induction d with
  | zero =>
    intro k i hi hd hk
    obtain ⟨k, rfl⟩ : ∃ m, k = m + 1 := ⟨k - 1, by omega⟩
    simp only [smithyref04_Same.l1]
    rw [if_neg (by omega), List.drop_eq_nil_of_le (by omega)]
    rfl
  | succ d ih =>
    intro k i hi hd hk
    obtain ⟨k, rfl⟩ : ∃ m, k = m + 1 := ⟨k - 1, by omega⟩
    have h1 : i < f.length := by omega
    simp only [smithyref04_Same.l1]
    rw [if_pos (by omega), if_pos (by omega), if_pos (by omega)]
    have e1 : rd_T39 f (i : Int) = f[i] := by unfold rd_T39; simp [List.getD_eq_getElem?_getD, h1]
    have e2 : rd_T39 g (i : Int) = g[i]'(h ▸ h1) := by unfold rd_T39; simp [List.getD_eq_getElem?_getD, h ▸ h1]
    have hx := hK (f[i]) (List.getElem_mem h1)
    rw [e1, e2, eqL_from (f := funEq) h h1, fun_f _ _ hx.1 k (by omega)]
    simp only [Option.bind_some]
    by_cases he : funEq (f[i]) (g[i]'(h ▸ h1)) = true
    · rw [if_pos he, he, Bool.true_and, show wrap64 ((i : Int) + 1) = ((i + 1 : Nat) : Int) from by unfold wrap64; omega]
      exact ih k (i + 1) (by omega) (by omega) (by omega)
    · rw [if_neg he]
      rw [Bool.not_eq_true] at he
      rw [he]; rfl

theorem same_l0 (n m : List S36) (f g : List S39) (hn : n.length = m.length) (hbn : n.length ≤ 9223372036854775807) (h : f.length = g.length) (hb : f.length ≤ 9223372036854775807) (K : Nat) (hK : ∀ x ∈ f, x.f2.length ≤ 9223372036854775807 ∧ x.f2.length + 2 ≤ K)
    (hN : ∀ x ∈ n, x.f7.length ≤ 9223372036854775807 ∧ x.f7.length + 2 ≤ K) : ∀ d k i : Nat, i ≤ n.length → n.length - i = d → d + f.length + K + 1 < k →
    smithyref04_Same.l0 k i n f m g = some ((((n.drop i).zip (m.drop i)).all fun p => nodeEq p.1 p.2) && (f.zip g).all fun p => funEq p.1 p.2) := by
  intro d
  induction d with
  | zero =>
    intro k i hi hd hk
    obtain ⟨k, rfl⟩ : ∃ m, k = m + 1 := ⟨k - 1, by omega⟩
    simp only [smithyref04_Same.l0]
    rw [if_neg (by omega), List.drop_eq_nil_of_le (by omega)]
    have := same_l1 n m f g h hb K hK f.length k 0 (by omega) (by omega) (by omega)
    rw [show ((0 : Nat) : Int) = 0 from rfl] at this
    rw [this]
    rfl
  | succ d ih =>
    intro k i hi hd hk
    obtain ⟨k, rfl⟩ : ∃ m, k = m + 1 := ⟨k - 1, by omega⟩
    have h1 : i < n.length := by omega
    simp only [smithyref04_Same.l0]
    rw [if_pos (by omega), if_pos (by omega), if_pos (by omega)]
    have e1 : rd_T36 n (i : Int) = n[i] := by unfold rd_T36; simp [List.getD_eq_getElem?_getD, h1]
    have e2 : rd_T36 m (i : Int) = m[i]'(hn ▸ h1) := by unfold rd_T36; simp [List.getD_eq_getElem?_getD, hn ▸ h1]
    have hx := hN (n[i]) (List.getElem_mem h1)
    rw [e1, e2, eqL_from (f := nodeEq) hn h1, node_f _ _ hx.1 k (by omega)]
    simp only [Option.bind_some]
    by_cases he : nodeEq (n[i]) (m[i]'(hn ▸ h1)) = true
    · rw [if_pos he, he, Bool.true_and, show wrap64 ((i : Int) + 1) = ((i + 1 : Nat) : Int) from by unfold wrap64; omega]
      exact ih k (i + 1) (by omega) (by omega) (by omega)
    · rw [if_neg he]
      rw [Bool.not_eq_true] at he
      rw [he]; rfl

theorem same_f (n m : List S36) (f g : List S39) (hbn : n.length ≤ 9223372036854775807) (hb : f.length ≤ 9223372036854775807) (hK : ∀ x ∈ f, x.f2.length ≤ 9223372036854775807) (hN : ∀ x ∈ n, x.f7.length ≤ 9223372036854775807) :
    ∃ k, smithyref04_Same.f k n f m g = some (treeEq n m f g) := by
  refine ⟨n.length + f.length + ((f.map (·.f2.length)).sum + (n.map (·.f7.length)).sum + 2) + 3, ?_⟩
  have k1 : ∀ x ∈ f, x.f2.length ≤ 9223372036854775807 ∧ x.f2.length + 2 ≤ (f.map (·.f2.length)).sum + (n.map (·.f7.length)).sum + 2 := fun x hx => ⟨hK x hx, by have := sum_le _ _ (List.mem_map_of_mem (f := fun x : S39 => x.f2.length) hx); omega⟩
  have k2 : ∀ x ∈ n, x.f7.length ≤ 9223372036854775807 ∧ x.f7.length + 2 ≤ (f.map (·.f2.length)).sum + (n.map (·.f7.length)).sum + 2 := fun x hx => ⟨hN x hx, by have := sum_le _ _ (List.mem_map_of_mem (f := fun x : S36 => x.f7.length) hx); omega⟩
  unfold smithyref04_Same.f treeEq
  simp only [smithyref04_Same.j0]
  by_cases h1 : n.length = m.length
  · rw [if_pos (by omega)]
    by_cases h2 : f.length = g.length
    · rw [if_neg (by simp [h2])]
      have := same_l0 n m f g h1 hbn h2 hb _ k1 k2 n.length (n.length + f.length + ((f.map (·.f2.length)).sum + (n.map (·.f7.length)).sum + 2) + 2) 0 (by omega) (by omega) (by omega)
      rw [show ((0 : Nat) : Int) = 0 from rfl] at this
      rw [this]
      unfold eqL
      rw [decide_eq_true h1, decide_eq_true h2]
      rfl
    · rw [if_pos (by simp; omega), eqL_ne h2, Bool.and_false]
  · rw [if_neg (by omega), eqL_ne h1]
    rfl

theorem kids_b {w : World} {A : Option Addr} {n : List S36} (h : Kd.C k36 w A n.length n) : ∀ x ∈ n, x.f7.length ≤ 9223372036854775807 := by
  intro x hx
  obtain ⟨i, hi, rfl⟩ := List.mem_iff_getElem.1 hx
  obtain ⟨ad, A7, c7, _, _, _, _, _, _, _, _, _, _, g7⟩ := at_T36 h (i : Int) (by omega) (by omega)
  have e1 : rd_T36 n (i : Int) = n[i] := by unfold rd_T36; simp [List.getD_eq_getElem?_getD, hi]
  rw [e1] at g7
  exact g7.2.1

theorem prms_b {w : World} {A : Option Addr} {n : List S39} (h : Kd.C k39 w A n.length n) : ∀ x ∈ n, x.f2.length ≤ 9223372036854775807 := by
  intro x hx
  obtain ⟨i, hi, rfl⟩ := List.mem_iff_getElem.1 hx
  obtain ⟨ad, A2, c2, _, _, _, _, _, _, _, g2⟩ := at_T39 h (i : Int) (by omega) (by omega)
  have e1 : rd_T39 n (i : Int) = n[i] := by unfold rd_T39; simp [List.getD_eq_getElem?_getD, hi]
  rw [e1] at g2
  exact g2.2.1

/-- The reference's Same. -/
theorem ref_w (n m : List S36) (f g : List S39) (A B A' B' : Option Addr) (c d c' d' : Nat) (w : World) (h1 : Kd.C k36 w A n.length n) (l1 : n.length ≤ c) (h2 : Kd.C k39 w B f.length f) (l2 : f.length ≤ d) (h3 : Kd.C k36 w A' m.length m) (l3 : m.length ≤ c') (h4 : Kd.C k39 w B' g.length g) (l4 : g.length ≤ d') :
    Calls Tryz.prog 8 #[.agg #[.slice A n.length c, .slice B f.length d], .agg #[.slice A' m.length c', .slice B' g.length d']] w fun e w' => e = .returned (.bool (treeEq n m f g)) ∧ Below w.heap.size w w' := by
  obtain ⟨k, hk⟩ := same_f n m f g h1.2.1 h2.2.1 (prms_b h2) (kids_b h1)
  exact smithyref04_Same.calls k A c n B d f A' c' m B' d' g _ w h1 l1 h2 l2 h3 l3 h4 l4 hk

set_option maxRecDepth 100000 in
set_option maxHeartbeats 2000000 in
/-- The program's Same. -/
theorem spl_w (n m : List S36) (f g : List S39) (A B A' B' : Option Addr) (c d c' d' : Nat) (w : World) (h1 : Kd.C k36 w A n.length n) (l1 : n.length ≤ c) (h2 : Kd.C k39 w B f.length f) (l2 : f.length ≤ d) (h3 : Kd.C k36 w A' m.length m) (l3 : m.length ≤ c') (h4 : Kd.C k39 w B' g.length g) (l4 : g.length ≤ d') :
    Calls Tryz.prog 7 #[.agg #[.slice A n.length c, .slice B f.length d], .agg #[.slice A' m.length c', .slice B' g.length d']] w fun e w' => e = .returned (.bool (treeEq n m f g)) ∧ Below w.heap.size w w' := by
  have H1 := Lib.hid h1
  have H2 := Lib.hid h2
  have H3 := Lib.hid h3
  have H4 := Lib.hid h4
  clear h1 h2 h3 h4
  have HE : Hid (treeEq n m f g = (eqL nodeEq n m && eqL funEq f g)) := Lib.hid rfl
  generalize treeEq n m f g = R at HE ⊢
  go_enter Tryz.func7, Tryz.ntmps7
  go_wp2_with fail
  with_reducible refine (eqn n m _ _ _ _ _ (Kd.C_below H1.out (by repeat (first | exact Below.refl _ _ | apply below_alloc))) l1 (Kd.C_below H3.out (by repeat (first | exact Below.refl _ _ | apply below_alloc))) l3).mono ?_
  rintro e w1 ⟨rfl, hb1⟩
  have HB1 := Lib.hid (show Below w.heap.size w w1 from thru (by repeat (first | exact Below.refl _ _ | apply below_alloc)) hb1)
  obtain ⟨k1, k2⟩ := push_kept hb1
  have c1 : w1.cell? ⟨w.heap.size, 1, none⟩ = some (.slice B f.length d) := by rw [Lib.cell_of_heap k1]; rfl
  have c2 : w1.cell? ⟨w.heap.size + 1, 1, none⟩ = some (.slice B' g.length d') := by rw [Lib.cell_of_heap k2]; rfl
  clear hb1 k1 k2
  by_cases he : eqL nodeEq n m = true
  · rw [he, Bool.true_and] at HE
    rw [he]
    clear he
    go_wp2_with fail
    with_reducible refine (eqq f g _ _ _ _ _ (Kd.C_below H2.out (by repeat (first | exact HB1.out | apply below_alloc))) l2 (Kd.C_below H4.out (by repeat (first | exact HB1.out | apply below_alloc))) l4).mono ?_
    rintro e w2 ⟨rfl, hb2⟩
    have HB2 := Lib.hid (show Below w.heap.size w w2 from thru (by repeat (first | exact HB1.out | apply below_alloc)) hb2)
    clear hb2
    go_wp2
    go_ret
    exact ⟨by rw [HE.out]; rfl, HB2.out⟩
  · rw [Bool.not_eq_true] at he
    rw [he, Bool.false_and] at HE
    rw [he]
    clear he
    go_wp2
    go_ret
    exact ⟨by rw [HE.out]; rfl, HB1.out⟩

end Go.Proofs.YtadkgnfidiilnaaGreatDoor
