/-
  spell.Same: the walks of its parts, against plain models.
-/
import Derived.Test.YtadkgnfidiilnaaGreatDoorPSamex0
import Derived.Lib.Hide
import Derived.WalkLawsBesides
set_option linter.unusedVariables false
set_option linter.unusedSimpArgs false
namespace Go.Proofs.YtadkgnfidiilnaaGreatDoor
open Go.RowKit Go.Proofs.YtadkgnfidiilnaaGreatDoorW.PrintWords PSame

def eqL {α : Type} (f : α → α → Bool) (l m : List α) : Bool := decide (l.length = m.length) && (l.zip m).all fun p => f p.1 p.2
def prmEq (x y : S41) : Bool := decide (x.f0 = y.f0) && decide (x.f2 = y.f2)
def nodeEq (x y : S36) : Bool := decide (x.f0 = y.f0) && (decide (x.f2 = y.f2) && (decide (x.f3 = y.f3) && (decide (x.f4 = y.f4) && (decide (x.f5 = y.f5) && (decide (x.f6 = y.f6) && decide (x.f7 = y.f7))))))
def funEq (x y : S39) : Bool := decide (x.f0 = y.f0) && (decide (x.f3 = y.f3) && (decide (x.f4 = y.f4) && eqL prmEq x.f2 y.f2))

theorem str_ne {a b : ByteArray} (h : ¬ a.toList = b.toList) : decide (a = b) = false := decide_eq_false fun e => h (by rw [e])
theorem str_eq {a b : ByteArray} (h : a.toList = b.toList) : a = b := by
  rw [ByteArray.toList_eq, ByteArray.toList_eq] at h
  cases a; cases b; congr 1; exact Array.toList_inj.1 h
theorem beq_dec (a b : Int) : (a == b) = decide (a = b) := by rw [Bool.eq_iff_iff]; simp
theorem all_snoc {α β : Type} (f : α × β → Bool) (l : List α) (m : List β) (k : Nat) (h1 : k < l.length) (h2 : k < m.length) : ((l.take (k + 1)).zip (m.take (k + 1))).all f = (((l.take k).zip (m.take k)).all f && f (l[k], m[k])) := by
  rw [List.take_succ_eq_append_getElem h1, List.take_succ_eq_append_getElem h2, List.zip_append (by simp; omega)]
  simp
theorem all_cut {α β : Type} (f : α × β → Bool) (l : List α) (m : List β) (k : Nat) (h1 : k < l.length) (h2 : k < m.length) (h : f (l[k], m[k]) = false) : (l.zip m).all f = false := by
  rw [List.all_eq_false]
  exact ⟨(l[k], m[k]), by rw [List.mem_iff_getElem]; exact ⟨k, by simp; omega, by simp⟩, by simp [h]⟩
theorem thru {w W w1 : World} (h : Below w.heap.size w W) (k : Below W.heap.size W w1) : Below w.heap.size w w1 := below_then h h.size k
theorem eqL_ne {α : Type} {f : α → α → Bool} {l m : List α} (h : ¬ l.length = m.length) : eqL f l m = false := by unfold eqL; rw [decide_eq_false h]; rfl
theorem eqL_no {α : Type} {f : α → α → Bool} {l m : List α} {k : Nat} (h1 : k < l.length) (h2 : k < m.length) (h : f l[k] m[k] = false) : eqL f l m = false := by
  unfold eqL; rw [all_cut (fun p => f p.1 p.2) l m k h1 h2 h, Bool.and_false]
theorem eqL_yes {α : Type} {f : α → α → Bool} {l m : List α} {k : Nat} (h : l.length = m.length) (hk : ¬ k < l.length) (ha : ((l.take k).zip (m.take k)).all (fun p => f p.1 p.2) = true) : eqL f l m = true := by
  unfold eqL
  rw [List.take_of_length_le (by omega), List.take_of_length_le (by omega)] at ha
  rw [ha, decide_eq_true h]; rfl
theorem eqL_eq (l m : List Int) : eqL (fun x y => decide (x = y)) l m = decide (l = m) := by
  rw [Bool.eq_iff_iff]
  unfold eqL
  simp only [Bool.and_eq_true, decide_eq_true_eq, List.all_eq_true]
  constructor
  · rintro ⟨h1, h2⟩
    refine List.ext_getElem h1 fun i a b => ?_
    have := h2 (l[i], m[i]) (by rw [List.mem_iff_getElem]; exact ⟨i, by simp; omega, by simp⟩)
    exact this
  · rintro rfl
    refine ⟨rfl, fun p hp => ?_⟩
    obtain ⟨i, hi, rfl⟩ := List.mem_iff_getElem.1 hp
    simp

set_option maxRecDepth 100000 in
set_option maxHeartbeats 1000000 in
theorem eqi (l m : List Int) (A0 A1 : Option Addr) (c0 c1 : Nat) (w : World) (hr0 : Kd.C (Kd.int .i64) w A0 l.length l) (hc0 : l.length ≤ c0) (hr1 : Kd.C (Kd.int .i64) w A1 m.length m) (hc1 : m.length ≤ c1) :
    Calls Tryz.prog 15 #[.slice A0 l.length c0, .slice A1 m.length c1] w fun e w' => e = .returned (.bool (decide (l = m))) ∧ Below w.heap.size w w' := by
  rw [← eqL_eq]
  have HR0 := Lib.hid hr0
  have HR1 := Lib.hid hr1
  have hb0 : l.length ≤ 9223372036854775807 := hr0.2.1
  clear hr0 hr1
  by_cases h : l.length = m.length
  · have d0 : ((l.length : Int) != (m.length : Int)) = false := bne_eq_false_iff_eq.2 (by omega)
    have d1 : ((l.length : Int) == (m.length : Int)) = true := beq_iff_eq.2 (by omega)
    have HL := Lib.hid h
    clear h
    go_enter Tryz.func15, Tryz.ntmps15
    go_wp2
    go_loopw [13] (fun i wr => ∃ k : Nat, k ≤ l.length ∧ i = .int .i64 k ∧ Below w.heap.size w wr ∧ Hid (((l.take k).zip (m.take k)).all (fun p => decide (p.1 = p.2)) = true)) (fun i wr => l.length - (intOf i).toNat)
    case atStart => exact ⟨0, Nat.zero_le _, rfl, by repeat (first | exact Below.refl _ _ | apply below_alloc | apply pw_below_drewN | apply below_drew1), Lib.hid rfl⟩
    case round =>
      obtain ⟨k, hk, rfl, hb, HA⟩ := hrel
      have HB := Lib.hid hb
      clear hb
      by_cases hlt : k < l.length
      · have hlt2 : k < m.length := by have := HL.out; omega
        have p1 : (0 : Int) ≤ (k : Int) := by omega
        have q1 : (k : Int) < (l.length : Int) := by omega
        have q2 : (k : Int) < (m.length : Int) := by omega
        obtain ⟨ad0, e0, x0⟩ := Kd.at_int (Kd.C_below HR0.out HB.out) (k : Int) p1 q1
        obtain ⟨ad1, e1, y0⟩ := Kd.at_int (Kd.C_below HR1.out HB.out) (k : Int) p1 q2
        cases e0
        cases e1
        have n0 : ((k : Int)).toNat = k := rfl
        have r0 : rd l (k : Int) = l[k] := by unfold rd; simp [List.getD_eq_getElem?_getD, hlt]
        have r1 : rd m (k : Int) = m[k] := by unfold rd; simp [List.getD_eq_getElem?_getD, hlt2]
        rw [r0, n0] at x0
        rw [r1, n0] at y0
        have d2 : decide ((k : Int) < (l.length : Int)) = true := decide_eq_true (by omega)
        have d3 : decide ((k : Int) < (m.length : Int)) = true := decide_eq_true (by omega)
        clear r0 r1 n0
        by_cases he : l[k] = m[k]
        · have d4 : (l[k] != m[k]) = false := bne_eq_false_iff_eq.2 he
          have d5 : (l[k] == m[k]) = true := beq_iff_eq.2 he
          have HE := Lib.hid he
          clear he
          go_wp2
          repeat (go_quiet (fail); try go_wp2)
          go_roundw
          case rel => exact ⟨k + 1, by omega, by go_num, by repeat (first | exact HB.out | apply below_alloc | apply pw_below_drewN | apply below_drew1), Lib.hid (by rw [all_snoc _ l m k hlt hlt2, HA.out, Bool.true_and]; exact decide_eq_true HE.out)⟩
          case measure => simp [intOf]; omega
        · have d4 : (l[k] != m[k]) = true := bne_iff_ne.2 he
          have d5 : (l[k] == m[k]) = false := beq_eq_false_iff_ne.2 he
          have HF : Hid (eqL (fun x y => decide (x = y)) l m = false) := Lib.hid (eqL_no hlt hlt2 (decide_eq_false he))
          clear he
          go_wp2
          repeat (go_quiet (fail); try go_wp2)
          go_ret
          exact ⟨by rw [HF.out]; rfl, by repeat (first | exact HB.out | apply below_alloc | apply pw_below_drewN | apply below_drew1)⟩
      · have d2 : decide ((k : Int) < (l.length : Int)) = false := decide_eq_false (by omega)
        have d3 : decide ((k : Int) < (m.length : Int)) = false := decide_eq_false (by have := HL.out; omega)
        have HF : Hid (eqL (fun x y => decide (x = y)) l m = true) := Lib.hid (eqL_yes HL.out hlt HA.out)
        go_wp2
        go_ret
        exact ⟨by rw [HF.out]; rfl, by repeat (first | exact HB.out | apply below_alloc | apply pw_below_drewN | apply below_drew1)⟩
  · have d0 : ((l.length : Int) != (m.length : Int)) = true := bne_iff_ne.2 (by omega)
    have d1 : ((l.length : Int) == (m.length : Int)) = false := beq_eq_false_iff_ne.2 (by omega)
    have HF : Hid (eqL (fun x y => decide (x = y)) l m = false) := Lib.hid (eqL_ne h)
    go_enter Tryz.func15, Tryz.ntmps15
    go_wp2
    go_ret
    exact ⟨by rw [HF.out]; rfl, by repeat (first | exact Below.refl _ _ | apply below_alloc | apply pw_below_drewN | apply below_drew1)⟩

theorem prm (x y : S41) (w : World) : Calls Tryz.prog 19 #[.agg #[.string x.f0, .int .i64 x.f1, .int .u8 x.f2], .agg #[.string y.f0, .int .i64 y.f1, .int .u8 y.f2]] w fun e w' => e = .returned (.bool (prmEq x y)) ∧ Below w.heap.size w w' := by
  go_enter Tryz.func19, Tryz.ntmps19
  go_wp2
  all_goals
    rename_i h
    go_ret
    refine ⟨?_, by repeat (first | exact Below.refl _ _ | apply below_alloc)⟩
    unfold prmEq
    first
    | (rw [str_ne h]; rfl)
    | (rw [str_eq h, decide_eq_true rfl, Bool.true_and, beq_dec]; rfl)


set_option maxRecDepth 100000 in
set_option maxHeartbeats 2000000 in
theorem eqp (l m : List S41) (A0 A1 : Option Addr) (c0 c1 : Nat) (w : World) (hr0 : Kd.C k41 w A0 l.length l) (hc0 : l.length ≤ c0) (hr1 : Kd.C k41 w A1 m.length m) (hc1 : m.length ≤ c1) :
    Calls Tryz.prog 18 #[.slice A0 l.length c0, .slice A1 m.length c1, .func (.func 19) #[] #[]] w fun e w' => e = .returned (.bool (eqL prmEq l m)) ∧ Below w.heap.size w w' := by
  have HR0 := Lib.hid hr0
  have HR1 := Lib.hid hr1
  have hb0 : l.length ≤ 9223372036854775807 := hr0.2.1
  clear hr0 hr1
  by_cases h : l.length = m.length
  · have d0 : ((l.length : Int) != (m.length : Int)) = false := bne_eq_false_iff_eq.2 (by omega)
    have d1 : ((l.length : Int) == (m.length : Int)) = true := beq_iff_eq.2 (by omega)
    have HL := Lib.hid h
    clear h
    go_enter Tryz.func18, Tryz.ntmps18
    go_wp2
    go_loopw [17] (fun i wr => ∃ k : Nat, k ≤ l.length ∧ i = .int .i64 k ∧ Below w.heap.size w wr ∧ Hid (((l.take k).zip (m.take k)).all (fun p => prmEq p.1 p.2) = true)) (fun i wr => l.length - (intOf i).toNat)
    case atStart => exact ⟨0, Nat.zero_le _, rfl, by repeat (first | exact Below.refl _ _ | apply below_drew), Lib.hid rfl⟩
    case round =>
      obtain ⟨k, hk, rfl, hb, HA⟩ := hrel
      have HB := Lib.hid hb
      clear hb
      by_cases hlt : k < l.length
      · have hlt2 : k < m.length := by have := HL.out; omega
        have p1 : (0 : Int) ≤ (k : Int) := by omega
        have q1 : (k : Int) < (l.length : Int) := by omega
        have q2 : (k : Int) < (m.length : Int) := by omega
        obtain ⟨ad0, e0, x0, x1, x2⟩ := at_T41 (Kd.C_below HR0.out HB.out) (k : Int) p1 q1
        obtain ⟨ad1, e1, y0, y1, y2⟩ := at_T41 (Kd.C_below HR1.out HB.out) (k : Int) p1 q2
        cases e0
        cases e1
        have n0 : ((k : Int)).toNat = k := rfl
        have r0 : rd_T41 l (k : Int) = l[k] := by unfold rd_T41; simp [List.getD_eq_getElem?_getD, hlt]
        have r1 : rd_T41 m (k : Int) = m[k] := by unfold rd_T41; simp [List.getD_eq_getElem?_getD, hlt2]
        rw [r0, n0] at x0 x1 x2
        rw [r1, n0] at y0 y1 y2
        have z0 := fun o : Obj => pw_cell_below (below_alloc (Below.refl wr.heap.size wr) o) y0
        have z1 := fun o : Obj => pw_cell_below (below_alloc (Below.refl wr.heap.size wr) o) y1
        have z2 := fun o : Obj => pw_cell_below (below_alloc (Below.refl wr.heap.size wr) o) y2
        clear y0 y1 y2
        have d2 : decide ((k : Int) < (l.length : Int)) = true := decide_eq_true (by omega)
        have d3 : decide ((k : Int) < (m.length : Int)) = true := decide_eq_true (by omega)
        clear r0 r1 n0
        go_wp2_with fail
        with_reducible refine (prm l[k] m[k] _).mono ?_
        rintro e w1 ⟨rfl, hb1⟩
        have HB1 := Lib.hid (show Below w.heap.size w w1 from thru (by repeat (first | exact HB.out | exact Below.refl _ _ | apply below_alloc)) hb1)
        clear hb1
        by_cases he : prmEq l[k] m[k] = true
        · have HE := Lib.hid he
          rw [he]
          clear he
          go_wp2
          go_roundw
          case rel => exact ⟨k + 1, by omega, by go_num, HB1.out, Lib.hid (by rw [all_snoc _ l m k hlt hlt2, HA.out, Bool.true_and]; exact HE.out)⟩
          case measure => simp [intOf]; omega
        · rw [Bool.not_eq_true] at he
          have HF : Hid (eqL prmEq l m = false) := Lib.hid (eqL_no hlt hlt2 he)
          rw [he]
          clear he
          go_wp2
          go_ret
          exact ⟨by rw [HF.out]; rfl, HB1.out⟩
      · have d2 : decide ((k : Int) < (l.length : Int)) = false := decide_eq_false (by omega)
        have d3 : decide ((k : Int) < (m.length : Int)) = false := decide_eq_false (by have := HL.out; omega)
        have HF : Hid (eqL prmEq l m = true) := Lib.hid (eqL_yes HL.out hlt HA.out)
        go_wp2
        go_ret
        exact ⟨by rw [HF.out]; rfl, HB.out⟩
  · have d0 : ((l.length : Int) != (m.length : Int)) = true := bne_iff_ne.2 (by omega)
    have d1 : ((l.length : Int) == (m.length : Int)) = false := beq_eq_false_iff_ne.2 (by omega)
    have HF : Hid (eqL prmEq l m = false) := Lib.hid (eqL_ne h)
    go_enter Tryz.func18, Tryz.ntmps18
    go_wp2
    go_ret
    exact ⟨by rw [HF.out]; rfl, by repeat (first | exact Below.refl _ _ | apply below_drew)⟩


set_option maxRecDepth 100000 in
set_option maxHeartbeats 2000000 in
theorem fnc (x y : S39) (A B : Option Addr) (c d : Nat) (w : World) (hA : Kd.C k41 w A x.f2.length x.f2) (hc : x.f2.length ≤ c) (hB : Kd.C k41 w B y.f2.length y.f2) (hd : y.f2.length ≤ d) :
    Calls Tryz.prog 17 #[.agg #[.string x.f0, .int .i64 x.f1, .slice A x.f2.length c, .int .u8 x.f3, .int .i64 x.f4], .agg #[.string y.f0, .int .i64 y.f1, .slice B y.f2.length d, .int .u8 y.f3, .int .i64 y.f4]] w fun e w' => e = .returned (.bool (funEq x y)) ∧ Below w.heap.size w w' := by
  have HA := Lib.hid hA
  have HB := Lib.hid hB
  clear hA hB
  have HE : Hid (funEq x y = (decide (x.f0 = y.f0) && (decide (x.f3 = y.f3) && (decide (x.f4 = y.f4) && eqL prmEq x.f2 y.f2)))) := Lib.hid rfl
  generalize funEq x y = R at HE ⊢
  by_cases h0 : x.f0.toList = y.f0.toList
  · rw [str_eq h0, decide_eq_true rfl, Bool.true_and] at HE
    have b0 : (x.f0.toList == y.f0.toList) = true := beq_iff_eq.2 h0
    clear h0
    by_cases h1 : x.f3 = y.f3
    · rw [decide_eq_true h1, Bool.true_and] at HE
      have b1 : (x.f3 == y.f3) = true := beq_iff_eq.2 h1
      clear h1
      by_cases h2 : x.f4 = y.f4
      · rw [decide_eq_true h2, Bool.true_and] at HE
        have b2 : (x.f4 == y.f4) = true := beq_iff_eq.2 h2
        clear h2
        go_enter Tryz.func17, Tryz.ntmps17
        go_wp2_with fail
        with_reducible refine (eqp x.f2 y.f2 _ _ _ _ _ (Kd.C_below HA.out (by repeat (first | exact Below.refl _ _ | apply below_alloc))) hc (Kd.C_below HB.out (by repeat (first | exact Below.refl _ _ | apply below_alloc))) hd).mono ?_
        rintro e w1 ⟨rfl, hb1⟩
        have HB1 := Lib.hid (show Below w.heap.size w w1 from thru (by repeat (first | exact HB.out | exact Below.refl _ _ | apply below_alloc)) hb1)
        clear hb1
        go_wp2
        go_ret
        exact ⟨by rw [HE.out]; rfl, HB1.out⟩
      · rw [decide_eq_false h2] at HE
        have b2 : (x.f4 == y.f4) = false := beq_eq_false_iff_ne.2 h2
        clear h2
        go_enter Tryz.func17, Tryz.ntmps17
        go_wp2
        go_ret
        exact ⟨by rw [HE.out]; rfl, by repeat (first | exact Below.refl _ _ | apply below_alloc)⟩
    · rw [decide_eq_false h1] at HE
      have b1 : (x.f3 == y.f3) = false := beq_eq_false_iff_ne.2 h1
      clear h1
      go_enter Tryz.func17, Tryz.ntmps17
      go_wp2
      go_ret
      exact ⟨by rw [HE.out]; rfl, by repeat (first | exact Below.refl _ _ | apply below_alloc)⟩
  · rw [str_ne h0] at HE
    have b0 : (x.f0.toList == y.f0.toList) = false := beq_eq_false_iff_ne.2 h0
    clear h0
    go_enter Tryz.func17, Tryz.ntmps17
    go_wp2
    go_ret
    exact ⟨by rw [HE.out]; rfl, by repeat (first | exact Below.refl _ _ | apply below_alloc)⟩


set_option maxRecDepth 100000 in
set_option maxHeartbeats 2000000 in
theorem nod (x y : S36) (A B : Option Addr) (c d : Nat) (w : World) (hA : Kd.C (Kd.int .i64) w A x.f7.length x.f7) (hc : x.f7.length ≤ c) (hB : Kd.C (Kd.int .i64) w B y.f7.length y.f7) (hd : y.f7.length ≤ d) :
    Calls Tryz.prog 14 #[.agg #[.int .u8 x.f0, .int .i64 x.f1, .string x.f2, .int .u8 x.f3, .int .u8 x.f4, .int .u64 x.f5, .int .i64 x.f6, .slice A x.f7.length c], .agg #[.int .u8 y.f0, .int .i64 y.f1, .string y.f2, .int .u8 y.f3, .int .u8 y.f4, .int .u64 y.f5, .int .i64 y.f6, .slice B y.f7.length d]] w fun e w' => e = .returned (.bool (nodeEq x y)) ∧ Below w.heap.size w w' := by
  have HA := Lib.hid hA
  have HB := Lib.hid hB
  clear hA hB
  have HE : Hid (nodeEq x y = (decide (x.f0 = y.f0) && (decide (x.f2 = y.f2) && (decide (x.f3 = y.f3) && (decide (x.f4 = y.f4) && (decide (x.f5 = y.f5) && (decide (x.f6 = y.f6) && decide (x.f7 = y.f7)))))))) := Lib.hid rfl
  generalize nodeEq x y = R at HE ⊢
  by_cases h0 : x.f0 = y.f0
  · rw [decide_eq_true h0, Bool.true_and] at HE
    have b0 : (x.f0 == y.f0) = true := beq_iff_eq.2 h0
    clear h0
    by_cases h2 : x.f2.toList = y.f2.toList
    · rw [str_eq h2, decide_eq_true rfl, Bool.true_and] at HE
      have b2 : (x.f2.toList == y.f2.toList) = true := beq_iff_eq.2 h2
      clear h2
      by_cases h3 : x.f3 = y.f3
      · rw [decide_eq_true h3, Bool.true_and] at HE
        have b3 : (x.f3 == y.f3) = true := beq_iff_eq.2 h3
        clear h3
        by_cases h4 : x.f4 = y.f4
        · rw [decide_eq_true h4, Bool.true_and] at HE
          have b4 : (x.f4 == y.f4) = true := beq_iff_eq.2 h4
          clear h4
          by_cases h5 : x.f5 = y.f5
          · rw [decide_eq_true h5, Bool.true_and] at HE
            have b5 : (x.f5 == y.f5) = true := beq_iff_eq.2 h5
            clear h5
            by_cases h6 : x.f6 = y.f6
            · rw [decide_eq_true h6, Bool.true_and] at HE
              have b6 : (x.f6 == y.f6) = true := beq_iff_eq.2 h6
              clear h6
              go_enter Tryz.func14, Tryz.ntmps14
              go_wp2_with fail
              with_reducible refine (eqi x.f7 y.f7 _ _ _ _ _ (Kd.C_below HA.out (by repeat (first | exact Below.refl _ _ | apply below_alloc))) hc (Kd.C_below HB.out (by repeat (first | exact Below.refl _ _ | apply below_alloc))) hd).mono ?_
              rintro e w1 ⟨rfl, hb1⟩
              have HB1 := Lib.hid (show Below w.heap.size w w1 from thru (by repeat (first | exact HB.out | exact Below.refl _ _ | apply below_alloc)) hb1)
              clear hb1
              go_wp2
              go_ret
              exact ⟨by rw [HE.out]; rfl, HB1.out⟩
            · rw [decide_eq_false h6] at HE
              have b6 : (x.f6 == y.f6) = false := beq_eq_false_iff_ne.2 h6
              clear h6
              go_enter Tryz.func14, Tryz.ntmps14
              go_wp2
              go_ret
              exact ⟨by rw [HE.out]; rfl, by repeat (first | exact Below.refl _ _ | apply below_alloc)⟩
          · rw [decide_eq_false h5] at HE
            have b5 : (x.f5 == y.f5) = false := beq_eq_false_iff_ne.2 h5
            clear h5
            go_enter Tryz.func14, Tryz.ntmps14
            go_wp2
            go_ret
            exact ⟨by rw [HE.out]; rfl, by repeat (first | exact Below.refl _ _ | apply below_alloc)⟩
        · rw [decide_eq_false h4] at HE
          have b4 : (x.f4 == y.f4) = false := beq_eq_false_iff_ne.2 h4
          clear h4
          go_enter Tryz.func14, Tryz.ntmps14
          go_wp2
          go_ret
          exact ⟨by rw [HE.out]; rfl, by repeat (first | exact Below.refl _ _ | apply below_alloc)⟩
      · rw [decide_eq_false h3] at HE
        have b3 : (x.f3 == y.f3) = false := beq_eq_false_iff_ne.2 h3
        clear h3
        go_enter Tryz.func14, Tryz.ntmps14
        go_wp2
        go_ret
        exact ⟨by rw [HE.out]; rfl, by repeat (first | exact Below.refl _ _ | apply below_alloc)⟩
    · rw [str_ne h2] at HE
      have b2 : (x.f2.toList == y.f2.toList) = false := beq_eq_false_iff_ne.2 h2
      clear h2
      go_enter Tryz.func14, Tryz.ntmps14
      go_wp2
      go_ret
      exact ⟨by rw [HE.out]; rfl, by repeat (first | exact Below.refl _ _ | apply below_alloc)⟩
  · rw [decide_eq_false h0] at HE
    have b0 : (x.f0 == y.f0) = false := beq_eq_false_iff_ne.2 h0
    clear h0
    go_enter Tryz.func14, Tryz.ntmps14
    go_wp2
    go_ret
    exact ⟨by rw [HE.out]; rfl, by repeat (first | exact Below.refl _ _ | apply below_alloc)⟩

set_option maxRecDepth 100000 in
set_option maxHeartbeats 2000000 in
theorem eqn (l m : List S36) (A0 A1 : Option Addr) (c0 c1 : Nat) (w : World) (hr0 : Kd.C k36 w A0 l.length l) (hc0 : l.length ≤ c0) (hr1 : Kd.C k36 w A1 m.length m) (hc1 : m.length ≤ c1) :
    Calls Tryz.prog 13 #[.slice A0 l.length c0, .slice A1 m.length c1, .func (.func 14) #[] #[]] w fun e w' => e = .returned (.bool (eqL nodeEq l m)) ∧ Below w.heap.size w w' := by
  have HR0 := Lib.hid hr0
  have HR1 := Lib.hid hr1
  have hb0 : l.length ≤ 9223372036854775807 := hr0.2.1
  clear hr0 hr1
  by_cases h : l.length = m.length
  · have d0 : ((l.length : Int) != (m.length : Int)) = false := bne_eq_false_iff_eq.2 (by omega)
    have d1 : ((l.length : Int) == (m.length : Int)) = true := beq_iff_eq.2 (by omega)
    have HL := Lib.hid h
    clear h
    go_enter Tryz.func13, Tryz.ntmps13
    go_wp2
    go_loopw [17] (fun i wr => ∃ k : Nat, k ≤ l.length ∧ i = .int .i64 k ∧ Below w.heap.size w wr ∧ Hid (((l.take k).zip (m.take k)).all (fun p => nodeEq p.1 p.2) = true)) (fun i wr => l.length - (intOf i).toNat)
    case atStart => exact ⟨0, Nat.zero_le _, rfl, by repeat (first | exact Below.refl _ _ | apply below_drew), Lib.hid rfl⟩
    case round =>
      obtain ⟨k, hk, rfl, hb, HA⟩ := hrel
      have HB := Lib.hid hb
      clear hb
      by_cases hlt : k < l.length
      · have hlt2 : k < m.length := by have := HL.out; omega
        have p1 : (0 : Int) ≤ (k : Int) := by omega
        have q1 : (k : Int) < (l.length : Int) := by omega
        have q2 : (k : Int) < (m.length : Int) := by omega
        obtain ⟨ad0, Ax7, bx7, e0, x0, x1, x2, x3, x4, x5, x6, x7, lx7, gx7⟩ := at_T36 (Kd.C_below HR0.out HB.out) (k : Int) p1 q1
        obtain ⟨ad1, Ay7, by7, e1, y0, y1, y2, y3, y4, y5, y6, y7, ly7, gy7⟩ := at_T36 (Kd.C_below HR1.out HB.out) (k : Int) p1 q2
        cases e0
        cases e1
        have n0 : ((k : Int)).toNat = k := rfl
        have r0 : rd_T36 l (k : Int) = l[k] := by unfold rd_T36; simp [List.getD_eq_getElem?_getD, hlt]
        have r1 : rd_T36 m (k : Int) = m[k] := by unfold rd_T36; simp [List.getD_eq_getElem?_getD, hlt2]
        rw [r0, n0] at x0 x1 x2 x3 x4 x5 x6 x7
        rw [r1, n0] at y0 y1 y2 y3 y4 y5 y6 y7
        rw [r0] at lx7 gx7
        have Gx7 := Lib.hid gx7
        clear gx7
        rw [r1] at ly7 gy7
        have Gy7 := Lib.hid gy7
        clear gy7
        have z0 := fun o : Obj => pw_cell_below (below_alloc (Below.refl wr.heap.size wr) o) y0
        have z1 := fun o : Obj => pw_cell_below (below_alloc (Below.refl wr.heap.size wr) o) y1
        have z2 := fun o : Obj => pw_cell_below (below_alloc (Below.refl wr.heap.size wr) o) y2
        have z3 := fun o : Obj => pw_cell_below (below_alloc (Below.refl wr.heap.size wr) o) y3
        have z4 := fun o : Obj => pw_cell_below (below_alloc (Below.refl wr.heap.size wr) o) y4
        have z5 := fun o : Obj => pw_cell_below (below_alloc (Below.refl wr.heap.size wr) o) y5
        have z6 := fun o : Obj => pw_cell_below (below_alloc (Below.refl wr.heap.size wr) o) y6
        have z7 := fun o : Obj => pw_cell_below (below_alloc (Below.refl wr.heap.size wr) o) y7
        clear y0 y1 y2 y3 y4 y5 y6 y7
        have d2 : decide ((k : Int) < (l.length : Int)) = true := decide_eq_true (by omega)
        have d3 : decide ((k : Int) < (m.length : Int)) = true := decide_eq_true (by omega)
        clear r0 r1 n0
        go_wp2_with fail
        with_reducible refine (nod l[k] m[k] _ _ _ _ _ (Kd.C_below Gx7.out (by repeat (first | exact Below.refl _ _ | apply below_alloc))) lx7 (Kd.C_below Gy7.out (by repeat (first | exact Below.refl _ _ | apply below_alloc))) ly7).mono ?_
        rintro e w1 ⟨rfl, hb1⟩
        have HB1 := Lib.hid (show Below w.heap.size w w1 from thru (by repeat (first | exact HB.out | exact Below.refl _ _ | apply below_alloc)) hb1)
        clear hb1
        by_cases he : nodeEq l[k] m[k] = true
        · have HE := Lib.hid he
          rw [he]
          clear he
          go_wp2
          go_roundw
          case rel => exact ⟨k + 1, by omega, by go_num, HB1.out, Lib.hid (by rw [all_snoc _ l m k hlt hlt2, HA.out, Bool.true_and]; exact HE.out)⟩
          case measure => simp [intOf]; omega
        · rw [Bool.not_eq_true] at he
          have HF : Hid (eqL nodeEq l m = false) := Lib.hid (eqL_no hlt hlt2 he)
          rw [he]
          clear he
          go_wp2
          go_ret
          exact ⟨by rw [HF.out]; rfl, HB1.out⟩
      · have d2 : decide ((k : Int) < (l.length : Int)) = false := decide_eq_false (by omega)
        have d3 : decide ((k : Int) < (m.length : Int)) = false := decide_eq_false (by have := HL.out; omega)
        have HF : Hid (eqL nodeEq l m = true) := Lib.hid (eqL_yes HL.out hlt HA.out)
        go_wp2
        go_ret
        exact ⟨by rw [HF.out]; rfl, HB.out⟩
  · have d0 : ((l.length : Int) != (m.length : Int)) = true := bne_iff_ne.2 (by omega)
    have d1 : ((l.length : Int) == (m.length : Int)) = false := beq_eq_false_iff_ne.2 (by omega)
    have HF : Hid (eqL nodeEq l m = false) := Lib.hid (eqL_ne h)
    go_enter Tryz.func13, Tryz.ntmps13
    go_wp2
    go_ret
    exact ⟨by rw [HF.out]; rfl, by repeat (first | exact Below.refl _ _ | apply below_drew)⟩


set_option maxRecDepth 100000 in
set_option maxHeartbeats 2000000 in
theorem eqq (l m : List S39) (A0 A1 : Option Addr) (c0 c1 : Nat) (w : World) (hr0 : Kd.C k39 w A0 l.length l) (hc0 : l.length ≤ c0) (hr1 : Kd.C k39 w A1 m.length m) (hc1 : m.length ≤ c1) :
    Calls Tryz.prog 16 #[.slice A0 l.length c0, .slice A1 m.length c1, .func (.func 17) #[] #[]] w fun e w' => e = .returned (.bool (eqL funEq l m)) ∧ Below w.heap.size w w' := by
  have HR0 := Lib.hid hr0
  have HR1 := Lib.hid hr1
  have hb0 : l.length ≤ 9223372036854775807 := hr0.2.1
  clear hr0 hr1
  by_cases h : l.length = m.length
  · have d0 : ((l.length : Int) != (m.length : Int)) = false := bne_eq_false_iff_eq.2 (by omega)
    have d1 : ((l.length : Int) == (m.length : Int)) = true := beq_iff_eq.2 (by omega)
    have HL := Lib.hid h
    clear h
    go_enter Tryz.func16, Tryz.ntmps16
    go_wp2
    go_loopw [17] (fun i wr => ∃ k : Nat, k ≤ l.length ∧ i = .int .i64 k ∧ Below w.heap.size w wr ∧ Hid (((l.take k).zip (m.take k)).all (fun p => funEq p.1 p.2) = true)) (fun i wr => l.length - (intOf i).toNat)
    case atStart => exact ⟨0, Nat.zero_le _, rfl, by repeat (first | exact Below.refl _ _ | apply below_drew), Lib.hid rfl⟩
    case round =>
      obtain ⟨k, hk, rfl, hb, HA⟩ := hrel
      have HB := Lib.hid hb
      clear hb
      by_cases hlt : k < l.length
      · have hlt2 : k < m.length := by have := HL.out; omega
        have p1 : (0 : Int) ≤ (k : Int) := by omega
        have q1 : (k : Int) < (l.length : Int) := by omega
        have q2 : (k : Int) < (m.length : Int) := by omega
        obtain ⟨ad0, Ax2, bx2, e0, x0, x1, x2, x3, x4, lx2, gx2⟩ := at_T39 (Kd.C_below HR0.out HB.out) (k : Int) p1 q1
        obtain ⟨ad1, Ay2, by2, e1, y0, y1, y2, y3, y4, ly2, gy2⟩ := at_T39 (Kd.C_below HR1.out HB.out) (k : Int) p1 q2
        cases e0
        cases e1
        have n0 : ((k : Int)).toNat = k := rfl
        have r0 : rd_T39 l (k : Int) = l[k] := by unfold rd_T39; simp [List.getD_eq_getElem?_getD, hlt]
        have r1 : rd_T39 m (k : Int) = m[k] := by unfold rd_T39; simp [List.getD_eq_getElem?_getD, hlt2]
        rw [r0, n0] at x0 x1 x2 x3 x4
        rw [r1, n0] at y0 y1 y2 y3 y4
        rw [r0] at lx2 gx2
        have Gx2 := Lib.hid gx2
        clear gx2
        rw [r1] at ly2 gy2
        have Gy2 := Lib.hid gy2
        clear gy2
        have z0 := fun o : Obj => pw_cell_below (below_alloc (Below.refl wr.heap.size wr) o) y0
        have z1 := fun o : Obj => pw_cell_below (below_alloc (Below.refl wr.heap.size wr) o) y1
        have z2 := fun o : Obj => pw_cell_below (below_alloc (Below.refl wr.heap.size wr) o) y2
        have z3 := fun o : Obj => pw_cell_below (below_alloc (Below.refl wr.heap.size wr) o) y3
        have z4 := fun o : Obj => pw_cell_below (below_alloc (Below.refl wr.heap.size wr) o) y4
        clear y0 y1 y2 y3 y4
        have d2 : decide ((k : Int) < (l.length : Int)) = true := decide_eq_true (by omega)
        have d3 : decide ((k : Int) < (m.length : Int)) = true := decide_eq_true (by omega)
        clear r0 r1 n0
        go_wp2_with fail
        with_reducible refine (fnc l[k] m[k] _ _ _ _ _ (Kd.C_below Gx2.out (by repeat (first | exact Below.refl _ _ | apply below_alloc))) lx2 (Kd.C_below Gy2.out (by repeat (first | exact Below.refl _ _ | apply below_alloc))) ly2).mono ?_
        rintro e w1 ⟨rfl, hb1⟩
        have HB1 := Lib.hid (show Below w.heap.size w w1 from thru (by repeat (first | exact HB.out | exact Below.refl _ _ | apply below_alloc)) hb1)
        clear hb1
        by_cases he : funEq l[k] m[k] = true
        · have HE := Lib.hid he
          rw [he]
          clear he
          go_wp2
          go_roundw
          case rel => exact ⟨k + 1, by omega, by go_num, HB1.out, Lib.hid (by rw [all_snoc _ l m k hlt hlt2, HA.out, Bool.true_and]; exact HE.out)⟩
          case measure => simp [intOf]; omega
        · rw [Bool.not_eq_true] at he
          have HF : Hid (eqL funEq l m = false) := Lib.hid (eqL_no hlt hlt2 he)
          rw [he]
          clear he
          go_wp2
          go_ret
          exact ⟨by rw [HF.out]; rfl, HB1.out⟩
      · have d2 : decide ((k : Int) < (l.length : Int)) = false := decide_eq_false (by omega)
        have d3 : decide ((k : Int) < (m.length : Int)) = false := decide_eq_false (by have := HL.out; omega)
        have HF : Hid (eqL funEq l m = true) := Lib.hid (eqL_yes HL.out hlt HA.out)
        go_wp2
        go_ret
        exact ⟨by rw [HF.out]; rfl, HB.out⟩
  · have d0 : ((l.length : Int) != (m.length : Int)) = true := bne_iff_ne.2 (by omega)
    have d1 : ((l.length : Int) == (m.length : Int)) = false := beq_eq_false_iff_ne.2 (by omega)
    have HF : Hid (eqL funEq l m = false) := Lib.hid (eqL_ne h)
    go_enter Tryz.func16, Tryz.ntmps16
    go_wp2
    go_ret
    exact ⟨by rw [HF.out]; rfl, by repeat (first | exact Below.refl _ _ | apply below_drew)⟩


end Go.Proofs.YtadkgnfidiilnaaGreatDoor
