/-
  Right's walks, 1: what is closed.
-/
import Derived.Test.YtgplgmjnhkhbjaaGreatDoorSm
import Derived.Test.YtgplgmjnhkhbjaaGreatDoorL
set_option linter.unusedVariables false
set_option linter.unusedSimpArgs false
namespace Go.Proofs.YtgplgmjnhkhbjaaGreatDoor
open Go.RowKit Go.Proofs.YtgplgmjnhkhbjaaGreatDoorW.PrintWords PSameTree PflatTokens Syn

section
open Ce
set_option maxRecDepth 1000000
theorem namedf_ok : outV (fZ ceN 60 200 28 [.string ⟨#[102]⟩] .nil 1 Rz.out) = some (.bool true) := by kernel_rfl
theorem nameda_ok : outV (fZ ceN 60 200 28 [.string ⟨#[97]⟩] .nil 1 Rz.out) = some (.bool true) := by kernel_rfl
theorem lit1_ok : outV (fZ ceN 60 200 48 [.int .u8 4, .int .u64 1] .nil 1 Rz.out) = some (.bool true) := by kernel_rfl
theorem lit2_ok : outV (fZ ceN 60 200 48 [.int .u8 4, .int .u64 2] .nil 1 Rz.out) = some (.bool true) := by kernel_rfl
theorem litt_ok : outV (fZ ceN 60 200 48 [.int .u8 1, .int .u64 1] .nil 1 Rz.out) = some (.bool true) := by kernel_rfl
theorem namedf_w (w : World) : Calls Tryz.prog 28 #[.string ⟨#[102]⟩] w fun e w' => e = .returned (.bool true) ∧ Below w.heap.size w w' := plain_call (args := [.string ⟨#[102]⟩]) rfl rfl namedf_ok w
theorem nameda_w (w : World) : Calls Tryz.prog 28 #[.string ⟨#[97]⟩] w fun e w' => e = .returned (.bool true) ∧ Below w.heap.size w w' := plain_call (args := [.string ⟨#[97]⟩]) rfl rfl nameda_ok w
theorem lit1_w (w : World) : Calls Tryz.prog 48 #[.int .u8 4, .int .u64 1] w fun e w' => e = .returned (.bool true) ∧ Below w.heap.size w w' := plain_call (args := [.int .u8 4, .int .u64 1]) rfl rfl lit1_ok w
theorem lit2_w (w : World) : Calls Tryz.prog 48 #[.int .u8 4, .int .u64 2] w fun e w' => e = .returned (.bool true) ∧ Below w.heap.size w w' := plain_call (args := [.int .u8 4, .int .u64 2]) rfl rfl lit2_ok w
theorem litt_w (w : World) : Calls Tryz.prog 48 #[.int .u8 1, .int .u64 1] w fun e w' => e = .returned (.bool true) ∧ Below w.heap.size w w' := plain_call (args := [.int .u8 1, .int .u64 1]) rfl rfl litt_ok w
end

theorem scalar_w (t : Nat) (h1 : 1 ≤ t) (h2 : t ≤ 5) (w : World) : Calls Tryz.prog 29 #[.int .u8 (t : Int)] w fun e w' => e = .returned (.bool true) ∧ Below w.heap.size w w' := by
  have d1 : decide ((t : Int) ≥ 1) = true := decide_eq_true (by omega)
  have d2 : decide ((t : Int) ≤ 5) = true := decide_eq_true (by omega)
  go_enter Tryz.func29, Tryz.ntmps29
  go_wp2
  go_ret
  exact ⟨rfl, Below.refl _ _⟩

/-- a node as a value -/
abbrev ndV (n : Nd) (kv : Value) : Value := .agg (ndC (n.kind : Int) (n.at_ : Int) ⟨n.name.toArray⟩ (n.typ : Int) (n.op : Int) (n.bits : Int) (n.size : Int) kv)

set_option maxRecDepth 100000 in
set_option maxHeartbeats 4000000 in
/-- the level of an operator -/
theorem level_w (n : Nd) (kv : Value) (w : World) (hG : ∃ t fr, w.heap[0]? = some (.cells rowsL.toArray t fr)) :
    Calls Tryz.prog 49 #[ndV n kv] w fun e w' => e = .returned (.int .i64 ((levelL n : Nat) : Int)) ∧ Below w.heap.size w w' := by
  by_cases h6 : n.kind = 6
  · have d1 : ((n.kind : Int) == 6) = true := beq_iff_eq.2 (by omega)
    have hl : levelL n = 6 := by unfold levelL; rw [h6]; rfl
    go_enter Tryz.func49, Tryz.ntmps49
    go_wp2
    go_ret
    rw [hl]
    exact ⟨rfl, below_alloc (Below.refl _ _) _⟩
  · have d1 : ((n.kind : Int) == 6) = false := beq_eq_false_iff_ne.2 (by omega)
    have hl : levelL n = match rows.find? (fun r => Nat.beq r.kind n.kind && Nat.beq r.op n.op) with | some r => r.at_ | none => 7 := by
      unfold levelL
      rw [show Nat.beq n.kind 6 = false from by rw [← Bool.not_eq_true, Nat.beq_eq]; exact h6]
      rfl
    have HL := Lib.hid hl
    clear hl
    obtain ⟨gt, gfr, hg0⟩ := hG
    have hg : (w.alloc (.cells (ndC (n.kind : Int) (n.at_ : Int) ⟨n.name.toArray⟩ (n.typ : Int) (n.op : Int) (n.bits : Int) (n.size : Int) kv) 46)).heap[0]? = some (.cells rowsL.toArray gt gfr) := blk_alloc hg0 _
    go_enter Tryz.func49, Tryz.ntmps49
    go_wp2_with (first | (refine wpList_load_row rfl 175 _ rfl 0 rfl gt _ gfr _ hg Tryz.underlying175 rfl (by kernel_rfl) ?_))
    clear hg
    go_loopw [9] (fun v wr => ∃ i : Nat, i ≤ 18 ∧ v = .int .i64 (i : Int) ∧ Hid (Below w.heap.size w wr) ∧ Hid (wr.heap[w.heap.size]? = some (.cells (ndC (n.kind : Int) (n.at_ : Int) ⟨n.name.toArray⟩ (n.typ : Int) (n.op : Int) (n.bits : Int) (n.size : Int) kv) 46 (0, 0))) ∧ Hid ((rows.take i).find? (fun r => Nat.beq r.kind n.kind && Nat.beq r.op n.op) = none)) (fun v wr => 18 - (intOf v).toNat)
    case atStart => exact ⟨0, by omega, rfl, Lib.hid (below_alloc (Below.refl _ _) _), Lib.hid (blk_new _ _), Lib.hid rfl⟩
    case round =>
      obtain ⟨i, hi, rfl, HB, HN, HF⟩ := hrel
      by_cases hi8 : i < 18
      · have d2 : decide ((i : Int) < 18) = true := decide_eq_true (by omega)
        obtain ⟨row, hrow, hix⟩ := row_get i hi8
        have HRW := Lib.hid hrow
        have HB2 := Lib.hid (below_alloc HB.out (.cells #[.string ⟨row.sign.toArray⟩, .int .i64 (row.at_ : Int), .int .u8 (row.kind : Int), .int .u8 (row.op : Int)] 174))
        have HN2 := Lib.hid (blk_alloc HN.out (.cells #[.string ⟨row.sign.toArray⟩, .int .i64 (row.at_ : Int), .int .u8 (row.kind : Int), .int .u8 (row.op : Int)] 174))
        have n0 : ∀ o, (wr.alloc o).cell? ⟨w.heap.size, 0, none⟩ = some (.int .u8 (n.kind : Int)) := fun o => (blk_cell (blk_alloc HN.out o) 0).trans rfl
        have n4 : ∀ o, (wr.alloc o).cell? ⟨w.heap.size, 4, none⟩ = some (.int .u8 (n.op : Int)) := fun o => (blk_cell (blk_alloc HN.out o) 4).trans rfl
        clear hrow
        by_cases hk : row.kind = n.kind
        · have d3 : ((row.kind : Int) == (n.kind : Int)) = true := beq_iff_eq.2 (by omega)
          by_cases ho : row.op = n.op
          · have d4 : ((row.op : Int) == (n.op : Int)) = true := beq_iff_eq.2 (by omega)
            have hfa := find_at HRW.out HF.out (show (fun r : Row => Nat.beq r.kind n.kind && Nat.beq r.op n.op) row = true from by simp [hk, ho])
            have hlv : levelL n = row.at_ := by rw [HL.out, hfa]
            have HLV := Lib.hid hlv
            clear hfa hlv hk ho
            go_wp2
            go_ret
            rw [HLV.out]
            exact ⟨rfl, HB2.out⟩
          · have d4 : ((row.op : Int) == (n.op : Int)) = false := beq_eq_false_iff_ne.2 (by omega)
            have HFN := Lib.hid (find_next HRW.out HF.out (show (fun r : Row => Nat.beq r.kind n.kind && Nat.beq r.op n.op) row = false from by
              have : Nat.beq row.op n.op = false := by rw [← Bool.not_eq_true, Nat.beq_eq]; exact ho
              simp only [this, Bool.and_false]))
            clear hk ho
            go_wp2
            go_roundw
            case rel => exact ⟨i + 1, by omega, by go_num, HB2, HN2, HFN⟩
            case measure => simp [intOf]; omega
        · have d3 : ((row.kind : Int) == (n.kind : Int)) = false := beq_eq_false_iff_ne.2 (by omega)
          have HFN := Lib.hid (find_next HRW.out HF.out (show (fun r : Row => Nat.beq r.kind n.kind && Nat.beq r.op n.op) row = false from by
            have : Nat.beq row.kind n.kind = false := by rw [← Bool.not_eq_true, Nat.beq_eq]; exact hk
            simp only [this, Bool.false_and]))
          clear hk
          go_wp2
          go_roundw
          case rel => exact ⟨i + 1, by omega, by go_num, HB2, HN2, HFN⟩
          case measure => simp [intOf]; omega
      · have d2 : decide ((i : Int) < 18) = false := decide_eq_false (by omega)
        have hn0 : rows.find? (fun r => Nat.beq r.kind n.kind && Nat.beq r.op n.op) = none := by
          have := HF.out
          rwa [List.take_of_length_le (by show rows.length ≤ i; have : rows.length = 18 := rfl; omega)] at this
        have hlv : levelL n = 7 := by rw [HL.out, hn0]
        have HLV := Lib.hid hlv
        clear hn0 hlv
        go_wp2
        go_ret
        rw [HLV.out]
        exact ⟨rfl, HB.out⟩

theorem rows_le : ∀ r ∈ rows, r.at_ ≤ 5 := by decide
theorem level_le (n : Nd) : levelL n ≤ 7 := by
  unfold levelL
  cases Nat.beq n.kind 6
  · simp only [cond_false]
    cases hf : rows.find? (fun r => Nat.beq r.kind n.kind && Nat.beq r.op n.op) with
    | none => exact Nat.le_refl _
    | some r =>
      have := rows_le r (List.mem_of_find?_eq_some hf)
      show r.at_ ≤ 7
      omega
  · exact (by decide : 6 ≤ 7)

set_option maxRecDepth 100000 in
set_option maxHeartbeats 4000000 in
theorem about_w (n kid : Nd) (i : Nat) (kv kv' : Value) (w : World) (hi : i ≤ 1) (hG : ∃ t fr, w.heap[0]? = some (.cells rowsL.toArray t fr)) (hk : n.kind = 3 ∨ n.kind = 4 ∨ n.kind = 5 ∨ n.kind = 6 ∨ n.kind = 7 ∨ n.kind = 14 ∨ n.kind = 18 ∨ n.kind = 21) :
    Calls Tryz.prog 27 #[ndV n kv, .int .i64 (i : Int), ndV kid kv'] w fun e w' => e = .returned (.int .i64 ((aboutL n i kid : Nat) : Int)) ∧ Below w.heap.size w w' := by
  obtain ⟨k, a, nm, ty, op, bi, sz, ks⟩ := n
  have hk : k = 3 ∨ k = 4 ∨ k = 5 ∨ k = 6 ∨ k = 7 ∨ k = 14 ∨ k = 18 ∨ k = 21 := hk
  have hG1 : ∀ W, Below w.heap.size w W → ∃ t fr, W.heap[0]? = some (.cells rowsL.toArray t fr) := fun W hb => by
    obtain ⟨t, fr, h0⟩ := hG
    exact ⟨t, fr, (hb.block 0 (Array.getElem?_eq_some_iff.1 h0).1).trans h0⟩
  have HLV := Lib.hid (fun (m : Nd) (v : Value) (W : World) (hb : Below w.heap.size w W) => level_w m v W (hG1 W hb))
  clear hG hG1
  rcases hk with rfl | rfl | rfl | rfl | rfl | rfl | rfl | rfl
  · go_enter Tryz.func27, Tryz.ntmps27
    go_wp2
    go_ret
    exact ⟨rfl, below_alloc (below_alloc (Below.refl _ _) _) _⟩
  · go_enter Tryz.func27, Tryz.ntmps27
    go_wp2
    go_ret
    exact ⟨rfl, below_alloc (below_alloc (Below.refl _ _) _) _⟩
  · go_enter Tryz.func27, Tryz.ntmps27
    go_wp2
    go_ret
    exact ⟨rfl, below_alloc (below_alloc (Below.refl _ _) _) _⟩
  · go_enter Tryz.func27, Tryz.ntmps27
    go_wp2_with fail
    refine (HLV.out kid kv' _ (below_alloc (below_alloc (Below.refl _ _) _) _)).mono ?_
    have hbb : Below w.heap.size w _ := below_alloc (below_alloc (Below.refl w.heap.size w) (.cells (ndC 6 (a : Int) ⟨nm.toArray⟩ (ty : Int) (op : Int) (bi : Int) (sz : Int) kv) 46)) (.cells (ndC (kid.kind : Int) (kid.at_ : Int) ⟨kid.name.toArray⟩ (kid.typ : Int) (kid.op : Int) (kid.bits : Int) (kid.size : Int) kv') 46)
    rintro e w1 ⟨rfl, hb⟩
    have HB := Lib.hid (Below.trans hbb (Below.mono hb hbb.size))
    clear hb hbb
    by_cases hl : levelL kid < 6
    · have d1 : decide (((levelL kid : Nat) : Int) < 6) = true := decide_eq_true (by omega)
      have ha : aboutL ⟨6, a, nm, ty, op, bi, sz, ks⟩ i kid = 2 := by
        show (bif Nat.blt (levelL kid) 6 then 2 else 1) = 2
        rw [show Nat.blt (levelL kid) 6 = true from by rw [Nat.blt_eq]; exact hl]
        rfl
      have HA := Lib.hid ha
      clear ha
      go_wp2
      go_ret
      rw [HA.out]
      exact ⟨rfl, HB.out⟩
    · have d1 : decide (((levelL kid : Nat) : Int) < 6) = false := decide_eq_false (by omega)
      have ha : aboutL ⟨6, a, nm, ty, op, bi, sz, ks⟩ i kid = 1 := by
        show (bif Nat.blt (levelL kid) 6 then 2 else 1) = 1
        rw [show Nat.blt (levelL kid) 6 = false from by rw [← Bool.not_eq_true, Nat.blt_eq]; exact hl]
        rfl
      have HA := Lib.hid ha
      clear ha
      go_wp2
      go_ret
      rw [HA.out]
      exact ⟨rfl, HB.out⟩
  · go_enter Tryz.func27, Tryz.ntmps27
    go_upto_region 15 with fail
    have bX := Lib.hid (blk_alloc (blk_new w (.cells (ndC 7 (a : Int) ⟨nm.toArray⟩ (ty : Int) (op : Int) (bi : Int) (sz : Int) kv) 46)) (.cells (ndC (kid.kind : Int) (kid.at_ : Int) ⟨kid.name.toArray⟩ (kid.typ : Int) (kid.op : Int) (kid.bits : Int) (kid.size : Int) kv') 46))
    have bY := Lib.hid (blk_new (w.alloc (.cells (ndC 7 (a : Int) ⟨nm.toArray⟩ (ty : Int) (op : Int) (bi : Int) (sz : Int) kv) 46)) (.cells (ndC (kid.kind : Int) (kid.at_ : Int) ⟨kid.name.toArray⟩ (kid.typ : Int) (kid.op : Int) (kid.bits : Int) (kid.size : Int) kv') 46))
    have hX := Lib.hid (below_alloc (below_alloc (Below.refl w.heap.size w) (.cells (ndC 7 (a : Int) ⟨nm.toArray⟩ (ty : Int) (op : Int) (bi : Int) (sz : Int) kv) 46)) (.cells (ndC (kid.kind : Int) (kid.at_ : Int) ⟨kid.name.toArray⟩ (kid.typ : Int) (kid.op : Int) (kid.bits : Int) (kid.size : Int) kv') 46))
    rw [show (w.alloc (.cells (ndC 7 (a : Int) ⟨nm.toArray⟩ (ty : Int) (op : Int) (bi : Int) (sz : Int) kv) 46)).heap.size = w.heap.size + 1 from by simp] at bY
    generalize ((w.alloc (.cells (ndC 7 (a : Int) ⟨nm.toArray⟩ (ty : Int) (op : Int) (bi : Int) (sz : Int) kv) 46)).alloc (.cells (ndC (kid.kind : Int) (kid.at_ : Int) ⟨kid.name.toArray⟩ (kid.typ : Int) (kid.op : Int) (kid.bits : Int) (kid.size : Int) kv') 46)) = X at bX bY hX ⊢
    have x0 := (blk_cell bX.out 0).trans rfl
    have x1 := (blk_cell bX.out 1).trans rfl
    have x2 := (blk_cell bX.out 2).trans rfl
    have x3 := (blk_cell bX.out 3).trans rfl
    have x4 := (blk_cell bX.out 4).trans rfl
    have x5 := (blk_cell bX.out 5).trans rfl
    have x6 := (blk_cell bX.out 6).trans rfl
    have x7 := (blk_cell bX.out 7).trans rfl
    have y0 := (blk_cell bY.out 0).trans rfl
    have y1 := (blk_cell bY.out 1).trans rfl
    have y2 := (blk_cell bY.out 2).trans rfl
    have y3 := (blk_cell bY.out 3).trans rfl
    have y4 := (blk_cell bY.out 4).trans rfl
    have y5 := (blk_cell bY.out 5).trans rfl
    have y6 := (blk_cell bY.out 6).trans rfl
    have y7 := (blk_cell bY.out 7).trans rfl
    have HK := Lib.hid (fun (m : Nd) (v : Value) (W : World) (hb : Below X.heap.size X W) => (HLV.out m v W (Below.trans hX.out (Below.mono hb hX.out.size))).mono (R' := fun e w' => e = .returned (.int .i64 ((levelL m : Nat) : Int)) ∧ Below X.heap.size X w') (fun e w' h => ⟨h.1, Below.trans hb (Below.mono h.2 hb.size)⟩))
    have l1 := level_le ⟨7, a, nm, ty, op, bi, sz, ks⟩
    have l2 := level_le kid
    generalize hq : levelL ⟨7, a, nm, ty, op, bi, sz, ks⟩ = q at l1
    have HQ := Lib.hid hq
    clear hq
    have hw : wrap64 ((q : Int) + (i : Int)) = (q : Int) + (i : Int) := by unfold wrap64; omega
    have hw2 : IntKind.i64.wrap ((q : Int) + (i : Int)) = (q : Int) + (i : Int) := by rw [IntKind.wrap_i64]; omega
    have hd0 := Lib.hid (Below.drew (Below.refl X.heap.size X))
    by_cases hl : levelL kid < q + i
    · have d1 : decide (((levelL kid : Nat) : Int) < (q : Int) + (i : Int)) = true := decide_eq_true (by omega)
      have ha : aboutL ⟨7, a, nm, ty, op, bi, sz, ks⟩ i kid = 1 := by
        show (bif Nat.blt (levelL kid) (levelL ⟨7, a, nm, ty, op, bi, sz, ks⟩ + i) then 1 else 0) = 1
        rw [HQ.out, show Nat.blt (levelL kid) (q + i) = true from by rw [Nat.blt_eq]; exact hl]
        rfl
      have HA := Lib.hid ha
      clear ha hl l1 l2
      go_region_with (first
        | (go_at_call 49; (with_reducible refine (HK.out kid kv' _ hd0.out).mono ?_); rintro e w1 ⟨rfl, hb1⟩; have bX1 := blk_below bX.out hb1; have z0 := (blk_cell bX1 0).trans rfl; have z1 := (blk_cell bX1 1).trans rfl; have z2 := (blk_cell bX1 2).trans rfl; have z3 := (blk_cell bX1 3).trans rfl; have z4 := (blk_cell bX1 4).trans rfl; have z5 := (blk_cell bX1 5).trans rfl; have z6 := (blk_cell bX1 6).trans rfl; have z7 := (blk_cell bX1 7).trans rfl)
        | (go_at_call 49; (refine (HK.out ⟨7, a, nm, ty, op, bi, sz, ks⟩ kv _ hb1).mono ?_); rw [HQ.out]; rintro e w2 ⟨rfl, hb2⟩))
      all_goals
        go_wp2
        go_ret
        rw [HA.out]
        exact ⟨rfl, Below.trans hX.out (Below.mono hb2 hX.out.size)⟩
    · have d1 : decide (((levelL kid : Nat) : Int) < (q : Int) + (i : Int)) = false := decide_eq_false (by omega)
      have ha : aboutL ⟨7, a, nm, ty, op, bi, sz, ks⟩ i kid = 0 := by
        show (bif Nat.blt (levelL kid) (levelL ⟨7, a, nm, ty, op, bi, sz, ks⟩ + i) then 1 else 0) = 0
        rw [HQ.out, show Nat.blt (levelL kid) (q + i) = false from by rw [← Bool.not_eq_true, Nat.blt_eq]; exact hl]
        rfl
      have HA := Lib.hid ha
      clear ha hl l1 l2
      go_region_with (first
        | (go_at_call 49; (with_reducible refine (HK.out kid kv' _ hd0.out).mono ?_); rintro e w1 ⟨rfl, hb1⟩; have bX1 := blk_below bX.out hb1; have z0 := (blk_cell bX1 0).trans rfl; have z1 := (blk_cell bX1 1).trans rfl; have z2 := (blk_cell bX1 2).trans rfl; have z3 := (blk_cell bX1 3).trans rfl; have z4 := (blk_cell bX1 4).trans rfl; have z5 := (blk_cell bX1 5).trans rfl; have z6 := (blk_cell bX1 6).trans rfl; have z7 := (blk_cell bX1 7).trans rfl)
        | (go_at_call 49; (refine (HK.out ⟨7, a, nm, ty, op, bi, sz, ks⟩ kv _ hb1).mono ?_); rw [HQ.out]; rintro e w2 ⟨rfl, hb2⟩))
      all_goals
        go_wp2
        go_ret
        rw [HA.out]
        exact ⟨rfl, Below.trans hX.out (Below.mono hb2 hX.out.size)⟩
  · go_enter Tryz.func27, Tryz.ntmps27
    go_wp2
    go_ret
    exact ⟨rfl, below_alloc (below_alloc (Below.refl _ _) _) _⟩
  · go_enter Tryz.func27, Tryz.ntmps27
    go_wp2
    go_ret
    exact ⟨rfl, below_alloc (below_alloc (Below.refl _ _) _) _⟩
  · go_enter Tryz.func27, Tryz.ntmps27
    go_wp2
    go_ret
    exact ⟨rfl, below_alloc (below_alloc (Below.refl _ _) _) _⟩
end Go.Proofs.YtgplgmjnhkhbjaaGreatDoor
