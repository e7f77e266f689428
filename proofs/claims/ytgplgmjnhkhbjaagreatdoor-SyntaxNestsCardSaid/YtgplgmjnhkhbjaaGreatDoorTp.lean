/-
  Right's walks, 5: the parameters.
-/
import Derived.Test.YtgplgmjnhkhbjaaGreatDoorTn
set_option linter.unusedVariables false
set_option linter.unusedSimpArgs false
namespace Go.Proofs.YtgplgmjnhkhbjaaGreatDoor
open Go.RowKit Go.Proofs.YtgplgmjnhkhbjaaGreatDoorW.PrintWords PSameTree PflatTokens Syn

theorem paramP_all {l : List (List UInt8 × Nat × Nat)} (h : paramP l = true) : l.length ≤ 1 ∧ ∀ p ∈ l, p.1 = [97] ∧ p.2.2 = 4 := by
  unfold paramP at h
  split at h
  · exact ⟨by simp, fun p hp => by cases hp⟩
  · rename_i nm a t
    rw [Bool.and_eq_true] at h
    refine ⟨by simp, fun p hp => ?_⟩
    have : p = (nm, a, t) := by simpa using hp
    subst this
    exact ⟨sameL_same.1 h.1, Nat.eq_of_beq_eq_true h.2⟩
  · cases h

theorem pm_at {w : World} {A : Option Addr} {l : List (List UInt8 × Nat × Nat)} {k : Nat} {p : List UInt8 × Nat × Nat} (h : k82.C w A l.length (l.map pd)) (hk : l[k]? = some p) :
    ∃ ad, A = some ad ∧ w.cell? (ad.add (k * 3)) = some (.string ⟨p.1.toArray⟩) ∧ w.cell? ⟨(ad.add (k * 3)).block, (ad.add (k * 3)).off + 1, none⟩ = some (.int .i64 (p.2.1 : Int)) ∧ w.cell? ⟨(ad.add (k * 3)).block, (ad.add (k * 3)).off + 2, none⟩ = some (.int .u8 (p.2.2 : Int)) := by
  have hlt : k < l.length := (List.getElem?_eq_some_iff.1 hk).1
  have hr : rd_T82 (l.map pd) (k : Int) = pd p := by
    unfold rd_T82
    show (l.map pd).getD k z82 = pd p
    rw [List.getD_eq_getElem?_getD, List.getElem?_map, hk]
    rfl
  obtain ⟨ad, e, h0, h1, h2⟩ := at_T82 h (k : Int) (by omega) (by omega)
  rw [hr] at h0 h1 h2
  exact ⟨ad, e, h0, h1, h2⟩

set_option maxRecDepth 100000 in
set_option maxHeartbeats 4000000 in
theorem param_w (a : Nat) (w : World) : Calls Tryz.prog 31 #[.agg #[.string ⟨#[97]⟩, .int .i64 (a : Int), .int .u8 4]] w fun e w' => e = .returned (.bool false) ∧ Below w.heap.size w w' := by
  have hbb := Lib.hid (below_alloc (Below.refl w.heap.size w) (.cells #[.string ⟨#[97]⟩, .int .i64 (a : Int), .int .u8 4] 82))
  have hbx := Lib.hid (blk_new w (.cells #[.string ⟨#[97]⟩, .int .i64 (a : Int), .int .u8 4] 82))
  go_enter Tryz.func31, Tryz.ntmps31
  go_wp2_with fail
  refine (nameda_w _).mono ?_
  generalize w.alloc (.cells #[.string ⟨#[97]⟩, .int .i64 (a : Int), .int .u8 4] 82) = X at hbb hbx ⊢
  rintro e w1 ⟨rfl, hb⟩
  have hb1 := Lib.hid (Below.trans hbb.out (Below.mono hb hbb.out.size))
  have x2 : w1.cell? ⟨w.heap.size, 2, none⟩ = some (.int .u8 4) := (blk_cell (blk_below hbx.out hb) 2).trans rfl
  clear hb hbb hbx
  go_wp2_with fail
  refine (scalar_w 4 (by omega) (by omega) _).mono ?_
  rintro e w2 ⟨rfl, hb⟩
  have hb2 := Lib.hid (Below.trans hb1.out (Below.mono hb hb1.out.size))
  clear hb hb1
  go_wp2
  go_ret
  exact ⟨rfl, hb2.out⟩

set_option maxRecDepth 100000 in
set_option maxHeartbeats 4000000 in
theorem index_w (l : List (List UInt8 × Nat × Nat)) (A : Option Addr) (c : Nat) (w : World) (hl : paramP l = true) (hC : k82.C w A l.length (l.map pd)) :
    Calls Tryz.prog 50 #[.slice A l.length c, .func (.func 31) #[] #[]] w fun e w' => e = .returned (.int .i64 (-1)) ∧ Below w.heap.size w w' := by
  obtain ⟨hlen, hall⟩ := paramP_all hl
  have HC := Lib.hid hC
  have HALL := Lib.hid hall
  clear hC hall hl
  go_enter Tryz.func50, Tryz.ntmps50
  go_wp2_with fail
  go_loopw [8] (fun v wr => ∃ i : Nat, i ≤ l.length ∧ v = .int .i64 (i : Int) ∧ Hid (Below w.heap.size w wr)) (fun v _ => l.length - (intOf v).toNat)
  case atStart => exact ⟨0, by omega, rfl, Lib.hid (Below.refl _ _)⟩
  case round =>
    obtain ⟨i, hi, rfl, HB⟩ := hrel
    by_cases hlt : i < l.length
    · have d1 : decide ((i : Int) < (l.length : Int)) = true := decide_eq_true (by omega)
      obtain ⟨p, hp⟩ : ∃ p, l[i]? = some p := ⟨_, List.getElem?_eq_getElem hlt⟩
      obtain ⟨ad, rfl, x0, x1, x2⟩ := pm_at HC.out hp
      obtain ⟨h1, h2⟩ := HALL.out p (List.mem_of_getElem? hp)
      rw [h1] at x0
      rw [h2] at x2
      have y0 := pw_cell_below HB.out x0
      have y1 := pw_cell_below HB.out x1
      have y2 := pw_cell_below HB.out x2
      have d2 : (i : Int) < (l.length : Int) := by omega
      have HP := Lib.hid (fun W => param_w p.2.1 W)
      clear hp h1 h2 x0 x1 x2
      go_wp2_with fail
      refine (HP.out _).mono ?_
      rintro e w1 ⟨rfl, hb⟩
      have HB1 := Lib.hid (Below.trans HB.out (Below.mono hb HB.out.size))
      clear hb
      go_wp2
      go_roundw
      case rel => exact ⟨i + 1, by omega, by go_num, HB1⟩
      case measure => simp [intOf]; omega
    · have d1 : decide ((i : Int) < (l.length : Int)) = false := decide_eq_false (by omega)
      go_wp2
      go_ret
      exact ⟨rfl, HB.out⟩

set_option maxRecDepth 100000 in
theorem contains_w (l : List (List UInt8 × Nat × Nat)) (A : Option Addr) (c : Nat) (w : World) (hl : paramP l = true) (hC : k82.C w A l.length (l.map pd)) :
    Calls Tryz.prog 30 #[.slice A l.length c, .func (.func 31) #[] #[]] w fun e w' => e = .returned (.bool false) ∧ Below w.heap.size w w' := by
  have HI := Lib.hid (index_w l A c w hl hC)
  clear hl hC
  go_enter Tryz.func30, Tryz.ntmps30
  go_wp2_with fail
  refine (HI.out).mono ?_
  rintro e w1 ⟨rfl, hb⟩
  go_wp2
  go_ret
  exact ⟨rfl, hb⟩
end Go.Proofs.YtgplgmjnhkhbjaaGreatDoor
