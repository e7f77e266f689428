/-
  The cutter's walks, 1: bytes, blanks, runs.
-/
import Derived.Test.YtgplgmjnhkhbjaaGreatDoorMa
import Derived.Test.YtgplgmjnhkhbjaaGreatDoorL
import Derived.Lib.Hide
import Derived.Lib.Bytealg
import Derived.WalkLawsBesides
import Derived.WalkMore
import Derived.BigQuiet
import Derived.Deep.QuietTactic
set_option linter.unusedVariables false
set_option linter.unusedSimpArgs false
namespace Go.Proofs.YtgplgmjnhkhbjaaGreatDoor
open Go.RowKit Go.Proofs.YtgplgmjnhkhbjaaGreatDoorW.PrintWords PScan Syn

theorem idx_ext (s : ByteArray) (c : Int) (w : World) : (callFunc 129 #[.string s, .int .u8 c]).run Tryz.prog w = .ok (.value (.int .i64 (Lib.indexByte s.data.toList c.toNat.toUInt8))) w := by
  rw [run_callFunc_extern Tryz.func129 (by kernel_rfl) (by kernel_rfl) (by kernel_rfl) (e := Extern.BytealgIndexByte.indexByte) (by kernel_rfl), Lib.run_indexByteString]
  rfl

theorem idx_w (s : ByteArray) (c : Int) (w : World) : Calls Tryz.prog 41 #[.string s, .int .u8 c] w fun e w' => e = .returned (.int .i64 (Lib.indexByte s.data.toList c.toNat.toUInt8)) ∧ w' = w := by
  have hx := fun w => idx_ext s c w
  generalize Lib.indexByte s.data.toList c.toNat.toUInt8 = R at hx ⊢
  go_enter Tryz.func41, Tryz.ntmps41
  go_wp2
  go_ret
  exact ⟨rfl, rfl⟩

def signs : List UInt8 := [40, 41, 123, 125, 91, 93, 44, 59, 61, 60, 62, 43, 45, 42, 47, 37, 38, 124, 94, 33]
def ofV (n : Nat) (R : Int) : Nat :=
  if 97 ≤ n ∧ n ≤ 122 then 2 else if 65 ≤ n ∧ n ≤ 90 then 2 else if n = 95 then 2 else if 48 ≤ n ∧ n ≤ 57 then 3
  else if n = 32 then 1 else if n = 9 then 1 else if n = 10 then 1 else if n = 13 then 1 else if 0 ≤ R then 4 else 0
theorem ofV_eq (c : UInt8) : sortU c = ofV c.toNat (Lib.indexByte signs c.toNat.toUInt8) := by
  have h : ∀ n : Fin 256, sortN n.val = ofV n.val (Lib.indexByte signs n.val.toUInt8) := by decide +kernel
  exact h ⟨c.toNat, c.toNat_lt⟩

theorem idx_at (s : ByteArray) (n : Nat) (R : Int) (h : Lib.indexByte s.data.toList n.toUInt8 = R) (w : World) : Calls Tryz.prog 41 #[.string s, .int .u8 (n : Int)] w fun e w' => e = .returned (.int .i64 R) ∧ w' = w := by
  subst h
  exact idx_w s n w

set_option maxHeartbeats 4000000 in
theorem of_n (n k : Nat) (R : Int) (w : World) (hb : n ≤ 255) (hi : ∀ w, Calls Tryz.prog 41 #[.string ⟨#[40, 41, 123, 125, 91, 93, 44, 59, 61, 60, 62, 43, 45, 42, 47, 37, 38, 124, 94, 33]⟩, .int .u8 (n : Int)] w fun e w' => e = .returned (.int .i64 R) ∧ w' = w)
    (hs : (97 ≤ n ∧ n ≤ 122) ∨ (65 ≤ n ∧ n ≤ 90) ∨ n = 95 ∨ (48 ≤ n ∧ n ≤ 57) ∨ n = 32 ∨ n = 9 ∨ n = 10 ∨ n = 13 ∨ n ≤ 8 ∨ (11 ≤ n ∧ n ≤ 12) ∨ (14 ≤ n ∧ n ≤ 31) ∨ (33 ≤ n ∧ n ≤ 47) ∨ (58 ≤ n ∧ n ≤ 64) ∨ (91 ≤ n ∧ n ≤ 94) ∨ (96 ≤ n ∧ n ≤ 96) ∨ 123 ≤ n)
    (hr : 0 ≤ R ∨ R < 0) (hk : ofV n R = k) : Calls Tryz.prog 20 #[.int .u8 (n : Int)] w fun e w' => e = .returned (.int .i64 (k : Int)) ∧ w' = w := by
  have HI := Lib.hid hi
  clear hi
  rcases hs with h | h | h | h | h | h | h | h | h | h | h | h | h | h | h | h
  all_goals
    rcases hr with hr | hr
    all_goals
      unfold ofV at hk
      repeat (first | rw [if_pos (by omega)] at hk | rw [if_neg (by omega)] at hk)
      subst hk
      go_enter Tryz.func20, Tryz.ntmps20
      go_wp2_with (go_at_call 41; (with_reducible refine (HI.out _).mono ?_); rintro e w' ⟨rfl, rfl⟩)
      all_goals go_ret
      all_goals exact ⟨rfl, rfl⟩

theorem of_w (c : UInt8) (w : World) : Calls Tryz.prog 20 #[.int .u8 (c.toNat : Int)] w fun e w' => e = .returned (.int .i64 (sortU c : Int)) ∧ w' = w := by
  rw [ofV_eq]
  have hc := c.toNat_lt
  exact of_n c.toNat _ (Lib.indexByte signs c.toNat.toUInt8) w (by omega) (fun w => idx_at ⟨#[40, 41, 123, 125, 91, 93, 44, 59, 61, 60, 62, 43, 45, 42, 47, 37, 38, 124, 94, 33]⟩ c.toNat _ rfl w) (by omega) (by omega) rfl

end Go.Proofs.YtgplgmjnhkhbjaaGreatDoor
set_option linter.unusedVariables false
set_option linter.unusedSimpArgs false
namespace Go.Proofs.YtgplgmjnhkhbjaaGreatDoor
open Go.RowKit Go.Proofs.YtgplgmjnhkhbjaaGreatDoorW.PrintWords PScan Syn

/-- what stands from a place on -/
def from_ (s : ByteArray) (p : Nat) : List UInt8 := s.data.toList.drop p

theorem from_lt {s : ByteArray} {p : Nat} (h : p < s.size) : from_ s p = s[p] :: from_ s (p + 1) := by
  have hl : p < s.data.toList.length := by simpa using h
  unfold from_
  rw [List.drop_eq_getElem_cons hl]
  rfl
theorem from_ge {s : ByteArray} {p : Nat} (h : s.size ≤ p) : from_ s p = [] := by
  unfold from_
  exact List.drop_of_length_le (by simpa using h)

theorem runL_yes {ls : List Nat} {c : UInt8} {t : List UInt8} (h : ls.contains (sortU c) = true) : runL ls (c :: t) = runL ls t + 1 := by
  simp only [runL, h, cond_true]
theorem runL_no {ls : List Nat} {c : UInt8} {t : List UInt8} (h : ls.contains (sortU c) = false) : runL ls (c :: t) = 0 := by
  simp only [runL, h, cond_false]

def atOf (g : Nat) (w : World) : Nat := match w.cell? ⟨g, 1, none⟩ with | some (.int _ n) => n.toNat | _ => 0

/-- the sorts that a row goes over lie here -/
def Sorts (w : World) (q : Nat) (ls : List Nat) : Prop := ∃ t, w.heap[q]? = some (.cells (ls.map fun n : Nat => Value.int .i64 (n : Int)).toArray t (0, 0))

theorem Sorts.cell {w : World} {q : Nat} {ls : List Nat} (h : Sorts w q ls) (j : Nat) (hj : j < ls.length) : w.cell? ⟨q, j, none⟩ = some (.int .i64 (ls[j] : Int)) := by
  obtain ⟨t, h⟩ := h
  rw [blk_cell h j]
  simp [hj]

theorem Sorts.keep {w w' : World} {q g : Nat} {ls : List Nat} (h : Sorts w q ls) (hk : KeepBut w w' g none) (hq : q ≠ g) : Sorts w' q ls := by
  obtain ⟨t, h⟩ := h
  exact ⟨t, by rw [hk.2 q (Array.getElem?_eq_some_iff.1 h).1 hq (by simp)]; exact h⟩

theorem atOf_is {w0 w : World} {g p : Nat} {s : ByteArray} {bad : Int} (h : IsS61 w0 w g s (p : Int) bad) : atOf g w = p := by
  unfold atOf
  rw [cellS61_1 h.1]
  rfl

theorem of_d (c : UInt8) (w : World) : Calls Tryz.prog 20 #[.int .u8 (c.toNat : Int)] w fun e w' => e = .returned (.int .i64 (sortU c : Int)) ∧ Drawn0 w w' := by
  refine (of_w c w).mono ?_
  rintro e w' ⟨rfl, rfl⟩
  exact ⟨rfl, Drawn0.refl _⟩

set_option maxHeartbeats 2000000 in
theorem row_w (g q a : Nat) (cc : Nat) (bad : Int) (s : ByteArray) (ls : List Nat) (w0 w : World) (hI : IsS61 w0 w g s (a : Int) bad) (hB : Below w0.heap.size w0 w) (hS : Sorts w q ls) (hq : q ≠ g) (ha : a ≤ s.size) (hs : s.size ≤ 1000000) (hl : ls.length ≤ 8) :
    Calls Tryz.prog 37 #[.pointer (some ⟨g, 0, none⟩), .slice (some ⟨q, 0, none⟩) ls.length cc] w fun e w' => e = .returned (.int .i64 (runL ls (from_ s a) : Nat)) ∧ IsS61 w0 w' g s ((a + runL ls (from_ s a) : Nat) : Int) bad ∧ Below w0.heap.size w0 w' ∧ KeepBut w w' g none := by
  obtain ⟨R, hR⟩ : ∃ R, runL ls (from_ s a) = R := ⟨_, rfl⟩
  rw [hR]
  obtain ⟨HG, hg⟩ := id hI
  have c1 := cellS61_1 HG
  have HI := Lib.hid hI
  have HB := Lib.hid hB
  have HS := Lib.hid hS
  have HR := Lib.hid hR
  clear hI hB hS hR HG hg
  go_enter Tryz.func37, Tryz.ntmps37
  go_wp2
  go_step3
  go_wp2
  go_step3
  go_wp2
  go_loopw [] (fun wr => ∃ p : Nat, a ≤ p ∧ p ≤ s.size ∧ Hid (IsS61 w0 wr g s (p : Int) bad) ∧ Hid (Below w0.heap.size w0 wr) ∧ Hid (KeepBut w wr g none) ∧ Hid (R = (p - a) + runL ls (from_ s p))) (fun wr => s.size - atOf g wr)
  case atStart => exact ⟨a, Nat.le_refl _, ha, HI, HB, Lib.hid (KeepBut.refl w g none), Lib.hid (by rw [HR.out]; omega)⟩
  case round =>
    obtain ⟨p, hp1, hp2, HIr, HBr, HKr, HRr⟩ := hrel
    obtain ⟨HG, hg⟩ := id HIr.out
    have k0 := cellS61_0 HG
    have k1 := cellS61_1 HG
    have f1 := blk_frozen HG 1
    clear HG hg
    by_cases hlt : p < s.size
    · have d0 : decide ((p : Int) < (s.size : Int)) = true := decide_eq_true (by omega)
      obtain ⟨c, hc⟩ : ∃ c, (s[p]'hlt) = c := ⟨_, rfl⟩
      have hx : ∀ h : p < s.size, ((s[p]'h).toNat : Int) = (c.toNat : Int) := fun h => by rw [hc]
      have HF := Lib.hid (show from_ s p = c :: from_ s (p + 1) from by rw [from_lt hlt, hc])
      clear hc
      go_wp2
      go_quiet (fail)
      go_wp2
      clear k0 k1 f1 d0
      go_loopw [24] (fun i wx => ∃ j : Nat, j ≤ ls.length ∧ i = .int .i64 j ∧ Hid (IsS61 w0 wx g s (p : Int) bad) ∧ Hid (Below w0.heap.size w0 wx) ∧ Hid (KeepBut w wx g none) ∧ Hid ((ls.take j).contains (sortU c) = false)) (fun i wx => ls.length - (intOf i).toNat)
      case atStart => exact ⟨0, Nat.zero_le _, rfl, Lib.hid (HIr.out.drewN _), Lib.hid (pw_below_drewN HBr.out _), Lib.hid (keep_drewN HKr.out _), Lib.hid rfl⟩
      case round =>
        obtain ⟨j, hj, rfl, HIx, HBx, HKx, HJ⟩ := hrel
        obtain ⟨HG, hg⟩ := id HIx.out
        have k0 := cellS61_0 HG
        have k1 := cellS61_1 HG
        have f1 := blk_frozen HG 1
        clear HG hg
        by_cases hjl : j < ls.length
        · have d1 : decide ((j : Int) < (ls.length : Int)) = true := decide_eq_true (by omega)
          have q1 := (HS.out.keep HKx.out hq).cell j hjl
          by_cases he : sortU c = ls[j]
          · have d2 : ((sortU c : Int) == (ls[j] : Int)) = true := beq_iff_eq.2 (by omega)
            go_wp2
            go_quiet (first | (go_at_call 20; (with_reducible refine (of_d c _).mono ?_); rintro e w' ⟨rfl, ⟨nd, rfl⟩⟩; (try first | exact ⟨rfl, _, World.drewN_drewN _ _ _⟩ | exact ⟨rfl, _, Eq.trans (World.drewN_drewN _ _ _) (congrArg (World.drewN _) (Nat.add_assoc _ _ _))⟩)))
            go_wp2
            have hI2 : IsS61 w0 ((wr.drewN nq).setCell ⟨g, 1, none⟩ (.int .i64 ((p : Int) + 1))) g s ((p + 1 : Nat) : Int) bad := (HIx.out.drewN nq).set_1 _
            go_roundw
            case rel => exact ⟨p + 1, by omega, by omega, Lib.hid hI2, Lib.hid (below_set (pw_below_drewN HBx.out _) HIx.out.ge), Lib.hid (KeepBut.set_ (keep_drewN HKx.out _) _ _), Lib.hid (by rw [HRr.out, HF.out, runL_yes (by rw [he]; simp)]; omega)⟩
            case measure => rw [atOf_is HIr.out, atOf_is hI2]; omega
          · have d2 : ((sortU c : Int) == (ls[j] : Int)) = false := beq_eq_false_iff_ne.2 (by omega)
            go_wp2
            go_quiet (first | (go_at_call 20; (with_reducible refine (of_d c _).mono ?_); rintro e w' ⟨rfl, ⟨nd, rfl⟩⟩; (try first | exact ⟨rfl, _, World.drewN_drewN _ _ _⟩ | exact ⟨rfl, _, Eq.trans (World.drewN_drewN _ _ _) (congrArg (World.drewN _) (Nat.add_assoc _ _ _))⟩)))
            go_wp2
            go_roundw
            case rel => exact ⟨j + 1, by omega, by go_num, Lib.hid (HIx.out.drewN _), Lib.hid (pw_below_drewN HBx.out _), Lib.hid (keep_drewN HKx.out _), Lib.hid (by rw [List.take_succ_eq_append_getElem hjl, List.contains_eq_any_beq, List.any_append, ← List.contains_eq_any_beq, HJ.out]; simpa using he)⟩
            case measure => simp [intOf]; omega
        · have d1 : decide ((j : Int) < (ls.length : Int)) = false := decide_eq_false (by omega)
          go_wp2
          rw [Exit.noGoto_ret]
          go_ret
          have hz : R = p - a := by rw [HRr.out, HF.out, runL_no (by rw [← HJ.out, List.take_of_length_le (by omega)])]; rfl
          refine ⟨?_, ?_, ?_, ?_⟩
          · rw [hz]; congr 2; rw [Int.ofNat_sub hp1]; rfl
          · rw [hz, show a + (p - a) = p from by omega]
            exact HIx.out
          · exact HBx.out
          · exact HKx.out
    · have d0 : decide ((p : Int) < (s.size : Int)) = false := decide_eq_false (by omega)
      go_wp2
      go_quiet (fail)
      go_wp2
      rw [Exit.noGoto_ret]
      go_ret
      have hz : R = p - a := by rw [HRr.out, from_ge (by omega)]; rfl
      refine ⟨?_, ?_, ?_, ?_⟩
      · rw [hz]; congr 2; rw [Int.ofNat_sub hp1]; rfl
      · rw [hz, show a + (p - a) = p from by omega]
        exact HIr.out
      · exact pw_below_drewN HBr.out _
      · exact HKr.out

end Go.Proofs.YtgplgmjnhkhbjaaGreatDoor
set_option linter.unusedVariables false
set_option linter.unusedSimpArgs false
namespace Go.Proofs.YtgplgmjnhkhbjaaGreatDoor
open Go.RowKit Go.Proofs.YtgplgmjnhkhbjaaGreatDoorW.PrintWords PScan Syn

theorem sameL_iff : ∀ (a b : List UInt8), sameL a b = true ↔ a = b
  | [], [] => by simp [sameL]
  | [], _ :: _ => by simp [sameL]
  | _ :: _, [] => by simp [sameL]
  | a :: p, b :: t => by
    simp only [sameL, Bool.and_eq_true, Nat.beq_eq, UInt8.toNat_inj, List.cons.injEq, sameL_iff p t]
theorem hasL_iff : ∀ (p t : List UInt8), hasL p t = true ↔ t.take p.length = p
  | [], t => by simp [hasL]
  | _ :: _, [] => by simp [hasL]
  | a :: p, b :: t => by
    simp only [hasL, Bool.and_eq_true, Nat.beq_eq, UInt8.toNat_inj, List.length_cons, List.take_succ_cons, List.cons.injEq, hasL_iff p t]
    exact ⟨fun h => ⟨h.1.symm, h.2⟩, fun h => ⟨h.1.symm, h.2⟩⟩
theorem hasL_eq (p t : List UInt8) : hasL p t = (t.take p.length == p) := by
  rw [Bool.eq_iff_iff, hasL_iff, beq_iff_eq]
theorem ext_list (s : ByteArray) (a b : Nat) : (s.extract a b).data.toList = (s.data.toList.drop a).take (b - a) := by
  simp [ByteArray.data_extract, List.extract_eq_take_drop]
theorem from_len (s : ByteArray) (a : Nat) : (from_ s a).length = s.size - a := by
  unfold from_; simp
theorem hasL_short {p t : List UInt8} (h : t.length < p.length) : hasL p t = false := by
  rw [← Bool.not_eq_true, hasL_iff]
  intro e
  have := congrArg List.length e
  simp at this
  omega

theorem prefix_f (s x : ByteArray) : stringslite_HasPrefix.f s x = some (hasL x.data.toList s.data.toList) := by
  unfold stringslite_HasPrefix.f
  by_cases h : (s.size : Int) ≥ (x.size : Int)
  · rw [if_pos h, if_pos (by omega), if_pos h]
    congr 1
    rw [hasL_eq, ByteArray.toList_eq, ByteArray.toList_eq, ext_list]
    simp
  · rw [if_neg h, hasL_short (by simp; omega)]

theorem has_w (g a : Nat) (bad : Int) (s x : ByteArray) (w0 w : World) (hI : IsS61 w0 w g s (a : Int) bad) (hB : Below w0.heap.size w0 w) (ha : a ≤ s.size) :
    Calls Tryz.prog 39 #[.pointer (some ⟨g, 0, none⟩), .string x] w fun e w' => e = .returned (.bool (hasL x.data.toList (from_ s a))) ∧ IsS61 w0 w' g s (a : Int) bad ∧ Below w0.heap.size w0 w' ∧ KeepBut w w' g none := by
  refine (token_cutter_has.calls g s a bad x (hasL x.data.toList (from_ s a)) s a bad w0 w hI hB ?_).mono (fun e w' h => h)
  unfold token_cutter_has.f
  rw [if_pos (by omega), if_pos (by omega)]
  unfold strings_HasPrefix.f
  rw [prefix_f]
  simp only [Option.bind_some, Int.toNat_natCast]
  rw [ext_list, List.take_of_length_le (by simp)]
  rfl

end Go.Proofs.YtgplgmjnhkhbjaaGreatDoor
set_option linter.unusedVariables false
set_option linter.unusedSimpArgs false
namespace Go.Proofs.YtgplgmjnhkhbjaaGreatDoor
open Go.RowKit Go.Proofs.YtgplgmjnhkhbjaaGreatDoorW.PrintWords PScan PWord Syn

/-- a cutter at block g, and what has stayed since w -/
structure Cu (w0 w : World) (g : Nat) (s : ByteArray) (a : Nat) (bad : Int) (W : World) : Prop where
  is : IsS61 w0 W g s (a : Int) bad
  bel : Below w0.heap.size w0 W
  kp : KeepBut w W g none

section
variable {w0 w W W' : World} {g a : Nat} {s : ByteArray} {bad : Int}
theorem Cu.alloc (h : Cu w0 w g s a bad W) (o : Obj) : Cu w0 w g s a bad (W.alloc o) := ⟨h.is.alloc o, below_alloc h.bel o, keep_alloc h.kp o⟩
theorem Cu.drewN (h : Cu w0 w g s a bad W) (n : Nat) : Cu w0 w g s a bad (W.drewN n) := ⟨h.is.drewN n, pw_below_drewN h.bel n, keep_drewN h.kp n⟩
theorem Cu.set1 (h : Cu w0 w g s a bad W) (b : Nat) (x : Int) (hx : x = (b : Int)) : Cu w0 w g s b bad (W.setCell ⟨g, 1, none⟩ (.int .i64 x)) := by
  subst hx
  exact ⟨h.is.set_1 _, below_set h.bel h.is.ge, KeepBut.set_ h.kp _ _⟩
theorem Cu.set2 (h : Cu w0 w g s a bad W) (x : Int) : Cu w0 w g s a x (W.setCell ⟨g, 2, none⟩ (.int .i64 x)) :=
  ⟨h.is.set_2 _, below_set h.bel h.is.ge, KeepBut.set_ h.kp _ _⟩
theorem Cu.after (h : Cu w0 w g s a bad W) {b : Nat} {bad' : Int} (k : Cu w0 W g s b bad' W') : Cu w0 w g s b bad' W' := ⟨k.is, k.bel, h.kp.trans k.kp (.inl rfl)⟩
theorem Cu.self (h : Cu w0 w g s a bad W) : Cu w0 W g s a bad W := ⟨h.is, h.bel, KeepBut.refl _ _ _⟩
theorem Cu.cells (h : Cu w0 w g s a bad W) : W.cell? ⟨g, 0, none⟩ = some (.string s) ∧ W.cell? ⟨g, 1, none⟩ = some (.int .i64 (a : Int)) ∧ W.cell? ⟨g, 2, none⟩ = some (.int .i64 bad) ∧ W.frozen? ⟨g, 1, none⟩ = false ∧ W.frozen? ⟨g, 2, none⟩ = false :=
  ⟨cellS61_0 h.is.1, cellS61_1 h.is.1, cellS61_2 h.is.1, blk_frozen h.is.1 1, blk_frozen h.is.1 2⟩
end

theorem row_c {w0 w : World} {g a : Nat} {s : ByteArray} {bad : Int} {W : World} (ls : List Nat) (t : Nat) (cs : Array Value) (hc : cs = (ls.map fun n : Nat => Value.int .i64 (n : Int)).toArray) (n : Nat) (hn : n = ls.length) (R : Nat) (hR : runL ls (from_ s a) = R) (h : Cu w0 w g s a bad W) (ha : a ≤ s.size) (hs : s.size ≤ 1000000) (hl : ls.length ≤ 8) :
    Calls Tryz.prog 37 #[.pointer (some ⟨g, 0, none⟩), .slice (some ⟨W.heap.size, 0, none⟩) n n] (W.alloc (.cells cs t)) fun e w' => e = .returned (.int .i64 (R : Int)) ∧ Cu w0 w g s (a + R) bad w' := by
  subst hn hc hR
  have hA := h.alloc (.cells (ls.map fun n : Nat => Value.int .i64 (n : Int)).toArray t)
  refine (row_w g W.heap.size a ls.length bad s ls w0 _ hA.is hA.bel ⟨t, blk_new W _⟩ (by have := h.is.lt; omega) ha hs hl).mono ?_
  rintro e w' ⟨rfl, h1, h2, h3⟩
  exact ⟨rfl, hA.after ⟨h1, h2, h3⟩⟩

theorem has_c {w0 w : World} {g a : Nat} {s : ByteArray} {bad : Int} {W : World} (x : ByteArray) (l : List UInt8) (hx : x.data.toList = l) (r : Bool) (hr : hasL l (from_ s a) = r) (h : Cu w0 w g s a bad W) (ha : a ≤ s.size) :
    Calls Tryz.prog 39 #[.pointer (some ⟨g, 0, none⟩), .string x] W fun e w' => e = .returned (.bool r) ∧ Cu w0 w g s a bad w' := by
  subst hx hr
  refine (has_w g a bad s x w0 W h.is h.bel ha).mono ?_
  rintro e w' ⟨rfl, h1, h2, h3⟩
  exact ⟨rfl, h.after ⟨h1, h2, h3⟩⟩

theorem runL_le (ls : List Nat) : ∀ t : List UInt8, runL ls t ≤ t.length
  | [] => Nat.le_refl _
  | c :: t => by
    unfold runL
    have := runL_le ls t
    cases ls.contains (sortU c)
    · simp
    · simpa using this
theorem run_from (ls : List Nat) (s : ByteArray) (a : Nat) : a ≤ s.size → a + runL ls (from_ s a) ≤ s.size := by
  intro h
  have := runL_le ls (from_ s a)
  rw [from_len] at this
  omega

set_option maxHeartbeats 1000000 in
theorem digits_w {w0 w : World} {g a : Nat} {s : ByteArray} {W : World} (R : Nat) (hR : runL [3] (from_ s a) = R) (h : Cu w0 w g s a (-1) W) (ha : a ≤ s.size) (hs : s.size ≤ 1000000) :
    Calls Tryz.prog 40 #[.pointer (some ⟨g, 0, none⟩)] W fun e w' => e = .returned (.tuple #[]) ∧ Cu w0 w g s (a + R) (if R = 0 then (a : Int) else -1) w' := by
  obtain ⟨c0, c1, c2, f1, f2⟩ := h.cells
  have HC := Lib.hid h
  have HR := Lib.hid hR
  clear h hR
  by_cases h0 : R = 0
  · have d0 : ((R : Int) == 0) = true := beq_iff_eq.2 (by omega)
    rw [if_pos h0]
    go_enter Tryz.func40, Tryz.ntmps40
    go_wp2_with (go_at_call 37; (with_reducible refine (row_c [3] _ _ (by with_unfolding_all rfl) _ (by with_unfolding_all rfl) R HR.out HC.out ha hs (by with_unfolding_all decide)).mono ?_))
    rintro e w1 ⟨rfl, h1⟩
    obtain ⟨c0, c1, c2, f1, f2⟩ := h1.cells
    have H1 := Lib.hid h1
    clear h1
    go_wp2
    go_end0
    refine ⟨rfl, ?_⟩
    have := H1.out.set2 (a + R : Nat)
    rw [h0] at this ⊢
    exact this
  · have d0 : ((R : Int) == 0) = false := beq_eq_false_iff_ne.2 (by omega)
    rw [if_neg h0]
    go_enter Tryz.func40, Tryz.ntmps40
    go_wp2_with (go_at_call 37; (with_reducible refine (row_c [3] _ _ (by with_unfolding_all rfl) _ (by with_unfolding_all rfl) R HR.out HC.out ha hs (by with_unfolding_all decide)).mono ?_))
    rintro e w1 ⟨rfl, h1⟩
    have H1 := Lib.hid h1
    clear h1
    go_wp2
    go_end0
    exact ⟨rfl, H1.out⟩

end Go.Proofs.YtgplgmjnhkhbjaaGreatDoor
set_option linter.unusedVariables false
set_option linter.unusedSimpArgs false
namespace Go.Proofs.YtgplgmjnhkhbjaaGreatDoor
open Go.RowKit Go.Proofs.YtgplgmjnhkhbjaaGreatDoorW.PrintWords PScan PWord Syn

theorem sameL_dec (a b : List UInt8) : sameL a b = decide (a = b) := by
  rw [Bool.eq_iff_iff, sameL_iff, decide_eq_true_eq]
def wordIf : List (List UInt8) → List UInt8 → Option Bool
  | [], _ => some false
  | w :: r, l => if l = w then some true else wordIf r l
theorem wordIf_eq : ∀ (ws : List (List UInt8)) (l : List UInt8), wordIf ws l = some (ws.any (sameL l))
  | [], l => rfl
  | w :: r, l => by
    simp only [wordIf, List.any_cons, sameL_dec, wordIf_eq r l]
    by_cases h : l = w
    · rw [if_pos h, decide_eq_true h, Bool.true_or]
    · rw [if_neg h, decide_eq_false h, Bool.false_or]
theorem word_f (x : ByteArray) : token_Word.f x = some (isWord x.data.toList) := by
  rw [← ByteArray.toList_eq]
  exact wordIf_eq words x.toList

theorem word_c {w : World} (x : ByteArray) (r : Bool) (h : isWord x.data.toList = r) : Calls Tryz.prog 38 #[.string x] w fun e w' => e = .returned (.bool r) ∧ Drawn0 w w' := by
  subst h
  exact (token_Word.calls x _ w (word_f x)).mono fun e w' h => h

set_option maxHeartbeats 1000000 in
theorem name_w {w0 w : World} {g a : Nat} {s : ByteArray} {W : World} (R : Nat) (hR : runL nameCh (from_ s a) = R) (r : Bool) (hr : isWord ((from_ s a).take R) = r) (h : Cu w0 w g s a (-1) W) (ha : a ≤ s.size) (hs : s.size ≤ 1000000) :
    Calls Tryz.prog 16 #[.pointer (some ⟨g, 0, none⟩)] W fun e w' => e = .returned (.int .u8 (if r then 3 else 2)) ∧ Cu w0 w g s (a + R) (if R ≤ 32 then -1 else (a : Int)) w' := by
  have hle : a + R ≤ s.size := by rw [← hR]; exact run_from _ s a ha
  obtain ⟨c0, c1, c2, f1, f2⟩ := h.cells
  have hx : isWord (s.extract a ((a : Int) + (R : Int)).toNat).data.toList = r := by
    rw [ext_list, show ((a : Int) + (R : Int)).toNat - a = R from by omega]; exact hr
  have b1 : (a : Int) ≤ (a : Int) + (R : Int) := by omega
  have b2 : (a : Int) + (R : Int) ≤ (s.size : Int) := by omega
  have HC := Lib.hid h
  have HR := Lib.hid hR
  have HX := Lib.hid hx
  clear h hR hr hx
  by_cases h0 : R ≤ 32
  · have d0 : decide ((R : Int) > 32) = false := decide_eq_false (by omega)
    rw [if_pos h0]
    go_enter Tryz.func16, Tryz.ntmps16
    go_wp2_with (go_at_call 37; (with_reducible refine (row_c nameCh _ _ (by with_unfolding_all rfl) _ (by with_unfolding_all rfl) R HR.out HC.out ha hs (by with_unfolding_all decide)).mono ?_))
    rintro e w1 ⟨rfl, h1⟩
    obtain ⟨c0, c1, c2, f1, f2⟩ := h1.cells
    have H1 := Lib.hid h1
    clear h1
    go_wp2_with fail
    go_quiet (first | (go_at_call 38; (with_reducible refine (word_c _ r HX.out).mono ?_); rintro e w' ⟨rfl, ⟨nd, rfl⟩⟩; (try first | exact ⟨rfl, _, World.drewN_drewN _ _ _⟩ | exact ⟨rfl, _, Eq.trans (World.drewN_drewN _ _ _) (congrArg (World.drewN _) (Nat.add_assoc _ _ _))⟩)))
    cases r
    · go_wp2
      go_ret
      exact ⟨rfl, H1.out.drewN _⟩
    · go_wp2
      go_ret
      exact ⟨rfl, H1.out.drewN _⟩
  · have d0 : decide ((R : Int) > 32) = true := decide_eq_true (by omega)
    rw [if_neg h0]
    go_enter Tryz.func16, Tryz.ntmps16
    go_wp2_with (go_at_call 37; (with_reducible refine (row_c nameCh _ _ (by with_unfolding_all rfl) _ (by with_unfolding_all rfl) R HR.out HC.out ha hs (by with_unfolding_all decide)).mono ?_))
    rintro e w1 ⟨rfl, h1⟩
    obtain ⟨c0, c1, c2, f1, f2⟩ := h1.cells
    have H1 := Lib.hid (h1.set2 (a : Int))
    clear h1
    go_wp2_with fail
    go_quiet (first | (go_at_call 38; (with_reducible refine (word_c _ r HX.out).mono ?_); rintro e w' ⟨rfl, ⟨nd, rfl⟩⟩; (try first | exact ⟨rfl, _, World.drewN_drewN _ _ _⟩ | exact ⟨rfl, _, Eq.trans (World.drewN_drewN _ _ _) (congrArg (World.drewN _) (Nat.add_assoc _ _ _))⟩)))
    cases r
    · go_wp2
      go_ret
      exact ⟨rfl, H1.out.drewN _⟩
    · go_wp2
      go_ret
      exact ⟨rfl, H1.out.drewN _⟩

end Go.Proofs.YtgplgmjnhkhbjaaGreatDoor
set_option linter.unusedVariables false
set_option linter.unusedSimpArgs false
namespace Go.Proofs.YtgplgmjnhkhbjaaGreatDoor
open Go.RowKit Go.Proofs.YtgplgmjnhkhbjaaGreatDoorW.PrintWords PScan PWord Syn

/-- the texts of a literal row lie here -/
def Texts (w : World) (q : Nat) (ls : List (List UInt8)) : Prop := ∃ t, w.heap[q]? = some (.cells (ls.map fun l : List UInt8 => Value.string ⟨l.toArray⟩).toArray t (0, 0))
theorem Texts.cell {w : World} {q : Nat} {ls : List (List UInt8)} (h : Texts w q ls) (j : Nat) (hj : j < ls.length) : w.cell? ⟨q, j, none⟩ = some (.string ⟨(ls[j]).toArray⟩) := by
  obtain ⟨t, h⟩ := h
  rw [blk_cell h j]
  simp [hj]
theorem Texts.keep {w w' : World} {q g : Nat} {ls : List (List UInt8)} (h : Texts w q ls) (hk : KeepBut w w' g none) (hq : q ≠ g) : Texts w' q ls := by
  obtain ⟨t, h⟩ := h
  exact ⟨t, by rw [hk.2 q (Array.getElem?_eq_some_iff.1 h).1 hq (by simp)]; exact h⟩

theorem any_cut {l : List (List UInt8)} {p : List UInt8 → Bool} {j : Nat} (h : j < l.length) (hp : p l[j] = true) : l.any p = true := by
  rw [List.any_eq_true]
  exact ⟨l[j], List.getElem_mem h, hp⟩
theorem any_snoc {l : List (List UInt8)} {p : List UInt8 → Bool} {j : Nat} (h : j < l.length) (h0 : (l.take j).any p = false) (hp : p l[j] = false) : (l.take (j + 1)).any p = false := by
  rw [List.take_succ_eq_append_getElem h, List.any_append, h0, Bool.false_or]
  simpa using hp

def sLen (r : Bool) : Nat := bif r then 2 else 1

set_option maxHeartbeats 1000000 in
theorem sign_w {w0 w : World} {g a : Nat} {s : ByteArray} {bad : Int} {W : World} (r : Bool) (hr : twos.any (hasL · (from_ s a)) = r) (h : Cu w0 w g s a bad W) (ha : a ≤ s.size) (hs : s.size ≤ 1000000) :
    Calls Tryz.prog 18 #[.pointer (some ⟨g, 0, none⟩)] W fun e w' => e = .returned (.int .u8 6) ∧ Cu w0 w g s (a + sLen r) bad w' := by
  have HC := Lib.hid h
  have HR := Lib.hid hr
  have hT : ∀ t, Texts (W.alloc (.cells (twos.map fun l : List UInt8 => Value.string ⟨l.toArray⟩).toArray t)) W.heap.size twos := fun t => ⟨t, blk_new W _⟩
  have HT := Lib.hid hT
  have hq : W.heap.size ≠ g := by have := h.is.lt; omega
  clear h hr hT
  go_enter Tryz.func18, Tryz.ntmps18
  go_wp2
  go_loopw [7] (fun i wr => ∃ j : Nat, j ≤ twos.length ∧ i = .int .i64 j ∧ Hid (Cu w0 w g s a bad wr) ∧ Hid (Texts wr W.heap.size twos) ∧ Hid ((twos.take j).any (hasL · (from_ s a)) = false)) (fun i wr => 8 - (intOf i).toNat)
  case atStart => exact ⟨0, Nat.zero_le _, rfl, Lib.hid (HC.out.alloc _), Lib.hid (HT.out _), Lib.hid rfl⟩
  case round =>
    obtain ⟨j, hj, rfl, HCr, HTr, HJ⟩ := hrel
    have h8 : twos.length = 8 := rfl
    by_cases hjl : j < twos.length
    · have d0 : decide ((j : Int) < 8) = true := decide_eq_true (by omega)
      have q1 := HTr.out.cell j hjl
      obtain ⟨b, hb⟩ : ∃ b, hasL twos[j] (from_ s a) = b := ⟨_, rfl⟩
      have hjb : j ≤ 7 := by omega
      go_wp2_with (go_at_call 39; (with_reducible refine (has_c _ twos[j] (by with_unfolding_all rfl) b hb HCr.out.self ha).mono ?_))
      rintro e w1 ⟨rfl, h1⟩
      have H1 := Lib.hid (HCr.out.after h1)
      have HT1 := Lib.hid (HTr.out.keep h1.kp hq)
      obtain ⟨c0, c1, c2, f1, f2⟩ := h1.cells
      clear h1 q1
      cases b
      · clear c0 c1 c2 f1 f2
        have HF := Lib.hid hb
        clear hb
        go_wp2
        go_roundw
        case rel => exact ⟨j + 1, by omega, by go_num, H1, HT1, Lib.hid (any_snoc hjl HJ.out HF.out)⟩
        case measure => simp [intOf]; omega
      · have hrf : r = true := by rw [← HR.out]; exact any_cut hjl hb
        subst hrf
        clear hb
        go_wp2
        go_ret
        exact ⟨rfl, (H1.out.set1 (a + 1) _ rfl).set1 (a + 2) _ (by omega)⟩
    · have d0 : decide ((j : Int) < 8) = false := decide_eq_false (by omega)
      obtain ⟨c0, c1, c2, f1, f2⟩ := HCr.out.cells
      have hrf : r = false := by rw [← HR.out, ← HJ.out, List.take_of_length_le (by omega)]
      subst hrf
      go_wp2
      go_ret
      exact ⟨rfl, HCr.out.set1 (a + 1) _ rfl⟩

end Go.Proofs.YtgplgmjnhkhbjaaGreatDoor
