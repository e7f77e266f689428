/-
  The walks of the line reader's parts, against plain models of them.
-/
import Derived.Test.YtjjinpohebcicaaDoorProg
import Derived.WalkKit
import Derived.WalkSpells
import Derived.Lib.FrozenHead
import Derived.Lib.FrozenHead2
import Derived.Shelf.Strings.Builder1
import Derived.Lib.Hide
import Derived.Lib.AtoiAll
import Derived.Lib.ItoaNum
import Derived.Lib.Bytealg
import Derived.Test.YtjjinpohebcicaaDoorShelf
import Derived.WalkLawsBesides
import Derived.IntWalk
import Derived.Lib.OthersKept
import Derived.Test.YtjjinpohebcicaaDoorWWords
import Derived.StillTailTactics
import Derived.Deep.QuietTactic
import Derived.BigQuiet
import Derived.Test.YtjjinpohebcicaaDoorPnextx1
set_option linter.unusedSimpArgs false
set_option linter.unusedVariables false
namespace Go.Proofs.YtjjinpohebcicaaDoor
open Go.RowKit

theorem szBuilder : (Tryd.prog.info? 61).map (·.size) = some 2 := by kernel_rfl
theorem liesBuilder : liesAt Tryd.prog Tryd.prog.depth 61 (2 / Tryd.prog.cellsOf 61) 0 61 1 = true := by kernel_rfl
theorem byteInfo : (Tryd.prog.info? 5).map (fun i => (i.zero, i.size, i.bytes)) = some (some (.int .u8 0), 1, 1) := by kernel_rfl

set_option maxHeartbeats 1000000 in
set_option maxRecDepth 100000 in
theorem copyCheck_b (B b : Nat) (bs : List Value) (w : World) (h : Lib.IsBuilderF 61 5 B b bs w) :
    Calls Tryd.prog 41 #[.pointer (some ⟨b, 0, none⟩)] w fun e w' => e = .returned (.tuple #[]) ∧ Lib.BuilderAtF 61 5 B b (.pointer (some ⟨b, 0, none⟩)) bs w' ∧ Below B w w' := by
  rcases h with h | h
  · have h0 := h.cell0
    have hsh := h.shape
    have hfz := h.frozen0
    obtain ⟨j, hj, hjs⟩ := Option.map_eq_some_iff.1 szBuilder
    have HH := Lib.hid h
    clear h
    go_enter Tryd.func41, Tryd.ntmps41
    go_wp2
    rw [Lib.run_to_unsafe w ⟨b, 0, none⟩ Tryd.underlying58 Tryd.underlying81 hj (by rw [hjs]; decide) hsh (Nat.zero_lt_succ 1)]
    simp only [Result.andThen]
    rw [Oper.upon_value]
    go_wp2
    rw [run_callFunc_extern Tryd.func48 (by kernel_rfl) (by kernel_rfl) (by kernel_rfl) (e := Extern.AbiNoEscape.same) (by kernel_rfl)]
    rw [Lib.run_noEscape]
    simp only [Result.andThen]
    rw [Oper.upon_value]
    go_wp2
    rw [Lib.run_from_unsafe w ⟨b, 0, none⟩ Tryd.underlying81 Tryd.underlying58 hj hsh liesBuilder]
    simp only [Result.andThen]
    rw [Oper.upon_value]
    go_wp2
    go_end0
    exact ⟨rfl, HH.out.used _, (Below.refl B w).setCell (p := ⟨b, 0, none⟩) HH.out.1 _⟩
  · have c0 := h.cell0
    obtain ⟨j, hj, hjs⟩ := Option.map_eq_some_iff.1 szBuilder
    have HH := Lib.hid h
    clear h
    go_enter Tryd.func41, Tryd.ntmps41
    go_wp2
    rw [Lib.run_neq_ptr_same w _ Tryd.underlying58 hj]
    go_wp2
    go_end0
    exact ⟨rfl, HH.out, Below.refl B _⟩

set_option maxHeartbeats 1000000 in
set_option maxRecDepth 100000 in
theorem writeByte_b (B b : Nat) (bs : List Value) (c : Int) (w : World) (h : Lib.IsBuilderF 61 5 B b bs w) (hlen : bs.length + 1 ≤ 140737488355328) (hBw : B ≤ w.heap.size) :
    Calls Tryd.prog 29 #[.pointer (some ⟨b, 0, none⟩), .int .u8 c] w fun e w' => e = .returned .nilIface ∧ Lib.BuilderAtF 61 5 B b (.pointer (some ⟨b, 0, none⟩)) (bs ++ [.int .u8 c]) w' ∧ Below B w w' := by
  obtain ⟨i0, hi, hz0, hz1, hz2⟩ := info_parts byteInfo
  have HH := Lib.hid h
  clear h
  go_enter Tryd.func29, Tryd.ntmps29
  go_wp2_with (go_at_call 41; refine (copyCheck_b B b bs _ HH.out).mono ?_)
  rintro e w1 ⟨rfl, h1, hb1⟩
  obtain ⟨hB, v, hbk, hown, hne⟩ := h1
  have c0 : w1.cell? ⟨b, 0, none⟩ = some (.pointer (some ⟨b, 0, none⟩)) := by rw [Lib.cell_of_heap hbk]; rfl
  have c1 : w1.cell? ⟨b, 1, none⟩ = some v := by rw [Lib.cell_of_heap hbk]; rfl
  go_wp2_with (at_builtin; refine wpList_append_ownF _ rfl _ _ 59 rfl B 5 i0 (.int .u8 0) 1 1 Tryd.underlying59 hi hz0 hz1 hz2 rfl (by decide) _ _ _ rfl (hown.alloc _) ⟨w1.heap.size, 0, none⟩ 1 1 [.int .u8 c] rfl rfl ?c1 ?c2 ?c3 ?c4 ?c5 ?_)
  case c1 =>
    intro j u hj
    match j, hj with
    | 0, hj => simp at hj; subst hj; simp [Addr.add]
  case c2 => intro u hu; simp at hu; subst hu; rfl
  case c3 => unfold maxLen; omega
  case c4 => omega
  case c5 => have := hb1.size; simp; omega
  intro v' w2 hown' hgrow _
  have hlt : b < w1.heap.size := by
    rcases Nat.lt_or_ge b w1.heap.size with h' | h'
    · exact h'
    · simp [Array.getElem?_eq_none h'] at hbk
  have hb2 : w2.heap[b]? = some (.cells #[.pointer (some ⟨b, 0, none⟩), v] 61 (0, 0)) := by
    rw [hgrow.block b (by simp; omega) (fun e => hne e.symm), Lib.alloc_old w1 _ b hlt]
    exact hbk
  have d0 : w2.cell? ⟨b, 0, none⟩ = some (.pointer (some ⟨b, 0, none⟩)) := by rw [Lib.cell_of_heap hb2]; rfl
  have d1 : w2.cell? ⟨b, 1, none⟩ = some v := by rw [Lib.cell_of_heap hb2]; rfl
  have f1 : w2.frozen? ⟨b, 1, none⟩ = false := Lib.frozen_of_heap hb2 1
  obtain ⟨g, cap, rfl⟩ : ∃ g cap, v' = .slice (some ⟨g, 0, none⟩) (bs.length + 1) cap := by
    rcases hown'.2 with ⟨_, h0⟩ | ⟨g, cap, cur, fz, hv, _⟩
    · omega
    · exact ⟨g, cap, hv⟩
  go_wp2
  go_ret
  refine ⟨rfl, ?_, ?_⟩
  · exact Lib.BuilderAtF.put (T := 61) (e := 5) hB hb2 (bs' := bs ++ [.int .u8 c]) (by simpa using hown') (by decide)
  · exact ((hb1.alloc (by have := hb1.size; omega) _).grown hgrow (by have := hb1.size; simp; omega) (fun k hk => (hown.lt k hk).1)).setCell (p := ⟨b, 1, none⟩) hB _

set_option maxHeartbeats 1000000 in
set_option maxRecDepth 100000 in
theorem writeString_b (B b : Nat) (bs : List Value) (s : ByteArray) (w : World) (h : Lib.IsBuilderF 61 5 B b bs w) (hlen : bs.length + s.size ≤ 140737488355328) (hBw : B ≤ w.heap.size) :
    Calls Tryd.prog 35 #[.pointer (some ⟨b, 0, none⟩), .string s] w fun e w' => e = .returned (.tuple #[.int .i64 s.size, .nilIface]) ∧ Lib.BuilderAtF 61 5 B b (.pointer (some ⟨b, 0, none⟩)) (bs ++ Lib.strCells s) w' ∧ Below B w w' := by
  obtain ⟨i0, hi, hz0, hz1, hz2⟩ := info_parts byteInfo
  have HH := Lib.hid h
  clear h
  go_enter Tryd.func35, Tryd.ntmps35
  go_wp2_with (go_at_call 41; refine (copyCheck_b B b bs _ HH.out).mono ?_)
  rintro e w1 ⟨rfl, h1, hb1⟩
  obtain ⟨hB, v, hbk, hown, hne⟩ := h1
  have c0 : w1.cell? ⟨b, 0, none⟩ = some (.pointer (some ⟨b, 0, none⟩)) := by rw [Lib.cell_of_heap hbk]; rfl
  have c1 : w1.cell? ⟨b, 1, none⟩ = some v := by rw [Lib.cell_of_heap hbk]; rfl
  go_wp2_with (at_builtin; refine Lib.wpList_append_own_stringF _ rfl _ _ 59 9 rfl B 5 i0 Tryd.underlying59 Tryd.underlying9 hi hz0 hz1 hz2 _ _ _ rfl hown s rfl ?c3 ?c4 ?c5 ?_)
  case c3 => unfold maxLen; omega
  case c4 => omega
  case c5 => have := hb1.size; omega
  intro v' w2 hown' hgrow _
  have hlt : b < w1.heap.size := by
    rcases Nat.lt_or_ge b w1.heap.size with h' | h'
    · exact h'
    · simp [Array.getElem?_eq_none h'] at hbk
  have hb2 : w2.heap[b]? = some (.cells #[.pointer (some ⟨b, 0, none⟩), v] 61 (0, 0)) := by
    rw [hgrow.block b hlt (fun e => hne e.symm)]
    exact hbk
  have d0 : w2.cell? ⟨b, 0, none⟩ = some (.pointer (some ⟨b, 0, none⟩)) := by rw [Lib.cell_of_heap hb2]; rfl
  have d1 : w2.cell? ⟨b, 1, none⟩ = some v := by rw [Lib.cell_of_heap hb2]; rfl
  have f1 : w2.frozen? ⟨b, 1, none⟩ = false := Lib.frozen_of_heap hb2 1
  obtain ⟨ao, n', cap, rfl⟩ : ∃ ao n' cap, v' = .slice ao n' cap := by
    rcases hown'.2 with ⟨hv, _⟩ | ⟨g, cap, cur, fz, hv, _⟩
    · exact ⟨_, _, _, hv⟩
    · exact ⟨_, _, _, hv⟩
  go_wp2
  go_ret2
  refine ⟨rfl, ?_, ?_⟩
  · exact Lib.BuilderAtF.put (T := 61) (e := 5) hB hb2 (bs' := bs ++ Lib.strCells s) (by simpa [Lib.strCells_length] using hown') (by decide)
  · exact (hb1.grown hgrow (by have := hb1.size; omega) (fun k hk => (hown.lt k hk).1)).setCell (p := ⟨b, 1, none⟩) hB _
end Go.Proofs.YtjjinpohebcicaaDoor
namespace Go.Proofs.YtjjinpohebcicaaDoor
namespace Ln

def hexDigits : List UInt8 := [48, 49, 50, 51, 52, 53, 54, 55, 56, 57, 97, 98, 99, 100, 101, 102]
def hexM (c : Int) : Int := (Lib.indexByte hexDigits c.toNat.toUInt8 + 17) % 17

/-- what a digit of base 16 says; 16: none -/
def hexU (b : UInt8) : UInt8 := if 48 ≤ b ∧ b ≤ 57 then b - 48 else if 97 ≤ b ∧ b ≤ 102 then b - 87 else 16

def okByte (c : UInt8) : Bool := 32 ≤ c && c ≤ 126 && c != 34

/-- what stands between the quotes, read -/
def unq : List UInt8 → Option (List UInt8)
  | [] => some []
  | c :: r =>
    if okByte c then
      if c = 92 then
        match r with
        | [] => none
        | d :: r' =>
          if d = 34 ∨ d = 92 then (unq r').map (d :: ·)
          else if d = 110 then (unq r').map (10 :: ·)
          else if d = 116 then (unq r').map (9 :: ·)
          else if d = 120 then
            match r' with
            | a :: b :: r'' => if hexU a = 16 ∨ hexU b = 16 then none else (unq r'').map ((16 * hexU a + hexU b) :: ·)
            | _ => none
          else none
      else (unq r).map (c :: ·)
    else none

def mid (l : List UInt8) : List UInt8 := (l.drop 1).take (l.length - 2)

def txtM (l : List UInt8) : List UInt8 × Bool :=
  if l.length < 2 ∨ l.head? ≠ some 34 ∨ l.getLast? ≠ some 34 then ([], false)
  else match unq (mid l) with
    | some t => (t, true)
    | none => ([], false)

def numM (l : List UInt8) : Int × Bool :=
  match Lib.atoiAll l with
  | .ok v => if Lib.itoa v = l then (v, true) else (0, false)
  | _ => (0, false)

def nameCh (c : UInt8) : Bool := (97 ≤ c && c ≤ 122) || (65 ≤ c && c ≤ 90) || (48 ≤ c && c ≤ 57) || c == 95
def nameM (l : List UInt8) : Bool := l.all nameCh && l != [] && decide (l.length ≤ 32)

def esc (c : UInt8) : List UInt8 :=
  if c = 34 ∨ c = 92 then [92, c]
  else if c = 10 then [92, 110]
  else if c = 9 then [92, 116]
  else if c < 32 ∨ 126 < c then [92, 120, hexDigits.getD (c.toNat / 16) 0, hexDigits.getD (c.toNat % 16) 0]
  else [c]
def quoM (l : List UInt8) : List UInt8 := 34 :: (l.flatMap esc ++ [34])

def fitM (l : List UInt8) (k : Int) : Bool := if k = 110 then nameM l else if k = 116 then (txtM l).2 else (numM l).2

end Ln
end Go.Proofs.YtjjinpohebcicaaDoor
namespace Go.Proofs.YtjjinpohebcicaaDoor
open Go.RowKit Ln Go.Proofs.YtjjinpohebcicaaDoorW.PrintWords

theorem hexM_lt (c : UInt8) : Lib.indexByte hexDigits c ≤ 15 := by
  have h : ∀ n : Fin 256, Lib.indexByte hexDigits (UInt8.ofNat n.val) ≤ 15 := by decide +kernel
  have := h ⟨c.toNat, c.toNat_lt⟩
  simpa using this

set_option maxHeartbeats 400000 in
theorem hex_w (c : Int) (w : World) : Calls Tryd.prog 30 #[.int .u8 c] w fun e w' => e = .returned (.int .i64 (hexM c)) ∧ w' = w := by
  have h0 := Lib.indexByte_ge hexDigits c.toNat.toUInt8
  have h1 := hexM_lt c.toNat.toUInt8
  have hD : (⟨#[48, 49, 50, 51, 52, 53, 54, 55, 56, 57, 97, 98, 99, 100, 101, 102]⟩ : ByteArray).data.toList = hexDigits := rfl
  go_enter Tryd.func30, Tryd.ntmps30
  go_wp2_with (go_at_call 42; refine (Tryd.strings_IndexByte _ _ _).mono ?_; rintro e w' ⟨rfl, rfl⟩)
  go_ret
  have e1 : wrap64 (Lib.indexByte hexDigits (UInt8.ofNat c.toNat) + 17) = Lib.indexByte hexDigits (UInt8.ofNat c.toNat) + 17 := by
    have h0' : -1 ≤ Lib.indexByte hexDigits (UInt8.ofNat c.toNat) := h0
    have h1' : Lib.indexByte hexDigits (UInt8.ofNat c.toNat) ≤ 15 := h1
    unfold wrap64; omega
  refine ⟨?_, rfl⟩
  show Ending.returned (Value.int IntKind.i64 ((wrap64 (Lib.indexByte hexDigits (UInt8.ofNat c.toNat) + 17)).tmod 17)) = _
  rw [e1, Int.tmod_eq_emod_of_nonneg (by have h0' : -1 ≤ Lib.indexByte hexDigits (UInt8.ofNat c.toNat) := h0; omega)]
  rfl

def nameR (r : Int) : Prop := (97 ≤ r ∧ r ≤ 122) ∨ (65 ≤ r ∧ r ≤ 90) ∨ (48 ≤ r ∧ r ≤ 57) ∨ r = 95

theorem nameCh_iff (c : UInt8) : nameCh c = true ↔ nameR (c.toNat : Int) := by
  unfold nameCh nameR
  simp only [Bool.or_eq_true, Bool.and_eq_true, decide_eq_true_eq, UInt8.le_iff_toNat_le, beq_iff_eq, ← UInt8.toNat_inj]
  simp
  omega
theorem name_step (s : ByteArray) (pos : Nat) (h : pos < s.size) : (nameR ((Utf8.decode s pos).1 : Int) → nameCh (s[pos]'h) = true ∧ (Utf8.decode s pos).2 = 1) ∧ (¬ nameR ((Utf8.decode s pos).1 : Int) → nameCh (s[pos]'h) = false) := by
  by_cases ha : (s[pos]'h).toNat < 128
  · rw [decode_ascii s pos h ha]
    refine ⟨fun hn => ⟨(nameCh_iff _).2 hn, rfl⟩, fun hn => ?_⟩
    rw [← Bool.not_eq_true]; exact fun hc => hn ((nameCh_iff _).1 hc)
  · have hd := (decode_high s pos h (by omega)).1
    refine ⟨fun hn => ?_, fun _ => ?_⟩
    · unfold nameR at hn; omega
    · rw [← Bool.not_eq_true]; intro hc
      have := (nameCh_iff _).1 hc
      unfold nameR at this; omega
theorem name_false (s : ByteArray) (pos : Nat) (h : pos < s.size) (hc : nameCh (s[pos]'h) = false) : nameM s.data.toList = false := by
  unfold nameM
  have : s.data.toList.all nameCh = false := by
    rw [List.all_eq_false]
    exact ⟨s[pos]'h, by simp [ByteArray.getElem_eq_getElem_data], by rw [hc]; simp⟩
  rw [this]; rfl
theorem name_next (s : ByteArray) (pos : Nat) (h : pos < s.size) (hall : (s.data.toList.take pos).all nameCh = true) (hc : nameCh (s[pos]'h) = true) : (s.data.toList.take (pos + 1)).all nameCh = true := by
  rw [List.take_succ_eq_append_getElem (by simpa using h)]
  simp only [List.all_append, hall, Bool.true_and, List.all_cons, List.all_nil, Bool.and_true]
  exact hc

theorem name_end (s : ByteArray) (pos : Nat) (h : ¬ pos < s.size) (hall : (s.data.toList.take pos).all nameCh = true) : nameM s.data.toList = (!s.data.toList.isEmpty && decide (s.size ≤ 32)) := by
  unfold nameM
  have e1 : s.data.toList.all nameCh = true := by
    rw [← hall, List.take_of_length_le (by simp; omega)]
  have e2 : s.data.toList.length = s.size := by simp
  rw [e1, e2, Bool.true_and]
  cases s.data.toList <;> rfl

set_option maxHeartbeats 800000 in
theorem name_w (s : ByteArray) (w : World) (hs : s.size ≤ maxLen) : Calls Tryd.prog 37 #[.string s] w fun e w' => e = .returned (.bool (nameM s.data.toList)) ∧ Below w.heap.size w w' := by
  unfold maxLen at hs
  go_enter Tryd.func37, Tryd.ntmps37
  go_wp2
  go_loopw [] (fun wr => ∃ (pos : Nat), pos ≤ s.size ∧ wr.heap[w.heap.size]? = some (.stringIter s pos) ∧ Below w.heap.size w wr ∧ (s.data.toList.take pos).all nameCh = true) (fun wr => s.size - wr.iterPos w.heap.size)
  case atStart =>
    refine ⟨0, by omega, ?_, (Below.refl _ w).alloc (Nat.le_refl _) _, rfl⟩
    have := World.iter_heap w s 0
    simpa using this
  case round =>
    obtain ⟨pos, hps, hit, hbw, hall⟩ := hrel
    have hsz : w.heap.size < wr.heap.size := (Array.getElem?_eq_some_iff.1 hit).1
    by_cases hp : pos < s.size
    · have hnx : ∀ ty, (Instr.next (.pointer (some ⟨w.heap.size, 0, none⟩)) true ty).run Tryd.prog wr = _ := fun ty => Lib.run_next_any_at wr w.heap.size s pos ty hit hp
      have hk := name_step s pos hp
      have hbw2 := Lib.below_iterAt hbw (k := w.heap.size) (by omega) s (pos + (Utf8.decode s pos).2)
      have hit2 := Lib.iterAt_heap wr w.heap.size s pos (pos + (Utf8.decode s pos).2) hit
      have HK := Lib.hid hk
      have HA := Lib.hid hall
      have HI := Lib.hid hit2
      clear hk hall hit2
      generalize hrr : ((Utf8.decode s pos).1 : Int) = r at *
      have HR := Lib.hid hrr
      clear hrr
      go_wp2
      all_goals
        by_cases hn : nameR r
        · first
          | (go_roundw
             case rel => exact ⟨pos + 1, by omega, by rw [HI.out, (HK.out.1 hn).2], hbw2, name_next s pos hp HA.out (HK.out.1 hn).1⟩
             case measure => simp only [World.iterPos, HI.out, hit]; have := (HK.out.1 hn).2; omega)
          | (exfalso
             unfold nameR at hn
             try simp only [Bool.not_eq_true', Bool.not_eq_false', decide_eq_true_eq, decide_eq_false_iff_not, beq_iff_eq, beq_eq_false_iff_ne] at *
             omega)
        · first
          | (go_ret
             exact ⟨by rw [name_false s pos hp (HK.out.2 hn)]; rfl, hbw2⟩)
          | (exfalso
             unfold nameR at hn
             try simp only [Bool.not_eq_true', Bool.not_eq_false', decide_eq_true_eq, decide_eq_false_iff_not, beq_iff_eq, beq_eq_false_iff_ne] at *
             omega)
    · have hnx : ∀ ty, (Instr.next (.pointer (some ⟨w.heap.size, 0, none⟩)) true ty).run Tryd.prog wr = _ := fun ty => Lib.run_next_end_at wr w.heap.size s pos ty hit hp
      have HM := Lib.hid (name_end s pos hp hall)
      go_wp2
      all_goals
        go_ret
        refine ⟨?_, hbw⟩
        rw [HM.out, ← ByteArray.toList_eq]
        rename_i hz
        first | (rw [hz]; rfl) | (show Ending.returned (Value.bool (!s.toList.isEmpty && decide ((s.size : Int) ≤ 32))) = _; rw [show decide ((s.size : Int) ≤ 32) = decide (s.size ≤ 32) from by simp; omega])

/-- what the package-level variables hold -/
structure Gl (w : World) : Prop where
  tab : Lib.TabIs Tryd.prog w "internal/strconv.uint64pow10" .u64 Lib.pow10Tab
  syn : ∃ tp p, w.var? Tryd.prog "strconv.ErrSyntax" = some #[.iface tp p]
  rng : ∃ tp p, w.var? Tryd.prog "strconv.ErrRange" = some #[.iface tp p]
  big : 6 ≤ w.heap.size

theorem gTab : Tryd.prog.globalNamed "internal/strconv.uint64pow10" = some 4 := by kernel_rfl
theorem gSyn : Tryd.prog.globalNamed "strconv.ErrSyntax" = some 1 := by kernel_rfl
theorem gRng : Tryd.prog.globalNamed "strconv.ErrRange" = some 2 := by kernel_rfl

theorem Gl.below {w w' : World} (h : Gl w) (hb : Below w.heap.size w w') : Gl w' := by
  have hz := h.big
  refine ⟨?_, ?_, ?_, Nat.le_trans hz hb.size⟩
  · exact var?_below hb gTab (by omega) h.tab
  · obtain ⟨tp, p, hp⟩ := h.syn
    exact ⟨tp, p, var?_below hb gSyn (by omega) hp⟩
  · obtain ⟨tp, p, hp⟩ := h.rng
    exact ⟨tp, p, var?_below hb gRng (by omega) hp⟩
theorem below_gr (B : Nat) (w : World) (q : Nat) (os : Array Obj) (hB : B ≤ w.heap.size) : Below B w (Go.Sort.grow (w.drewN q) os) :=
  ⟨rfl, rfl, rfl, by first | (simp [Go.Sort.grow]; done) | (simp [Go.Sort.grow]; omega), fun i hi => by
    show ((w.drewN q).heap ++ os)[i]? = _
    rw [Array.getElem?_append_left (by show i < w.heap.size; omega)]
    rfl⟩

set_option maxHeartbeats 400000 in
theorem number_ok (s : ByteArray) (v : Int) (w : World) (hs : s.size ≤ 140737488351232) (hg : Gl w) (hv : Lib.atoiAll s.data.toList = .ok v) :
    Calls Tryd.prog 14 #[.string s] w fun e w' => e = .returned (.tuple #[.int .i64 (numM s.data.toList).1, .bool (numM s.data.toList).2]) ∧ Below w.heap.size w w' := by
  have hnum : numM s.data.toList = if Lib.itoa v = s.data.toList then (v, true) else (0, false) := by unfold numM; rw [hv]
  obtain ⟨vb0, vb1⟩ := Lib.atoiAll_bounds hv
  have HG := Lib.hid hg
  have HV := Lib.hid hv
  have HN := Lib.hid hnum
  clear hg hv hnum
  go_enter Tryd.func14, Tryd.ntmps14
  go_wp2_with (go_at_call 33; refine (Tryd.strconv_Atoi_ok s (by omega) v HV.out _).mono ?_)
  rintro e w1 ⟨rfl, hw1⟩
  have hb1 : Below w.heap.size w w1 := by
    rcases hw1 with rfl | ⟨t, rfl⟩
    · exact Below.refl _ _
    · exact bytes_below (Below.refl _ _) (Nat.le_refl _) _ _
  clear hw1
  have hg1 := HG.out.below hb1
  have ht := Lib.hid hg1.tab
  clear hg1
  by_cases he : Lib.itoa v = s.data.toList
  · have c1 : (Lib.itoa v == s.toList) = true := by rw [ByteArray.toList_eq]; simp [he]
    rw [if_pos he] at HN
    clear he
    go_wp2_with (go_at_call 34; refine (Tryd.strconv_Itoa v vb0 vb1 _ ht.out).mono ?_)
    rintro e w2 ⟨rfl, k, os, hw2⟩
    have hb2 : Below w.heap.size w w2 := by subst hw2; exact hb1.trans (below_gr w.heap.size w1 k os hb1.size)
    clear hw2
    go_wp2
    go_ret2
    exact ⟨by rw [HN.out]; rfl, hb2⟩
  · have c1 : (Lib.itoa v == s.toList) = false := by rw [ByteArray.toList_eq]; simp [he]
    rw [if_neg he] at HN
    clear he
    go_wp2_with (go_at_call 34; refine (Tryd.strconv_Itoa v vb0 vb1 _ ht.out).mono ?_)
    rintro e w2 ⟨rfl, k, os, hw2⟩
    have hb2 : Below w.heap.size w w2 := by subst hw2; exact hb1.trans (below_gr w.heap.size w1 k os hb1.size)
    clear hw2
    go_wp2
    go_ret2
    exact ⟨by rw [HN.out]; rfl, hb2⟩

set_option maxHeartbeats 400000 in
theorem number_bad (s : ByteArray) (w : World) (hs : s.size ≤ 140737488351232) (hg : Gl w) (hv : ∀ v, Lib.atoiAll s.data.toList ≠ .ok v) :
    Calls Tryd.prog 14 #[.string s] w fun e w' => e = .returned (.tuple #[.int .i64 (numM s.data.toList).1, .bool (numM s.data.toList).2]) ∧ Below w.heap.size w w' := by
  have hnum : numM s.data.toList = (0, false) := by
    unfold numM
    rcases h : Lib.atoiAll s.data.toList with v | _ | _
    · exact absurd h (hv v)
    · rfl
    · rfl
  have hat : Calls Tryd.prog 33 #[.string s] w fun e w' => ∃ x N, e = .returned (.tuple #[.int .i64 x, .iface 86 (.pointer (some ⟨N, 0, none⟩))]) ∧ Below w.heap.size w w' := by
    rcases h : Lib.atoiAll s.data.toList with v | _ | _
    · exact absurd h (hv v)
    ·
      obtain ⟨tp, p, hp⟩ := hg.syn
      refine (Tryd.strconv_Atoi_syntax_var s (by omega) h tp p w hp).mono ?_
      rintro e w' ⟨N, rfl, _, _, hb⟩
      exact ⟨_, N, rfl, hb⟩
    ·
      obtain ⟨tp, p, hp⟩ := hg.rng
      refine (Tryd.strconv_Atoi_range_var s (by omega) h tp p w hp).mono ?_
      rintro e w' ⟨N, rfl, _, _, hb⟩
      exact ⟨_, N, rfl, hb⟩
  have HT := Lib.hid hat
  have HN := Lib.hid hnum
  clear hg hv hnum hat
  go_enter Tryd.func14, Tryd.ntmps14
  go_wp2_with (go_at_call 33; refine HT.out.mono ?_)
  rintro e w1 ⟨x, N, rfl, hb1⟩
  go_wp2
  go_ret2
  exact ⟨by rw [HN.out]; rfl, hb1⟩

theorem number_w (s : ByteArray) (w : World) (hs : s.size ≤ 140737488351232) (hg : Gl w) :
    Calls Tryd.prog 14 #[.string s] w fun e w' => e = .returned (.tuple #[.int .i64 (numM s.data.toList).1, .bool (numM s.data.toList).2]) ∧ Below w.heap.size w w' := by
  by_cases h : ∃ v, Lib.atoiAll s.data.toList = .ok v
  · obtain ⟨v, hv⟩ := h
    exact number_ok s v w hs hg hv
  · exact number_bad s w hs hg (fun v hv => h ⟨v, hv⟩)
end Go.Proofs.YtjjinpohebcicaaDoor
namespace Go.Proofs.YtjjinpohebcicaaDoor
open Go.RowKit Ln Go.Proofs.YtjjinpohebcicaaDoorW.PrintWords

/-- the builder at block b holds the bytes l -/
def Bd (B b : Nat) (l : List UInt8) (w : World) : Prop := Lib.IsBuilderF 61 5 B b (Lib.byteCells l) w

theorem wb (B b : Nat) (l : List UInt8) (c : Int) (u : UInt8) (w : World) (hu : c = (u.toNat : Int)) (h : Bd B b l w) (hlen : l.length + 1 ≤ 140737488355328) (hBw : B ≤ w.heap.size) :
    Calls Tryd.prog 29 #[.pointer (some ⟨b, 0, none⟩), .int .u8 c] w fun e w' => e = .returned .nilIface ∧ Bd B b (l ++ [u]) w' ∧ Below B w w' := by
  subst hu
  refine (writeByte_b B b (Lib.byteCells l) u.toNat w h (by rw [Lib.byteCells_length]; exact hlen) hBw).mono ?_
  rintro e w' ⟨rfl, h1, hb⟩
  refine ⟨rfl, ?_, hb⟩
  unfold Bd
  rw [Lib.byteCells_append]
  exact Or.inr h1

theorem ws (B b : Nat) (l t : List UInt8) (s : ByteArray) (w : World) (hs : s.data.toList = t) (h : Bd B b l w) (hlen : l.length + s.size ≤ 140737488355328) (hBw : B ≤ w.heap.size) :
    Calls Tryd.prog 35 #[.pointer (some ⟨b, 0, none⟩), .string s] w fun e w' => e = .returned (.tuple #[.int .i64 s.size, .nilIface]) ∧ Bd B b (l ++ t) w' ∧ Below B w w' := by
  subst hs
  refine (writeString_b B b (Lib.byteCells l) s w h (by rw [Lib.byteCells_length]; exact hlen) hBw).mono ?_
  rintro e w' ⟨rfl, h1, hb⟩
  refine ⟨rfl, ?_, hb⟩
  unfold Bd
  rw [Lib.byteCells_append]
  exact Or.inr h1

theorem ws2 (B b : Nat) (l : List UInt8) (x y : UInt8) (w : World) (h : Bd B b l w) (hlen : l.length + 2 ≤ 140737488355328) (hBw : B ≤ w.heap.size) :
    Calls Tryd.prog 35 #[.pointer (some ⟨b, 0, none⟩), .string ⟨#[x, y]⟩] w fun e w' => e = .returned (.tuple #[.int .i64 2, .nilIface]) ∧ Bd B b (l ++ [x, y]) w' ∧ Below B w w' :=
  ws B b l [x, y] ⟨#[x, y]⟩ w rfl h hlen hBw

theorem hexAt (i : Nat) (h : i < (⟨#[48, 49, 50, 51, 52, 53, 54, 55, 56, 57, 97, 98, 99, 100, 101, 102]⟩ : ByteArray).size) : (((⟨#[48, 49, 50, 51, 52, 53, 54, 55, 56, 57, 97, 98, 99, 100, 101, 102]⟩ : ByteArray)[i]'h).toNat : Int) = ((hexDigits.getD i 0).toNat : Int) := by
  have H : ∀ j : Fin 16, ((⟨#[48, 49, 50, 51, 52, 53, 54, 55, 56, 57, 97, 98, 99, 100, 101, 102]⟩ : ByteArray)[j.val]'j.isLt) = hexDigits.getD j.val 0 := by decide
  exact congrArg (fun x : UInt8 => (x.toNat : Int)) (H ⟨i, h⟩)

theorem quo_snoc (s : ByteArray) (k : Nat) (h : k < s.size) : 34 :: (s.data.toList.take (k + 1)).flatMap esc = 34 :: (s.data.toList.take k).flatMap esc ++ esc (s[k]'h) := by
  rw [List.take_succ_eq_append_getElem (by simpa using h)]
  simp [List.flatMap_append, ByteArray.getElem_eq_getElem_data]
theorem u8_eq (u v : UInt8) : u = v ↔ u.toNat = v.toNat := UInt8.toNat_inj.symm
theorem esc_a {u : UInt8} (h : u.toNat = 34 ∨ u.toNat = 92) : esc u = [92, u] := by
  unfold esc
  rw [if_pos (h.elim (fun h => Or.inl ((u8_eq u 34).2 h)) (fun h => Or.inr ((u8_eq u 92).2 h)))]
theorem esc_n {u : UInt8} (h : u.toNat = 10) : esc u = [92, 110] := by
  have : u = 10 := (u8_eq u 10).2 h
  subst this; rfl
theorem esc_t {u : UInt8} (h : u.toNat = 9) : esc u = [92, 116] := by
  have : u = 9 := (u8_eq u 9).2 h
  subst this; rfl
theorem esc_x {u : UInt8} (h1 : u.toNat ≠ 10) (h2 : u.toNat ≠ 9) (h : u.toNat < 32 ∨ 126 < u.toNat) : esc u = [92, 120, hexDigits.getD (u.toNat / 16) 0, hexDigits.getD (u.toNat % 16) 0] := by
  have e1 := u8_eq u 10
  have e2 := u8_eq u 9
  have e3 := u8_eq u 34
  have e4 := u8_eq u 92
  unfold esc
  rw [if_neg (by rintro (h' | h') <;> simp [h'] at h), if_neg (fun h' => h1 (e1.1 h')), if_neg (fun h' => h2 (e2.1 h')), if_pos (h.elim (fun h => Or.inl (UInt8.lt_iff_toNat_lt.2 (show u.toNat < (32 : UInt8).toNat from h))) (fun h => Or.inr (UInt8.lt_iff_toNat_lt.2 (show (126 : UInt8).toNat < u.toNat from h))))]
theorem esc_o {u : UInt8} (h3 : u.toNat ≠ 34) (h4 : u.toNat ≠ 92) (h : 32 ≤ u.toNat ∧ u.toNat ≤ 126) : esc u = [u] := by
  unfold esc
  rw [if_neg (by rintro (h' | h') <;> subst h' <;> simp at h3 h4), if_neg (by rintro h'; subst h'; simp at h), if_neg (by rintro h'; subst h'; simp at h), if_neg (by rintro (h' | h') <;> have := UInt8.lt_iff_toNat_lt.1 h' <;> simp at this <;> omega)]
theorem esc_len (u : UInt8) : (esc u).length ≤ 4 := by
  by_cases h1 : u.toNat = 34 ∨ u.toNat = 92
  · rw [esc_a h1]; simp
  · by_cases h2 : u.toNat = 10
    · rw [esc_n h2]; simp
    · by_cases h3 : u.toNat = 9
      · rw [esc_t h3]; simp
      · by_cases h4 : u.toNat < 32 ∨ 126 < u.toNat
        · rw [esc_x h2 h3 h4]; simp
        · rw [esc_o (by omega) (by omega) (by omega)]; simp
theorem flat_len (l : List UInt8) : (l.flatMap esc).length ≤ 4 * l.length := by
  induction l with
  | nil => simp
  | cons a l ih => have := esc_len a; simp only [List.flatMap_cons, List.length_append, List.length_cons]; omega

set_option maxHeartbeats 1000000 in
theorem quote_w (s : ByteArray) (w : World) (hs : s.size ≤ 1000000) : Calls Tryd.prog 16 #[.string s] w fun e w' => e = .returned (.string ⟨(quoM s.data.toList).toArray⟩) ∧ Below w.heap.size w w' := by
  have hI0 : Bd w.heap.size w.heap.size [] (w.alloc (.cells #[.pointer none, .slice none 0 0] 61)) := Lib.IsBuilderF.of (Lib.fresh_isBuilder 61 5 w)
  have hb0 : Below w.heap.size w (w.alloc (.cells #[.pointer none, .slice none 0 0] 61)) := (Below.refl _ w).alloc (Nat.le_refl _) _
  go_enter Tryd.func16, Tryd.ntmps16
  go_wp2_with (go_at_call 29; refine (wb w.heap.size w.heap.size [] _ 34 _ rfl hI0 (by simp) hb0.size).mono ?_)
  rintro e w1 ⟨rfl, hI1, hb1⟩
  go_wp2
  go_loopw [9] (fun i wr => ∃ k : Nat, k ≤ s.size ∧ i = .int .i64 k ∧ Bd w.heap.size w.heap.size (34 :: (s.data.toList.take k).flatMap esc) wr ∧ Below w.heap.size w wr) (fun i wr => s.size - (intOf i).toNat)
  case atStart => exact ⟨0, Nat.zero_le _, rfl, hI1, hb0.trans hb1⟩
  case round =>
    obtain ⟨k, hk, rfl, hI, hb⟩ := hrel
    have hlen := flat_len (s.data.toList.take k)
    have hl : (s.data.toList.take k).length ≤ k := List.length_take_le _ _
    have hBw := hb.size
    by_cases hlt : k < s.size
    · obtain ⟨u, hu⟩ : ∃ u, (s[k]'hlt) = u := ⟨_, rfl⟩
      have hx : ∀ h : k < s.size, ((s[k]'h).toNat : Int) = (u.toNat : Int) := fun h => by rw [hu]
      have hu0 : (u.toNat : Int) ≤ 255 := by have := u.toNat_lt; omega
      have hE := quo_snoc s k hlt
      rw [hu] at hE
      have HE := Lib.hid hE
      clear hE
      have cl : (34 :: (s.data.toList.take k).flatMap esc).length ≤ 4 * k + 1 := by simp only [List.length_cons]; omega
      by_cases h1 : u.toNat = 34 ∨ u.toNat = 92
      · have d0 : ((u.toNat : Int) == 34 || (u.toNat : Int) == 92) = true := by rcases h1 with h | h <;> simp [h]
        have Hh := Lib.hid (esc_a h1)
        by_cases h2 : u.toNat = 34
        all_goals
          clear h1
          go_wp2_with fail
          refine (wb _ _ _ _ 92 _ rfl hI (by omega) hBw).mono ?_
          rintro e w2 ⟨rfl, hI2, hb2⟩
          go_wp2_with fail
          with_reducible refine (wb _ _ _ _ u _ (by omega) hI2 (by simp only [List.length_append, List.length_cons, List.length_nil] at cl ⊢; omega) (by have := hb2.size; omega)).mono ?_
          rintro e w3 ⟨rfl, hI3, hb3⟩
          go_wp2
          go_roundw
          case rel => exact ⟨k + 1, by omega, by go_num, by rw [HE.out, Hh.out]; rw [List.append_assoc] at hI3; exact hI3, (hb.trans hb2).trans hb3⟩
          case measure => simp [intOf]; omega
      · have d0 : ((u.toNat : Int) == 34) = false := beq_eq_false_iff_ne.2 (by omega)
        have d1 : ((u.toNat : Int) == 92) = false := beq_eq_false_iff_ne.2 (by omega)
        by_cases h2 : u.toNat = 10
        · have d2 : ((u.toNat : Int) == 10) = true := beq_iff_eq.2 (by omega)
          have Hh := Lib.hid (esc_n h2)
          clear h1 h2
          go_wp2_with fail
          with_reducible refine (ws2 _ _ _ 92 110 _ hI (by omega) hBw).mono ?_
          rintro e w2 ⟨rfl, hI2, hb2⟩
          go_wp2
          go_roundw
          case rel => exact ⟨k + 1, by omega, by go_num, by rw [HE.out, Hh.out]; exact hI2, hb.trans hb2⟩
          case measure => simp [intOf]; omega
        · have d2 : ((u.toNat : Int) == 10) = false := beq_eq_false_iff_ne.2 (by omega)
          by_cases h3 : u.toNat = 9
          · have d3 : ((u.toNat : Int) == 9) = true := beq_iff_eq.2 (by omega)
            have Hh := Lib.hid (esc_t h3)
            clear h1 h2 h3
            go_wp2_with fail
            with_reducible refine (ws2 _ _ _ 92 116 _ hI (by omega) hBw).mono ?_
            rintro e w2 ⟨rfl, hI2, hb2⟩
            go_wp2
            go_roundw
            case rel => exact ⟨k + 1, by omega, by go_num, by rw [HE.out, Hh.out]; exact hI2, hb.trans hb2⟩
            case measure => simp [intOf]; omega
          · have d3 : ((u.toNat : Int) == 9) = false := beq_eq_false_iff_ne.2 (by omega)
            by_cases h4 : u.toNat < 32 ∨ 126 < u.toNat
            · have Hh := Lib.hid (esc_x h2 h3 h4)
              by_cases h5 : u.toNat < 32
              · have d4 : decide ((u.toNat : Int) < 32) = true := decide_eq_true (by omega)
                clear h1 h2 h3 h4
                go_wp2_with fail
                with_reducible refine (ws2 _ _ _ 92 120 _ hI (by omega) hBw).mono ?_
                rintro e w2 ⟨rfl, hI2, hb2⟩
                have cl2 : (34 :: (s.data.toList.take k).flatMap esc ++ [92, 120]).length ≤ 4 * k + 3 := by simp only [List.length_append, List.length_cons, List.length_nil] at cl ⊢; omega
                go_wp2_with fail
                with_reducible refine (wb _ _ _ _ (hexDigits.getD (u.toNat / 16) 0) _ (hexAt _ _) hI2 (by omega) (by have := hb2.size; omega)).mono ?_
                rintro e w3 ⟨rfl, hI3, hb3⟩
                have cl3 : (34 :: (s.data.toList.take k).flatMap esc ++ [92, 120] ++ [hexDigits.getD (u.toNat / 16) 0]).length ≤ 4 * k + 4 := by rw [List.length_append]; simp only [List.length_cons, List.length_nil]; omega
                go_wp2_with fail
                with_reducible refine (wb _ _ _ _ (hexDigits.getD (u.toNat % 16) 0) _ (hexAt _ _) hI3 (by omega) (by have := hb2.size; have := hb3.size; omega)).mono ?_
                rintro e w4 ⟨rfl, hI4, hb4⟩
                go_wp2
                go_roundw
                case rel => exact ⟨k + 1, by omega, by go_num, by rw [HE.out, Hh.out]; rw [List.append_assoc, List.append_assoc] at hI4; exact hI4, ((hb.trans hb2).trans hb3).trans hb4⟩
                case measure => simp [intOf]; omega
              · have d4 : decide ((u.toNat : Int) < 32) = false := decide_eq_false (by omega)
                have d5 : decide (126 < (u.toNat : Int)) = true := decide_eq_true (by omega)
                clear h1 h2 h3 h4
                go_wp2_with fail
                with_reducible refine (ws2 _ _ _ 92 120 _ hI (by omega) hBw).mono ?_
                rintro e w2 ⟨rfl, hI2, hb2⟩
                have cl2 : (34 :: (s.data.toList.take k).flatMap esc ++ [92, 120]).length ≤ 4 * k + 3 := by simp only [List.length_append, List.length_cons, List.length_nil] at cl ⊢; omega
                go_wp2_with fail
                with_reducible refine (wb _ _ _ _ (hexDigits.getD (u.toNat / 16) 0) _ (hexAt _ _) hI2 (by omega) (by have := hb2.size; omega)).mono ?_
                rintro e w3 ⟨rfl, hI3, hb3⟩
                have cl3 : (34 :: (s.data.toList.take k).flatMap esc ++ [92, 120] ++ [hexDigits.getD (u.toNat / 16) 0]).length ≤ 4 * k + 4 := by rw [List.length_append]; simp only [List.length_cons, List.length_nil]; omega
                go_wp2_with fail
                with_reducible refine (wb _ _ _ _ (hexDigits.getD (u.toNat % 16) 0) _ (hexAt _ _) hI3 (by omega) (by have := hb2.size; have := hb3.size; omega)).mono ?_
                rintro e w4 ⟨rfl, hI4, hb4⟩
                go_wp2
                go_roundw
                case rel => exact ⟨k + 1, by omega, by go_num, by rw [HE.out, Hh.out]; rw [List.append_assoc, List.append_assoc] at hI4; exact hI4, ((hb.trans hb2).trans hb3).trans hb4⟩
                case measure => simp [intOf]; omega
            · have d4 : decide ((u.toNat : Int) < 32) = false := decide_eq_false (by omega)
              have d5 : decide (126 < (u.toNat : Int)) = false := decide_eq_false (by omega)
              have Hh := Lib.hid (esc_o (u := u) (by omega) (by omega) (by omega))
              clear h1 h2 h3 h4
              go_wp2_with fail
              refine (wb _ _ _ _ u _ rfl hI (by omega) hBw).mono ?_
              rintro e w2 ⟨rfl, hI2, hb2⟩
              go_wp2
              go_roundw
              case rel => exact ⟨k + 1, by omega, by go_num, by rw [HE.out, Hh.out]; exact hI2, hb.trans hb2⟩
              case measure => simp [intOf]; omega
    · obtain rfl : k = s.size := by omega
      rw [List.take_of_length_le (by simp)] at hI hlen
      have hl2 : s.data.toList.length = s.size := by simp
      go_wp2_with fail
      refine (wb _ _ _ _ 34 _ rfl hI (by simp only [List.length_cons]; omega) hBw).mono ?_
      rintro e w2 ⟨rfl, hI2, hb2⟩
      go_wp2_with fail
      refine (Tryd.Builder_String_any_f _ _ _ _ hI2 (by have := hb2.size; omega)).mono ?_
      rintro e w3 ⟨rfl, _, hb3⟩
      go_wp2
      go_ret
      exact ⟨rfl, (hb.trans hb2).trans hb3⟩
end Go.Proofs.YtjjinpohebcicaaDoor
namespace Go.Proofs.YtjjinpohebcicaaDoor
open Go.RowKit Ln Go.Proofs.YtjjinpohebcicaaDoorW.PrintWords

theorem hexM_u (u : UInt8) : hexM (u.toNat : Int) = ((hexU u).toNat : Int) := by
  have H : ∀ n : Fin 256, hexM (((UInt8.ofNat n.val).toNat : Nat) : Int) = ((hexU (UInt8.ofNat n.val)).toNat : Int) := by decide +kernel
  have := H ⟨u.toNat, u.toNat_lt⟩
  simpa using this
theorem hexU_le (u : UInt8) : (hexU u).toNat ≤ 16 := by
  have H : ∀ n : Fin 256, (hexU (UInt8.ofNat n.val)).toNat ≤ 16 := by decide +kernel
  have := H ⟨u.toNat, u.toNat_lt⟩
  simpa using this

theorem byte_val {p q : UInt8} {x y : Nat} (hx : (hexU p).toNat = x) (hy : (hexU q).toNat = y) (h1 : x ≤ 15) (h2 : y ≤ 15) : IntKind.u8.wrap (IntKind.i64.wrap (IntKind.i64.wrap (16 * (x : Int)) + (y : Int))) = ((16 * hexU p + hexU q).toNat : Int) := by
  rw [IntWalk.i64_in (16 * (x : Int)) (by omega), IntWalk.i64_in _ (by omega)]
  rw [UInt8.toNat_add, UInt8.toNat_mul, hx, hy]
  show (16 * (x : Int) + (y : Int)) % 256 = _
  simp
theorem bstr (B b : Nat) (l : List UInt8) (w : World) (h : Bd B b l w) (hBw : B ≤ w.heap.size) :
    Calls Tryd.prog 31 #[.pointer (some ⟨b, 0, none⟩)] w fun e w' => e = .returned (.string ⟨l.toArray⟩) ∧ Below B w w' :=
  (Tryd.Builder_String_any_f B b l w h hBw).mono fun _ _ h => ⟨h.1, h.2.2⟩
theorem hexu (u : UInt8) (x : Nat) (w : World) (hx : (hexU u).toNat = x) : Calls Tryd.prog 30 #[.int .u8 (u.toNat : Int)] w fun e w' => e = .returned (.int .i64 (x : Int)) ∧ w = w' :=
  (hex_w u.toNat w).mono fun _ _ h => ⟨by rw [h.1, hexM_u, hx], h.2.symm⟩
theorem i34 : (34 : Int) = ((34 : UInt8).toNat : Int) := rfl
theorem i92 : (92 : Int) = ((92 : UInt8).toNat : Int) := rfl
theorem i10 : (10 : Int) = ((10 : UInt8).toNat : Int) := rfl
theorem i9 : (9 : Int) = ((9 : UInt8).toNat : Int) := rfl
theorem unq_bad {c : UInt8} {r : List UInt8} (h : c.toNat < 32 ∨ 126 < c.toNat ∨ c.toNat = 34) : unq (c :: r) = none := by
  have : okByte c = false := by
    unfold okByte
    rw [Bool.eq_false_iff]
    simp only [ne_eq, Bool.and_eq_true, decide_eq_true_eq, UInt8.le_iff_toNat_le, bne_iff_ne, u8_eq, not_and, Classical.not_not]
    intro h2
    have e1 : (32 : UInt8).toNat = 32 := rfl
    have e2 : (126 : UInt8).toNat = 126 := rfl
    have e3 : (34 : UInt8).toNat = 34 := rfl
    omega
  unfold unq
  simp [this]
theorem ok_of {c : UInt8} (h1 : 32 ≤ c.toNat) (h2 : c.toNat ≤ 126) (h3 : c.toNat ≠ 34) : okByte c = true := by
  unfold okByte
  have e1 : (32 : UInt8).toNat = 32 := rfl
  have e2 : (126 : UInt8).toNat = 126 := rfl
  have e3 : (34 : UInt8).toNat = 34 := rfl
  simp only [Bool.and_eq_true, decide_eq_true_eq, UInt8.le_iff_toNat_le, bne_iff_ne, ne_eq, u8_eq]
  omega
theorem unq_plain {c : UInt8} {r : List UInt8} (h1 : 32 ≤ c.toNat) (h2 : c.toNat ≤ 126) (h3 : c.toNat ≠ 34) (h4 : c.toNat ≠ 92) : unq (c :: r) = (unq r).map (c :: ·) := by
  have hc : ¬ c = 92 := fun h => h4 (by rw [h]; rfl)
  rw [unq.eq_def]; simp only [ok_of h1 h2 h3, if_true, if_neg hc]
theorem unq_end : unq [92] = none := by decide +kernel
theorem unq_q {d : UInt8} {r : List UInt8} (h : d.toNat = 34 ∨ d.toNat = 92) : unq (92 :: d :: r) = (unq r).map (d :: ·) := by
  have hd : d = 34 ∨ d = 92 := h.elim (fun h => Or.inl ((u8_eq d 34).2 h)) (fun h => Or.inr ((u8_eq d 92).2 h))
  rw [unq.eq_def]; simp only [show okByte 92 = true by decide, if_true, if_pos hd]
theorem unq_n {r : List UInt8} : unq (92 :: 110 :: r) = (unq r).map (10 :: ·) := by rw [unq.eq_def]; simp [show okByte 92 = true by decide]
theorem unq_t {r : List UInt8} : unq (92 :: 116 :: r) = (unq r).map (9 :: ·) := by rw [unq.eq_def]; simp [show okByte 92 = true by decide]
theorem unq_x {a b : UInt8} {r : List UInt8} : unq (92 :: 120 :: a :: b :: r) = if hexU a = 16 ∨ hexU b = 16 then none else (unq r).map ((16 * hexU a + hexU b) :: ·) := by rw [unq.eq_def]; simp [show okByte 92 = true by decide]
theorem unq_x0 {r : List UInt8} (h : r.length < 2) : unq (92 :: 120 :: r) = none := by
  match r, h with
  | [], _ => decide +kernel
  | [a], _ => rw [unq.eq_def]; simp [show okByte 92 = true by decide]
theorem unq_o {d : UInt8} {r : List UInt8} (h1 : d.toNat ≠ 34) (h2 : d.toNat ≠ 92) (h3 : d.toNat ≠ 110) (h4 : d.toNat ≠ 116) (h5 : d.toNat ≠ 120) : unq (92 :: d :: r) = none := by
  have e1 : ¬ d = 34 := fun h => h1 (by rw [h]; rfl)
  have e2 : ¬ d = 92 := fun h => h2 (by rw [h]; rfl)
  have e3 : ¬ d = 110 := fun h => h3 (by rw [h]; rfl)
  have e4 : ¬ d = 116 := fun h => h4 (by rw [h]; rfl)
  have e5 : ¬ d = 120 := fun h => h5 (by rw [h]; rfl)
  rw [unq.eq_def]; simp [show okByte 92 = true by decide, e1, e2, e3, e4, e5]
theorem unq_step {R : Option (List UInt8)} {l r acc : List UInt8} {x : UInt8} (h : (unq l).map (acc ++ ·) = R) (e : unq l = (unq r).map (x :: ·)) : (unq r).map ((acc ++ [x]) ++ ·) = R := by
  rw [← h, e, Option.map_map]
  congr 1
  funext y
  simp
theorem unq_stop {R : Option (List UInt8)} {l acc : List UInt8} (h : (unq l).map (acc ++ ·) = R) (e : unq l = none) : R = none := by
  rw [← h, e]; rfl
theorem drop_at (m : ByteArray) (i : Nat) (h : i < m.size) : m.data.toList.drop i = m[i] :: m.data.toList.drop (i + 1) := by
  rw [List.drop_eq_getElem_cons (by simpa using h)]
  simp [ByteArray.getElem_eq_getElem_data]
/-- what Text answers of what stands between the quotes -/
def ans (m : List UInt8) : List UInt8 × Bool := match unq m with
  | some t => (t, true)
  | none => ([], false)
theorem txt_short {l : List UInt8} (h : l.length < 2) : txtM l = ([], false) := by unfold txtM; rw [if_pos (Or.inl h)]
theorem txt_head {l : List UInt8} (h : l.head? ≠ some 34) : txtM l = ([], false) := by unfold txtM; rw [if_pos (Or.inr (Or.inl h))]
theorem txt_last {l : List UInt8} (h : l.getLast? ≠ some 34) : txtM l = ([], false) := by unfold txtM; rw [if_pos (Or.inr (Or.inr h))]
theorem txt_mid {l : List UInt8} (h0 : 2 ≤ l.length) (h1 : l.head? = some 34) (h2 : l.getLast? = some 34) : txtM l = ans (mid l) := by
  unfold txtM ans
  rw [if_neg (by rintro (h | h | h); · omega
                 · exact h h1
                 · exact h h2)]
  try rfl
theorem head_of (s : ByteArray) (h : 0 < s.size) : s.data.toList.head? = some (s[0]'h) := by
  rw [List.head?_eq_getElem?, List.getElem?_eq_getElem (by simpa using h)]; simp [ByteArray.getElem_eq_getElem_data]
theorem last_of (s : ByteArray) (h : s.size - 1 < s.size) : s.data.toList.getLast? = some (s[s.size - 1]'h) := by
  rw [List.getLast?_eq_getElem?, List.getElem?_eq_getElem (by simpa using h)]; simp [ByteArray.getElem_eq_getElem_data]
theorem mid_of (s : ByteArray) : (s.extract 1 (s.size - 1)).data.toList = mid s.data.toList := by
  unfold mid
  rw [ByteArray.data_extract, Array.toList_extract, List.extract_eq_take_drop]
  simp only [Array.length_toList]
  rw [show s.data.size - 2 = s.size - 1 - 1 from by have : s.data.size = s.size := rfl; omega]

set_option maxRecDepth 100000 in
set_option maxHeartbeats 2000000 in
theorem text_w (s : ByteArray) (w : World) (hs : s.size ≤ 1000000) : Calls Tryd.prog 12 #[.string s] w fun e w' => e = .returned (.tuple #[.string ⟨(txtM s.data.toList).1.toArray⟩, .bool (txtM s.data.toList).2]) ∧ Below w.heap.size w w' := by
  have hI0 : Bd w.heap.size w.heap.size [] (w.alloc (.cells #[.pointer none, .slice none 0 0] 61)) := Lib.IsBuilderF.of (Lib.fresh_isBuilder 61 5 w)
  have hb0 : Below w.heap.size w (w.alloc (.cells #[.pointer none, .slice none 0 0] 61)) := (Below.refl _ w).alloc (Nat.le_refl _) _
  by_cases h2 : s.size < 2
  · have HT := Lib.hid (txt_short (l := s.data.toList) (by simpa using h2))
    have d0 : decide ((s.size : Int) < 2) = true := decide_eq_true (by omega)
    clear h2
    go_enter Tryd.func12, Tryd.ntmps12
    go_wp2
    go_ret2
    exact ⟨by rw [HT.out]; rfl, Below.refl _ _⟩
  · have d0 : decide ((s.size : Int) < 2) = false := decide_eq_false (by omega)
    have hp0 : 0 < s.size := by omega
    have hp1 : s.size - 1 < s.size := by omega
    obtain ⟨a, ha⟩ : ∃ a, s[0]'hp0 = a := ⟨_, rfl⟩
    obtain ⟨z, hz⟩ : ∃ z, s[s.size - 1]'hp1 = z := ⟨_, rfl⟩
    have hxa : ∀ h : 0 < s.size, ((s[0]'h).toNat : Int) = (a.toNat : Int) := fun h => by rw [ha]
    have hxz : ∀ h : s.size - 1 < s.size, ((s[s.size - 1]'h).toNat : Int) = (z.toNat : Int) := fun h => by rw [hz]
    have hza : s.data.toList.head? = some a := by rw [head_of s hp0, ha]
    have hzz : s.data.toList.getLast? = some z := by rw [last_of s hp1, hz]
    by_cases h3 : a.toNat = 34
    · by_cases h4 : z.toNat = 34
      · have d1 : ((a.toNat : Int) != 34) = false := bne_eq_false_iff_eq.2 (by omega)
        have d2 : ((z.toNat : Int) != 34) = false := bne_eq_false_iff_eq.2 (by omega)
        have HT := Lib.hid (txt_mid (l := s.data.toList) (by simp; omega) (by rw [hza, (u8_eq a 34).2 h3]) (by rw [hzz, (u8_eq z 34).2 h4]))
        have HM := Lib.hid (mid_of s)
        clear h3 h4 ha hz hza hzz
        go_enter Tryd.func12, Tryd.ntmps12
        go_wp2
        have hml : (s.extract 1 (s.size - 1)).size ≤ 1000000 := by rw [ByteArray.size_extract]; omega
        generalize s.extract 1 (s.size - 1) = m at *
        clear hxa hxz d0 d1 d2 hp0 hp1
        go_loopw [5] (fun i wr => ∃ (k : Nat) (acc : List UInt8), k ≤ m.size ∧ i = .int .i64 k ∧ Bd w.heap.size w.heap.size acc wr ∧ Below w.heap.size w wr ∧ acc.length ≤ k ∧ Hid ((unq (m.data.toList.drop k)).map (acc ++ ·) = unq m.data.toList)) (fun i wr => m.size - (intOf i).toNat)
        case atStart => exact ⟨0, [], Nat.zero_le _, rfl, hI0, hb0, by simp, Lib.hid (by simp)⟩
        case round =>
          obtain ⟨k, acc, hk, rfl, hI, hb, hal, HR⟩ := hrel
          have hBw := hb.size
          by_cases hlt : k < m.size
          · obtain ⟨u, hu⟩ : ∃ u, (m[k]'hlt) = u := ⟨_, rfl⟩
            have hx : ∀ h : k < m.size, ((m[k]'h).toNat : Int) = (u.toNat : Int) := fun h => by rw [hu]
            have hu0 : (u.toNat : Int) ≤ 255 := by have := u.toNat_lt; omega
            have HD := drop_at m k hlt
            rw [hu] at HD
            rw [HD] at HR
            clear HD hu
            by_cases hbad : u.toNat < 32 ∨ 126 < u.toNat ∨ u.toNat = 34
            · have HN := Lib.hid (unq_stop HR.out (unq_bad hbad))
              have hans : ans m.data.toList = ([], false) := by unfold ans; rw [HN.out]
              have HA := Lib.hid hans
              clear hans
              by_cases c1 : u.toNat < 32
              · clear hbad
                go_wp2
                go_ret2
                exact ⟨by rw [HT.out, ← HM.out, HA.out]; rfl, hb⟩
              · by_cases c2 : 126 < u.toNat
                · clear hbad
                  go_wp2
                  go_ret2
                  exact ⟨by rw [HT.out, ← HM.out, HA.out]; rfl, hb⟩
                · have d3 : ((u.toNat : Int) == 34) = true := beq_iff_eq.2 (by omega)
                  clear hbad
                  go_wp2
                  go_ret2
                  exact ⟨by rw [HT.out, ← HM.out, HA.out]; rfl, hb⟩
            · have d3 : ((u.toNat : Int) == 34) = false := beq_eq_false_iff_ne.2 (by omega)
              have d4 : 32 ≤ u.toNat := by omega
              have d5 : u.toNat ≤ 126 := by omega
              by_cases h92 : u.toNat = 92
              · have d6 : ((u.toNat : Int) != 92) = false := bne_eq_false_iff_eq.2 (by omega)
                obtain rfl : u = 92 := (u8_eq u 92).2 h92
                clear hbad d3 d4 d5 d6 h92 hu0
                by_cases hl1 : k + 1 < m.size
                · obtain ⟨v, hv⟩ : ∃ v, (m[k + 1]'hl1) = v := ⟨_, rfl⟩
                  have hy : ∀ h : k + 1 < m.size, ((m[k + 1]'h).toNat : Int) = (v.toNat : Int) := fun h => by rw [hv]
                  have hv0 : (v.toNat : Int) ≤ 255 := by have := v.toNat_lt; omega
                  have HD := drop_at m (k + 1) hl1
                  rw [hv] at HD
                  rw [HD] at HR
                  clear HD hv
                  have dl : (((k : Int) + 1) == (m.size : Int)) = false := beq_eq_false_iff_ne.2 (by omega)
                  by_cases v1 : v.toNat = 34
                  · obtain rfl : v = 34 := (u8_eq v 34).2 v1
                    clear v1 hv0
                    have HS := Lib.hid (unq_step HR.out (unq_q (d := 34) (Or.inl rfl)))
                    go_wp2_with fail
                    with_reducible refine (wb _ _ _ _ 34 _ i34 hI (by omega) hBw).mono ?_
                    rintro e w2 ⟨rfl, hI2, hb2⟩
                    go_wp2
                    go_roundw
                    case rel => exact ⟨k + 2, _, by omega, by go_num, hI2, hb.trans hb2, by simp; omega, HS⟩
                    case measure => simp [intOf]; omega
                  · have e1 : ((v.toNat : Int) == 34) = false := beq_eq_false_iff_ne.2 (by omega)
                    by_cases v2 : v.toNat = 92
                    · obtain rfl : v = 92 := (u8_eq v 92).2 v2
                      clear v1 v2 hv0 e1
                      have HS := Lib.hid (unq_step HR.out (unq_q (d := 92) (Or.inr rfl)))
                      go_wp2_with fail
                      with_reducible refine (wb _ _ _ _ 92 _ i92 hI (by omega) hBw).mono ?_
                      rintro e w2 ⟨rfl, hI2, hb2⟩
                      go_wp2
                      go_roundw
                      case rel => exact ⟨k + 2, _, by omega, by go_num, hI2, hb.trans hb2, by simp; omega, HS⟩
                      case measure => simp [intOf]; omega
                    · have e2 : ((v.toNat : Int) == 92) = false := beq_eq_false_iff_ne.2 (by omega)
                      by_cases v3 : v.toNat = 110
                      · obtain rfl : v = 110 := (u8_eq v 110).2 v3
                        clear v1 v2 v3 hv0 e1 e2
                        have HS := Lib.hid (unq_step HR.out unq_n)
                        go_wp2_with fail
                        with_reducible refine (wb _ _ _ _ 10 _ i10 hI (by omega) hBw).mono ?_
                        rintro e w2 ⟨rfl, hI2, hb2⟩
                        go_wp2
                        go_roundw
                        case rel => exact ⟨k + 2, _, by omega, by go_num, hI2, hb.trans hb2, by simp; omega, HS⟩
                        case measure => simp [intOf]; omega
                      · have e3 : ((v.toNat : Int) == 110) = false := beq_eq_false_iff_ne.2 (by omega)
                        by_cases v4 : v.toNat = 116
                        · obtain rfl : v = 116 := (u8_eq v 116).2 v4
                          clear v1 v2 v3 v4 hv0 e1 e2 e3
                          have HS := Lib.hid (unq_step HR.out unq_t)
                          go_wp2_with fail
                          with_reducible refine (wb _ _ _ _ 9 _ i9 hI (by omega) hBw).mono ?_
                          rintro e w2 ⟨rfl, hI2, hb2⟩
                          go_wp2
                          go_roundw
                          case rel => exact ⟨k + 2, _, by omega, by go_num, hI2, hb.trans hb2, by simp; omega, HS⟩
                          case measure => simp [intOf]; omega
                        · have e4 : ((v.toNat : Int) == 116) = false := beq_eq_false_iff_ne.2 (by omega)
                          by_cases v5 : v.toNat = 120
                          · obtain rfl : v = 120 := (u8_eq v 120).2 v5
                            clear v1 v2 v3 v4 v5 hv0 e1 e2 e3 e4
                            by_cases hl3 : k + 3 < m.size
                            · obtain ⟨p, hp⟩ : ∃ p, (m[k + 2]'(by omega)) = p := ⟨_, rfl⟩
                              obtain ⟨q, hq⟩ : ∃ q, (m[k + 3]'(by omega)) = q := ⟨_, rfl⟩
                              have hxp : ∀ h : k + 2 < m.size, ((m[k + 2]'h).toNat : Int) = (p.toNat : Int) := fun h => by rw [hp]
                              have hxq : ∀ h : k + 3 < m.size, ((m[k + 3]'h).toNat : Int) = (q.toNat : Int) := fun h => by rw [hq]
                              rw [drop_at m (k + 1 + 1) (by omega), drop_at m (k + 1 + 1 + 1) (by omega), show (m[k + 1 + 1]'(by omega)) = p from hp, show (m[k + 1 + 1 + 1]'(by omega)) = q from hq] at HR
                              obtain ⟨x, hhx⟩ : ∃ x, (hexU p).toNat = x := ⟨_, rfl⟩
                              obtain ⟨y, hhy⟩ : ∃ y, (hexU q).toNat = y := ⟨_, rfl⟩
                              have hx16 : x ≤ 16 := hhx ▸ hexU_le p
                              have hy16 : y ≤ 16 := hhy ▸ hexU_le q
                              have HX := Lib.hid hhx
                              have HY := Lib.hid hhy
                              clear hp hq hhx hhy
                              by_cases x16 : x = 16
                              · have c1 : ((x : Int) == 16) = true := beq_iff_eq.2 (by omega)
                                have HU := Lib.hid (show unq (92 :: 120 :: p :: q :: m.data.toList.drop (k + 1 + 1 + 1 + 1)) = none from by
                                  rw [unq_x, if_pos (Or.inl ((u8_eq _ 16).2 (by rw [HX.out, x16]; rfl)))])
                                clear x16
                                have HN := Lib.hid (unq_stop HR.out HU.out)
                                have HA := Lib.hid (show ans m.data.toList = ([], false) from by unfold ans; rw [HN.out])
                                go_wp2_with (go_at_call 30; (with_reducible refine (hexu _ _ _ HX.out).mono ?_); rintro e w' ⟨rfl, rfl⟩)
                                go_ret2
                                exact ⟨by rw [HT.out, ← HM.out, HA.out]; rfl, hb⟩
                              · have c1 : ((x : Int) == 16) = false := beq_eq_false_iff_ne.2 (by omega)
                                by_cases y16 : y = 16
                                · have c2 : ((y : Int) == 16) = true := beq_iff_eq.2 (by omega)
                                  have HU := Lib.hid (show unq (92 :: 120 :: p :: q :: m.data.toList.drop (k + 1 + 1 + 1 + 1)) = none from by
                                    rw [unq_x, if_pos (Or.inr ((u8_eq _ 16).2 (by rw [HY.out, y16]; rfl)))])
                                  clear y16
                                  have HN := Lib.hid (unq_stop HR.out HU.out)
                                  have HA := Lib.hid (show ans m.data.toList = ([], false) from by unfold ans; rw [HN.out])
                                  go_wp2_with fail
                                  with_reducible refine (hexu _ _ _ HX.out).mono ?_
                                  rintro e w' ⟨rfl, rfl⟩
                                  go_wp2_with fail
                                  with_reducible refine (hexu _ _ _ HY.out).mono ?_
                                  rintro e w' ⟨rfl, rfl⟩
                                  go_wp2
                                  go_ret2
                                  exact ⟨by rw [HT.out, ← HM.out, HA.out]; rfl, hb⟩
                                · have c2 : ((y : Int) == 16) = false := beq_eq_false_iff_ne.2 (by omega)
                                  have hx15 : x ≤ 15 := by omega
                                  have hy15 : y ≤ 15 := by omega
                                  have HU := Lib.hid (show unq (92 :: 120 :: p :: q :: m.data.toList.drop (k + 1 + 1 + 1 + 1)) = (unq (m.data.toList.drop (k + 1 + 1 + 1 + 1))).map ((16 * hexU p + hexU q) :: ·) from by
                                    rw [unq_x, if_neg (by rintro (h | h)
                                                          · exact x16 (HX.out ▸ (u8_eq _ 16).1 h)
                                                          · exact y16 (HY.out ▸ (u8_eq _ 16).1 h))])
                                  have HS := Lib.hid (unq_step HR.out HU.out)
                                  clear x16 y16 hx16 hy16
                                  go_wp2_with fail
                                  with_reducible refine (hexu _ _ _ HX.out).mono ?_
                                  rintro e w' ⟨rfl, rfl⟩
                                  go_wp2_with fail
                                  with_reducible refine (hexu _ _ _ HY.out).mono ?_
                                  rintro e w' ⟨rfl, rfl⟩
                                  have hval : IntKind.u8.wrap (IntKind.i64.wrap (IntKind.i64.wrap (16 * (x : Int)) + (y : Int))) = ((16 * hexU p + hexU q).toNat : Int) := byte_val HX.out HY.out hx15 hy15
                                  have hId : Bd w.heap.size w.heap.size acc wr.drew := hI
                                  have hBd : w.heap.size ≤ wr.drew.heap.size := hBw
                                  have hbd : Below w.heap.size w wr.drew := hb.drew
                                  have HVAL := Lib.hid hval
                                  clear hval
                                  go_wp2_with fail
                                  have b1 : (k : Int) + 1 + 1 < (m.size : Int) := by omega
                                  have b2 : (k : Int) + 1 + 2 < (m.size : Int) := by omega
                                  have n1 : 0 ≤ (k : Int) + 1 + 1 := by omega
                                  have n2 : 0 ≤ (k : Int) + 1 + 2 := by omega
                                  have t1 : ((k : Int) + 1 + 1).toNat = k + 2 := by omega
                                  have t2 : ((k : Int) + 1 + 2).toNat = k + 3 := by omega
                                  have s1 : IntKind.i64.wrap ((k : Int) + 1 + 1) = (k : Int) + 1 + 1 := IntWalk.i64_in _ (by omega)
                                  have s2 : IntKind.i64.wrap ((k : Int) + 1 + 2) = (k : Int) + 1 + 2 := IntWalk.i64_in _ (by omega)
                                  go_region_with (first | (go_at_call 30; (first | (with_reducible refine (hexu _ _ _ HX.out).mono ?_) | (with_reducible refine (hexu _ _ _ HY.out).mono ?_)); rintro e w' ⟨rfl, rfl⟩) | (go_at_call 29; (with_reducible refine (wb _ _ _ _ (16 * hexU p + hexU q) _ HVAL.out hId (by omega) hBd).mono ?_); rintro e w2 ⟨rfl, hI2, hb2⟩))
                                  all_goals
                                    clear b1 b2 n1 n2 t1 t2 s1 s2
                                    go_wp2
                                    go_roundw
                                    case rel => exact ⟨k + 4, _, by omega, by go_num, hI2, hbd.trans hb2, by simp; omega, HS⟩
                                    case measure => simp [intOf]; omega
                            · have HN := Lib.hid (unq_stop HR.out (unq_x0 (by simp; omega)))
                              have HA := Lib.hid (show ans m.data.toList = ([], false) from by unfold ans; rw [HN.out])
                              go_wp2
                              go_ret2
                              exact ⟨by rw [HT.out, ← HM.out, HA.out]; rfl, hb⟩
                          · have e5 : ((v.toNat : Int) == 120) = false := beq_eq_false_iff_ne.2 (by omega)
                            have HN := Lib.hid (unq_stop HR.out (unq_o v1 v2 v3 v4 v5))
                            have HA := Lib.hid (show ans m.data.toList = ([], false) from by unfold ans; rw [HN.out])
                            go_wp2
                            go_ret2
                            exact ⟨by rw [HT.out, ← HM.out, HA.out]; rfl, hb⟩
                · have dl : (((k : Int) + 1) == (m.size : Int)) = true := beq_iff_eq.2 (by omega)
                  rw [List.drop_of_length_le (by simp; omega)] at HR
                  have hke : k + 1 = m.size := by omega
                  have HN := Lib.hid (unq_stop HR.out unq_end)
                  have HA := Lib.hid (show ans m.data.toList = ([], false) from by unfold ans; rw [HN.out])
                  clear hke
                  go_wp2
                  go_ret2
                  exact ⟨by rw [HT.out, ← HM.out, HA.out]; rfl, hb⟩
              · have d6 : ((u.toNat : Int) != 92) = true := bne_iff_ne.2 (by omega)
                have HS := Lib.hid (unq_step HR.out (unq_plain d4 d5 (by omega) h92))
                clear hbad h92
                go_wp2_with fail
                with_reducible refine (wb _ _ _ _ u _ rfl hI (by omega) hBw).mono ?_
                rintro e w2 ⟨rfl, hI2, hb2⟩
                go_wp2
                go_roundw
                case rel => exact ⟨k + 1, _, by omega, by go_num, hI2, hb.trans hb2, by simp; omega, HS⟩
                case measure => simp [intOf]; omega
          · obtain rfl : k = m.size := by omega
            rw [List.drop_of_length_le (by simp)] at HR
            have hans : ans m.data.toList = (acc, true) := by unfold ans; rw [← HR.out]; simp [unq]
            have HA := Lib.hid hans
            clear hans
            go_wp2_with fail
            with_reducible refine (bstr _ _ _ _ hI hBw).mono ?_
            rintro e w3 ⟨rfl, hb3⟩
            go_wp2
            go_ret2
            exact ⟨by rw [HT.out, ← HM.out, HA.out]; rfl, hb.trans hb3⟩
      · have HT := Lib.hid (txt_last (l := s.data.toList) (by rw [hzz]; intro h; apply h4; rw [Option.some.inj h]; rfl))
        have d1 : ((a.toNat : Int) != 34) = false := bne_eq_false_iff_eq.2 (by omega)
        have d2 : ((z.toNat : Int) != 34) = true := bne_iff_ne.2 (by omega)
        clear h2 h3 h4 ha hz hza hzz
        go_enter Tryd.func12, Tryd.ntmps12
        go_wp2
        go_ret2
        exact ⟨by rw [HT.out]; rfl, Below.refl _ _⟩
    · have HT := Lib.hid (txt_head (l := s.data.toList) (by rw [hza]; intro h; apply h3; rw [Option.some.inj h]; rfl))
      have d1 : ((a.toNat : Int) != 34) = true := bne_iff_ne.2 (by omega)
      clear h2 h3 ha hz hxz hza hzz
      go_enter Tryd.func12, Tryd.ntmps12
      go_wp2
      go_ret2
      exact ⟨by rw [HT.out]; rfl, Below.refl _ _⟩
end Go.Proofs.YtjjinpohebcicaaDoor
namespace Go.Proofs.YtjjinpohebcicaaDoor
namespace Ln

def blk (c : UInt8) : Bool := c == 32 || c == 9

/-- the first place from i on that holds no blank -/
def skipB (s : ByteArray) (i : Nat) : Nat := if h : i < s.size then (if blk (s[i]'h) then skipB s (i + 1) else i) else i
termination_by s.size - i
/-- the first place from i on that holds a blank -/
def endW (s : ByteArray) (i : Nat) : Nat := if h : i < s.size then (if blk (s[i]'h) then i else endW s (i + 1)) else i
termination_by s.size - i
/-- the place of the closing quote, from i on -/
def endQ (s : ByteArray) (i : Nat) : Nat := if h : i < s.size then (if (s[i]'h) = 34 then i else if (s[i]'h) = 92 then endQ s (i + 2) else endQ s (i + 1)) else i
termination_by s.size - i

/-- the next word from p on: where it begins, where it ends, whether it is whole -/
def nextW (s : ByteArray) (p : Nat) : Nat × Nat × Bool :=
  let a := skipB s p
  if h : a < s.size then
    if (s[a]'h) = 34 then
      let q := endQ s (a + 1)
      if h1 : q < s.size then
        if h2 : q + 1 < s.size then (if blk (s[q + 1]'h2) then (a, q + 1, true) else (a, s.size, false)) else (a, q + 1, true)
      else (a, s.size, false)
    else (a, endW s a, true)
  else (a, a, true)

theorem skipB_ge (s : ByteArray) (i : Nat) : i ≤ skipB s i := by
  fun_induction skipB s i <;> omega
theorem skipB_le (s : ByteArray) (i : Nat) (hi : i ≤ s.size) : skipB s i ≤ s.size := by
  fun_induction skipB s i <;> first | omega | (rename_i h _ ih; exact ih (by omega))
theorem endW_ge (s : ByteArray) (i : Nat) : i ≤ endW s i := by
  fun_induction endW s i <;> omega
theorem endW_le (s : ByteArray) (i : Nat) (hi : i ≤ s.size) : endW s i ≤ s.size := by
  fun_induction endW s i <;> first | omega | (rename_i h _ ih; exact ih (by omega))
theorem endQ_ge (s : ByteArray) (i : Nat) : i ≤ endQ s i := by
  fun_induction endQ s i <;> omega
theorem skipB_not (s : ByteArray) (i : Nat) (h : skipB s i < s.size) : blk (s[skipB s i]'h) = false := by
  revert h
  fun_induction skipB s i with
  | case1 i h1 h2 ih => exact ih
  | case2 i h1 h2 => intro h; simpa using h2
  | case3 i h1 => intro h; omega

theorem next_at (s : ByteArray) (p : Nat) : (nextW s p).1 = skipB s p := by
  unfold nextW; simp only; repeat' split
  all_goals rfl
theorem next_end (s : ByteArray) (p : Nat) (h : skipB s p < s.size) : skipB s p < (nextW s p).2.1 ∧ (nextW s p).2.1 ≤ s.size := by
  unfold nextW; simp only [dif_pos h]
  have h0 := endQ_ge s (skipB s p + 1)
  split
  · split
    · rename_i h1
      split
      · split
        · exact ⟨by show _ < _ + 1; omega, by show _ + 1 ≤ _; omega⟩
        · exact ⟨h, Nat.le_refl _⟩
      · exact ⟨by show _ < _ + 1; omega, by show _ + 1 ≤ _; omega⟩
    · exact ⟨h, Nat.le_refl _⟩
  · refine ⟨?_, endW_le _ _ (by omega)⟩
    show _ < endW s (skipB s p)
    rw [endW, dif_pos h, if_neg (by rw [skipB_not s p h]; simp)]
    have := endW_ge s (skipB s p + 1)
    omega

/-- the words from p on, up to the first one that is broken -/
def wordsF (s : ByteArray) (p : Nat) : List (Nat × Nat × Bool) :=
  if h : skipB s p < s.size then
    if (nextW s p).2.2 then nextW s p :: wordsF s (nextW s p).2.1 else [nextW s p]
  else []
termination_by s.size - p
decreasing_by
  have h1 := next_end s p h
  have h2 := skipB_ge s p
  omega

abbrev sub (s : ByteArray) (a e : Nat) : ByteArray := s.extract a e

/-- the commands: the word, the kinds of its other words, whether more numbers may follow -/
def kindOf (t : List UInt8) : Nat :=
  if t = [115, 111, 117, 114, 99, 101] then 1
  else if t = [98, 117, 105, 108, 100] then 2
  else if t = [115, 116, 97, 114, 116] then 3
  else if t = [115, 116, 101, 112] then 4
  else if t = [115, 104, 111, 119] then 5
  else if t = [100, 114, 111, 112] then 6
  else 0
def formOf : Nat → List UInt8
  | 1 => [110, 116]
  | 2 => [110, 110, 105]
  | 3 => [110, 110, 110, 105]
  | 4 => [110, 105]
  | 5 => [110]
  | 6 => [110]
  | _ => []

/-- kind, words, error, place -/
abbrev Ans := Nat × List ByteArray × Int × Nat
def bad (at_ : Nat) : Ans := (0, [], 410, at_)

def cmdGo (s : ByteArray) (kind : Nat) : List (Nat × Nat × Bool) → List ByteArray → Ans
  | [], acc => if acc.length < (formOf kind).length then bad s.size else (kind, acc, 0, 0)
  | (a, e, ok) :: r, acc =>
    if acc.length < (formOf kind).length ∨ kind = 3 then
      if ok = true ∧ fitM (sub s a e).data.toList (((formOf kind).getD acc.length 105).toNat : Int) = true then cmdGo s kind r (acc ++ [sub s a e]) else bad a
    else bad a

def cmdM (s : ByteArray) : Ans :=
  match wordsF s 0 with
  | [] => bad 0
  | (a, e, ok) :: r =>
    if ok = true ∧ kindOf (sub s a e).data.toList ≠ 0 then cmdGo s (kindOf (sub s a e).data.toList) r [] else bad a

end Ln
end Go.Proofs.YtjjinpohebcicaaDoor
namespace Go.Proofs.YtjjinpohebcicaaDoor
open Go.RowKit Ln Go.Proofs.YtjjinpohebcicaaDoorW.PrintWords Pnext

theorem bt_nat (s : ByteArray) (i : Nat) (h : i < s.size) : bt s (i : Int) = ((s[i]'h).toNat : Int) := by
  unfold bt; simp [h]
theorem blank_f (c : UInt8) : lines_blank.f (c.toNat : Int) = some (blk c) := by
  unfold lines_blank.f blk
  by_cases h : c = 32
  · subst h; rfl
  · have h1 : ¬ ((c.toNat : Int) = 32) := fun h' => h (UInt8.toNat_inj.1 (by have : (32 : UInt8).toNat = 32 := rfl; omega))
    rw [if_neg h1]
    have h2 : (c == 32) = false := by simpa using h
    rw [h2, Bool.false_or]
    congr 1
    by_cases h9 : c = 9
    · subst h9; rfl
    · have : ¬ ((c.toNat : Int) = 9) := fun h' => h9 (UInt8.toNat_inj.1 (by have : (9 : UInt8).toNat = 9 := rfl; omega))
      rw [beq_eq_false_iff_ne.2 this, beq_eq_false_iff_ne.2 h9]
theorem w1 (i : Nat) (h : i ≤ 4611686018427387904) : wrap64 ((i : Int) + 1) = ((i + 1 : Nat) : Int) := by unfold wrap64; omega

theorem l1_eq (s : ByteArray) (hs : s.size ≤ 4611686018427387904) (a : Nat) (d : Nat) : ∀ (k e : Nat), e ≤ s.size → s.size - e = d → d < k → lines_next.l1 k s a e = some ((a : Int), (endW s e : Int), true) := by
  induction d with
  | zero =>
    intro k e he hd hk
    obtain ⟨k, rfl⟩ : ∃ m, k = m + 1 := ⟨k - 1, by omega⟩
    simp only [lines_next.l1]
    rw [if_neg (by omega), endW, dif_neg (by omega)]
  | succ d ih =>
    intro k e he hd hk
    obtain ⟨k, rfl⟩ : ∃ m, k = m + 1 := ⟨k - 1, by omega⟩
    have hlt : e < s.size := by omega
    simp only [lines_next.l1]
    rw [if_pos (by omega), if_pos (by omega), bt_nat s e hlt, blank_f, endW, dif_pos hlt]
    simp only [Option.bind_some]
    by_cases hb : blk s[e] = true
    · rw [if_pos hb, if_pos hb]
    · rw [if_neg hb, if_neg hb, w1 e (by omega)]
      exact ih k (e + 1) (by omega) (by omega) (by omega)

def qres (s : ByteArray) (a q : Nat) : Int × Int × Bool :=
  if q < s.size then (if h : q + 1 < s.size then (if blk (s[q + 1]'h) then ((a : Int), ((q + 1 : Nat) : Int), true) else ((a : Int), (s.size : Int), false)) else ((a : Int), ((q + 1 : Nat) : Int), true)) else ((a : Int), (s.size : Int), false)

theorem j5_out (s : ByteArray) (hs : s.size ≤ 4611686018427387904) (a : Nat) (k e : Nat) (he : e ≤ s.size + 1) (hk : 0 < k) : lines_next.j5 k s a e false = some (qres s a e) := by
  obtain ⟨k, rfl⟩ : ∃ m, k = m + 1 := ⟨k - 1, by omega⟩
  simp only [lines_next.j5]
  rw [if_neg (by decide)]
  unfold qres
  by_cases h : e < s.size
  · rw [if_neg (by omega), if_pos h, w1 e (by omega)]
    by_cases h1 : e + 1 < s.size
    · rw [if_pos (by omega), if_pos (by omega), dif_pos h1, bt_nat s (e + 1) h1, blank_f]
      simp only [Option.bind_some]
      by_cases hb : blk s[e + 1] = true
      · rw [if_pos hb, if_pos hb]
      · rw [if_neg hb, if_neg hb]
    · rw [if_neg (by omega), dif_neg h1]
  · rw [if_pos (by omega), if_neg h]

theorem l2_eq (s : ByteArray) (hs : s.size ≤ 4611686018427387904) (a : Nat) (d : Nat) : ∀ (k e : Nat), e ≤ s.size + 1 → s.size - e ≤ d → 2 * d + 2 ≤ k → lines_next.l2 k s a e = some (qres s a (endQ s e)) := by
  induction d with
  | zero =>
    intro k e he hd hk
    obtain ⟨k, rfl⟩ : ∃ m, k = m + 1 := ⟨k - 1, by omega⟩
    simp only [lines_next.l2]
    rw [if_neg (by omega), j5_out s hs a k e he (by omega), endQ, dif_neg (by omega)]
  | succ d ih =>
    intro k e he hd hk
    obtain ⟨k, rfl⟩ : ∃ m, k = m + 1 := ⟨k - 1, by omega⟩
    by_cases hlt : e < s.size
    · simp only [lines_next.l2]
      rw [if_pos (by omega), if_pos (by omega), bt_nat s e hlt, endQ, dif_pos hlt]
      by_cases h34 : s[e] = 34
      · rw [if_pos h34, h34]
        rw [show (((34 : UInt8).toNat : Int) != 34) = false from rfl]
        exact j5_out s hs a k e he (by omega)
      · have h34' : ¬ ((s[e].toNat : Int) = 34) := fun h' => h34 (UInt8.toNat_inj.1 (by have : (34 : UInt8).toNat = 34 := rfl; omega))
        rw [if_neg h34, bne_iff_ne.2 h34']
        obtain ⟨k, rfl⟩ : ∃ m, k = m + 1 := ⟨k - 1, by omega⟩
        simp only [lines_next.j5]
        rw [if_pos trivial, if_pos (by omega), if_pos (by omega), bt_nat s e hlt]
        by_cases h92 : s[e] = 92
        · rw [if_pos h92, h92, if_pos (show ((92 : UInt8).toNat : Int) = 92 from rfl), w1 e (by omega), w1 (e + 1) (by omega)]
          exact ih k (e + 2) (by omega) (by omega) (by omega)
        · have h92' : ¬ ((s[e].toNat : Int) = 92) := fun h' => h92 (UInt8.toNat_inj.1 (by have : (92 : UInt8).toNat = 92 := rfl; omega))
          rw [if_neg h92, if_neg h92', w1 e (by omega)]
          exact ih k (e + 1) (by omega) (by omega) (by omega)
    · simp only [lines_next.l2]
      rw [if_neg (by omega), j5_out s hs a k e he (by omega), endQ, dif_neg (by omega)]

def tri (x : Nat × Nat × Bool) : Int × Int × Bool := ((x.1 : Int), (x.2.1 : Int), x.2.2)

theorem j1_eq (s : ByteArray) (hs : s.size ≤ 4611686018427387904) (k p a : Nat) (ha : a ≤ s.size) (hp : skipB s p = a) (hk : 2 * s.size + 6 ≤ k) : lines_next.j1 k s a = some (tri (nextW s p)) := by
  obtain ⟨k, rfl⟩ : ∃ m, k = m + 2 := ⟨k - 2, by omega⟩
  simp only [lines_next.j1]
  unfold nextW
  subst hp
  by_cases hlt : skipB s p < s.size
  · rw [if_neg (by omega), if_pos (by omega), if_pos (by omega), bt_nat s _ hlt]
    simp only [dif_pos hlt]
    by_cases h34 : s[skipB s p] = 34
    · rw [if_pos h34, h34, show (((34 : UInt8).toNat : Int) != 34) = false from rfl]
      simp only [lines_next.j2]
      rw [if_neg (by decide), w1 _ (by omega), l2_eq s hs _ s.size k _ (by omega) (by omega) (by omega)]
      unfold qres tri
      congr 1
      repeat' split
      all_goals rfl
    · have h34' : ¬ ((s[skipB s p].toNat : Int) = 34) := fun h' => h34 (UInt8.toNat_inj.1 (by have : (34 : UInt8).toNat = 34 := rfl; omega))
      rw [if_neg h34, bne_iff_ne.2 h34']
      simp only [lines_next.j2]
      rw [if_pos trivial, l1_eq s hs _ (s.size - skipB s p) k _ (by omega) rfl (by omega)]
      rfl
  · have he : skipB s p = s.size := by omega
    rw [if_pos (by omega)]
    simp only [lines_next.j2]
    rw [if_pos trivial, l1_eq s hs _ 0 k _ (by omega) (by omega) (by omega)]
    simp only [dif_neg hlt]
    rw [endW, dif_neg hlt]
    rfl

theorem l0_eq (s : ByteArray) (hs : s.size ≤ 4611686018427387904) (p : Nat) (d : Nat) : ∀ (k a : Nat), a ≤ s.size → s.size - a = d → skipB s a = skipB s p → d + 2 * s.size + 7 ≤ k → lines_next.l0 k s a = some (tri (nextW s p)) := by
  induction d with
  | zero =>
    intro k a ha hd hp hk
    obtain ⟨k, rfl⟩ : ∃ m, k = m + 1 := ⟨k - 1, by omega⟩
    simp only [lines_next.l0]
    rw [if_neg (by omega)]
    exact j1_eq s hs k p a ha (by rw [← hp, skipB, dif_neg (by omega)]) (by omega)
  | succ d ih =>
    intro k a ha hd hp hk
    obtain ⟨k, rfl⟩ : ∃ m, k = m + 1 := ⟨k - 1, by omega⟩
    have hlt : a < s.size := by omega
    simp only [lines_next.l0]
    rw [if_pos (by omega), if_pos (by omega), bt_nat s a hlt, blank_f]
    simp only [Option.bind_some]
    rw [skipB, dif_pos hlt] at hp
    by_cases hb : blk s[a] = true
    · rw [if_pos hb, w1 a (by omega)]
      rw [if_pos hb] at hp
      exact ih k (a + 1) (by omega) (by omega) hp (by omega)
    · rw [if_neg hb]
      rw [if_neg hb] at hp
      exact j1_eq s hs k p a ha hp.symm (by omega)

theorem next_w (s : ByteArray) (hs : s.size ≤ 4611686018427387904) (p : Nat) (hp : p ≤ s.size) (w : World) :
    Calls Tryd.prog 23 #[.string s, .int .i64 p] w fun e w' => e = .returned (.tuple #[.int .i64 (nextW s p).1, .int .i64 (nextW s p).2.1, .bool (nextW s p).2.2]) ∧ Drawn0 w w' :=
  lines_next.calls (s.size + 2 * s.size + 7) s p _ _ _ w (l0_eq s hs p (s.size - p) _ p hp rfl rfl (by omega))
end Go.Proofs.YtjjinpohebcicaaDoor
namespace Go.Proofs.YtjjinpohebcicaaDoor
open Go.RowKit Ln Go.Proofs.YtjjinpohebcicaaDoorW.PrintWords

set_option maxHeartbeats 400000 in
theorem fits_w (s : ByteArray) (k : Int) (w : World) (hs : s.size ≤ 1000000) (hg : Gl w) :
    Calls Tryd.prog 24 #[.string s, .int .u8 k] w fun e w' => e = .returned (.bool (fitM s.data.toList k)) ∧ Below w.heap.size w w' := by
  have hm : s.size ≤ maxLen := by unfold maxLen; omega
  have hm2 : s.size ≤ 140737488351232 := by omega
  by_cases h1 : k = 110
  · subst h1
    have HF := Lib.hid (show fitM s.data.toList 110 = nameM s.data.toList from rfl)
    go_enter Tryd.func24, Tryd.ntmps24
    go_wp2_with (go_at_call 37; (with_reducible refine (name_w s _ hm).mono ?_); rintro e w' ⟨rfl, hb⟩)
    go_ret
    exact ⟨by rw [HF.out]; rfl, hb⟩
  · by_cases h2 : k = 116
    · subst h2
      have HF := Lib.hid (show fitM s.data.toList 116 = (txtM s.data.toList).2 from rfl)
      clear h1
      go_enter Tryd.func24, Tryd.ntmps24
      go_wp2_with (go_at_call 12; (with_reducible refine (text_w s _ hs).mono ?_); rintro e w' ⟨rfl, hb⟩)
      go_ret
      exact ⟨by rw [HF.out]; rfl, hb⟩
    · have HF := Lib.hid (show fitM s.data.toList k = (numM s.data.toList).2 from by unfold fitM; rw [if_neg h1, if_neg h2])
      have d1 : (k == 110) = false := beq_eq_false_iff_ne.2 h1
      have d2 : (k == 116) = false := beq_eq_false_iff_ne.2 h2
      have HG := Lib.hid hg
      clear h1 h2 hg
      go_enter Tryd.func24, Tryd.ntmps24
      go_wp2_with (go_at_call 14; (with_reducible refine (number_w s _ hm2 HG.out).mono ?_); rintro e w' ⟨rfl, hb⟩)
      go_ret
      exact ⟨by rw [HF.out]; rfl, hb⟩

set_option maxHeartbeats 400000 in
theorem wrong_w (n : Int) (w : World) :
    Calls Tryd.prog 22 #[.int .i64 n] w fun e w' => e = .returned (.tuple #[.int .u8 0, .slice none 0 0, .agg #[.int .i64 410, .int .i64 n]]) ∧ Below w.heap.size w w' := by
  go_enter Tryd.func22, Tryd.ntmps22
  go_wp2
  exact bodyPost_ret (v := .tuple #[.int .u8 0, .slice none 0 0, .agg #[.int .i64 410, .int .i64 n]]) (by simp [results, Tryd.results22, go_sem]) rfl ⟨rfl, by first | (repeat (first | exact Below.refl _ _ | apply below_alloc | apply pw_below_drewN | apply below_drew1)) | trace_state⟩
end Go.Proofs.YtjjinpohebcicaaDoor
