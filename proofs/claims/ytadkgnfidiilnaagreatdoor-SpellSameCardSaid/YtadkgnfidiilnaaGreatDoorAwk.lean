/-
  awake of ch 04: what it says, reckoned.
-/
import Derived.Test.YtadkgnfidiilnaaGreatDoorBld
namespace Go.Proofs.YtadkgnfidiilnaaGreatDoor
open Go.RowKit Ce

noncomputable def ceE : Env := ⟨Tryz.prog, tabF Tryz.prog, fun g => Nat.blt g 3, fun _ => none, fun f => cond (Nat.beq f 64) (some (bldCheck 67 5)) (cond (Nat.beq f 27) (some bldString) none)⟩

def strL (l : List UInt8) : Value := .string ⟨l.toArray⟩

def typesL : List Value := [strL [], strL [98, 111, 111, 108], strL [117, 56], strL [105, 51, 50], strL [105, 54, 52], strL [102, 54, 52]]
def rowsL : List Value := [strL [124, 124], .int .i64 1, .int .u8 9, .int .u8 0, strL [38, 38], .int .i64 2, .int .u8 8, .int .u8 0, strL [61, 61], .int .i64 3, .int .u8 7, .int .u8 11, strL [33, 61], .int .i64 3, .int .u8 7, .int .u8 12, strL [60], .int .i64 3, .int .u8 7, .int .u8 13, strL [60, 61], .int .i64 3, .int .u8 7, .int .u8 14, strL [62], .int .i64 3, .int .u8 7, .int .u8 15, strL [62, 61], .int .i64 3, .int .u8 7, .int .u8 16, strL [43], .int .i64 4, .int .u8 7, .int .u8 1, strL [45], .int .i64 4, .int .u8 7, .int .u8 2, strL [124], .int .i64 4, .int .u8 7, .int .u8 7, strL [94], .int .i64 4, .int .u8 7, .int .u8 8, strL [42], .int .i64 5, .int .u8 7, .int .u8 3, strL [47], .int .i64 5, .int .u8 7, .int .u8 4, strL [37], .int .i64 5, .int .u8 7, .int .u8 5, strL [38], .int .i64 5, .int .u8 7, .int .u8 6, strL [60, 60], .int .i64 5, .int .u8 7, .int .u8 9, strL [62, 62], .int .i64 5, .int .u8 7, .int .u8 10]
def signsL : List Value := [strL [], strL [43], strL [45], strL [42], strL [47], strL [37], strL [38], strL [124], strL [94], strL [60, 60], strL [62, 62], strL [61, 61], strL [33, 61], strL [60], strL [60, 61], strL [62], strL [62, 61], strL [45], strL [33]]

noncomputable def ceH (t0 t1 t2 : TypeId) : Hp := Tr.node (Tr.node Tr.nil (gRow rowsL t1) Tr.nil) (gRow typesL t0) (Tr.node Tr.nil (gRow signsL t2) Tr.nil)

set_option maxRecDepth 1000000 in
theorem awake_ok (t0 t1 t2 : TypeId) : isTrue (fZ ceE 12 60 6 [] (ceH t0 t1 t2) 3 Rz.out) = true := by kernel_rfl

end Go.Proofs.YtadkgnfidiilnaaGreatDoor
