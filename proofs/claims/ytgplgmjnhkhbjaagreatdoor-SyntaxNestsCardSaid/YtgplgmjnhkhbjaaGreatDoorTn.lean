/-
  The law's sources on the models.
-/
import Derived.Test.YtgplgmjnhkhbjaaGreatDoorTm
set_option linter.unusedVariables false
namespace Go.Proofs.YtgplgmjnhkhbjaaGreatDoor
open Syn

def paramP (l : List (List UInt8 × Nat × Nat)) : Bool := match l with | [] => true | [(nm, _, t)] => sameL nm [97] && Nat.beq t 4 | _ => false
def rightP (ns : List Nd) (fs : List Syn.Fn) : Bool :=
  match fs with
  | [f] => sameL f.name [102] && Nat.ble 1 f.result && Nat.ble f.result 5 && paramP f.params && Nat.ble ns.length cap &&
    (match deepP ns (f.body + 1) f.body 0, ns[f.body]? with
     | some (d, nx), some n => Nat.ble d 32 && Nat.beq n.kind 21 && Nat.beq nx ns.length
     | _, _ => false)
  | _ => false
def ansP (r : Option (Except Fault (List Nd × List Syn.Fn))) : Bool := match r with | some (.ok (ns, fs)) => rightP ns fs | _ => false
/-- what the law asks of one source, and of the other -/
def lawA (what n : Nat) : Bool := bif Nat.ble (n + 1) 32 then ansP (parse fuel (srcA what n)) else faultAns (parse fuel (srcA what n)) 132 (22 + 31 * (sideA what).length + (sideA what).length - 1)
def lawB (n : Nat) : Bool := bif Nat.ble (n + 1) 32 then ansP (parse fuel (srcB n)) else faultAns (parse fuel (srcB n)) 132 301

set_option maxRecDepth 100000
theorem tB : allUnder 40 lawB = true := by decide +kernel
theorem tA0 : allUnder 40 (lawA 0) = true := by decide +kernel
theorem tA1 : allUnder 40 (lawA 1) = true := by decide +kernel
theorem tA2 : allUnder 40 (lawA 2) = true := by decide +kernel
theorem tA3 : allUnder 40 (lawA 3) = true := by decide +kernel
theorem tA4 : allUnder 40 (lawA 4) = true := by decide +kernel
theorem allUnder_at {p : Nat → Bool} : ∀ {n : Nat}, allUnder n p = true → ∀ k, k < n → p k = true := by
  intro n
  induction n with
  | zero => intro _ k hk; omega
  | succ n ih =>
    intro h k hk
    have h : (allUnder n p && p n) = true := h
    rw [Bool.and_eq_true] at h
    rcases Nat.lt_or_ge k n with hk' | hk'
    · exact ih h.1 k hk'
    · obtain rfl : k = n := by omega
      exact h.2
end Go.Proofs.YtgplgmjnhkhbjaaGreatDoor
