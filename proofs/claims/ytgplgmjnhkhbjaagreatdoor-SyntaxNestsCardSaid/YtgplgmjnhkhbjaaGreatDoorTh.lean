/-
  The parser's walks, 19: Parse's closure.
-/
import Derived.Test.YtgplgmjnhkhbjaaGreatDoorTg
import Derived.Defers
import Derived.Recover
set_option linter.unusedVariables false
set_option linter.unusedSimpArgs false
namespace Go.Proofs.YtgplgmjnhkhbjaaGreatDoor
attribute [local go_sem] tok_0 tok_1 tok_2
open Go.RowKit Go.Proofs.YtgplgmjnhkhbjaaGreatDoorW.PrintWords PSameTree PflatTokens Syn

set_option maxRecDepth 100000 in
set_option maxHeartbeats 4000000 in
theorem catch_idle (a b : Nat) (w : World) :
    CallsD Tryz.prog 21 #[.pointer (some ⟨a, 0, none⟩), .pointer (some ⟨b, 0, none⟩)] .returning w fun e u' w' => e = .returned (.tuple #[]) ∧ u' = .returning ∧ w' = w := by
  refine callsD_of_wpS Tryz.func21 rfl fun c₀ cs hu => ?_
  simp only [Tryz.ntmps21, List.size_toArray, List.length_cons, List.length_nil, Nat.reduceAdd, Nat.reduceSub, Array.replicate_succ, Array.replicate_zero, List.push_toArray, List.append_toArray, List.nil_append, List.cons_append]
  apply wpS_seq
  apply wpS_region
  simp [wpOpsS, go_sem, recoverD, hu, Exit.thenS]
  refine wpS_of_wp ?_
  go_wp2
  cases c₀
  simp_all [bodyPostS, results, Tryz.results21]

set_option maxRecDepth 100000 in
set_option maxHeartbeats 4000000 in
theorem catch_panic (a b : Nat) (f : Fault) (w : World) (hab : a ≠ b) (ca : ∃ u v, w.heap[a]? = some (.cells #[u, v] 32 (0, 0))) (cb : ∃ u v, w.heap[b]? = some (.cells #[u, v] 26 (0, 0))) :
    CallsD Tryz.prog 21 #[.pointer (some ⟨a, 0, none⟩), .pointer (some ⟨b, 0, none⟩)] (.panicking [{ v := .iface 68 (faultV f), recovered := false }]) w fun e u' w' => e = .returned (.tuple #[]) ∧ u' = .panicking [{ v := .iface 68 (faultV f), recovered := true }] ∧
      w'.heap[a]? = some (.cells #[.slice none 0 0, .slice none 0 0] 32 (0, 0)) ∧ w'.heap[b]? = some (.cells #[.int .i64 (f.1 : Int), .int .i64 (f.2 : Int)] 26 (0, 0)) ∧ ∀ base w00, base ≤ a → base ≤ b → Below base w00 w → Below base w00 w' := by
  obtain ⟨u, v, ha⟩ := ca
  obtain ⟨u', v', hb⟩ := cb
  have a0 := (blk_cell ha 0).trans rfl
  have a1 := (blk_cell ha 1).trans rfl
  have b0 := (blk_cell hb 0).trans rfl
  have b1 := (blk_cell hb 1).trans rfl
  have fa0 := blk_frozen ha 0
  have fa1 := blk_frozen ha 1
  have fb0 := blk_frozen hb 0
  have fb1 := blk_frozen hb 1
  have la := blk_lt ha
  have lb := blk_lt hb
  have hta : ∀ w, (Instr.typeAssert (.iface 68 (faultV f)) 20 68 true).run Tryz.prog w = .ok (.tuple #[faultV f, .bool true]) w := fun w => by kernel_rfl
  refine callsD_of_wpS Tryz.func21 rfl fun c₀ cs hu => ?_
  simp only [Tryz.ntmps21, List.size_toArray, List.length_cons, List.length_nil, Nat.reduceAdd, Nat.reduceSub, Array.replicate_succ, Array.replicate_zero, List.push_toArray, List.append_toArray, List.nil_append, List.cons_append]
  apply wpS_seq
  apply wpS_region
  simp [wpOpsS, go_sem, recoverD, hu, Exit.thenS]
  refine wpS_of_wp ?_
  have na : a ≠ w.heap.size := by omega
  have nb : b ≠ w.heap.size := by omega
  go_wp2
  go_region
  all_goals
    refine ⟨rfl, _, rfl, .tuple #[], by simp [results, Tryz.results21], rfl, rfl, ?_, ?_, fun base w00 h1 h2 h => ?_⟩
    · exact blk_drew (blk_alloc (blk_far (blk_far (blk_put (blk_put ha 0 (cs' := #[.slice none 0 0, v]) _ rfl) 1 (cs' := #[.slice none 0 0, .slice none 0 0]) _ rfl) (p := ⟨b, 0, none⟩) hab _) (p := ⟨b, 1, none⟩) hab _) _)
    · exact blk_drew (blk_alloc (blk_put (blk_put (blk_far (blk_far hb (p := ⟨a, 0, none⟩) hab.symm _) (p := ⟨a, 1, none⟩) hab.symm _) 0 (cs' := #[.int .i64 (f.1 : Int), v']) _ rfl) 1 (cs' := #[.int .i64 (f.1 : Int), .int .i64 (f.2 : Int)]) _ rfl) _)
    · exact Below.drew (Below.alloc (Below.setCell (p := ⟨b, 1, none⟩) (Below.setCell (p := ⟨b, 0, none⟩) (Below.setCell (p := ⟨a, 1, none⟩) (Below.setCell (p := ⟨a, 0, none⟩) h h1 _) h1 _) h2 _) h2 _) (by simp only [World.setCell, Array.size_modify]; omega) _)

end Go.Proofs.YtgplgmjnhkhbjaaGreatDoor
