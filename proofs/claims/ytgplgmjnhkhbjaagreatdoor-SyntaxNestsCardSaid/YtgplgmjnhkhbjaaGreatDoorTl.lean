/-
  Right's walks, 2: shaped. (printed by gen_shape.py)
-/
import Derived.Test.YtgplgmjnhkhbjaaGreatDoorTk
set_option linter.unusedVariables false
set_option linter.unusedSimpArgs false
namespace Go.Proofs.YtgplgmjnhkhbjaaGreatDoor
open Go.RowKit Go.Proofs.YtgplgmjnhkhbjaaGreatDoorW.PrintWords PSameTree PflatTokens Syn

theorem form1_w (w : World) : Calls Tryz.prog 47 #[.int .u8 1] w fun e w' => e = .returned (.tuple #[.agg #[.int .i64 0, .int .i64 (0), .bool false, .bool true, .bool false, .bool false, .bool true, .bool false], .bool true]) ∧ Below w.heap.size w w' :=
  Psuits.syntax_formOf.calls 40 1 _ _ _ _ _ _ _ _ _ w rfl
theorem form2_w (w : World) : Calls Tryz.prog 47 #[.int .u8 2] w fun e w' => e = .returned (.tuple #[.agg #[.int .i64 0, .int .i64 (0), .bool true, .bool false, .bool false, .bool false, .bool true, .bool false], .bool true]) ∧ Below w.heap.size w w' :=
  Psuits.syntax_formOf.calls 40 2 _ _ _ _ _ _ _ _ _ w rfl
theorem form3_w (w : World) : Calls Tryz.prog 47 #[.int .u8 3] w fun e w' => e = .returned (.tuple #[.agg #[.int .i64 1, .int .i64 (1), .bool true, .bool false, .bool false, .bool false, .bool true, .bool false], .bool true]) ∧ Below w.heap.size w w' :=
  Psuits.syntax_formOf.calls 40 3 _ _ _ _ _ _ _ _ _ w rfl
theorem form4_w (w : World) : Calls Tryz.prog 47 #[.int .u8 4] w fun e w' => e = .returned (.tuple #[.agg #[.int .i64 0, .int .i64 (-1), .bool true, .bool false, .bool false, .bool false, .bool true, .bool false], .bool true]) ∧ Below w.heap.size w w' :=
  Psuits.syntax_formOf.calls 40 4 _ _ _ _ _ _ _ _ _ w rfl
theorem form5_w (w : World) : Calls Tryz.prog 47 #[.int .u8 5] w fun e w' => e = .returned (.tuple #[.agg #[.int .i64 1, .int .i64 (1), .bool false, .bool true, .bool false, .bool false, .bool true, .bool false], .bool true]) ∧ Below w.heap.size w w' :=
  Psuits.syntax_formOf.calls 40 5 _ _ _ _ _ _ _ _ _ w rfl
theorem form6_w (w : World) : Calls Tryz.prog 47 #[.int .u8 6] w fun e w' => e = .returned (.tuple #[.agg #[.int .i64 1, .int .i64 (1), .bool false, .bool false, .bool true, .bool false, .bool true, .bool false], .bool true]) ∧ Below w.heap.size w w' :=
  Psuits.syntax_formOf.calls 40 6 _ _ _ _ _ _ _ _ _ w rfl
theorem form7_w (w : World) : Calls Tryz.prog 47 #[.int .u8 7] w fun e w' => e = .returned (.tuple #[.agg #[.int .i64 2, .int .i64 (2), .bool false, .bool false, .bool true, .bool false, .bool true, .bool false], .bool true]) ∧ Below w.heap.size w w' :=
  Psuits.syntax_formOf.calls 40 7 _ _ _ _ _ _ _ _ _ w rfl
theorem form14_w (w : World) : Calls Tryz.prog 47 #[.int .u8 14] w fun e w' => e = .returned (.tuple #[.agg #[.int .i64 2, .int .i64 (3), .bool false, .bool false, .bool false, .bool false, .bool false, .bool true], .bool true]) ∧ Below w.heap.size w w' :=
  Psuits.syntax_formOf.calls 40 14 _ _ _ _ _ _ _ _ _ w rfl
theorem form18_w (w : World) : Calls Tryz.prog 47 #[.int .u8 18] w fun e w' => e = .returned (.tuple #[.agg #[.int .i64 1, .int .i64 (1), .bool false, .bool false, .bool false, .bool false, .bool false, .bool true], .bool true]) ∧ Below w.heap.size w w' :=
  Psuits.syntax_formOf.calls 40 18 _ _ _ _ _ _ _ _ _ w rfl
theorem form21_w (w : World) : Calls Tryz.prog 47 #[.int .u8 21] w fun e w' => e = .returned (.tuple #[.agg #[.int .i64 0, .int .i64 (-1), .bool false, .bool false, .bool false, .bool false, .bool false, .bool false], .bool true]) ∧ Below w.heap.size w w' :=
  Psuits.syntax_formOf.calls 40 21 _ _ _ _ _ _ _ _ _ w rfl

set_option maxRecDepth 100000 in
set_option maxHeartbeats 4000000 in
theorem shaped_litA (a : Nat) (A : Option Addr) (c : Nat) (w : World) : Calls Tryz.prog 25 #[.agg (ndC 1 (a : Int) ⟨#[]⟩ 4 0 1 0 (.slice A 0 c))] w fun e w' => e = .returned (.bool true) ∧ Below w.heap.size w w' := by
  have HF := Lib.hid (fun W => form1_w W)
  go_enter Tryz.func25, Tryz.ntmps25
  go_wp2_with fail
  refine (HF.out _).mono ?_
  have hb0 := Lib.hid (blk_new w (.cells (ndC 1 (a : Int) ⟨#[]⟩ 4 0 1 0 (.slice A 0 c)) 46))
  have hbb := Lib.hid (below_alloc (Below.refl w.heap.size w) (.cells (ndC 1 (a : Int) ⟨#[]⟩ 4 0 1 0 (.slice A 0 c)) 46))
  have hlt : w.heap.size < (w.alloc (.cells (ndC 1 (a : Int) ⟨#[]⟩ 4 0 1 0 (.slice A 0 c)) 46)).heap.size := by simp
  generalize w.alloc (.cells (ndC 1 (a : Int) ⟨#[]⟩ 4 0 1 0 (.slice A 0 c)) 46) = X at hb0 hbb hlt ⊢
  rintro e w1 ⟨rfl, hb⟩
  have hbx := Lib.hid (blk_below hb0.out hb)
  have HB := Lib.hid (Below.trans hbb.out (Below.mono hb hbb.out.size))
  have hl1 : w.heap.size < w1.heap.size := Nat.lt_of_lt_of_le hlt hb.size
  clear hb hb0 hbb hlt HF
  have x0 := (blk_cell hbx.out 0).trans rfl
  have x2 := (blk_cell hbx.out 2).trans rfl
  have x3 := (blk_cell hbx.out 3).trans rfl
  have x4 := (blk_cell hbx.out 4).trans rfl
  have x5 := (blk_cell hbx.out 5).trans rfl
  have x6 := (blk_cell hbx.out 6).trans rfl
  have x7 := (blk_cell hbx.out 7).trans rfl
  go_wp2_with fail
  clear x0 x2 x3 x4 x5 x6 x7
  have hf0 := Lib.hid (blk_new w1 (.cells #[.int .i64 0, .int .i64 (0), .bool false, .bool true, .bool false, .bool false, .bool true, .bool false] 126))
  have hq0 := Lib.hid (blk_alloc hbx.out (.cells #[.int .i64 0, .int .i64 (0), .bool false, .bool true, .bool false, .bool false, .bool true, .bool false] 126))
  have hB0 := Lib.hid (below_alloc HB.out (.cells #[.int .i64 0, .int .i64 (0), .bool false, .bool true, .bool false, .bool false, .bool true, .bool false] 126))
  have hn : w.heap.size ≠ w1.heap.size := by omega
  refine (scalar_w 4 (by omega) (by omega) _).mono ?_
  generalize w1.alloc (.cells #[.int .i64 0, .int .i64 (0), .bool false, .bool true, .bool false, .bool false, .bool true, .bool false] 126) = X2 at hf0 hq0 hB0 ⊢
  generalize w1.heap.size = fb at hf0 hn ⊢
  rintro e v0 ⟨rfl, hb⟩
  have hf1 := Lib.hid (blk_below hf0.out hb)
  have hq1 := Lib.hid (blk_below hq0.out hb)
  have hB1 := Lib.hid (Below.trans hB0.out (Below.mono hb hB0.out.size))
  clear hb
  have x0 := (blk_cell hq1.out 0).trans rfl
  have x2 := (blk_cell hq1.out 2).trans rfl
  have x3 := (blk_cell hq1.out 3).trans rfl
  have x4 := (blk_cell hq1.out 4).trans rfl
  have x5 := (blk_cell hq1.out 5).trans rfl
  have x6 := (blk_cell hq1.out 6).trans rfl
  have x7 := (blk_cell hq1.out 7).trans rfl
  have f0 := (blk_cell hf1.out 0).trans rfl
  have f1 := (blk_cell hf1.out 1).trans rfl
  have f2 := (blk_cell hf1.out 2).trans rfl
  have f3 := (blk_cell hf1.out 3).trans rfl
  have f4 := (blk_cell hf1.out 4).trans rfl
  have f5 := (blk_cell hf1.out 5).trans rfl
  have f6 := (blk_cell hf1.out 6).trans rfl
  have f7 := (blk_cell hf1.out 7).trans rfl
  go_wp2_with fail
  refine (lit1_w _).mono ?_
  clear x0 x2 x3 x4 x5 x6 x7 f0 f1 f2 f3 f4 f5 f6 f7
  rintro e v1 ⟨rfl, hb⟩
  have hf2 := Lib.hid (blk_below hf1.out hb)
  have hq2 := Lib.hid (blk_below hq1.out hb)
  have hB2 := Lib.hid (Below.trans hB1.out (Below.mono hb hB1.out.size))
  clear hb
  have x0 := (blk_cell hq2.out 0).trans rfl
  have x2 := (blk_cell hq2.out 2).trans rfl
  have x3 := (blk_cell hq2.out 3).trans rfl
  have x4 := (blk_cell hq2.out 4).trans rfl
  have x5 := (blk_cell hq2.out 5).trans rfl
  have x6 := (blk_cell hq2.out 6).trans rfl
  have x7 := (blk_cell hq2.out 7).trans rfl
  have f0 := (blk_cell hf2.out 0).trans rfl
  have f1 := (blk_cell hf2.out 1).trans rfl
  have f2 := (blk_cell hf2.out 2).trans rfl
  have f3 := (blk_cell hf2.out 3).trans rfl
  have f4 := (blk_cell hf2.out 4).trans rfl
  have f5 := (blk_cell hf2.out 5).trans rfl
  have f6 := (blk_cell hf2.out 6).trans rfl
  have f7 := (blk_cell hf2.out 7).trans rfl
  go_wp2_with fail
  go_ret
  exact ⟨rfl, hB2.out⟩
set_option maxRecDepth 100000 in
set_option maxHeartbeats 4000000 in
theorem shaped_litB (a : Nat) (A : Option Addr) (c : Nat) (w : World) : Calls Tryz.prog 25 #[.agg (ndC 1 (a : Int) ⟨#[]⟩ 4 0 2 0 (.slice A 0 c))] w fun e w' => e = .returned (.bool true) ∧ Below w.heap.size w w' := by
  have HF := Lib.hid (fun W => form1_w W)
  go_enter Tryz.func25, Tryz.ntmps25
  go_wp2_with fail
  refine (HF.out _).mono ?_
  have hb0 := Lib.hid (blk_new w (.cells (ndC 1 (a : Int) ⟨#[]⟩ 4 0 2 0 (.slice A 0 c)) 46))
  have hbb := Lib.hid (below_alloc (Below.refl w.heap.size w) (.cells (ndC 1 (a : Int) ⟨#[]⟩ 4 0 2 0 (.slice A 0 c)) 46))
  have hlt : w.heap.size < (w.alloc (.cells (ndC 1 (a : Int) ⟨#[]⟩ 4 0 2 0 (.slice A 0 c)) 46)).heap.size := by simp
  generalize w.alloc (.cells (ndC 1 (a : Int) ⟨#[]⟩ 4 0 2 0 (.slice A 0 c)) 46) = X at hb0 hbb hlt ⊢
  rintro e w1 ⟨rfl, hb⟩
  have hbx := Lib.hid (blk_below hb0.out hb)
  have HB := Lib.hid (Below.trans hbb.out (Below.mono hb hbb.out.size))
  have hl1 : w.heap.size < w1.heap.size := Nat.lt_of_lt_of_le hlt hb.size
  clear hb hb0 hbb hlt HF
  have x0 := (blk_cell hbx.out 0).trans rfl
  have x2 := (blk_cell hbx.out 2).trans rfl
  have x3 := (blk_cell hbx.out 3).trans rfl
  have x4 := (blk_cell hbx.out 4).trans rfl
  have x5 := (blk_cell hbx.out 5).trans rfl
  have x6 := (blk_cell hbx.out 6).trans rfl
  have x7 := (blk_cell hbx.out 7).trans rfl
  go_wp2_with fail
  clear x0 x2 x3 x4 x5 x6 x7
  have hf0 := Lib.hid (blk_new w1 (.cells #[.int .i64 0, .int .i64 (0), .bool false, .bool true, .bool false, .bool false, .bool true, .bool false] 126))
  have hq0 := Lib.hid (blk_alloc hbx.out (.cells #[.int .i64 0, .int .i64 (0), .bool false, .bool true, .bool false, .bool false, .bool true, .bool false] 126))
  have hB0 := Lib.hid (below_alloc HB.out (.cells #[.int .i64 0, .int .i64 (0), .bool false, .bool true, .bool false, .bool false, .bool true, .bool false] 126))
  have hn : w.heap.size ≠ w1.heap.size := by omega
  refine (scalar_w 4 (by omega) (by omega) _).mono ?_
  generalize w1.alloc (.cells #[.int .i64 0, .int .i64 (0), .bool false, .bool true, .bool false, .bool false, .bool true, .bool false] 126) = X2 at hf0 hq0 hB0 ⊢
  generalize w1.heap.size = fb at hf0 hn ⊢
  rintro e v0 ⟨rfl, hb⟩
  have hf1 := Lib.hid (blk_below hf0.out hb)
  have hq1 := Lib.hid (blk_below hq0.out hb)
  have hB1 := Lib.hid (Below.trans hB0.out (Below.mono hb hB0.out.size))
  clear hb
  have x0 := (blk_cell hq1.out 0).trans rfl
  have x2 := (blk_cell hq1.out 2).trans rfl
  have x3 := (blk_cell hq1.out 3).trans rfl
  have x4 := (blk_cell hq1.out 4).trans rfl
  have x5 := (blk_cell hq1.out 5).trans rfl
  have x6 := (blk_cell hq1.out 6).trans rfl
  have x7 := (blk_cell hq1.out 7).trans rfl
  have f0 := (blk_cell hf1.out 0).trans rfl
  have f1 := (blk_cell hf1.out 1).trans rfl
  have f2 := (blk_cell hf1.out 2).trans rfl
  have f3 := (blk_cell hf1.out 3).trans rfl
  have f4 := (blk_cell hf1.out 4).trans rfl
  have f5 := (blk_cell hf1.out 5).trans rfl
  have f6 := (blk_cell hf1.out 6).trans rfl
  have f7 := (blk_cell hf1.out 7).trans rfl
  go_wp2_with fail
  refine (lit2_w _).mono ?_
  clear x0 x2 x3 x4 x5 x6 x7 f0 f1 f2 f3 f4 f5 f6 f7
  rintro e v1 ⟨rfl, hb⟩
  have hf2 := Lib.hid (blk_below hf1.out hb)
  have hq2 := Lib.hid (blk_below hq1.out hb)
  have hB2 := Lib.hid (Below.trans hB1.out (Below.mono hb hB1.out.size))
  clear hb
  have x0 := (blk_cell hq2.out 0).trans rfl
  have x2 := (blk_cell hq2.out 2).trans rfl
  have x3 := (blk_cell hq2.out 3).trans rfl
  have x4 := (blk_cell hq2.out 4).trans rfl
  have x5 := (blk_cell hq2.out 5).trans rfl
  have x6 := (blk_cell hq2.out 6).trans rfl
  have x7 := (blk_cell hq2.out 7).trans rfl
  have f0 := (blk_cell hf2.out 0).trans rfl
  have f1 := (blk_cell hf2.out 1).trans rfl
  have f2 := (blk_cell hf2.out 2).trans rfl
  have f3 := (blk_cell hf2.out 3).trans rfl
  have f4 := (blk_cell hf2.out 4).trans rfl
  have f5 := (blk_cell hf2.out 5).trans rfl
  have f6 := (blk_cell hf2.out 6).trans rfl
  have f7 := (blk_cell hf2.out 7).trans rfl
  go_wp2_with fail
  go_ret
  exact ⟨rfl, hB2.out⟩
set_option maxRecDepth 100000 in
set_option maxHeartbeats 4000000 in
theorem shaped_litT (a : Nat) (A : Option Addr) (c : Nat) (w : World) : Calls Tryz.prog 25 #[.agg (ndC 1 (a : Int) ⟨#[]⟩ 1 0 1 0 (.slice A 0 c))] w fun e w' => e = .returned (.bool true) ∧ Below w.heap.size w w' := by
  have HF := Lib.hid (fun W => form1_w W)
  go_enter Tryz.func25, Tryz.ntmps25
  go_wp2_with fail
  refine (HF.out _).mono ?_
  have hb0 := Lib.hid (blk_new w (.cells (ndC 1 (a : Int) ⟨#[]⟩ 1 0 1 0 (.slice A 0 c)) 46))
  have hbb := Lib.hid (below_alloc (Below.refl w.heap.size w) (.cells (ndC 1 (a : Int) ⟨#[]⟩ 1 0 1 0 (.slice A 0 c)) 46))
  have hlt : w.heap.size < (w.alloc (.cells (ndC 1 (a : Int) ⟨#[]⟩ 1 0 1 0 (.slice A 0 c)) 46)).heap.size := by simp
  generalize w.alloc (.cells (ndC 1 (a : Int) ⟨#[]⟩ 1 0 1 0 (.slice A 0 c)) 46) = X at hb0 hbb hlt ⊢
  rintro e w1 ⟨rfl, hb⟩
  have hbx := Lib.hid (blk_below hb0.out hb)
  have HB := Lib.hid (Below.trans hbb.out (Below.mono hb hbb.out.size))
  have hl1 : w.heap.size < w1.heap.size := Nat.lt_of_lt_of_le hlt hb.size
  clear hb hb0 hbb hlt HF
  have x0 := (blk_cell hbx.out 0).trans rfl
  have x2 := (blk_cell hbx.out 2).trans rfl
  have x3 := (blk_cell hbx.out 3).trans rfl
  have x4 := (blk_cell hbx.out 4).trans rfl
  have x5 := (blk_cell hbx.out 5).trans rfl
  have x6 := (blk_cell hbx.out 6).trans rfl
  have x7 := (blk_cell hbx.out 7).trans rfl
  go_wp2_with fail
  clear x0 x2 x3 x4 x5 x6 x7
  have hf0 := Lib.hid (blk_new w1 (.cells #[.int .i64 0, .int .i64 (0), .bool false, .bool true, .bool false, .bool false, .bool true, .bool false] 126))
  have hq0 := Lib.hid (blk_alloc hbx.out (.cells #[.int .i64 0, .int .i64 (0), .bool false, .bool true, .bool false, .bool false, .bool true, .bool false] 126))
  have hB0 := Lib.hid (below_alloc HB.out (.cells #[.int .i64 0, .int .i64 (0), .bool false, .bool true, .bool false, .bool false, .bool true, .bool false] 126))
  have hn : w.heap.size ≠ w1.heap.size := by omega
  refine (scalar_w 1 (by omega) (by omega) _).mono ?_
  generalize w1.alloc (.cells #[.int .i64 0, .int .i64 (0), .bool false, .bool true, .bool false, .bool false, .bool true, .bool false] 126) = X2 at hf0 hq0 hB0 ⊢
  generalize w1.heap.size = fb at hf0 hn ⊢
  rintro e v0 ⟨rfl, hb⟩
  have hf1 := Lib.hid (blk_below hf0.out hb)
  have hq1 := Lib.hid (blk_below hq0.out hb)
  have hB1 := Lib.hid (Below.trans hB0.out (Below.mono hb hB0.out.size))
  clear hb
  have x0 := (blk_cell hq1.out 0).trans rfl
  have x2 := (blk_cell hq1.out 2).trans rfl
  have x3 := (blk_cell hq1.out 3).trans rfl
  have x4 := (blk_cell hq1.out 4).trans rfl
  have x5 := (blk_cell hq1.out 5).trans rfl
  have x6 := (blk_cell hq1.out 6).trans rfl
  have x7 := (blk_cell hq1.out 7).trans rfl
  have f0 := (blk_cell hf1.out 0).trans rfl
  have f1 := (blk_cell hf1.out 1).trans rfl
  have f2 := (blk_cell hf1.out 2).trans rfl
  have f3 := (blk_cell hf1.out 3).trans rfl
  have f4 := (blk_cell hf1.out 4).trans rfl
  have f5 := (blk_cell hf1.out 5).trans rfl
  have f6 := (blk_cell hf1.out 6).trans rfl
  have f7 := (blk_cell hf1.out 7).trans rfl
  go_wp2_with fail
  refine (litt_w _).mono ?_
  clear x0 x2 x3 x4 x5 x6 x7 f0 f1 f2 f3 f4 f5 f6 f7
  rintro e v1 ⟨rfl, hb⟩
  have hf2 := Lib.hid (blk_below hf1.out hb)
  have hq2 := Lib.hid (blk_below hq1.out hb)
  have hB2 := Lib.hid (Below.trans hB1.out (Below.mono hb hB1.out.size))
  clear hb
  have x0 := (blk_cell hq2.out 0).trans rfl
  have x2 := (blk_cell hq2.out 2).trans rfl
  have x3 := (blk_cell hq2.out 3).trans rfl
  have x4 := (blk_cell hq2.out 4).trans rfl
  have x5 := (blk_cell hq2.out 5).trans rfl
  have x6 := (blk_cell hq2.out 6).trans rfl
  have x7 := (blk_cell hq2.out 7).trans rfl
  have f0 := (blk_cell hf2.out 0).trans rfl
  have f1 := (blk_cell hf2.out 1).trans rfl
  have f2 := (blk_cell hf2.out 2).trans rfl
  have f3 := (blk_cell hf2.out 3).trans rfl
  have f4 := (blk_cell hf2.out 4).trans rfl
  have f5 := (blk_cell hf2.out 5).trans rfl
  have f6 := (blk_cell hf2.out 6).trans rfl
  have f7 := (blk_cell hf2.out 7).trans rfl
  go_wp2_with fail
  go_ret
  exact ⟨rfl, hB2.out⟩
set_option maxRecDepth 100000 in
set_option maxHeartbeats 4000000 in
theorem shaped_nam (a : Nat) (A : Option Addr) (c : Nat) (w : World) : Calls Tryz.prog 25 #[.agg (ndC 2 (a : Int) ⟨#[97]⟩ 0 0 0 0 (.slice A 0 c))] w fun e w' => e = .returned (.bool true) ∧ Below w.heap.size w w' := by
  have HF := Lib.hid (fun W => form2_w W)
  go_enter Tryz.func25, Tryz.ntmps25
  go_wp2_with fail
  refine (HF.out _).mono ?_
  have hb0 := Lib.hid (blk_new w (.cells (ndC 2 (a : Int) ⟨#[97]⟩ 0 0 0 0 (.slice A 0 c)) 46))
  have hbb := Lib.hid (below_alloc (Below.refl w.heap.size w) (.cells (ndC 2 (a : Int) ⟨#[97]⟩ 0 0 0 0 (.slice A 0 c)) 46))
  have hlt : w.heap.size < (w.alloc (.cells (ndC 2 (a : Int) ⟨#[97]⟩ 0 0 0 0 (.slice A 0 c)) 46)).heap.size := by simp
  generalize w.alloc (.cells (ndC 2 (a : Int) ⟨#[97]⟩ 0 0 0 0 (.slice A 0 c)) 46) = X at hb0 hbb hlt ⊢
  rintro e w1 ⟨rfl, hb⟩
  have hbx := Lib.hid (blk_below hb0.out hb)
  have HB := Lib.hid (Below.trans hbb.out (Below.mono hb hbb.out.size))
  have hl1 : w.heap.size < w1.heap.size := Nat.lt_of_lt_of_le hlt hb.size
  clear hb hb0 hbb hlt HF
  have x0 := (blk_cell hbx.out 0).trans rfl
  have x2 := (blk_cell hbx.out 2).trans rfl
  have x3 := (blk_cell hbx.out 3).trans rfl
  have x4 := (blk_cell hbx.out 4).trans rfl
  have x5 := (blk_cell hbx.out 5).trans rfl
  have x6 := (blk_cell hbx.out 6).trans rfl
  have x7 := (blk_cell hbx.out 7).trans rfl
  go_wp2_with fail
  clear x0 x2 x3 x4 x5 x6 x7
  have hf0 := Lib.hid (blk_new w1 (.cells #[.int .i64 0, .int .i64 (0), .bool true, .bool false, .bool false, .bool false, .bool true, .bool false] 126))
  have hq0 := Lib.hid (blk_alloc hbx.out (.cells #[.int .i64 0, .int .i64 (0), .bool true, .bool false, .bool false, .bool false, .bool true, .bool false] 126))
  have hB0 := Lib.hid (below_alloc HB.out (.cells #[.int .i64 0, .int .i64 (0), .bool true, .bool false, .bool false, .bool false, .bool true, .bool false] 126))
  have hn : w.heap.size ≠ w1.heap.size := by omega
  refine (nameda_w _).mono ?_
  generalize w1.alloc (.cells #[.int .i64 0, .int .i64 (0), .bool true, .bool false, .bool false, .bool false, .bool true, .bool false] 126) = X2 at hf0 hq0 hB0 ⊢
  generalize w1.heap.size = fb at hf0 hn ⊢
  rintro e v0 ⟨rfl, hb⟩
  have hf1 := Lib.hid (blk_below hf0.out hb)
  have hq1 := Lib.hid (blk_below hq0.out hb)
  have hB1 := Lib.hid (Below.trans hB0.out (Below.mono hb hB0.out.size))
  clear hb
  have x0 := (blk_cell hq1.out 0).trans rfl
  have x2 := (blk_cell hq1.out 2).trans rfl
  have x3 := (blk_cell hq1.out 3).trans rfl
  have x4 := (blk_cell hq1.out 4).trans rfl
  have x5 := (blk_cell hq1.out 5).trans rfl
  have x6 := (blk_cell hq1.out 6).trans rfl
  have x7 := (blk_cell hq1.out 7).trans rfl
  have f0 := (blk_cell hf1.out 0).trans rfl
  have f1 := (blk_cell hf1.out 1).trans rfl
  have f2 := (blk_cell hf1.out 2).trans rfl
  have f3 := (blk_cell hf1.out 3).trans rfl
  have f4 := (blk_cell hf1.out 4).trans rfl
  have f5 := (blk_cell hf1.out 5).trans rfl
  have f6 := (blk_cell hf1.out 6).trans rfl
  have f7 := (blk_cell hf1.out 7).trans rfl
  go_wp2_with fail
  go_ret
  exact ⟨rfl, hB1.out⟩
set_option maxRecDepth 100000 in
set_option maxHeartbeats 4000000 in
theorem shaped_idx (a : Nat) (A : Option Addr) (c : Nat) (w : World) : Calls Tryz.prog 25 #[.agg (ndC 3 (a : Int) ⟨#[97]⟩ 0 0 0 0 (.slice A 1 c))] w fun e w' => e = .returned (.bool true) ∧ Below w.heap.size w w' := by
  have HF := Lib.hid (fun W => form3_w W)
  go_enter Tryz.func25, Tryz.ntmps25
  go_wp2_with fail
  refine (HF.out _).mono ?_
  have hb0 := Lib.hid (blk_new w (.cells (ndC 3 (a : Int) ⟨#[97]⟩ 0 0 0 0 (.slice A 1 c)) 46))
  have hbb := Lib.hid (below_alloc (Below.refl w.heap.size w) (.cells (ndC 3 (a : Int) ⟨#[97]⟩ 0 0 0 0 (.slice A 1 c)) 46))
  have hlt : w.heap.size < (w.alloc (.cells (ndC 3 (a : Int) ⟨#[97]⟩ 0 0 0 0 (.slice A 1 c)) 46)).heap.size := by simp
  generalize w.alloc (.cells (ndC 3 (a : Int) ⟨#[97]⟩ 0 0 0 0 (.slice A 1 c)) 46) = X at hb0 hbb hlt ⊢
  rintro e w1 ⟨rfl, hb⟩
  have hbx := Lib.hid (blk_below hb0.out hb)
  have HB := Lib.hid (Below.trans hbb.out (Below.mono hb hbb.out.size))
  have hl1 : w.heap.size < w1.heap.size := Nat.lt_of_lt_of_le hlt hb.size
  clear hb hb0 hbb hlt HF
  have x0 := (blk_cell hbx.out 0).trans rfl
  have x2 := (blk_cell hbx.out 2).trans rfl
  have x3 := (blk_cell hbx.out 3).trans rfl
  have x4 := (blk_cell hbx.out 4).trans rfl
  have x5 := (blk_cell hbx.out 5).trans rfl
  have x6 := (blk_cell hbx.out 6).trans rfl
  have x7 := (blk_cell hbx.out 7).trans rfl
  go_wp2_with fail
  clear x0 x2 x3 x4 x5 x6 x7
  have hf0 := Lib.hid (blk_new w1 (.cells #[.int .i64 1, .int .i64 (1), .bool true, .bool false, .bool false, .bool false, .bool true, .bool false] 126))
  have hq0 := Lib.hid (blk_alloc hbx.out (.cells #[.int .i64 1, .int .i64 (1), .bool true, .bool false, .bool false, .bool false, .bool true, .bool false] 126))
  have hB0 := Lib.hid (below_alloc HB.out (.cells #[.int .i64 1, .int .i64 (1), .bool true, .bool false, .bool false, .bool false, .bool true, .bool false] 126))
  have hn : w.heap.size ≠ w1.heap.size := by omega
  refine (nameda_w _).mono ?_
  generalize w1.alloc (.cells #[.int .i64 1, .int .i64 (1), .bool true, .bool false, .bool false, .bool false, .bool true, .bool false] 126) = X2 at hf0 hq0 hB0 ⊢
  generalize w1.heap.size = fb at hf0 hn ⊢
  rintro e v0 ⟨rfl, hb⟩
  have hf1 := Lib.hid (blk_below hf0.out hb)
  have hq1 := Lib.hid (blk_below hq0.out hb)
  have hB1 := Lib.hid (Below.trans hB0.out (Below.mono hb hB0.out.size))
  clear hb
  have x0 := (blk_cell hq1.out 0).trans rfl
  have x2 := (blk_cell hq1.out 2).trans rfl
  have x3 := (blk_cell hq1.out 3).trans rfl
  have x4 := (blk_cell hq1.out 4).trans rfl
  have x5 := (blk_cell hq1.out 5).trans rfl
  have x6 := (blk_cell hq1.out 6).trans rfl
  have x7 := (blk_cell hq1.out 7).trans rfl
  have f0 := (blk_cell hf1.out 0).trans rfl
  have f1 := (blk_cell hf1.out 1).trans rfl
  have f2 := (blk_cell hf1.out 2).trans rfl
  have f3 := (blk_cell hf1.out 3).trans rfl
  have f4 := (blk_cell hf1.out 4).trans rfl
  have f5 := (blk_cell hf1.out 5).trans rfl
  have f6 := (blk_cell hf1.out 6).trans rfl
  have f7 := (blk_cell hf1.out 7).trans rfl
  go_wp2_with fail
  go_ret
  exact ⟨rfl, hB1.out⟩
set_option maxRecDepth 100000 in
set_option maxHeartbeats 4000000 in
theorem shaped_cal (a : Nat) (A : Option Addr) (c : Nat) (w : World) : Calls Tryz.prog 25 #[.agg (ndC 4 (a : Int) ⟨#[102]⟩ 0 0 0 0 (.slice A 1 c))] w fun e w' => e = .returned (.bool true) ∧ Below w.heap.size w w' := by
  have HF := Lib.hid (fun W => form4_w W)
  go_enter Tryz.func25, Tryz.ntmps25
  go_wp2_with fail
  refine (HF.out _).mono ?_
  have hb0 := Lib.hid (blk_new w (.cells (ndC 4 (a : Int) ⟨#[102]⟩ 0 0 0 0 (.slice A 1 c)) 46))
  have hbb := Lib.hid (below_alloc (Below.refl w.heap.size w) (.cells (ndC 4 (a : Int) ⟨#[102]⟩ 0 0 0 0 (.slice A 1 c)) 46))
  have hlt : w.heap.size < (w.alloc (.cells (ndC 4 (a : Int) ⟨#[102]⟩ 0 0 0 0 (.slice A 1 c)) 46)).heap.size := by simp
  generalize w.alloc (.cells (ndC 4 (a : Int) ⟨#[102]⟩ 0 0 0 0 (.slice A 1 c)) 46) = X at hb0 hbb hlt ⊢
  rintro e w1 ⟨rfl, hb⟩
  have hbx := Lib.hid (blk_below hb0.out hb)
  have HB := Lib.hid (Below.trans hbb.out (Below.mono hb hbb.out.size))
  have hl1 : w.heap.size < w1.heap.size := Nat.lt_of_lt_of_le hlt hb.size
  clear hb hb0 hbb hlt HF
  have x0 := (blk_cell hbx.out 0).trans rfl
  have x2 := (blk_cell hbx.out 2).trans rfl
  have x3 := (blk_cell hbx.out 3).trans rfl
  have x4 := (blk_cell hbx.out 4).trans rfl
  have x5 := (blk_cell hbx.out 5).trans rfl
  have x6 := (blk_cell hbx.out 6).trans rfl
  have x7 := (blk_cell hbx.out 7).trans rfl
  go_wp2_with fail
  clear x0 x2 x3 x4 x5 x6 x7
  have hf0 := Lib.hid (blk_new w1 (.cells #[.int .i64 0, .int .i64 (-1), .bool true, .bool false, .bool false, .bool false, .bool true, .bool false] 126))
  have hq0 := Lib.hid (blk_alloc hbx.out (.cells #[.int .i64 0, .int .i64 (-1), .bool true, .bool false, .bool false, .bool false, .bool true, .bool false] 126))
  have hB0 := Lib.hid (below_alloc HB.out (.cells #[.int .i64 0, .int .i64 (-1), .bool true, .bool false, .bool false, .bool false, .bool true, .bool false] 126))
  have hn : w.heap.size ≠ w1.heap.size := by omega
  refine (namedf_w _).mono ?_
  generalize w1.alloc (.cells #[.int .i64 0, .int .i64 (-1), .bool true, .bool false, .bool false, .bool false, .bool true, .bool false] 126) = X2 at hf0 hq0 hB0 ⊢
  generalize w1.heap.size = fb at hf0 hn ⊢
  rintro e v0 ⟨rfl, hb⟩
  have hf1 := Lib.hid (blk_below hf0.out hb)
  have hq1 := Lib.hid (blk_below hq0.out hb)
  have hB1 := Lib.hid (Below.trans hB0.out (Below.mono hb hB0.out.size))
  clear hb
  have x0 := (blk_cell hq1.out 0).trans rfl
  have x2 := (blk_cell hq1.out 2).trans rfl
  have x3 := (blk_cell hq1.out 3).trans rfl
  have x4 := (blk_cell hq1.out 4).trans rfl
  have x5 := (blk_cell hq1.out 5).trans rfl
  have x6 := (blk_cell hq1.out 6).trans rfl
  have x7 := (blk_cell hq1.out 7).trans rfl
  have f0 := (blk_cell hf1.out 0).trans rfl
  have f1 := (blk_cell hf1.out 1).trans rfl
  have f2 := (blk_cell hf1.out 2).trans rfl
  have f3 := (blk_cell hf1.out 3).trans rfl
  have f4 := (blk_cell hf1.out 4).trans rfl
  have f5 := (blk_cell hf1.out 5).trans rfl
  have f6 := (blk_cell hf1.out 6).trans rfl
  have f7 := (blk_cell hf1.out 7).trans rfl
  go_wp2_with fail
  go_ret
  exact ⟨rfl, hB1.out⟩
set_option maxRecDepth 100000 in
set_option maxHeartbeats 4000000 in
theorem shaped_cnv (a : Nat) (A : Option Addr) (c : Nat) (w : World) : Calls Tryz.prog 25 #[.agg (ndC 5 (a : Int) ⟨#[]⟩ 2 0 0 0 (.slice A 1 c))] w fun e w' => e = .returned (.bool true) ∧ Below w.heap.size w w' := by
  have HF := Lib.hid (fun W => form5_w W)
  go_enter Tryz.func25, Tryz.ntmps25
  go_wp2_with fail
  refine (HF.out _).mono ?_
  have hb0 := Lib.hid (blk_new w (.cells (ndC 5 (a : Int) ⟨#[]⟩ 2 0 0 0 (.slice A 1 c)) 46))
  have hbb := Lib.hid (below_alloc (Below.refl w.heap.size w) (.cells (ndC 5 (a : Int) ⟨#[]⟩ 2 0 0 0 (.slice A 1 c)) 46))
  have hlt : w.heap.size < (w.alloc (.cells (ndC 5 (a : Int) ⟨#[]⟩ 2 0 0 0 (.slice A 1 c)) 46)).heap.size := by simp
  generalize w.alloc (.cells (ndC 5 (a : Int) ⟨#[]⟩ 2 0 0 0 (.slice A 1 c)) 46) = X at hb0 hbb hlt ⊢
  rintro e w1 ⟨rfl, hb⟩
  have hbx := Lib.hid (blk_below hb0.out hb)
  have HB := Lib.hid (Below.trans hbb.out (Below.mono hb hbb.out.size))
  have hl1 : w.heap.size < w1.heap.size := Nat.lt_of_lt_of_le hlt hb.size
  clear hb hb0 hbb hlt HF
  have x0 := (blk_cell hbx.out 0).trans rfl
  have x2 := (blk_cell hbx.out 2).trans rfl
  have x3 := (blk_cell hbx.out 3).trans rfl
  have x4 := (blk_cell hbx.out 4).trans rfl
  have x5 := (blk_cell hbx.out 5).trans rfl
  have x6 := (blk_cell hbx.out 6).trans rfl
  have x7 := (blk_cell hbx.out 7).trans rfl
  go_wp2_with fail
  clear x0 x2 x3 x4 x5 x6 x7
  have hf0 := Lib.hid (blk_new w1 (.cells #[.int .i64 1, .int .i64 (1), .bool false, .bool true, .bool false, .bool false, .bool true, .bool false] 126))
  have hq0 := Lib.hid (blk_alloc hbx.out (.cells #[.int .i64 1, .int .i64 (1), .bool false, .bool true, .bool false, .bool false, .bool true, .bool false] 126))
  have hB0 := Lib.hid (below_alloc HB.out (.cells #[.int .i64 1, .int .i64 (1), .bool false, .bool true, .bool false, .bool false, .bool true, .bool false] 126))
  have hn : w.heap.size ≠ w1.heap.size := by omega
  refine (scalar_w 2 (by omega) (by omega) _).mono ?_
  generalize w1.alloc (.cells #[.int .i64 1, .int .i64 (1), .bool false, .bool true, .bool false, .bool false, .bool true, .bool false] 126) = X2 at hf0 hq0 hB0 ⊢
  generalize w1.heap.size = fb at hf0 hn ⊢
  rintro e v0 ⟨rfl, hb⟩
  have hf1 := Lib.hid (blk_below hf0.out hb)
  have hq1 := Lib.hid (blk_below hq0.out hb)
  have hB1 := Lib.hid (Below.trans hB0.out (Below.mono hb hB0.out.size))
  clear hb
  have x0 := (blk_cell hq1.out 0).trans rfl
  have x2 := (blk_cell hq1.out 2).trans rfl
  have x3 := (blk_cell hq1.out 3).trans rfl
  have x4 := (blk_cell hq1.out 4).trans rfl
  have x5 := (blk_cell hq1.out 5).trans rfl
  have x6 := (blk_cell hq1.out 6).trans rfl
  have x7 := (blk_cell hq1.out 7).trans rfl
  have f0 := (blk_cell hf1.out 0).trans rfl
  have f1 := (blk_cell hf1.out 1).trans rfl
  have f2 := (blk_cell hf1.out 2).trans rfl
  have f3 := (blk_cell hf1.out 3).trans rfl
  have f4 := (blk_cell hf1.out 4).trans rfl
  have f5 := (blk_cell hf1.out 5).trans rfl
  have f6 := (blk_cell hf1.out 6).trans rfl
  have f7 := (blk_cell hf1.out 7).trans rfl
  go_wp2_with fail
  go_ret
  exact ⟨rfl, hB1.out⟩
set_option maxRecDepth 100000 in
set_option maxHeartbeats 4000000 in
theorem shaped_una (a : Nat) (A : Option Addr) (c : Nat) (w : World) : Calls Tryz.prog 25 #[.agg (ndC 6 (a : Int) ⟨#[]⟩ 0 17 0 0 (.slice A 1 c))] w fun e w' => e = .returned (.bool true) ∧ Below w.heap.size w w' := by
  have HF := Lib.hid (fun W => form6_w W)
  go_enter Tryz.func25, Tryz.ntmps25
  go_wp2_with fail
  refine (HF.out _).mono ?_
  have hb0 := Lib.hid (blk_new w (.cells (ndC 6 (a : Int) ⟨#[]⟩ 0 17 0 0 (.slice A 1 c)) 46))
  have hbb := Lib.hid (below_alloc (Below.refl w.heap.size w) (.cells (ndC 6 (a : Int) ⟨#[]⟩ 0 17 0 0 (.slice A 1 c)) 46))
  have hlt : w.heap.size < (w.alloc (.cells (ndC 6 (a : Int) ⟨#[]⟩ 0 17 0 0 (.slice A 1 c)) 46)).heap.size := by simp
  generalize w.alloc (.cells (ndC 6 (a : Int) ⟨#[]⟩ 0 17 0 0 (.slice A 1 c)) 46) = X at hb0 hbb hlt ⊢
  rintro e w1 ⟨rfl, hb⟩
  have hbx := Lib.hid (blk_below hb0.out hb)
  have HB := Lib.hid (Below.trans hbb.out (Below.mono hb hbb.out.size))
  have hl1 : w.heap.size < w1.heap.size := Nat.lt_of_lt_of_le hlt hb.size
  clear hb hb0 hbb hlt HF
  have x0 := (blk_cell hbx.out 0).trans rfl
  have x2 := (blk_cell hbx.out 2).trans rfl
  have x3 := (blk_cell hbx.out 3).trans rfl
  have x4 := (blk_cell hbx.out 4).trans rfl
  have x5 := (blk_cell hbx.out 5).trans rfl
  have x6 := (blk_cell hbx.out 6).trans rfl
  have x7 := (blk_cell hbx.out 7).trans rfl
  go_wp2_with fail
  go_ret
  exact ⟨rfl, below_alloc HB.out _⟩
set_option maxRecDepth 100000 in
set_option maxHeartbeats 4000000 in
theorem shaped_binL (a : Nat) (A : Option Addr) (c : Nat) (w : World) : Calls Tryz.prog 25 #[.agg (ndC 7 (a : Int) ⟨#[]⟩ 0 13 0 0 (.slice A 2 c))] w fun e w' => e = .returned (.bool true) ∧ Below w.heap.size w w' := by
  have HF := Lib.hid (fun W => form7_w W)
  go_enter Tryz.func25, Tryz.ntmps25
  go_wp2_with fail
  refine (HF.out _).mono ?_
  have hb0 := Lib.hid (blk_new w (.cells (ndC 7 (a : Int) ⟨#[]⟩ 0 13 0 0 (.slice A 2 c)) 46))
  have hbb := Lib.hid (below_alloc (Below.refl w.heap.size w) (.cells (ndC 7 (a : Int) ⟨#[]⟩ 0 13 0 0 (.slice A 2 c)) 46))
  have hlt : w.heap.size < (w.alloc (.cells (ndC 7 (a : Int) ⟨#[]⟩ 0 13 0 0 (.slice A 2 c)) 46)).heap.size := by simp
  generalize w.alloc (.cells (ndC 7 (a : Int) ⟨#[]⟩ 0 13 0 0 (.slice A 2 c)) 46) = X at hb0 hbb hlt ⊢
  rintro e w1 ⟨rfl, hb⟩
  have hbx := Lib.hid (blk_below hb0.out hb)
  have HB := Lib.hid (Below.trans hbb.out (Below.mono hb hbb.out.size))
  have hl1 : w.heap.size < w1.heap.size := Nat.lt_of_lt_of_le hlt hb.size
  clear hb hb0 hbb hlt HF
  have x0 := (blk_cell hbx.out 0).trans rfl
  have x2 := (blk_cell hbx.out 2).trans rfl
  have x3 := (blk_cell hbx.out 3).trans rfl
  have x4 := (blk_cell hbx.out 4).trans rfl
  have x5 := (blk_cell hbx.out 5).trans rfl
  have x6 := (blk_cell hbx.out 6).trans rfl
  have x7 := (blk_cell hbx.out 7).trans rfl
  go_wp2_with fail
  go_ret
  exact ⟨rfl, below_alloc HB.out _⟩
set_option maxRecDepth 100000 in
set_option maxHeartbeats 4000000 in
theorem shaped_binA (a : Nat) (A : Option Addr) (c : Nat) (w : World) : Calls Tryz.prog 25 #[.agg (ndC 7 (a : Int) ⟨#[]⟩ 0 1 0 0 (.slice A 2 c))] w fun e w' => e = .returned (.bool true) ∧ Below w.heap.size w w' := by
  have HF := Lib.hid (fun W => form7_w W)
  go_enter Tryz.func25, Tryz.ntmps25
  go_wp2_with fail
  refine (HF.out _).mono ?_
  have hb0 := Lib.hid (blk_new w (.cells (ndC 7 (a : Int) ⟨#[]⟩ 0 1 0 0 (.slice A 2 c)) 46))
  have hbb := Lib.hid (below_alloc (Below.refl w.heap.size w) (.cells (ndC 7 (a : Int) ⟨#[]⟩ 0 1 0 0 (.slice A 2 c)) 46))
  have hlt : w.heap.size < (w.alloc (.cells (ndC 7 (a : Int) ⟨#[]⟩ 0 1 0 0 (.slice A 2 c)) 46)).heap.size := by simp
  generalize w.alloc (.cells (ndC 7 (a : Int) ⟨#[]⟩ 0 1 0 0 (.slice A 2 c)) 46) = X at hb0 hbb hlt ⊢
  rintro e w1 ⟨rfl, hb⟩
  have hbx := Lib.hid (blk_below hb0.out hb)
  have HB := Lib.hid (Below.trans hbb.out (Below.mono hb hbb.out.size))
  have hl1 : w.heap.size < w1.heap.size := Nat.lt_of_lt_of_le hlt hb.size
  clear hb hb0 hbb hlt HF
  have x0 := (blk_cell hbx.out 0).trans rfl
  have x2 := (blk_cell hbx.out 2).trans rfl
  have x3 := (blk_cell hbx.out 3).trans rfl
  have x4 := (blk_cell hbx.out 4).trans rfl
  have x5 := (blk_cell hbx.out 5).trans rfl
  have x6 := (blk_cell hbx.out 6).trans rfl
  have x7 := (blk_cell hbx.out 7).trans rfl
  go_wp2_with fail
  go_ret
  exact ⟨rfl, below_alloc HB.out _⟩
set_option maxRecDepth 100000 in
set_option maxHeartbeats 4000000 in
theorem shaped_iff (a : Nat) (A : Option Addr) (c : Nat) (w : World) : Calls Tryz.prog 25 #[.agg (ndC 14 (a : Int) ⟨#[]⟩ 0 0 0 0 (.slice A 2 c))] w fun e w' => e = .returned (.bool true) ∧ Below w.heap.size w w' := by
  have HF := Lib.hid (fun W => form14_w W)
  go_enter Tryz.func25, Tryz.ntmps25
  go_wp2_with fail
  refine (HF.out _).mono ?_
  have hb0 := Lib.hid (blk_new w (.cells (ndC 14 (a : Int) ⟨#[]⟩ 0 0 0 0 (.slice A 2 c)) 46))
  have hbb := Lib.hid (below_alloc (Below.refl w.heap.size w) (.cells (ndC 14 (a : Int) ⟨#[]⟩ 0 0 0 0 (.slice A 2 c)) 46))
  have hlt : w.heap.size < (w.alloc (.cells (ndC 14 (a : Int) ⟨#[]⟩ 0 0 0 0 (.slice A 2 c)) 46)).heap.size := by simp
  generalize w.alloc (.cells (ndC 14 (a : Int) ⟨#[]⟩ 0 0 0 0 (.slice A 2 c)) 46) = X at hb0 hbb hlt ⊢
  rintro e w1 ⟨rfl, hb⟩
  have hbx := Lib.hid (blk_below hb0.out hb)
  have HB := Lib.hid (Below.trans hbb.out (Below.mono hb hbb.out.size))
  have hl1 : w.heap.size < w1.heap.size := Nat.lt_of_lt_of_le hlt hb.size
  clear hb hb0 hbb hlt HF
  have x0 := (blk_cell hbx.out 0).trans rfl
  have x2 := (blk_cell hbx.out 2).trans rfl
  have x3 := (blk_cell hbx.out 3).trans rfl
  have x4 := (blk_cell hbx.out 4).trans rfl
  have x5 := (blk_cell hbx.out 5).trans rfl
  have x6 := (blk_cell hbx.out 6).trans rfl
  have x7 := (blk_cell hbx.out 7).trans rfl
  go_wp2_with fail
  go_ret
  exact ⟨rfl, below_alloc HB.out _⟩
set_option maxRecDepth 100000 in
set_option maxHeartbeats 4000000 in
theorem shaped_ret (a : Nat) (A : Option Addr) (c : Nat) (w : World) : Calls Tryz.prog 25 #[.agg (ndC 18 (a : Int) ⟨#[]⟩ 0 0 0 0 (.slice A 1 c))] w fun e w' => e = .returned (.bool true) ∧ Below w.heap.size w w' := by
  have HF := Lib.hid (fun W => form18_w W)
  go_enter Tryz.func25, Tryz.ntmps25
  go_wp2_with fail
  refine (HF.out _).mono ?_
  have hb0 := Lib.hid (blk_new w (.cells (ndC 18 (a : Int) ⟨#[]⟩ 0 0 0 0 (.slice A 1 c)) 46))
  have hbb := Lib.hid (below_alloc (Below.refl w.heap.size w) (.cells (ndC 18 (a : Int) ⟨#[]⟩ 0 0 0 0 (.slice A 1 c)) 46))
  have hlt : w.heap.size < (w.alloc (.cells (ndC 18 (a : Int) ⟨#[]⟩ 0 0 0 0 (.slice A 1 c)) 46)).heap.size := by simp
  generalize w.alloc (.cells (ndC 18 (a : Int) ⟨#[]⟩ 0 0 0 0 (.slice A 1 c)) 46) = X at hb0 hbb hlt ⊢
  rintro e w1 ⟨rfl, hb⟩
  have hbx := Lib.hid (blk_below hb0.out hb)
  have HB := Lib.hid (Below.trans hbb.out (Below.mono hb hbb.out.size))
  have hl1 : w.heap.size < w1.heap.size := Nat.lt_of_lt_of_le hlt hb.size
  clear hb hb0 hbb hlt HF
  have x0 := (blk_cell hbx.out 0).trans rfl
  have x2 := (blk_cell hbx.out 2).trans rfl
  have x3 := (blk_cell hbx.out 3).trans rfl
  have x4 := (blk_cell hbx.out 4).trans rfl
  have x5 := (blk_cell hbx.out 5).trans rfl
  have x6 := (blk_cell hbx.out 6).trans rfl
  have x7 := (blk_cell hbx.out 7).trans rfl
  go_wp2_with fail
  go_ret
  exact ⟨rfl, below_alloc HB.out _⟩
set_option maxRecDepth 100000 in
set_option maxHeartbeats 4000000 in
theorem shaped_blk (a : Nat) (L : Nat) (A : Option Addr) (c : Nat) (w : World) : Calls Tryz.prog 25 #[.agg (ndC 21 (a : Int) ⟨#[]⟩ 0 0 0 0 (.slice A L c))] w fun e w' => e = .returned (.bool true) ∧ Below w.heap.size w w' := by
  have d1 : decide ((L : Int) < 0) = false := decide_eq_false (by omega)
  have HF := Lib.hid (fun W => form21_w W)
  go_enter Tryz.func25, Tryz.ntmps25
  go_wp2_with fail
  refine (HF.out _).mono ?_
  have hb0 := Lib.hid (blk_new w (.cells (ndC 21 (a : Int) ⟨#[]⟩ 0 0 0 0 (.slice A L c)) 46))
  have hbb := Lib.hid (below_alloc (Below.refl w.heap.size w) (.cells (ndC 21 (a : Int) ⟨#[]⟩ 0 0 0 0 (.slice A L c)) 46))
  have hlt : w.heap.size < (w.alloc (.cells (ndC 21 (a : Int) ⟨#[]⟩ 0 0 0 0 (.slice A L c)) 46)).heap.size := by simp
  generalize w.alloc (.cells (ndC 21 (a : Int) ⟨#[]⟩ 0 0 0 0 (.slice A L c)) 46) = X at hb0 hbb hlt ⊢
  rintro e w1 ⟨rfl, hb⟩
  have hbx := Lib.hid (blk_below hb0.out hb)
  have HB := Lib.hid (Below.trans hbb.out (Below.mono hb hbb.out.size))
  have hl1 : w.heap.size < w1.heap.size := Nat.lt_of_lt_of_le hlt hb.size
  clear hb hb0 hbb hlt HF
  have x0 := (blk_cell hbx.out 0).trans rfl
  have x2 := (blk_cell hbx.out 2).trans rfl
  have x3 := (blk_cell hbx.out 3).trans rfl
  have x4 := (blk_cell hbx.out 4).trans rfl
  have x5 := (blk_cell hbx.out 5).trans rfl
  have x6 := (blk_cell hbx.out 6).trans rfl
  have x7 := (blk_cell hbx.out 7).trans rfl
  go_wp2_with fail
  go_ret
  exact ⟨rfl, below_alloc HB.out _⟩

end Go.Proofs.YtgplgmjnhkhbjaaGreatDoor
