/-
  The parser's walks, 1: next, text, is, fail.
-/
import Derived.Test.YtgplgmjnhkhbjaaGreatDoorSo
import Derived.Deep.RegionHeld3
set_option linter.unusedVariables false
set_option linter.unusedSimpArgs false
namespace Go.Proofs.YtgplgmjnhkhbjaaGreatDoor
attribute [local go_sem] tok_0 tok_1 tok_2
open Go.RowKit Go.Proofs.YtgplgmjnhkhbjaaGreatDoorW.PrintWords PSameTree PflatTokens Syn

theorem Pz.tok {w0 W : World} {g : Nat} {src : ByteArray} {rs : Nat → Prop} {s : St} {nv fv : Value} {t : Tok} {r : List Tok} (ht : s.toks = t :: r) (h : Pz w0 g src rs s nv fv W) :
    ∃ b o c, W.cell? ⟨g, 1, none⟩ = some (.slice (some ⟨b, o, none⟩) s.toks.length c) ∧ W.cell? ⟨b, o, none⟩ = some (.int .u8 (t.kind : Int)) ∧ W.cell? ⟨b, o + 1, none⟩ = some (.int .i64 (t.at_ : Int)) ∧ W.cell? ⟨b, o + 2, none⟩ = some (.int .i64 (t.stop : Int)) ∧ b < W.heap.size := by
  obtain ⟨b, o, c, h1, h2, h3⟩ := h.cells
  obtain ⟨ad, e, k1, k2, k3⟩ := at_T38 h3 0 (by omega) (by rw [ht]; simp)
  injection e with e
  subst e
  have hx : rd_T38 (s.toks.map tk) 0 = tk t := by rw [ht]; rfl
  rw [hx] at k1 k2 k3
  have m1 : w0.cell? ⟨b, o, none⟩ = some (.int .u8 (t.kind : Int)) := k1
  have m2 : w0.cell? ⟨b, o + 1, none⟩ = some (.int .i64 (t.at_ : Int)) := k2
  have m3 : w0.cell? ⟨b, o + 2, none⟩ = some (.int .i64 (t.stop : Int)) := k3
  have hlt : b < w0.heap.size := World.block_lt_of_cell? w0 _ m1
  exact ⟨b, o, c, (blk_cell h1 1).trans rfl, pw_cell_below h.bel m1, pw_cell_below h.bel m2, pw_cell_below h.bel m3, Nat.lt_of_lt_of_le hlt h.low⟩

set_option maxHeartbeats 1000000 in
theorem next_w {w0 W : World} {g : Nat} {src : ByteArray} {rs : Nat → Prop} {s : St} {nv fv : Value} {t : Tok} {r : List Tok} (ht : s.toks = t :: r) (h : Pz w0 g src rs s nv fv W) :
    Calls Tryz.prog 22 #[.pointer (some ⟨g, 0, none⟩)] W fun e W' => e = .returned (.agg #[.int .u8 (t.kind : Int), .int .i64 (t.at_ : Int), .int .i64 (t.stop : Int)]) ∧ Below W.heap.size W W' := by
  obtain ⟨b, o, c, c1, k1, k2, k3, hA⟩ := h.tok ht
  have hlt := h.lt
  have hl : (0 : Int) < (s.toks.length : Int) := by rw [ht]; simp
  have HE : Hid (Below W.heap.size W W) := Below.refl _ _
  clear h ht
  go_enter Tryz.func22, Tryz.ntmps22
  go_wp2
  exact bodyPost_ret (v := .agg #[.int .u8 (t.kind : Int), .int .i64 (t.at_ : Int), .int .i64 (t.stop : Int)]) (by simp [results, Tryz.results22, go_sem]) rfl ⟨rfl, below_alloc (Below.refl _ _) _⟩

theorem ext_fit {src : ByteArray} {t : Tok} (h : Fit src.data.toList t) : (src.extract t.at_ t.stop).data.toList = t.txt := by
  rw [h.2.2.1]
  simp [ByteArray.data_extract, List.extract_eq_take_drop]

set_option maxRecDepth 100000 in
set_option maxHeartbeats 1000000 in
theorem text_w {w0 W : World} {g : Nat} {src : ByteArray} {rs : Nat → Prop} {s : St} {nv fv : Value} {t : Tok} {r : List Tok} (ht : s.toks = t :: r) (h : Pz w0 g src rs s nv fv W) :
    Calls Tryz.prog 86 #[.pointer (some ⟨g, 0, none⟩)] W fun e W' => e = .returned (.string ⟨t.txt.toArray⟩) ∧ Below W.heap.size W W' := by
  have hf := h.fit t (by rw [ht]; simp)
  have hx : src.extract t.at_ t.stop = ⟨t.txt.toArray⟩ := by
    have := ext_fit hf
    rw [← this]
  obtain ⟨f1, f2, _, _⟩ := hf
  have f2 : t.stop ≤ src.size := by simpa using f2
  have c0 : W.cell? ⟨g, 0, none⟩ = some (.string src) := by
    obtain ⟨b, o, c, h1, _⟩ := h.cells
    exact (blk_cell h1 0).trans rfl
  have b1 : (t.at_ : Int) ≤ (t.stop : Int) := by omega
  have b2 : (t.stop : Int) ≤ (src.size : Int) := by omega
  have HX := Lib.hid hx
  have hN : ∀ W', (W'.cell? ⟨g, 0, none⟩ = some (.string src) ∧ Below W.heap.size W W') → Calls Tryz.prog 22 #[.pointer (some ⟨g, 0, none⟩)] W' fun e w' => e = .returned (.agg #[.int .u8 (t.kind : Int), .int .i64 (t.at_ : Int), .int .i64 (t.stop : Int)]) ∧ (w'.cell? ⟨g, 0, none⟩ = some (.string src) ∧ Below W.heap.size W w') := by
    rintro W' ⟨hc, hb⟩
    refine (next_w ht (h.below hb)).mono ?_
    rintro e w' ⟨rfl, hb'⟩
    exact ⟨rfl, pw_cell_below hb' hc, Below.trans hb (Below.mono hb' hb.size)⟩
  have hS0 : W.drew.cell? ⟨g, 0, none⟩ = some (.string src) ∧ Below W.heap.size W W.drew := ⟨c0, Below.drew (Below.refl _ _)⟩
  have HN := Lib.hid hN
  clear h hx hN
  go_enter Tryz.func86, Tryz.ntmps86
  go_wp2
  go_region_held3 (fun W' => W'.cell? ⟨g, 0, none⟩ = some (.string src) ∧ Below W.heap.size W W') (first | exact hs | exact hS0) (first | (go_at_call 22; (with_reducible refine (HN.out _ (by with_unfolding_all first | exact hs | exact hS0)).mono ?_); rintro e w' ⟨rfl, hs⟩))
  go_wp2
  go_ret
  refine ⟨?_, hs.2⟩
  show Ending.returned (Value.string (src.extract t.at_ t.stop)) = _
  rw [HX.out]

theorem sameL_same : ∀ {a b : List UInt8}, sameL a b = true ↔ a = b := by
  intro a
  induction a with
  | nil => intro b; cases b <;> simp [sameL]
  | cons x a ih => intro b; cases b with
    | nil => simp [sameL]
    | cons y b => simp only [sameL, Bool.and_eq_true, Nat.beq_eq, UInt8.toNat_inj, List.cons.injEq, ih]
theorem sameL_beq (a b : List UInt8) : sameL a b = (a == b) := by
  rw [Bool.eq_iff_iff, sameL_same, beq_iff_eq]

set_option maxRecDepth 100000 in
set_option maxHeartbeats 1000000 in
theorem is_w {w0 W : World} {g : Nat} {src : ByteArray} {rs : Nat → Prop} {s : St} {nv fv : Value} {t : Tok} {r : List Tok} (l : List UInt8) (b : Bool) (hb : isT l t = b) (ht : s.toks = t :: r) (h : Pz w0 g src rs s nv fv W) :
    Calls Tryz.prog 87 #[.pointer (some ⟨g, 0, none⟩), .string ⟨l.toArray⟩] W fun e W' => e = .returned (.bool b) ∧ Below W.heap.size W W' := by
  have hN := next_w ht h
  have hT : ∀ W', Below W.heap.size W W' → Calls Tryz.prog 86 #[.pointer (some ⟨g, 0, none⟩)] W' fun e w' => e = .returned (.string ⟨t.txt.toArray⟩) ∧ Below W.heap.size W w' := by
    intro W' hb
    refine (text_w ht (h.below hb)).mono ?_
    rintro e w' ⟨rfl, hb'⟩
    exact ⟨rfl, Below.trans hb (Below.mono hb' hb.size)⟩
  subst hb
  unfold isT
  rw [sameL_beq]
  have HN := Lib.hid hN
  have HT := Lib.hid hT
  clear h hN hT ht
  by_cases k3 : t.kind = 3
  · have d3 : ((t.kind : Int) == 3) = true := beq_iff_eq.2 (by omega)
    have e3 : Nat.beq t.kind 3 = true := by rw [Nat.beq_eq]; exact k3
    rw [e3, Bool.true_or, Bool.true_and]
    go_enter Tryz.func87, Tryz.ntmps87
    go_wp2_with (go_at_call 22; (with_reducible refine (HN.out).mono ?_); rintro e w1 ⟨rfl, hb1⟩)
    go_wp2_with (go_at_call 86; (with_reducible refine (HT.out _ hb1).mono ?_); rintro e w2 ⟨rfl, hb2⟩)
    go_ret
    exact ⟨rfl, hb2⟩
  · have d3 : ((t.kind : Int) == 3) = false := beq_eq_false_iff_ne.2 (by omega)
    have e3 : Nat.beq t.kind 3 = false := by rw [← Bool.not_eq_true, Nat.beq_eq]; exact k3
    rw [e3, Bool.false_or]
    by_cases k6 : t.kind = 6
    · have d6 : ((t.kind : Int) == 6) = true := beq_iff_eq.2 (by omega)
      have e6 : Nat.beq t.kind 6 = true := by rw [Nat.beq_eq]; exact k6
      rw [e6, Bool.true_and]
      go_enter Tryz.func87, Tryz.ntmps87
      go_wp2_with (go_at_call 22; (with_reducible refine (HN.out).mono ?_); rintro e w1 ⟨rfl, hb1⟩)
      go_wp2_with (go_at_call 86; (with_reducible refine (HT.out _ hb1).mono ?_); rintro e w2 ⟨rfl, hb2⟩)
      go_ret
      exact ⟨rfl, hb2⟩
    · have d6 : ((t.kind : Int) == 6) = false := beq_eq_false_iff_ne.2 (by omega)
      have e6 : Nat.beq t.kind 6 = false := by rw [← Bool.not_eq_true, Nat.beq_eq]; exact k6
      rw [e6, Bool.false_and]
      go_enter Tryz.func87, Tryz.ntmps87
      go_wp2_with (go_at_call 22; (with_reducible refine (HN.out).mono ?_); rintro e w1 ⟨rfl, hb1⟩)
      go_wp2
      go_ret
      exact ⟨rfl, hb1⟩

/-- the parser gives up -/
abbrev gives (er at_ : Nat) : Ending := .panicked [{ v := .iface 68 (.agg #[.int .i64 (er : Int), .int .i64 (at_ : Int)]), recovered := false }]

set_option maxRecDepth 100000 in
set_option maxHeartbeats 1000000 in
theorem fail_w {w0 W : World} {g : Nat} {src : ByteArray} {rs : Nat → Prop} {s : St} {nv fv : Value} {t : Tok} {r : List Tok} (er : Nat) (i : Int) (hi : i = (er : Int)) (ht : s.toks = t :: r) (h : Pz w0 g src rs s nv fv W) :
    Calls Tryz.prog 85 #[.pointer (some ⟨g, 0, none⟩), .int .i64 i] W fun e W' => e = gives er t.at_ ∧ Below W.heap.size W W' := by
  subst hi
  have HN := Lib.hid (next_w ht h)
  clear h ht
  go_enter Tryz.func85, Tryz.ntmps85
  go_wp2_with (go_at_call 22; (with_reducible refine (HN.out).mono ?_); rintro e w1 ⟨rfl, hb1⟩)
  exact ⟨rfl, rfl, hb1⟩

end Go.Proofs.YtgplgmjnhkhbjaaGreatDoor
