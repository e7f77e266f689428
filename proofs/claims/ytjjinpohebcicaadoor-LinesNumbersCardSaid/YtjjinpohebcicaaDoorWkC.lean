/-
  The walk of lines.Command.
-/
import Derived.Test.YtjjinpohebcicaaDoorJA
import Derived.Laws.Rows
set_option linter.unusedSimpArgs false
set_option linter.unusedVariables false
namespace Go.Proofs.YtjjinpohebcicaaDoor
open Go.RowKit Ln Go.Proofs.YtjjinpohebcicaaDoorW.PrintWords

def cmdArr : Array Value := #[.string ⟨#[]⟩, .string ⟨#[]⟩, .bool false,
  .string ⟨#[115, 111, 117, 114, 99, 101]⟩, .string ⟨#[110, 116]⟩, .bool false,
  .string ⟨#[98, 117, 105, 108, 100]⟩, .string ⟨#[110, 110, 105]⟩, .bool false,
  .string ⟨#[115, 116, 97, 114, 116]⟩, .string ⟨#[110, 110, 110, 105]⟩, .bool true,
  .string ⟨#[115, 116, 101, 112]⟩, .string ⟨#[110, 105]⟩, .bool false,
  .string ⟨#[115, 104, 111, 119]⟩, .string ⟨#[110]⟩, .bool false,
  .string ⟨#[100, 114, 111, 112]⟩, .string ⟨#[110]⟩, .bool false]

/-- what the package-level variables hold, the commands' table too -/
structure Gc (w : World) : Prop where
  gl : Gl w
  cmd : w.var? Tryd.prog "smithy/lines.commands" = some cmdArr
theorem gCmd : Tryd.prog.globalNamed "smithy/lines.commands" = some 0 := by kernel_rfl
theorem Gc.below {w w' : World} (h : Gc w) (hb : Below w.heap.size w w') : Gc w' :=
  ⟨h.gl.below hb, var?_below hb gCmd (by have := h.gl.big; omega) h.cmd⟩
theorem Gc.row {w : World} (h : Gc w) : ∃ t fr, w.heap[0]? = some (.cells cmdArr t fr) := by
  have hc := h.cmd
  unfold World.var? at hc
  rw [gCmd] at hc
  simp only [Option.bind_some] at hc
  split at hc
  · rename_i cs t fr hh
    exact ⟨t, fr, by rw [hh, Option.some.inj hc]⟩
  · cases hc

theorem next_0 (s : ByteArray) (hs : s.size ≤ 4611686018427387904) (a e : Nat) (ok : Bool) (h : nextW s 0 = (a, e, ok)) (w : World) :
    Calls Tryd.prog 23 #[.string s, .int .i64 0] w fun en w' => en = .returned (.tuple #[.int .i64 a, .int .i64 e, .bool ok]) ∧ Drawn0 w w' := by
  have := next_w s hs 0 (Nat.zero_le _) w
  rw [h] at this
  exact this
theorem next_p (s : ByteArray) (hs : s.size ≤ 4611686018427387904) (p a e : Nat) (ok : Bool) (hp : p ≤ s.size) (h : nextW s p = (a, e, ok)) (w : World) :
    Calls Tryd.prog 23 #[.string s, .int .i64 p] w fun en w' => en = .returned (.tuple #[.int .i64 a, .int .i64 e, .bool ok]) ∧ Drawn0 w w' := by
  have := next_w s hs p hp w
  rw [h] at this
  exact this

theorem own_two {w : World} {g t : Nat} {x y : Value} (h : w.heap[g]? = some (.cells #[x, y] t (0, 0))) :
    w.cell? ⟨g, 0, none⟩ = some x ∧ w.cell? ⟨g, 1, none⟩ = some y ∧ w.frozen? ⟨g, 0, none⟩ = false ∧ w.frozen? ⟨g, 1, none⟩ = false ∧ g < w.heap.size :=
  ⟨by rw [Lib.cell_of_heap h]; rfl, by rw [Lib.cell_of_heap h]; rfl, Lib.frozen_of_heap h 0, Lib.frozen_of_heap h 1, (Array.getElem?_eq_some_iff.1 h).1⟩
theorem new_block (w : World) (o : Obj) : (w.alloc o).heap[w.heap.size]? = some o := by
  show (w.heap.push o)[w.heap.size]? = some o
  simp

def wordOf : Nat → List UInt8
  | 1 => [115, 111, 117, 114, 99, 101]
  | 2 => [98, 117, 105, 108, 100]
  | 3 => [115, 116, 97, 114, 116]
  | 4 => [115, 116, 101, 112]
  | 5 => [115, 104, 111, 119]
  | 6 => [100, 114, 111, 112]
  | _ => []
theorem cmd_cells (K : Nat) (h1 : 1 ≤ K) (h7 : K < 7) : cmdArr[K * 3]? = some (.string ⟨(wordOf K).toArray⟩) ∧ cmdArr[K * 3 + 1]? = some (.string ⟨(formOf K).toArray⟩) ∧ cmdArr[K * 3 + 2]? = some (.bool (K == 3)) := by
  match K, h1, h7 with
  | 1, _, _ => exact ⟨rfl, rfl, rfl⟩
  | 2, _, _ => exact ⟨rfl, rfl, rfl⟩
  | 3, _, _ => exact ⟨rfl, rfl, rfl⟩
  | 4, _, _ => exact ⟨rfl, rfl, rfl⟩
  | 5, _, _ => exact ⟨rfl, rfl, rfl⟩
  | 6, _, _ => exact ⟨rfl, rfl, rfl⟩
theorem form_at (F : ByteArray) (l : List UInt8) (hF : F = ⟨l.toArray⟩) (i : Nat) (h : i < F.size) : ((F[i]'h).toNat : Int) = ((l.getD i 105).toNat : Int) := by
  subst hF
  have h' : i < l.length := by simpa [ByteArray.size] using h
  rw [List.getD_eq_getElem?_getD, List.getElem?_eq_getElem h', Option.getD_some]
  simp [ByteArray.getElem_eq_getElem_data]
theorem own_three {w : World} {g t : Nat} {x y z : Value} (h : w.heap[g]? = some (.cells #[x, y, z] t (0, 0))) :
    w.cell? ⟨g, 0, none⟩ = some x ∧ w.cell? ⟨g, 1, none⟩ = some y ∧ w.cell? ⟨g, 2, none⟩ = some z :=
  ⟨by rw [Lib.cell_of_heap h]; rfl, by rw [Lib.cell_of_heap h]; rfl, by rw [Lib.cell_of_heap h]; rfl⟩
theorem list_far {w : World} {B g j : Nat} {u v : Value} {xs : List ByteArray} (h : Kd.R Kd.string 9 w B (fun _ => True) v xs) (hg : g < B) : Kd.R Kd.string 9 (w.setCell ⟨g, j, none⟩ u) B (fun _ => True) v xs :=
  Kd.R_mono (Kd.R_far (p := ⟨g, j, none⟩) (Kd.R_bound h) (fun k hk => by have := hk.2.1; show k ≠ g; omega) u) (fun _ _ => trivial)
theorem strInfo : (Tryd.prog.info? 9).map (fun i => (i.zero, i.size, i.bytes)) = some (some (.string ⟨#[]⟩), 1, 16) := by kernel_rfl
theorem go_end (s : ByteArray) (K p : Nat) (acc : List ByteArray) (h : ¬ skipB s p < s.size) : cmdGo s K (wordsF s p) acc = if acc.length < (formOf K).length then bad s.size else (K, acc, 0, 0) := by
  rw [wordsF, dif_neg h]; rfl
theorem go_bad (s : ByteArray) (K p a e : Nat) (ok : Bool) (acc : List ByteArray) (h : skipB s p < s.size) (hn : nextW s p = (a, e, ok))
    (hb : ¬ ((acc.length < (formOf K).length ∨ K = 3) ∧ ok = true ∧ fitM (sub s a e).data.toList (((formOf K).getD acc.length 105).toNat : Int) = true)) : cmdGo s K (wordsF s p) acc = bad a := by
  rw [wordsF, dif_pos h, hn]
  cases ok
  · simp [cmdGo]
  · simp only [if_true, cmdGo]
    by_cases h1 : acc.length < (formOf K).length ∨ K = 3
    · rw [if_pos h1, if_neg (fun h2 => hb ⟨h1, rfl, h2.2⟩)]
    · rw [if_neg h1]
theorem go_on (s : ByteArray) (K p a e : Nat) (acc : List ByteArray) (h : skipB s p < s.size) (hn : nextW s p = (a, e, true))
    (h1 : acc.length < (formOf K).length ∨ K = 3) (hf : fitM (sub s a e).data.toList (((formOf K).getD acc.length 105).toNat : Int) = true) : cmdGo s K (wordsF s p) acc = cmdGo s K (wordsF s e) (acc ++ [sub s a e]) := by
  rw [wordsF, dif_pos h, hn]
  simp only [if_true]
  conv => lhs; unfold cmdGo
  rw [if_pos h1, if_pos ⟨rfl, hf⟩]
/-- the command that was found in k rounds -/
def kdAt (ok : Bool) (t : List UInt8) (k : Nat) : Nat := if ok = true ∧ kindOf t < k then kindOf t else 0
theorem kdAt_0 (ok : Bool) (t : List UInt8) : kdAt ok t 0 = 0 := by unfold kdAt; rw [if_neg (by omega)]
theorem cmd_at0 : ∀ w, (Instr.index 49 (.agg cmdArr) (.int .i64 0)).run Tryd.prog w = .ok (.agg #[.string ⟨#[]⟩, .string ⟨#[]⟩, .bool false]) w := fun _ => by kernel_rfl
theorem cmd_at1 : ∀ w, (Instr.index 49 (.agg cmdArr) (.int .i64 1)).run Tryd.prog w = .ok (.agg #[.string ⟨#[115, 111, 117, 114, 99, 101]⟩, .string ⟨#[110, 116]⟩, .bool false]) w := fun _ => by kernel_rfl
theorem cmd_at2 : ∀ w, (Instr.index 49 (.agg cmdArr) (.int .i64 2)).run Tryd.prog w = .ok (.agg #[.string ⟨#[98, 117, 105, 108, 100]⟩, .string ⟨#[110, 110, 105]⟩, .bool false]) w := fun _ => by kernel_rfl
theorem cmd_at3 : ∀ w, (Instr.index 49 (.agg cmdArr) (.int .i64 3)).run Tryd.prog w = .ok (.agg #[.string ⟨#[115, 116, 97, 114, 116]⟩, .string ⟨#[110, 110, 110, 105]⟩, .bool true]) w := fun _ => by kernel_rfl
theorem cmd_at4 : ∀ w, (Instr.index 49 (.agg cmdArr) (.int .i64 4)).run Tryd.prog w = .ok (.agg #[.string ⟨#[115, 116, 101, 112]⟩, .string ⟨#[110, 105]⟩, .bool false]) w := fun _ => by kernel_rfl
theorem cmd_at5 : ∀ w, (Instr.index 49 (.agg cmdArr) (.int .i64 5)).run Tryd.prog w = .ok (.agg #[.string ⟨#[115, 104, 111, 119]⟩, .string ⟨#[110]⟩, .bool false]) w := fun _ => by kernel_rfl
theorem cmd_at6 : ∀ w, (Instr.index 49 (.agg cmdArr) (.int .i64 6)).run Tryd.prog w = .ok (.agg #[.string ⟨#[100, 114, 111, 112]⟩, .string ⟨#[110]⟩, .bool false]) w := fun _ => by kernel_rfl
theorem kdAt_no (t : List UInt8) (k : Nat) : kdAt false t k = 0 := by unfold kdAt; rw [if_neg (by simp)]
theorem kdAt_hit {t : List UInt8} {k : Nat} (h : kindOf t = k) : kdAt true t (k + 1) = k := by unfold kdAt; rw [if_pos ⟨rfl, by omega⟩, h]
theorem kdAt_miss {ok : Bool} {t : List UInt8} {k : Nat} (h : kindOf t ≠ k) : kdAt ok t (k + 1) = kdAt ok t k := by
  unfold kdAt
  by_cases h1 : ok = true ∧ kindOf t < k
  · rw [if_pos h1, if_pos ⟨h1.1, by omega⟩]
  · rw [if_neg h1, if_neg (fun h2 => h1 ⟨h2.1, by omega⟩)]
theorem kdAt_1 (ok : Bool) (t : List UInt8) : kdAt ok t 1 = 0 := by unfold kdAt; split <;> omega
theorem kdAt_7 (ok : Bool) (t : List UInt8) (h : kindOf t < 7) : kdAt ok t 7 = if ok = true then kindOf t else 0 := by
  unfold kdAt
  cases ok <;> simp [h]
theorem kindOf_lt (t : List UInt8) : kindOf t < 7 := by unfold kindOf; repeat' split
                                                        all_goals omega
theorem kind_1 {t : List UInt8} (h : kindOf t = 1) : t = [115, 111, 117, 114, 99, 101] := by
  unfold kindOf at h
  repeat' split at h
  all_goals first | assumption | omega
theorem kind_2 {t : List UInt8} (h : kindOf t = 2) : t = [98, 117, 105, 108, 100] := by
  unfold kindOf at h
  repeat' split at h
  all_goals first | assumption | omega
theorem kind_3 {t : List UInt8} (h : kindOf t = 3) : t = [115, 116, 97, 114, 116] := by
  unfold kindOf at h
  repeat' split at h
  all_goals first | assumption | omega
theorem kind_4 {t : List UInt8} (h : kindOf t = 4) : t = [115, 116, 101, 112] := by
  unfold kindOf at h
  repeat' split at h
  all_goals first | assumption | omega
theorem kind_5 {t : List UInt8} (h : kindOf t = 5) : t = [115, 104, 111, 119] := by
  unfold kindOf at h
  repeat' split at h
  all_goals first | assumption | omega
theorem kind_6 {t : List UInt8} (h : kindOf t = 6) : t = [100, 114, 111, 112] := by
  unfold kindOf at h
  repeat' split at h
  all_goals first | assumption | omega


set_option maxRecDepth 100000 in
set_option maxHeartbeats 1000000 in
theorem command_w (s : ByteArray) (w : World) (hs : s.size ≤ 1000000) (hg : Gc w) :
    Calls Tryd.prog 9 #[.string s] w fun e w' => ∃ v, e = .returned (.tuple #[.int .u8 ((cmdM s).1 : Nat), v, .agg #[.int .i64 (cmdM s).2.2.1, .int .i64 ((cmdM s).2.2.2 : Nat)]]) ∧ Kd.R Kd.string 9 w' w.heap.size (fun _ => True) v (cmdM s).2.1 ∧ Below w.heap.size w w' := by
  have hs2 : s.size ≤ 4611686018427387904 := by omega
  obtain ⟨a, e, ok, hn⟩ : ∃ a e ok, nextW s 0 = (a, e, ok) := ⟨_, _, _, rfl⟩
  have ha : skipB s 0 = a := by rw [← next_at, hn]
  have hale := skipB_le s 0 (Nat.zero_le _)
  rw [ha] at hale
  have HG := Lib.hid hg
  have HN := Lib.hid hn
  clear hg hn
  by_cases hend : a = s.size
  · have HM := Lib.hid (show cmdM s = bad 0 from by unfold cmdM; rw [wordsF, dif_neg (by omega)])
    subst hend
    clear ha
    go_enter Tryd.func9, Tryd.ntmps9
    go_wp2_with (go_at_call 23; (with_reducible refine (next_0 s hs2 _ _ _ HN.out _).mono ?_); rintro e w' ⟨rfl, ⟨nd, rfl⟩⟩)
    with_reducible refine (wrong_w 0 _).mono ?_
    rintro e w1 ⟨rfl, hb1⟩
    have hblk : w1.heap[w.heap.size]? = some (.cells #[.int .i64 0, .int .i64 0] 27 (0, 0)) := by
      rw [hb1.block _ (by simp)]; exact new_block w _
    have hb0 : Below w.heap.size w ((w.alloc (.cells #[.int .i64 0, .int .i64 0] 27)).drewN nd) := by
      repeat (first | exact Below.refl _ _ | apply below_alloc | apply pw_below_drewN | apply below_drew1)
    have hbw : Below w.heap.size w w1 := hb0.trans (hb1.mono hb0.size)
    obtain ⟨c0, c1, f0, f1, hz⟩ := own_two hblk
    go_wp2
    exact bodyPost_ret (v := .tuple #[.int .u8 0, .slice none 0 0, .agg #[.int .i64 410, .int .i64 0]]) (by simp [results, Tryd.results9, go_sem, c0, c1, hz]) rfl ⟨.slice none 0 0, by rw [HM.out]; rfl, by rw [HM.out]; exact Kd.R_nil _ _ _ _ _, by repeat (first | exact hbw | refine below_set ?_ (Nat.le_refl _))⟩
  · have haN := next_end s 0 (by omega)
    rw [HN.out, ha] at haN
    have hlt : a < s.size := by omega
    have hae : a < e := haN.1
    have hes : e ≤ s.size := haN.2
    have d0 : ((a : Int) == (s.size : Int)) = false := beq_eq_false_iff_ne.2 (by omega)
    have HA := Lib.hid ha
    clear ha hend haN hale
    obtain ⟨ty, fr, hrow⟩ := HG.out.row
    have hz0 : 0 < w.heap.size := by have := HG.out.gl.big; omega
    have HR : Hid (∀ (o : Obj) (n : Nat), ((w.alloc o).drewN n).heap[0]? = some (.cells cmdArr ty fr)) := Lib.hid (fun o n => by
      show (w.heap.push o)[0]? = _
      rw [Array.getElem?_push_lt hz0]
      rw [← hrow, Array.getElem?_eq_getElem hz0])
    clear hrow
    go_enter Tryd.func9, Tryd.ntmps9
    go_wp2_with (first | (go_at_call 23; (with_reducible refine (next_0 s hs2 _ _ _ HN.out _).mono ?_); rintro e w' ⟨rfl, ⟨nd, rfl⟩⟩) | (refine wpList_load_row rfl 49 _ rfl 0 rfl ty _ fr _ (HR.out _ _) Tryd.underlying49 rfl (by kernel_rfl) ?_))
    have hb0 : Below w.heap.size w ((w.alloc (.cells #[.int .i64 0, .int .i64 0] 27)).drewN nd) := by
      repeat (first | exact Below.refl _ _ | apply below_alloc | apply pw_below_drewN | apply below_drew1)
    have hk0 : ((w.alloc (.cells #[.int .i64 0, .int .i64 0] 27)).drewN nd).heap[w.heap.size]? = some (.cells #[.int .i64 0, .int .i64 0] 27 (0, 0)) := new_block w _
    generalize ((w.alloc (.cells #[.int .i64 0, .int .i64 0] 27)).drewN nd) = W1 at *
    clear HR
    have HK0 := Lib.hid hk0
    clear hk0
    go_loopw [9, 32] (fun v9 v32 wr => ∃ k : Nat, k ≤ 7 ∧ v32 = .int .i64 k ∧ v9 = .int .u8 (kdAt ok (sub s a e).data.toList k : Nat) ∧ Below W1.heap.size W1 wr) (fun _ v32 _ => 7 - (intOf v32).toNat)
    case atStart => exact ⟨0, Nat.zero_le _, rfl, by rw [kdAt_0]; rfl, Below.refl _ _⟩
    case round =>
      obtain ⟨k, hk, rfl, rfl, hbk⟩ := hrel
      by_cases hk7 : k = 7
      · subst hk7
        rw [kdAt_7 _ _ (kindOf_lt _)]
        have hbW : Below w.heap.size w wr := hb0.trans (hbk.mono hb0.size)
        have hblk : wr.heap[w.heap.size]? = some (.cells #[.int .i64 0, .int .i64 0] 27 (0, 0)) := by rw [hbk.block _ (Array.getElem?_eq_some_iff.1 HK0.out).1]; exact HK0.out
        by_cases hgood : ok = true ∧ kindOf (sub s a e).data.toList ≠ 0
        · obtain ⟨rfl, hkd⟩ := hgood
          rw [if_pos rfl]
          obtain ⟨K, hK⟩ : ∃ K, kindOf (sub s a e).data.toList = K := ⟨_, rfl⟩
          rw [hK] at hkd ⊢
          have hK7 : K < 7 := hK ▸ kindOf_lt _
          have HM := Lib.hid (show cmdM s = cmdGo s K (wordsF s e) [] from by
            unfold cmdM; rw [wordsF, dif_pos (by rw [HA.out]; omega), HN.out]; simp only [if_true]; rw [if_pos ⟨trivial, by rw [hK]; exact hkd⟩, hK])
          have dk : ((K : Int) == 0) = false := beq_eq_false_iff_ne.2 (by omega)
          have hk1 : 1 ≤ K := by omega
          obtain ⟨ty2, fr2, hrow2⟩ := (HG.out.below hbW).row
          have hcell : ∀ i, wr.cell? ⟨0, i, none⟩ = cmdArr[i]? := fun i => by rw [Lib.cell_of_heap hrow2]
          have c0 : wr.cell? ⟨0, K * 3, none⟩ = some (.string ⟨(wordOf K).toArray⟩) := by rw [hcell]; exact (cmd_cells K hk1 hK7).1
          obtain ⟨F, hF⟩ : ∃ F : ByteArray, F = ⟨(formOf K).toArray⟩ := ⟨_, rfl⟩
          have hFs : F.size = (formOf K).length := by rw [hF]; simp [ByteArray.size]
          have hFx : ∀ i (h : i < F.size), ((F[i]'h).toNat : Int) = (((formOf K).getD i 105).toNat : Int) := fun i h => form_at F _ hF i h
          have c1 : wr.cell? ⟨0, K * 3 + 1, none⟩ = some (.string F) := by rw [hcell, hF]; exact (cmd_cells K hk1 hK7).2.1
          have HF := Lib.hid hFs
          have HX := Lib.hid hFx
          clear hF hFs hFx
          obtain ⟨m3, hm3⟩ : ∃ m, (K == 3) = m := ⟨_, rfl⟩
          have c2 : wr.cell? ⟨0, K * 3 + 2, none⟩ = some (.bool m3) := by rw [hcell, ← hm3]; exact (cmd_cells K hk1 hK7).2.2
          have HM3 := Lib.hid hm3
          clear hm3
          clear hrow2 hkd hK hcell
          go_wp2
          have hb2 : Below w.heap.size w (wr.alloc (.cells #[.string ⟨(wordOf K).toArray⟩, .string F, .bool m3] 48)) := by
            repeat (first | exact hbW | apply below_alloc)
          have hkA : (wr.alloc (.cells #[.string ⟨(wordOf K).toArray⟩, .string F, .bool m3] 48)).heap[w.heap.size]? = some (.cells #[.int .i64 0, .int .i64 0] 27 (0, 0)) := by
            rw [Lib.alloc_old wr _ _ (Array.getElem?_eq_some_iff.1 hblk).1]; exact hblk
          have hkB := new_block wr (.cells #[.string ⟨(wordOf K).toArray⟩, .string F, .bool m3] 48)
          generalize (wr.alloc (.cells #[.string ⟨(wordOf K).toArray⟩, .string F, .bool m3] 48)) = W2 at *
          generalize wr.heap.size = g12 at *
          have HKA := Lib.hid hkA
          have HKB := Lib.hid hkB
          clear hkA hkB c0 c1 c2 hblk
          go_loopw [7, 13] (fun v7 v13 wx => ∃ (p : Nat) (acc : List ByteArray), v7 = .int .i64 p ∧ p ≤ s.size ∧ acc.length ≤ p ∧ Hid (Kd.R Kd.string 9 wx W2.heap.size (fun _ => True) v13 acc) ∧ Hid (Below W2.heap.size W2 wx) ∧ Hid (cmdGo s K (wordsF s p) acc = cmdM s)) (fun v7 _ _ => s.size - (intOf v7).toNat)
          case atStart => exact ⟨e, [], rfl, hes, by simp, Lib.hid (Kd.R_nil _ _ _ _ _), Lib.hid (Below.refl _ _), Lib.hid HM.out.symm⟩
          case round =>
            obtain ⟨p, acc, rfl, hp, hap, HRR, HBx, HQ0⟩ := hrel
            clear HN HA HK0 HM
            obtain ⟨A, cc, rfl⟩ := Kd.R_slice HRR.out
            obtain ⟨a2, e2, ok2, hn2⟩ : ∃ a e ok, nextW s p = (a, e, ok) := ⟨_, _, _, rfl⟩
            have ha2 : skipB s p = a2 := by rw [← next_at, hn2]
            have hal2 := skipB_le s p hp
            have hag2 := skipB_ge s p
            rw [ha2] at hal2 hag2
            have hbx : Below w.heap.size w wr := hb2.trans (HBx.out.mono hb2.size)
            have hk3 : wr.heap[w.heap.size]? = some (.cells #[.int .i64 0, .int .i64 0] 27 (0, 0)) := by rw [HBx.out.block _ (Array.getElem?_eq_some_iff.1 HKA.out).1]; exact HKA.out
            have hk12 : wr.heap[g12]? = some (.cells #[.string ⟨(wordOf K).toArray⟩, .string F, .bool m3] 48 (0, 0)) := by rw [HBx.out.block _ (Array.getElem?_eq_some_iff.1 HKB.out).1]; exact HKB.out
            have hgB : w.heap.size < W2.heap.size := (Array.getElem?_eq_some_iff.1 HKA.out).1
            have HN2 := Lib.hid hn2
            have HA2 := Lib.hid ha2
            clear hn2 ha2
            by_cases hend2 : a2 = s.size
            · have dE : ((a2 : Int) == (s.size : Int)) = true := beq_iff_eq.2 (by omega)
              have HG0 := Lib.hid (go_end s K p acc (by rw [HA2.out]; omega))
              clear hend2
              by_cases hfew : acc.length < F.size
              · have HQ : Hid (cmdM s = bad s.size) := Lib.hid (by rw [← HQ0.out, HG0.out, if_pos (by rw [← HF.out]; exact hfew)])
                go_wp2_with fail
                with_reducible refine (next_p s hs2 p a2 e2 ok2 hp HN2.out _).mono ?_
                rintro e w' ⟨rfl, ⟨nd, rfl⟩⟩
                obtain ⟨wy, hwy⟩ : ∃ wy, wr.drewN nd = wy := ⟨_, rfl⟩
                have hky : wy.heap[w.heap.size]? = some (.cells #[.int .i64 0, .int .i64 0] 27 (0, 0)) := by rw [← hwy]; exact hk3
                have hkz := hk12
                rw [show wr.heap[g12]? = wy.heap[g12]? from by rw [← hwy]; rfl] at hkz
                have hby : Below w.heap.size w wy := by rw [← hwy]; exact pw_below_drewN hbx nd
                have hbz : Below W2.heap.size W2 wy := by rw [← hwy]; exact pw_below_drewN HBx.out nd
                have hry : Kd.R Kd.string 9 wy W2.heap.size (fun _ => True) (.slice A acc.length cc) acc := by rw [← hwy]; exact Kd.R_drewN HRR.out nd
                rw [hwy]
                clear hwy hk3 hk12 hbx
                obtain ⟨q0, q1, q2⟩ := own_three hkz
                obtain ⟨z0, z1, z2, z3, z4⟩ := own_two hky
                have HRY := Lib.hid hry
                clear hry
                go_wp2_with fail
                with_reducible refine (wrong_w s.size _).mono ?_
                rintro e w4 ⟨rfl, hb4⟩
                have hk4 : w4.heap[w.heap.size]? = some (.cells #[.int .i64 0, .int .i64 0] 27 (0, 0)) := by rw [hb4.block _ (Array.getElem?_eq_some_iff.1 hky).1]; exact hky
                have hb5 := hby.trans (hb4.mono hby.size)
                obtain ⟨c0, c1, f0, f1, hz⟩ := own_two hk4
                go_wp2
                exact bodyPost_ret (v := .tuple #[.int .u8 0, .slice none 0 0, .agg #[.int .i64 410, .int .i64 s.size]]) (by simp [results, Tryd.results9, go_sem, c0, c1, hz]) rfl ⟨.slice none 0 0, by rw [HQ.out]; rfl, by rw [HQ.out]; exact Kd.R_nil _ _ _ _ _, by repeat (first | exact hb5 | refine below_set ?_ (Nat.le_refl _))⟩
              · have HQ : Hid (cmdM s = (K, acc, 0, 0)) := Lib.hid (by rw [← HQ0.out, HG0.out, if_neg (by rw [← HF.out]; exact hfew)])
                go_wp2_with fail
                with_reducible refine (next_p s hs2 p a2 e2 ok2 hp HN2.out _).mono ?_
                rintro e w' ⟨rfl, ⟨nd, rfl⟩⟩
                obtain ⟨wy, hwy⟩ : ∃ wy, wr.drewN nd = wy := ⟨_, rfl⟩
                have hky : wy.heap[w.heap.size]? = some (.cells #[.int .i64 0, .int .i64 0] 27 (0, 0)) := by rw [← hwy]; exact hk3
                have hkz := hk12
                rw [show wr.heap[g12]? = wy.heap[g12]? from by rw [← hwy]; rfl] at hkz
                have hby : Below w.heap.size w wy := by rw [← hwy]; exact pw_below_drewN hbx nd
                have hbz : Below W2.heap.size W2 wy := by rw [← hwy]; exact pw_below_drewN HBx.out nd
                have hry : Kd.R Kd.string 9 wy W2.heap.size (fun _ => True) (.slice A acc.length cc) acc := by rw [← hwy]; exact Kd.R_drewN HRR.out nd
                rw [hwy]
                clear hwy hk3 hk12 hbx
                obtain ⟨q0, q1, q2⟩ := own_three hkz
                obtain ⟨z0, z1, z2, z3, z4⟩ := own_two hky
                have HRY := Lib.hid hry
                clear hry
                go_wp2
                exact bodyPost_ret (v := .tuple #[.int .u8 K, .slice A acc.length cc, .agg #[.int .i64 0, .int .i64 0]]) (by simp [results, Tryd.results9, go_sem, z0, z1, z4]) rfl ⟨.slice A acc.length cc, by rw [HQ.out]; rfl, by rw [HQ.out]; refine Kd.R_lower (base := W2.heap.size) ?_ hb2.size; repeat (first | exact HRY.out | refine list_far ?_ hgB), by repeat (first | exact hby | refine below_set ?_ (Nat.le_refl _))⟩
            · have dE : ((a2 : Int) == (s.size : Int)) = false := beq_eq_false_iff_ne.2 (by omega)
              have hlt2 : a2 < s.size := by omega
              have hen2 := next_end s p (by rw [HA2.out]; exact hlt2)
              rw [HA2.out, HN2.out] at hen2
              have he1 : a2 < e2 := hen2.1
              have he2 : e2 ≤ s.size := hen2.2
              clear hend2 hen2
              have hsub : (sub s a2 e2).size ≤ 1000000 := by unfold sub; rw [ByteArray.size_extract]; omega
              by_cases hlen : acc.length < F.size
              · obtain ⟨kd, hkd⟩ : ∃ kd : Int, (((formOf K).getD acc.length 105).toNat : Int) = kd := ⟨_, rfl⟩
                have hxk : ∀ h : acc.length < F.size, ((F[acc.length]'h).toNat : Int) = kd := fun h => by rw [← hkd]; exact HX.out _ h
                have dl : decide ((acc.length : Int) < (F.size : Int)) = true := decide_eq_true (by omega)
                cases ok2 with
                | false =>
                  have HQ : Hid (cmdM s = bad a2) := Lib.hid (by rw [← HQ0.out]; exact go_bad s K p a2 e2 false acc (by rw [HA2.out]; exact hlt2) HN2.out (fun h => by simp at h))
                  go_wp2_with fail
                  with_reducible refine (next_p s hs2 p a2 e2 false hp HN2.out _).mono ?_
                  rintro e w' ⟨rfl, ⟨nd, rfl⟩⟩
                  obtain ⟨wy, hwy⟩ : ∃ wy, wr.drewN nd = wy := ⟨_, rfl⟩
                  have hky : wy.heap[w.heap.size]? = some (.cells #[.int .i64 0, .int .i64 0] 27 (0, 0)) := by rw [← hwy]; exact hk3
                  have hkz := hk12
                  rw [show wr.heap[g12]? = wy.heap[g12]? from by rw [← hwy]; rfl] at hkz
                  have hby : Below w.heap.size w wy := by rw [← hwy]; exact pw_below_drewN hbx nd
                  have hbz : Below W2.heap.size W2 wy := by rw [← hwy]; exact pw_below_drewN HBx.out nd
                  have hry : Kd.R Kd.string 9 wy W2.heap.size (fun _ => True) (.slice A acc.length cc) acc := by rw [← hwy]; exact Kd.R_drewN HRR.out nd
                  rw [hwy]
                  clear hwy hk3 hk12 hbx
                  obtain ⟨q0, q1, q2⟩ := own_three hkz
                  obtain ⟨z0, z1, z2, z3, z4⟩ := own_two hky
                  have HRY := Lib.hid hry
                  clear hry
                  go_wp2_with fail
                  with_reducible refine (wrong_w a2 _).mono ?_
                  rintro e w4 ⟨rfl, hb4⟩
                  have hk4 : w4.heap[w.heap.size]? = some (.cells #[.int .i64 0, .int .i64 0] 27 (0, 0)) := by rw [hb4.block _ (Array.getElem?_eq_some_iff.1 hky).1]; exact hky
                  have hb5 := hby.trans (hb4.mono hby.size)
                  obtain ⟨c0, c1, f0, f1, hz⟩ := own_two hk4
                  go_wp2
                  exact bodyPost_ret (v := .tuple #[.int .u8 0, .slice none 0 0, .agg #[.int .i64 410, .int .i64 a2]]) (by simp [results, Tryd.results9, go_sem, c0, c1, hz]) rfl ⟨.slice none 0 0, by rw [HQ.out]; rfl, by rw [HQ.out]; exact Kd.R_nil _ _ _ _ _, by repeat (first | exact hb5 | refine below_set ?_ (Nat.le_refl _))⟩
                | true =>
                  by_cases hf : fitM (sub s a2 e2).data.toList kd = true
                  · have hfv : fitM (sub s a2 e2).data.toList kd = true := hf
                    have HGO := Lib.hid (go_on s K p a2 e2 acc (by rw [HA2.out]; exact hlt2) HN2.out (Or.inl (by rw [← HF.out]; exact hlen)) (by rw [hkd]; exact hf))
                    go_wp2_with fail
                    with_reducible refine (next_p s hs2 p a2 e2 true hp HN2.out _).mono ?_
                    rintro e w' ⟨rfl, ⟨nd, rfl⟩⟩
                    obtain ⟨wy, hwy⟩ : ∃ wy, wr.drewN nd = wy := ⟨_, rfl⟩
                    have hky : wy.heap[w.heap.size]? = some (.cells #[.int .i64 0, .int .i64 0] 27 (0, 0)) := by rw [← hwy]; exact hk3
                    have hkz := hk12
                    rw [show wr.heap[g12]? = wy.heap[g12]? from by rw [← hwy]; rfl] at hkz
                    have hby : Below w.heap.size w wy := by rw [← hwy]; exact pw_below_drewN hbx nd
                    have hbz : Below W2.heap.size W2 wy := by rw [← hwy]; exact pw_below_drewN HBx.out nd
                    have hry : Kd.R Kd.string 9 wy W2.heap.size (fun _ => True) (.slice A acc.length cc) acc := by rw [← hwy]; exact Kd.R_drewN HRR.out nd
                    rw [hwy]
                    clear hwy hk3 hk12 hbx
                    obtain ⟨q0, q1, q2⟩ := own_three hkz
                    obtain ⟨z0, z1, z2, z3, z4⟩ := own_two hky
                    have HRY := Lib.hid hry
                    clear hry
                    go_wp2_with fail
                    with_reducible refine (fits_w (sub s a2 e2) kd wy hsub (HG.out.below hby).gl).mono ?_
                    rintro e3 w3 ⟨rfl, hb3⟩
                    rw [hfv]
                    have hbw3 : Below W2.heap.size W2 w3 := hbz.trans (hb3.mono hbz.size)
                    have hr3 : Kd.R Kd.string 9 w3 W2.heap.size (fun _ => True) (.slice A acc.length cc) acc := Kd.R_below HRY.out hb3
                    have HR3 := Lib.hid hr3
                    have HB3 := Lib.hid hbw3
                    have hsz3 := hbw3.size
                    clear hr3 hbw3 hb3 q0 q1 q2 z0 z1 z2 z3 z4 hky hkz hby hbz
                    go_wp2_with (at_builtin; refine Kd.R_append Kd.string (w0 := W2) W2.heap.size rfl (.tmp 115) (.tmp 120) 24 9 (.string ⟨#[]⟩) 16 rfl Tryd.underlying24 strInfo rfl (by decide) (by decide) _ acc (sub s a2 e2) [.string (sub s a2 e2)] (fun _ => True) (fun _ => False) rfl rfl rfl (fun _ h => h.elim) (fun _ _ => trivial) HR3.out HB3.out hsz3 (by omega) ?_)
                    intro v5 w5 hr5 hb5 _ _
                    have HR5 := Lib.hid hr5
                    have HB5 := Lib.hid hb5
                    clear hr5 hb5
                    go_wp2
                    go_roundw
                    case rel => first | exact ⟨e2, _, rfl, he2, by rw [List.length_append]; simp only [List.length_cons, List.length_nil]; omega, HR5, HB5, Lib.hid (by rw [← HGO.out]; exact HQ0.out)⟩ | ((repeat apply Exists.intro); exact ⟨⟨e2, _, rfl, he2, by rw [List.length_append]; simp only [List.length_cons, List.length_nil]; omega, HR5, HB5, Lib.hid (by rw [← HGO.out]; exact HQ0.out)⟩, rfl⟩)
                    case measure => simp [intOf]; omega
                  · have hfv : fitM (sub s a2 e2).data.toList kd = false := Bool.eq_false_iff.2 hf
                    have HQ : Hid (cmdM s = bad a2) := Lib.hid (by rw [← HQ0.out]; exact go_bad s K p a2 e2 true acc (by rw [HA2.out]; exact hlt2) HN2.out (fun h => hf (by have := h.2.2; rw [hkd] at this; exact this)))
                    go_wp2_with fail
                    with_reducible refine (next_p s hs2 p a2 e2 true hp HN2.out _).mono ?_
                    rintro e w' ⟨rfl, ⟨nd, rfl⟩⟩
                    obtain ⟨wy, hwy⟩ : ∃ wy, wr.drewN nd = wy := ⟨_, rfl⟩
                    have hky : wy.heap[w.heap.size]? = some (.cells #[.int .i64 0, .int .i64 0] 27 (0, 0)) := by rw [← hwy]; exact hk3
                    have hkz := hk12
                    rw [show wr.heap[g12]? = wy.heap[g12]? from by rw [← hwy]; rfl] at hkz
                    have hby : Below w.heap.size w wy := by rw [← hwy]; exact pw_below_drewN hbx nd
                    have hbz : Below W2.heap.size W2 wy := by rw [← hwy]; exact pw_below_drewN HBx.out nd
                    have hry : Kd.R Kd.string 9 wy W2.heap.size (fun _ => True) (.slice A acc.length cc) acc := by rw [← hwy]; exact Kd.R_drewN HRR.out nd
                    rw [hwy]
                    clear hwy hk3 hk12 hbx
                    obtain ⟨q0, q1, q2⟩ := own_three hkz
                    obtain ⟨z0, z1, z2, z3, z4⟩ := own_two hky
                    have HRY := Lib.hid hry
                    clear hry
                    go_wp2_with fail
                    with_reducible refine (fits_w (sub s a2 e2) kd wy hsub (HG.out.below hby).gl).mono ?_
                    rintro e3 w3 ⟨rfl, hb3⟩
                    have hky := (show w3.heap[w.heap.size]? = some (.cells #[.int .i64 0, .int .i64 0] 27 (0, 0)) from by rw [hb3.block _ (Array.getElem?_eq_some_iff.1 hky).1]; exact hky)
                    have hby := hby.trans (hb3.mono hby.size)
                    rw [hfv]
                    go_wp2_with fail
                    with_reducible refine (wrong_w a2 _).mono ?_
                    rintro e w4 ⟨rfl, hb4⟩
                    have hk4 : w4.heap[w.heap.size]? = some (.cells #[.int .i64 0, .int .i64 0] 27 (0, 0)) := by rw [hb4.block _ (Array.getElem?_eq_some_iff.1 hky).1]; exact hky
                    have hb5 := hby.trans (hb4.mono hby.size)
                    obtain ⟨c0, c1, f0, f1, hz⟩ := own_two hk4
                    go_wp2
                    exact bodyPost_ret (v := .tuple #[.int .u8 0, .slice none 0 0, .agg #[.int .i64 410, .int .i64 a2]]) (by simp [results, Tryd.results9, go_sem, c0, c1, hz]) rfl ⟨.slice none 0 0, by rw [HQ.out]; rfl, by rw [HQ.out]; exact Kd.R_nil _ _ _ _ _, by repeat (first | exact hb5 | refine below_set ?_ (Nat.le_refl _))⟩
              · have dl : decide ((acc.length : Int) < (F.size : Int)) = false := decide_eq_false (by omega)
                have h105 : (((formOf K).getD acc.length 105).toNat : Int) = 105 := by rw [List.getD_eq_getElem?_getD, List.getElem?_eq_none (by rw [← HF.out]; omega)]; rfl
                have H105 := Lib.hid h105
                clear h105
                by_cases hK3 : K = 3
                · obtain rfl : m3 = true := by rw [← HM3.out]; exact beq_iff_eq.2 hK3
                  have HK3 := Lib.hid hK3
                  clear hK3
                  cases ok2 with
                  | false =>
                    have HQ : Hid (cmdM s = bad a2) := Lib.hid (by rw [← HQ0.out]; exact go_bad s K p a2 e2 false acc (by rw [HA2.out]; exact hlt2) HN2.out (fun h => by simp at h))
                    go_wp2_with fail
                    with_reducible refine (next_p s hs2 p a2 e2 false hp HN2.out _).mono ?_
                    rintro e w' ⟨rfl, ⟨nd, rfl⟩⟩
                    obtain ⟨wy, hwy⟩ : ∃ wy, wr.drewN nd = wy := ⟨_, rfl⟩
                    have hky : wy.heap[w.heap.size]? = some (.cells #[.int .i64 0, .int .i64 0] 27 (0, 0)) := by rw [← hwy]; exact hk3
                    have hkz := hk12
                    rw [show wr.heap[g12]? = wy.heap[g12]? from by rw [← hwy]; rfl] at hkz
                    have hby : Below w.heap.size w wy := by rw [← hwy]; exact pw_below_drewN hbx nd
                    have hbz : Below W2.heap.size W2 wy := by rw [← hwy]; exact pw_below_drewN HBx.out nd
                    have hry : Kd.R Kd.string 9 wy W2.heap.size (fun _ => True) (.slice A acc.length cc) acc := by rw [← hwy]; exact Kd.R_drewN HRR.out nd
                    rw [hwy]
                    clear hwy hk3 hk12 hbx
                    obtain ⟨q0, q1, q2⟩ := own_three hkz
                    obtain ⟨z0, z1, z2, z3, z4⟩ := own_two hky
                    have HRY := Lib.hid hry
                    clear hry
                    go_wp2_with fail
                    with_reducible refine (wrong_w a2 _).mono ?_
                    rintro e w4 ⟨rfl, hb4⟩
                    have hk4 : w4.heap[w.heap.size]? = some (.cells #[.int .i64 0, .int .i64 0] 27 (0, 0)) := by rw [hb4.block _ (Array.getElem?_eq_some_iff.1 hky).1]; exact hky
                    have hb5 := hby.trans (hb4.mono hby.size)
                    obtain ⟨c0, c1, f0, f1, hz⟩ := own_two hk4
                    go_wp2
                    exact bodyPost_ret (v := .tuple #[.int .u8 0, .slice none 0 0, .agg #[.int .i64 410, .int .i64 a2]]) (by simp [results, Tryd.results9, go_sem, c0, c1, hz]) rfl ⟨.slice none 0 0, by rw [HQ.out]; rfl, by rw [HQ.out]; exact Kd.R_nil _ _ _ _ _, by repeat (first | exact hb5 | refine below_set ?_ (Nat.le_refl _))⟩
                  | true =>
                    by_cases hf : fitM (sub s a2 e2).data.toList 105 = true
                    · have hfv : fitM (sub s a2 e2).data.toList 105 = true := hf
                      have HGO := Lib.hid (go_on s K p a2 e2 acc (by rw [HA2.out]; exact hlt2) HN2.out (Or.inr HK3.out) (by rw [H105.out]; exact hf))
                      go_wp2_with fail
                      with_reducible refine (next_p s hs2 p a2 e2 true hp HN2.out _).mono ?_
                      rintro e w' ⟨rfl, ⟨nd, rfl⟩⟩
                      obtain ⟨wy, hwy⟩ : ∃ wy, wr.drewN nd = wy := ⟨_, rfl⟩
                      have hky : wy.heap[w.heap.size]? = some (.cells #[.int .i64 0, .int .i64 0] 27 (0, 0)) := by rw [← hwy]; exact hk3
                      have hkz := hk12
                      rw [show wr.heap[g12]? = wy.heap[g12]? from by rw [← hwy]; rfl] at hkz
                      have hby : Below w.heap.size w wy := by rw [← hwy]; exact pw_below_drewN hbx nd
                      have hbz : Below W2.heap.size W2 wy := by rw [← hwy]; exact pw_below_drewN HBx.out nd
                      have hry : Kd.R Kd.string 9 wy W2.heap.size (fun _ => True) (.slice A acc.length cc) acc := by rw [← hwy]; exact Kd.R_drewN HRR.out nd
                      rw [hwy]
                      clear hwy hk3 hk12 hbx
                      obtain ⟨q0, q1, q2⟩ := own_three hkz
                      obtain ⟨z0, z1, z2, z3, z4⟩ := own_two hky
                      have HRY := Lib.hid hry
                      clear hry
                      go_wp2_with fail
                      with_reducible refine (fits_w (sub s a2 e2) 105 wy hsub (HG.out.below hby).gl).mono ?_
                      rintro e3 w3 ⟨rfl, hb3⟩
                      rw [hfv]
                      have hbw3 : Below W2.heap.size W2 w3 := hbz.trans (hb3.mono hbz.size)
                      have hr3 : Kd.R Kd.string 9 w3 W2.heap.size (fun _ => True) (.slice A acc.length cc) acc := Kd.R_below HRY.out hb3
                      have HR3 := Lib.hid hr3
                      have HB3 := Lib.hid hbw3
                      have hsz3 := hbw3.size
                      clear hr3 hbw3 hb3 q0 q1 q2 z0 z1 z2 z3 z4 hky hkz hby hbz
                      go_wp2_with (at_builtin; refine Kd.R_append Kd.string (w0 := W2) W2.heap.size rfl (.tmp 115) (.tmp 120) 24 9 (.string ⟨#[]⟩) 16 rfl Tryd.underlying24 strInfo rfl (by decide) (by decide) _ acc (sub s a2 e2) [.string (sub s a2 e2)] (fun _ => True) (fun _ => False) rfl rfl rfl (fun _ h => h.elim) (fun _ _ => trivial) HR3.out HB3.out hsz3 (by omega) ?_)
                      intro v5 w5 hr5 hb5 _ _
                      have HR5 := Lib.hid hr5
                      have HB5 := Lib.hid hb5
                      clear hr5 hb5
                      go_wp2
                      go_roundw
                      case rel => first | exact ⟨e2, _, rfl, he2, by rw [List.length_append]; simp only [List.length_cons, List.length_nil]; omega, HR5, HB5, Lib.hid (by rw [← HGO.out]; exact HQ0.out)⟩ | ((repeat apply Exists.intro); exact ⟨⟨e2, _, rfl, he2, by rw [List.length_append]; simp only [List.length_cons, List.length_nil]; omega, HR5, HB5, Lib.hid (by rw [← HGO.out]; exact HQ0.out)⟩, rfl⟩)
                      case measure => simp [intOf]; omega
                    · have hfv : fitM (sub s a2 e2).data.toList 105 = false := Bool.eq_false_iff.2 hf
                      have HQ : Hid (cmdM s = bad a2) := Lib.hid (by rw [← HQ0.out]; exact go_bad s K p a2 e2 true acc (by rw [HA2.out]; exact hlt2) HN2.out (fun h => hf (by have := h.2.2; rw [H105.out] at this; exact this)))
                      go_wp2_with fail
                      with_reducible refine (next_p s hs2 p a2 e2 true hp HN2.out _).mono ?_
                      rintro e w' ⟨rfl, ⟨nd, rfl⟩⟩
                      obtain ⟨wy, hwy⟩ : ∃ wy, wr.drewN nd = wy := ⟨_, rfl⟩
                      have hky : wy.heap[w.heap.size]? = some (.cells #[.int .i64 0, .int .i64 0] 27 (0, 0)) := by rw [← hwy]; exact hk3
                      have hkz := hk12
                      rw [show wr.heap[g12]? = wy.heap[g12]? from by rw [← hwy]; rfl] at hkz
                      have hby : Below w.heap.size w wy := by rw [← hwy]; exact pw_below_drewN hbx nd
                      have hbz : Below W2.heap.size W2 wy := by rw [← hwy]; exact pw_below_drewN HBx.out nd
                      have hry : Kd.R Kd.string 9 wy W2.heap.size (fun _ => True) (.slice A acc.length cc) acc := by rw [← hwy]; exact Kd.R_drewN HRR.out nd
                      rw [hwy]
                      clear hwy hk3 hk12 hbx
                      obtain ⟨q0, q1, q2⟩ := own_three hkz
                      obtain ⟨z0, z1, z2, z3, z4⟩ := own_two hky
                      have HRY := Lib.hid hry
                      clear hry
                      go_wp2_with fail
                      with_reducible refine (fits_w (sub s a2 e2) 105 wy hsub (HG.out.below hby).gl).mono ?_
                      rintro e3 w3 ⟨rfl, hb3⟩
                      have hky := (show w3.heap[w.heap.size]? = some (.cells #[.int .i64 0, .int .i64 0] 27 (0, 0)) from by rw [hb3.block _ (Array.getElem?_eq_some_iff.1 hky).1]; exact hky)
                      have hby := hby.trans (hb3.mono hby.size)
                      rw [hfv]
                      go_wp2_with fail
                      with_reducible refine (wrong_w a2 _).mono ?_
                      rintro e w4 ⟨rfl, hb4⟩
                      have hk4 : w4.heap[w.heap.size]? = some (.cells #[.int .i64 0, .int .i64 0] 27 (0, 0)) := by rw [hb4.block _ (Array.getElem?_eq_some_iff.1 hky).1]; exact hky
                      have hb5 := hby.trans (hb4.mono hby.size)
                      obtain ⟨c0, c1, f0, f1, hz⟩ := own_two hk4
                      go_wp2
                      exact bodyPost_ret (v := .tuple #[.int .u8 0, .slice none 0 0, .agg #[.int .i64 410, .int .i64 a2]]) (by simp [results, Tryd.results9, go_sem, c0, c1, hz]) rfl ⟨.slice none 0 0, by rw [HQ.out]; rfl, by rw [HQ.out]; exact Kd.R_nil _ _ _ _ _, by repeat (first | exact hb5 | refine below_set ?_ (Nat.le_refl _))⟩
                · obtain rfl : m3 = false := by rw [← HM3.out]; exact beq_eq_false_iff_ne.2 hK3
                  have HQ : Hid (cmdM s = bad a2) := Lib.hid (by rw [← HQ0.out]; exact go_bad s K p a2 e2 ok2 acc (by rw [HA2.out]; exact hlt2) HN2.out (fun h => h.1.elim (fun h1 => hlen (by rw [HF.out]; exact h1)) hK3))
                  clear hK3
                  go_wp2_with fail
                  with_reducible refine (next_p s hs2 p a2 e2 ok2 hp HN2.out _).mono ?_
                  rintro e w' ⟨rfl, ⟨nd, rfl⟩⟩
                  obtain ⟨wy, hwy⟩ : ∃ wy, wr.drewN nd = wy := ⟨_, rfl⟩
                  have hky : wy.heap[w.heap.size]? = some (.cells #[.int .i64 0, .int .i64 0] 27 (0, 0)) := by rw [← hwy]; exact hk3
                  have hkz := hk12
                  rw [show wr.heap[g12]? = wy.heap[g12]? from by rw [← hwy]; rfl] at hkz
                  have hby : Below w.heap.size w wy := by rw [← hwy]; exact pw_below_drewN hbx nd
                  have hbz : Below W2.heap.size W2 wy := by rw [← hwy]; exact pw_below_drewN HBx.out nd
                  have hry : Kd.R Kd.string 9 wy W2.heap.size (fun _ => True) (.slice A acc.length cc) acc := by rw [← hwy]; exact Kd.R_drewN HRR.out nd
                  rw [hwy]
                  clear hwy hk3 hk12 hbx
                  obtain ⟨q0, q1, q2⟩ := own_three hkz
                  obtain ⟨z0, z1, z2, z3, z4⟩ := own_two hky
                  have HRY := Lib.hid hry
                  clear hry
                  go_wp2_with fail
                  with_reducible refine (wrong_w a2 _).mono ?_
                  rintro e w4 ⟨rfl, hb4⟩
                  have hk4 : w4.heap[w.heap.size]? = some (.cells #[.int .i64 0, .int .i64 0] 27 (0, 0)) := by rw [hb4.block _ (Array.getElem?_eq_some_iff.1 hky).1]; exact hky
                  have hb5 := hby.trans (hb4.mono hby.size)
                  obtain ⟨c0, c1, f0, f1, hz⟩ := own_two hk4
                  go_wp2
                  exact bodyPost_ret (v := .tuple #[.int .u8 0, .slice none 0 0, .agg #[.int .i64 410, .int .i64 a2]]) (by simp [results, Tryd.results9, go_sem, c0, c1, hz]) rfl ⟨.slice none 0 0, by rw [HQ.out]; rfl, by rw [HQ.out]; exact Kd.R_nil _ _ _ _ _, by repeat (first | exact hb5 | refine below_set ?_ (Nat.le_refl _))⟩
        · have hk : (if ok = true then kindOf (sub s a e).data.toList else 0) = 0 := by
            cases ok
            · rfl
            · rw [if_pos rfl]; exact Classical.not_not.1 (fun h => hgood ⟨rfl, h⟩)
          rw [hk]
          have HQ : Hid (cmdM s = bad a) := Lib.hid (by
            unfold cmdM; rw [wordsF, dif_pos (by rw [HA.out]; omega), HN.out]
            cases ok
            · simp
            · simp only [if_true]; rw [if_neg (fun h => hgood ⟨rfl, h.2⟩)])
          clear hk hgood
          have hky := hblk
          have hby := hbW
          go_wp2_with fail
          with_reducible refine (wrong_w a _).mono ?_
          rintro e w4 ⟨rfl, hb4⟩
          have hk4 : w4.heap[w.heap.size]? = some (.cells #[.int .i64 0, .int .i64 0] 27 (0, 0)) := by rw [hb4.block _ (Array.getElem?_eq_some_iff.1 hky).1]; exact hky
          have hb5 := hby.trans (hb4.mono hby.size)
          obtain ⟨c0, c1, f0, f1, hz⟩ := own_two hk4
          go_wp2
          exact bodyPost_ret (v := .tuple #[.int .u8 0, .slice none 0 0, .agg #[.int .i64 410, .int .i64 a]]) (by simp [results, Tryd.results9, go_sem, c0, c1, hz]) rfl ⟨.slice none 0 0, by rw [HQ.out]; rfl, by rw [HQ.out]; exact Kd.R_nil _ _ _ _ _, by repeat (first | exact hb5 | refine below_set ?_ (Nat.le_refl _))⟩
      · match k, hk, hk7 with
        | 0, _, _ =>
          have hi := cmd_at0
          cases ok
          all_goals
            go_wp2_with fail
            go_quiet (fail)
            go_wp2
            go_roundw
            case rel => exact ⟨1, by omega, rfl, by rw [kdAt_1]; rfl, by repeat (first | exact hbk | apply below_alloc | apply pw_below_drewN | apply below_drew1 | refine below_set ?_ (by have := hbk.size; simp; omega))⟩
            case measure => simp [intOf]
        | 1, _, _ =>
          have hi := cmd_at1
          cases ok with
          | false =>
            rw [kdAt_no]
            go_wp2_with fail
            go_quiet (fail)
            go_wp2
            go_roundw
            case rel => exact ⟨2, by omega, rfl, by rw [kdAt_no], by repeat (first | exact hbk | apply below_alloc | apply pw_below_drewN | apply below_drew1 | refine below_set ?_ (by have := hbk.size; simp; omega))⟩
            case measure => simp [intOf]
          | true =>
            by_cases hq : (sub s a e).data.toList = [115, 111, 117, 114, 99, 101]
            · have dq : ((s.extract a e).toList == [115, 111, 117, 114, 99, 101]) = true := by rw [ByteArray.toList_eq]; exact beq_iff_eq.2 hq
              have HH := Lib.hid (kdAt_hit (t := (sub s a e).data.toList) (k := 1) (by rw [hq]; rfl))
              clear hq
              go_wp2_with fail
              go_quiet (fail)
              go_wp2
              go_roundw
              case rel => exact ⟨2, by omega, rfl, by rw [HH.out]; rfl, by repeat (first | exact hbk | apply below_alloc | apply pw_below_drewN | apply below_drew1 | refine below_set ?_ (by have := hbk.size; simp; omega))⟩
              case measure => simp [intOf]
            · have dq : ((s.extract a e).toList == [115, 111, 117, 114, 99, 101]) = false := by rw [ByteArray.toList_eq]; exact beq_eq_false_iff_ne.2 hq
              have HH := Lib.hid (kdAt_miss (ok := true) (t := (sub s a e).data.toList) (k := 1) (fun h => hq (kind_1 h)))
              clear hq
              go_wp2_with fail
              go_quiet (fail)
              go_wp2
              go_roundw
              case rel => exact ⟨2, by omega, rfl, by rw [HH.out], by repeat (first | exact hbk | apply below_alloc | apply pw_below_drewN | apply below_drew1 | refine below_set ?_ (by have := hbk.size; simp; omega))⟩
              case measure => simp [intOf]
        | 2, _, _ =>
          have hi := cmd_at2
          cases ok with
          | false =>
            rw [kdAt_no]
            go_wp2_with fail
            go_quiet (fail)
            go_wp2
            go_roundw
            case rel => exact ⟨3, by omega, rfl, by rw [kdAt_no], by repeat (first | exact hbk | apply below_alloc | apply pw_below_drewN | apply below_drew1 | refine below_set ?_ (by have := hbk.size; simp; omega))⟩
            case measure => simp [intOf]
          | true =>
            by_cases hq : (sub s a e).data.toList = [98, 117, 105, 108, 100]
            · have dq : ((s.extract a e).toList == [98, 117, 105, 108, 100]) = true := by rw [ByteArray.toList_eq]; exact beq_iff_eq.2 hq
              have HH := Lib.hid (kdAt_hit (t := (sub s a e).data.toList) (k := 2) (by rw [hq]; rfl))
              clear hq
              go_wp2_with fail
              go_quiet (fail)
              go_wp2
              go_roundw
              case rel => exact ⟨3, by omega, rfl, by rw [HH.out]; rfl, by repeat (first | exact hbk | apply below_alloc | apply pw_below_drewN | apply below_drew1 | refine below_set ?_ (by have := hbk.size; simp; omega))⟩
              case measure => simp [intOf]
            · have dq : ((s.extract a e).toList == [98, 117, 105, 108, 100]) = false := by rw [ByteArray.toList_eq]; exact beq_eq_false_iff_ne.2 hq
              have HH := Lib.hid (kdAt_miss (ok := true) (t := (sub s a e).data.toList) (k := 2) (fun h => hq (kind_2 h)))
              clear hq
              go_wp2_with fail
              go_quiet (fail)
              go_wp2
              go_roundw
              case rel => exact ⟨3, by omega, rfl, by rw [HH.out], by repeat (first | exact hbk | apply below_alloc | apply pw_below_drewN | apply below_drew1 | refine below_set ?_ (by have := hbk.size; simp; omega))⟩
              case measure => simp [intOf]
        | 3, _, _ =>
          have hi := cmd_at3
          cases ok with
          | false =>
            rw [kdAt_no]
            go_wp2_with fail
            go_quiet (fail)
            go_wp2
            go_roundw
            case rel => exact ⟨4, by omega, rfl, by rw [kdAt_no], by repeat (first | exact hbk | apply below_alloc | apply pw_below_drewN | apply below_drew1 | refine below_set ?_ (by have := hbk.size; simp; omega))⟩
            case measure => simp [intOf]
          | true =>
            by_cases hq : (sub s a e).data.toList = [115, 116, 97, 114, 116]
            · have dq : ((s.extract a e).toList == [115, 116, 97, 114, 116]) = true := by rw [ByteArray.toList_eq]; exact beq_iff_eq.2 hq
              have HH := Lib.hid (kdAt_hit (t := (sub s a e).data.toList) (k := 3) (by rw [hq]; rfl))
              clear hq
              go_wp2_with fail
              go_quiet (fail)
              go_wp2
              go_roundw
              case rel => exact ⟨4, by omega, rfl, by rw [HH.out]; rfl, by repeat (first | exact hbk | apply below_alloc | apply pw_below_drewN | apply below_drew1 | refine below_set ?_ (by have := hbk.size; simp; omega))⟩
              case measure => simp [intOf]
            · have dq : ((s.extract a e).toList == [115, 116, 97, 114, 116]) = false := by rw [ByteArray.toList_eq]; exact beq_eq_false_iff_ne.2 hq
              have HH := Lib.hid (kdAt_miss (ok := true) (t := (sub s a e).data.toList) (k := 3) (fun h => hq (kind_3 h)))
              clear hq
              go_wp2_with fail
              go_quiet (fail)
              go_wp2
              go_roundw
              case rel => exact ⟨4, by omega, rfl, by rw [HH.out], by repeat (first | exact hbk | apply below_alloc | apply pw_below_drewN | apply below_drew1 | refine below_set ?_ (by have := hbk.size; simp; omega))⟩
              case measure => simp [intOf]
        | 4, _, _ =>
          have hi := cmd_at4
          cases ok with
          | false =>
            rw [kdAt_no]
            go_wp2_with fail
            go_quiet (fail)
            go_wp2
            go_roundw
            case rel => exact ⟨5, by omega, rfl, by rw [kdAt_no], by repeat (first | exact hbk | apply below_alloc | apply pw_below_drewN | apply below_drew1 | refine below_set ?_ (by have := hbk.size; simp; omega))⟩
            case measure => simp [intOf]
          | true =>
            by_cases hq : (sub s a e).data.toList = [115, 116, 101, 112]
            · have dq : ((s.extract a e).toList == [115, 116, 101, 112]) = true := by rw [ByteArray.toList_eq]; exact beq_iff_eq.2 hq
              have HH := Lib.hid (kdAt_hit (t := (sub s a e).data.toList) (k := 4) (by rw [hq]; rfl))
              clear hq
              go_wp2_with fail
              go_quiet (fail)
              go_wp2
              go_roundw
              case rel => exact ⟨5, by omega, rfl, by rw [HH.out]; rfl, by repeat (first | exact hbk | apply below_alloc | apply pw_below_drewN | apply below_drew1 | refine below_set ?_ (by have := hbk.size; simp; omega))⟩
              case measure => simp [intOf]
            · have dq : ((s.extract a e).toList == [115, 116, 101, 112]) = false := by rw [ByteArray.toList_eq]; exact beq_eq_false_iff_ne.2 hq
              have HH := Lib.hid (kdAt_miss (ok := true) (t := (sub s a e).data.toList) (k := 4) (fun h => hq (kind_4 h)))
              clear hq
              go_wp2_with fail
              go_quiet (fail)
              go_wp2
              go_roundw
              case rel => exact ⟨5, by omega, rfl, by rw [HH.out], by repeat (first | exact hbk | apply below_alloc | apply pw_below_drewN | apply below_drew1 | refine below_set ?_ (by have := hbk.size; simp; omega))⟩
              case measure => simp [intOf]
        | 5, _, _ =>
          have hi := cmd_at5
          cases ok with
          | false =>
            rw [kdAt_no]
            go_wp2_with fail
            go_quiet (fail)
            go_wp2
            go_roundw
            case rel => exact ⟨6, by omega, rfl, by rw [kdAt_no], by repeat (first | exact hbk | apply below_alloc | apply pw_below_drewN | apply below_drew1 | refine below_set ?_ (by have := hbk.size; simp; omega))⟩
            case measure => simp [intOf]
          | true =>
            by_cases hq : (sub s a e).data.toList = [115, 104, 111, 119]
            · have dq : ((s.extract a e).toList == [115, 104, 111, 119]) = true := by rw [ByteArray.toList_eq]; exact beq_iff_eq.2 hq
              have HH := Lib.hid (kdAt_hit (t := (sub s a e).data.toList) (k := 5) (by rw [hq]; rfl))
              clear hq
              go_wp2_with fail
              go_quiet (fail)
              go_wp2
              go_roundw
              case rel => exact ⟨6, by omega, rfl, by rw [HH.out]; rfl, by repeat (first | exact hbk | apply below_alloc | apply pw_below_drewN | apply below_drew1 | refine below_set ?_ (by have := hbk.size; simp; omega))⟩
              case measure => simp [intOf]
            · have dq : ((s.extract a e).toList == [115, 104, 111, 119]) = false := by rw [ByteArray.toList_eq]; exact beq_eq_false_iff_ne.2 hq
              have HH := Lib.hid (kdAt_miss (ok := true) (t := (sub s a e).data.toList) (k := 5) (fun h => hq (kind_5 h)))
              clear hq
              go_wp2_with fail
              go_quiet (fail)
              go_wp2
              go_roundw
              case rel => exact ⟨6, by omega, rfl, by rw [HH.out], by repeat (first | exact hbk | apply below_alloc | apply pw_below_drewN | apply below_drew1 | refine below_set ?_ (by have := hbk.size; simp; omega))⟩
              case measure => simp [intOf]
        | 6, _, _ =>
          have hi := cmd_at6
          cases ok with
          | false =>
            rw [kdAt_no]
            go_wp2_with fail
            go_quiet (fail)
            go_wp2
            go_roundw
            case rel => exact ⟨7, by omega, rfl, by rw [kdAt_no], by repeat (first | exact hbk | apply below_alloc | apply pw_below_drewN | apply below_drew1 | refine below_set ?_ (by have := hbk.size; simp; omega))⟩
            case measure => simp [intOf]
          | true =>
            by_cases hq : (sub s a e).data.toList = [100, 114, 111, 112]
            · have dq : ((s.extract a e).toList == [100, 114, 111, 112]) = true := by rw [ByteArray.toList_eq]; exact beq_iff_eq.2 hq
              have HH := Lib.hid (kdAt_hit (t := (sub s a e).data.toList) (k := 6) (by rw [hq]; rfl))
              clear hq
              go_wp2_with fail
              go_quiet (fail)
              go_wp2
              go_roundw
              case rel => exact ⟨7, by omega, rfl, by rw [HH.out]; rfl, by repeat (first | exact hbk | apply below_alloc | apply pw_below_drewN | apply below_drew1 | refine below_set ?_ (by have := hbk.size; simp; omega))⟩
              case measure => simp [intOf]
            · have dq : ((s.extract a e).toList == [100, 114, 111, 112]) = false := by rw [ByteArray.toList_eq]; exact beq_eq_false_iff_ne.2 hq
              have HH := Lib.hid (kdAt_miss (ok := true) (t := (sub s a e).data.toList) (k := 6) (fun h => hq (kind_6 h)))
              clear hq
              go_wp2_with fail
              go_quiet (fail)
              go_wp2
              go_roundw
              case rel => exact ⟨7, by omega, rfl, by rw [HH.out], by repeat (first | exact hbk | apply below_alloc | apply pw_below_drewN | apply below_drew1 | refine below_set ?_ (by have := hbk.size; simp; omega))⟩
              case measure => simp [intOf]
        | (n + 7), h, h' => omega
end Go.Proofs.YtjjinpohebcicaaDoor
