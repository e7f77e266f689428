/-
  The walks of the reference's parts, against the same plain models.
-/
import Derived.Test.YtjjinpohebcicaaDoorJA
import Derived.Test.YtjjinpohebcicaaDoorPescapex1
import Derived.Lib.AtoiAllCases
import Derived.Test.YtjjinpohebcicaaDoorPNumberx1
import Derived.Test.YtjjinpohebcicaaDoorPNamex1
import Derived.Test.YtjjinpohebcicaaDoorPquotedx1
import Derived.Deep.DeepCutAuto
import Derived.Deep.CutBlock
import Derived.Test.YtjjinpohebcicaaDoorPkindsx1
set_option linter.unusedSimpArgs false
set_option linter.unusedVariables false
namespace Go.Proofs.YtjjinpohebcicaaDoor
open Go.RowKit Ln Go.Proofs.YtjjinpohebcicaaDoorW.PrintWords

/-- the slice v is the call's own and holds the bytes l -/
def OB (B : Nat) (l : List UInt8) (v : Value) (w : World) : Prop := w.ownsRow B 5 1 v l.length (Lib.byteCells l)

theorem append_ob {ops : Array Oper} {rest : List Oper} {o : Oper} {a : Act} {Q : Exit → Act → World → Prop} {w0 W : World} (hgd : o.guard = none) (s x : Operand)
    (ho : o.op = .call { callee := .builtin .append, args := #[s, x], argTypes := #[59, 59] }) (B : Nat) (acc news : List UInt8) (cells : List Value) (v : Value)
    (hc : cells = Lib.byteCells news) (m : Nat) (hm : news.length = m) (hs : a.eval s = v) (hx : a.eval x = .slice (some ⟨W.heap.size, 0, none⟩) m m)
    (HO : OB B acc v W) (HB : Below B w0 W) (hbase : B ≤ W.heap.size) (hl : acc.length + m ≤ 140737488355328)
    (h : ∀ v' w', OB B (acc ++ news) v' w' → Below B w0 w' → wpList Tryd.prog ops Q rest (a.put o.dst v') w') :
    wpList Tryd.prog ops Q (o :: rest) a (W.alloc (.cells cells.toArray 5)) := by
  obtain ⟨i0, hi, hz0, hz1, hz2⟩ := info_parts byteInfo
  subst hm
  have hcl : cells.length = news.length := by rw [hc, Lib.byteCells_length]
  refine wpList_append_own _ hgd s x 59 ho B 5 i0 (.int .u8 0) 1 1 Tryd.underlying59 hi hz0 hz1 hz2 rfl (by decide) v acc.length (Lib.byteCells acc) hs (World.ownsRow.alloc HO _) ⟨W.heap.size, 0, none⟩ news.length news.length cells hx (by rw [hcl]; omega) ?_ ?_ (by unfold maxLen; omega) (by omega) (by simp; omega) ?_
  · intro j u hj
    have e1 : (W.alloc (.cells cells.toArray 5)).heap[W.heap.size]? = some (.cells cells.toArray 5) := by
      show (W.heap.push _)[W.heap.size]? = _
      simp
    rw [show (⟨W.heap.size, 0, none⟩ : Addr).add j = ⟨W.heap.size, j, none⟩ from by simp [Addr.add]; intro h; exact h.symm, Lib.cell_of_heap e1]
    simpa using hj
  · intro u hu
    rw [hc] at hu
    unfold Lib.byteCells at hu
    simp only [List.mem_map] at hu
    obtain ⟨b, _, rfl⟩ := hu
    rfl
  · intro v' w' hown hg _
    refine h v' w' ?_ ?_
    · unfold OB
      rw [List.length_append, Lib.byteCells_append, ← hc]
      exact hown
    · exact (HB.alloc hbase _).grown hg (by simp; omega) (fun k hk => (World.ownsRow.lt HO k hk).1)

theorem news_cell {W : World} {cells : List Value} {j : Nat} {u : Value} (hj : cells[j]? = some u) : (W.alloc (.cells cells.toArray 5)).cell? ((⟨W.heap.size, 0, none⟩ : Addr).add j) = some u := by
  have e1 : (W.alloc (.cells cells.toArray 5)).heap[W.heap.size]? = some (.cells cells.toArray 5) := by
    show (W.heap.push _)[W.heap.size]? = _
    simp
  rw [show (⟨W.heap.size, 0, none⟩ : Addr).add j = ⟨W.heap.size, j, none⟩ from by simp [Addr.add]; intro h; exact h.symm, Lib.cell_of_heap e1]
  simpa using hj
theorem step_append_ob {ops : Array Oper} {o : Oper} {a : Act} {K : Act → World → Prop} {Q : Exit → Act → World → Prop} {w0 W : World} (B : Nat) (hw : Region.wanted o (yielded ops a.tmps) = true) (s x : Operand)
    (ho : o.op = .call { callee := .builtin .append, args := #[s, x], argTypes := #[59, 59] }) (acc news : List UInt8) (cells : List Value) (v : Value)
    (hc : cells = Lib.byteCells news) (m : Nat) (hm : news.length = m) (hs : a.eval s = v) (hx : a.eval x = .slice (some ⟨W.heap.size, 0, none⟩) m m)
    (HO : OB B acc v W) (HB : Below B w0 W) (hbase : B ≤ W.heap.size) (hl : acc.length + m ≤ 140737488355328)
    (h : ∀ v1 w1, OB B (acc ++ news) v1 w1 → Below B w0 w1 → K (a.put o.dst v1) w1) :
    if Region.wanted o (yielded ops a.tmps) = true then Oper.wp Tryd.prog o a (W.alloc (.cells cells.toArray 5)) K Q else K (a.put o.dst undef) (W.alloc (.cells cells.toArray 5)) := by
  obtain ⟨i0, hi, hz0, hz1, hz2⟩ := info_parts byteInfo
  subst hm
  have hcl : cells.length = news.length := by rw [hc, Lib.byteCells_length]
  rw [if_pos hw]
  obtain ⟨v1, w1, hr, hown, hg, _, hat⟩ := run_append_own_at (P := Tryd.prog) (W.alloc (.cells cells.toArray 5)) B 59 o.type 5 i0 (.int .u8 0) 1 1 Tryd.underlying59 hi hz0 hz1 hz2 rfl (by decide) v acc.length (Lib.byteCells acc) (World.ownsRow.alloc HO _) ⟨W.heap.size, 0, none⟩ news.length news.length cells (by rw [hcl]; omega)
    (fun j u hj => news_cell hj) (by
      intro u hu
      rw [hc] at hu
      unfold Lib.byteCells at hu
      simp only [List.mem_map] at hu
      obtain ⟨b, _, rfl⟩ := hu
      rfl) (by unfold maxLen; omega) (by omega) (by simp; omega)
  unfold Oper.wp execOp
  simp only [ho, resolve, invoke, builtin, Sem.run_bind, Sem.run_pure, Result.andThen_ok, List.map_toArray, List.map_cons, List.map_nil, hs, hx, hr]
  refine h v1 w1 ?_ ?_
  · unfold OB
    rw [List.length_append, Lib.byteCells_append, ← hc]
    exact hown
  · exact (HB.alloc hbase _).grown hg (by simp; omega) (fun k hk => (World.ownsRow.lt HO k hk).1)

theorem cells_hex (u : UInt8) (h1 : u.toNat / 16 < (⟨#[48, 49, 50, 51, 52, 53, 54, 55, 56, 57, 97, 98, 99, 100, 101, 102]⟩ : ByteArray).size) (h2 : u.toNat % 16 < (⟨#[48, 49, 50, 51, 52, 53, 54, 55, 56, 57, 97, 98, 99, 100, 101, 102]⟩ : ByteArray).size) :
    [Value.int .u8 92, .int .u8 120, .int .u8 ((⟨#[48, 49, 50, 51, 52, 53, 54, 55, 56, 57, 97, 98, 99, 100, 101, 102]⟩ : ByteArray)[u.toNat / 16]'h1).toNat, .int .u8 ((⟨#[48, 49, 50, 51, 52, 53, 54, 55, 56, 57, 97, 98, 99, 100, 101, 102]⟩ : ByteArray)[u.toNat % 16]'h2).toNat]
      = Lib.byteCells [92, 120, hexDigits.getD (u.toNat / 16) 0, hexDigits.getD (u.toNat % 16) 0] := by
  rw [hexAt _ h1, hexAt _ h2]
  rfl

theorem ob_nil (B : Nat) (w : World) : OB B [] (.slice none 0 0) w := ⟨rfl, .inl ⟨rfl, rfl⟩⟩
theorem cells_nums (l : List UInt8) : Lib.byteCells l = nums .u8 (l.map fun b => (b.toNat : Int)) := by
  unfold Lib.byteCells nums; simp
theorem str_nums (l : List UInt8) : strOfNums (l.map fun b => (b.toNat : Int)) = ⟨l.toArray⟩ := by
  unfold strOfNums
  rw [List.map_map]
  have : List.map ((fun n : Int => UInt8.ofNat n.toNat) ∘ fun b : UInt8 => (b.toNat : Int)) l = l := by
    conv => rhs; rw [← List.map_id l]
    refine List.map_congr_left fun b _ => ?_
    simp
  rw [this]
theorem ob_slice {B : Nat} {l : List UInt8} {v : Value} {w : World} (h : OB B l v w) : ∃ A c, v = .slice A l.length c := by
  unfold OB at h
  rw [cells_nums] at h
  obtain ⟨A, c, h1, _⟩ := own_reads h
  exact ⟨A, c, h1⟩
theorem ob_str {B : Nat} {l : List UInt8} {A : Option Addr} {c : Nat} {w : World} (h : OB B l (.slice A l.length c) w) : (convert 59 9 (.slice A l.length c)).run Tryd.prog w = .ok (.string ⟨l.toArray⟩) w := by
  unfold OB at h
  rw [cells_nums] at h
  rw [← str_nums]
  exact string_of_reads Tryd.underlying59 Tryd.underlying5 Tryd.underlying9 (own_reads' h)

set_option maxRecDepth 100000 in
set_option maxHeartbeats 1000000 in
theorem rquote_w (s : ByteArray) (w : World) (hs : s.size ≤ 1000000) : Calls Tryd.prog 17 #[.string s] w fun e w' => e = .returned (.string ⟨(quoM s.data.toList).toArray⟩) ∧ Below w.heap.size w w' := by
  have hb0 : Below w.heap.size w (w.alloc (.cells #[.int .u8 34] 5)) := (Below.refl _ w).alloc (Nat.le_refl _) _
  have hO0 : OB w.heap.size [34] (.slice (some ⟨w.heap.size, 0, none⟩) 1 1) (w.alloc (.cells #[.int .u8 34] 5)) := by
    refine ⟨rfl, .inr ⟨w.heap.size, 1, #[.int .u8 34], rfl, Nat.le_refl _, ?_, ?_⟩⟩
    · show (w.heap.push _)[w.heap.size]? = _
      simp
    · exact ⟨Nat.le_refl _, by unfold maxLen; omega, rfl, rfl⟩
  go_enter Tryd.func17, Tryd.ntmps17
  go_wp2
  go_loopw [3, 4] (fun v i wr => ∃ (k : Nat) (acc : List UInt8), k ≤ s.size ∧ i = .int .i64 k ∧ OB w.heap.size acc v wr ∧ Below w.heap.size w wr ∧ acc.length ≤ 4 * k + 1 ∧ Hid (acc = 34 :: (s.data.toList.take k).flatMap esc)) (fun _ i wr => s.size - (intOf i).toNat)
  case atStart => exact ⟨0, [34], Nat.zero_le _, rfl, hO0, hb0, by simp, Lib.hid rfl⟩
  case round =>
    obtain ⟨k, acc, hk, rfl, hI, hb, cl, HAC⟩ := hrel
    obtain ⟨A, c, rfl⟩ := ob_slice hI
    have hBw := hb.size
    have hI' := Lib.hid hI
    have hb' := Lib.hid hb
    clear hI hb
    by_cases hlt : k < s.size
    · obtain ⟨u, hu⟩ : ∃ u, (s[k]'hlt) = u := ⟨_, rfl⟩
      have hx : ∀ h : k < s.size, ((s[k]'h).toNat : Int) = (u.toNat : Int) := fun h => by rw [hu]
      have hu0 : (u.toNat : Int) ≤ 255 := by have := u.toNat_lt; omega
      have hE := quo_snoc s k hlt
      rw [hu, ← HAC.out] at hE
      have HE := Lib.hid hE
      clear hE hu
      by_cases h1 : u.toNat = 34 ∨ u.toNat = 92
      · have Hh := Lib.hid (esc_a h1)
        by_cases h2 : u.toNat = 34
        · obtain rfl : u = 34 := (u8_eq u 34).2 h2
          clear h1 h2 hu0
          go_wp2_with (at_builtin; refine append_ob (w0 := w) rfl (.tmp 27) (.tmp 29) rfl w.heap.size _ [92, 34] [.int .u8 92, .int .u8 34] _ rfl 2 rfl rfl rfl hI'.out hb'.out hBw (by omega) ?_)
          intro v5 w5 hO5 hb5
          go_wp2
          go_roundw
          case rel => exact ⟨k + 1, _, by omega, by go_num, hO5, hb5, by rw [List.length_append]; simp only [List.length_cons, List.length_nil]; omega, Lib.hid (by rw [HE.out, Hh.out])⟩
          case measure => simp [intOf]; omega
        · obtain rfl : u = 92 := (u8_eq u 92).2 (show u.toNat = 92 from by omega)
          clear h1 h2 hu0
          go_wp2_with (at_builtin; refine append_ob (w0 := w) rfl (.tmp 27) (.tmp 29) rfl w.heap.size _ [92, 92] [.int .u8 92, .int .u8 92] _ rfl 2 rfl rfl rfl hI'.out hb'.out hBw (by omega) ?_)
          intro v5 w5 hO5 hb5
          go_wp2
          go_roundw
          case rel => exact ⟨k + 1, _, by omega, by go_num, hO5, hb5, by rw [List.length_append]; simp only [List.length_cons, List.length_nil]; omega, Lib.hid (by rw [HE.out, Hh.out])⟩
          case measure => simp [intOf]; omega
      · have d0 : ((u.toNat : Int) == 34) = false := beq_eq_false_iff_ne.2 (by omega)
        have d1 : ((u.toNat : Int) == 92) = false := beq_eq_false_iff_ne.2 (by omega)
        by_cases h2 : u.toNat = 10
        · obtain rfl : u = 10 := (u8_eq u 10).2 h2
          have Hh := Lib.hid (esc_n h2)
          clear h1 h2 hu0 d0 d1
          go_wp2_with (at_builtin; refine append_ob (w0 := w) rfl (.tmp 34) (.tmp 35) rfl w.heap.size _ [92, 110] [.int .u8 92, .int .u8 110] _ rfl 2 rfl rfl rfl hI'.out hb'.out hBw (by omega) ?_)
          intro v5 w5 hO5 hb5
          go_wp2
          go_roundw
          case rel => exact ⟨k + 1, _, by omega, by go_num, hO5, hb5, by rw [List.length_append]; simp only [List.length_cons, List.length_nil]; omega, Lib.hid (by rw [HE.out, Hh.out])⟩
          case measure => simp [intOf]; omega
        · have d2 : ((u.toNat : Int) == 10) = false := beq_eq_false_iff_ne.2 (by omega)
          by_cases h3 : u.toNat = 9
          · obtain rfl : u = 9 := (u8_eq u 9).2 h3
            have Hh := Lib.hid (esc_t h3)
            clear h1 h2 h3 hu0 d0 d1 d2
            go_wp2_with (at_builtin; refine append_ob (w0 := w) rfl (.tmp 40) (.tmp 41) rfl w.heap.size _ [92, 116] [.int .u8 92, .int .u8 116] _ rfl 2 rfl rfl rfl hI'.out hb'.out hBw (by omega) ?_)
            intro v5 w5 hO5 hb5
            go_wp2
            go_roundw
            case rel => exact ⟨k + 1, _, by omega, by go_num, hO5, hb5, by rw [List.length_append]; simp only [List.length_cons, List.length_nil]; omega, Lib.hid (by rw [HE.out, Hh.out])⟩
            case measure => simp [intOf]; omega
          · have d3 : ((u.toNat : Int) == 9) = false := beq_eq_false_iff_ne.2 (by omega)
            by_cases h4 : u.toNat < 32 ∨ 126 < u.toNat
            · have Hh := Lib.hid (esc_x h2 h3 h4)
              by_cases h5 : u.toNat < 32
              · have d4 : decide ((u.toNat : Int) < 32) = true := decide_eq_true (by omega)
                clear h1 h2 h3 h4
                go_wp2_with fail
                have e1 : IntKind.u8.wrap ((u.toNat : Int) / 16) = (u.toNat : Int) / 16 := by unfold IntKind.wrap; simp [IntKind.signed, IntKind.bits]; omega
                have e2 : (u.toNat : Int).tmod 16 = (u.toNat : Int) % 16 := Int.tmod_eq_emod_of_nonneg (by omega)
                have n1 : 0 ≤ (u.toNat : Int) / 16 := by omega
                have n2 : 0 ≤ (u.toNat : Int) % 16 := by omega
                have l1 : (u.toNat : Int) / 16 < 16 := by omega
                have l2 : (u.toNat : Int) % 16 < 16 := by omega
                have t1 : ((u.toNat : Int) / 16).toNat = u.toNat / 16 := by omega
                have t2 : ((u.toNat : Int) % 16).toNat = u.toNat % 16 := by omega
                have hId : OB w.heap.size acc (.slice A acc.length c) wr.drew := hI'.out
                have hbd : Below w.heap.size w wr.drew := hb'.out.drew
                have hBd : w.heap.size ≤ wr.drew.heap.size := hBw
                go_region_law (first | (refine step_append_ob w.heap.size rfl (.tmp 50) (.tmp 57) rfl _ [92, 120, hexDigits.getD (u.toNat / 16) 0, hexDigits.getD (u.toNat % 16) 0] _ _ (cells_hex u _ _) 4 rfl rfl rfl hId hbd hBd (by omega) ?_; intro v5 w5 hO5 hb5))
                all_goals
                  go_wp2
                  go_roundw
                  case rel => exact ⟨k + 1, _, by omega, by go_num, hO5, hb5, by rw [List.length_append]; simp only [List.length_cons, List.length_nil]; omega, Lib.hid (by rw [HE.out, Hh.out])⟩
                  case measure => simp [intOf]; omega
              · have d4 : decide ((u.toNat : Int) < 32) = false := decide_eq_false (by omega)
                have d5 : decide (126 < (u.toNat : Int)) = true := decide_eq_true (by omega)
                clear h1 h2 h3 h4
                go_wp2_with fail
                have e1 : IntKind.u8.wrap ((u.toNat : Int) / 16) = (u.toNat : Int) / 16 := by unfold IntKind.wrap; simp [IntKind.signed, IntKind.bits]; omega
                have e2 : (u.toNat : Int).tmod 16 = (u.toNat : Int) % 16 := Int.tmod_eq_emod_of_nonneg (by omega)
                have n1 : 0 ≤ (u.toNat : Int) / 16 := by omega
                have n2 : 0 ≤ (u.toNat : Int) % 16 := by omega
                have l1 : (u.toNat : Int) / 16 < 16 := by omega
                have l2 : (u.toNat : Int) % 16 < 16 := by omega
                have t1 : ((u.toNat : Int) / 16).toNat = u.toNat / 16 := by omega
                have t2 : ((u.toNat : Int) % 16).toNat = u.toNat % 16 := by omega
                have hId : OB w.heap.size acc (.slice A acc.length c) wr.drew := hI'.out
                have hbd : Below w.heap.size w wr.drew := hb'.out.drew
                have hBd : w.heap.size ≤ wr.drew.heap.size := hBw
                go_region_law (first | (refine step_append_ob w.heap.size rfl (.tmp 50) (.tmp 57) rfl _ [92, 120, hexDigits.getD (u.toNat / 16) 0, hexDigits.getD (u.toNat % 16) 0] _ _ (cells_hex u _ _) 4 rfl rfl rfl hId hbd hBd (by omega) ?_; intro v5 w5 hO5 hb5))
                all_goals
                  go_wp2
                  go_roundw
                  case rel => exact ⟨k + 1, _, by omega, by go_num, hO5, hb5, by rw [List.length_append]; simp only [List.length_cons, List.length_nil]; omega, Lib.hid (by rw [HE.out, Hh.out])⟩
                  case measure => simp [intOf]; omega
            · have d4 : decide ((u.toNat : Int) < 32) = false := decide_eq_false (by omega)
              have d5 : decide (126 < (u.toNat : Int)) = false := decide_eq_false (by omega)
              have Hh := Lib.hid (esc_o (u := u) (by omega) (by omega) (by omega))
              clear h1 h2 h3 h4
              go_wp2_with (at_builtin; refine append_ob (w0 := w) rfl (.tmp 16) (.tmp 18) rfl w.heap.size _ [u] [.int .u8 u.toNat] _ rfl 1 rfl rfl rfl hI'.out hb'.out hBw (by omega) ?_)
              intro v5 w5 hO5 hb5
              go_wp2
              go_roundw
              case rel => exact ⟨k + 1, _, by omega, by go_num, hO5, hb5, by rw [List.length_append]; simp only [List.length_cons, List.length_nil]; omega, Lib.hid (by rw [HE.out, Hh.out])⟩
              case measure => simp [intOf]; omega
    · obtain rfl : k = s.size := by omega
      have hF := HAC.out
      rw [List.take_of_length_le (by simp)] at hF
      have HF := Lib.hid (show quoM s.data.toList = acc ++ [34] from by rw [hF]; rfl)
      clear hF
      go_wp2_with (at_builtin; refine append_ob (w0 := w) rfl (.tmp 59) (.tmp 60) rfl w.heap.size _ [34] [.int .u8 34] _ rfl 1 rfl rfl rfl hI'.out hb'.out hBw (by omega) ?_)
      intro v5 w5 hO5 hb5
      obtain ⟨l5, hl5⟩ : ∃ l, acc ++ [34] = l := ⟨_, rfl⟩
      rw [hl5] at hO5 HF
      obtain ⟨A5, c5, rfl⟩ := ob_slice hO5
      have hst := ob_str hO5
      clear hl5
      go_wp2
      go_ret
      exact ⟨by rw [HF.out]; rfl, hb5⟩
end Go.Proofs.YtjjinpohebcicaaDoor
namespace Go.Proofs.YtjjinpohebcicaaDoor
open Go.RowKit Ln Go.Proofs.YtjjinpohebcicaaDoorW.PrintWords

/-- what stands behind a backslash: the byte, and how many bytes it takes; 0: none -/
def escM : List UInt8 → UInt8 × Nat
  | [] => (0, 0)
  | d :: r =>
    if d = 34 ∨ d = 92 then (d, 1)
    else if d = 110 then (10, 1)
    else if d = 116 then (9, 1)
    else if d = 120 then
      match r with
      | a :: b :: _ => if hexU a = 16 ∨ hexU b = 16 then (0, 0) else (16 * hexU a + hexU b, 3)
      | _ => (0, 0)
    else (0, 0)

theorem unq_esc (l : List UInt8) : unq (92 :: l) = if (escM l).2 = 0 then none else (unq (l.drop (escM l).2)).map ((escM l).1 :: ·) := by
  match l with
  | [] => exact unq_end
  | d :: r =>
    by_cases h1 : d = 34 ∨ d = 92
    · rw [unq_q (h1.elim (fun h => Or.inl (by rw [h]; rfl)) (fun h => Or.inr (by rw [h]; rfl)))]
      simp [escM, h1]
    · by_cases h2 : d = 110
      · subst h2; rw [unq_n]; simp [escM]
      · by_cases h3 : d = 116
        · subst h3; rw [unq_t]; simp [escM]
        · by_cases h4 : d = 120
          · subst h4
            match r with
            | [] => rw [unq_x0 (by simp)]; simp [escM]
            | [a] => rw [unq_x0 (by simp)]; simp [escM]
            | a :: b :: r' =>
              rw [unq_x]
              by_cases h5 : hexU a = 16 ∨ hexU b = 16
              · simp [escM, h5]
              · simp [escM, h5]
          · rw [unq_o (fun h => h1 (Or.inl ((u8_eq d 34).2 h))) (fun h => h1 (Or.inr ((u8_eq d 92).2 h))) (fun h => h2 ((u8_eq d 110).2 h)) (fun h => h3 ((u8_eq d 116).2 h)) (fun h => h4 ((u8_eq d 120).2 h))]
            simp [escM, h1, h2, h3, h4]

open Pescape in
theorem digit_f (k : Nat) (u : UInt8) : smithyref31_digit.f (k + 1) (u.toNat : Int) = some ((hexU u).toNat : Int) := by
  have H : ∀ n : Fin 256, (if ((n.val : Nat) : Int) ≥ 48 then (if (decide (((n.val : Nat) : Int) ≤ 57)) = true then (some ((((n.val : Nat) : Int) - 48) % 256)) else (if ((n.val : Nat) : Int) ≥ 97 then (if ((n.val : Nat) : Int) ≤ 102 then (some (((((((n.val : Nat) : Int) - 97) % 256) + 10) % 256))) else (some 16)) else (some 16))) else (if false = true then (some ((((n.val : Nat) : Int) - 48) % 256)) else (if ((n.val : Nat) : Int) ≥ 97 then (if ((n.val : Nat) : Int) ≤ 102 then (some (((((((n.val : Nat) : Int) - 97) % 256) + 10) % 256))) else (some 16)) else (some 16)))) = some ((hexU (UInt8.ofNat n.val)).toNat : Int) := by decide +kernel
  have h := H ⟨u.toNat, u.toNat_lt⟩
  simp only [UInt8.ofNat_toNat] at h
  unfold smithyref31_digit.f
  simp only [smithyref31_digit.j0]
  exact h
theorem w2 (i : Nat) (h : i ≤ 4611686018427387904) : wrap64 ((i : Int) + 2) = ((i + 2 : Nat) : Int) := by unfold wrap64; omega

theorem drop_none (s : ByteArray) (i : Nat) (h : ¬ i < s.size) : s.data.toList.drop i = [] := by
  rw [List.drop_of_length_le (by simp; omega)]
theorem bt_nat' (s : ByteArray) (i : Nat) (h : i < s.size) : bt s (i : Int) = ((s[i]'h).toNat : Int) := by
  unfold bt; simp [h]

open Pescape in
theorem escape_f (s : ByteArray) (hs : s.size ≤ 4611686018427387) (i : Nat) (hi : i ≤ s.size + 1) : smithyref31_escape.f 3 s (i : Int) = some (((escM (s.data.toList.drop i)).1.toNat : Int), ((escM (s.data.toList.drop i)).2 : Int)) := by
  unfold smithyref31_escape.f
  by_cases hlt : i < s.size
  · rw [if_neg (by omega), if_pos (by omega), if_pos (by omega), bt_nat' s i hlt, drop_at s i hlt]
    generalize hd : s[i] = d
    have hj : ∀ b : Bool, (b = true ↔ (d = 34 ∨ d = 92)) → smithyref31_escape.j0 3 s (i : Int) (d.toNat : Int) b = some (((escM (d :: s.data.toList.drop (i + 1))).1.toNat : Int), ((escM (d :: s.data.toList.drop (i + 1))).2 : Int)) := by
      intro b hb
      simp only [smithyref31_escape.j0]
      by_cases h1 : d = 34 ∨ d = 92
      · rw [if_pos (hb.2 h1), if_pos (by omega), if_pos (by omega), bt_nat' s i hlt, hd]
        simp [escM, h1]
      · rw [if_neg (fun h => h1 (hb.1 h))]
        by_cases h2 : d = 110
        · subst h2; simp [escM]
        · rw [if_neg (show ¬ ((d.toNat : Int) = 110) from fun h => h2 ((u8_eq d 110).2 (show d.toNat = 110 from by omega)))]
          by_cases h3 : d = 116
          · subst h3; simp [escM]
          · rw [if_neg (show ¬ ((d.toNat : Int) = 116) from fun h => h3 ((u8_eq d 116).2 (show d.toNat = 116 from by omega)))]
            by_cases h4 : d = 120
            · subst h4
              rw [if_pos (show (((120 : UInt8).toNat : Int) = 120) from rfl), w2 i (by omega)]
              by_cases hl : i + 2 < s.size
              · rw [if_pos (by omega), w1 i (by omega), if_pos (by omega), if_pos (by omega), bt_nat' s (i + 1) (by omega), digit_f]
                simp only [Option.bind_some]
                rw [drop_at s (i + 1) (by omega), drop_at s (i + 1 + 1) (by omega)]
                have ha := hexU_le (s[i + 1]'(by omega))
                have hb2 := hexU_le (s[i + 1 + 1]'(by omega))
                by_cases h5 : hexU (s[i + 1]'(by omega)) = 16
                · rw [if_neg (by rw [h5]; decide)]
                  simp [smithyref31_escape.j1, escM, h5]
                · have h5' : (hexU (s[i + 1]'(by omega))).toNat ≠ 16 := fun h => h5 ((u8_eq _ 16).2 h)
                  rw [if_pos (by omega), if_pos (by omega), bt_nat' s (i + 2) hl, digit_f]
                  simp only [Option.bind_some]
                  by_cases h6 : hexU (s[i + 1 + 1]'(by omega)) = 16
                  · have h6' : hexU (s[i + 2]'hl) = 16 := h6
                    simp [smithyref31_escape.j1, escM, h6, h6']
                  · have h6' : (hexU (s[i + 1 + 1]'(by omega))).toNat ≠ 16 := fun h => h6 ((u8_eq _ 16).2 h)
                    have h6q : ((hexU (s[i + 2]'hl)).toNat : Int) < 16 := by
                      have : (hexU (s[i + 2]'hl)).toNat = (hexU (s[i + 1 + 1]'(by omega))).toNat := rfl
                      omega
                    simp only [smithyref31_escape.j1]
                    rw [decide_eq_true h6q, if_pos rfl, w1 i (by omega), w2 i (by omega), if_pos (by omega), if_pos (by omega), bt_nat' s (i + 1) (by omega), digit_f]
                    simp only [Option.bind_some]
                    rw [if_pos (by omega), if_pos (by omega), bt_nat' s (i + 2) hl, digit_f]
                    simp only [Option.bind_some]
                    have he : escM (120 :: s[i + 1]'(by omega) :: s[i + 1 + 1]'(by omega) :: s.data.toList.drop (i + 1 + 1 + 1)) = (16 * hexU (s[i + 1]'(by omega)) + hexU (s[i + 1 + 1]'(by omega)), 3) := by
                      simp [escM, h5, h6]
                    rw [he]
                    simp only [Option.some.injEq, Prod.mk.injEq]
                    refine ⟨?_, rfl⟩
                    rw [UInt8.toNat_add, UInt8.toNat_mul]
                    show (16 * ((hexU (s[i + 1]'(by omega))).toNat : Int) % 256 + ((hexU (s[i + 1 + 1]'(by omega))).toNat : Int)) % 256 = _
                    simp
              · rw [if_neg (by omega)]
                simp only [smithyref31_escape.j1]
                rw [if_neg (by decide)]
                have hl2 : (s.data.toList.drop (i + 1)).length < 2 := by simp; omega
                match hr : s.data.toList.drop (i + 1), hl2 with
                | [], _ => simp [escM]
                | [a], _ => simp [escM]
            · rw [if_neg (show ¬ ((d.toNat : Int) = 120) from fun h => h4 ((u8_eq d 120).2 (show d.toNat = 120 from by omega)))]
              simp [escM, h1, h2, h3, h4]
    by_cases h34 : (d.toNat : Int) = 34
    · rw [if_pos h34]
      exact hj _ (by rw [beq_iff_eq]; exact ⟨fun _ => Or.inl ((u8_eq d 34).2 (show d.toNat = 34 from by omega)), fun _ => h34⟩)
    · rw [if_neg h34]
      refine hj _ ?_
      rw [beq_iff_eq]
      refine ⟨fun h => Or.inr ((u8_eq d 92).2 (show d.toNat = 92 from by omega)), fun h => h.elim (fun h => absurd (by rw [h]; rfl) h34) (fun h => by rw [h]; rfl)⟩
  · rw [if_pos (by omega), drop_none s i hlt]
    rfl

theorem esc_le (l : List UInt8) : (escM l).2 ≤ 3 ∧ ((escM l).2 ≤ l.length) := by
  match l with
  | [] => simp [escM]
  | [d] => unfold escM; repeat' split
           all_goals simp_all
  | [d, e] => unfold escM; repeat' split
              all_goals simp_all
  | d :: e :: f :: r => unfold escM; repeat' split
                        all_goals simp_all
theorem ob_drewN {B : Nat} {l : List UInt8} {v : Value} {w : World} (h : OB B l v w) (n : Nat) : OB B l v (w.drewN n) := h
open Pescape in
theorem esc_p (m : ByteArray) (k : Nat) (x : UInt8) (n : Nat) (w : World) (h : smithyref31_escape.f 3 m ((k + 1 : Nat) : Int) = some ((x.toNat : Int), (n : Int))) :
    Calls Tryd.prog 32 #[.string m, .int .i64 ((k : Int) + 1)] w fun e w' => e = .returned (.tuple #[.int .u8 x.toNat, .int .i64 n]) ∧ Drawn0 w w' := by
  have := smithyref31_escape.calls 3 m ((k + 1 : Nat) : Int) _ _ w h
  have e1 : ((k + 1 : Nat) : Int) = (k : Int) + 1 := by omega
  rw [e1] at this
  exact this

set_option maxRecDepth 100000 in
set_option maxHeartbeats 2000000 in
theorem rtext_w (s : ByteArray) (w : World) (hs : s.size ≤ 1000000) : Calls Tryd.prog 13 #[.string s] w fun e w' => e = .returned (.tuple #[.string ⟨(txtM s.data.toList).1.toArray⟩, .bool (txtM s.data.toList).2]) ∧ Below w.heap.size w w' := by
  by_cases h2 : s.size < 2
  · have HT := Lib.hid (txt_short (l := s.data.toList) (by simpa using h2))
    have d0 : decide ((s.size : Int) < 2) = true := decide_eq_true (by omega)
    clear h2
    go_enter Tryd.func13, Tryd.ntmps13
    go_wp2
    go_ret2
    exact ⟨by rw [HT.out]; rfl, Below.refl _ _⟩
  · have d0 : decide ((s.size : Int) < 2) = false := decide_eq_false (by omega)
    have hp0 : 0 < s.size := by omega
    have hp1 : s.size - 1 < s.size := by omega
    obtain ⟨a, ha⟩ : ∃ a, s[0]'hp0 = a := ⟨_, rfl⟩
    obtain ⟨z, hz⟩ : ∃ z, s[s.size - 1]'hp1 = z := ⟨_, rfl⟩
    have hxa : ∀ h : 0 < s.size, ((s[0]'h).toNat : Int) = (a.toNat : Int) := fun h => by rw [ha]
    have hxz : ∀ h : s.size - 1 < s.size, ((s[s.size - 1]'h).toNat : Int) = (z.toNat : Int) := fun h => by rw [hz]
    have hza : s.data.toList.head? = some a := by rw [head_of s hp0, ha]
    have hzz : s.data.toList.getLast? = some z := by rw [last_of s hp1, hz]
    by_cases h3 : a.toNat = 34
    · by_cases h4 : z.toNat = 34
      · have d1 : ((a.toNat : Int) != 34) = false := bne_eq_false_iff_eq.2 (by omega)
        have d2 : ((z.toNat : Int) != 34) = false := bne_eq_false_iff_eq.2 (by omega)
        have HT := Lib.hid (txt_mid (l := s.data.toList) (by simp; omega) (by rw [hza, (u8_eq a 34).2 h3]) (by rw [hzz, (u8_eq z 34).2 h4]))
        have HM := Lib.hid (mid_of s)
        clear h3 h4 ha hz hza hzz
        go_enter Tryd.func13, Tryd.ntmps13
        go_wp2
        have hml : (s.extract 1 (s.size - 1)).size ≤ 1000000 := by rw [ByteArray.size_extract]; omega
        generalize s.extract 1 (s.size - 1) = m at *
        clear hxa hxz d0 d1 d2 hp0 hp1
        go_loopw [4, 5] (fun v i wr => ∃ (k : Nat) (acc : List UInt8), k ≤ m.size ∧ i = .int .i64 k ∧ OB w.heap.size acc v wr ∧ Below w.heap.size w wr ∧ acc.length ≤ k ∧ Hid ((unq (m.data.toList.drop k)).map (acc ++ ·) = unq m.data.toList)) (fun _ i wr => m.size - (intOf i).toNat)
        case atStart => exact ⟨0, [], Nat.zero_le _, rfl, ob_nil _ _, Below.refl _ _, by simp, Lib.hid (by simp)⟩
        case round =>
          obtain ⟨k, acc, hk, rfl, hI, hb, hal, HR⟩ := hrel
          obtain ⟨A, c, rfl⟩ := ob_slice hI
          have hBw := hb.size
          have HI := Lib.hid hI
          have HB := Lib.hid hb
          clear hI hb
          by_cases hlt : k < m.size
          · obtain ⟨u, hu⟩ : ∃ u, (m[k]'hlt) = u := ⟨_, rfl⟩
            have hx : ∀ h : k < m.size, ((m[k]'h).toNat : Int) = (u.toNat : Int) := fun h => by rw [hu]
            have hu0 : (u.toNat : Int) ≤ 255 := by have := u.toNat_lt; omega
            have HD := drop_at m k hlt
            rw [hu] at HD
            rw [HD] at HR
            clear HD hu
            by_cases h92 : u.toNat = 92
            · obtain rfl : u = 92 := (u8_eq u 92).2 h92
              clear h92 hu0
              obtain ⟨x, n, hxn⟩ : ∃ x n, escM (m.data.toList.drop (k + 1)) = (x, n) := ⟨_, _, rfl⟩
              have hes := escape_f m (by omega) (k + 1) (by omega)
              rw [hxn] at hes
              have HES := Lib.hid hes
              have hun := unq_esc (m.data.toList.drop (k + 1))
              rw [hxn] at hun
              clear hes
              by_cases hn : n = 0
              · have HN := Lib.hid (unq_stop HR.out (by rw [hun, if_pos hn]))
                have HA := Lib.hid (show ans m.data.toList = ([], false) from by unfold ans; rw [HN.out])
                have dn : ((n : Int) == 0) = true := beq_iff_eq.2 (by omega)
                clear hun hn hxn
                go_wp2_with (go_at_call 32; (with_reducible refine (esc_p m _ _ _ _ HES.out).mono ?_); rintro e w' ⟨rfl, ⟨nd, rfl⟩⟩)
                go_ret2
                exact ⟨by rw [HT.out, ← HM.out, HA.out]; rfl, by repeat (first | exact HB.out | apply below_alloc | apply pw_below_drewN | apply below_drew1)⟩
              · have dn : ((n : Int) == 0) = false := beq_eq_false_iff_ne.2 (by omega)
                have hn3 : n ≤ 3 := by have := esc_le (m.data.toList.drop (k + 1)); rw [hxn] at this; exact this.1
                have hkn : k + 1 + n ≤ m.size := by
                  have := (esc_le (m.data.toList.drop (k + 1))).2; rw [hxn] at this
                  simp at this; omega
                have hun2 : unq (92 :: m.data.toList.drop (k + 1)) = (unq (m.data.toList.drop (k + 1 + n))).map (x :: ·) := by
                  rw [hun, List.drop_drop]; exact if_neg hn
                have HS := Lib.hid (unq_step HR.out hun2)
                clear hun hn hxn hun2
                go_wp2_with (first | (go_at_call 32; (with_reducible refine (esc_p m _ _ _ _ HES.out).mono ?_); rintro e w' ⟨rfl, ⟨nd, rfl⟩⟩) | (at_builtin; refine append_ob (w0 := w) rfl (.tmp 55) (.tmp 57) rfl w.heap.size _ [x] [.int .u8 x.toNat] _ rfl 1 rfl rfl rfl (ob_drewN HI.out nd) (pw_below_drewN HB.out nd) hBw (by omega) ?_))
                intro v5 w5 hO5 hb5
                go_wp2
                go_roundw
                case rel => exact ⟨k + 1 + n, _, hkn, by go_num, hO5, hb5, by rw [List.length_append]; simp only [List.length_cons, List.length_nil]; omega, HS⟩
                case measure => simp [intOf]; omega
            · have d6 : ((u.toNat : Int) == 92) = false := beq_eq_false_iff_ne.2 (by omega)
              by_cases hbad : u.toNat < 32 ∨ 126 < u.toNat ∨ u.toNat = 34
              · have HN := Lib.hid (unq_stop HR.out (unq_bad hbad))
                have HA := Lib.hid (show ans m.data.toList = ([], false) from by unfold ans; rw [HN.out])
                by_cases c1 : u.toNat < 32
                · clear hbad
                  go_wp2
                  go_ret2
                  exact ⟨by rw [HT.out, ← HM.out, HA.out]; rfl, HB.out⟩
                · by_cases c2 : 126 < u.toNat
                  · clear hbad
                    go_wp2
                    go_ret2
                    exact ⟨by rw [HT.out, ← HM.out, HA.out]; rfl, HB.out⟩
                  · have d3 : ((u.toNat : Int) == 34) = true := beq_iff_eq.2 (by omega)
                    clear hbad
                    go_wp2
                    go_ret2
                    exact ⟨by rw [HT.out, ← HM.out, HA.out]; rfl, HB.out⟩
              · have d3 : ((u.toNat : Int) == 34) = false := beq_eq_false_iff_ne.2 (by omega)
                have d4 : 32 ≤ u.toNat := by omega
                have d5 : u.toNat ≤ 126 := by omega
                have HS := Lib.hid (unq_step HR.out (unq_plain d4 d5 (by omega) h92))
                clear hbad h92
                go_wp2_with (at_builtin; refine append_ob (w0 := w) rfl (.tmp 35) (.tmp 39) rfl w.heap.size _ [u] [.int .u8 u.toNat] _ rfl 1 rfl rfl rfl HI.out HB.out hBw (by omega) ?_)
                intro v5 w5 hO5 hb5
                go_wp2
                go_roundw
                case rel => exact ⟨k + 1, _, by omega, by go_num, hO5, hb5, by rw [List.length_append]; simp only [List.length_cons, List.length_nil]; omega, HS⟩
                case measure => simp [intOf]; omega
          · obtain rfl : k = m.size := by omega
            rw [List.drop_of_length_le (by simp)] at HR
            have hans : ans m.data.toList = (acc, true) := by unfold ans; rw [← HR.out]; simp [unq]
            have HA := Lib.hid hans
            clear hans
            have hst := ob_str HI.out
            go_wp2
            go_ret2
            exact ⟨by rw [HT.out, ← HM.out, HA.out]; rfl, HB.out⟩
      · have HT := Lib.hid (txt_last (l := s.data.toList) (by rw [hzz]; intro h; apply h4; rw [Option.some.inj h]; rfl))
        have d1 : ((a.toNat : Int) != 34) = false := bne_eq_false_iff_eq.2 (by omega)
        have d2 : ((z.toNat : Int) != 34) = true := bne_iff_ne.2 (by omega)
        clear h2 h3 h4 ha hz hza hzz
        go_enter Tryd.func13, Tryd.ntmps13
        go_wp2
        go_ret2
        exact ⟨by rw [HT.out]; rfl, Below.refl _ _⟩
    · have HT := Lib.hid (txt_head (l := s.data.toList) (by rw [hza]; intro h; apply h3; rw [Option.some.inj h]; rfl))
      have d1 : ((a.toNat : Int) != 34) = true := bne_iff_ne.2 (by omega)
      clear h2 h3 ha hz hxz hza hzz
      go_enter Tryd.func13, Tryd.ntmps13
      go_wp2
      go_ret2
      exact ⟨by rw [HT.out]; rfl, Below.refl _ _⟩
end Go.Proofs.YtjjinpohebcicaaDoor
namespace Go.Proofs.YtjjinpohebcicaaDoor
namespace Ln

def dig (c : UInt8) : Bool := decide (48 ≤ c.toNat) && decide (c.toNat ≤ 57)
def valA (acc : Nat) : List UInt8 → Nat
  | [] => acc
  | c :: r => valA (10 * acc + (c.toNat - 48)) r
def val (l : List UInt8) : Nat := valA 0 l

theorem valA_ge (l : List UInt8) : ∀ acc, acc ≤ valA acc l := by
  induction l with
  | nil => intro acc; exact Nat.le_refl _
  | cons c r ih => intro acc; unfold valA; exact Nat.le_trans (by omega) (ih _)
theorem valA_append (l m : List UInt8) : ∀ acc, valA acc (l ++ m) = valA (valA acc l) m := by
  induction l with
  | nil => intro acc; rfl
  | cons c r ih => intro acc; exact ih _
theorem dig_iff (c : UInt8) : dig c = true ↔ 48 ≤ c.toNat ∧ c.toNat ≤ 57 := by unfold dig; simp

theorem parse_ok (l : List UInt8) : ∀ acc, acc < 18446744073709551616 → l.all dig = true → valA acc l < 18446744073709551616 → Lib.parseUint10 acc l = .ok (valA acc l) := by
  induction l with
  | nil => intro acc _ _ _; rfl
  | cons c r ih =>
    intro acc ha hd hv
    simp only [List.all_cons, Bool.and_eq_true] at hd
    have hc := (dig_iff c).1 hd.1
    have hge := valA_ge r (10 * acc + (c.toNat - 48))
    have hv' : valA (10 * acc + (c.toNat - 48)) r < 18446744073709551616 := hv
    unfold Lib.parseUint10
    rw [if_pos hc, if_neg (by omega), if_neg (by omega)]
    have := ih (10 * acc + (c.toNat - 48)) (by omega) hd.2 hv'
    rw [show acc * 10 + (c.toNat - 48) = 10 * acc + (c.toNat - 48) from by omega]
    exact this

theorem valA_bound (m : List UInt8) : ∀ acc : Nat, m.all dig = true → valA acc m < (acc + 1) * 10 ^ m.length := by
  induction m with
  | nil => intro acc _; show acc < (acc + 1) * 10 ^ 0; omega
  | cons c r ih =>
    intro acc hm
    rw [List.all_cons, Bool.and_eq_true] at hm
    have hc := (dig_iff c).1 hm.1
    have h2 : 10 * acc + (c.toNat - 48) + 1 ≤ (acc + 1) * 10 := by clear ih hm; generalize c.toNat = x at hc ⊢; omega
    have h1 := ih (10 * acc + (c.toNat - 48)) hm.2
    have h3 : (acc + 1) * 10 ^ (c :: r).length = (acc + 1) * 10 * 10 ^ r.length := by
      rw [List.length_cons, Nat.pow_succ, Nat.mul_comm (10 ^ r.length) 10, Nat.mul_assoc]
    have h4 : (10 * acc + (c.toNat - 48) + 1) * 10 ^ r.length ≤ (acc + 1) * 10 * 10 ^ r.length := Nat.mul_le_mul_right _ h2
    have h5 : valA acc (c :: r) < (acc + 1) * 10 * 10 ^ r.length := Nat.lt_of_lt_of_le h1 h4
    exact h3.symm ▸ h5
theorem val_bound (l : List UInt8) (hd : l.all dig = true) : val l < 10 ^ l.length := by
  have h1 : valA 0 l < (0 + 1) * 10 ^ l.length := valA_bound l 0 hd
  have h2 : (0 + 1) * 10 ^ l.length = 10 ^ l.length := by rw [Nat.zero_add, Nat.one_mul]
  exact h2 ▸ h1
/-- digits without a nought ahead -/
def canon (d : List UInt8) : Prop := d ≠ [] ∧ d.all dig = true ∧ (d.head? = some 48 → d.length = 1)

instance (d : List UInt8) : Decidable (canon d) := by unfold canon; exact inferInstance
theorem u8ofNat (n : Nat) (h : n < 10) : (UInt8.ofNat (48 + n)).toNat = 48 + n := by
  simp; omega
theorem val_snoc (d : List UInt8) (c : UInt8) : val (d ++ [c]) = 10 * val d + (c.toNat - 48) := by
  unfold val; rw [valA_append]; rfl

theorem dd_canon (u : Nat) : canon (Lib.decDigits u) ∧ val (Lib.decDigits u) = u ∧ (1 ≤ u → (Lib.decDigits u).head? ≠ some 48) := by
  induction u using Nat.strongRecOn with
  | _ u ih =>
    by_cases h : u < 10
    · rw [Lib.decDigits_one h]
      have e := u8ofNat u h
      refine ⟨⟨by simp, ?_, fun _ => rfl⟩, ?_, ?_⟩
      · simp only [List.all_cons, List.all_nil, Bool.and_true]
        rw [dig_iff, e]; omega
      · show 10 * 0 + ((UInt8.ofNat (48 + u)).toNat - 48) = u
        rw [e]; omega
      · intro h1 h2
        simp only [List.head?_cons, Option.some.injEq] at h2
        have := congrArg UInt8.toNat h2
        rw [e] at this
        have e48 : (48 : UInt8).toNat = 48 := rfl
        omega
    · rw [Lib.decDigits, dif_neg h]
      obtain ⟨hc, hv, hh⟩ := ih (u / 10) (by omega)
      have e := u8ofNat (u % 10) (by omega)
      have hh' := hh (by omega)
      obtain ⟨a, r, har⟩ : ∃ a r, Lib.decDigits (u / 10) = a :: r := by
        cases hd : Lib.decDigits (u / 10) with
        | nil => exact absurd hd hc.1
        | cons a r => exact ⟨a, r, rfl⟩
      have hhead : (Lib.decDigits (u / 10) ++ [UInt8.ofNat (48 + u % 10)]).head? = (Lib.decDigits (u / 10)).head? := by rw [har]; rfl
      refine ⟨⟨by simp, ?_, ?_⟩, ?_, ?_⟩
      · rw [List.all_append, hc.2.1]
        simp only [List.all_cons, List.all_nil, Bool.and_true, Bool.true_and]
        rw [dig_iff, e]; omega
      · intro h2; rw [hhead] at h2; exact absurd h2 hh'
      · rw [val_snoc, hv, e]; omega
      · intro _; rw [hhead]; exact hh'

theorem val_pos (d : List UInt8) (hc : canon d) (h : d ≠ [48]) : 1 ≤ val d := by
  obtain ⟨h0, h1, h2⟩ := hc
  cases d with
  | nil => exact absurd rfl h0
  | cons a r =>
    simp only [List.all_cons, Bool.and_eq_true] at h1
    have ha := (dig_iff a).1 h1.1
    have : a.toNat ≠ 48 := by
      intro e
      have ea : a = 48 := UInt8.toNat_inj.1 e
      have := h2 (by rw [ea]; rfl)
      simp at this
      subst this
      exact h (by rw [ea])
    have hge := valA_ge r (10 * 0 + (a.toNat - 48))
    show 1 ≤ valA (10 * 0 + (a.toNat - 48)) r
    omega

theorem canon_dd (n : Nat) : ∀ d : List UInt8, d.length = n → canon d → Lib.decDigits (val d) = d := by
  induction n with
  | zero => intro d hn hc; exact absurd (List.length_eq_zero_iff.1 hn) hc.1
  | succ n ih =>
    intro d hn hc
    obtain ⟨d', c, rfl⟩ : ∃ d' c, d = d' ++ [c] := ⟨d.dropLast, d.getLast hc.1, (List.dropLast_concat_getLast hc.1).symm⟩
    have hall := hc.2.1
    rw [List.all_append, Bool.and_eq_true] at hall
    have hcd : 48 ≤ c.toNat ∧ c.toNat ≤ 57 := (dig_iff c).1 (by simpa using hall.2)
    have hce : UInt8.ofNat (48 + (c.toNat - 48)) = c := by rw [show 48 + (c.toNat - 48) = c.toNat from by omega]; simp
    rw [val_snoc]
    cases hd' : d' with
    | nil =>
      rw [show 10 * val [] + (c.toNat - 48) = c.toNat - 48 from by show 10 * 0 + _ = _; omega, Lib.decDigits_one (by omega), hce]; rfl
    | cons a r =>
      have hcan : canon d' := by
        refine ⟨by rw [hd']; simp, hall.1, ?_⟩
        intro hh
        have := hc.2.2 (by rw [hd'] at hh ⊢; exact hh)
        rw [hd'] at this; simp at this
      have hne : d' ≠ [48] := by
        intro e
        have := hc.2.2 (by rw [e]; rfl)
        rw [e] at this; simp at this
      have hpos := val_pos d' hcan hne
      rw [← hd']
      rw [Lib.decDigits, dif_neg (by omega), show (10 * val d' + (c.toNat - 48)) / 10 = val d' from by omega, show (10 * val d' + (c.toNat - 48)) % 10 = c.toNat - 48 from by omega, hce, ih d' (by simpa using hn) hcan]

def negL (l : List UInt8) : Bool := l.head? == some 45
def digL (l : List UInt8) : List UInt8 := if negL l = true then l.tail else l
/-- a number, by the document: P31.3 -/
def good (l : List UInt8) : Prop := canon (digL l) ∧ (negL l = true → digL l ≠ [48] ∧ val (digL l) ≤ 9223372036854775808) ∧ (negL l = false → val (digL l) < 9223372036854775808)
def numV (l : List UInt8) : Int := if negL l = true then -(val (digL l) : Int) else (val (digL l) : Int)

theorem parse_mag (d : List UInt8) (hc : canon d) (h : val d < 18446744073709551616) : Lib.parseMag d = .ok (val d) := by
  unfold Lib.parseMag
  rw [if_neg hc.1]
  exact parse_ok d 0 (by omega) hc.2.1 h

theorem num_good (l : List UInt8) (h : good l) : numM l = (numV l, true) := by
  obtain ⟨hc, h1, h2⟩ := h
  cases hn : negL l with
  | true =>
    obtain ⟨d, rfl⟩ : ∃ d, l = 45 :: d := by
      cases l with
      | nil => simp [negL] at hn
      | cons a r => simp [negL] at hn; subst hn; exact ⟨r, rfl⟩
    have hd : digL (45 :: d) = d := rfl
    rw [hd] at hc h1
    obtain ⟨h48, hv⟩ := h1 hn
    have hpos := val_pos d hc h48
    have ha : Lib.atoiAll (45 :: d) = .ok (-(val d : Int)) := by
      unfold Lib.atoiAll
      simp only [show (45 : UInt8).toNat = 45 from rfl]
      rw [if_pos (Or.inr trivial), parse_mag d hc (by omega)]
      simp only []
      rw [if_neg (by simp), if_neg (by omega), if_pos trivial]
    unfold numM numV
    rw [ha, hd]
    simp only []
    rw [if_pos hn, if_pos]
    unfold Lib.itoa
    rw [if_pos (by omega), show (-(val d : Int)).natAbs = val d from by omega, canon_dd _ d rfl hc]
  | false =>
    have hd : digL l = l := by unfold digL; rw [hn]; rfl
    rw [hd] at hc h2
    have hv := h2 hn
    obtain ⟨a, r, rfl⟩ : ∃ a r, l = a :: r := by
      cases l with
      | nil => exact absurd rfl hc.1
      | cons a r => exact ⟨a, r, rfl⟩
    have hda : 48 ≤ a.toNat ∧ a.toNat ≤ 57 := by
      have := hc.2.1
      simp only [List.all_cons, Bool.and_eq_true] at this
      exact (dig_iff a).1 this.1
    have ha : Lib.atoiAll (a :: r) = .ok (val (a :: r) : Int) := by
      unfold Lib.atoiAll
      simp only []
      rw [if_neg (by omega), parse_mag _ hc (by omega)]
      simp only []
      rw [if_neg (by omega), if_neg (by omega), if_neg (by omega)]
    unfold numM numV
    rw [ha, hd]
    simp only []
    rw [if_neg (show ¬ (negL (a :: r) = true) by rw [hn]; decide), if_pos]
    unfold Lib.itoa
    rw [if_neg (by omega), show ((val (a :: r) : Nat) : Int).toNat = val (a :: r) from by omega, canon_dd _ _ rfl hc]

theorem good_of (l : List UInt8) (v : Int) (hv : Lib.atoiAll l = .ok v) (hi : Lib.itoa v = l) : good l := by
  obtain ⟨b0, b1⟩ := Lib.atoiAll_bounds hv
  subst hi
  unfold Lib.itoa
  by_cases h : v < 0
  · rw [if_pos h]
    obtain ⟨hc, hval, hh⟩ := dd_canon v.natAbs
    have hn : negL (45 :: Lib.decDigits v.natAbs) = true := rfl
    have hd : digL (45 :: Lib.decDigits v.natAbs) = Lib.decDigits v.natAbs := rfl
    refine ⟨hd ▸ hc, fun _ => ⟨?_, by rw [hd, hval]; omega⟩, fun h' => by rw [hn] at h'; cases h'⟩
    rw [hd]
    intro e
    exact hh (by omega) (by rw [e]; rfl)
  · rw [if_neg h]
    obtain ⟨hc, hval, hh⟩ := dd_canon v.toNat
    have hn : negL (Lib.decDigits v.toNat) = false := by
      cases hd : Lib.decDigits v.toNat with
      | nil => exact absurd hd hc.1
      | cons a r =>
        have := hc.2.1
        rw [hd] at this
        simp only [List.all_cons, Bool.and_eq_true] at this
        have ha := (dig_iff a).1 this.1
        unfold negL
        simp only [List.head?_cons]
        rw [beq_eq_false_iff_ne]
        intro e
        simp only [Option.some.injEq] at e
        subst e
        have e45 : (45 : UInt8).toNat = 45 := rfl
        omega
    have hd : digL (Lib.decDigits v.toNat) = Lib.decDigits v.toNat := by unfold digL; rw [hn]; rfl
    exact ⟨by rw [hd]; exact hc, fun h' => absurd (hn.symm.trans h') (by decide), fun _ => by rw [hd, hval]; omega⟩

theorem num_bad (l : List UInt8) (h : ¬ good l) : numM l = (0, false) := by
  unfold numM
  split
  · rename_i v hv
    rw [if_neg (fun hi => h (good_of l v hv hi))]
  · rfl

theorem valA_low (m : List UInt8) : ∀ acc : Nat, acc * 10 ^ m.length ≤ valA acc m := by
  induction m with
  | nil => intro acc; show acc * 10 ^ 0 ≤ acc; omega
  | cons c r ih =>
    intro acc
    have h1 : (10 * acc + (c.toNat - 48)) * 10 ^ r.length ≤ valA acc (c :: r) := ih (10 * acc + (c.toNat - 48))
    have h2 : acc * 10 ^ (c :: r).length = (10 * acc) * 10 ^ r.length := by
      rw [List.length_cons, Nat.pow_succ, Nat.mul_comm (10 ^ r.length) 10, ← Nat.mul_assoc, Nat.mul_comm acc 10]
    have h3 : (10 * acc) * 10 ^ r.length ≤ (10 * acc + (c.toNat - 48)) * 10 ^ r.length := Nat.mul_le_mul_right _ (Nat.le_add_right _ _)
    exact h2.symm ▸ Nat.le_trans h3 h1
theorem canon_long (d : List UInt8) (hc : canon d) (h : 20 ≤ d.length) : 10000000000000000000 ≤ val d := by
  obtain ⟨h0, h1, h2⟩ := hc
  cases d with
  | nil => exact absurd rfl h0
  | cons a r =>
    rw [List.all_cons, Bool.and_eq_true] at h1
    have ha := (dig_iff a).1 h1.1
    have hne : a.toNat ≠ 48 := by
      intro e
      have ea : a = 48 := UInt8.toNat_inj.1 e
      have := h2 (by rw [ea]; rfl)
      omega
    have hge : (10 * 0 + (a.toNat - 48)) * 10 ^ r.length ≤ val (a :: r) := valA_low r (10 * 0 + (a.toNat - 48))
    have h1 : 10 ^ 19 ≤ 10 ^ r.length := Nat.pow_le_pow_right (by omega) (by rw [List.length_cons] at h; omega)
    have h3 : 1 * 10 ^ r.length ≤ (10 * 0 + (a.toNat - 48)) * 10 ^ r.length := Nat.mul_le_mul_right _ (by clear hge h1; omega)
    have h4 : (10 : Nat) ^ 19 = 10000000000000000000 := by decide +kernel
    have h5 : 1 * 10 ^ r.length = 10 ^ r.length := Nat.one_mul _
    exact h4 ▸ Nat.le_trans h1 (Nat.le_trans (Nat.le_of_eq h5.symm) (Nat.le_trans h3 hge))
instance (l : List UInt8) : Decidable (good l) := by unfold good; exact inferInstance
theorem num_eq (l : List UInt8) : numM l = if good l then (numV l, true) else (0, false) := by
  by_cases h : good l
  · rw [if_pos h, num_good l h]
  · rw [if_neg h, num_bad l h]
end Ln
end Go.Proofs.YtjjinpohebcicaaDoor
namespace Go.Proofs.YtjjinpohebcicaaDoor
open Go.RowKit Ln Go.Proofs.YtjjinpohebcicaaDoorW.PrintWords

/-- what is answered of the digits -/
def numE (neg : Bool) (n : Nat) : Int × Bool :=
  if neg = true ∧ n ≤ 9223372036854775808 then (-(n : Int), true) else if neg = false ∧ n < 9223372036854775808 then ((n : Int), true) else (0, false)

open PNumber in
theorem nj4 (k : Nat) (hk : 0 < k) (neg : Bool) (n : Nat) (hn : n < 18446744073709551616) : smithyref31_Number.j4 k neg (n : Int) (if neg = true then decide ((n : Int) ≤ 9223372036854775808) else false) = some (numE neg n) := by
  obtain ⟨k, rfl⟩ : ∃ m, k = m + 1 := ⟨k - 1, by omega⟩
  simp only [smithyref31_Number.j4]
  unfold numE
  cases neg with
  | true =>
    simp only [if_true]
    by_cases h : n ≤ 9223372036854775808
    · rw [decide_eq_true (by omega), if_pos rfl, if_pos ⟨trivial, h⟩]
      congr 2
      show wrap64 ((-(n : Int)) % 18446744073709551616) = _
      unfold wrap64
      omega
    · rw [decide_eq_false (by omega), if_neg (by decide), if_neg (fun h' => h h'.2), if_neg (by simp)]
  | false =>
    simp only [Bool.false_eq_true, if_false]
    by_cases h : n < 9223372036854775808
    · rw [if_pos (by omega), if_neg (by simp), if_pos ⟨trivial, h⟩]
      congr 2
      unfold wrap64
      omega
    · rw [if_neg (by omega), if_neg (by simp), if_neg (fun h' => h h'.2)]

theorem val_take (l : List UInt8) (i : Nat) (h : i < l.length) : val (l.take (i + 1)) = 10 * val (l.take i) + ((l[i]'h).toNat - 48) := by
  rw [List.take_succ_eq_append_getElem h, val_snoc]
theorem p19 : 10 ^ 19 ≤ 18446744073709551616 := by decide +kernel
open PNumber in
theorem nl0 (d : ByteArray) (neg : Bool) (hs : d.size ≤ 19) (n : Nat) : ∀ (k i : Nat), i ≤ d.size → d.size - i = n → n + 2 ≤ k → (d.data.toList.take i).all dig = true →
    smithyref31_Number.l0 k neg d (val (d.data.toList.take i) : Int) (i : Int) = some (if d.data.toList.all dig = true then numE neg (val d.data.toList) else (0, false)) := by
  induction n with
  | zero =>
    intro k i hi hd hk ht
    obtain ⟨k, rfl⟩ : ∃ m, k = m + 1 := ⟨k - 1, by omega⟩
    have he : d.data.toList.take i = d.data.toList := List.take_of_length_le (by simp; omega)
    rw [he] at ht ⊢
    have hb := val_bound _ ht
    have hl : d.data.toList.length = d.size := by simp
    rw [hl] at hb
    have hb2 : 10 ^ d.size ≤ 10 ^ 19 := Nat.pow_le_pow_right (by omega) hs
    have hb3 : val d.data.toList < 18446744073709551616 := Nat.lt_of_lt_of_le hb (Nat.le_trans hb2 p19)
    simp only [smithyref31_Number.l0]
    rw [if_neg (by omega), if_pos ht]
    have hj := nj4 k (by omega) neg _ hb3
    cases neg
    · rw [if_neg (by decide)]; exact hj
    · rw [if_pos rfl]; exact hj
  | succ n ih =>
    intro k i hi hd hk ht
    obtain ⟨k, rfl⟩ : ∃ m, k = m + 1 := ⟨k - 1, by omega⟩
    have hlt : i < d.size := by omega
    have hll : i < d.data.toList.length := by simpa using hlt
    simp only [smithyref31_Number.l0]
    rw [if_pos (by omega), if_pos (by omega), bt_nat' d i hlt]
    have hg : d.data.toList[i]'hll = d[i]'hlt := by simp [ByteArray.getElem_eq_getElem_data]
    by_cases hc : dig (d[i]'hlt) = true
    · have hc' := (dig_iff _).1 hc
      rw [if_neg (by omega), if_neg (by omega)]
      have htn : (d.data.toList.take (i + 1)).all dig = true := by
        rw [List.take_succ_eq_append_getElem hll, List.all_append, ht, hg]
        simp [hc]
      have hvn := val_take d.data.toList i hll
      rw [hg] at hvn
      have hb := val_bound _ htn
      have hl : (d.data.toList.take (i + 1)).length ≤ 19 := by simp; omega
      have hb2 : 10 ^ (d.data.toList.take (i + 1)).length ≤ 10 ^ 19 := Nat.pow_le_pow_right (by omega) hl
      have hb3 : val (d.data.toList.take (i + 1)) < 18446744073709551616 := Nat.lt_of_lt_of_le hb (Nat.le_trans hb2 p19)
      have e1 : IntKind.u64.wrap (IntKind.u64.wrap (10 * (val (d.data.toList.take i) : Int)) + (((d[i]'hlt).toNat : Int) - 48) % 256) = (val (d.data.toList.take (i + 1)) : Int) := by
        show ((10 * (val (d.data.toList.take i) : Int)) % 18446744073709551616 + (((d[i]'hlt).toNat : Int) - 48) % 256) % 18446744073709551616 = _
        omega
      rw [e1, w1 i (by omega)]
      exact ih k (i + 1) (by omega) (by omega) (by omega) htn
    · have hnot : ¬ d.data.toList.all dig = true := by
        intro h
        rw [List.all_eq_true] at h
        exact hc (by rw [← hg]; exact h _ (List.getElem_mem hll))
      rw [if_neg hnot]
      have : ¬ (48 ≤ (d[i]'hlt).toNat ∧ (d[i]'hlt).toNat ≤ 57) := fun h => hc ((dig_iff _).2 h)
      by_cases h1 : (d[i]'hlt).toNat < 48
      · rw [if_pos (by omega)]
      · rw [if_neg (by omega), if_pos (by omega)]

open PNumber in
theorem nj1 (d : ByteArray) (neg : Bool) : smithyref31_Number.j1 23 neg d = some (if canon d.data.toList ∧ (neg = true → d.data.toList ≠ [48]) ∧ d.size ≤ 19 then numE neg (val d.data.toList) else (0, false)) := by
  have hl : d.data.toList.length = d.size := by simp
  simp only [smithyref31_Number.j1]
  have hbad : smithyref31_Number.j2 22 neg d true = some (0, false) := by simp [smithyref31_Number.j2]
  by_cases h0 : d.size = 0
  · rw [if_pos (by omega), hbad, if_neg]
    rintro ⟨hc, _⟩
    exact hc.1 (List.length_eq_zero_iff.1 (by omega))
  · rw [if_neg (by omega)]
    by_cases h19 : d.size > 19
    · rw [if_pos (by omega), hbad, if_neg (by omega)]
    · rw [if_neg (by omega), if_pos (by omega)]
      have hz : bt d (0 : Int) = ((d[0]'(by omega)).toNat : Int) := bt_nat' d 0 (by omega)
      rw [hz]
      have hgood : smithyref31_Number.j2 22 neg d false = some (if d.data.toList.all dig = true then numE neg (val d.data.toList) else (0, false)) := by
        simp only [smithyref31_Number.j2]
        rw [if_neg (by decide)]
        exact nl0 d neg (by omega) d.size 21 0 (by omega) (by omega) (by omega) (by simp)
      have hh := head_of d (by omega)
      have hne : d.data.toList ≠ [] := by intro e; rw [e] at hl; simp at hl; omega
      by_cases h48 : (d[0]'(by omega)) = 48
      · rw [if_pos (by rw [h48]; rfl)]
        by_cases h1 : d.size > 1
        · rw [if_pos (by omega), hbad, if_neg]
          rintro ⟨hc, _⟩
          have := hc.2.2 (by rw [hh, h48])
          omega
        · rw [if_neg (by omega)]
          have he : d.data.toList = [48] := by
            match hd : d.data.toList, hne with
            | [a], _ => rw [hd] at hh; simp at hh; rw [hh, h48]
            | a :: b :: r, _ => rw [hd] at hl; simp at hl; omega
          cases neg with
          | true => rw [hbad, if_neg]; rintro ⟨_, h, _⟩; exact h rfl he
          | false =>
            rw [hgood, if_pos (by rw [he]; decide), if_pos]
            refine ⟨⟨hne, by rw [he]; decide, fun _ => by rw [he]; rfl⟩, (fun h => by cases h), by omega⟩
      · have h48' : ¬ (((d[0]'(by omega)).toNat : Int) = 48) := fun h => h48 ((u8_eq _ 48).2 (show (d[0]'(by omega)).toNat = 48 from by omega))
        rw [if_neg h48', hgood]
        by_cases hall : d.data.toList.all dig = true
        · rw [if_pos hall, if_pos]
          refine ⟨⟨hne, hall, fun h => absurd (by rw [hh] at h; exact Option.some.inj h) h48⟩, fun _ h => ?_, by omega⟩
          rw [h] at hh; simp at hh
          exact h48 hh.symm
        · rw [if_neg hall, if_neg (fun h => hall h.1.2.1)]

theorem numE_true (d : List UInt8) (sz : Nat) (hsz : d.length = sz) (l : List UInt8) (hn : negL l = true) (hd : digL l = d) : (if canon d ∧ (true = true → d ≠ [48]) ∧ sz ≤ 19 then numE true (val d) else (0, false)) = numM l := by
  rw [num_eq]
  subst hd
  by_cases hg : good l
  · obtain ⟨h1, h2, h3⟩ := hg
    obtain ⟨h4, h5⟩ := h2 hn
    have hl : sz ≤ 19 := by
      rcases Nat.lt_or_ge 19 sz with h | h
      · have := canon_long _ h1 (by omega); omega
      · exact h
    rw [if_pos ⟨h1, fun _ => h4, hl⟩, if_pos ⟨h1, h2, h3⟩]
    unfold numE numV
    rw [if_pos ⟨rfl, h5⟩, if_pos hn]
  · rw [if_neg hg]
    by_cases hc : canon (digL l) ∧ (true = true → digL l ≠ [48]) ∧ sz ≤ 19
    · rw [if_pos hc]
      unfold numE
      rw [if_neg (fun h => hg ⟨hc.1, fun _ => ⟨hc.2.1 rfl, h.2⟩, fun h' => by rw [hn] at h'; cases h'⟩), if_neg (by simp)]
    · rw [if_neg hc]
theorem numE_false (d : List UInt8) (sz : Nat) (hsz : d.length = sz) (hn : negL d = false) : (if canon d ∧ (false = true → d ≠ [48]) ∧ sz ≤ 19 then numE false (val d) else (0, false)) = numM d := by
  rw [num_eq]
  have hd : digL d = d := by unfold digL; rw [hn]; rfl
  by_cases hg : good d
  · obtain ⟨h1, h2, h3⟩ := hg
    have h5 := h3 hn
    have h1' := h1
    rw [hd] at h1 h5
    have hl : sz ≤ 19 := by
      rcases Nat.lt_or_ge 19 sz with h | h
      · have := canon_long _ h1 (by omega); omega
      · exact h
    rw [if_pos ⟨h1, (fun h => by cases h), hl⟩, if_pos ⟨h1', h2, h3⟩]
    unfold numE numV
    rw [if_neg (by simp), if_pos ⟨rfl, h5⟩, if_neg (by rw [hn]; decide), hd]
  · rw [if_neg hg]
    by_cases hc : canon d ∧ (false = true → d ≠ [48]) ∧ sz ≤ 19
    · rw [if_pos hc]
      unfold numE
      rw [if_neg (by simp), if_neg (fun h => hg ⟨by rw [hd]; exact hc.1, (fun h' => by rw [hn] at h'; cases h'), fun _ => by rw [hd]; exact h.2⟩)]
    · rw [if_neg hc]

open PNumber in
theorem number_f (s : ByteArray) : smithyref31_Number.f 24 s = some (numM s.data.toList) := by
  have hl : s.data.toList.length = s.size := by simp
  unfold smithyref31_Number.f
  by_cases h0 : (s.size : Int) > 0
  · rw [if_pos h0, if_pos h0]
    have hp : 0 < s.size := by omega
    have hz : bt s (0 : Int) = ((s[0]'hp).toNat : Int) := bt_nat' s 0 hp
    have hh := head_of s hp
    rw [hz]
    simp only [smithyref31_Number.j0]
    by_cases h45 : (s[0]'hp) = 45
    · have hn : negL s.data.toList = true := by unfold negL; rw [hh, h45]; rfl
      rw [h45, if_pos (show (((45 : UInt8).toNat : Int) == 45) = true from rfl), if_pos (by omega)]
      have e1 : (((45 : UInt8).toNat : Int) == 45) = true := rfl
      rw [e1, nj1]
      have hex : (s.extract 1 s.size).data.toList = s.data.toList.tail := by
        rw [ByteArray.data_extract, Array.toList_extract, List.extract_eq_take_drop]
        have : s.data.toList.tail = s.data.toList.drop 1 := by simp
        rw [this]
        apply List.take_of_length_le
        simp
      have hd : digL s.data.toList = s.data.toList.tail := by unfold digL; rw [hn]; rfl
      have hsz : (s.extract 1 s.size).data.toList.length = (s.extract 1 s.size).size := by simp
      rw [hex] at hsz ⊢
      exact congrArg some (numE_true _ _ hsz _ hn hd)
    · have hn : negL s.data.toList = false := by
        unfold negL; rw [hh, beq_eq_false_iff_ne]; intro e; exact h45 (Option.some.inj e)
      have e1 : (((s[0]'hp).toNat : Int) == 45) = false := by
        rw [beq_eq_false_iff_ne]; intro e; exact h45 ((u8_eq _ 45).2 (show (s[0]'hp).toNat = 45 from by omega))
      rw [e1, if_neg (by decide), nj1]
      exact congrArg some (numE_false _ _ hl hn)
  · rw [if_neg h0]
    simp only [smithyref31_Number.j0]
    rw [if_neg (by decide), nj1]
    have he : s.data.toList = [] := List.length_eq_zero_iff.1 (by omega)
    exact congrArg some (numE_false _ _ hl (by rw [he]; rfl))

theorem rnumber_w (s : ByteArray) (w : World) :
    Calls Tryd.prog 15 #[.string s] w fun e w' => e = .returned (.tuple #[.int .i64 (numM s.data.toList).1, .bool (numM s.data.toList).2]) ∧ Drawn0 w w' :=
  PNumber.smithyref31_Number.calls 24 s _ _ w (number_f s)
end Go.Proofs.YtjjinpohebcicaaDoor
namespace Go.Proofs.YtjjinpohebcicaaDoor
open Go.RowKit Ln Go.Proofs.YtjjinpohebcicaaDoorW.PrintWords

open PName in
theorem name_l0 (s : ByteArray) (hs : s.size ≤ 4611686018427387) (n : Nat) : ∀ (k i : Nat), i ≤ s.size → s.size - i = n → n < k → (s.data.toList.take i).all nameCh = true → smithyref31_Name.l0 k s (i : Int) = some (nameM s.data.toList) := by
  induction n with
  | zero =>
    intro k i hi hd hk ht
    obtain ⟨k, rfl⟩ : ∃ m, k = m + 1 := ⟨k - 1, by omega⟩
    rw [name_end s i (by omega) ht]
    simp only [smithyref31_Name.l0]
    rw [if_neg (by omega), ← ByteArray.toList_eq]
    have hl : s.toList.length = s.size := by rw [ByteArray.toList_eq]; simp
    by_cases h1 : s.size = 0
    · have : s.toList = [] := List.length_eq_zero_iff.1 (by omega)
      rw [if_neg (by omega), this]; rfl
    · have : s.toList ≠ [] := fun h => by rw [h] at hl; simp at hl; omega
      rw [if_pos (by omega)]
      have e2 : s.toList.isEmpty = false := by cases hh : s.toList with
        | nil => exact absurd hh this
        | cons a r => rfl
      rw [e2]
      congr 1
      simp
      omega
  | succ n ih =>
    intro k i hi hd hk ht
    obtain ⟨k, rfl⟩ : ∃ m, k = m + 1 := ⟨k - 1, by omega⟩
    have hlt : i < s.size := by omega
    simp only [smithyref31_Name.l0]
    rw [if_pos (by omega), if_pos (by omega), bt_nat' s i hlt, w1 i (by omega)]
    by_cases hc : nameCh (s[i]'hlt) = true
    · have hr := (nameCh_iff _).1 hc
      have hrec := ih k (i + 1) (by omega) (by omega) (by omega) (name_next s i hlt ht hc)
      rw [hrec]
      unfold nameR at hr
      repeat' split
      all_goals first | rfl | (exfalso; omega)
    · have hr : ¬ nameR ((s[i]'hlt).toNat : Int) := fun h => hc ((nameCh_iff _).2 h)
      rw [name_false s i hlt (Bool.eq_false_iff.2 hc)]
      unfold nameR at hr
      repeat' split
      all_goals first | rfl | (exfalso; omega)

theorem rname_w (s : ByteArray) (w : World) (hs : s.size ≤ 1000000) :
    Calls Tryd.prog 40 #[.string s] w fun e w' => e = .returned (.bool (nameM s.data.toList)) ∧ Drawn0 w w' :=
  PName.smithyref31_Name.calls (s.size + 1) s _ w (name_l0 s (by omega) s.size (s.size + 1) 0 (by omega) (by omega) (by omega) rfl)

/-- how many slashes stand right ahead of a place -/
def slsh (s : ByteArray) (f : Nat) : Nat → Nat
  | 0 => 0
  | i + 1 => if h : i < s.size then (if f ≤ i ∧ (s[i]'h) = 92 then slsh s f i + 1 else 0) else 0

open Pquoted in
theorem slashes_l0 (s : ByteArray) (hs : s.size ≤ 4611686018427387) (f a : Nat) (ha : a ≤ s.size) (hf : f ≤ 4611686018427387) (d : Nat) : ∀ (k n : Nat), n ≤ a → a - n = d → d + 1 ≤ k → smithyref31_slashes.l0 k s (f : Int) (a : Int) (n : Int) = some ((n + slsh s f (a - n) : Nat) : Int) := by
  induction d with
  | zero =>
    intro k n hn hd hk
    obtain ⟨k, rfl⟩ : ∃ m, k = m + 1 := ⟨k - 1, by omega⟩
    have e : wrap64 (wrap64 ((a : Int) - (n : Int)) - 1) = -1 := by unfold wrap64; omega
    simp only [smithyref31_slashes.l0]
    rw [e, if_neg (by omega), hd]
    rfl
  | succ d ih =>
    intro k n hn hd hk
    obtain ⟨k, rfl⟩ : ∃ m, k = m + 1 := ⟨k - 1, by omega⟩
    have e : wrap64 (wrap64 ((a : Int) - (n : Int)) - 1) = (d : Int) := by unfold wrap64; omega
    have hlt : d < s.size := by omega
    simp only [smithyref31_slashes.l0]
    rw [e, hd, slsh, dif_pos hlt]
    by_cases h1 : f ≤ d
    · rw [if_pos (by omega), if_pos (by omega), if_pos (by omega), bt_nat' s d hlt]
      by_cases h2 : (s[d]'hlt) = 92
      · rw [h2, if_pos (show ((92 : UInt8).toNat : Int) = 92 from rfl), if_pos ⟨h1, rfl⟩, w1 n (by omega), ih k (n + 1) (by omega) (by omega) (by omega), show a - (n + 1) = d from by omega]
        congr 2; omega
      · rw [if_neg (show ¬ ((s[d]'hlt).toNat : Int) = 92 from fun h => h2 ((u8_eq _ 92).2 (show (s[d]'hlt).toNat = 92 from by omega))), if_neg (fun h => h2 h.2)]
        rfl
    · rw [if_neg (by omega), if_neg (fun h => h1 h.1)]
      rfl

open Pquoted in
theorem rblank_f (c : UInt8) : smithyref31_blank.f (c.toNat : Int) = some (blk c) := blank_f c

/-- what quoted answers, where the closing quote stands at q -/
def qw (s : ByteArray) (a q : Nat) : Int × Int × Bool :=
  if q < s.size then ((a : Int), ((q + 1 : Nat) : Int), if h : q + 1 < s.size then !blk (s[q + 1]'h) else false) else ((a : Int), (s.size : Int), true)

open Pquoted in
theorem quoted_l0 (s : ByteArray) (hs : s.size ≤ 4611686018427) (a : Nat) (ha : a < s.size) (d : Nat) : ∀ (k i : Nat), a + 1 ≤ i → s.size - i ≤ d → s.size + 2 * d + 3 ≤ k → i ≤ s.size + 1 → slsh s (a + 1) i % 2 = 0 → smithyref31_quoted.l0 k s (a : Int) (i : Int) = some (qw s a (endQ s i)) := by
  have out : ∀ (k i : Nat), 0 < k → ¬ i < s.size → i ≤ s.size + 1 → smithyref31_quoted.l0 k s (a : Int) (i : Int) = some ((a : Int), (s.size : Int), true) := by
    intro k i hk hi _
    obtain ⟨k, rfl⟩ : ∃ m, k = m + 1 := ⟨k - 1, by omega⟩
    simp only [smithyref31_quoted.l0]
    rw [if_neg (by omega)]
  have hsl : ∀ (k i : Nat), i ≤ s.size → s.size + 1 ≤ k → smithyref31_slashes.f k s (wrap64 ((a : Int) + 1)) (i : Int) = some (slsh s (a + 1) i : Int) := by
    intro k i hi hk
    unfold smithyref31_slashes.f
    rw [w1 a (by omega)]
    have := slashes_l0 s (by omega) (a + 1) i hi (by omega) i k 0 (by omega) (by omega) (by omega)
    simpa using this
  -- one step at an escaped place
  have skip : ∀ (k i : Nat), s.size + 2 ≤ k → a + 1 ≤ i → i < s.size → slsh s (a + 1) i % 2 = 1 → smithyref31_quoted.l0 k s (a : Int) (i : Int) = smithyref31_quoted.l0 (k - 1) s (a : Int) ((i + 1 : Nat) : Int) := by
    intro k i hk hi hlt hodd
    obtain ⟨k, rfl⟩ : ∃ m, k = m + 1 := ⟨k - 1, by omega⟩
    conv => lhs; simp only [smithyref31_quoted.l0]
    rw [if_pos (by omega), if_pos (by omega), bt_nat' s i hlt, w1 i (by omega), hsl k i (by omega) (by omega)]
    by_cases h34 : ((s[i]'hlt).toNat : Int) = 34
    · rw [if_pos h34]
      simp only [Option.bind_some]
      rw [if_pos (by rw [Int.tmod_eq_emod_of_nonneg (by omega)]; omega)]
      rfl
    · rw [if_neg h34]; rfl
  induction d with
  | zero =>
    intro k i hi hd hk hle hev
    have hge : ¬ i < s.size := by omega
    rw [out k i (by omega) hge hle, endQ, dif_neg hge]
    unfold qw
    rw [if_neg hge]
  | succ d ih =>
    intro k i hi hd hk hle hev
    by_cases hlt : i < s.size
    · obtain ⟨k, rfl⟩ : ∃ m, k = m + 1 := ⟨k - 1, by omega⟩
      simp only [smithyref31_quoted.l0]
      rw [if_pos (by omega), if_pos (by omega), bt_nat' s i hlt, w1 i (by omega), hsl k i (by omega) (by omega), endQ, dif_pos hlt]
      by_cases h34 : (s[i]'hlt) = 34
      · rw [if_pos h34, h34, if_pos (show ((34 : UInt8).toNat : Int) = 34 from rfl)]
        simp only [Option.bind_some]
        rw [if_neg (by rw [Int.tmod_eq_emod_of_nonneg (by omega)]; omega)]
        unfold qw
        rw [if_pos hlt]
        by_cases h1 : i + 1 < s.size
        · rw [if_pos (by omega), if_pos (by omega), bt_nat' s (i + 1) h1, rblank_f, dif_pos h1]
          rfl
        · rw [if_neg (by omega), dif_neg h1]
      · rw [if_neg h34, if_neg (show ¬ ((s[i]'hlt).toNat : Int) = 34 from fun h => h34 ((u8_eq _ 34).2 (show (s[i]'hlt).toNat = 34 from by omega)))]
        by_cases h92 : (s[i]'hlt) = 92
        · rw [if_pos h92]
          have hodd : slsh s (a + 1) (i + 1) % 2 = 1 := by rw [slsh, dif_pos hlt, if_pos ⟨hi, h92⟩]; omega
          by_cases h1 : i + 1 < s.size
          · rw [skip k (i + 1) (by omega) (by omega) h1 hodd]
            refine ih (k - 1) (i + 2) (by omega) (by omega) (by omega) (by omega) ?_
            rw [slsh, dif_pos h1]
            split
            · omega
            · rfl
          · rw [out k (i + 1) (by omega) h1 (by omega), endQ, dif_neg (by omega)]
            unfold qw
            rw [if_neg (by omega)]
        · rw [if_neg h92]
          refine ih k (i + 1) (by omega) (by omega) (by omega) (by omega) ?_
          rw [slsh, dif_pos hlt, if_neg (fun h => h92 h.2)]
    · rw [out k i (by omega) hlt hle, endQ, dif_neg hlt]
      unfold qw
      rw [if_neg hlt]

open Pquoted in
theorem quoted_f (s : ByteArray) (hs : s.size ≤ 1000000) (a : Nat) (ha : a < s.size) : smithyref31_quoted.f (s.size + 2 * s.size + 3) s (a : Int) = some (qw s a (endQ s (a + 1))) := by
  unfold smithyref31_quoted.f
  rw [w1 a (by omega)]
  refine quoted_l0 s (by omega) a ha s.size _ (a + 1) (by omega) (by omega) (by omega) (by omega) ?_
  rw [slsh, dif_pos ha, if_neg (by omega)]

theorem qw_next (s : ByteArray) (p a : Nat) (h : skipB s p = a) (hlt : a < s.size) (h34 : (s[a]'hlt) = 34) (e : Nat) (ok : Bool) (hn : nextW s p = (a, e, ok)) : ∃ e2 : Nat, qw s a (endQ s (a + 1)) = ((a : Int), (e2 : Int), !ok) ∧ (ok = true → e2 = e) ∧ a < e2 ∧ e2 ≤ s.size := by
  subst h
  have hge := endQ_ge s (skipB s p + 1)
  unfold nextW at hn
  simp only [dif_pos hlt, if_pos h34] at hn
  unfold qw
  by_cases h1 : endQ s (skipB s p + 1) < s.size
  · rw [if_pos h1]
    rw [dif_pos h1] at hn
    by_cases h2 : endQ s (skipB s p + 1) + 1 < s.size
    · rw [dif_pos h2]
      rw [dif_pos h2] at hn
      by_cases h3 : blk (s[endQ s (skipB s p + 1) + 1]'h2) = true
      · rw [if_pos h3] at hn
        simp only [Prod.mk.injEq, true_and] at hn
        obtain ⟨rfl, rfl⟩ := hn
        exact ⟨_, by rw [h3], fun _ => rfl, by omega, by omega⟩
      · rw [if_neg h3] at hn
        simp only [Prod.mk.injEq, true_and] at hn
        obtain ⟨rfl, rfl⟩ := hn
        exact ⟨endQ s (skipB s p + 1) + 1, by rw [Bool.eq_false_iff.2 h3], (fun h => by cases h), by omega, by omega⟩
    · rw [dif_neg h2]
      rw [dif_neg h2] at hn
      simp only [Prod.mk.injEq, true_and] at hn
      obtain ⟨rfl, rfl⟩ := hn
      exact ⟨_, rfl, fun _ => rfl, by omega, by omega⟩
  · rw [if_neg h1]
    rw [dif_neg h1] at hn
    simp only [Prod.mk.injEq, true_and] at hn
    obtain ⟨rfl, rfl⟩ := hn
    exact ⟨s.size, rfl, (fun h => by cases h), hlt, Nat.le_refl _⟩
end Go.Proofs.YtjjinpohebcicaaDoor
namespace Go.Proofs.YtjjinpohebcicaaDoor
open Go.RowKit Ln Go.Proofs.YtjjinpohebcicaaDoorW.PrintWords

/-- a word as three cells -/
def kW : Kd (Nat × Nat × Bool) := Kd.iso (Kd.pair (Kd.int .i64) (Kd.pair (Kd.int .i64) Kd.bool)) (fun x : Nat × Nat × Bool => ((x.1 : Int), (x.2.1 : Int), x.2.2))
theorem kW_mkM (w : World) (base : Nat) (ok : Nat → Prop) (x : Nat × Nat × Bool) : kW.M w base ok x [.int .i64 x.1, .int .i64 x.2.1, .bool x.2.2] := ⟨[.int .i64 x.1], [.int .i64 x.2.1, .bool x.2.2], rfl, rfl, ⟨[.int .i64 x.2.1], [.bool x.2.2], rfl, rfl, rfl⟩⟩
theorem wordInfo : (Tryd.prog.info? 57).map (fun i => (i.zero, i.size, i.bytes)) = some (some (.agg #[.int .i64 0, .int .i64 0, .bool false]), 3, 24) := by kernel_rfl

/-- a word of the document's and one of the program's -/
def WR (s : ByteArray) (x y : Nat × Nat × Bool) : Prop := x.1 = y.1 ∧ x.2.2 = !y.2.2 ∧ (y.2.2 = true → x.2.1 = y.2.1) ∧ x.1 < x.2.1 ∧ x.2.1 ≤ s.size
inductive WRs (s : ByteArray) : List (Nat × Nat × Bool) → List (Nat × Nat × Bool) → Prop
  | nil : WRs s [] []
  | cons {x y xs ys} : WR s x y → WRs s xs ys → WRs s (x :: xs) (y :: ys)
theorem WRs.snoc {s : ByteArray} {xs ys : List (Nat × Nat × Bool)} (h : WRs s xs ys) {x y : Nat × Nat × Bool} (hx : WR s x y) : WRs s (xs ++ [x]) (ys ++ [y]) := by
  induction h with
  | nil => exact .cons hx .nil
  | cons h1 _ ih => exact .cons h1 ih

theorem wordsF_skip (s : ByteArray) (p : Nat) (h : p < s.size) (hb : blk (s[p]'h) = true) : wordsF s p = wordsF s (p + 1) := by
  have h1 : skipB s p = skipB s (p + 1) := by rw [skipB, dif_pos h, if_pos hb]
  have h2 : nextW s p = nextW s (p + 1) := by unfold nextW; simp only [h1]
  conv => lhs; rw [wordsF]
  conv => rhs; rw [wordsF]
  simp only [h1, h2]
theorem skip_self (s : ByteArray) (p : Nat) (h : p < s.size) (hb : blk (s[p]'h) = false) : skipB s p = p := by
  rw [skipB, dif_pos h, if_neg (by rw [hb]; decide)]
theorem wordsF_end (s : ByteArray) (p : Nat) (h : ¬ p < s.size) : wordsF s p = [] := by
  rw [wordsF, dif_neg]
  have := skipB_ge s p
  omega
theorem wordsF_at (s : ByteArray) (p : Nat) (h : p < s.size) (hb : blk (s[p]'h) = false) : wordsF s p = if (nextW s p).2.2 = true then nextW s p :: wordsF s (nextW s p).2.1 else [nextW s p] := by
  rw [wordsF, dif_pos (by rw [skip_self s p h hb]; exact h)]
theorem next_plain (s : ByteArray) (p : Nat) (h : p < s.size) (hb : blk (s[p]'h) = false) (h34 : (s[p]'h) ≠ 34) : nextW s p = (p, endW s p, true) := by
  have hs := skip_self s p h hb
  unfold nextW
  simp only [hs, dif_pos h, if_neg h34]
theorem endW_gt (s : ByteArray) (p : Nat) (h : p < s.size) (hb : blk (s[p]'h) = false) : p < endW s p := by
  rw [endW, dif_pos h, if_neg (by rw [hb]; decide)]
  have := endW_ge s (p + 1)
  omega
theorem next_fst (s : ByteArray) (p : Nat) (h : p < s.size) (hb : blk (s[p]'h) = false) : (nextW s p).1 = p := by rw [next_at, skip_self s p h hb]

open Pquoted in
theorem rblank_w (c : UInt8) (b : Bool) (w : World) (hb : blk c = b) : Calls Tryd.prog 38 #[.int .u8 (c.toNat : Int)] w fun e w' => e = .returned (.bool b) ∧ Drawn0 w w' :=
  smithyref31_blank.calls c.toNat b w (hb ▸ rblank_f c)

theorem rblank34 (w : World) : Calls Tryd.prog 38 #[.int .u8 34] w fun e w' => e = .returned (.bool false) ∧ Drawn0 w w' := rblank_w 34 false w (by decide)
theorem three_of {w : World} {g t : Nat} {x y z : Value} (h : w.heap[g]? = some (.cells #[x, y, z] t (0, 0))) :
    w.cell? ⟨g, 0, none⟩ = some x ∧ w.cell? ⟨g, 1, none⟩ = some y ∧ w.cell? ⟨g, 2, none⟩ = some z ∧ w.frozen? ⟨g, 0, none⟩ = false ∧ w.frozen? ⟨g, 1, none⟩ = false ∧ w.frozen? ⟨g, 2, none⟩ = false ∧ g < w.heap.size :=
  ⟨by rw [Lib.cell_of_heap h]; rfl, by rw [Lib.cell_of_heap h]; rfl, by rw [Lib.cell_of_heap h]; rfl, Lib.frozen_of_heap h 0, Lib.frozen_of_heap h 1, Lib.frozen_of_heap h 2, (Array.getElem?_eq_some_iff.1 h).1⟩
theorem three_set {w : World} {g t : Nat} {x y z : Value} (h : w.heap[g]? = some (.cells #[x, y, z] t (0, 0))) (a b c : Value) :
    (((w.setCell ⟨g, 0, none⟩ a).setCell ⟨g, 1, none⟩ b).setCell ⟨g, 2, none⟩ c).heap[g]? = some (.cells #[a, b, c] t (0, 0)) := by
  simp [World.setCell, Array.getElem?_modify, h]
theorem one_set {w : World} {g t : Nat} {x y z : Value} (h : w.heap[g]? = some (.cells #[x, y, z] t (0, 0))) (b : Value) :
    (w.setCell ⟨g, 1, none⟩ b).heap[g]? = some (.cells #[x, b, z] t (0, 0)) := by
  simp [World.setCell, Array.getElem?_modify, h]
theorem far1 {w : World} {B g j : Nat} {u v : Value} {xs : List (Nat × Nat × Bool)} (h : Kd.R kW 57 w B (fun k => k < g) v xs) : Kd.R kW 57 (w.setCell ⟨g, j, none⟩ u) B (fun k => k < g) v xs :=
  Kd.R_far (p := ⟨g, j, none⟩) h (fun k hk => by show k ≠ g; omega) u
theorem far3 {w : World} {B g : Nat} {v : Value} {xs : List (Nat × Nat × Bool)} (h : Kd.R kW 57 w B (fun k => k < g) v xs) (a b c : Value) : Kd.R kW 57 (((w.setCell ⟨g, 0, none⟩ a).setCell ⟨g, 1, none⟩ b).setCell ⟨g, 2, none⟩ c) B (fun k => k < g) v xs :=
  far1 (far1 (far1 h))
theorem new_blk (w : World) (o : Obj) : (w.alloc o).heap[w.heap.size]? = some o := by
  show (w.heap.push o)[w.heap.size]? = some o
  simp

open Pquoted in
def PQ (s : ByteArray) (a : Nat) : Option (Int × Int × Bool) := smithyref31_quoted.f (s.size + 2 * s.size + 3) s (a : Int)
open Pquoted in
theorem quoted_w (s : ByteArray) (a e2 : Nat) (br : Bool) (w : World) (h : PQ s a = some ((a : Int), (e2 : Int), br)) : Calls Tryd.prog 39 #[.string s, .int .i64 a] w fun e w' => e = .returned (.agg #[.int .i64 a, .int .i64 e2, .bool br]) ∧ Below w.heap.size w w' :=
  smithyref31_quoted.calls _ s a _ _ _ w h

set_option maxRecDepth 100000 in
set_option maxHeartbeats 1000000 in
theorem words_w (s : ByteArray) (w : World) (hs : s.size ≤ 1000000) : Calls Tryd.prog 25 #[.string s] w fun e w' => ∃ v xs, e = .returned v ∧ Kd.R kW 57 w' w.heap.size (fun _ => True) v xs ∧ WRs s xs (wordsF s 0) ∧ xs.length ≤ s.size ∧ Below w.heap.size w w' := by
  go_enter Tryd.func25, Tryd.ntmps25
  go_wp2
  go_loopw [3, 4] (fun v i wr => ∃ (p : Nat) (xs ys : List (Nat × Nat × Bool)), p ≤ s.size ∧ i = .int .i64 p ∧ xs.length ≤ p ∧ Hid (Kd.R kW 57 wr w.heap.size (fun _ => True) v xs) ∧ Hid (Below w.heap.size w wr) ∧ Hid (WRs s xs ys) ∧ Hid (wordsF s 0 = ys ++ wordsF s p)) (fun _ i _ => s.size - (intOf i).toNat)
  case atStart => exact ⟨0, [], [], Nat.zero_le _, rfl, by simp, Lib.hid (Kd.R_nil _ _ _ _ _), Lib.hid (Below.refl _ _), Lib.hid .nil, Lib.hid rfl⟩
  case round =>
    obtain ⟨p, xs, ys, hp, rfl, hxl, HR, HB, HW, HE⟩ := hrel
    obtain ⟨A, c, rfl⟩ := Kd.R_slice HR.out
    have hBw := HB.out.size
    by_cases hlt : p < s.size
    · obtain ⟨u, hu⟩ : ∃ u, (s[p]'hlt) = u := ⟨_, rfl⟩
      have hx : ∀ h : p < s.size, ((s[p]'h).toNat : Int) = (u.toNat : Int) := fun h => by rw [hu]
      have hu0 : (u.toNat : Int) ≤ 255 := by have := u.toNat_lt; omega
      have HU := Lib.hid hu
      clear hu
      by_cases hb : blk u = true
      · have HBK := Lib.hid hb
        have HEs := Lib.hid (wordsF_skip s p hlt (by rw [HU.out]; exact hb))
        clear hb
        go_wp2_with (go_at_call 38; (with_reducible refine (rblank_w u true _ HBK.out).mono ?_); rintro e w' ⟨rfl, ⟨nd, rfl⟩⟩)
        go_roundw
        case rel => exact ⟨p + 1, xs, ys, by omega, by go_num, by omega, Lib.hid (Kd.R_drewN HR.out nd), Lib.hid (pw_below_drewN HB.out nd), HW, Lib.hid (by rw [HE.out, HEs.out])⟩
        case measure => simp [intOf]; omega
      · have HBK := Lib.hid (Bool.eq_false_iff.2 hb)
        clear hb
        have HFs := Lib.hid (next_fst s p hlt (by rw [HU.out]; exact HBK.out))
        go_wp2_with fail
        with_reducible refine (rblank_w u false _ HBK.out).mono ?_
        rintro e w' ⟨rfl, ⟨nd, rfl⟩⟩
        have HRd : Hid (Kd.R kW 57 (wr.drewN nd) w.heap.size (fun k => k < wr.heap.size) (.slice A xs.length c) xs) := Lib.hid (Kd.R_mono (Kd.R_bound (Kd.R_drewN HR.out nd)) (fun k hk => hk.2.2.1))
        have HBd := Lib.hid (pw_below_drewN HB.out nd)
        have hsz : (wr.drewN nd).heap.size = wr.heap.size := rfl
        rw [← hsz] at HRd hBw
        clear hsz
        generalize wr.drewN nd = wy at *
        go_upto_if 22 with (fail)
        go_cut [22] (fun v22 wc => ∃ (e2 : Nat) (br : Bool), Hid (wc.heap[wy.heap.size]? = some (.cells #[.int .i64 p, .int .i64 e2, .bool br] 57 (0, 0))) ∧ Hid (Kd.R kW 57 wc w.heap.size (fun k => k < wy.heap.size) (.slice A xs.length c) xs) ∧ Hid (Below w.heap.size w wc) ∧ Hid (WR s (p, e2, br) (nextW s p)))
        case first =>
          have hk0 := new_blk wy (.cells #[.int .i64 p, .int .i64 p, .bool false] 57)
          have hr0 := Kd.R_alloc HRd.out (.cells #[.int .i64 p, .int .i64 p, .bool false] 57)
          have hb0 := below_alloc HBd.out (.cells #[.int .i64 p, .int .i64 p, .bool false] 57)
          generalize (wy.alloc (.cells #[.int .i64 p, .int .i64 p, .bool false] 57)) = w0 at *
          have HK0 := Lib.hid hk0
          have HR0 := Lib.hid hr0
          have HB0 := Lib.hid hb0
          clear hk0 hr0 hb0
          by_cases h34 : u.toNat = 34
          · have hq34 : (s[p]'hlt) = 34 := by rw [HU.out]; exact (u8_eq u 34).2 h34
            have d34 : ((u.toNat : Int) == 34) = true := beq_iff_eq.2 (by omega)
            obtain ⟨a0, e, ok, hn⟩ : ∃ a e ok, nextW s p = (a, e, ok) := ⟨_, _, _, rfl⟩
            have ha0 := HFs.out
            rw [hn] at ha0
            have ha1 : a0 = p := ha0
            subst ha1
            obtain ⟨e2, hq, hqe, hq1, hq2⟩ := qw_next s a0 a0 (skip_self s a0 hlt (by rw [HU.out]; exact HBK.out)) hlt hq34 e ok hn
            have HQ := Lib.hid (show PQ s a0 = some ((a0 : Int), (e2 : Int), !ok) from by unfold PQ; rw [quoted_f s hs a0 hlt, hq])
            have HWR := Lib.hid (show WR s (a0, e2, !ok) (nextW s a0) from by rw [hn]; exact ⟨rfl, rfl, hqe, hq1, hq2⟩)
            clear hn hq hqe h34 hq34 ha0
            go_wp2_with fail
            with_reducible refine (quoted_w s a0 e2 (!ok) _ HQ.out).mono ?_
            rintro e1 w1 ⟨rfl, hb1⟩
            have hk1 : w1.heap[wy.heap.size]? = some (.cells #[.int .i64 a0, .int .i64 a0, .bool false] 57 (0, 0)) := by
              rw [hb1.block _ (Array.getElem?_eq_some_iff.1 HK0.out).1]; exact HK0.out
            have hr1 := Kd.R_below HR0.out hb1
            have hbw1 := HB0.out.trans (hb1.mono HB0.out.size)
            obtain ⟨c0, c1, c2, f0, f1, f2, hz⟩ := three_of hk1
            have HK1 := Lib.hid hk1
            have HR1 := Lib.hid hr1
            have HB1 := Lib.hid hbw1
            clear hk1 hr1 hbw1 hb1
            go_wp2
            go_meet
            case rel => exact ⟨e2, !ok, Lib.hid (three_set HK1.out _ _ _), Lib.hid (far3 HR1.out _ _ _), Lib.hid (by repeat (first | exact HB1.out | refine below_set ?_ hBw)), HWR⟩
          · have d34 : ((u.toNat : Int) == 34) = false := beq_eq_false_iff_ne.2 (by omega)
            have HNP := Lib.hid (next_plain s p hlt (by rw [HU.out]; exact HBK.out) (fun h => h34 (by rw [← HU.out, h]; rfl)))
            clear h34
            rw [d34]
            go_wp2
            go_loopg [] (s.size - p) (fun gk wr2 => ∃ e : Nat, e + gk = s.size ∧ p ≤ e ∧ Hid (endW s e = endW s p) ∧ Hid (wr2.heap[wy.heap.size]? = some (.cells #[.int .i64 p, .int .i64 e, .bool false] 57 (0, 0))) ∧ Hid (Kd.R kW 57 wr2 w.heap.size (fun k => k < wy.heap.size) (.slice A xs.length c) xs) ∧ Hid (Below w.heap.size w wr2))
            case atStart => exact ⟨p, by omega, Nat.le_refl _, Lib.hid rfl, HK0, HR0, HB0⟩
            case round =>
              obtain ⟨e, heg, hpe, HEW, HK2, HR2, HB2⟩ := hrel
              obtain ⟨c0, c1, c2, f0, f1, f2, hz⟩ := three_of HK2.out
              have hB2 := HB2.out.size
              by_cases helt : e < s.size
              · obtain ⟨z, hz1⟩ : ∃ z, (s[e]'helt) = z := ⟨_, rfl⟩
                have hx2 : ∀ h : e < s.size, ((s[e]'h).toNat : Int) = (z.toNat : Int) := fun h => by rw [hz1]
                have HZ := Lib.hid hz1
                clear hz1
                by_cases hbz : blk z = true
                · have HBZ := Lib.hid hbz
                  have HFin := Lib.hid (show endW s p = e from by rw [← HEW.out, endW, dif_pos helt, if_pos (by rw [HZ.out]; exact hbz)])
                  clear hbz
                  go_wp2_with (go_at_call 38; (with_reducible refine (rblank_w z true _ HBZ.out).mono ?_); rintro e w' ⟨rfl, ⟨nd2, rfl⟩⟩)
                  go_meet
                  case rel => exact ⟨e, false, Lib.hid HK2.out, Lib.hid (Kd.R_drewN HR2.out nd2), Lib.hid (pw_below_drewN HB2.out nd2), Lib.hid (by rw [HNP.out, HFin.out]; exact ⟨rfl, rfl, fun _ => rfl, by
                    have := endW_gt s p hlt (by rw [HU.out]; exact HBK.out)
                    rw [HFin.out] at this; exact this, by show e ≤ s.size; omega⟩)⟩
                · have HBZ := Lib.hid (Bool.eq_false_iff.2 hbz)
                  have HStep := Lib.hid (show endW s (e + 1) = endW s p from by rw [← HEW.out]; conv => rhs; rw [endW, dif_pos helt, if_neg (by rw [HZ.out]; exact hbz)])
                  clear hbz
                  obtain ⟨g1, rfl⟩ : ∃ g1, gk = g1 + 1 := ⟨gk - 1, by omega⟩
                  go_wp2_with (go_at_call 38; (with_reducible refine (rblank_w z false _ HBZ.out).mono ?_); rintro e w' ⟨rfl, ⟨nd2, rfl⟩⟩)
                  go_roundg g1
                  case measure => omega
                  case rel => exact ⟨e + 1, by omega, by omega, HStep, Lib.hid (one_set (w := wr.drewN nd2) HK2.out _), Lib.hid (far1 (Kd.R_drewN HR2.out nd2)), Lib.hid (below_set (pw_below_drewN HB2.out nd2) hBw)⟩
              · have he : e = s.size := by omega
                have HFin := Lib.hid (show endW s p = e from by rw [← HEW.out, endW, dif_neg helt])
                go_wp2
                go_meet
                case rel => exact ⟨e, false, HK2, HR2, HB2, Lib.hid (by rw [HNP.out, HFin.out]; exact ⟨rfl, rfl, fun _ => rfl, by
                    have := endW_gt s p hlt (by rw [HU.out]; exact HBK.out)
                    rw [HFin.out] at this; exact this, by show e ≤ s.size; omega⟩)⟩
        case rest =>
          obtain ⟨e2, br, HK, HRc, HBc, HWc⟩ := hcut
          obtain ⟨c0, c1, c2, f0, f1, f2, hz⟩ := three_of HK.out
          have hBc := HBc.out.size
          go_wp2_with (at_builtin; refine Kd.R_append kW (w0 := w) w.heap.size rfl (.tmp 43) (.tmp 45) 51 57 (.agg #[.int .i64 0, .int .i64 0, .bool false]) 24 rfl Tryd.underlying51 wordInfo rfl (by decide) (by decide) _ xs (p, e2, br) [.int .i64 p, .int .i64 e2, .bool br] (fun _ => True) (fun _ => False) rfl rfl (kW_mkM _ _ _ _) (fun _ h => h.elim) (fun _ _ => trivial) (Kd.R_mono HRc.out (fun _ _ => trivial)) HBc.out hBc (by omega) ?_)
          intro v5 w5 hr5 hb5 hg5 _
          have hk5 : w5.heap[wy.heap.size]? = some (.cells #[.int .i64 p, .int .i64 e2, .bool br] 57 (0, 0)) :=
            (hg5.block _ hz (fun e => absurd (HRc.out.1 _ e.symm) (Nat.lt_irrefl _))).trans HK.out
          clear c0 c1 c2 f0 f1 f2 hz
          obtain ⟨c0, c1, c2, f0, f1, f2, hz⟩ := three_of hk5
          have HR5 := Lib.hid hr5
          have HB5 := Lib.hid hb5
          have HAt := Lib.hid (wordsF_at s p hlt (by rw [HU.out]; exact HBK.out))
          clear hr5 hb5 hg5 hk5
          obtain ⟨h1, h2, h3, h4, h5⟩ := HWc.out
          have h2' : br = !(nextW s p).2.2 := h2
          have h3' : (nextW s p).2.2 = true → e2 = (nextW s p).2.1 := h3
          have h5' : e2 ≤ s.size := h5
          have h4' : p < e2 := h4
          clear h1 h2 h3 h4 h5
          cases hok : (nextW s p).2.2 with
          | true =>
            rw [hok] at h2' h3' HAt
            have he2 := h3' rfl
            have hbr : br = false := h2'
            subst hbr
            have HE2 := Lib.hid (show wordsF s p = nextW s p :: wordsF s e2 from by rw [HAt.out, if_pos rfl, he2])
            clear h2' h3' hok he2 HAt
            go_wp2
            go_roundw
            case rel => exact ⟨e2, xs ++ [(p, e2, false)], ys ++ [nextW s p], h5', rfl, by rw [List.length_append]; simp only [List.length_cons, List.length_nil]; omega, HR5, HB5, Lib.hid (HW.out.snoc HWc.out), Lib.hid (by rw [HE.out, HE2.out]; simp)⟩
            case measure => simp [intOf]; omega
          | false =>
            rw [hok] at h2' HAt
            have hbr : br = true := h2'
            subst hbr
            have HE2 := Lib.hid (show wordsF s p = [nextW s p] from by rw [HAt.out, if_neg (by decide)])
            clear h2' h3' hok HAt
            go_wp2
            go_ret
            exact ⟨_, xs ++ [(p, e2, true)], rfl, HR5.out, by rw [HE.out, HE2.out]; exact HW.out.snoc HWc.out, by rw [List.length_append]; simp only [List.length_cons, List.length_nil]; omega, HB5.out⟩
    · obtain rfl : p = s.size := by omega
      have HEE := Lib.hid (wordsF_end s s.size hlt)
      go_wp2
      go_ret
      exact ⟨_, xs, rfl, HR.out, by rw [HE.out, HEE.out, List.append_nil]; exact HW.out, hxl, HB.out⟩
end Go.Proofs.YtjjinpohebcicaaDoor
namespace Go.Proofs.YtjjinpohebcicaaDoor
open Go.RowKit Ln Go.Proofs.YtjjinpohebcicaaDoorW.PrintWords

/-- the document's form of a command -/
def formR : Nat → List UInt8
  | 1 => [110, 116]
  | 2 => [110, 110, 105]
  | 3 => [110, 110, 110, 105, 43]
  | 4 => [110, 105]
  | 5 => [110]
  | 6 => [110]
  | _ => []
open Pkinds in
theorem kinds_f (s : ByteArray) : smithyref31_kinds.f s = some ((kindOf s.data.toList : Int), ⟨(formR (kindOf s.data.toList)).toArray⟩) := by
  unfold smithyref31_kinds.f kindOf
  rw [ByteArray.toList_eq]
  repeat' split
  all_goals rfl
open Pkinds in
theorem kinds_w (s : ByteArray) (K : Nat) (F : ByteArray) (w : World) (hK : kindOf s.data.toList = K) (hF : F = ⟨(formR K).toArray⟩) :
    Calls Tryd.prog 27 #[.string s] w fun e w' => e = .returned (.tuple #[.int .u8 K, .string F]) ∧ Drawn0 w w' := by
  subst hF; subst hK
  exact smithyref31_kinds.calls s _ _ w (kinds_f s)

set_option maxHeartbeats 400000 in
theorem fault_w (n : Int) (w : World) :
    Calls Tryd.prog 26 #[.int .i64 n] w fun e w' => e = .returned (.agg #[.int .i64 410, .int .i64 n]) ∧ Below w.heap.size w w' := by
  go_enter Tryd.func26, Tryd.ntmps26
  go_wp2
  exact bodyPost_ret (v := .agg #[.int .i64 410, .int .i64 n]) (by simp [results, Tryd.results26, go_sem]) rfl ⟨rfl, by first | (repeat (first | exact Below.refl _ _ | apply below_alloc | apply pw_below_drewN | apply below_drew1)) | trace_state⟩

set_option maxHeartbeats 400000 in
theorem rfits_n (s : ByteArray) (w : World) (hs : s.size ≤ 1000000) :
    Calls Tryd.prog 28 #[.string s, .int .u8 110] w fun e w' => e = .returned (.bool (fitM s.data.toList 110)) ∧ Below w.heap.size w w' := by
  have HF := Lib.hid (show fitM s.data.toList 110 = nameM s.data.toList from rfl)
  go_enter Tryd.func28, Tryd.ntmps28
  go_wp2_with (go_at_call 40; (with_reducible refine (rname_w s _ hs).mono ?_); rintro e w' ⟨rfl, ⟨nd, rfl⟩⟩)
  go_ret
  exact ⟨by rw [HF.out]; rfl, pw_below_drewN (Below.refl _ _) _⟩
set_option maxHeartbeats 400000 in
theorem rfits_t (s : ByteArray) (w : World) (hs : s.size ≤ 1000000) :
    Calls Tryd.prog 28 #[.string s, .int .u8 116] w fun e w' => e = .returned (.bool (fitM s.data.toList 116)) ∧ Below w.heap.size w w' := by
  have HF := Lib.hid (show fitM s.data.toList 116 = (txtM s.data.toList).2 from rfl)
  go_enter Tryd.func28, Tryd.ntmps28
  go_wp2_with (go_at_call 13; (with_reducible refine (rtext_w s _ hs).mono ?_); rintro e w' ⟨rfl, hb⟩)
  go_ret
  exact ⟨by rw [HF.out]; rfl, hb⟩
set_option maxHeartbeats 400000 in
theorem rfits_i (s : ByteArray) (w : World) (hs : s.size ≤ 1000000) :
    Calls Tryd.prog 28 #[.string s, .int .u8 105] w fun e w' => e = .returned (.bool (fitM s.data.toList 105)) ∧ Below w.heap.size w w' := by
  have HF := Lib.hid (show fitM s.data.toList 105 = (numM s.data.toList).2 from rfl)
  go_enter Tryd.func28, Tryd.ntmps28
  go_wp2_with (go_at_call 15; (with_reducible refine (rnumber_w s _).mono ?_); rintro e w' ⟨rfl, ⟨nd, rfl⟩⟩)
  go_ret
  exact ⟨by rw [HF.out]; rfl, pw_below_drewN (Below.refl _ _) _⟩
set_option maxHeartbeats 400000 in
theorem rfits_p (s : ByteArray) (w : World) (hs : s.size ≤ 1000000) :
    Calls Tryd.prog 28 #[.string s, .int .u8 43] w fun e w' => e = .returned (.bool (fitM s.data.toList 105)) ∧ Below w.heap.size w w' := by
  have HF := Lib.hid (show fitM s.data.toList 105 = (numM s.data.toList).2 from rfl)
  go_enter Tryd.func28, Tryd.ntmps28
  go_wp2_with (go_at_call 15; (with_reducible refine (rnumber_w s _).mono ?_); rintro e w' ⟨rfl, ⟨nd, rfl⟩⟩)
  go_ret
  exact ⟨by rw [HF.out]; rfl, pw_below_drewN (Below.refl _ _) _⟩

/-- a kind's byte of the document: '+' asks what 'i' asks -/
def kindB (k : Int) : Int := if k = 43 then 105 else k
theorem rfits_w (s : ByteArray) (k : Int) (w : World) (hs : s.size ≤ 1000000) (hk : k = 110 ∨ k = 116 ∨ k = 105 ∨ k = 43) :
    Calls Tryd.prog 28 #[.string s, .int .u8 k] w fun e w' => e = .returned (.bool (fitM s.data.toList (kindB k))) ∧ Below w.heap.size w w' := by
  rcases hk with rfl | rfl | rfl | rfl
  · exact rfits_n s w hs
  · exact rfits_t s w hs
  · exact rfits_i s w hs
  · exact rfits_p s w hs

theorem kW_K {w : World} {x : Nat × Nat × Bool} {cs : List Value} (h : kW.K w x cs) : cs = [.int .i64 x.1, .int .i64 x.2.1, .bool x.2.2] := by
  obtain ⟨c1, c2, rfl, rfl, ⟨d1, d2, rfl, rfl, rfl⟩⟩ := h
  rfl
theorem kw_at {w : World} {B : Nat} {ok : Nat → Prop} {v : Value} {xs : List (Nat × Nat × Bool)} (h : Kd.R kW 57 w B ok v xs) (hn : 0 < xs.length) :
    ∃ g c, v = .slice (some ⟨g, 0, none⟩) xs.length c ∧ g < w.heap.size ∧ ∀ i x, xs[i]? = some x → w.cell? ⟨g, i * 3, none⟩ = some (.int .i64 x.1) ∧ w.cell? ⟨g, i * 3 + 1, none⟩ = some (.int .i64 x.2.1) ∧ w.cell? ⟨g, i * 3 + 2, none⟩ = some (.bool x.2.2) := by
  obtain ⟨inner, hown⟩ := Kd.R_own h
  obtain ⟨A, c, hv, hl, hr⟩ := Kd.R_reads h
  rcases hown.2 with ⟨hv2, h0⟩ | ⟨g, cap, cur, hv2, _, hh, _⟩
  · omega
  · rw [hv] at hv2
    injection hv2 with hA
    subst hA
    refine ⟨g, c, hv, (Array.getElem?_eq_some_iff.1 hh).1, ?_⟩
    obtain ⟨_, _, hr3⟩ := hr
    obtain ⟨ad, had, hc⟩ := hr3 hn
    injection had with had
    subst had
    intro i x hx
    obtain ⟨cs, _, hk, hcell⟩ := hc i x hx
    have hcs := kW_K hk
    subst hcs
    have h0 := hcell 0 _ rfl
    have h1 := hcell 1 _ rfl
    have h2 := hcell 2 _ rfl
    have e : ∀ j, (⟨g, 0, none⟩ : Addr).add j = ⟨g, j, none⟩ := fun j => by simp [Addr.add]; intro h; exact h.symm
    rw [e] at h0 h1 h2
    exact ⟨h0, h1, h2⟩
end Go.Proofs.YtjjinpohebcicaaDoor
