/-
  The law SyntaxNests, walked.
-/
import Derived.Test.YtgplgmjnhkhbjaaGreatDoorTr
import Derived.Test.YtgplgmjnhkhbjaaGreatDoorL
set_option linter.unusedVariables false
set_option linter.unusedSimpArgs false
namespace Go.Proofs.YtgplgmjnhkhbjaaGreatDoor
open Go.RowKit Go.Proofs.YtgplgmjnhkhbjaaGreatDoorW.PrintWords PSameTree PflatTokens Syn

theorem pick_n (a : Int) (m : Nat) (hm : 1 ≤ m) (hm2 : m ≤ 1000) : ∃ j : Nat, j < m ∧ PPick.smithykit_Pick.f a (m : Int) = some (j : Int) := by
  unfold PPick.smithykit_Pick.f
  have h1 : ¬ ((m : Int) < 1) := by omega
  have h2 : ¬ ((m : Int) = 0) := by omega
  rw [if_neg h1, if_neg h2]
  have hlt := Int.tmod_lt_of_pos a (show (0 : Int) < m by omega)
  have hgt : -(m : Int) < Int.tmod a m := by
    have := Int.lt_tmod_of_pos a (show (0 : Int) < m by omega)
    omega
  by_cases h3 : Int.tmod a m < 0
  · rw [if_pos h3]
    have hw : wrap64 (Int.tmod a m + m) = Int.tmod a m + m := by unfold wrap64; omega
    rw [hw]
    exact ⟨(Int.tmod a m + m).toNat, by omega, by congr 1; omega⟩
  · rw [if_neg h3]
    exact ⟨(Int.tmod a m).toNat, by omega, by congr 1; omega⟩

theorem pick_w (a : Int) (m : Nat) (hm : 1 ≤ m) (hm2 : m ≤ 1000) : ∃ j : Nat, j < m ∧ ∀ w, Calls Tryz.prog 14 #[.int .i64 a, .int .i64 (m : Int)] w fun e w' => e = .returned (.int .i64 (j : Int)) ∧ Below w.heap.size w w' := by
  obtain ⟨j, hj, hf⟩ := pick_n a m hm hm2
  exact ⟨j, hj, fun w => (PPick.smithykit_Pick.calls a m j w hf).mono fun e w' ⟨h1, h2⟩ => ⟨h1, h2.below⟩⟩

/-! ### the law on the models, taken apart -/
theorem ansP_inv {r : Option (Except Fault (List Nd × List Syn.Fn))} (h : ansP r = true) : ∃ ns fs, r = some (.ok (ns, fs)) ∧ rightP ns fs = true := by
  unfold ansP at h
  split at h
  · rename_i ns fs
    exact ⟨ns, fs, rfl, h⟩
  · cases h
theorem faultAns_inv {r : Option (Except Fault (List Nd × List Syn.Fn))} {e p : Nat} (h : faultAns r e p = true) : r = some (.error (e, p)) := by
  unfold faultAns at h
  split at h
  · rename_i f
    rw [Bool.and_eq_true] at h
    have e1 := Nat.eq_of_beq_eq_true h.1
    have e2 := Nat.eq_of_beq_eq_true h.2
    obtain ⟨a, b⟩ := f
    simp only at e1 e2
    rw [e1, e2]
  · cases h
theorem tA {q : Nat} (hq : q < 5) : allUnder 40 (lawA q) = true := by
  have : q = 0 ∨ q = 1 ∨ q = 2 ∨ q = 3 ∨ q = 4 := by omega
  rcases this with rfl | rfl | rfl | rfl | rfl
  · exact tA0
  · exact tA1
  · exact tA2
  · exact tA3
  · exact tA4
/-- what both sources come to -/
theorem law_cases {q n : Nat} (hq : q < 5) (hn : n < 40) :
    (n + 1 ≤ 32 ∧ ∃ ns fs ms gs, parse fuel (srcA q n) = some (.ok (ns, fs)) ∧ rightP ns fs = true ∧ parse fuel (srcB n) = some (.ok (ms, gs)) ∧ rightP ms gs = true) ∨
    (¬ n + 1 ≤ 32 ∧ parse fuel (srcA q n) = some (.error (132, 22 + 31 * (sideA q).length + (sideA q).length - 1)) ∧ parse fuel (srcB n) = some (.error (132, 301))) := by
  have hA := allUnder_at (tA hq) n hn
  have hB := allUnder_at tB n hn
  unfold lawA at hA
  unfold lawB at hB
  cases hb : Nat.ble (n + 1) 32
  · rw [hb] at hA hB
    refine .inr ⟨fun h => ?_, faultAns_inv hA, faultAns_inv hB⟩
    rw [Nat.ble_eq_true_of_le h] at hb
    cases hb
  · rw [hb] at hA hB
    obtain ⟨ns, fs, h1, h2⟩ := ansP_inv hA
    obtain ⟨ms, gs, h3, h4⟩ := ansP_inv hB
    exact .inl ⟨Nat.le_of_ble_eq_true hb, ns, fs, ms, gs, h1, h2, h3, h4⟩

theorem bcat (a b : List UInt8) : (⟨a.toArray⟩ : ByteArray) ++ (⟨b.toArray⟩ : ByteArray) = ⟨(a ++ b).toArray⟩ := by
  apply ByteArray.ext
  rw [ByteArray.data_append]
  simp
theorem rep_comm : ∀ (n : Nat) (s : List UInt8), rep (n + 1) s = rep n s ++ s := fun _ _ => rfl
def Ends2 (r : Except Fault (List Nd × List Syn.Fn)) (A1 : Option Addr) (l1 c1 : Nat) (A2 : Option Addr) (l2 c2 : Nat) (f1 f2 : Nat) (w' : World) : Prop :=
  match r with
  | .error f => l1 = 0 ∧ f1 = f.1 ∧ f2 = f.2
  | .ok (n, f) => l1 = n.length ∧ l2 = f.length ∧ f1 = 0 ∧ f2 = 0 ∧ k46.C w' A1 n.length (n.map nd) ∧ k49.C w' A2 f.length (f.map fd)
theorem ends2 {w : World} {r : Except Fault (List Nd × List Syn.Fn)} {e : Ending} {w' : World} (h : ParseEnds w r e w') :
    ∃ A1 l1 c1 A2 l2 c2 f1 f2, e = .returned (.tuple #[.agg #[.slice A1 l1 c1, .slice A2 l2 c2], .agg #[.int .i64 ((f1 : Nat) : Int), .int .i64 ((f2 : Nat) : Int)]]) ∧ Below w.heap.size w w' ∧ Ends2 r A1 l1 c1 A2 l2 c2 f1 f2 w' := by
  unfold ParseEnds at h
  split at h
  · rename_i f
    exact ⟨none, 0, 0, none, 0, 0, f.1, f.2, h.1, h.2, rfl, rfl, rfl⟩
  · rename_i n f
    obtain ⟨A1, c1, A2, c2, h1, h2, h3, h4, h5, h6⟩ := h
    exact ⟨A1, n.length, c1, A2, f.length, c2, 0, 0, h1, h2, rfl, rfl, rfl, rfl, h5, h6⟩
theorem Ends2.below {r A1 l1 c1 A2 l2 c2 f1 f2} {w w' : World} (h : Ends2 r A1 l1 c1 A2 l2 c2 f1 f2 w) (hb : Below w.heap.size w w') : Ends2 r A1 l1 c1 A2 l2 c2 f1 f2 w' := by
  unfold Ends2 at h ⊢
  split at h
  · exact h
  · exact ⟨h.1, h.2.1, h.2.2.1, h.2.2.2.1, Kd.C_below h.2.2.2.2.1 hb, Kd.C_below h.2.2.2.2.2 hb⟩
def LawFact (q n : Nat) (rA rB : Except Fault (List Nd × List Syn.Fn)) : Prop :=
  (n + 1 ≤ 32 ∧ ∃ ns fs ms gs, rA = .ok (ns, fs) ∧ rightP ns fs = true ∧ rB = .ok (ms, gs) ∧ rightP ms gs = true) ∨
  (¬ n + 1 ≤ 32 ∧ rA = .error (132, 22 + 31 * (sideA q).length + (sideA q).length - 1) ∧ rB = .error (132, 301))
theorem law_r {q n : Nat} (hq : q < 5) (hn : n < 40) : ∃ rA rB, parse fuel (srcA q n) = some rA ∧ parse fuel (srcB n) = some rB ∧ LawFact q n rA rB := by
  rcases law_cases hq hn with ⟨h, ns, fs, ms, gs, h1, h2, h3, h4⟩ | ⟨h, h1, h2⟩
  · exact ⟨_, _, h1, h3, .inl ⟨h, ns, fs, ms, gs, rfl, h2, rfl, h4⟩⟩
  · exact ⟨_, _, h1, h2, .inr ⟨h, rfl, rfl⟩⟩

theorem rep_len : ∀ (n : Nat) (s : List UInt8), (rep n s).length = n * s.length
  | 0, s => by simp [rep]
  | n + 1, s => by rw [rep_comm, List.length_append, rep_len n s, Nat.succ_mul]
theorem side_len (q : Nat) : (sideA q).length ≤ 3 ∧ (sideB q).length ≤ 3 := by
  constructor
  · unfold sideA; split <;> decide
  · unfold sideB; split <;> decide
theorem bsize (l : List UInt8) : (⟨l.toArray⟩ : ByteArray).size = l.length := by
  show (l.toArray).size = _
  simp
theorem rep_small {n : Nat} {s : List UInt8} (hn : n < 41) (hs : s.length ≤ 9) : (⟨(rep n s).toArray⟩ : ByteArray).size ≤ 400 := by
  rw [bsize, rep_len]
  calc n * s.length ≤ 40 * 9 := Nat.mul_le_mul (by omega) hs
    _ ≤ 400 := by decide

/-- what is known of a parse, wherever it is called -/
def ParseAt (w0 : World) (src : List UInt8) (r : Except Fault (List Nd × List Syn.Fn)) : Prop :=
  ∀ w, Below w0.heap.size w0 w → ∀ s : ByteArray, s = ⟨src.toArray⟩ → Calls Tryz.prog 9 #[.string s] w fun e w' => ∃ A1 l1 c1 A2 l2 c2 f1 f2, e = .returned (.tuple #[.agg #[.slice A1 l1 c1, .slice A2 l2 c2], .agg #[.int .i64 ((f1 : Nat) : Int), .int .i64 ((f2 : Nat) : Int)]]) ∧ Below w.heap.size w w' ∧ Ends2 r A1 l1 c1 A2 l2 c2 f1 f2 w'
theorem parse_at {w0 : World} (hG : ∃ t fr, w0.heap[0]? = some (.cells rowsL.toArray t fr)) {src : List UInt8} {r} (h : parse fuel src = some r) : ParseAt w0 src r := by
  intro w hb s hs
  subst hs
  refine (parse_w scan_ok fuel _ w ?_ r ?_).mono (fun e w' h => ends2 h)
  · obtain ⟨t, fr, h0⟩ := hG
    exact ⟨t, fr, (hb.block 0 (Array.getElem?_eq_some_iff.1 h0).1).trans h0⟩
  · simpa using h
def RightAt (w0 : World) (ns : List Nd) (fs : List Syn.Fn) : Prop :=
  ∀ w, Below w0.heap.size w0 w → ∀ A1 A2 c1 c2, k46.C w A1 ns.length (ns.map nd) → k49.C w A2 fs.length (fs.map fd) →
    Calls Tryz.prog 10 #[.agg #[.slice A1 ns.length c1, .slice A2 fs.length c2]] w fun e w' => e = .returned (.bool true) ∧ Below w.heap.size w w'
theorem right_at {w0 : World} (hG : ∃ t fr, w0.heap[0]? = some (.cells rowsL.toArray t fr)) {ns : List Nd} {fs : List Syn.Fn} (h : rightP ns fs = true) : RightAt w0 ns fs := by
  intro w hb A1 A2 c1 c2 h1 h2
  refine right_w ns fs h A1 A2 c1 c2 w ?_ h1 h2
  obtain ⟨t, fr, h0⟩ := hG
  exact ⟨t, fr, (hb.block 0 (Array.getElem?_eq_some_iff.1 h0).1).trans h0⟩

set_option maxRecDepth 100000 in
set_option maxHeartbeats 8000000 in
theorem nests_w (what many : Int) (w : World) (hG : ∃ t fr, w.heap[0]? = some (.cells rowsL.toArray t fr)) : Calls Tryz.prog 5 #[.int .i64 what, .int .i64 many] w fun e w' => e = .returned (.bool true) ∧ Below w.heap.size w w' := by
  obtain ⟨n, hn, hp⟩ := pick_w many 40 (by omega) (by omega)
  obtain ⟨q, hq, hq2⟩ := pick_w what 5 (by omega) (by omega)
  have HA := Lib.hid (awake_w w hG)
  obtain ⟨rA, rB, hrA, hrB, hlaw⟩ := law_r hq hn
  have HLAW := Lib.hid hlaw
  have HPA := Lib.hid (parse_at hG hrA)
  have HPB := Lib.hid (parse_at hG hrB)
  have HG := Lib.hid hG
  have HP := Lib.hid hp
  have HQ := Lib.hid hq2
  have HN := Lib.hid hn
  have HQ5 := Lib.hid hq
  clear hp hq2 hn hq hlaw hrA hrB hG
  go_enter Tryz.func5, Tryz.ntmps5
  go_wp2_with fail
  refine (HA.out).mono ?_
  clear HA
  rintro e w1 ⟨rfl, hb1⟩
  have HB1 := Lib.hid hb1
  clear hb1
  go_wp2_with fail
  refine (HP.out _).mono ?_
  clear HP
  rintro e w2 ⟨rfl, hb2⟩
  have HB2 := Lib.hid (Below.trans HB1.out (Below.mono hb2 HB1.out.size))
  clear hb2
  go_wp2_with fail
  refine (HQ.out _).mono ?_
  clear HQ
  rintro e w3 ⟨rfl, hb3⟩
  have HB3 := Lib.hid (Below.trans HB2.out (Below.mono hb3 HB2.out.size))
  clear hb3
  go_upto_block 0 with fail
  go_cut [8, 9] from 25 to 32 (fun s8 s9 wc => s8 = .string ⟨(sideA q).toArray⟩ ∧ s9 = .string ⟨(sideB q).toArray⟩ ∧ wc = w3)
  case first =>
    have hq5 : q = 0 ∨ q = 1 ∨ q = 2 ∨ q = 3 ∨ q = 4 := by have := HQ5.out; omega
    clear HLAW
    rcases hq5 with rfl | rfl | rfl | rfl | rfl
    all_goals
      go_wp2
      go_meet
      case rel => exact ⟨rfl, rfl, rfl⟩
  case rest =>
    obtain ⟨rfl, rfl, hwc⟩ := hcut
    subst hwc
    obtain ⟨hsa, hsb⟩ := side_len q
    obtain ⟨A, hA⟩ : ∃ A : ByteArray, A = ⟨(sideA q).toArray⟩ := ⟨_, rfl⟩
    obtain ⟨B, hB⟩ : ∃ B : ByteArray, B = ⟨(sideB q).toArray⟩ := ⟨_, rfl⟩
    have hAl : A.size = (sideA q).length := by rw [hA, bsize]
    have hA3 : A.size ≤ 3 := by omega
    have hB3 : B.size ≤ 3 := by rw [hB, bsize]; exact hsb
    rw [← hA, ← hB]
    have HA := Lib.hid hA
    have HB := Lib.hid hB
    have HAL := Lib.hid hAl
    have HSA := Lib.hid hsa
    have HSB := Lib.hid hsb
    clear hA hB hAl hsa hsb
    go_wp2_with fail
    go_loop [6, 7, 10] (fun s6 s7 s10 => ∃ (i : Nat) (O S : ByteArray), i ≤ n ∧ s6 = .string O ∧ s7 = .string S ∧ s10 = .int .i64 (i : Int) ∧ Hid (O = ⟨(rep i (sideA q)).toArray⟩) ∧ Hid (S = ⟨(rep i (sideB q)).toArray⟩)) (fun _ _ s10 => n - (intOf s10).toNat)
    case atStart => exact ⟨0, ⟨#[]⟩, ⟨#[]⟩, by omega, rfl, rfl, rfl, Lib.hid rfl, Lib.hid rfl⟩
    case round =>
      obtain ⟨i, O, S, hin, rfl, rfl, rfl, HO, HS⟩ := hrel
      have hnn : n < 40 := HN.out
      have hO : O.size ≤ 400 := by rw [HO.out]; exact rep_small (by omega) (by have := HSA.out; omega)
      have hS : S.size ≤ 400 := by rw [HS.out]; exact rep_small (by omega) (by have := HSB.out; omega)
      by_cases hlt : i < n
      · have d1 : decide ((i : Int) < (n : Int)) = true := decide_eq_true (by omega)
        have hOA : (O ++ A).size ≤ 1000 := by rw [ByteArray.size_append]; omega
        have hSB : (S ++ B).size ≤ 1000 := by rw [ByteArray.size_append]; omega
        have HO2 : Hid (O ++ A = ⟨(rep (i + 1) (sideA q)).toArray⟩) := Lib.hid (by rw [HO.out, HA.out, bcat]; rfl)
        have HS2 : Hid (S ++ B = ⟨(rep (i + 1) (sideB q)).toArray⟩) := Lib.hid (by rw [HS.out, HB.out, bcat]; rfl)
        go_wp2
        go_round
        case rel => exact ⟨i + 1, O ++ A, S ++ B, by omega, rfl, rfl, by go_num, HO2, HS2⟩
        case measure => simp [intOf]; omega
      · have d1 : decide ((i : Int) < (n : Int)) = false := decide_eq_false (by omega)
        obtain rfl : i = n := by omega
        have HN32 := Lib.hid (show (i : Int) + 1 ≤ 41 by omega)
        have HNN := Lib.hid hnn
        clear hin hlt hnn
        have hX1 : ((⟨#[102, 117, 110, 99, 32, 102, 40, 41, 32, 105, 54, 52, 32, 123, 32, 114, 101, 116, 117, 114, 110, 32]⟩ : ByteArray) ++ O).size ≤ 1000 := by rw [ByteArray.size_append]; show 22 + O.size ≤ _; omega
        have HSRC : Hid ((⟨#[102, 117, 110, 99, 32, 102, 40, 41, 32, 105, 54, 52, 32, 123, 32, 114, 101, 116, 117, 114, 110, 32]⟩ : ByteArray) ++ O ++ ⟨#[49]⟩ ++ S ++ ⟨#[59, 32, 125]⟩ = ⟨(srcA q i).toArray⟩) := Lib.hid (by
          rw [HO.out, HS.out]
          show (⟨[102, 117, 110, 99, 32, 102, 40, 41, 32, 105, 54, 52, 32, 123, 32, 114, 101, 116, 117, 114, 110, 32].toArray⟩ : ByteArray) ++ ⟨(rep i (sideA q)).toArray⟩ ++ ⟨[49].toArray⟩ ++ ⟨(rep i (sideB q)).toArray⟩ ++ ⟨[59, 32, 125].toArray⟩ = _
          rw [bcat, bcat, bcat, bcat]
          rfl)
        go_wp2_with fail
        refine (HPA.out _ HB3.out _ HSRC.out).mono ?_
        clear HPA HSRC HO HS hX1 hO hS
        rintro e w4 ⟨A1, l1, c1, A2, l2, c2, f1, f2, rfl, hb4, he4⟩
        obtain ⟨hb5, i1, i2, hz⟩ := alloc2 w4 (.cells #[.slice A1 l1 c1, .slice A2 l2 c2] 32) (.cells #[.int .i64 (f1 : Int), .int .i64 (f2 : Int)] 26)
        have HB5 := Lib.hid (Below.trans HB3.out (Below.mono (Below.trans hb4 (Below.mono hb5 hb4.size)) HB3.out.size))
        have HE5 := Lib.hid (he4.below hb5)
        have I1 := Lib.hid i1
        have I2 := Lib.hid i2
        clear hb4 he4 hb5 i1 i2 hz
        go_upto_region 23 with fail
        generalize ((w4.alloc (.cells #[.slice A1 l1 c1, .slice A2 l2 c2] 32)).alloc (.cells #[.int .i64 (f1 : Int), .int .i64 (f2 : Int)] 26)) = w5 at HB5 HE5 I1 I2 ⊢
        go_wp2_with fail
        go_loop [13, 14, 15] (fun s6 s7 s10 => ∃ (j : Nat) (O S : ByteArray), j ≤ i ∧ s6 = .string O ∧ s7 = .string S ∧ s10 = .int .i64 (j : Int) ∧ Hid (O = ⟨([102, 117, 110, 99, 32, 102, 40, 41, 32, 105, 54, 52, 32, 123] ++ rep j [105, 102, 32, 116, 114, 117, 101, 32, 123]).toArray⟩) ∧ Hid (S = ⟨(125 :: rep j [125]).toArray⟩)) (fun _ _ s10 => i - (intOf s10).toNat)
        case atStart => exact ⟨0, ⟨#[102, 117, 110, 99, 32, 102, 40, 41, 32, 105, 54, 52, 32, 123]⟩, ⟨#[125]⟩, by omega, rfl, rfl, rfl, Lib.hid rfl, Lib.hid rfl⟩
        case round =>
          obtain ⟨j, P, E, hji, rfl, rfl, rfl, HP, HE⟩ := hrel
          have hnn : i < 40 := HNN.out
          have hP : P.size ≤ 400 := by
            rw [HP.out, bsize, List.length_append, rep_len]
            show 14 + j * 9 ≤ 400
            omega
          have hE : E.size ≤ 400 := by
            rw [HE.out, bsize, List.length_cons, rep_len]
            show j * 1 + 1 ≤ 400
            omega
          by_cases hlt : j < i
          · have d2 : decide ((j : Int) < (i : Int)) = true := decide_eq_true (by omega)
            have hPA : (P ++ ⟨#[105, 102, 32, 116, 114, 117, 101, 32, 123]⟩ : ByteArray).size ≤ 1000 := by rw [ByteArray.size_append]; show P.size + 9 ≤ _; omega
            have hEB : (E ++ ⟨#[125]⟩ : ByteArray).size ≤ 1000 := by rw [ByteArray.size_append]; show E.size + 1 ≤ _; omega
            have HP2 : Hid ((P ++ ⟨#[105, 102, 32, 116, 114, 117, 101, 32, 123]⟩ : ByteArray) = ⟨([102, 117, 110, 99, 32, 102, 40, 41, 32, 105, 54, 52, 32, 123] ++ rep (j + 1) [105, 102, 32, 116, 114, 117, 101, 32, 123]).toArray⟩) := Lib.hid (by
              rw [HP.out]
              show (⟨_⟩ : ByteArray) ++ ⟨[105, 102, 32, 116, 114, 117, 101, 32, 123].toArray⟩ = _
              rw [bcat, rep_comm, List.append_assoc])
            have HE2 : Hid ((E ++ ⟨#[125]⟩ : ByteArray) = ⟨(125 :: rep (j + 1) [125]).toArray⟩) := Lib.hid (by
              rw [HE.out]
              show (⟨_⟩ : ByteArray) ++ ⟨[125].toArray⟩ = _
              rw [bcat, rep_comm, List.cons_append])
            go_wp2
            go_round
            case rel => exact ⟨j + 1, _, _, by omega, rfl, rfl, by go_num, HP2, HE2⟩
            case measure => simp [intOf]; omega
          · have d2 : decide ((j : Int) < (i : Int)) = false := decide_eq_false (by omega)
            obtain rfl : j = i := by omega
            have HSRC : Hid (P ++ E = ⟨(srcB j).toArray⟩) := Lib.hid (by rw [HP.out, HE.out, bcat]; rfl)
            have hPE : (P ++ E).size ≤ 1000 := by rw [ByteArray.size_append]; omega
            clear hji hlt hnn
            go_wp2_with fail
            refine (HPB.out _ HB5.out _ HSRC.out).mono ?_
            clear HPB HSRC HP HE hP hE hPE
            rintro e w6 ⟨B1, m1, d1', B2, m2, d2', g1, g2, rfl, hb6, he6⟩
            obtain ⟨hb7, i3, i4, hz⟩ := alloc2 w6 (.cells #[.slice B1 m1 d1', .slice B2 m2 d2'] 32) (.cells #[.int .i64 (g1 : Int), .int .i64 (g2 : Int)] 26)
            have HB57 := Lib.hid (Below.trans hb6 (Below.mono hb7 hb6.size))
            have HB7 := Lib.hid (Below.trans HB5.out (Below.mono HB57.out HB5.out.size))
            have HE7 := Lib.hid (he6.below hb7)
            have HD7 := Lib.hid (HE5.out.below HB57.out)
            have I3 := Lib.hid i3
            have I4 := Lib.hid i4
            have J1 := Lib.hid (blk_below I1.out HB57.out)
            have J2 := Lib.hid (blk_below I2.out HB57.out)
            clear hb6 he6 hb7 i3 i4 hz I1 I2 HE5
            go_upto_region 29 with fail
            generalize ((w6.alloc (.cells #[.slice B1 m1 d1', .slice B2 m2 d2'] 32)).alloc (.cells #[.int .i64 (g1 : Int), .int .i64 (g2 : Int)] 26)) = w7 at HB57 HB7 HE7 HD7 I3 I4 J1 J2 ⊢
            have hA3' : (A.size : Int) ≤ 3 := by omega
            rcases HLAW.out with ⟨hle, ns, fs, ms, gs, rfl, hr1, rfl, hr2⟩ | ⟨hle, rfl, rfl⟩
            · obtain ⟨e1, e2, e3, e4, cn, cf⟩ := HD7.out
              subst e1 e2 e3 e4
              obtain ⟨e1, e2, e3, e4, cm, cg⟩ := HE7.out
              subst e1 e2 e3 e4
              have HR1 := Lib.hid (right_at HG.out hr1)
              have HR2 := Lib.hid (right_at HG.out hr2)
              have CN := Lib.hid cn
              have CF := Lib.hid cf
              have CM := Lib.hid cm
              have CG := Lib.hid cg
              have d3 : decide ((j : Int) + 1 ≤ 32) = true := decide_eq_true (by omega)
              have hj0 : (j : Int) + 1 ≤ 41 := HN32.out
              have a0 : w7.cell? ⟨w4.heap.size, 0, none⟩ = some (.slice A1 ns.length c1) := (blk_cell J1.out 0).trans rfl
              have a1 : w7.cell? ⟨w4.heap.size, 1, none⟩ = some (.slice A2 fs.length c2) := (blk_cell J1.out 1).trans rfl
              have b0 : w7.cell? ⟨w4.heap.size + 1, 0, none⟩ = some (.int .i64 0) := (blk_cell J2.out 0).trans rfl
              have b1 : w7.cell? ⟨w4.heap.size + 1, 1, none⟩ = some (.int .i64 0) := (blk_cell J2.out 1).trans rfl
              have x0 : w7.cell? ⟨w6.heap.size, 0, none⟩ = some (.slice B1 ms.length d1') := (blk_cell I3.out 0).trans rfl
              have x1 : w7.cell? ⟨w6.heap.size, 1, none⟩ = some (.slice B2 gs.length d2') := (blk_cell I3.out 1).trans rfl
              have y0 : w7.cell? ⟨w6.heap.size + 1, 0, none⟩ = some (.int .i64 0) := (blk_cell I4.out 0).trans rfl
              have y1 : w7.cell? ⟨w6.heap.size + 1, 1, none⟩ = some (.int .i64 0) := (blk_cell I4.out 1).trans rfl
              clear hr1 hr2 cn cf cm cg hle HE7 HD7 HLAW d1 d2
              go_wp2_with fail
              refine (HR1.out _ HB7.out _ _ _ _ CN.out CF.out).mono ?_
              clear HR1
              rintro e w8 ⟨rfl, hb8⟩
              have x0' := pw_cell_below hb8 x0
              have x1' := pw_cell_below hb8 x1
              have HB8 := Lib.hid (Below.trans HB7.out (Below.mono hb8 HB7.out.size))
              have HC8 := Lib.hid (HR2.out w8 HB8.out B1 B2 d1' d2' (Kd.C_below CM.out hb8) (Kd.C_below CG.out hb8))
              clear hb8 a0 a1 b0 b1 x0 x1 y0 y1
              go_wp2_with fail
              refine (HC8.out).mono ?_
              clear HC8
              rintro e w9 ⟨rfl, hb9⟩
              have HB9 := Lib.hid (Below.trans HB8.out (Below.mono hb9 HB8.out.size))
              clear hb9 x0' x1'
              go_wp2
              go_ret
              exact ⟨rfl, HB9.out⟩
            · obtain ⟨e1, e2, e3⟩ := HD7.out
              obtain ⟨e4, e5, e6⟩ := HE7.out
              have hf2 : (f2 : Int) = 22 + 31 * (A.size : Int) + (A.size : Int) - 1 := by
                rw [e3, ← HAL.out]
                show (((22 + 31 * A.size + A.size - 1 : Nat)) : Int) = _
                omega
              subst e1 e2 e4 e5 e6
              have d3 : decide ((j : Int) + 1 ≤ 32) = false := decide_eq_false (by omega)
              have hj0 : (j : Int) + 1 ≤ 41 := HN32.out
              have d5 : ((f2 : Int) == 22 + 31 * (A.size : Int) + (A.size : Int) - 1) = true := beq_iff_eq.2 hf2
              have a0 : w7.cell? ⟨w4.heap.size, 0, none⟩ = some (.slice A1 0 c1) := (blk_cell J1.out 0).trans rfl
              have b0 : w7.cell? ⟨w4.heap.size + 1, 0, none⟩ = some (.int .i64 132) := (blk_cell J2.out 0).trans rfl
              have b1 : w7.cell? ⟨w4.heap.size + 1, 1, none⟩ = some (.int .i64 (f2 : Int)) := (blk_cell J2.out 1).trans rfl
              have x0 : w7.cell? ⟨w6.heap.size, 0, none⟩ = some (.slice B1 0 d1') := (blk_cell I3.out 0).trans rfl
              have y0 : w7.cell? ⟨w6.heap.size + 1, 0, none⟩ = some (.int .i64 132) := (blk_cell I4.out 0).trans rfl
              have y1 : w7.cell? ⟨w6.heap.size + 1, 1, none⟩ = some (.int .i64 301) := (blk_cell I4.out 1).trans rfl
              clear hf2 e3 hle HE7 HD7 HLAW d1 d2
              go_wp2_with fail
              go_ret
              exact ⟨rfl, HB7.out⟩
end Go.Proofs.YtgplgmjnhkhbjaaGreatDoor
