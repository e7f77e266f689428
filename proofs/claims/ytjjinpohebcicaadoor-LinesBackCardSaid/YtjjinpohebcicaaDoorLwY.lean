/-
  The walk of the law LinesBytes.
-/
import Derived.Test.YtjjinpohebcicaaDoorJC
import Derived.Test.YtjjinpohebcicaaDoorPur
set_option linter.unusedSimpArgs false
set_option linter.unusedVariables false
namespace Go.Proofs.YtjjinpohebcicaaDoor
open Go.RowKit Ln Go.Proofs.YtjjinpohebcicaaDoorW.PrintWords

theorem ba_toList (l : List UInt8) : (⟨l.toArray⟩ : ByteArray).data.toList = l := rfl
theorem ba_of (b : ByteArray) : (⟨b.data.toList.toArray⟩ : ByteArray) = b := by cases b; simp
theorem ba_size (l : List UInt8) : (⟨l.toArray⟩ : ByteArray).size = l.length := rfl

/-- quoting: some text, not long, printable, that is read back -/
theorem quote_k (s : ByteArray) (hs : s.size ≤ 4000) : ∃ F : ByteArray, F.size ≤ 16002 ∧ (∀ (k : Nat) (h : k < F.size), 32 ≤ (F[k]'h).toNat ∧ (F[k]'h).toNat ≤ 126) ∧ txtM F.data.toList = (s.data.toList, true) ∧ F = ⟨(quoM s.data.toList).toArray⟩ := by
  refine ⟨⟨(quoM s.data.toList).toArray⟩, ?_, ?_, ?_, rfl⟩
  · rw [ba_size]; have := quo_len s.data.toList
    have e : s.data.toList.length = s.size := by simp
    omega
  · intro k h
    have hm : (⟨(quoM s.data.toList).toArray⟩ : ByteArray)[k]'h ∈ quoM s.data.toList := by
      rw [ByteArray.getElem_eq_getElem_data]
      simp
    have := quo_ok _ _ hm
    exact ⟨by simpa using UInt8.le_iff_toNat_le.1 this.1, by simpa using UInt8.le_iff_toNat_le.1 this.2⟩
  · rw [ba_toList, txt_quo]

set_option maxRecDepth 100000 in
set_option maxHeartbeats 1000000 in
theorem linesBytes_walk (s q : ByteArray) (w : World) (hs : s.size ≤ 140737488351232) (hq : q.size ≤ 140737488351232) (hg : Gc w) : Calls Tryd.prog 7 #[.string s, .string q] w fun e w' => e = .returned (.bool true) ∧ Below w.heap.size w w' := by
  have HG := Lib.hid hg
  clear hg
  by_cases hb : 4000 < s.size
  · go_enter Tryd.func7, Tryd.ntmps7
    go_wp2_with fail
    with_reducible refine (awake_w _ HG.out).mono ?_
    rintro e w1 ⟨rfl, hb1⟩
    go_wp2
    go_ret
    exact ⟨rfl, hb1⟩
  by_cases hc : 4000 < q.size
  · go_enter Tryd.func7, Tryd.ntmps7
    go_wp2_with fail
    with_reducible refine (awake_w _ HG.out).mono ?_
    rintro e w1 ⟨rfl, hb1⟩
    go_wp2
    go_ret
    exact ⟨rfl, hb1⟩
  obtain ⟨F, hF1, hF2, hF3, hF4⟩ := quote_k s (by omega)
  have hq1 := quote_w s
  rw [← hF4] at hq1
  have HQ := Lib.hid hq1
  have HF2 := Lib.hid hF2
  clear hF4 hq1 hF2 hF3
  obtain ⟨t, ok, ht⟩ : ∃ t ok, txtM q.data.toList = (t, ok) := ⟨_, _, rfl⟩
  have hT := text_l q ⟨t.toArray⟩ ok
  rw [ht] at hT
  have HT := Lib.hid hT
  clear hT
  go_enter Tryd.func7, Tryd.ntmps7
  go_wp2_with fail
  with_reducible refine (awake_w _ HG.out).mono ?_
  rintro e w1 ⟨rfl, hb1⟩
  have HB1 := Lib.hid hb1
  clear hb1
  go_wp2_with fail
  with_reducible refine (HQ.out _ (by omega)).mono ?_
  rintro e w2 ⟨rfl, hb2⟩
  have HB2 := Lib.hid (HB1.out.trans (hb2.mono HB1.out.size))
  clear hb2 HB1
  go_wp2
  go_loopw [6] (fun i wr => ∃ k : Nat, k ≤ F.size ∧ i = .int .i64 k ∧ wr = w2) (fun i wr => F.size - (intOf i).toNat)
  case atStart => exact ⟨0, Nat.zero_le _, rfl, rfl⟩
  case round =>
    obtain ⟨k, hk, rfl, rfl⟩ := hrel
    by_cases hlt : k < F.size
    · obtain ⟨u, hu⟩ : ∃ u, (F[k]'hlt) = u := ⟨_, rfl⟩
      have hx : ∀ h : k < F.size, ((F[k]'h).toNat : Int) = (u.toNat : Int) := fun h => by rw [hu]
      have h12 := HF2.out k hlt
      rw [hu] at h12
      have d1 : decide ((u.toNat : Int) < 32) = false := decide_eq_false (by omega)
      have d2 : decide (126 < (u.toNat : Int)) = false := decide_eq_false (by omega)
      clear hu h12
      go_wp2
      go_roundw
      case rel => exact ⟨k + 1, by omega, by go_num, trivial⟩
      case measure => simp [intOf]; omega
    · obtain rfl : k = F.size := by omega
      go_wp2_with fail
      with_reducible refine (HT.out _ (by omega) trivial).mono ?_
      rintro e w3 ⟨rfl, hb3⟩
      have HB3 := Lib.hid (HB2.out.trans (hb3.mono HB2.out.size))
      clear hb3 HB2
      cases ok with
      | false =>
        obtain rfl := txt_no ht
        go_wp2
        go_ret
        exact ⟨rfl, HB3.out⟩
      | true =>
        have hl := txt_len ht
        have e1 : (⟨t.toArray⟩ : ByteArray).size = t.length := rfl
        have e2 : q.data.toList.length = q.size := by simp
        rw [e2, ← e1] at hl
        obtain ⟨G, hG1, _, hG3, hG4⟩ := quote_k ⟨t.toArray⟩ (by omega)
        have hq2 := quote_w ⟨t.toArray⟩
        rw [← hG4] at hq2
        have HQ2 := Lib.hid hq2
        have HT2 := Lib.hid (fun w hs => text_l G ⟨t.toArray⟩ true w hs hG3)
        clear hG4 hG3 hq2 HQ HT ht e1 e2 HF2
        generalize (⟨t.toArray⟩ : ByteArray) = T at *
        have d1 : decide ((T.size : Int) + 2 ≤ (q.size : Int)) = true := decide_eq_true (by omega)
        go_wp2_with fail
        with_reducible refine (HQ2.out _ (by omega)).mono ?_
        rintro e w4 ⟨rfl, hb4⟩
        have HB4 := Lib.hid (HB3.out.trans (hb4.mono HB3.out.size))
        clear hb4 HB3
        go_wp2_with fail
        with_reducible refine (HT2.out _ (by omega)).mono ?_
        rintro e w5 ⟨rfl, hb5⟩
        have HB5 := Lib.hid (HB4.out.trans (hb5.mono HB4.out.size))
        clear hb5 HB4
        go_wp2
        go_ret
        exact ⟨by simp, HB5.out⟩
end Go.Proofs.YtjjinpohebcicaaDoor
