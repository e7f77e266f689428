/-
  awake, on the models; and its walk.
-/
import Derived.Test.YtgplgmjnhkhbjaaGreatDoorTq
set_option linter.unusedVariables false
set_option linter.unusedSimpArgs false
namespace Go.Proofs.YtgplgmjnhkhbjaaGreatDoor
open Go.RowKit Go.Proofs.YtgplgmjnhkhbjaaGreatDoorW.PrintWords PSameTree PflatTokens Syn

def srcW : List UInt8 := [102, 117, 110, 99, 32, 102, 40, 97, 32, 105, 54, 52, 41, 32, 98, 111, 111, 108, 32, 123, 32, 114, 101, 116, 117, 114, 110, 32, 97, 60, 49, 43, 50, 59, 32, 125]
def srcX : List UInt8 := [102, 117, 110, 99, 32, 102, 40, 41, 32, 105, 54, 52, 32, 123, 32, 97, 32, 98, 59, 32, 125]
def awakeP : Bool :=
  (match parse fuel srcW with
   | some (.ok (ns, fs)) => rightP ns fs && Nat.beq ns.length 7 && (match fs with | [f] => Nat.beq f.body 6 | _ => false)
   | _ => false) && faultAns (parse fuel srcX) 130 17
set_option maxRecDepth 100000 in
theorem awakeP_ok : awakeP = true := by decide +kernel

theorem srcX_at : (⟨srcX.toArray⟩ : ByteArray).data.toList = srcX := by simp
theorem srcW_at : (⟨srcW.toArray⟩ : ByteArray).data.toList = srcW := by simp
theorem awake_inv : ∃ ns f, parse fuel srcW = some (.ok (ns, [f])) ∧ rightP ns [f] = true ∧ ns.length = 7 ∧ f.body = 6 ∧ parse fuel srcX = some (.error (130, 17)) := by
  have h := awakeP_ok
  unfold awakeP at h
  rw [Bool.and_eq_true] at h
  obtain ⟨h1, h2⟩ := h
  have hx : parse fuel srcX = some (.error (130, 17)) := by
    unfold faultAns at h2
    split at h2
    · rename_i f hf
      rw [Bool.and_eq_true] at h2
      have e1 := Nat.eq_of_beq_eq_true h2.1
      have e2 := Nat.eq_of_beq_eq_true h2.2
      rw [hf]
      obtain ⟨a, b⟩ := f
      simp only at e1 e2
      rw [e1, e2]
    · cases h2
  split at h1
  · rename_i ns fs hp
    simp only [Bool.and_eq_true] at h1
    obtain ⟨⟨h3, h4⟩, h5⟩ := h1
    split at h5
    · rename_i f
      exact ⟨ns, f, hp, h3, Nat.eq_of_beq_eq_true h4, Nat.eq_of_beq_eq_true h5, hx⟩
    · cases h5
  · cases h1

set_option maxRecDepth 100000 in
set_option maxHeartbeats 8000000 in
theorem awake_w (w : World) (hG : ∃ t fr, w.heap[0]? = some (.cells rowsL.toArray t fr)) : Calls Tryz.prog 7 #[] w fun e w' => e = .returned (.bool true) ∧ Below w.heap.size w w' := by
  obtain ⟨ns, f, hp, hr, h7, h6, hx⟩ := awake_inv
  have H1 := Lib.hid (parse_w scan_ok fuel ⟨srcW.toArray⟩ w hG _ (by rw [srcW_at]; exact hp))
  have HR := Lib.hid hr
  have HG := Lib.hid hG
  have HX := Lib.hid hx
  have H6 := Lib.hid h6
  have H7 := Lib.hid h7
  clear hp hr hx hG h6 h7
  go_enter Tryz.func7, Tryz.ntmps7
  go_wp2_with fail
  refine (H1.out).mono ?_
  clear H1
  rintro e w1 ⟨A1, c1, A2, c2, rfl, hb1, hl1, hl2, hn1, hf1⟩
  have hg1 : ∃ t fr, w1.heap[0]? = some (.cells rowsL.toArray t fr) := by
    obtain ⟨t, fr, h0⟩ := HG.out
    exact ⟨t, fr, (hb1.block 0 (Array.getElem?_eq_some_iff.1 h0).1).trans h0⟩
  have HB1 := Lib.hid hb1
  have HN1 := Lib.hid hn1
  have HF1 := Lib.hid hf1
  have HG1 := Lib.hid hg1
  clear hb1 hn1 hf1 hg1
  obtain ⟨hb2, i1, i2, hz⟩ := alloc2 w1 (.cells #[.slice A1 ns.length c1, .slice A2 1 c2] 32) (.cells #[.int .i64 0, .int .i64 0] 26)
  have H2 := Lib.hid (parse_w scan_ok fuel ⟨srcX.toArray⟩ ((w1.alloc (.cells #[.slice A1 ns.length c1, .slice A2 1 c2] 32)).alloc (.cells #[.int .i64 0, .int .i64 0] 26)) (by
    obtain ⟨t, fr, h0⟩ := HG1.out
    exact ⟨t, fr, (hb2.block 0 (Array.getElem?_eq_some_iff.1 h0).1).trans h0⟩) (.error (130, 17)) (by rw [srcX_at]; exact HX.out))
  have HB2 := Lib.hid (Below.trans HB1.out (Below.mono hb2 HB1.out.size))
  have HB12 := Lib.hid hb2
  have I1 := Lib.hid i1
  have I2 := Lib.hid i2
  clear hb2 i1 i2 hz
  go_wp2_with fail
  refine (H2.out).mono ?_
  clear H2
  generalize ((w1.alloc (.cells #[.slice A1 ns.length c1, .slice A2 1 c2] 32)).alloc (.cells #[.int .i64 0, .int .i64 0] 26)) = w2 at HB2 HB12 I1 I2 ⊢
  rintro e w3 ⟨rfl, hb3⟩
  have HB3 := Lib.hid (Below.trans HB2.out (Below.mono hb3 HB2.out.size))
  have HB13 := Lib.hid (Below.trans HB12.out (Below.mono hb3 HB12.out.size))
  have J1 := Lib.hid (blk_below I1.out hb3)
  have J2 := Lib.hid (blk_below I2.out hb3)
  clear hb3 I1 I2
  go_upto_region 3 with fail
  obtain ⟨hb4, k1, k2, hz⟩ := alloc2 w3 (.cells #[.slice none 0 0, .slice none 0 0] 32) (.cells #[.int .i64 130, .int .i64 17] 26)
  have HB4 := Lib.hid (Below.trans HB3.out (Below.mono hb4 HB3.out.size))
  have HB14 := Lib.hid (Below.trans HB13.out (Below.mono hb4 HB13.out.size))
  have K1 := Lib.hid (blk_below J1.out hb4)
  have K2 := Lib.hid (blk_below J2.out hb4)
  have K3 := Lib.hid k2
  clear hb4 k1 k2 hz
  generalize ((w3.alloc (.cells #[.slice none 0 0, .slice none 0 0] 32)).alloc (.cells #[.int .i64 130, .int .i64 17] 26)) = X at HB4 HB14 K1 K2 K3 ⊢
  obtain ⟨ad, A3, c3, rfl, _, _, _, _, v4, _⟩ := fn_at (k := 0) (f := f) HF1.out rfl
  have x4 : X.cell? ⟨ad.block, ad.off + 4, none⟩ = some (.int .i64 6) := by
    have h := pw_cell_below HB14.out v4
    rw [H6.out] at h
    have e1 : (ad.add (0 * 5)).block = ad.block := add_block _ _
    have e2 : (ad.add (0 * 5)).off = ad.off := by simp [Addr.add]
    rw [e1, e2] at h
    exact h
  have a0 : X.cell? ⟨w1.heap.size, 0, none⟩ = some (.slice A1 ns.length c1) := (blk_cell K1.out 0).trans rfl
  have a1 : X.cell? ⟨w1.heap.size, 1, none⟩ = some (.slice (some ad) 1 c2) := (blk_cell K1.out 1).trans rfl
  have b0 : X.cell? ⟨w1.heap.size + 1, 0, none⟩ = some (.int .i64 0) := (blk_cell K2.out 0).trans rfl
  have b1 : X.cell? ⟨w1.heap.size + 1, 1, none⟩ = some (.int .i64 0) := (blk_cell K2.out 1).trans rfl
  have g0 : X.cell? ⟨w3.heap.size + 1, 0, none⟩ = some (.int .i64 130) := (blk_cell K3.out 0).trans rfl
  have g1 : X.cell? ⟨w3.heap.size + 1, 1, none⟩ = some (.int .i64 17) := (blk_cell K3.out 1).trans rfl
  have h7 : ns.length = 7 := H7.out
  have HRW := Lib.hid (right_w ns [f] HR.out A1 (some ad) c1 c2 X (by
    obtain ⟨t, fr, h0⟩ := HG1.out
    exact ⟨t, fr, (HB14.out.block 0 (Array.getElem?_eq_some_iff.1 h0).1).trans h0⟩) (Kd.C_below HN1.out HB14.out) (Kd.C_below HF1.out HB14.out))
  rw [h7] at a0
  have HRV := Lib.hid (show Calls Tryz.prog 10 #[.agg #[.slice A1 7 c1, .slice (some ad) 1 c2]] X fun e w' => e = .returned (.bool true) ∧ Below X.heap.size X w' from by have := HRW.out; rw [h7] at this; exact this)
  clear HRW
  go_wp2_with fail
  refine (HRV.out).mono ?_
  rintro e w5 ⟨rfl, hb5⟩
  have HB5 := Lib.hid (Below.trans HB4.out (Below.mono hb5 HB4.out.size))
  have p0 := pw_cell_below hb5 g0
  have p1 := pw_cell_below hb5 g1
  clear hb5 g0 g1 a0 a1 b0 b1 x4
  go_wp2
  go_ret
  exact ⟨rfl, HB5.out⟩

end Go.Proofs.YtgplgmjnhkhbjaaGreatDoor
