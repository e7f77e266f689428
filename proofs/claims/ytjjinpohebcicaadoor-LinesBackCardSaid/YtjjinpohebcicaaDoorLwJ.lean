/-
  The walk of the law LinesBack.
-/
import Derived.Test.YtjjinpohebcicaaDoorLwY
import Derived.Test.YtjjinpohebcicaaDoorPuj
set_option linter.unusedSimpArgs false
set_option linter.unusedVariables false
namespace Go.Proofs.YtjjinpohebcicaaDoor
open Go.RowKit Ln Go.Proofs.YtjjinpohebcicaaDoorW.PrintWords

theorem name_size {k : Nat} (h1 : 1 ≤ k) (h2 : k ≤ 6) : (nameOf k).size ≤ 6 := by
  obtain rfl | rfl | rfl | rfl | rfl | rfl : k = 1 ∨ k = 2 ∨ k = 3 ∨ k = 4 ∨ k = 5 ∨ k = 6 := by omega
  all_goals decide +kernel

/-- the command, asked of a line whose answer is known -/
theorem command_l (s : ByteArray) (K : Nat) (l : List ByteArray) (er : Int) (p : Nat) (w : World) (hs : s.size ≤ 1000000) (hg : Gc w) (h : cmdM s = (K, l, er, p)) :
    Calls Tryd.prog 9 #[.string s] w fun e w' => ∃ A c, e = .returned (.tuple #[.int .u8 (K : Nat), .slice A l.length c, .agg #[.int .i64 er, .int .i64 (p : Nat)]]) ∧ Kd.R Kd.string 9 w' w.heap.size (fun _ => True) (.slice A l.length c) l ∧ l.length ≤ c ∧ Below w.heap.size w w' := by
  have h1 := command_w s w hs hg
  rw [h] at h1
  refine h1.mono ?_
  rintro e w' ⟨v, rfl, hr, hb⟩
  obtain ⟨A, c, rfl, hc, hC⟩ := Kd.R_reads hr
  exact ⟨A, c, rfl, hr, hc, hb⟩

set_option maxRecDepth 100000 in
set_option maxHeartbeats 4000000 in
theorem linesBack_walk (s line : ByteArray) (bl : Int) (w : World) (hs : s.size ≤ 140737488351232) (hq : line.size ≤ 140737488351232) (hbl : (Lit.int .i64 bl).wf = true) (hg : Gc w) : Calls Tryd.prog 6 #[.string s, .string line, .int .i64 bl] w fun e w' => e = .returned (.bool true) ∧ Below w.heap.size w w' := by
  have HG := Lib.hid hg
  clear hg hbl
  by_cases hb : 2000 < s.size
  · go_enter Tryd.func6, Tryd.ntmps6
    go_wp2_with fail
    with_reducible refine (awake_w _ HG.out).mono ?_
    rintro e w1 ⟨rfl, hb1⟩
    go_wp2
    go_ret
    exact ⟨rfl, hb1⟩
  by_cases hc : 4000 < line.size
  · go_enter Tryd.func6, Tryd.ntmps6
    go_wp2_with fail
    with_reducible refine (awake_w _ HG.out).mono ?_
    rintro e w1 ⟨rfl, hb1⟩
    go_wp2
    go_ret
    exact ⟨rfl, hb1⟩
  obtain ⟨F, hF1, hF2, hF3, hF4⟩ := quote_k s (by omega)
  have hq1 := quote_w s
  rw [← hF4] at hq1
  have HQ := Lib.hid hq1
  have HT := Lib.hid (fun w hs => text_l F s true w hs hF3)
  have HS := Lib.hid (src_cmd F _ hF3)
  have hFS : (⟨#[115, 111, 117, 114, 99, 101, 32, 97, 32]⟩ ++ F : ByteArray).size ≤ 1000000 := by rw [ByteArray.size_append]; show 9 + F.size ≤ _; omega
  have HFS := Lib.hid hFS
  have sz9 : (9223372036854775807 < 9 + F.size) = False := eq_false (by omega)
  clear hF4 hq1 hF2 hF3 hFS
  go_enter Tryd.func6, Tryd.ntmps6
  go_wp2_with fail
  with_reducible refine (awake_w _ HG.out).mono ?_
  rintro e w1 ⟨rfl, hb1⟩
  have HB1 := Lib.hid hb1
  clear hb1
  go_wp2_with fail
  with_reducible refine (HQ.out _ (by omega)).mono ?_
  rintro e w2 ⟨rfl, hb2⟩
  have HB2 := Lib.hid (HB1.out.trans (hb2.mono HB1.out.size))
  clear hb2 HB1
  go_wp2_with fail
  with_reducible refine (HT.out _ (by omega)).mono ?_
  rintro e w3 ⟨rfl, hb3⟩
  have HB3 := Lib.hid (HB2.out.trans (hb3.mono HB2.out.size))
  clear hb3 HB2
  go_wp2_with fail
  with_reducible refine (command_l _ _ _ _ _ _ HFS.out (HG.out.below HB3.out) HS.out).mono ?_
  rintro e w4 ⟨A, c, rfl, hr4, hc4, hb4⟩
  have HB4 := Lib.hid (HB3.out.trans (hb4.mono HB3.out.size))
  have hC4 := (Kd.R_reads' hr4).2.2
  have hkf := new_block w4 (.cells #[.int .i64 0, .int .i64 0] 27)
  have hC4b := Kd.C_below hC4 (below_alloc (Below.refl _ _) (.cells #[.int .i64 0, .int .i64 0] 27))
  obtain ⟨ad, ead, hx⟩ := Kd.at_string hC4b 1 (by omega) (by show (1 : Int) < 2; omega)
  cases ead
  have hx1 : (w4.alloc (.cells #[.int .i64 0, .int .i64 0] 27)).cell? ⟨ad.block, ad.off + 1, none⟩ = some (.string F) := by
    rw [show ((1 : Int)).toNat = 1 from rfl, Addr.add_succ'] at hx
    exact hx
  obtain ⟨k0, k1, k2, k3, k4⟩ := own_two hkf
  have HBA := Lib.hid (below_alloc HB4.out (.cells #[.int .i64 0, .int .i64 0] 27))
  have HKF := Lib.hid hkf
  have hg4 := HB4.out.size
  have hl2 : [(⟨#[97]⟩ : ByteArray), F].length = 2 := rfl
  have hc2 : 2 ≤ c := hc4
  clear hkf hr4 hC4 hC4b hx hb4 HB3 HS hc4
  rw [hl2] at *
  go_wp2_with fail
  rcases cmd_inv line with ⟨q, hcm, hqz⟩ | ⟨K, l, hcm, hK1, hK6, hAr, htot⟩
  · have dq : decide ((q : Int) ≤ (line.size : Int)) = true := decide_eq_true (by omega)
    have dq0 : decide (0 ≤ (q : Int)) = true := decide_eq_true (by omega)
    have hcm' : cmdM line = (0, [], 410, q) := hcm
    have HC := Lib.hid hcm'
    clear hcm hcm' hx1 k0 k1 k2 k3
    with_reducible refine (command_l _ _ _ _ _ _ (by omega) (HG.out.below HBA.out) HC.out).mono ?_
    rintro e w5 ⟨A5, c5, rfl, hr5, hc5, hb5⟩
    have hk5 : w5.heap[w4.heap.size]? = some (.cells #[.int .i64 0, .int .i64 0] 27 (0, 0)) := by
      rw [hb5.block _ (Array.getElem?_eq_some_iff.1 HKF.out).1]; exact HKF.out
    have HB5 := Lib.hid (HBA.out.trans (hb5.mono HBA.out.size))
    obtain ⟨k0, k1, k2, k3, k5⟩ := own_two hk5
    have hl0 : ([] : List ByteArray).length = 0 := rfl
    rw [hl0] at *
    clear hr5 hb5 hk5 hc5
    go_wp2
    go_ret
    exact ⟨by simp, by repeat (first | exact HB5.out | refine below_set ?_ hg4)⟩
  · have HC := Lib.hid hcm
    have hll := args_count l 0 hAr
    have HAr := Lib.hid hAr
    clear hcm hx1 k0 k1 k2 k3
    have hg4' : w4.heap.size < (w4.alloc (.cells #[.int .i64 0, .int .i64 0] 27)).heap.size := k4
    with_reducible refine (command_l _ _ _ _ _ _ (by omega) (HG.out.below HBA.out) HC.out).mono ?_
    rintro e w5 ⟨A5, c5, rfl, hr5, hc5, hb5⟩
    have hk5 : w5.heap[w4.heap.size]? = some (.cells #[.int .i64 0, .int .i64 0] 27 (0, 0)) := by
      rw [hb5.block _ (Array.getElem?_eq_some_iff.1 HKF.out).1]; exact HKF.out
    have HB5 := Lib.hid (HBA.out.trans (hb5.mono HBA.out.size))
    obtain ⟨k0, k1, k2, k3, k5⟩ := own_two hk5
    have HR6 := Lib.hid (list_far (j := 1) (u := .int .i64 0) (list_far (j := 0) (u := .int .i64 0) hr5 hg4') hg4')
    have HB6 := Lib.hid (below_set (g := w4.heap.size) (j := 1) (v := .int .i64 0) (below_set (g := w4.heap.size) (j := 0) (v := .int .i64 0) HB5.out hg4) hg4)
    have HR5 := Lib.hid hr5
    obtain ⟨j, hj, hpk⟩ := pick_k bl
    have HP := Lib.hid hpk
    clear hr5 hb5 hk5 hpk
    obtain ⟨J2, hJ2, hJ2l⟩ := joined_k (nameOf K) l ⟨#[32]⟩ (by omega) (by
      have h1 := name_size hK1 hK6
      show (nameOf K).size + 1 * l.length + tot l ≤ 1000000
      omega)
    have hG2 : cmdM J2 = (K, l, 0, 0) := cmd_good (b0 := []) (b := [32]) (fin := []) hK1 hK6 (by simp) (by intro x hx; simp at hx; subst hx; decide) (by simp) (by simp) (by rw [hJ2l]; simp) hAr
    have hJ2s : J2.size ≤ 1000000 := by
      have h1 := name_size hK1 hK6
      have h2 := size_split hJ2l
      have h3 : (nameOf K).data.toList.length = (nameOf K).size := by simp
      rw [List.length_append, flat_size] at h2
      have h4 : (⟨#[32]⟩ : ByteArray).data.toList.length = 1 := rfl
      rw [h4] at h2
      omega
    have HJ2 := Lib.hid hJ2
    have HG2 := Lib.hid hG2
    obtain ⟨L, hL⟩ : ∃ L, L = nameOf K :: l := ⟨_, rfl⟩
    have HL := Lib.hid hL
    clear hJ2 hJ2l hG2 hL hAr
    go_wp2_with fail
    with_reducible refine (PPick.smithykit_Pick.calls _ _ _ _ HP.out).mono ?_
    rintro e w7 ⟨rfl, ⟨nd, rfl⟩⟩
    have HB7 := Lib.hid (pw_below_drewN HB6.out nd)
    have HR7 := Lib.hid (Kd.R_below HR6.out (pw_below_drewN (Below.refl _ _) nd))
    generalize ((w5.setCell ⟨w4.heap.size, 0, none⟩ (.int .i64 0)).setCell ⟨w4.heap.size, 1, none⟩ (.int .i64 0)).drewN nd = w7 at *
    clear HR6 HB6 k0 k1 k2 k3 k4 k5 HP HR5 HB5 HC HT HQ HFS
    go_wp2
    go_loopw [13, 14] (fun v13 v14 wr => ∃ (m : Nat) (b : ByteArray), v14 = .int .i64 m ∧ v13 = .string b ∧ m ≤ 3 ∧ b.size + m ≤ 4 ∧ 1 ≤ b.size ∧ Hid (∀ x ∈ b.data.toList, blk x = true) ∧ wr = w7) (fun _ v14 _ => (intOf v14).toNat)
    case atStart => exact ⟨j, ⟨#[32]⟩, rfl, rfl, hj, by show 1 + j ≤ 4; omega, by decide, Lib.hid (by decide), rfl⟩
    case round =>
      obtain ⟨m, b, rfl, rfl, hm, hbm, hb1, HBL, rfl⟩ := hrel
      by_cases hm0 : m = 0
      · subst hm0
        have dz : decide (0 < ((0 : Nat) : Int)) = false := by decide
        have hbs : b.size ≤ 4 := by omega
        have hmul : b.size * l.length ≤ 4 * l.length := Nat.mul_le_mul_right _ hbs
        have hnm := name_size hK1 hK6
        obtain ⟨J, hJ, hJl⟩ := joined_k (nameOf K) l b (by omega) (by omega)
        have hJs : J.size ≤ 30000 := by
          have h2 := size_split hJl
          have h3 : (nameOf K).data.toList.length = (nameOf K).size := by simp
          have h4 : b.data.toList.length = b.size := by simp
          rw [List.length_append, flat_size, h4] at h2
          omega
        have hG : cmdM (b ++ J ++ b) = (K, l, 0, 0) := cmd_good (b0 := b.data.toList) (b := b.data.toList) (fin := b.data.toList) hK1 hK6 HBL.out HBL.out (by
          intro h0
          have h4 : b.data.toList.length = b.size := by simp
          rw [h0] at h4; simp at h4; omega) HBL.out (by rw [app_toList, app_toList, hJl]; simp) HAr.out
        have HJ := Lib.hid hJ
        have HGG := Lib.hid hG
        have hGs : (b ++ J ++ b).size ≤ 1000000 := by rw [ByteArray.size_append, ByteArray.size_append]; omega
        have HGs := Lib.hid hGs
        have z1 : (9223372036854775807 < b.size + J.size) = False := eq_false (by omega)
        have z2 : (9223372036854775807 < b.size + J.size + b.size) = False := eq_false (by omega)
        clear hJ hJl hG hGs hmul
        go_wp2_with fail
        with_reducible refine (Pfirst.smithylaw31_first.calls _ _ _ (first_k hK1 hK6)).mono ?_
        rintro e w8 ⟨rfl, hb8⟩
        have HB8 := Lib.hid (HB7.out.trans (hb8.mono HB7.out.size))
        have HR8 := Lib.hid (Kd.R_below HR7.out hb8)
        have hone := one_R (nameOf K) w8
        have hCb : Kd.C Kd.string (w8.alloc (.cells #[.string (nameOf K)] 9)) A5 l.length l := Kd.C_below (Kd.R_reads' HR8.out).2.2 (below_alloc (Below.refl _ _) _)
        clear hb8 HR7 HB7
        go_wp2_with (at_builtin; refine Kd.R_append_rows Kd.string (w0 := w8) w8.heap.size rfl (.tmp 117) (.tmp 118) 24 9 (.string ⟨#[]⟩) 16 rfl Tryd.underlying24 strInfo rfl (by decide) (by decide) _ [nameOf K] l A5 l.length c5 (fun _ => True) (fun _ => False) rfl rfl hone hCb (fun _ _ h => h) (fun _ h => h.elim) (fun _ _ => trivial) (below_alloc (Below.refl _ _) _) (by show w8.heap.size ≤ (w8.heap.push _).size; simp) (by rw [List.length_singleton]; omega) ?_)
        intro v9 w9 hr9 hb9 _ _
        have hr9' : Kd.R Kd.string 9 w9 w8.heap.size (fun _ => True) v9 L := by rw [HL.out]; exact hr9
        obtain ⟨A9, c9, rfl, hc9, hC9⟩ := Kd.R_reads hr9'
        have HB9 := Lib.hid (HB8.out.trans (hb9.mono HB8.out.size))
        have hCl9 := (Kd.R_reads' (Kd.R_below HR8.out hb9)).2.2
        have HC9 := Lib.hid hC9
        have HCl9 := Lib.hid hCl9
        clear hr9 hr9' hb9 hone hCb hC9 hCl9 HR8 HB8
        go_wp2_with fail
        with_reducible refine (Pjoined.smithylaw31_joined.calls (l.length + 9) _ _ L _ J _ HC9.out hc9 (by rw [HL.out]; exact HJ.out)).mono ?_
        rintro e w10 ⟨rfl, ⟨nd2, rfl⟩⟩
        have HB10 := Lib.hid (pw_below_drewN HB9.out nd2)
        have HC10 := Lib.hid (Kd.C_below HC9.out (pw_below_drewN (Below.refl _ _) nd2))
        have HCl10 := Lib.hid (Kd.C_below HCl9.out (pw_below_drewN (Below.refl _ _) nd2))
        generalize w9.drewN nd2 = w10 at *
        clear HB9 HC9 HCl9
        go_wp2_with fail
        with_reducible refine (command_l _ _ _ _ _ _ HGs.out (HG.out.below HB10.out) HGG.out).mono ?_
        rintro e w11 ⟨A11, c11, rfl, hr11, hc11, hb11⟩
        have HBA2 := Lib.hid (below_alloc (HB10.out.trans (hb11.mono HB10.out.size)) (.cells #[.int .i64 0, .int .i64 0] 27))
        have hkf := new_block w11 (.cells #[.int .i64 0, .int .i64 0] 27)
        have HK11 := Lib.hid hkf
        have HC12 := Lib.hid (Kd.C_below (Kd.C_below HC10.out hb11) (below_alloc (Below.refl _ _) (.cells #[.int .i64 0, .int .i64 0] 27)))
        have HCl12 := Lib.hid (Kd.C_below (Kd.C_below HCl10.out hb11) (below_alloc (Below.refl _ _) (.cells #[.int .i64 0, .int .i64 0] 27)))
        have HCn12 := Lib.hid (Kd.C_below (Kd.R_reads' hr11).2.2 (below_alloc (Below.refl _ _) (.cells #[.int .i64 0, .int .i64 0] 27)))
        have HLT := Lib.hid (show w11.heap.size < (w11.alloc (.cells #[.int .i64 0, .int .i64 0] 27)).heap.size from (own_two hkf).2.2.2.2)
        clear hr11 hb11 hkf HB10 HC10 HCl10
        go_wp2_with fail
        with_reducible refine (Pjoined.smithylaw31_joined.calls (l.length + 9) _ _ L _ J2 _ HC12.out hc9 (by rw [HL.out]; exact HJ2.out)).mono ?_
        rintro e w13 ⟨rfl, ⟨nd3, rfl⟩⟩
        have HB13 := Lib.hid (pw_below_drewN HBA2.out nd3)
        have HK13 := Lib.hid (show ((w11.alloc (.cells #[.int .i64 0, .int .i64 0] 27)).drewN nd3).heap[w11.heap.size]? = some (.cells #[.int .i64 0, .int .i64 0] 27 (0, 0)) from HK11.out)
        have HCl13 := Lib.hid (Kd.C_below HCl12.out (pw_below_drewN (Below.refl _ _) nd3))
        have HCn13 := Lib.hid (Kd.C_below HCn12.out (pw_below_drewN (Below.refl _ _) nd3))
        generalize (w11.alloc (.cells #[.int .i64 0, .int .i64 0] 27)).drewN nd3 = w13 at *
        clear HBA2 HC12 HCl12 HCn12 HK11 HLT
        go_wp2_with fail
        with_reducible refine (command_l _ _ _ _ _ _ hJ2s (HG.out.below HB13.out) HG2.out).mono ?_
        rintro e w14 ⟨A14, c14, rfl, hr14, hc14, hb14⟩
        have hk14 : w14.heap[w11.heap.size]? = some (.cells #[.int .i64 0, .int .i64 0] 27 (0, 0)) := by
          rw [hb14.block _ (Array.getElem?_eq_some_iff.1 HK13.out).1]; exact HK13.out
        have HB14 := Lib.hid (HB13.out.trans (hb14.mono HB13.out.size))
        obtain ⟨k0, k1, k2, k3, k4⟩ := own_two hk14
        have HCl14 := Lib.hid (Kd.C_below HCl13.out hb14)
        have HCn14 := Lib.hid (Kd.C_below HCn13.out hb14)
        have HCp14 := Lib.hid (Kd.R_reads' hr14).2.2
        clear hr14 hb14 hk14 HB13 HK13 HCl13 HCn13
        go_wp2_with fail
        with_reducible refine (same_w _ _ l _ _ l _ (by omega) (Kd.C_below HCn14.out (by repeat (first | exact Below.refl _ _ | apply below_alloc | apply pw_below_drewN | apply below_drew1))) hc11 (Kd.C_below HCl14.out (by repeat (first | exact Below.refl _ _ | apply below_alloc | apply pw_below_drewN | apply below_drew1))) hc5).mono ?_
        rintro e w15 ⟨rfl, ⟨nd4, rfl⟩⟩
        go_wp2_with fail
        with_reducible refine (same_w _ _ l _ _ l _ (by omega) (Kd.C_below HCp14.out (by repeat (first | exact Below.refl _ _ | apply below_alloc | apply pw_below_drewN | apply below_drew1))) hc14 (Kd.C_below HCl14.out (by repeat (first | exact Below.refl _ _ | apply below_alloc | apply pw_below_drewN | apply below_drew1))) hc5).mono ?_
        rintro e w16 ⟨rfl, ⟨nd5, rfl⟩⟩
        go_wp2
        go_ret
        exact ⟨by simp, by repeat (first | exact HB14.out | apply below_alloc | apply pw_below_drewN | apply below_drew1)⟩
      · obtain ⟨n, rfl⟩ : ∃ n, m = n + 1 := ⟨m - 1, by omega⟩
        have dm : decide (0 < ((n + 1 : Nat) : Int)) = true := decide_eq_true (by omega)
        have sz1 : (9223372036854775807 < b.size + 1) = False := eq_false (by omega)
        go_wp2
        go_roundw
        case rel => exact ⟨n, b ++ ⟨#[9]⟩, by go_num, rfl, by omega, by rw [ByteArray.size_append]; show b.size + 1 + n ≤ 4; omega, by rw [ByteArray.size_append]; omega, Lib.hid (by
          intro x hx
          rw [app_toList] at hx
          rcases List.mem_append.1 hx with hx | hx
          · exact HBL.out x hx
          · have : x = 9 := by simpa using hx
            subst this; decide), trivial⟩
        case measure => simp [intOf]
end Go.Proofs.YtjjinpohebcicaaDoor
