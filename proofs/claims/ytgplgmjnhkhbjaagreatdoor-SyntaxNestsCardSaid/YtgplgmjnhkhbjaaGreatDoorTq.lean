/-
  Right's walks, 6: Right.
-/
import Derived.Test.YtgplgmjnhkhbjaaGreatDoorTo
import Derived.Test.YtgplgmjnhkhbjaaGreatDoorTp
set_option linter.unusedVariables false
set_option linter.unusedSimpArgs false
namespace Go.Proofs.YtgplgmjnhkhbjaaGreatDoor
open Go.RowKit Go.Proofs.YtgplgmjnhkhbjaaGreatDoorW.PrintWords PSameTree PflatTokens Syn

theorem right_inv {nl : List Nd} {fs : List Syn.Fn} (h : rightP nl fs = true) : ∃ f, fs = [f] ∧ f.name = [102] ∧ 1 ≤ f.result ∧ f.result ≤ 5 ∧ paramP f.params = true ∧ nl.length ≤ 1000000 ∧
    ∃ d n, deepP nl (f.body + 1) f.body 0 = some (d, nl.length) ∧ nl[f.body]? = some n ∧ d ≤ 32 ∧ n.kind = 21 := by
  unfold rightP at h
  split at h
  · rename_i f
    simp only [Bool.and_eq_true] at h
    obtain ⟨⟨⟨⟨⟨h1, h2⟩, h3⟩, h4⟩, h5⟩, h6⟩ := h
    refine ⟨f, rfl, sameL_same.1 h1, Nat.le_of_ble_eq_true h2, Nat.le_of_ble_eq_true h3, h4, Nat.le_of_ble_eq_true h5, ?_⟩
    split at h6
    · rename_i d nx n hd hn
      simp only [Bool.and_eq_true] at h6
      obtain rfl := Nat.eq_of_beq_eq_true h6.2
      exact ⟨d, n, hd, hn, Nat.le_of_ble_eq_true h6.1.1, Nat.eq_of_beq_eq_true h6.1.2⟩
    · cases h6
  · cases h

theorem fn_at {w : World} {A : Option Addr} {fs : List Syn.Fn} {k : Nat} {f : Syn.Fn} (h : k49.C w A fs.length (fs.map fd)) (hk : fs[k]? = some f) :
    ∃ ad A2 c2, A = some ad ∧ w.cell? (ad.add (k * 5)) = some (.string ⟨f.name.toArray⟩) ∧ w.cell? ⟨(ad.add (k * 5)).block, (ad.add (k * 5)).off + 1, none⟩ = some (.int .i64 (f.at_ : Int)) ∧ w.cell? ⟨(ad.add (k * 5)).block, (ad.add (k * 5)).off + 2, none⟩ = some (.slice A2 f.params.length c2) ∧
      w.cell? ⟨(ad.add (k * 5)).block, (ad.add (k * 5)).off + 3, none⟩ = some (.int .u8 (f.result : Int)) ∧ w.cell? ⟨(ad.add (k * 5)).block, (ad.add (k * 5)).off + 4, none⟩ = some (.int .i64 (f.body : Int)) ∧ k82.C w A2 f.params.length (f.params.map pd) := by
  have hlt : k < fs.length := (List.getElem?_eq_some_iff.1 hk).1
  have hr : rd_T49 (fs.map fd) (k : Int) = fd f := by
    unfold rd_T49
    show (fs.map fd).getD k z49 = fd f
    rw [List.getD_eq_getElem?_getD, List.getElem?_map, hk]
    rfl
  obtain ⟨ad, A2, c2, e, h0, h1, h2, h3, h4, h5, h6⟩ := at_T49 h (k : Int) (by omega) (by omega)
  rw [hr] at h0 h1 h2 h3 h4 h5 h6
  have hlen : (fd f).f2.length = f.params.length := List.length_map _
  rw [hlen] at h2 h5 h6
  exact ⟨ad, A2, c2, e, h0, h1, h2, h3, h4, h6⟩

set_option maxRecDepth 100000 in
set_option maxHeartbeats 8000000 in
theorem right_w (nl : List Nd) (fs : List Syn.Fn) (hR : rightP nl fs = true) (A1 A2 : Option Addr) (c1 c2 : Nat) (w : World) (hG : ∃ t fr, w.heap[0]? = some (.cells rowsL.toArray t fr)) (hn : k46.C w A1 nl.length (nl.map nd)) (hf : k49.C w A2 fs.length (fs.map fd)) :
    Calls Tryz.prog 10 #[.agg #[.slice A1 nl.length c1, .slice A2 fs.length c2]] w fun e w' => e = .returned (.bool true) ∧ Below w.heap.size w w' := by
  have hmf : ∀ (fn : Go.Fn) (first cap : Array Value) (w : World), (Instr.makeFunc fn first cap).run Tryz.prog w = .ok (.func fn first cap) w := fun _ _ _ _ => rfl
  obtain ⟨f, hfs, hname, hr1, hr5, hpar, hcap, d, n, hdeep, hbody, hd32, hk21⟩ := right_inv hR
  have hL1 : fs.length = 1 := by rw [hfs]; rfl
  have hf0 : fs[0]? = some f := by rw [hfs]; rfl
  clear hfs hR
  obtain ⟨ad, A3, c3, rfl, v0, v1, v2, v3, v4, hpc⟩ := fn_at hf hf0
  rw [hname] at v0
  have V := Lib.hid (⟨v0, v1, v2, v3, v4⟩ : _ ∧ _ ∧ _ ∧ _ ∧ _)
  have HPC := Lib.hid hpc
  have HN := Lib.hid hn
  have HG := Lib.hid hG
  have HL1 := Lib.hid hL1
  obtain ⟨hb, i1, i2, i3, hz⟩ := alloc3 w (.cells #[.slice A1 nl.length c1, .slice (some ad) fs.length c2] 32) (.cells #[.int .i64 0] 3) (.cells #[.func (.func 24) #[] #[.pointer (some ⟨w.heap.size + 1, 0, none⟩), .pointer (some ⟨w.heap.size, 0, none⟩), .pointer (some ⟨w.heap.size + 1 + 1, 0, none⟩)]] 74)
  have HDX : Hid (Dq w A1 nl.length c1 (.slice (some ad) fs.length c2) (w.heap.size + 1) w.heap.size (w.heap.size + 1 + 1) 0 (((w.alloc (.cells #[.slice A1 nl.length c1, .slice (some ad) fs.length c2] 32)).alloc (.cells #[.int .i64 0] 3)).alloc (.cells #[.func (.func 24) #[] #[.pointer (some ⟨w.heap.size + 1, 0, none⟩), .pointer (some ⟨w.heap.size, 0, none⟩), .pointer (some ⟨w.heap.size + 1 + 1, 0, none⟩)]] 74))) :=
    Lib.hid ⟨hb, i1, i2, i3⟩
  have HDEEP := Lib.hid (deep_w (c := c1) (fsv := .slice (some ad) fs.length c2) (nb := w.heap.size + 1) (tb := w.heap.size) (fb := w.heap.size + 1 + 1) hn hG hcap (by omega) (by omega) (by omega) (f.body + 1))
  have HB := Lib.hid hb
  clear hn hf hG hf0 v0 v1 v2 v3 v4 hpc hb i1 i2 i3 hz hL1
  go_enter Tryz.func10, Tryz.ntmps10
  go_upto_region 4 with fail
  change Code.wp _ _ _ _ (((w.alloc (.cells #[.slice A1 nl.length c1, .slice (some ad) fs.length c2] 32)).alloc (.cells #[.int .i64 0] 3)).alloc (.cells #[.func (.func 24) #[] #[.pointer (some ⟨w.heap.size + 1, 0, none⟩), .pointer (some ⟨w.heap.size, 0, none⟩), .pointer (some ⟨w.heap.size + 1 + 1, 0, none⟩)]] 74))
  generalize (((w.alloc (.cells #[.slice A1 nl.length c1, .slice (some ad) fs.length c2] 32)).alloc (.cells #[.int .i64 0] 3)).alloc (.cells #[.func (.func 24) #[] #[.pointer (some ⟨w.heap.size + 1, 0, none⟩), .pointer (some ⟨w.heap.size, 0, none⟩), .pointer (some ⟨w.heap.size + 1 + 1, 0, none⟩)]] 74)) = X at HDX HB ⊢
  have t1 : X.cell? ⟨w.heap.size, 1, none⟩ = some (.slice (some ad) fs.length c2) := (blk_cell HDX.out.tree 1).trans rfl
  go_wp2_with fail
  clear t1
  go_loopg [13] 1 (fun g v wr => ∃ i nx : Nat, i + g = 1 ∧ v = .int .i64 (i : Int) ∧ Hid ((i = 0 ∧ nx = 0) ∨ (i = 1 ∧ nx = nl.length)) ∧ Hid (Dq w A1 nl.length c1 (.slice (some ad) fs.length c2) (w.heap.size + 1) w.heap.size (w.heap.size + 1 + 1) nx wr))
  case atStart => exact ⟨0, 0, rfl, rfl, Lib.hid (.inl ⟨rfl, rfl⟩), HDX⟩
  case round =>
    obtain ⟨i, nx, hig, rfl, HC, HDR⟩ := hrel
    rcases HC.out with ⟨hi0, rfl⟩ | ⟨hi1, rfl⟩
    · have d1 : decide ((i : Int) < (fs.length : Int)) = true := decide_eq_true (by have := HL1.out; omega)
      have d2 : (i : Int) < (fs.length : Int) := by have := HL1.out; omega
      obtain ⟨v0, v1, v2, v3, v4⟩ := V.out
      have x0 : wr.cell? (ad.add (i * 5)) = some (.string ⟨#[102]⟩) := pw_cell_below HDR.out.bel (by rw [hi0]; exact v0)
      have x1 : wr.cell? ⟨(ad.add (i * 5)).block, (ad.add (i * 5)).off + 1, none⟩ = some (.int .i64 (f.at_ : Int)) := pw_cell_below HDR.out.bel (by rw [hi0]; exact v1)
      have x2 : wr.cell? ⟨(ad.add (i * 5)).block, (ad.add (i * 5)).off + 2, none⟩ = some (.slice A3 f.params.length c3) := pw_cell_below HDR.out.bel (by rw [hi0]; exact v2)
      have x3 : wr.cell? ⟨(ad.add (i * 5)).block, (ad.add (i * 5)).off + 3, none⟩ = some (.int .u8 (f.result : Int)) := pw_cell_below HDR.out.bel (by rw [hi0]; exact v3)
      have x4 : wr.cell? ⟨(ad.add (i * 5)).block, (ad.add (i * 5)).off + 4, none⟩ = some (.int .i64 (f.body : Int)) := pw_cell_below HDR.out.bel (by rw [hi0]; exact v4)
      have HI0 := Lib.hid hi0
      clear v0 v1 v2 v3 v4 HC hi0
      go_upto_region 7 with fail
      have HD7 := Lib.hid (HDR.out.below (below_alloc (Below.refl _ _) (.cells #[.string ⟨#[102]⟩, .int .i64 (f.at_ : Int), .slice A3 f.params.length c3, .int .u8 (f.result : Int), .int .i64 (f.body : Int)] 49)))
      have HQ7 := Lib.hid (blk_new wr (.cells #[.string ⟨#[102]⟩, .int .i64 (f.at_ : Int), .slice A3 f.params.length c3, .int .u8 (f.result : Int), .int .i64 (f.body : Int)] 49))
      have hqn : wr.heap.size ≠ w.heap.size + 1 := by have := blk_lt HDR.out.nxt; omega
      generalize wr.alloc (.cells #[.string ⟨#[102]⟩, .int .i64 (f.at_ : Int), .slice A3 f.params.length c3, .int .u8 (f.result : Int), .int .i64 (f.body : Int)] 49) = w7 at HD7 HQ7 ⊢
      generalize wr.heap.size = qb at HQ7 hqn ⊢
      have q0 : w7.cell? ⟨qb, 0, none⟩ = some (.string ⟨#[102]⟩) := (blk_cell HQ7.out 0).trans rfl
      clear x0 x1 x2 x3 x4 d2
      go_wp2_with fail
      refine (namedf_w _).mono ?_
      rintro e w8 ⟨rfl, hb⟩
      have HD8 := Lib.hid (HD7.out.below hb)
      have HQ8 := Lib.hid (blk_below HQ7.out hb)
      clear q0 hb
      have q3 : w8.cell? ⟨qb, 3, none⟩ = some (.int .u8 (f.result : Int)) := (blk_cell HQ8.out 3).trans rfl
      go_wp2_with fail
      refine (scalar_w f.result hr1 hr5 _).mono ?_
      rintro e w9 ⟨rfl, hb⟩
      have HD9 := Lib.hid (HD8.out.below hb)
      have HQ9 := Lib.hid (blk_below HQ8.out hb)
      clear q3 hb
      have q2 : w9.cell? ⟨qb, 2, none⟩ = some (.slice A3 f.params.length c3) := (blk_cell HQ9.out 2).trans rfl
      go_wp2_with fail
      refine (contains_w f.params A3 c3 _ hpar (Kd.C_below HPC.out HD9.out.bel)).mono ?_
      rintro e wa ⟨rfl, hb⟩
      have HDa := Lib.hid (HD9.out.below hb)
      have HQa := Lib.hid (blk_below HQ9.out hb)
      clear q2 hb
      have q4 : wa.cell? ⟨qb, 4, none⟩ = some (.int .i64 (f.body : Int)) := (blk_cell HQa.out 4).trans rfl
      have f0 : wa.cell? ⟨w.heap.size + 1 + 1, 0, none⟩ = some (.func (.func 24) #[] #[.pointer (some ⟨w.heap.size + 1, 0, none⟩), .pointer (some ⟨w.heap.size, 0, none⟩), .pointer (some ⟨w.heap.size + 1 + 1, 0, none⟩)]) := (blk_cell HDa.out.fn 0).trans rfl
      go_wp2_with fail
      refine (HDEEP.out f.body 0 d nl.length wa hdeep HDa.out).mono ?_
      rintro e wb ⟨rfl, hDb, hkb⟩
      have HDb := Lib.hid hDb
      have HQb := Lib.hid (hkb.blk HQa.out hqn (by simp))
      clear q4 f0 hDb hkb
      obtain ⟨adn, A7, c7, rfl, g0, _⟩ := nd_at HN.out hbody
      have g0' : wb.cell? (adn.add (f.body * 8)) = some (.int .u8 21) := by
        have := pw_cell_below HDb.out.bel g0
        rw [hk21] at this
        exact this
      have t0 : wb.cell? ⟨w.heap.size, 0, none⟩ = some (.slice (some adn) nl.length c1) := (blk_cell HDb.out.tree 0).trans rfl
      have q4 : wb.cell? ⟨qb, 4, none⟩ = some (.int .i64 (f.body : Int)) := (blk_cell HQb.out 4).trans rfl
      have hbl : (f.body : Int) < (nl.length : Int) := by have := (List.getElem?_eq_some_iff.1 hbody).1; omega
      have d3 : decide ((d : Int) > 32) = false := decide_eq_false (by omega)
      have HIG := Lib.hid hig
      clear hdeep hbody hd32 hk21 hcap hr1 hr5 g0 hig
      go_wp2
      go_roundg 0
      case measure => have := HIG.out; have := HI0.out; omega
      case rel => exact ⟨1, nl.length, rfl, by rw [HI0.out]; first | rfl | simp [wrap64], Lib.hid (.inr ⟨rfl, rfl⟩), HDb⟩
    · have d1 : decide ((i : Int) < (fs.length : Int)) = false := decide_eq_false (by have h1 : fs.length = 1 := HL1.out; have h2 : i = 1 := hi1; omega)
      have hge : fs.length ≤ i := by have h1 : fs.length = 1 := HL1.out; have h2 : i = 1 := hi1; omega
      clear hi1 hig hcap hr1 hr5 hd32 hdeep hbody hk21
      have q0 : wr.cell? ⟨w.heap.size + 1, 0, none⟩ = some (.int .i64 (nl.length : Int)) := (blk_cell HDR.out.nxt 0).trans rfl
      have t0 : wr.cell? ⟨w.heap.size, 0, none⟩ = some (.slice A1 nl.length c1) := (blk_cell HDR.out.tree 0).trans rfl
      go_wp2
      go_ret
      exact ⟨rfl, HDR.out.bel⟩
end Go.Proofs.YtgplgmjnhkhbjaaGreatDoor
