/-
  strings.Builder's copy check and text, as the reckoner takes them.
-/
import Derived.Test.YtadkgnfidiilnaaGreatDoorChecked
import Derived.Test.YtadkgnfidiilnaaGreatDoorCc
import Derived.WalkKit
import Derived.WalkSpells
import Derived.Lib.Builder
import Derived.Lib.UnsafeStr
import Derived.Lib.Hide
import Derived.KernelRfl
import Derived.Shelf.RegionOpenPlain
set_option linter.unusedSimpArgs false
set_option linter.unusedVariables false
namespace Go.Proofs.YtadkgnfidiilnaaGreatDoor
open Go.RowKit Ce

theorem szBuilder : (Tryz.prog.info? 65).map (·.size) = some 2 := by kernel_rfl
theorem liesBuilder : liesAt Tryz.prog Tryz.prog.depth 67 (5 / Tryz.prog.cellsOf 67) 0 65 1 = true := by kernel_rfl

set_option maxHeartbeats 1000000 in
set_option maxRecDepth 100000 in
theorem copyCheck_new (b : Nat) (C : Array Value) (fr : Nat × Nat) (w : World) (hb : w.heap[b]? = some (.cells C 67 fr)) (hC : C.size = 5) (h0 : C[0]? = some (.pointer none)) (hfr : w.frozen? ⟨b, 0, none⟩ = false) :
    Calls Tryz.prog 64 #[.pointer (some ⟨b, 0, none⟩)] w fun e w' => e = .returned (.tuple #[]) ∧ w' = w.setCell ⟨b, 0, none⟩ (.pointer (some ⟨b, 0, none⟩)) := by
  have hc0 : w.cell? ⟨b, 0, none⟩ = some (.pointer none) := by simp [World.cell?, hb, h0]
  have hsh : w.shape? b = some (67, 5) := by simp [World.shape?, hb, hC]
  obtain ⟨j, hj, hjs⟩ := Option.map_eq_some_iff.1 szBuilder
  clear hb hC h0
  go_enter Tryz.func64, Tryz.ntmps64
  go_wp2
  rw [Lib.run_to_unsafe w ⟨b, 0, none⟩ Tryz.underlying62 Tryz.underlying140 hj (by rw [hjs]; decide) hsh (Nat.zero_lt_succ 4)]
  simp only [Result.andThen]
  rw [Oper.upon_value]
  go_wp2
  rw [run_callFunc_extern Tryz.func88 (by kernel_rfl) (by kernel_rfl) (by kernel_rfl) (e := Extern.AbiNoEscape.same) (by kernel_rfl)]
  rw [Lib.run_noEscape]
  simp only [Result.andThen]
  rw [Oper.upon_value]
  go_wp2
  rw [Lib.run_from_unsafe w ⟨b, 0, none⟩ Tryz.underlying140 Tryz.underlying62 hj hsh liesBuilder]
  simp only [Result.andThen]
  rw [Oper.upon_value]
  go_wp2
  go_end0
  exact ⟨rfl, rfl⟩

set_option maxHeartbeats 1000000 in
set_option maxRecDepth 100000 in
theorem copyCheck_at (b o : Nat) (w : World) (hc0 : w.cell? ⟨b, o, none⟩ = some (.pointer (some ⟨b, o, none⟩))) :
    Calls Tryz.prog 64 #[.pointer (some ⟨b, o, none⟩)] w fun e w' => e = .returned (.tuple #[]) ∧ w' = w := by
  obtain ⟨j, hj, hjs⟩ := Option.map_eq_some_iff.1 szBuilder
  go_enter Tryz.func64, Tryz.ntmps64
  go_wp2
  rw [Lib.run_neq_ptr_same w _ Tryz.underlying62 hj]
  go_wp2
  go_end0
  exact ⟨rfl, rfl⟩

set_option maxHeartbeats 1000000 in
set_option maxRecDepth 100000 in
theorem string_w (b off g o d cells : Nat) (l : List UInt8) (w : World) (hc : w.cell? ⟨b, off + 1, none⟩ = some (.slice (some ⟨g, o, none⟩) l.length d)) (hd : d ≠ 0) (h0 : l ≠ []) (hsh : w.shape? g = some (5, cells)) (hn : o + l.length ≤ cells) (h63 : l.length ≤ 9223372036854775807)
    (hcell : ∀ j x, l[j]? = some x → w.cell? ((⟨g, o, none⟩ : Addr).add j) = some (.int .u8 x.toNat)) :
    Calls Tryz.prog 27 #[.pointer (some ⟨b, off, none⟩)] w fun e w' => e = .returned (.string ⟨l.toArray⟩) ∧ w'.heap = (w.freeze ⟨g, o, none⟩ l.length).heap ∧ w'.os = w.os ∧ w'.tape = w.tape ∧ w'.output = w.output := by
  have h1 : Tryz.prog.cellsOf 5 = 1 := by kernel_rfl
  have c1 : w.drew.cell? ⟨b, off + 1, none⟩ = some (.slice (some ⟨g, o, none⟩) l.length d) := hc
  have hSD : (Builtin.unsafeSliceData_ #[63] 100 #[.slice (some ⟨g, o, none⟩) l.length d]).run Tryz.prog w.drew = .ok (.pointer (some ⟨g, o, none⟩)) w.drew :=
    Lib.run_unsafeSliceData_row _ _ _ _ _ _ hd
  have hUS : (Builtin.unsafeString_ #[100, 3] 9 #[.pointer (some ⟨g, o, none⟩), .int .i64 l.length]).run Tryz.prog w.drew = .ok (.string ⟨l.toArray⟩) (w.drew.freeze ⟨g, o, none⟩ l.length) :=
    run_unsafeString_at w.drew 100 3 9 5 Tryz.underlying100 h1 g o cells hsh l h0 hn h63 hcell
  have hf : (w.drew.freeze ⟨g, o, none⟩ l.length).heap = (w.freeze ⟨g, o, none⟩ l.length).heap ∧ (w.drew.freeze ⟨g, o, none⟩ l.length).os = w.os ∧ (w.drew.freeze ⟨g, o, none⟩ l.length).tape = w.tape ∧ (w.drew.freeze ⟨g, o, none⟩ l.length).output = w.output := by
    unfold World.freeze
    split <;> exact ⟨rfl, rfl, rfl, rfl⟩
  have mixed : Tryz.prog.follows .mixedOrders = true := Tryz.checked.mixed
  clear hc hsh hcell
  go_enter Tryz.func27, Tryz.ntmps27
  go_wp2
  go_region_o
  all_goals (go_wp2; go_ret; exact ⟨rfl, hf.1, hf.2.1, hf.2.2.1, hf.2.2.2⟩)

theorem check_prim (args : List Value) (H : Hp) (c : Nat) (v : Value) (H' : Hp) (c' : Nat) (h : bldCheck 67 5 args H c = some (v, H', c')) (ρ : Ren) (w : World) (cargs : Array Value) (hR : Rel ρ H w) (hV : VL ρ args cargs.toList) : Calls Tryz.prog 64 cargs w (CPost ρ H w v H' c c') := by
  unfold bldCheck at h
  split at h
  · rename_i r
    obtain ⟨x, l, hx, hV1, hV2⟩ := hV.inv_cons
    obtain ⟨p, hp, _, rfl⟩ := hV1.inv_ptr
    have hl : l = [] := by simpa using hV2.1.symm
    subst hl
    have hcs : cargs = #[.pointer (some ⟨p.block, p.base + 0, none⟩)] := by rw [← hx]
    subst hcs
    split at h
    · rename_i size cells fz el hg
      have ho := hR.obj r p hp
      simp only [lk, hg, Option.getD_some, OR] at ho
      obtain ⟨C, fr, hC, hs1, hs2, hcell, hfz, hwh⟩ := ho
      split at h
      · rename_i h0
        simp only [Bool.cond_eq_ite, Bool.and_eq_true, Nat.beq_eq] at h
        split at h
        · rename_i hc
          obtain ⟨hc1, hc2⟩ := hc
          subst hc2
          obtain ⟨hb0, hsz⟩ := hwh rfl
          split at h
          · rename_i H1 hw
            simp only [Option.some.injEq, Prod.mk.injEq] at h
            obtain ⟨rfl, rfl, rfl⟩ := h
            obtain ⟨u, g1, g2⟩ := hcell 0 _ h0
            have hu : u = .pointer none := g2.of_flat 0 rfl
            subst hu
            rw [hb0] at g1 ⊢
            have hfroz : w.frozen? ⟨p.block, 0, none⟩ = false := by
              have hw' := hw
              unfold writeRow at hw'
              rw [hg] at hw'
              simp only [Bool.cond_eq_ite, Bool.and_eq_true, Nat.ble_eq] at hw'
              split at hw'
              · rename_i hcc
                have hfz0 : fz = 0 := by omega
                have hnot : ¬ (fr.1 ≤ 0 ∧ 0 < fr.2) := fun hh => by
                  have := hfz 0 (by omega) hh.1 hh.2
                  omega
                simp only [World.frozen?, hC]
                simp only [Bool.and_eq_false_imp, decide_eq_true_eq, decide_eq_false_iff_not]
                intro h1 h2
                exact hnot ⟨h1, h2⟩
              · cases hw'
            have hC : w.heap[p.block]? = some (.cells C 67 fr) := hC
            refine (copyCheck_new p.block C fr w hC (by omega) (by simpa using g1) hfroz).mono ?_
            rintro e w' ⟨rfl, rfl⟩
            have hval : VR ρ (.pointer (some ⟨r, 0, none⟩)) (.pointer (some ⟨p.block, p.base + 0, none⟩)) := .ptr hp
            have := cell_turn hR hp hw hval c
            rw [hb0] at this
            exact ⟨_, ρ, rfl, .flat 1 rfl, this.1, this.2⟩
          · cases h
        · cases h
      · rename_i r' h0
        simp only [Bool.cond_eq_ite, Nat.beq_eq] at h
        split at h
        · rename_i hr
          subst hr
          simp only [Option.some.injEq, Prod.mk.injEq] at h
          obtain ⟨rfl, rfl, rfl⟩ := h
          obtain ⟨u, g1, g2⟩ := hcell 0 _ h0
          obtain ⟨q, hq, _, rfl⟩ := g2.inv_ptr
          simp only at hq
          rw [hp] at hq
          cases hq
          refine (copyCheck_at p.block (p.base + 0) w ?_).mono ?_
          · simp only [World.cell?, hC]; exact g1
          · rintro e w' ⟨rfl, rfl⟩
            exact ⟨_, ρ, rfl, .flat 1 rfl, hR, Fr.refl ..⟩
        · cases h
      · cases h
    · cases h
  · cases h

theorem string_prim (args : List Value) (H : Hp) (c : Nat) (v : Value) (H' : Hp) (c' : Nat) (h : bldString args H c = some (v, H', c')) (ρ : Ren) (w : World) (cargs : Array Value) (hR : Rel ρ H w) (hV : VL ρ args cargs.toList) : Calls Tryz.prog 27 cargs w (CPost ρ H w v H' c c') := by
  unfold bldString at h
  split at h
  · rename_i r off
    obtain ⟨x, l, hx, hV1, hV2⟩ := hV.inv_cons
    obtain ⟨p, hp, _, rfl⟩ := hV1.inv_ptr
    have hl : l = [] := by simpa using hV2.1.symm
    subst hl
    have hcs : cargs = #[.pointer (some ⟨p.block, p.base + off, none⟩)] := by rw [← hx]
    subst hcs
    split at h
    · rename_i size cells fz ro el hg
      have ho := hR.obj r p hp
      simp only [lk, hg, Option.getD_some, OR] at ho
      obtain ⟨C, fr, hC, hs1, hs2, hcell, hfz, hwh⟩ := ho
      split at h
      · rename_i r2 o n cap h1
        split at h
        · rename_i size2 cells2 fz2 el2 hg2
          split at h
          · rename_i l hl
            split at h
            · rename_i bs hbs
              simp only [Bool.cond_eq_ite, Bool.or_eq_true, Nat.beq_eq, Nat.blt_eq, Bool.not_eq_true'] at h
              split at h
              · cases h
              · rename_i hno
                simp only [Option.some.injEq, Prod.mk.injEq] at h
                obtain ⟨rfl, rfl, rfl⟩ := h
                obtain ⟨u, g1, g2⟩ := hcell _ _ h1
                obtain ⟨q, d, sz, hq, hsz, hcd, hext, rfl⟩ := g2.inv_slice
                simp only at hq hsz hext
                simp only [Option.some.injEq] at hsz
                subst hsz
                have ho2 := hR.obj r2 q hq
                simp only [lk, hg2, Option.getD_some, OR] at ho2
                obtain ⟨C2, fr2, hC2, hs12, hs22, hcell2, _, _⟩ := ho2
                obtain ⟨hlen, hget⟩ := Tr.getL_spec _ _ _ _ hl
                have hmap := byteList_spec l bs hbs
                have hbl : bs.length = n := by rw [← hlen, hmap, List.length_map]
                have hel : el2 / 2 = 5 := by
                  cases hb : Nat.beq (el2 / 2) 5 with
                  | true => exact Nat.eq_of_beq_eq_true hb
                  | false => exact (hno (.inr hb)).elim
                have hn0 : n ≠ 0 := fun e => hno (.inl (.inl (.inl e)))
                have hcap : cap ≠ 0 := fun e => hno (.inl (.inl (.inr e)))
                have hbig : ¬ 9223372036854775807 < n := fun e => hno (.inl (.inr e))
                have hend : q.base + o + n ≤ C2.size := by
                  have h1 := hget (n - 1) (by omega)
                  have h2 : (l[n - 1]?).isSome := by simp; omega
                  obtain ⟨u, hu⟩ := Option.isSome_iff_exists.1 h2
                  rw [hu] at h1
                  obtain ⟨u', k1, _⟩ := hcell2 _ _ h1
                  have := (Array.getElem?_eq_some_iff.1 k1).1
                  omega
                rw [hel] at hC2
                have hcellj : ∀ j x, bs[j]? = some x → w.cell? ((⟨q.block, q.base + o, none⟩ : Addr).add j) = some (.int .u8 x.toNat) := by
                  intro j x hj
                  have hjn : j < n := by rw [← hbl]; exact (List.getElem?_eq_some_iff.1 hj).1
                  have hlj := hget j hjn
                  rw [hmap, List.getElem?_map, hj, Option.map_some] at hlj
                  obtain ⟨u, k1, k2⟩ := hcell2 _ _ hlj
                  have := k2.inv_int
                  subst this
                  rw [add_none]
                  simp only [World.cell?, hC2]
                  rw [Nat.add_assoc]
                  exact k1
                refine (string_w p.block (p.base + off) q.block (q.base + o) d C2.size bs w ?_ (by omega) (by intro e; subst e; simp at hbl; omega) (by simp [World.shape?, hC2]) (by omega) (by omega) hcellj).mono ?_
                · simp only [World.cell?, hC]
                  rw [Nat.add_assoc, g1]
                  simp [hbl]
                · rintro e w' ⟨rfl, e1, e2, e3, e4⟩
                  obtain ⟨k1, k2⟩ := freeze_kill hR hq hg2 (o := o) (n := bs.length) (by omega) c
                  refine ⟨_, ρ, rfl, .flat 0 rfl, k1.of_heap e1, { k2 with keep := fun B hB hk => by rw [e1]; exact k2.keep B hB hk, size := by rw [e1]; exact k2.size, os := e2, tape := e3, output := e4, writ := k2.writ, liv := k2.liv, top := k2.top }⟩
            · cases h
          · cases h
        · cases h
      · cases h
    · cases h
  · cases h

end Go.Proofs.YtadkgnfidiilnaaGreatDoor
