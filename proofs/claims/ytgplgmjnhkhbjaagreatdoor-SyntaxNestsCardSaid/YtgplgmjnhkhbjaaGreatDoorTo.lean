/-
  Right's walks, 4: Right's closure, walked.
-/
import Derived.Test.YtgplgmjnhkhbjaaGreatDoorTm
import Derived.Deep.CutRange
import Derived.IntWalk
import Derived.Deep.LoopGhost
import Derived.Deep.RegionWith
set_option linter.unusedVariables false
set_option linter.unusedSimpArgs false
namespace Go.Proofs.YtgplgmjnhkhbjaaGreatDoor
open Go.RowKit Go.Proofs.YtgplgmjnhkhbjaaGreatDoorW.PrintWords PSameTree PflatTokens Syn
open Go.Proofs.YtgplgmjnhkhbjaaGreatDoorW.PrintLast Go.Proofs.YtgplgmjnhkhbjaaGreatDoorW.PrintMore
/-- the last statement of a sequence: what follows gets a name -/
theorem wp_last {P : Program} {s : Code} {Q : Exit → Act → World → Prop} {a : Act} {w : World} (h : ∀ K : Act → World → Prop, (∀ a' w', Q .normal a' w' → K a' w') → s.wp P (Exit.then K Q) a w) : s.wp P Q a w := by
  refine Code.wp_mono ?_ (h (fun a w => Q .normal a w) (fun _ _ q => q))
  intro e a w q
  cases e <;> exact q

/-- the closure's memory -/
structure Dq (w0 : World) (A : Option Addr) (L c : Nat) (fsv : Value) (nb tb fb next : Nat) (w : World) : Prop where
  bel : Below w0.heap.size w0 w
  tree : w.heap[tb]? = some (.cells #[.slice A L c, fsv] 32 (0, 0))
  nxt : w.heap[nb]? = some (.cells #[.int .i64 (next : Int)] 3 (0, 0))
  fn : w.heap[fb]? = some (.cells #[.func (.func 24) #[] #[.pointer (some ⟨nb, 0, none⟩), .pointer (some ⟨tb, 0, none⟩), .pointer (some ⟨fb, 0, none⟩)]] 74 (0, 0))
theorem Dq.below {w0 w w' : World} {A : Option Addr} {L c : Nat} {fsv : Value} {nb tb fb next : Nat} (h : Dq w0 A L c fsv nb tb fb next w) (hb : Below w.heap.size w w') : Dq w0 A L c fsv nb tb fb next w' :=
  ⟨Below.trans h.bel (Below.mono hb h.bel.size), blk_below h.tree hb, blk_below h.nxt hb, blk_below h.fn hb⟩

def DeepOK (w0 : World) (A : Option Addr) (L c : Nat) (fsv : Value) (nb tb fb : Nat) (d : Nat → Nat → Option (Nat × Nat)) : Prop :=
  ∀ (k next m next' : Nat) (w : World), d k next = some (m, next') → Dq w0 A L c fsv nb tb fb next w →
    Calls Tryz.prog 24 #[.int .i64 (k : Int), .pointer (some ⟨nb, 0, none⟩), .pointer (some ⟨tb, 0, none⟩), .pointer (some ⟨fb, 0, none⟩)] w
      fun e w' => e = .returned (.tuple #[.int .i64 (m : Int), .bool true]) ∧ Dq w0 A L c fsv nb tb fb next' w' ∧ KeepBut w w' nb none

theorem okN_kids {n : Nd} (h : okN n = true) : (n.kind = 3 ∨ n.kind = 4 ∨ n.kind = 5 ∨ n.kind = 6 ∨ n.kind = 7 ∨ n.kind = 14 ∨ n.kind = 18 ∨ n.kind = 21) ∨ n.kids = [] := by
  simp only [okN, shapesOf, List.any_cons, List.any_nil, Bool.or_false, Bool.or_eq_true, decide_eq_true_eq] at h
  rcases h with h | h | h | h | h | h | h | h | h | h | h | h | h <;> (rw [← h]; simp)

section
variable {w0 : World} {A : Option Addr} {c : Nat} {fsv : Value} {nb tb fb : Nat} {nl : List Nd}
set_option maxRecDepth 100000 in
set_option maxHeartbeats 8000000 in
theorem deep_w (hC : k46.C w0 A nl.length (nl.map nd)) (hG : ∃ t fr, w0.heap[0]? = some (.cells rowsL.toArray t fr)) (hL : nl.length ≤ 1000000) (hlow : w0.heap.size ≤ nb) (nt : nb ≠ tb) (nf : nb ≠ fb) :
    ∀ f, DeepOK w0 A nl.length c fsv nb tb fb (deepP nl f) := by
  intro f
  induction f with
  | zero => intro k next m next' w h _; cases h
  | succ f ih =>
    intro k next m next' w h hD
    obtain ⟨hle, n, most, hk, ho, hkids, hmost, hm, hn'⟩ := deep_inv h
    obtain ⟨ad, A7, c7, rfl, v0, v1, v2, v3, v4, v5, v6, v7, hl7, hi7⟩ := nd_at hC hk
    have hkl : k < nl.length := (List.getElem?_eq_some_iff.1 hk).1
    have d1 : decide ((k : Int) < (next : Int)) = false := decide_eq_false (by omega)
    have d2 : decide ((k : Int) ≥ (nl.length : Int)) = false := decide_eq_false (by omega)
    have d3 : (k : Int) < (nl.length : Int) := by omega
    have x0 := pw_cell_below hD.bel v0
    have x1 := pw_cell_below hD.bel v1
    have x2 := pw_cell_below hD.bel v2
    have x3 := pw_cell_below hD.bel v3
    have x4 := pw_cell_below hD.bel v4
    have x5 := pw_cell_below hD.bel v5
    have x6 := pw_cell_below hD.bel v6
    have x7 := pw_cell_below hD.bel v7
    have t0 : w.cell? ⟨tb, 0, none⟩ = some (.slice (some ad) nl.length c) := (blk_cell hD.tree 0).trans rfl
    have q0 : w.cell? ⟨nb, 0, none⟩ = some (.int .i64 (next : Int)) := (blk_cell hD.nxt 0).trans rfl
    have HSH := Lib.hid (fun W => shaped_w ho A7 c7 W)
    have HD := Lib.hid hD
    have HI := Lib.hid hi7
    have IH := Lib.hid ih
    have HC := Lib.hid hC
    have HG := Lib.hid hG
    have HKIDS := Lib.hid hkids
    have HK := Lib.hid hk
    have HO := Lib.hid ho
    have V0 := Lib.hid v0
    clear h hD hi7 ih hC hG hkids ho hk v0 v1 v2 v3 v4 v5 v6 v7
    go_enter Tryz.func24, Tryz.ntmps24
    go_wp2_with fail
    refine (HSH.out _).mono ?_
    clear HSH
    rintro e w1 ⟨rfl, hb1⟩
    have HD1 := Lib.hid (HD.out.below hb1)
    have KB1 := Lib.hid (KeepBut.of_below hb1 nb none)
    have y0 := pw_cell_below hb1 x0
    have y1 := pw_cell_below hb1 x1
    have y2 := pw_cell_below hb1 x2
    have y3 := pw_cell_below hb1 x3
    have y4 := pw_cell_below hb1 x4
    have y5 := pw_cell_below hb1 x5
    have y6 := pw_cell_below hb1 x6
    have y7 := pw_cell_below hb1 x7
    have t1 : w1.cell? ⟨tb, 0, none⟩ = some (.slice (some ad) nl.length c) := (blk_cell HD1.out.tree 0).trans rfl
    clear x0 x1 x2 x3 x4 x5 x6 x7 t0 q0 hb1
    go_upto_region 4 with fail
    have HDX := Lib.hid (HD1.out.below (below_alloc (Below.refl _ _) (.cells (ndC (n.kind : Int) (n.at_ : Int) ⟨n.name.toArray⟩ (n.typ : Int) (n.op : Int) (n.bits : Int) (n.size : Int) (.slice A7 n.kids.length c7)) 46)))
    have KBX := Lib.hid (KB1.out.trans (KeepBut.of_below (below_alloc (Below.refl _ _) (.cells (ndC (n.kind : Int) (n.at_ : Int) ⟨n.name.toArray⟩ (n.typ : Int) (n.op : Int) (n.bits : Int) (n.size : Int) (.slice A7 n.kids.length c7)) 46)) nb none) (.inl rfl))
    have HQX := Lib.hid (blk_new w1 (.cells (ndC (n.kind : Int) (n.at_ : Int) ⟨n.name.toArray⟩ (n.typ : Int) (n.op : Int) (n.bits : Int) (n.size : Int) (.slice A7 n.kids.length c7)) 46))
    have hqn : w1.heap.size ≠ nb := by have := blk_lt HD1.out.nxt; omega
    generalize w1.alloc (.cells (ndC (n.kind : Int) (n.at_ : Int) ⟨n.name.toArray⟩ (n.typ : Int) (n.op : Int) (n.bits : Int) (n.size : Int) (.slice A7 n.kids.length c7)) 46) = X at HDX KBX HQX ⊢
    generalize w1.heap.size = qb at HQX hqn ⊢
    clear y0 y1 y2 y3 y4 y5 y6 y7 t1
    have z0 : X.cell? ⟨qb, 0, none⟩ = some (.int .u8 (n.kind : Int)) := (blk_cell HQX.out 0).trans rfl
    have z7 : X.cell? ⟨qb, 7, none⟩ = some (.slice A7 n.kids.length c7) := (blk_cell HQX.out 7).trans rfl
    obtain ⟨m0, hm0⟩ : ∃ m0, (bif Nat.beq n.kind 4 then 1 else 0) = m0 := ⟨_, rfl⟩
    rw [hm0] at HKIDS
    have hm01 : m0 ≤ 1 := by rw [← hm0]; cases Nat.beq n.kind 4 <;> decide
    go_upto_if 39 with fail
    go_cut [8] from 13 to 39 (fun s8 wc => s8 = .int .i64 (m0 : Int) ∧ wc = X)
    case first =>
      by_cases h4 : n.kind = 4
      · have d4 : ((n.kind : Int) == 4) = true := beq_iff_eq.2 (by omega)
        have hv : m0 = 1 := by rw [← hm0, h4]; rfl
        clear HKIDS HC HG IH
        subst hv
        go_wp2
        go_meet
        case rel => exact ⟨rfl, rfl⟩
      · have d4 : ((n.kind : Int) == 4) = false := beq_eq_false_iff_ne.2 (by omega)
        have hv : m0 = 0 := by
          rw [← hm0, show Nat.beq n.kind 4 = false from by rw [← Bool.not_eq_true, Nat.beq_eq]; exact h4]
          rfl
        clear HKIDS HC HG IH
        subst hv
        go_wp2
        go_meet
        case rel => exact ⟨rfl, rfl⟩
    case rest =>
      obtain ⟨rfl, rfl⟩ := hcut
      obtain ⟨X0, hX0⟩ : ∃ y, y = wc := ⟨_, rfl⟩
      subst hX0
      go_wp2_with fail
      clear z7 z0
      go_loopg [8, 43] n.kids.length (fun g s8 s43 wr => ∃ (i most' nx : Nat), i + g = n.kids.length ∧ s8 = .int .i64 (most' : Int) ∧ s43 = .int .i64 (i : Int) ∧ most' ≤ 1000 ∧ Hid (kidsP nl (deepP nl f) k n i (n.kids.drop i) most' nx = some (most, k)) ∧ Hid (Dq w0 (some ad) nl.length c fsv nb tb fb nx wr) ∧ Hid (KeepBut X0 wr nb none))
      case atStart => exact ⟨0, m0, next, by omega, rfl, rfl, by omega, HKIDS, HDX, Lib.hid (KeepBut.refl _ _ _)⟩
      case round =>
        obtain ⟨i, most', nx, hig, rfl, rfl, hm1, HKR, HDR, KBR⟩ := hrel
        have HQR := Lib.hid (KBR.out.blk HQX.out hqn (by simp))
        have KBW := Lib.hid (KBX.out.trans KBR.out (.inl rfl))
        cases hdr : n.kids.drop i with
        | nil =>
          have hge : n.kids.length ≤ i := List.drop_eq_nil_iff.1 hdr
          rw [hdr] at HKR
          have hfin : most' = most ∧ nx = k := by
            have := HKR.out
            simp only [kidsP, Option.some.injEq, Prod.mk.injEq] at this
            exact this
          obtain ⟨rfl, rfl⟩ := hfin
          have d5 : decide ((i : Int) < (n.kids.length : Int)) = false := decide_eq_false (by omega)
          have q0 : wr.cell? ⟨nb, 0, none⟩ = some (.int .i64 (nx : Int)) := (blk_cell HDR.out.nxt 0).trans rfl
          have qf := blk_frozen HDR.out.nxt 0
          have ql := blk_lt HDR.out.nxt
          obtain ⟨y1, hy1⟩ : ∃ y : Int, (nx : Int) + 1 = y := ⟨_, rfl⟩
          have hw1 : wrap64 ((nx : Int) + 1) = y1 := by rw [← hy1]; unfold wrap64; omega
          have hwm : ∀ y : Int, (most' : Int) + 1 = y → wrap64 ((most' : Int) + 1) = y := fun y h => by rw [← h]; unfold wrap64; omega
          have d6 : ((nx : Int) != (nx : Int)) = false := by simp
          have HDZ : Hid (Dq w0 (some ad) nl.length c fsv nb tb fb (nx + 1) (wr.setCell ⟨nb, 0, none⟩ (.int .i64 y1))) :=
            Lib.hid ⟨Below.setCell (p := ⟨nb, 0, none⟩) HDR.out.bel hlow _, blk_far HDR.out.tree (p := ⟨nb, 0, none⟩) nt.symm _, blk_put HDR.out.nxt 0 (cs' := #[.int .i64 ((nx + 1 : Nat) : Int)]) _ (by rw [← hy1]; rfl), blk_far HDR.out.fn (p := ⟨nb, 0, none⟩) nf.symm _⟩
          have KBZ := Lib.hid (KeepBut.set_ KBW.out 0 (.int .i64 y1))
          subst hn'
          go_upto_region 16 with fail
          clear HKR HKIDS HC HG IH HI hm0 HK HO hdr hig hmost d1 d2 d3 d5 hy1 hm1 hm01 hge hle hkl hL hl7
          go_upto_region 19 with fail
          have HQZ := Lib.hid (blk_far HQR.out (p := ⟨nb, 0, none⟩) hqn (.int .i64 y1))
          generalize wr.setCell ⟨nb, 0, none⟩ (.int .i64 y1) = wz at HDZ KBZ HQZ ⊢
          clear q0 qf ql
          have z0 : wz.cell? ⟨qb, 0, none⟩ = some (.int .u8 (n.kind : Int)) := (blk_cell HQZ.out 0).trans rfl
          by_cases h21 : n.kind = 21
          · have d7 : ((n.kind : Int) == 21) = true := beq_iff_eq.2 (by omega)
            have hmv : m = most' + 1 := by rw [hm, h21]; rfl
            obtain ⟨y2, hy2⟩ : ∃ y : Int, (most' : Int) + 1 = y := ⟨_, rfl⟩
            have hw2 : wrap64 ((most' : Int) + 1) = y2 := hwm y2 hy2
            have HMV : Hid (((m : Nat) : Int) = y2) := Lib.hid (by rw [hmv, ← hy2]; rfl)
            clear hm hmv hy2 h21 hwm
            go_wp2_with fail
            refine bodyPost_ret (v := .tuple #[.int .i64 y2, .bool true]) (by simp [results, Tryz.results24, go_sem, hw2]) rfl ?_
            rw [HMV.out]
            exact ⟨rfl, HDZ.out, KBZ.out⟩
          · have d7 : ((n.kind : Int) == 21) = false := beq_eq_false_iff_ne.2 (by omega)
            have hmv : m = most' := by
              rw [hm, show Nat.beq n.kind 21 = false from by rw [← Bool.not_eq_true, Nat.beq_eq]; exact h21]
              rfl
            subst hmv
            clear hm h21 hwm
            go_wp2_with fail
            refine bodyPost_ret (v := .tuple #[.int .i64 (m : Int), .bool true]) (by simp [results, Tryz.results24, go_sem]) rfl ?_
            exact ⟨rfl, HDZ.out, KBZ.out⟩
        | cons x rest =>
          have hxi : n.kids[i]? = some x := by
            have := congrArg (fun l : List Nat => l[0]?) hdr
            simpa using this
          have hlt : i < n.kids.length := (List.getElem?_eq_some_iff.1 hxi).1
          have hrs : rest = n.kids.drop (i + 1) := by
            have := congrArg List.tail hdr
            simpa [List.tail_drop] using this.symm
          rw [hdr] at HKR
          obtain ⟨hxk, hi1, m', nx', kid, hd', hkid, hsu, hm2, hrest⟩ := kids_inv HKR.out
          rw [hrs] at hrest
          obtain ⟨ad7, hA7, hk7⟩ := kid_at HI.out hxi
          subst hA7
          have hknd : n.kind = 3 ∨ n.kind = 4 ∨ n.kind = 5 ∨ n.kind = 6 ∨ n.kind = 7 ∨ n.kind = 14 ∨ n.kind = 18 ∨ n.kind = 21 := by
            rcases okN_kids HO.out with h | h
            · exact h
            · rw [h] at hxi; cases hxi
          have hxl : x < nl.length := by omega
          have d5 : decide ((i : Int) < (n.kids.length : Int)) = true := decide_eq_true (by omega)
          have d8 : decide ((x : Int) ≥ (k : Int)) = false := decide_eq_false (by omega)
          have d9 : (i : Int) < (n.kids.length : Int) := by omega
          have k7 : wr.cell? (ad7.add i) = some (.int .i64 (x : Int)) := pw_cell_below HDR.out.bel hk7
          have f0 : wr.cell? ⟨fb, 0, none⟩ = some (.func (.func 24) #[] #[.pointer (some ⟨nb, 0, none⟩), .pointer (some ⟨tb, 0, none⟩), .pointer (some ⟨fb, 0, none⟩)]) := (blk_cell HDR.out.fn 0).trans rfl
          have HCALL := Lib.hid (IH.out x nx m' nx' wr hd' HDR.out)
          have HSU := Lib.hid (fun W => suits_w hsu W)
          have HKN := Lib.hid hknd
          have HKD := Lib.hid hkid
          have HRE := Lib.hid hrest
          have HIG := Lib.hid hig
          have HM2 := Lib.hid hm2
          have HXL := Lib.hid hxl
          clear HKR hd' hkid hsu hrest hrs hk7 hxi hdr hknd hm hn' hm0 hmost hig hm2
          go_wp2_with fail
          refine (HCALL.out).mono ?_
          clear HCALL
          rintro e w4 ⟨rfl, hD4, hkb⟩
          have HD4 := Lib.hid hD4
          have HQ4 := Lib.hid (hkb.blk HQR.out hqn (by simp))
          have KB4 := Lib.hid (KBR.out.trans hkb (.inl rfl))
          clear hD4 hkb k7 f0 d5 d8 d9
          obtain ⟨adk, B7, b7, e', g0, g1, g2, g3, g4, g5, g6, g7, hlb, hib⟩ := nd_at HC.out HKD.out
          obtain rfl := Option.some.inj e'
          have G := Lib.hid (⟨g0, g1, g2, g3, g4, g5, g6, g7⟩ : _ ∧ _ ∧ _ ∧ _ ∧ _ ∧ _ ∧ _ ∧ _)
          have z0 : w4.cell? ⟨qb, 0, none⟩ = some (.int .u8 (n.kind : Int)) := (blk_cell HQ4.out 0).trans rfl
          have t0 : w4.cell? ⟨tb, 0, none⟩ = some (.slice (some ad) nl.length c) := (blk_cell HD4.out.tree 0).trans rfl
          have y0 := pw_cell_below HD4.out.bel g0
          have d6 : (x : Int) < (nl.length : Int) := by omega
          clear g0 g1 g2 g3 g4 g5 g6 g7 e' hlb hib
          go_upto_region 12 with fail
          go_cut [71] from 57 to 71 (fun s71 wc => s71 = .bool false ∧ Below w4.heap.size w4 wc)
          case first =>
            rename_i J9 K9 hj9 hk9
            clear HKIDS HC HG IH HI HRE HKN
            go_region_with (go_at_call 26; (with_reducible refine (HSU.out _).mono ?_); rintro e w' ⟨rfl, hb5⟩)
            all_goals
              refine hk9 _ _ (Met.intro (hj9 _ _ ?_))
              (repeat apply Exists.intro)
              exact ⟨⟨rfl, Below.trans (Below.drew (Below.refl _ w4)) hb5⟩, rfl⟩
          case rest =>
            obtain ⟨rfl, hb5⟩ := hcut
            obtain ⟨w5, hw5⟩ : ∃ y, y = wc := ⟨_, rfl⟩
            subst hw5
            have HD5 := Lib.hid (HD4.out.below hb5)
            have HQ5 := Lib.hid (blk_below HQ4.out hb5)
            have KB5 := Lib.hid (KB4.out.trans (KeepBut.of_below hb5 nb none) (.inl rfl))
            clear hb5 z0 t0 y0
            have z0 : w5.cell? ⟨qb, 0, none⟩ = some (.int .u8 (n.kind : Int)) := (blk_cell HQ5.out 0).trans rfl
            have z1 : w5.cell? ⟨qb, 1, none⟩ = some (.int .i64 (n.at_ : Int)) := (blk_cell HQ5.out 1).trans rfl
            have z2 : w5.cell? ⟨qb, 2, none⟩ = some (.string ⟨n.name.toArray⟩) := (blk_cell HQ5.out 2).trans rfl
            have z3 : w5.cell? ⟨qb, 3, none⟩ = some (.int .u8 (n.typ : Int)) := (blk_cell HQ5.out 3).trans rfl
            have z4 : w5.cell? ⟨qb, 4, none⟩ = some (.int .u8 (n.op : Int)) := (blk_cell HQ5.out 4).trans rfl
            have z5 : w5.cell? ⟨qb, 5, none⟩ = some (.int .u64 (n.bits : Int)) := (blk_cell HQ5.out 5).trans rfl
            have z6 : w5.cell? ⟨qb, 6, none⟩ = some (.int .i64 (n.size : Int)) := (blk_cell HQ5.out 6).trans rfl
            have z7 : w5.cell? ⟨qb, 7, none⟩ = some (.slice (some ad7) n.kids.length c7) := (blk_cell HQ5.out 7).trans rfl
            have t0 : w5.cell? ⟨tb, 0, none⟩ = some (.slice (some ad) nl.length c) := (blk_cell HD5.out.tree 0).trans rfl
            obtain ⟨g0, g1, g2, g3, g4, g5, g6, g7⟩ := G.out
            have p0 := pw_cell_below HD5.out.bel g0
            have p1 := pw_cell_below HD5.out.bel g1
            have p2 := pw_cell_below HD5.out.bel g2
            have p3 := pw_cell_below HD5.out.bel g3
            have p4 := pw_cell_below HD5.out.bel g4
            have p5 := pw_cell_below HD5.out.bel g5
            have p6 := pw_cell_below HD5.out.bel g6
            have p7 := pw_cell_below HD5.out.bel g7
            clear g0 g1 g2 g3 g4 g5 g6 g7
            obtain ⟨ab, hab⟩ : ∃ ab, aboutL n i kid = ab := ⟨_, rfl⟩
            have HAB := Lib.hid (fun W (hb : Below w5.heap.size w5 W) => about_w n kid i (.slice (some ad7) n.kids.length c7) (.slice B7 kid.kids.length b7) W hi1 (by
              obtain ⟨t, fr, h0⟩ := HG.out
              exact ⟨t, fr, (hb.block 0 (Nat.lt_of_lt_of_le (Array.getElem?_eq_some_iff.1 h0).1 HD5.out.bel.size)).trans ((HD5.out.bel.block 0 (Array.getElem?_eq_some_iff.1 h0).1).trans h0)⟩) HKN.out)
            rw [hab] at HAB HRE HM2
            obtain ⟨s3, hs3⟩ : ∃ s, m' + ab = s := ⟨_, rfl⟩
            rw [hs3] at HRE HM2
            have hs1000 := HM2.out
            have hmx : Value.int .i64 (if most' < s3 then (s3 : Int) else (most' : Int)) = .int .i64 ((Nat.max most' s3 : Nat) : Int) := by
              by_cases h : most' < s3
              · rw [if_pos h, show Nat.max most' s3 = s3 from Nat.max_eq_right (by omega)]
              · rw [if_neg h, show Nat.max most' s3 = most' from Nat.max_eq_left (by omega)]
            have HMX := Lib.hid hmx
            clear hmx
            have HE := Lib.hid (show i + 1 + (n.kids.length - (i + 1)) = n.kids.length ∧ n.kids.length - (i + 1) < gk ∧ Nat.max most' s3 ≤ 1000 from ⟨by omega, by have := HIG.out; omega, Nat.max_le.2 ⟨hm1, hs1000⟩⟩)
            have hil : (i : Int) < 1000000 := by omega
            have H1 : ∃ y : Int, Hid (((i + 1 : Nat) : Int) = y) ∧ Hid (wrap64 ((i : Int) + 1) = y) := ⟨((i + 1 : Nat) : Int), Lib.hid rfl, Lib.hid (by unfold wrap64; omega)⟩
            obtain ⟨y4, HY4, HW4⟩ := H1
            have H2 : Hid (wrap64 ((m' : Int) + (ab : Int)) = (s3 : Int) ∧ IntKind.i64.wrap ((m' : Int) + (ab : Int)) = (s3 : Int)) := by
              refine Lib.hid ⟨?_, ?_⟩
              · rw [← hs3]; unfold wrap64; omega
              · exact (IntWalk.i64_in _ (by omega)).trans (by omega)
            have hd5 := Lib.hid (Below.drew (Below.refl w5.heap.size w5))
            clear hab hs3 hs1000 hm1 hle hkl hL hl7 hm01 hxk hi1 hlt d1 d2 d3 hil
            go_upto_region 14 with fail
            have HD6 := Lib.hid d6
            refine wp_last fun KL hKL => ?_
            go_cut [8] from 44 to 83 (fun s8 wc => s8 = .int .i64 (if most' < s3 then (s3 : Int) else (most' : Int)) ∧ Below w5.heap.size w5 wc)
            case first =>
              rename_i J14 K14 hj14 hk14
              clear HW4 HE HY4 HMX HD6 HD5 HQ5 KB5 HD4 HQ4 KB4 G HKN HKD HRE HIG HM2 HXL HDR HQR KBR KBW HKIDS HC HG IH HI HK HO HDX KBX HQX HD HD1 KB1
              obtain ⟨hw, hw2⟩ := H2.out
              clear H2
              clear hKL KL
              go_region_with (go_at_call 27; (with_reducible refine (HAB.out _ hd5.out).mono ?_); rintro e w' ⟨rfl, hb6⟩)
              all_goals
                refine hk14 _ _ (Met.intro (hj14 _ _ ?_))
                (repeat apply Exists.intro)
                exact ⟨⟨rfl, Below.trans (Below.drew (Below.refl _ w5)) hb6⟩, rfl⟩
            case rest =>
              obtain ⟨hs8, hb7⟩ := hcut
              have HD7 := Lib.hid (HD5.out.below hb7)
              have KB7 := Lib.hid (KB5.out.trans (KeepBut.of_below hb7 nb none) (.inl rfl))
              rw [HMX.out] at hs8
              subst hs8
              clear hb7 z0 z1 z2 z3 z4 z5 z6 z7 t0 p0 p1 p2 p3 p4 p5 p6 p7 d6 HD6 H2 HD5 HQ5 KB5 HAB
              have hw4 := HW4.out
              refine hKL _ _ ?_
              clear hKL
              go_upto_region 15 with fail
              go_wp2
              go_roundg (n.kids.length - (i + 1))
              case measure => exact HE.out.2.1
              case rel => exact ⟨i + 1, Nat.max most' s3, nx', HE.out.1, rfl, by rw [HY4.out, HW4.out], HE.out.2.2, HRE, HD7, KB7⟩
end

end Go.Proofs.YtgplgmjnhkhbjaaGreatDoor
