/-
  The parser's walks, 20: Parse.
-/
import Derived.Test.YtgplgmjnhkhbjaaGreatDoorTh
import Derived.Test.YtgplgmjnhkhbjaaGreatDoorK
set_option linter.unusedVariables false
set_option linter.unusedSimpArgs false
namespace Go.Proofs.YtgplgmjnhkhbjaaGreatDoor
attribute [local go_sem] tok_0 tok_1 tok_2
open Go.RowKit Go.Proofs.YtgplgmjnhkhbjaaGreatDoorW.PrintWords PSameTree PflatTokens Syn

/-- what Scan hands back -/
def ScanEnds (w : World) (m : Except (Nat × Nat) (List Tok)) (e : Ending) (w' : World) : Prop :=
  match m with
  | .error (er, a) => e = .returned (.tuple #[.slice none 0 0, .agg #[.int .i64 er, .int .i64 a]]) ∧ Below w.heap.size w w'
  | .ok l => ∃ v, e = .returned (.tuple #[v, .agg #[.int .i64 0, .int .i64 0]]) ∧ Kd.R k38 38 w' w.heap.size (fun _ => True) v (l.map tk) ∧ Below w.heap.size w w'

/-- Scan does what the model does -/
def ScanOK : Prop := ∀ (s : ByteArray) (m : Except (Nat × Nat) (List Tok)) (w : World), scan s.data.toList = some m → Calls Tryz.prog 8 #[.string s] w fun e w' => ScanEnds w m e w'

/-- what Parse hands back -/
def ParseEnds (w : World) (r : Except Fault (List Nd × List Syn.Fn)) (e : Ending) (w' : World) : Prop :=
  match r with
  | .error f => e = .returned (.tuple #[.agg #[.slice none 0 0, .slice none 0 0], .agg #[.int .i64 (f.1 : Int), .int .i64 (f.2 : Int)]]) ∧ Below w.heap.size w w'
  | .ok (n, f) => ∃ A1 c1 A2 c2, e = .returned (.tuple #[.agg #[.slice A1 n.length c1, .slice A2 f.length c2], .agg #[.int .i64 0, .int .i64 0]]) ∧ Below w.heap.size w w' ∧
      n.length ≤ c1 ∧ f.length ≤ c2 ∧ k46.C w' A1 n.length (n.map nd) ∧ k49.C w' A2 f.length (f.map fd)

theorem fns_inv {f j : Nat} {s : St} {y : Except Fault (Unit × St)} (h : fnsM f (j + 1) s = some y) :
    ∃ t r, s.toks = t :: r ∧ ((t.kind = 1 ∧ y = .ok ((), s)) ∨ (t.kind ≠ 1 ∧ ∃ z, fnM f s = some z ∧ ((∃ e, z = .error e ∧ y = .error e) ∨ ∃ s1, z = .ok ((), s1) ∧ fnsM f j s1 = some y))) := by
  unfold fnsM at h
  rcases bind_is h with ⟨e, h1, _⟩ | ⟨t, s0, h1, h2⟩
  · obtain ⟨t, r, _, hx⟩ := nextM_inv h1
    cases hx
  · obtain ⟨rfl, r, ht⟩ := nextM_ok (x := .ok (t, s0)) h1
    refine ⟨t, r, ht, ?_⟩
    cases hk : Nat.beq t.kind 1
    · rw [hk] at h2
      simp only [cond_false] at h2
      refine .inr ⟨by rw [← Bool.not_eq_true, Nat.beq_eq] at hk; exact hk, ?_⟩
      obtain ⟨z, h3, h4⟩ := bind_ex h2
      refine ⟨z, h3, ?_⟩
      rcases h4 with h4 | ⟨_, s1, h4, h5⟩
      · exact .inl h4
      · exact .inr ⟨s1, h4, h5⟩
    · rw [hk] at h2
      have h2 : some (Except.ok ((), s0)) = some y := h2
      exact .inl ⟨Nat.eq_of_beq_eq_true hk, (Option.some.inj h2).symm⟩

theorem scan_err {l : List UInt8} {f : Nat × Nat} (h : scan l = some (.error f)) : f.1 ≠ 0 := by
  unfold scan at h
  cases hb : Nat.ble l.length 65536
  · rw [hb] at h
    simp only [cond_false, Option.some.injEq, Except.error.injEq] at h
    subst h
    exact (by decide : (3 : Nat) ≠ 0)
  · rw [hb] at h
    simp only [cond_true] at h
    split at h
    · cases h
    · simp only [Option.some.injEq, Except.error.injEq] at h
      subst h
      exact (by decide : (120 : Nat) ≠ 0)
    · cases h
theorem scan_len {l : List UInt8} {ts : List Tok} (h : scan l = some (.ok ts)) : l.length ≤ 65536 := by
  unfold scan at h
  cases hb : Nat.ble l.length 65536
  · rw [hb] at h
    cases h
  · exact Nat.le_of_ble_eq_true hb

theorem tok_row {w : World} {base : Nat} {v : Value} {l : List S38} (h : Kd.R k38 38 w base (fun _ => True) v l) (hl : 0 < l.length) : ∃ b c, v = .slice (some ⟨b, 0, none⟩) l.length c ∧ l.length ≤ c ∧ base ≤ b ∧ k38.C w (some ⟨b, 0, none⟩) l.length l := by
  obtain ⟨inner, ho⟩ := Kd.R_own h
  rcases ho.2 with ⟨_, h0⟩ | ⟨b, cap, cur, he, hb, _⟩
  · omega
  · subst he
    obtain ⟨_, h1, h2⟩ := Kd.R_reads' h
    exact ⟨b, cap, rfl, h1, hb, h2⟩

set_option maxRecDepth 100000 in
set_option maxHeartbeats 8000000 in
theorem parse_w (hScan : ScanOK) (N : Nat) (s : ByteArray) (w : World) (hG : ∃ t fr, w.heap[0]? = some (.cells rowsL.toArray t fr)) (r : Except Fault (List Nd × List Syn.Fn)) (hr : parse N s.data.toList = some r) :
    Calls Tryz.prog 9 #[.string s] w fun e w' => ParseEnds w r e w' := by
  have hmf : ∀ (fn : Go.Fn) (first cap : Array Value) (w : World), (Instr.makeFunc fn first cap).run Tryz.prog w = .ok (.func fn first cap) w := fun _ _ _ _ => rfl
  obtain ⟨m, hm, hcase⟩ : ∃ m, scan s.data.toList = some m ∧ ((∃ e, m = .error e ∧ r = .error e) ∨ ∃ toks, m = .ok toks ∧ ∃ y, fnsM N N ⟨toks, 0, [], 0, []⟩ = some y ∧ ((∃ e, y = .error e ∧ r = .error e) ∨ ∃ s', y = .ok ((), s') ∧ r = .ok (s'.nodes, s'.funcs))) := by
    unfold parse at hr
    cases hs : scan s.data.toList with
    | none => rw [hs] at hr; cases hr
    | some m =>
      refine ⟨m, rfl, ?_⟩
      rw [hs] at hr
      cases m with
      | error e => exact .inl ⟨e, rfl, (Option.some.inj hr).symm⟩
      | ok toks =>
        refine .inr ⟨toks, rfl, ?_⟩
        simp only at hr
        cases hf : fnsM N N ⟨toks, 0, [], 0, []⟩ with
        | none => rw [hf] at hr; cases hr
        | some y =>
          refine ⟨y, rfl, ?_⟩
          rw [hf] at hr
          rcases y with e | ⟨u, s'⟩
          · exact .inl ⟨e, rfl, (Option.some.inj hr).symm⟩
          · exact .inr ⟨s', rfl, (Option.some.inj hr).symm⟩
  obtain ⟨hb0, i1, i2, hz0⟩ := alloc2 w (.cells #[.slice none 0 0, .slice none 0 0] 32) (.cells #[.int .i64 0, .int .i64 0] 26)
  have HS := Lib.hid (hScan s m ((w.alloc (.cells #[.slice none 0 0, .slice none 0 0] 32)).alloc (.cells #[.int .i64 0, .int .i64 0] 26)) hm)
  have HB0 := Lib.hid hb0
  have I1 := Lib.hid i1
  have I2 := Lib.hid i2
  have HM := Lib.hid hm
  have HC := Lib.hid hcase
  have HG := Lib.hid hG
  have h0s : ∃ n, w.heap.size = n + 1 := by
    obtain ⟨t, fr, h0⟩ := hG
    have := (Array.getElem?_eq_some_iff.1 h0).1
    exact ⟨w.heap.size - 1, by omega⟩
  clear hcase hb0 i1 i2 hm hr hG
  go_enter_defers Tryz.func9, Tryz.ntmps9
  go_wp2_with fail
  refine (HS.out).mono ?_
  clear HS
  generalize ((w.alloc (.cells #[.slice none 0 0, .slice none 0 0] 32)).alloc (.cells #[.int .i64 0, .int .i64 0] 26)) = w1 at HB0 I1 I2 hz0 ⊢
  have hone : ∃ b, w.heap.size + 1 = b := ⟨_, rfl⟩
  obtain ⟨b, hbe⟩ := hone
  rw [hbe] at I2 hz0 ⊢
  obtain ⟨a, hae⟩ : ∃ a, w.heap.size = a := ⟨_, rfl⟩
  rw [hae] at I1 ⊢
  have hab : a ≠ b := by omega
  rcases HC.out with ⟨f, rfl, rfl⟩ | ⟨toks, rfl, y, hy, hx⟩
  · rintro e w2 ⟨rfl, hb2⟩
    have ha2 := blk_below I1.out hb2
    have hb3 := blk_below I2.out hb2
    have d1 : ((f.1 : Int) != 0) = true := bne_iff_ne.2 (by have := scan_err HM.out; omega)
    have a0 := (blk_cell ha2 0).trans rfl
    have a1 := (blk_cell ha2 1).trans rfl
    have b0 := (blk_cell hb3 0).trans rfl
    have b1 := (blk_cell hb3 1).trans rfl
    have fa0 := blk_frozen ha2 0
    have fa1 := blk_frozen ha2 1
    have fb0 := blk_frozen hb3 0
    have fb1 := blk_frozen hb3 1
    have la := blk_lt ha2
    have lb := blk_lt hb3
    have HA2 := Lib.hid ha2
    have HB2 := Lib.hid hb3
    have HBE := Lib.hid (Below.trans HB0.out (Below.mono hb2 HB0.out.size))
    clear ha2 hb3 hb2 HM HC
    go_wp2_with fail
    go_region
    all_goals
      go_wp2
      refine ⟨_, results_cc rfl _ _ a b 32 26 #[.slice none 0 0, .slice none 0 0] #[.int .i64 (f.1 : Int), .int .i64 (f.2 : Int)] (0, 0) (0, 0) _ _ rfl ?_ Tryz.underlying32 rfl (by kernel_rfl) rfl ?_ Tryz.underlying26 rfl (by kernel_rfl), rfl, ?_⟩
      · exact blk_drew (blk_far (blk_far (blk_put (blk_put (blk_far (blk_far HA2.out (p := ⟨b, 0, none⟩) hab _) (p := ⟨b, 1, none⟩) hab _) 0 (cs' := #[.slice none 0 0, .slice none 0 0]) _ rfl) 1 (cs' := #[.slice none 0 0, .slice none 0 0]) _ rfl) (p := ⟨b, 0, none⟩) hab _) (p := ⟨b, 1, none⟩) hab _)
      · exact blk_drew (blk_put (blk_put (blk_far (blk_far (blk_put (blk_put HB2.out 0 (cs' := #[.int .i64 (f.1 : Int), .int .i64 0]) _ rfl) 1 (cs' := #[.int .i64 (f.1 : Int), .int .i64 (f.2 : Int)]) _ rfl) (p := ⟨a, 0, none⟩) hab.symm _) (p := ⟨a, 1, none⟩) hab.symm _) 0 (cs' := #[.int .i64 (f.1 : Int), .int .i64 (f.2 : Int)]) _ rfl) 1 (cs' := #[.int .i64 (f.1 : Int), .int .i64 (f.2 : Int)]) _ rfl)
      · have g1 : w.heap.size ≤ a := by omega
        have g2 : w.heap.size ≤ b := by omega
        exact Below.drew (Below.setCell (p := ⟨b, 1, none⟩) (Below.setCell (p := ⟨b, 0, none⟩) (Below.setCell (p := ⟨a, 1, none⟩) (Below.setCell (p := ⟨a, 0, none⟩) (Below.setCell (p := ⟨b, 1, none⟩) (Below.setCell (p := ⟨b, 0, none⟩) HBE.out g2 _) g2 _) g1 _) g1 _) g2 _) g2 _)
  · rintro e w2 ⟨v, rfl, hv, hb2⟩
    have hne : 0 < (toks.map tk).length := by
      cases N with
      | zero => cases hy
      | succ k =>
        obtain ⟨t, r, ht, _⟩ := fns_inv hy
        have ht : toks = t :: r := ht
        rw [ht]
        simp
    obtain ⟨tb, tc, rfl, hle, htb, hC⟩ := tok_row hv hne
    rw [List.length_map] at hle hC
    have ha2 := blk_below I1.out hb2
    have hb3 := blk_below I2.out hb2
    have b0 := (blk_cell hb3 0).trans rfl
    have b1 := (blk_cell hb3 1).trans rfl
    have fb0 := blk_frozen hb3 0
    have fb1 := blk_frozen hb3 1
    have lb := blk_lt hb3
    have HA2 := Lib.hid ha2
    have HB2 := Lib.hid hb3
    have HBE := Lib.hid (Below.trans HB0.out (Below.mono hb2 HB0.out.size))
    have HY := Lib.hid hy
    have HX := Lib.hid hx
    have HV := Lib.hid hv
    clear hb2 hC hle hy hx hv HC ha2 hb3
    go_upto_region 4 with fail
    have g1 : w.heap.size ≤ a := by omega
    have g2 : w.heap.size ≤ b := by omega
    have hC3 : Kd.R k38 38 ((w2.setCell ⟨b, 0, none⟩ (.int .i64 0)).setCell ⟨b, 1, none⟩ (.int .i64 0)) w1.heap.size (fun k => b < k) (.slice (some ⟨tb, 0, none⟩) (toks.map tk).length tc) (toks.map tk) :=
      Kd.R_far (p := ⟨b, 1, none⟩) (Kd.R_far (p := ⟨b, 0, none⟩) (Kd.R_mono (Kd.R_bound HV.out) (fun k hk => by have := hk.2.1; omega)) (fun k hk => by show k ≠ b; omega) _) (fun k hk => by show k ≠ b; omega) _
    obtain ⟨_, hle3, hc3⟩ := Kd.R_reads' hC3
    rw [List.length_map] at hle3 hc3
    have HA3 := Lib.hid (blk_far (blk_far HA2.out (p := ⟨b, 0, none⟩) hab (.int .i64 0)) (p := ⟨b, 1, none⟩) hab (.int .i64 0))
    have HB3 := Lib.hid (blk_put (blk_put HB2.out 0 (cs' := #[.int .i64 0, .int .i64 0]) (.int .i64 0) rfl) 1 (cs' := #[.int .i64 0, .int .i64 0]) (.int .i64 0) rfl)
    have HBE3 := Lib.hid (Below.setCell (p := ⟨b, 1, none⟩) (Below.setCell (p := ⟨b, 0, none⟩) HBE.out g2 (.int .i64 0)) g2 (.int .i64 0))
    generalize ((w2.setCell ⟨b, 0, none⟩ (.int .i64 0)).setCell ⟨b, 1, none⟩ (.int .i64 0)) = w3 at HA3 HB3 HBE3 hc3 ⊢
    have hal := blk_lt HA3.out
    have hbl := blk_lt HB3.out
    have hG3 : ∃ t fr, w3.heap[0]? = some (.cells rowsL.toArray t fr) := by
      obtain ⟨t, fr, h0⟩ := HG.out
      exact ⟨t, fr, (HBE3.out.block 0 (by omega)).trans h0⟩
    have HG3 := Lib.hid hG3
    have hp0 : Pz w3 w3.heap.size s (fun _ => False) ⟨toks, 0, [], 0, []⟩ (.slice none 0 0) (.slice none 0 0) (w3.alloc (.cells #[.string s, .slice (some ⟨tb, 0, none⟩) toks.length tc, .int .i64 0, .slice none 0 0, .slice none 0 0] 72)) :=
      ⟨⟨tb, 0, tc, blk_new _ _, hle3, hc3⟩, Nat.le_refl _, below_alloc (Below.refl _ _) _, scan_fit _ _ HM.out, Kd.R_nil _ _ _ _ _, rfl, Kd.R_nil _ _ _ _ _, by show 0 ≤ 101; omega, by have := scan_len HM.out; rw [Array.length_toList] at this; exact this, fun k hk => hk.elim, fun k hk => hk.elim, fun hk => hk⟩
    have HP0 := Lib.hid hp0
    clear hp0 hG3 hc3 hle3 HV HA2 HB2 HBE b0 b1 fb0 fb1 lb hne hC3 htb
    obtain ⟨g, hge⟩ : ∃ g, w3.heap.size = g := ⟨_, rfl⟩
    go_wp2_with fail
    rw [hge] at HP0
    go_loopg [] N (fun j wr => ∃ (s' : St) (nv' fv' : Value), Hid (fnsM N j s' = some y) ∧ Hid (Pz w3 g s (fun _ => False) s' nv' fv' wr))
    case atStart => exact ⟨_, _, _, HY, HP0⟩
    case round =>
      obtain ⟨s', nv', fv', HF, HPr⟩ := hrel
      obtain ⟨j, rfl⟩ : ∃ j, gk = j + 1 := by
        cases gk with
        | zero => exact absurd HF.out (by simp [fnsM, noneM])
        | succ j => exact ⟨j, rfl⟩
      obtain ⟨t, r, ht, hc⟩ := fns_inv HF.out
      have HN := Lib.hid (next_w ht HPr.out)
      have HC := Lib.hid hc
      clear hc ht HF
      rcases HC.out with ⟨hk, rfl⟩ | ⟨hk, z, hz, hc⟩
      · have d1 : ((t.kind : Int) != 1) = false := by simp [hk]
        go_wp2_with fail
        refine (HN.out).mono ?_
        clear HN
        rintro e wb ⟨rfl, hb⟩
        have hpb := HPr.out.below hb
        obtain ⟨A1, c1, e1⟩ := Kd.R_slice hpb.nds
        obtain ⟨A2, c2, e2⟩ := Kd.R_slice hpb.fns
        rw [List.length_map] at e1 e2
        subst e1 e2
        obtain ⟨_, _, _, hcells, _⟩ := hpb.cells
        have k3 := (blk_cell hcells 3).trans rfl
        have k4 := (blk_cell hcells 4).trans rfl
        have hab3 := blk_below HA3.out hpb.bel
        have hbb3 := blk_below HB3.out hpb.bel
        have a0 := (blk_cell hab3 0).trans rfl
        have a1 := (blk_cell hab3 1).trans rfl
        have b0 := (blk_cell hbb3 0).trans rfl
        have b1 := (blk_cell hbb3 1).trans rfl
        have fa0 := blk_frozen hab3 0
        have fa1 := blk_frozen hab3 1
        have fb0 := blk_frozen hbb3 0
        have fb1 := blk_frozen hbb3 1
        have la := blk_lt hab3
        have lb := blk_lt hbb3
        have ga : g ≠ a := by omega
        have gb : g ≠ b := by omega
        have HPb := Lib.hid hpb
        have HA4 := Lib.hid hab3
        have HB4 := Lib.hid hbb3
        clear hb hpb hcells hab3 hbb3
        go_wp2_with fail
        rcases HX.out with ⟨e, h, _⟩ | ⟨s'', h, rfl⟩
        · cases h
        simp only [Except.ok.injEq, Prod.mk.injEq, true_and] at h
        subst h
        refine leaves_cons (f := 21) (args := #[.pointer (some ⟨a, 0, none⟩), .pointer (some ⟨b, 0, none⟩)]) (by simp) (by simp [go_sem]) ?_
        refine (catch_idle a b _).mono ?_
        rintro e u' w'' ⟨rfl, rfl, rfl⟩
        have hfa := blk_far (blk_far (blk_put (blk_put HA4.out 0 (cs' := #[.slice A1 s'.nodes.length c1, .slice none 0 0]) (.slice A1 s'.nodes.length c1) rfl) 1 (cs' := #[.slice A1 s'.nodes.length c1, .slice A2 s'.funcs.length c2]) (.slice A2 s'.funcs.length c2) rfl) (p := ⟨b, 0, none⟩) hab (.int .i64 0)) (p := ⟨b, 1, none⟩) hab (.int .i64 0)
        have hfb := blk_put (blk_put (blk_far (blk_far HB4.out (p := ⟨a, 0, none⟩) hab.symm (.slice A1 s'.nodes.length c1)) (p := ⟨a, 1, none⟩) hab.symm (.slice A2 s'.funcs.length c2)) 0 (cs' := #[.int .i64 0, .int .i64 0]) (.int .i64 0) rfl) 1 (cs' := #[.int .i64 0, .int .i64 0]) (.int .i64 0) rfl
        change ∃ v, (results Tryz.f9 _).run Tryz.prog _ = .ok v _ ∧ _
        refine ⟨_, results_cc rfl _ _ a b 32 26 #[.slice A1 s'.nodes.length c1, .slice A2 s'.funcs.length c2] #[.int .i64 0, .int .i64 0] (0, 0) (0, 0) _ _ rfl hfa Tryz.underlying32 rfl (by kernel_rfl) rfl hfb Tryz.underlying26 rfl (by kernel_rfl), ?_⟩
        have hn := Kd.R_far (p := ⟨b, 1, none⟩) (Kd.R_far (p := ⟨b, 0, none⟩) (Kd.R_far (p := ⟨a, 1, none⟩) (Kd.R_far (p := ⟨a, 0, none⟩) (Kd.R_bound HPb.out.nds) (fun k hk => by have := hk.2.1; show k ≠ a; omega) (.slice A1 s'.nodes.length c1)) (fun k hk => by have := hk.2.1; show k ≠ a; omega) (.slice A2 s'.funcs.length c2)) (fun k hk => by have := hk.2.1; show k ≠ b; omega) (.int .i64 0)) (fun k hk => by have := hk.2.1; show k ≠ b; omega) (.int .i64 0)
        have hf := Kd.R_far (p := ⟨b, 1, none⟩) (Kd.R_far (p := ⟨b, 0, none⟩) (Kd.R_far (p := ⟨a, 1, none⟩) (Kd.R_far (p := ⟨a, 0, none⟩) (Kd.R_bound HPb.out.fns) (fun k hk => by have := hk.2.1; show k ≠ a; omega) (.slice A1 s'.nodes.length c1)) (fun k hk => by have := hk.2.1; show k ≠ a; omega) (.slice A2 s'.funcs.length c2)) (fun k hk => by have := hk.2.1; show k ≠ b; omega) (.int .i64 0)) (fun k hk => by have := hk.2.1; show k ≠ b; omega) (.int .i64 0)
        obtain ⟨_, ln, cn⟩ := Kd.R_reads' hn
        obtain ⟨_, lf, cf⟩ := Kd.R_reads' hf
        rw [List.length_map] at cn cf
        have hbz : Below w.heap.size w wb := Below.trans HBE3.out (Below.mono HPb.out.bel HBE3.out.size)
        exact ⟨A1, c1, A2, c2, rfl, Below.setCell (p := ⟨b, 1, none⟩) (Below.setCell (p := ⟨b, 0, none⟩) (Below.setCell (p := ⟨a, 1, none⟩) (Below.setCell (p := ⟨a, 0, none⟩) hbz g1 _) g1 _) g2 _) g2 _, ln, lf, cn, cf⟩
      · have d1 : ((t.kind : Int) != 1) = true := bne_iff_ne.2 (by omega)
        have HFN := Lib.hid (fun wb (hb : Below wr.heap.size wr wb) => fn_w N (fun j hj => (all_ok HG3.out fv' N).2.2.1 j (by omega)) hz (HPr.out.below hb))
        have HC2 := Lib.hid hc
        clear hz hc
        go_wp2_with fail
        refine (HN.out).mono ?_
        clear HN
        rintro e wb ⟨rfl, hb⟩
        have HFN2 := Lib.hid (HFN.out wb hb)
        clear hb
        go_wp2_with fail
        refine (HFN2.out).mono ?_
        clear HFN HFN2
        rcases HC2.out with ⟨f, rfl, rfl⟩ | ⟨s1, rfl, hc⟩
        · rintro e wz ⟨rfl, hb⟩
          have HBz := Lib.hid hb
          clear hb
          go_wp2
          rcases HX.out with ⟨e, h, rfl⟩ | ⟨s'', h, _⟩
          rotate_left
          · cases h
          cases h
          refine leaves_cons (f := 21) (args := #[.pointer (some ⟨a, 0, none⟩), .pointer (some ⟨b, 0, none⟩)]) (by simp) (by simp [go_sem]) ?_
          refine (catch_panic a b f wz hab ⟨_, _, blk_below HA3.out HBz.out⟩ ⟨_, _, blk_below HB3.out HBz.out⟩).mono ?_
          rintro e u' w'' ⟨rfl, rfl, hfa, hfb, hbel⟩
          change ∃ v, (results Tryz.f9 _).run Tryz.prog _ = .ok v _ ∧ _
          refine ⟨_, results_cc rfl _ _ a b 32 26 #[.slice none 0 0, .slice none 0 0] #[.int .i64 (f.1 : Int), .int .i64 (f.2 : Int)] (0, 0) (0, 0) _ _ rfl hfa Tryz.underlying32 rfl (by kernel_rfl) rfl hfb Tryz.underlying26 rfl (by kernel_rfl), rfl, ?_⟩
          exact hbel w.heap.size w g1 g2 (Below.trans HBE3.out (Below.mono HBz.out HBE3.out.size))
        · rintro e wz ⟨rfl, nvz, fvz, hp⟩
          have HPz := Lib.hid hp
          have HFz := Lib.hid hc
          clear hp hc
          go_wp2
          go_roundg j
          case measure => omega
          case rel => exact ⟨s1, nvz, fvz, HFz, HPz⟩
end Go.Proofs.YtgplgmjnhkhbjaaGreatDoor
