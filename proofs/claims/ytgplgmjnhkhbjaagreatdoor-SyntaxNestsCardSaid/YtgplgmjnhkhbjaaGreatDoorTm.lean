/-
  Right's walks, 3: Right's closure.
-/
import Derived.Test.YtgplgmjnhkhbjaaGreatDoorTl
import Derived.Test.YtgplgmjnhkhbjaaGreatDoorK
set_option linter.unusedVariables false
set_option linter.unusedSimpArgs false
namespace Go.Proofs.YtgplgmjnhkhbjaaGreatDoor
open Go.RowKit Go.Proofs.YtgplgmjnhkhbjaaGreatDoorW.PrintWords PSameTree PflatTokens Syn
open Go.Proofs.YtgplgmjnhkhbjaaGreatDoorW.PrintLast Go.Proofs.YtgplgmjnhkhbjaaGreatDoorW.PrintMore
def shapesOf (n : Nd) : List Nd :=
  [{ kind := 1, at_ := n.at_, typ := 4, bits := 1 }, { kind := 1, at_ := n.at_, typ := 4, bits := 2 }, { kind := 1, at_ := n.at_, typ := 1, bits := 1 },
   { kind := 2, at_ := n.at_, name := [97] }, { kind := 3, at_ := n.at_, name := [97], kids := [n.kids.getD 0 0] }, { kind := 4, at_ := n.at_, name := [102], kids := [n.kids.getD 0 0] },
   { kind := 5, at_ := n.at_, typ := 2, kids := [n.kids.getD 0 0] }, { kind := 6, at_ := n.at_, op := 17, kids := [n.kids.getD 0 0] },
   { kind := 7, at_ := n.at_, op := 13, kids := [n.kids.getD 0 0, n.kids.getD 1 0] }, { kind := 7, at_ := n.at_, op := 1, kids := [n.kids.getD 0 0, n.kids.getD 1 0] },
   { kind := 14, at_ := n.at_, kids := [n.kids.getD 0 0, n.kids.getD 1 0] }, { kind := 18, at_ := n.at_, kids := [n.kids.getD 0 0] }, { kind := 21, at_ := n.at_, kids := n.kids }]
def okN (n : Nd) : Bool := (shapesOf n).any fun m => decide (m = n)
def suitsP (k i q : Nat) : Bool := match Psuits.syntax_suits.f 40 (k : Int) (i : Int) (q : Int) with | some b => b | none => false

def kidsP (ns : List Nd) (d : Nat → Nat → Option (Nat × Nat)) (k : Nat) (n : Nd) : Nat → List Nat → Nat → Nat → Option (Nat × Nat)
  | _, [], most, next => some (most, next)
  | i, c :: cs, most, next =>
    bif Nat.ble k c || Nat.blt 1 i then none else
    match d c next with
    | none => none
    | some (m, next') =>
      match ns[c]? with
      | none => none
      | some kid => bif suitsP n.kind i kid.kind && Nat.ble (m + aboutL n i kid) 1000 then kidsP ns d k n (i + 1) cs (Nat.max most (m + aboutL n i kid)) next' else none
def deepP (ns : List Nd) : Nat → Nat → Nat → Option (Nat × Nat)
  | 0, _, _ => none
  | f + 1, k, next =>
    bif Nat.blt k next then none else
    match ns[k]? with
    | none => none
    | some n =>
      bif okN n then
        match kidsP ns (deepP ns f) k n 0 n.kids (bif Nat.beq n.kind 4 then 1 else 0) next with
        | none => none
        | some (most, next') => bif Nat.beq next' k && Nat.ble most 1000 then some (bif Nat.beq n.kind 21 then most + 1 else most, next' + 1) else none
      else none

theorem shaped_w {n : Nd} (h : okN n = true) (A : Option Addr) (c : Nat) (w : World) : Calls Tryz.prog 25 #[ndV n (.slice A n.kids.length c)] w fun e w' => e = .returned (.bool true) ∧ Below w.heap.size w w' := by
  simp only [okN, shapesOf, List.any_cons, List.any_nil, Bool.or_false, Bool.or_eq_true, decide_eq_true_eq] at h
  rcases h with h | h | h | h | h | h | h | h | h | h | h | h | h
  · rw [← h]; exact shaped_litA n.at_ A c w
  · rw [← h]; exact shaped_litB n.at_ A c w
  · rw [← h]; exact shaped_litT n.at_ A c w
  · rw [← h]; exact shaped_nam n.at_ A c w
  · rw [← h]; exact shaped_idx n.at_ A c w
  · rw [← h]; exact shaped_cal n.at_ A c w
  · rw [← h]; exact shaped_cnv n.at_ A c w
  · rw [← h]; exact shaped_una n.at_ A c w
  · rw [← h]; exact shaped_binL n.at_ A c w
  · rw [← h]; exact shaped_binA n.at_ A c w
  · rw [← h]; exact shaped_iff n.at_ A c w
  · rw [← h]; exact shaped_ret n.at_ A c w
  · rw [← h]; exact shaped_blk n.at_ n.kids.length A c w
theorem suits_w {k i q : Nat} (h : suitsP k i q = true) (w : World) : Calls Tryz.prog 26 #[.int .u8 (k : Int), .int .i64 (i : Int), .int .u8 (q : Int)] w fun e w' => e = .returned (.bool true) ∧ Below w.heap.size w w' := by
  unfold suitsP at h
  cases hf : Psuits.syntax_suits.f 40 (k : Int) (i : Int) (q : Int) with
  | none => rw [hf] at h; cases h
  | some b =>
    rw [hf] at h
    have h : b = true := h
    subst h
    exact Psuits.syntax_suits.calls 40 _ _ _ true w hf

theorem nd_at {w : World} {A : Option Addr} {ns' : List Nd} {k : Nat} {n : Nd} (h : k46.C w A ns'.length (ns'.map nd)) (hk : ns'[k]? = some n) :
    ∃ ad A7 c7, A = some ad ∧ w.cell? (ad.add (k * 8)) = some (.int .u8 (n.kind : Int)) ∧ w.cell? ⟨(ad.add (k * 8)).block, (ad.add (k * 8)).off + 1, none⟩ = some (.int .i64 (n.at_ : Int)) ∧ w.cell? ⟨(ad.add (k * 8)).block, (ad.add (k * 8)).off + 2, none⟩ = some (.string ⟨n.name.toArray⟩) ∧
      w.cell? ⟨(ad.add (k * 8)).block, (ad.add (k * 8)).off + 3, none⟩ = some (.int .u8 (n.typ : Int)) ∧ w.cell? ⟨(ad.add (k * 8)).block, (ad.add (k * 8)).off + 4, none⟩ = some (.int .u8 (n.op : Int)) ∧ w.cell? ⟨(ad.add (k * 8)).block, (ad.add (k * 8)).off + 5, none⟩ = some (.int .u64 (n.bits : Int)) ∧
      w.cell? ⟨(ad.add (k * 8)).block, (ad.add (k * 8)).off + 6, none⟩ = some (.int .i64 (n.size : Int)) ∧ w.cell? ⟨(ad.add (k * 8)).block, (ad.add (k * 8)).off + 7, none⟩ = some (.slice A7 n.kids.length c7) ∧ n.kids.length ≤ c7 ∧ (Kd.int .i64).C w A7 n.kids.length (ns n.kids) := by
  have hlt : k < ns'.length := (List.getElem?_eq_some_iff.1 hk).1
  have hr : rd_T46 (ns'.map nd) (k : Int) = nd n := by
    unfold rd_T46
    show (ns'.map nd).getD k z46 = nd n
    rw [List.getD_eq_getElem?_getD, List.getElem?_map, hk]
    rfl
  obtain ⟨ad, A7, c7, e, h0, h1, h2, h3, h4, h5, h6, h7, hl, hi⟩ := at_T46 h (k : Int) (by omega) (by omega)
  rw [hr] at h0 h1 h2 h3 h4 h5 h6 h7 hl hi
  have hlen : (nd n).f7.length = n.kids.length := List.length_map _
  rw [hlen] at h7 hl hi
  exact ⟨ad, A7, c7, e, h0, h1, h2, h3, h4, h5, h6, h7, hl, hi⟩

theorem kid_at {w : World} {A : Option Addr} {l : List Nat} {j x : Nat} (h : (Kd.int .i64).C w A l.length (ns l)) (hk : l[j]? = some x) : ∃ ad, A = some ad ∧ w.cell? (ad.add j) = some (.int .i64 (x : Int)) := by
  have hlt : j < l.length := (List.getElem?_eq_some_iff.1 hk).1
  obtain ⟨ad, c, e, hl, hK, hc⟩ := Kd.C_get h 0 (j : Int) (by omega) (by omega)
  refine ⟨ad, e, ?_⟩
  have hx : (ns l).getD (j : Int).toNat 0 = (x : Int) := by
    show (ns l).getD j 0 = (x : Int)
    unfold ns
    rw [List.getD_eq_getElem?_getD, List.getElem?_map, hk]
    rfl
  rw [hx] at hK
  have hK : c = [.int .i64 (x : Int)] := hK
  subst hK
  have := hc 0 (.int .i64 (x : Int)) rfl
  have h2 : (j : Int).toNat * (Kd.int IntKind.i64).sz + 0 = j := by
    show j * 1 + 0 = j
    omega
  rw [h2] at this
  exact this

theorem kids_inv {ns : List Nd} {d : Nat → Nat → Option (Nat × Nat)} {k i c : Nat} {n : Nd} {cs : List Nat} {most next : Nat} {r : Nat × Nat} (h : kidsP ns d k n i (c :: cs) most next = some r) :
    c < k ∧ i ≤ 1 ∧ ∃ m next' kid, d c next = some (m, next') ∧ ns[c]? = some kid ∧ suitsP n.kind i kid.kind = true ∧ m + aboutL n i kid ≤ 1000 ∧ kidsP ns d k n (i + 1) cs (Nat.max most (m + aboutL n i kid)) next' = some r := by
  unfold kidsP at h
  cases hb : Nat.ble k c || Nat.blt 1 i
  · rw [hb] at h
    simp only [cond_false] at h
    simp only [Bool.or_eq_false_iff] at hb
    have hb1 : c < k := by have := hb.1; rw [← Bool.not_eq_true, Nat.ble_eq] at this; omega
    have hb2 : i ≤ 1 := by have := hb.2; rw [← Bool.not_eq_true, Nat.blt_eq] at this; omega
    refine ⟨hb1, hb2, ?_⟩
    cases hd : d c next with
    | none => rw [hd] at h; cases h
    | some p =>
      obtain ⟨m, next'⟩ := p
      rw [hd] at h
      simp only at h
      cases hk : ns[c]? with
      | none => rw [hk] at h; cases h
      | some kid =>
        rw [hk] at h
        simp only at h
        cases hs : suitsP n.kind i kid.kind && Nat.ble (m + aboutL n i kid) 1000
        · rw [hs] at h; cases h
        · rw [hs] at h
          simp only [Bool.and_eq_true] at hs
          exact ⟨m, next', kid, rfl, rfl, hs.1, Nat.le_of_ble_eq_true hs.2, h⟩
  · rw [hb] at h
    cases h

theorem deep_inv {ns : List Nd} {f k next m next' : Nat} (h : deepP ns (f + 1) k next = some (m, next')) :
    next ≤ k ∧ ∃ n most, ns[k]? = some n ∧ okN n = true ∧ kidsP ns (deepP ns f) k n 0 n.kids (bif Nat.beq n.kind 4 then 1 else 0) next = some (most, k) ∧ most ≤ 1000 ∧ m = (bif Nat.beq n.kind 21 then most + 1 else most) ∧ next' = k + 1 := by
  unfold deepP at h
  cases hb : Nat.blt k next
  · rw [hb] at h
    simp only [cond_false] at h
    refine ⟨by rw [← Bool.not_eq_true, Nat.blt_eq] at hb; omega, ?_⟩
    cases hk : ns[k]? with
    | none => rw [hk] at h; cases h
    | some n =>
      rw [hk] at h
      simp only at h
      cases ho : okN n
      · rw [ho] at h; cases h
      · rw [ho] at h
        simp only [cond_true] at h
        cases hp : kidsP ns (deepP ns f) k n 0 n.kids (bif Nat.beq n.kind 4 then 1 else 0) next with
        | none => rw [hp] at h; cases h
        | some p =>
          obtain ⟨most, nx⟩ := p
          rw [hp] at h
          simp only at h
          cases hq : Nat.beq nx k && Nat.ble most 1000
          · rw [hq] at h; cases h
          · rw [hq] at h
            simp only [Bool.and_eq_true] at hq
            obtain rfl := Nat.eq_of_beq_eq_true hq.1
            simp only [cond_true, Option.some.injEq, Prod.mk.injEq] at h
            exact ⟨n, most, rfl, ho, hp, Nat.le_of_ble_eq_true hq.2, h.1.symm, h.2.symm⟩
  · rw [hb] at h
    cases h

end Go.Proofs.YtgplgmjnhkhbjaaGreatDoor
