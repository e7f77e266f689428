/-
  What an argument reads as, told as rows of a kind.
-/
import Derived.Test.YtadkgnfidiilnaaGreatDoorLaw
import Derived.OpenShut
import Derived.ChangeArms
import Derived.WideShapes
set_option linter.unusedVariables false
namespace Go.Proofs.YtadkgnfidiilnaaGreatDoor
open Go.WideShapes Go.RowKit Go.Proofs.YtadkgnfidiilnaaGreatDoorW.PrintWords PSame

/-- Cells of a type that can be read are of a kind. -/
def Opens {α : Type} (P : Program) (t : TypeId) (k : Kd α) : Prop :=
  P.cellsOf t = k.sz ∧ ∀ {H : Type} {enc : TypeId × Value → H} {W : World} {base : Nat} {sp : Nat → Bool} {held : Bool} {m : Nat} {cs : List Value} {x : DataW H × List MemPlace}, DataW.trod enc P W base sp held m t cs = some x → ∃ y, k.K W y cs

section
variable {P : Program} {t e : TypeId} {α β : Type}

theorem opens_int {k : IntKind} (ht : P.underlying t = some (.int k)) (hc : P.cellsOf t = 1) : Opens P t (Kd.int k) := by
  refine ⟨hc, fun {H enc W base sp held m cs x} h => ?_⟩
  cases m with
  | zero => simp [DataW.trod] at h
  | succ m =>
    unfold DataW.trod at h
    rw [ht] at h
    split at h <;> simp_all
    exact ⟨_, rfl⟩

theorem opens_string (ht : P.underlying t = some .string) (hc : P.cellsOf t = 1) : Opens P t Kd.string := by
  refine ⟨hc, fun {H enc W base sp held m cs x} h => ?_⟩
  cases m with
  | zero => simp [DataW.trod] at h
  | succ m =>
    unfold DataW.trod at h
    rw [ht] at h
    split at h <;> simp_all
    exact ⟨_, rfl⟩

theorem choose_list {α : Type} {p : Nat → α → Prop} : ∀ n : Nat, (∀ i, i < n → ∃ y, p i y) → ∃ l : List α, l.length = n ∧ ∀ (i : Nat) (y : α), l[i]? = some y → p i y := by
  intro n
  induction n with
  | zero => intro _; exact ⟨[], rfl, fun i y h => by simp at h⟩
  | succ n ih =>
    intro h
    obtain ⟨l, h1, h2⟩ := ih fun i hi => h i (by omega)
    obtain ⟨y, hy⟩ := h n (by omega)
    refine ⟨l ++ [y], by simp [h1], fun i z hz => ?_⟩
    rcases Nat.lt_or_ge i l.length with hi | hi
    · rw [List.getElem?_append_left hi] at hz
      exact h2 i z hz
    · rw [List.getElem?_append_right hi] at hz
      have : i - l.length = 0 := by
        rcases Nat.eq_zero_or_pos (i - l.length) with h | h
        · exact h
        · rw [List.getElem?_eq_none (by simp; omega)] at hz; cases hz
      rw [this] at hz
      simp only [List.getElem?_cons_zero, Option.some.injEq] at hz
      subst hz
      obtain rfl : i = n := by omega
      exact hy

theorem cells_get {w : World} {base : Nat} {a : Addr} {n : Nat} {l : List Value} (h : w.cells? base a n = some l) : l.length = n ∧ ∀ (i : Nat) (u : Value), l[i]? = some u → w.cell? (a.add i) = some u := by
  obtain ⟨_, h1, h2⟩ := World.cells?_some h
  refine ⟨h1, fun i u hu => ?_⟩
  have hi : i < n := by rw [← h1]; exact (List.getElem?_eq_some_iff.1 hu).1
  rw [← hu]
  exact h2 i hi

theorem add_add (a : Addr) (i j : Nat) : (a.add i).add j = a.add (i + j) := by
  unfold Addr.add
  by_cases h1 : i = 0 <;> by_cases h2 : j = 0 <;> simp [h1, h2] <;> omega

theorem opens_slice {k : Kd α} (ht : P.underlying t = some (.slice e)) (hc : P.cellsOf t = 1) (he : Opens P e k) : Opens P t (Kd.slice e k) := by
  refine ⟨hc, fun {H enc W base sp held m cs x} h => ?_⟩
  rcases DataW.trod_slice ht h with ⟨rfl, _⟩ | ⟨a, len, cap, elems, rest, n, _, rfl, _, hb, h1, h2, h3, hel, _⟩
  · exact ⟨[], none, 0, rfl, Nat.le_refl _, rfl, Nat.zero_le _, fun h => absurd h (Nat.lt_irrefl 0)⟩
  · have key : ∀ i, i < len → ∃ y, ∃ c, c.length = k.sz ∧ k.K W y c ∧ ∀ j u, c[j]? = some u → W.cell? (a.add (i * k.sz + j)) = some u := by
      intro i hi
      have := hel i hi
      rw [List.getElem?_eq_getElem (by omega : i < elems.length)] at this
      rw [Option.bind_eq_some_iff] at this
      obtain ⟨c, hcs, htr⟩ := this
      rw [he.1] at hcs
      obtain ⟨y, hy⟩ := he.2 htr
      obtain ⟨g1, g2⟩ := cells_get hcs
      exact ⟨y, c, g1, hy, fun j u hu => by rw [← add_add]; exact g2 j u hu⟩
    obtain ⟨l, hl, hp⟩ := choose_list len key
    refine ⟨l, some a, cap, by rw [hl], by omega, rfl, ?_, fun _ => ⟨a, rfl, hp⟩⟩
    unfold maxLen at h2
    omega

/-- Fields that lie side by side. -/
structure OpensF (P : Program) (fs : List Field) (off : Nat) (k : Kd α) : Prop where
  get : ∀ {H : Type} {enc : TypeId × Value → H} {W : World} {base : Nat} {sp : Nat → Bool} {held : Bool} {m : Nat} {cs : List Value}, cs.length = off + k.sz →
    (∀ (i : Nat) (f : Field), fs[i]? = some f → ∃ x, DataW.trod enc P W base sp held m f.type ((cs.drop f.offset).take (P.cellsOf f.type)) = some x) → ∃ y, k.K W y (cs.drop off)

theorem opensF_one {f : Field} {off : Nat} {k : Kd α} (ho : f.offset = off) (h : Opens P f.type k) : OpensF P [f] off k := by
  refine ⟨fun {H enc W base sp held m cs} hl hx => ?_⟩
  obtain ⟨x, hx⟩ := hx 0 f rfl
  rw [ho, h.1, List.take_of_length_le (by simp; omega)] at hx
  exact h.2 hx

theorem opensF_cons {f : Field} {fs : List Field} {off : Nat} {k : Kd α} {k' : Kd β} (ho : f.offset = off) (h : Opens P f.type k) (h' : OpensF P fs (off + k.sz) k') : OpensF P (f :: fs) off (Kd.pair k k') := by
  refine ⟨fun {H enc W base sp held m cs} hl hx => ?_⟩
  obtain ⟨x, hx0⟩ := hx 0 f rfl
  rw [ho, h.1] at hx0
  obtain ⟨y, hy⟩ := h.2 hx0
  have hs : (Kd.pair k k').sz = k.sz + k'.sz := rfl
  obtain ⟨z, hz⟩ := h'.get (cs := cs) (by rw [hl, hs]; omega) fun i f hf => hx (i + 1) f (by simpa using hf)
  exact ⟨(y, z), (cs.drop off).take k.sz, cs.drop (off + k.sz), by rw [← List.drop_drop, List.take_append_drop], hy, hz⟩

theorem opens_struct {fs : Array Field} {k : Kd α} {f : β → α} {g : α → β} (hg : ∀ a, f (g a) = a) (ht : P.underlying t = some (.struct fs)) (hc : P.cellsOf t = k.sz) (h : OpensF P fs.toList 0 k) : Opens P t (Kd.iso k f) := by
  refine ⟨hc, fun {H enc W base sp held m cs x} hx => ?_⟩
  obtain ⟨xs, n, _, _, hl, hsz, hel⟩ := DataW.trod_struct ht hx
  obtain ⟨y, hy⟩ := h.get (cs := cs) (m := n) (enc := enc) (W := W) (base := base) (sp := sp) (held := held) (by rw [hl, hc]; omega) fun i fd hf => by
    have hf : fs[i]? = some fd := by simpa using hf
    have := hel i fd hf
    have hi : i < xs.length := by rw [hsz]; exact (Array.getElem?_eq_some_iff.1 hf).1
    rw [List.getElem?_eq_getElem hi] at this
    exact ⟨_, this⟩
  rw [List.drop_zero] at hy
  exact ⟨g y, by show k.K W (f (g y)) cs; rw [hg]; exact hy⟩
end

theorem o3 : Opens Tryz.prog 3 (Kd.int .i64) := opens_int Tryz.underlying3 (by kernel_rfl)
theorem o9 : Opens Tryz.prog 9 Kd.string := opens_string Tryz.underlying9 (by kernel_rfl)
theorem o30 : Opens Tryz.prog 30 (Kd.int .u8) := opens_int Tryz.underlying30 (by kernel_rfl)
theorem o31 : Opens Tryz.prog 31 (Kd.int .u8) := opens_int Tryz.underlying31 (by kernel_rfl)
theorem o32 : Opens Tryz.prog 32 (Kd.int .u8) := opens_int Tryz.underlying32 (by kernel_rfl)
theorem o33 : Opens Tryz.prog 33 (Kd.int .u64) := opens_int Tryz.underlying33 (by kernel_rfl)
theorem o34 : Opens Tryz.prog 34 (Kd.slice 3 (Kd.int .i64)) := opens_slice Tryz.underlying34 (by kernel_rfl) o3
set_option maxRecDepth 100000
theorem o41 : Opens Tryz.prog 41 k41 := opens_struct (g := fun a => ⟨a.1, a.2.1, a.2.2⟩) (fun _ => rfl) Tryz.underlying41 (by kernel_rfl) (opensF_cons rfl o9 (opensF_cons rfl o3 (opensF_one rfl o31)))
theorem o37 : Opens Tryz.prog 37 (Kd.slice 41 k41) := opens_slice Tryz.underlying37 (by kernel_rfl) o41
theorem o36 : Opens Tryz.prog 36 k36 := opens_struct (g := fun a => ⟨a.1, a.2.1, a.2.2.1, a.2.2.2.1, a.2.2.2.2.1, a.2.2.2.2.2.1, a.2.2.2.2.2.2.1, a.2.2.2.2.2.2.2⟩) (fun _ => rfl) Tryz.underlying36 (by kernel_rfl)
  (opensF_cons rfl o30 (opensF_cons rfl o3 (opensF_cons rfl o9 (opensF_cons rfl o31 (opensF_cons rfl o32 (opensF_cons rfl o33 (opensF_cons rfl o3 (opensF_one rfl o34))))))))
theorem o39 : Opens Tryz.prog 39 k39 := opens_struct (g := fun a => ⟨a.1, a.2.1, a.2.2.1, a.2.2.2.1, a.2.2.2.2⟩) (fun _ => rfl) Tryz.underlying39 (by kernel_rfl)
  (opensF_cons rfl o9 (opensF_cons rfl o3 (opensF_cons rfl o37 (opensF_cons rfl o31 (opensF_one rfl o3)))))
theorem o22 : Opens Tryz.prog 22 (Kd.slice 36 k36) := opens_slice Tryz.underlying22 (by kernel_rfl) o36
theorem o23 : Opens Tryz.prog 23 (Kd.slice 39 k39) := opens_slice Tryz.underlying23 (by kernel_rfl) o39
theorem o25 : Opens Tryz.prog 25 (Kd.iso (Kd.pair (Kd.slice 36 k36) (Kd.slice 39 k39)) id) := opens_struct (g := id) (fun _ => rfl) Tryz.underlying25 (by kernel_rfl) (opensF_cons rfl o22 (opensF_one rfl o23))

/-- A tree that is handed in. -/
theorem open_tree {H : Type} {enc : TypeId × Value → H} {W : World} {base : Nat} {sp : Nat → Bool} {held : Bool} {r : Reach} {b : Nat} {v : Value} {d : DataW H} {p : List MemPlace} (hv : Value.okWide Tryz.prog W r b 25 v) (h : DataW.Trod enc Tryz.prog W base sp held 25 v d p) :
    ∃ (n : List S36) (f : List S39) (A B : Option Addr) (c c' : Nat), v = .agg #[.slice A n.length c, .slice B f.length c'] ∧ n.length ≤ c ∧ f.length ≤ c' ∧ Kd.C k36 W A n.length n ∧ Kd.C k39 W B f.length f := by
  obtain ⟨cs, rfl, _⟩ := okWide_struct Tryz.underlying25 hv
  obtain ⟨m, hm⟩ := h
  obtain ⟨y, c0, c1, hcs, ⟨A, c, rfl, hl, hA⟩, ⟨B, c', rfl, hl', hB⟩⟩ := o25.2 hm
  refine ⟨y.1, y.2, A, B, c, c', ?_, hl, hl', hA, hB⟩
  have : cs.toList = [.slice A y.1.length c, .slice B y.2.length c'] := hcs
  have h2 : cs = #[.slice A y.1.length c, .slice B y.2.length c'] := Array.toList_inj.1 this
  rw [h2]
end Go.Proofs.YtadkgnfidiilnaaGreatDoor
