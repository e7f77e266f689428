/-
  Plain facts on a command's words: words with blanks between them are the same command. No program in sight.
-/
import Derived.Test.YtjjinpohebcicaaDoorJB
import Derived.Test.YtjjinpohebcicaaDoorPur
set_option linter.unusedVariables false
set_option linter.unusedSimpArgs false
namespace Go.Proofs.YtjjinpohebcicaaDoor
namespace Ln

theorem at_split {s : ByteArray} {pre suf : List UInt8} {c : UInt8} (h : s.data.toList = pre ++ c :: suf) : ∃ hh : pre.length < s.size, s[pre.length]'hh = c := by
  have hl : s.data.toList.length = s.size := by simp
  have hh : pre.length < s.size := by rw [← hl, h]; simp
  refine ⟨hh, ?_⟩
  rw [ByteArray.getElem_eq_getElem_data, ← Array.getElem_toList]
  simp [h]
theorem size_split {s : ByteArray} {l : List UInt8} (h : s.data.toList = l) : s.size = l.length := by
  rw [← h]; simp

theorem skipB_split {s : ByteArray} {c : UInt8} {suf : List UInt8} (hc : blk c = false) : ∀ (bl pre : List UInt8), s.data.toList = pre ++ (bl ++ c :: suf) → (∀ x ∈ bl, blk x = true) → skipB s pre.length = pre.length + bl.length := by
  intro bl
  induction bl with
  | nil =>
    intro pre h _
    obtain ⟨hh, e⟩ := at_split (by simpa using h)
    rw [skipB, dif_pos hh, e, hc]; simp
  | cons b bl ih =>
    intro pre h hb
    obtain ⟨hh, e⟩ := at_split (s := s) (pre := pre) (c := b) (suf := bl ++ c :: suf) (by simpa using h)
    rw [skipB, dif_pos hh, e, hb b (by simp), if_pos rfl]
    have := ih (pre ++ [b]) (by simpa using h) (fun x hx => hb x (by simp [hx]))
    rw [List.length_append, List.length_singleton] at this
    rw [this, List.length_cons]; omega
theorem skipB_fin {s : ByteArray} : ∀ (bl pre : List UInt8), s.data.toList = pre ++ bl → (∀ x ∈ bl, blk x = true) → ¬ skipB s pre.length < s.size := by
  intro bl
  induction bl with
  | nil =>
    intro pre h _
    have hs : s.size = pre.length := by rw [size_split h]; simp
    rw [skipB, dif_neg (by omega)]; omega
  | cons b bl ih =>
    intro pre h hb
    obtain ⟨hh, e⟩ := at_split (s := s) (pre := pre) (c := b) (suf := bl) h
    rw [skipB, dif_pos hh, e, hb b (by simp), if_pos rfl]
    have := ih (pre ++ [b]) (by simpa using h) (fun x hx => hb x (by simp [hx]))
    rwa [List.length_append, List.length_singleton] at this

/-- nothing, or a blank first -/
def Stops : List UInt8 → Prop
  | [] => True
  | c :: _ => blk c = true

theorem endW_split {s : ByteArray} {suf : List UInt8} (hs : Stops suf) : ∀ (w pre : List UInt8), s.data.toList = pre ++ (w ++ suf) → (∀ x ∈ w, blk x = false) → endW s pre.length = pre.length + w.length := by
  intro w
  induction w with
  | nil =>
    intro pre h _
    cases suf with
    | nil =>
      have hz : s.size = pre.length := by rw [size_split h]; simp
      rw [endW, dif_neg (by omega)]; simp
    | cons c suf =>
      obtain ⟨hh, e⟩ := at_split (s := s) (pre := pre) (c := c) (suf := suf) (by simpa using h)
      rw [endW, dif_pos hh, e, if_pos (show blk c = true from hs)]; simp
  | cons b w ih =>
    intro pre h hb
    obtain ⟨hh, e⟩ := at_split (s := s) (pre := pre) (c := b) (suf := w ++ suf) (by simpa using h)
    rw [endW, dif_pos hh, e, hb b (by simp), if_neg (by simp)]
    have := ih (pre ++ [b]) (by simpa using h) (fun x hx => hb x (by simp [hx]))
    rw [List.length_append, List.length_singleton] at this
    rw [this, List.length_cons]; omega

/-- what may stand between two quotes -/
inductive Clo : List UInt8 → Prop
  | nil : Clo []
  | one {c : UInt8} {r : List UInt8} : c ≠ 34 → c ≠ 92 → Clo r → Clo (c :: r)
  | two {d : UInt8} {r : List UInt8} : Clo r → Clo (92 :: d :: r)

theorem endQ_split {s : ByteArray} {suf m : List UInt8} (hm : Clo m) : ∀ (pre : List UInt8), s.data.toList = pre ++ (m ++ 34 :: suf) → endQ s pre.length = pre.length + m.length := by
  induction hm with
  | nil =>
    intro pre h
    obtain ⟨hh, e⟩ := at_split (s := s) (pre := pre) (c := 34) (suf := suf) (by simpa using h)
    rw [endQ, dif_pos hh, if_pos e]; simp
  | @one c r h1 h2 _ ih =>
    intro pre h
    obtain ⟨hh, e⟩ := at_split (s := s) (pre := pre) (c := c) (suf := r ++ 34 :: suf) (by simpa using h)
    rw [endQ, dif_pos hh, e, if_neg h1, if_neg h2]
    have := ih (pre ++ [c]) (by simpa using h)
    rw [List.length_append, List.length_singleton] at this
    rw [this, List.length_cons]; omega
  | @two d r _ ih =>
    intro pre h
    obtain ⟨hh, e⟩ := at_split (s := s) (pre := pre) (c := 92) (suf := d :: (r ++ 34 :: suf)) (by simpa using h)
    rw [endQ, dif_pos hh, e, if_neg (by decide), if_pos rfl]
    have := ih (pre ++ [92, d]) (by simpa using h)
    rw [List.length_append] at this
    simp only [List.length_cons, List.length_nil] at this ⊢
    rw [show pre.length + 2 = pre.length + (0 + 1 + 1) from rfl, this]; omega

theorem hexU_no (a : UInt8) (h : hexU a ≠ 16) : a ≠ 34 ∧ a ≠ 92 := by
  constructor <;> (rintro rfl; exact h (by decide))
theorem okByte_no {c : UInt8} (h : okByte c = true) : c ≠ 34 := by
  rintro rfl; revert h; decide
theorem clo_x {a b : UInt8} {r : List UInt8} (hx : ¬(hexU a = 16 ∨ hexU b = 16)) (h : Clo r) : Clo (92 :: 120 :: a :: b :: r) :=
  .two (.one (hexU_no _ fun h => hx (Or.inl h)).1 (hexU_no _ fun h => hx (Or.inl h)).2 (.one (hexU_no _ fun h => hx (Or.inr h)).1 (hexU_no _ fun h => hx (Or.inr h)).2 h))
theorem unq_clo (l : List UInt8) : ∀ t, unq l = some t → Clo l := by
  fun_induction unq l <;> intro t ht
  all_goals first
    | exact .nil
    | (cases ht; done)
    | (rename_i ih
       obtain ⟨u, hu, rfl⟩ := Option.map_eq_some_iff.1 ht
       have := ih u hu
       subst_vars
       first
         | exact .two this
         | exact clo_x (by assumption) this
         | exact .one (okByte_no (by assumption)) (by assumption) this)

/-- a whole word -/
def Wd (w : List UInt8) : Prop := (w ≠ [] ∧ (∀ c ∈ w, blk c = false) ∧ w.head? ≠ some 34) ∨ ∃ m, w = 34 :: (m ++ [34]) ∧ Clo m

theorem Wd.ne {w : List UInt8} (h : Wd w) : w ≠ [] := by
  rcases h with ⟨h, _⟩ | ⟨m, rfl, _⟩
  · exact h
  · simp
theorem next_split {s : ByteArray} {pre bl w suf : List UInt8} (hw : Wd w) (hs : Stops suf) (hb : ∀ x ∈ bl, blk x = true) (h : s.data.toList = pre ++ (bl ++ (w ++ suf))) :
    skipB s pre.length < s.size ∧ nextW s pre.length = (pre.length + bl.length, pre.length + bl.length + w.length, true) := by
  obtain ⟨c, w', rfl⟩ : ∃ c w', w = c :: w' := by
    cases w with
    | nil => exact absurd rfl hw.ne
    | cons c w' => exact ⟨c, w', rfl⟩
  have hcb : blk c = false := by
    rcases hw with ⟨_, h1, _⟩ | ⟨m, e, _⟩
    · exact h1 c (by simp)
    · simp only [List.cons.injEq] at e; rw [e.1]; decide
  have hsk := skipB_split (s := s) hcb bl pre (by simpa using h) hb
  obtain ⟨hh, e⟩ := at_split (s := s) (pre := pre ++ bl) (c := c) (suf := w' ++ suf) (by simpa using h)
  have hlen : (pre ++ bl).length = pre.length + bl.length := by simp
  have hlt : skipB s pre.length < s.size := by rw [hsk, ← hlen]; exact hh
  refine ⟨hlt, ?_⟩
  have hat : s[skipB s pre.length]'hlt = c := by
    have : ∀ (i j : Nat) (hi : i < s.size) (hj : j < s.size), i = j → s[i]'hi = s[j]'hj := by rintro i j hi hj rfl; rfl
    rw [← e]; exact this _ _ _ _ (by rw [hsk, hlen])
  unfold nextW
  simp only [dif_pos hlt, hat]
  rcases hw with ⟨_, h1, h2⟩ | ⟨m, em, hm⟩
  · rw [if_neg (by intro hc; apply h2; simp [hc]), hsk, ← hlen]
    rw [endW_split hs (c :: w') (pre ++ bl) (by simpa using h) h1]
  · simp only [List.cons.injEq] at em
    obtain ⟨rfl, rfl⟩ := em
    rw [if_pos rfl]
    have hq := endQ_split (s := s) (suf := suf) hm (pre ++ bl ++ [34]) (by simpa using h)
    have hq' : endQ s (skipB s pre.length + 1) = pre.length + bl.length + 1 + m.length := by
      rw [hsk]
      simpa [Nat.add_assoc] using hq
    have hsz : s.size = pre.length + bl.length + 1 + m.length + 1 + suf.length := by
      rw [size_split h]; simp; omega
    rw [dif_pos (by rw [hq']; omega)]
    simp only [hq']
    cases suf with
    | nil =>
      rw [dif_neg (by rw [hsz]; simp)]
      simp [hsk]; omega
    | cons x suf =>
      obtain ⟨hx, ex⟩ := at_split (s := s) (pre := pre ++ bl ++ 34 :: (m ++ [34])) (c := x) (suf := suf) (by simpa using h)
      have hln : (pre ++ bl ++ 34 :: (m ++ [34])).length = pre.length + bl.length + 1 + m.length + 1 := by simp; omega
      have hlt2 : pre.length + bl.length + 1 + m.length + 1 < s.size := by rw [← hln]; exact hx
      have hat2 : s[pre.length + bl.length + 1 + m.length + 1]'hlt2 = x := by
        have : ∀ (i j : Nat) (hi : i < s.size) (hj : j < s.size), i = j → s[i]'hi = s[j]'hj := by rintro i j hi hj rfl; rfl
        rw [← ex]; exact this _ _ _ _ hln.symm
      rw [dif_pos hlt2, hat2, if_pos (show blk x = true from hs)]
      simp [hsk]; omega

theorem words_cons {s : ByteArray} {pre bl w suf : List UInt8} (hw : Wd w) (hs : Stops suf) (hb : ∀ x ∈ bl, blk x = true) (h : s.data.toList = pre ++ (bl ++ (w ++ suf))) :
    wordsF s pre.length = (pre.length + bl.length, pre.length + bl.length + w.length, true) :: wordsF s (pre ++ bl ++ w).length := by
  obtain ⟨h1, h2⟩ := next_split hw hs hb h
  rw [wordsF, dif_pos h1, h2]
  simp only [if_true]
  rw [List.length_append, List.length_append]
theorem words_fin {s : ByteArray} {pre bl : List UInt8} (hb : ∀ x ∈ bl, blk x = true) (h : s.data.toList = pre ++ bl) : wordsF s pre.length = [] := by
  rw [wordsF, dif_neg (skipB_fin bl pre h hb)]
theorem sub_split {s : ByteArray} {pre w suf : List UInt8} (h : s.data.toList = pre ++ (w ++ suf)) : (sub s pre.length (pre.length + w.length)).data.toList = w := by
  unfold sub
  rw [ByteArray.data_extract, Array.toList_extract, List.extract_eq_take_drop, h]
  simp

theorem ba_ext {a b : ByteArray} (h : a.data.toList = b.data.toList) : a = b := by
  cases a; cases b; simp only [ByteArray.mk.injEq]; exact Array.toList_inj.1 h

/-- the words behind a command's first, from the n-th on -/
def Args (k : Nat) : Nat → List ByteArray → Prop
  | n, [] => (formOf k).length ≤ n
  | n, w :: ws => (n < (formOf k).length ∨ k = 3) ∧ fitM w.data.toList (((formOf k).getD n 105).toNat : Int) = true ∧ Args k (n + 1) ws

theorem nameCh_no (c : UInt8) (h : nameCh c = true) : blk c = false ∧ c ≠ 34 := by
  have : ∀ n : Nat, n < 256 → (nameCh (UInt8.ofNat n) = true → blk (UInt8.ofNat n) = false ∧ UInt8.ofNat n ≠ 34) := by decide +kernel
  have := this c.toNat (UInt8.toNat_lt c)
  simp only [UInt8.ofNat_toNat] at this
  exact this h
theorem dig_no (c : UInt8) (h : dig c = true) : blk c = false ∧ c ≠ 34 := by
  have : ∀ n : Nat, n < 256 → (dig (UInt8.ofNat n) = true → blk (UInt8.ofNat n) = false ∧ UInt8.ofNat n ≠ 34) := by decide +kernel
  have := this c.toNat (UInt8.toNat_lt c)
  simp only [UInt8.ofNat_toNat] at this
  exact this h
theorem wd_plain {w : List UInt8} (h0 : w ≠ []) (h : ∀ c ∈ w, blk c = false ∧ c ≠ 34) : Wd w := by
  refine .inl ⟨h0, fun c hc => (h c hc).1, ?_⟩
  cases w with
  | nil => simp
  | cons c w => simp only [List.head?_cons, ne_eq, Option.some.injEq]; exact (h c (by simp)).2
theorem mid_back {l : List UInt8} (h0 : 2 ≤ l.length) (h1 : l.head? = some 34) (h2 : l.getLast? = some 34) : l = 34 :: (mid l ++ [34]) := by
  cases l with
  | nil => simp at h0
  | cons c l =>
    simp only [List.head?_cons, Option.some.injEq] at h1
    subst h1
    have hl : l ≠ [] := by rintro rfl; simp at h0
    rw [List.getLast?_cons] at h2
    have e := List.dropLast_concat_getLast hl
    have hg : l.getLast hl = 34 := by
      rw [List.getLast?_eq_some_getLast hl] at h2; simpa using h2
    rw [hg] at e
    unfold mid
    have hd : l.take (l.length + 1 - 2) = l.dropLast := by rw [List.dropLast_eq_take]; rfl
    simp only [List.drop_one, List.tail_cons, List.length_cons]
    rw [hd, e]
theorem txt_wd {l : List UInt8} (h : (txtM l).2 = true) : Wd l := by
  unfold txtM at h
  split at h
  · simp at h
  · rename_i hc
    split at h
    · rename_i u hu
      simp only [not_or, Decidable.not_not] at hc
      exact .inr ⟨_, mid_back (by omega) hc.2.1 hc.2.2, unq_clo _ _ hu⟩
    · simp at h
theorem num_wd {l : List UInt8} (h : (numM l).2 = true) : Wd l := by
  rw [num_eq] at h
  split at h
  · rename_i hg
    obtain ⟨⟨h1, h2, _⟩, _⟩ := hg
    unfold digL at h1 h2
    split at h1
    · rename_i hn
      rw [if_pos hn] at h2
      cases l with
      | nil => simp at h1
      | cons c l =>
        have hc : c = 45 := by unfold negL at hn; simpa using hn
        subst hc
        refine wd_plain (by simp) fun c hc => ?_
        rcases List.mem_cons.1 hc with rfl | hc
        · decide
        · exact dig_no c (List.all_eq_true.1 h2 c hc)
    · rename_i hn
      rw [if_neg hn] at h2
      exact wd_plain h1 fun c hc => dig_no c (List.all_eq_true.1 h2 c hc)
  · simp at h
theorem fit_wd {l : List UInt8} {c : Int} (h : fitM l c = true) : Wd l := by
  unfold fitM at h
  split at h
  · unfold nameM at h
    simp only [Bool.and_eq_true, bne_iff_ne, ne_eq] at h
    exact wd_plain h.1.2 fun c hc => nameCh_no c (List.all_eq_true.1 h.1.1 c hc)
  · split at h
    · exact txt_wd h
    · exact num_wd h

def flat (b : List UInt8) (ws : List ByteArray) : List UInt8 := ws.flatMap fun w => b ++ w.data.toList
theorem stops_flat {b fin : List UInt8} (hb : ∀ x ∈ b, blk x = true) (hb0 : b ≠ []) (hf : ∀ x ∈ fin, blk x = true) (ws : List ByteArray) : Stops (flat b ws ++ fin) := by
  cases ws with
  | nil =>
    cases fin with
    | nil => exact True.intro
    | cons x f => exact hf x (by simp)
  | cons w ws =>
    cases b with
    | nil => exact absurd rfl hb0
    | cons x b => exact hb x (by simp)

theorem go_good {s : ByteArray} {b fin : List UInt8} {k : Nat} (hb : ∀ x ∈ b, blk x = true) (hb0 : b ≠ []) (hf : ∀ x ∈ fin, blk x = true) :
    ∀ (ws acc : List ByteArray) (pre : List UInt8), s.data.toList = pre ++ (flat b ws ++ fin) → Args k acc.length ws → cmdGo s k (wordsF s pre.length) acc = (k, acc ++ ws, 0, 0) := by
  intro ws
  induction ws with
  | nil =>
    intro acc pre h ha
    rw [words_fin (bl := fin) hf (by simpa [flat] using h)]
    unfold cmdGo
    rw [if_neg (by have : (formOf k).length ≤ acc.length := ha; omega)]; simp
  | cons w ws ih =>
    intro acc pre h ha
    obtain ⟨h1, h2, h3⟩ := ha
    have h' : s.data.toList = pre ++ (b ++ (w.data.toList ++ (flat b ws ++ fin))) := by
      rw [h]; simp [flat]
    rw [words_cons (fit_wd h2) (stops_flat hb hb0 hf ws) hb h']
    have hsub : sub s (pre.length + b.length) (pre.length + b.length + w.data.toList.length) = w := by
      apply ba_ext
      have := sub_split (s := s) (pre := pre ++ b) (w := w.data.toList) (suf := flat b ws ++ fin) (by simpa using h')
      rw [List.length_append] at this
      exact this
    rw [cmdGo, if_pos h1, hsub, if_pos ⟨rfl, h2⟩]
    rw [ih (acc ++ [w]) (pre ++ b ++ w.data.toList) (by simpa using h') (by simpa using h3)]
    simp

def nameOf : Nat → ByteArray
  | 1 => ⟨#[115, 111, 117, 114, 99, 101]⟩
  | 2 => ⟨#[98, 117, 105, 108, 100]⟩
  | 3 => ⟨#[115, 116, 97, 114, 116]⟩
  | 4 => ⟨#[115, 116, 101, 112]⟩
  | 5 => ⟨#[115, 104, 111, 119]⟩
  | 6 => ⟨#[100, 114, 111, 112]⟩
  | _ => ⟨#[]⟩

theorem name_kind {k : Nat} (h1 : 1 ≤ k) (h2 : k ≤ 6) : kindOf (nameOf k).data.toList = k ∧ nameM (nameOf k).data.toList = true := by
  obtain rfl | rfl | rfl | rfl | rfl | rfl : k = 1 ∨ k = 2 ∨ k = 3 ∨ k = 4 ∨ k = 5 ∨ k = 6 := by omega
  all_goals decide +kernel

/-- words with blanks between them are the command -/
theorem cmd_good {s : ByteArray} {b0 b fin : List UInt8} {k : Nat} {ws : List ByteArray} (hk1 : 1 ≤ k) (hk2 : k ≤ 6) (hb00 : ∀ x ∈ b0, blk x = true) (hb : ∀ x ∈ b, blk x = true) (hb0 : b ≠ []) (hf : ∀ x ∈ fin, blk x = true)
    (h : s.data.toList = b0 ++ ((nameOf k).data.toList ++ (flat b ws ++ fin))) (ha : Args k 0 ws) : cmdM s = (k, ws, 0, 0) := by
  obtain ⟨n1, n2⟩ := name_kind hk1 hk2
  have hw : Wd (nameOf k).data.toList := fit_wd (c := 110) (by unfold fitM; rw [if_pos rfl]; exact n2)
  unfold cmdM
  have e := words_cons (pre := []) hw (stops_flat hb hb0 hf ws) hb00 (by simpa using h)
  rw [List.length_nil] at e
  rw [e]
  simp only [Nat.zero_add]
  have hsub : (sub s b0.length (b0.length + (nameOf k).data.toList.length)).data.toList = (nameOf k).data.toList := sub_split h
  rw [hsub, n1, if_pos ⟨trivial, by omega⟩]
  rw [go_good hb hb0 hf ws [] ([] ++ b0 ++ (nameOf k).data.toList) (by simpa using h) ha]
  simp

theorem kind_range (t : List UInt8) : kindOf t ≤ 6 := by
  unfold kindOf
  repeat' split
  all_goals omega

theorem words_at {s : ByteArray} : ∀ (p : Nat) (x : Nat × Nat × Bool), x ∈ wordsF s p → x.1 ≤ s.size := by
  intro p
  fun_induction wordsF s p with
  | case1 p h1 h2 ih =>
    intro x hx
    rcases List.mem_cons.1 hx with rfl | hx
    · rw [next_at]; omega
    · exact ih x hx
  | case2 p h1 h2 =>
    intro x hx
    simp only [List.mem_singleton] at hx
    rw [hx, next_at]; omega
  | case3 p h1 => intro x hx; simp at hx

def tot : List ByteArray → Nat
  | [] => 0
  | w :: ws => w.size + tot ws
/-- the places in their order, each within the line -/
def Ord (z : Nat) : Nat → List (Nat × Nat × Bool) → Prop
  | _, [] => True
  | p, (a, e, _) :: r => p ≤ a ∧ a ≤ e ∧ e ≤ z ∧ Ord z e r
theorem ord_cons {z p : Nat} {x : Nat × Nat × Bool} {r : List (Nat × Nat × Bool)} : Ord z p (x :: r) ↔ p ≤ x.1 ∧ x.1 ≤ x.2.1 ∧ x.2.1 ≤ z ∧ Ord z x.2.1 r := Iff.rfl
theorem words_ord {s : ByteArray} : ∀ (p : Nat), Ord s.size p (wordsF s p) := by
  intro p
  fun_induction wordsF s p with
  | case1 p h1 h2 ih =>
    have h3 := next_end s p h1
    have h4 := skipB_ge s p
    have h5 := next_at s p
    exact ord_cons.2 ⟨by omega, by omega, h3.2, ih⟩
  | case2 p h1 h2 =>
    have h3 := next_end s p h1
    have h4 := skipB_ge s p
    have h5 := next_at s p
    exact ord_cons.2 ⟨by omega, by omega, h3.2, True.intro⟩
  | case3 p h1 => exact True.intro

theorem go_inv {s : ByteArray} {k : Nat} : ∀ (xs : List (Nat × Nat × Bool)) (p : Nat) (acc : List ByteArray), p ≤ s.size → Ord s.size p xs → (∃ q, cmdGo s k xs acc = bad q ∧ q ≤ s.size) ∨ ∃ ws, cmdGo s k xs acc = (k, acc ++ ws, 0, 0) ∧ Args k acc.length ws ∧ tot ws ≤ s.size - p := by
  intro xs
  induction xs with
  | nil =>
    intro p acc hp _
    unfold cmdGo
    split
    · exact .inl ⟨_, rfl, Nat.le_refl _⟩
    · rename_i h
      exact .inr ⟨[], by simp, by show (formOf k).length ≤ acc.length; omega, by simp [tot]⟩
  | cons x xs ih =>
    obtain ⟨a, e, ok⟩ := x
    intro p acc hp ho
    obtain ⟨o1, o2, o3, o4⟩ := ho
    unfold cmdGo
    split
    · rename_i h1
      split
      · rename_i h2
        rcases ih e (acc ++ [sub s a e]) o3 o4 with ⟨q, h, hq⟩ | ⟨ws, h, ha, ht⟩
        · exact .inl ⟨q, h, hq⟩
        · refine .inr ⟨sub s a e :: ws, by rw [h]; simp, ⟨h1, h2.2, by simpa using ha⟩, ?_⟩
          have : (sub s a e).size ≤ e - a := by unfold sub; rw [ByteArray.size_extract]; omega
          simp only [tot]; omega
      · exact .inl ⟨_, rfl, by omega⟩
    · exact .inl ⟨_, rfl, by omega⟩

/-- what the answer to any line can be -/
theorem cmd_inv (s : ByteArray) : (∃ q, cmdM s = bad q ∧ q ≤ s.size) ∨ ∃ k ws, cmdM s = (k, ws, 0, 0) ∧ 1 ≤ k ∧ k ≤ 6 ∧ Args k 0 ws ∧ tot ws ≤ s.size := by
  have ho := words_ord (s := s) 0
  unfold cmdM
  cases hx : wordsF s 0 with
  | nil => exact .inl ⟨0, rfl, Nat.zero_le _⟩
  | cons x r =>
    obtain ⟨a, e, ok⟩ := x
    rw [hx] at ho
    obtain ⟨o1, o2, o3, o4⟩ := ho
    simp only
    split
    · rename_i h
      have hr := kind_range (sub s a e).data.toList
      generalize kindOf (sub s a e).data.toList = k at *
      rcases go_inv (k := k) r e [] o3 o4 with ⟨q, h1, hq⟩ | ⟨ws, h1, ha, ht⟩
      · exact .inl ⟨q, h1, hq⟩
      · exact .inr ⟨k, ws, by rw [h1]; simp, by omega, hr, ha, by omega⟩
    · exact .inl ⟨a, rfl, by omega⟩

theorem args_count {k : Nat} : ∀ (ws : List ByteArray) (n : Nat), Args k n ws → ws.length ≤ tot ws := by
  intro ws
  induction ws with
  | nil => intro n _; simp
  | cons w ws ih =>
    intro n h
    have h1 := ih _ h.2.2
    have h2 : w.data.toList ≠ [] := (fit_wd h.2.1).ne
    have h3 : w.size ≠ 0 := by
      intro h0; apply h2
      have : w.data.toList.length = 0 := by rw [Array.length_toList]; exact h0
      exact List.eq_nil_of_length_eq_zero this
    simp only [tot, List.length_cons]; omega
end Ln
end Go.Proofs.YtjjinpohebcicaaDoor
