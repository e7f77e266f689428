/-
  A closed run reckoned: the memory as numbered rows, the operations on it, that it is right, and its fast form (part Cb).
-/
import Derived.Test.YtgplgmjnhkhbjaaGreatDoorCa
set_option linter.unusedVariables false
set_option linter.unusedSimpArgs false
namespace Ce
open Go

/-- What a call leaves. -/
def CPost (ρ : Ren) (H : Hp) (w : World) (v : Value) (H' : Hp) (c c' : Nat) (e : Ending) (w' : World) : Prop :=
  ∃ cv ρ', e = .returned cv ∧ VR ρ' v cv ∧ Rel ρ' H' w' ∧ Fr ρ H w ρ' H' w' c c'

/-- The calls of a table are right. -/
def CallOK (E : Env) (R : CallR) : Prop := ∀ f args H c v H' c', R f args H c = some (v, H', c') →
  (∃ fn, E.F f = some fn ∧ fn.body.isNone = false) ∧ ∀ (ρ : Ren) (w : World) (cargs : Array Value), GR E ρ → Top H c → Rel ρ H w → VL ρ args cargs.toList → (∀ r, c ≤ r → r < c' → ρ r = none) → Calls E.P f cargs w (CPost ρ H w v H' c c')

/-- The table is the program's. -/
structure EnvOK (E : Env) : Prop where
  fn : ∀ f fn, E.F f = some fn → E.P.funcs[f]? = some fn ∧ (fn.name == "runtime.NumGoroutine") = false
  mixed : E.P.follows .mixedOrders = true
  ext : ∀ f s, E.X f = some s → ∃ fn, E.P.funcs[f]? = some fn ∧ (fn.name == "runtime.NumGoroutine") = false ∧ fn.body.isNone = true ∧ Extern.findNext fn = none ∧ Extern.find fn = some s
  prim : ∀ f p, E.M f = some p → (∃ fn, E.F f = some fn ∧ fn.body.isNone = false) ∧ ∀ args H c v H' c', p args H c = some (v, H', c') →
    ∀ (ρ : Ren) (w : World) (cargs : Array Value), GR E ρ → Top H c → Rel ρ H w → VL ρ args cargs.toList → (∀ r, c ≤ r → r < c' → ρ r = none) → Calls E.P f cargs w (CPost ρ H w v H' c c')

/-- An operation in place. -/
def OpRuns (E : Env) (o : Oper) (a : Act) (ρ : Ren) (w : World) (H : Hp) (c : Nat) (v : Value) (H' : Hp) (c' : Nat) : Prop :=
  ∀ (K : Act → World → Prop) (Q : Exit → Act → World → Prop), (∀ cv w' ρ', VR ρ' v cv → Rel ρ' H' w' → Fr ρ H w ρ' H' w' c c' → K (a.put o.dst cv) w') → o.wp E.P a w K Q

section
variable {E : Env} {R : CallR} {o : Oper} {tm : Tr Value} {H H' : Hp} {c c' : Nat} {v : Value} {ρ : Ren} {a : Act} {w : World}

theorem Does.runs (h : Does E o a ρ w H c v H' c') : OpRuns E o a ρ w H c v H' c' := by
  obtain ⟨nx, w', ρ', hrun, hv, h1, h2⟩ := h
  intro K Q hK
  unfold Oper.wp
  rw [hrun]
  rcases hv with ⟨cv, rfl, hV⟩ | ⟨rfl, rfl⟩
  · exact hK cv w' ρ' hV h1 h2
  · exact hK undef w' ρ' VR.undef h1 h2

theorem VL.of_arr {as bs : Array Value} (h1 : as.size = bs.size) (h2 : ∀ (i : Nat) (x y : Value), as[i]? = some x → bs[i]? = some y → VR ρ x y) : VL ρ as.toList bs.toList :=
  ⟨by simpa using h1, fun i x y hx hy => h2 i x y (by simpa using hx) (by simpa using hy)⟩

theorem target_sound {k : Call} (ho : o.op = .call k) {f : FuncId} {args : List Value} (h : target E tm k = some (f, args)) (hT : OT E ρ tm a o.op.operands.toList) (w : World) :
    ∃ cargs, (execOp a.eval o).run E.P w = (callFunc f cargs).run E.P w ∧ VL ρ args cargs.toList := by
  rw [ho] at hT
  unfold target at h
  split at h
  · rename_i g hg
    split at h
    · rename_i f' first captured as e1 e2
      simp only [Option.some.injEq, Prod.mk.injEq] at h
      obtain ⟨rfl, rfl⟩ := h
      obtain ⟨bs, ds, ev, h1, h2, h3, h4⟩ := (opd_sound hT e1 (by simp [Op.operands, Call.operands, hg])).inv_func
      have hA := opds_sound (a := a) hT e2 (by intro x hx; simp only [Op.operands, Call.operands, hg]; simp; right; simpa using hx)
      refine ⟨(bs ++ k.args.map a.eval) ++ ds, ?_, ?_⟩
      · simp only [execOp, ho, resolve, hg, Sem.run_bind, ev, Deferred.ofValue, Sem.run_pure, Result.andThen_ok, invoke]
      · simp only [Array.toList_append, Array.toList_map]
        exact ((VL.of_arr h1 h2).append hA).append (VL.of_arr h3 h4)
    · cases h
  · cases h

theorem any_sound (hE : EnvOK E) (hC : CallOK E R) (h : evAny E R o tm H c = some (v, H', c')) (hG : GR E ρ) (hTop : Top H c) (hT : OT E ρ tm a o.op.operands.toList) (hR : Rel ρ H w) (hfresh : ∀ r, c ≤ r → r < c' → ρ r = none) : OpRuns E o a ρ w H c v H' c' := by
  by_cases hcall : ∃ k f, o.op = .call k ∧ k.callee = .value f
  · obtain ⟨k, f, ho, hk⟩ := hcall
    simp only [evAny, ho, hk] at h
    split at h
    · rename_i g args ht
      obtain ⟨cargs, hrun, hV⟩ := target_sound ho ht hT w
      unfold callX at h
      cases hx : E.X g with
      | some s =>
        rw [hx] at h
        simp only at h
        obtain ⟨fn, hfn, hname, hb, hn, he⟩ := hE.ext g s hx
        unfold evFlat at h
        split at h
        · rename_i hfl
          have hcs : cargs = args.toArray := by
            have := hV.of_flat 3 hfl
            rw [← this]
          split at h
          · rename_i u hu
            split at h
            · rename_i hfu
              simp only [Option.some.injEq, Prod.mk.injEq] at h
              obtain ⟨rfl, rfl, rfl⟩ := h
              have hr : (execOp a.eval o).run E.P w = .ok (.value u) w := by
                rw [hrun, Go.run_callFunc_extern hfn hname hb hn he, hcs, pureRun_run hu]; rfl
              intro K Q hK
              unfold Oper.wp
              rw [hr]
              exact hK u w ρ (.flat 3 hfu) hR (Fr.refl ..)
            · cases h
          · cases h
        · cases h
      | none =>
      rw [hx] at h
      simp only at h
      obtain ⟨⟨fn, hf, hb⟩, hcalls⟩ := hC _ _ _ _ _ _ _ h
      obtain ⟨hfn, hname⟩ := hE.fn g fn hf
      have hrun : (execOp a.eval o).run E.P w = .ok (.enter g cargs) w := by
        rw [hrun]
        simp only [callFunc, Sem.run_bind, run_program, Result.andThen_ok, hfn, hname, hb]
        rfl
      intro K Q hK
      unfold Oper.wp
      rw [hrun]
      rw [Oper.upon_enter]
      refine (hcalls ρ w cargs hG hTop hR hV hfresh).mono ?_
      rintro e w' ⟨cv, ρ', rfl, h1, h2, h3⟩
      exact hK cv w' ρ' h1 h2 h3
    · cases h
  · have hnv : ∀ k f, o.op = .call k → k.callee ≠ .value f := fun k f h1 h2 => hcall ⟨k, f, h1, h2⟩
    have : evOp E o tm H c = some (v, H', c') := by
      unfold evAny at h
      split at h
      · rename_i k hk
        split at h
        · rename_i f hf; exact absurd hf (hnv k f hk)
        · exact h
      · exact h
    exact (does_sound hnv this hT hR hfresh).runs

/-- A guard. -/
theorem goes_sound {ops : Array Oper} {d : Bool} (h : goes ops tm o = some d) (hg : ∀ j want t u, o.guard = some (j, want) → (ops[j]?).bind (·.dst) = some t → tm.get t = some u → ∃ cv, a.tmps[t]? = some cv ∧ VR ρ u cv) :
    Region.wanted o (yielded ops a.tmps) = d := by
  unfold goes at h
  unfold Region.wanted
  cases hgd : o.guard with
  | none => simp only [hgd, Option.some.injEq] at h ⊢; exact h
  | some jw =>
    obtain ⟨j, want⟩ := jw
    simp only [hgd] at h ⊢
    split at h
    · rename_i t ht
      split at h
      · rename_i b hb
        obtain ⟨cv, h1, h2⟩ := hg j want t _ hgd ht hb
        have := h2.inv_bool; subst this
        simp only [Option.some.injEq] at h
        have : yielded ops a.tmps j = some b := by simp [yielded, ht, h1]
        rw [this, ← h]; cases b <;> cases want <;> rfl
      · rename_i vs hb
        obtain ⟨cv, h1, h2⟩ := hg j want t _ hgd ht hb
        simp only [Bool.cond_eq_ite, Nat.beq_eq] at h
        split at h
        case isFalse => cases h
        rename_i hvs
        obtain rfl : vs = #[] := Array.eq_empty_of_size_eq_zero hvs
        have := h2.of_flat 1 rfl; subst this
        simp only [Option.some.injEq] at h
        have : yielded ops a.tmps j = none := by simp [yielded, ht, h1]
        rw [this, ← h]; cases want <;> rfl
      · cases h
    · cases h

theorem evOps_mono {ops : Array Oper} : ∀ (l : List Oper) (i : Nat) (tm : Tr Value) (H : Hp) (c : Nat) (rs : List Rec) {tm' : Tr Value} {H' : Hp} {c' : Nat} {rs' : List Rec}, evOps E R ops l i tm H c rs = some (tm', H', c', rs') → c ≤ c' := by
  intro l
  induction l with
  | nil => intro i tm H c rs tm' H' c' rs' h; simp only [evOps, Option.some.injEq, Prod.mk.injEq] at h; omega
  | cons o l ih =>
    intro i tm H c rs tm' H' c' rs' h
    simp only [evOps] at h
    split at h
    · split at h
      · rename_i v H1 c1 _
        split at h
        · rename_i tm1 _ hle
          have := ih _ _ _ _ _ h
          have := Nat.le_of_ble_eq_true hle
          omega
        · cases h
      · cases h
    · split at h
      · exact ih _ _ _ _ _ h
      · cases h
    · cases h

/-- Operations one behind the other. -/
theorem seq_sound (hE : EnvOK E) (hC : CallOK E R) {ops : Array Oper} {Q : Exit → Act → World → Prop} : ∀ (l : List Oper) (i : Nat), (∀ j, ops[i + j]? = l[j]?) → ∀ (tm : Tr Value) (H : Hp) (c : Nat) (rs : List Rec) {tm' : Tr Value} {H' : Hp} {c' : Nat} {rs' : List Rec},
    evOps E R ops l i tm H c rs = some (tm', H', c', rs') → ∀ (ρ : Ren) (a : Act) (w : World), GR E ρ → Top H c → TR ρ tm a.tmps → Rel ρ H w → (∀ r, c ≤ r → r < c' → ρ r = none) →
    (∀ tmps w' ρ', TR ρ' tm' tmps → Rel ρ' H' w' → Fr ρ H w ρ' H' w' c c' → Q .normal ⟨tmps, a.defers⟩ w') → wpOps E.P ops Q (List.range' i l.length) a w := by
  intro l
  induction l with
  | nil =>
    intro i _ tm H c rs tm' H' c' rs' h ρ a w hG hTop hT hR hf hQ
    simp only [evOps, Option.some.injEq, Prod.mk.injEq] at h
    obtain ⟨rfl, rfl, rfl, _⟩ := h
    exact hQ a.tmps w ρ hT hR (Fr.refl _ _ _ _)
  | cons o l ih =>
    intro i hl tm H c rs tm' H' c' rs' h ρ a w hG hTop hT hR hf hQ
    have ho : ops[i]? = some o := by simpa using hl 0
    have hl' : ∀ j, ops[i + 1 + j]? = l[j]? := fun j => by have := hl (j + 1); rw [show i + 1 + j = i + (j + 1) by omega, this]; rfl
    simp only [evOps] at h
    rw [List.length_cons, List.range'_succ]
    simp only [wpOps, ho]
    split at h
    · rename_i hgo
      rw [goes_sound (ρ := ρ) (a := a) hgo fun j want t u _ _ hu => hT t u hu, if_pos rfl]
      left
      split at h
      · rename_i v H1 c1 hev
        split at h
        · rename_i tm1 htm hle
          have hle := Nat.le_of_ble_eq_true hle
          have hmono := evOps_mono _ _ _ _ _ _ h
          refine any_sound hE hC hev hG hTop (OT.of hT hG _) hR (fun r h1 h2 => hf r h1 (by omega)) _ _ fun cv w' ρ' hV hR' hF => ?_
          exact ih (i + 1) hl' _ _ _ _ h ρ' (a.put o.dst cv) w' (hG.mono hF.ext) (hF.top hTop) ((hT.mono hF.ext).put hV htm) hR' (fun r h1 h2 => by
            cases hr : ρ' r with
            | none => rfl
            | some q =>
              have := hF.new r q (hf r (by omega) h2) hr
              omega) fun tmps w'' ρ'' t1 t2 t3 => by
                have := hQ tmps w'' ρ'' t1 t2 (hF.trans t3)
                have e : (a.put o.dst cv).defers = a.defers := by cases o.dst <;> rfl
                rw [e]; exact this
        · cases h
      · cases h
    · rename_i hgo
      rw [goes_sound (ρ := ρ) (a := a) hgo fun j want t u _ _ hu => hT t u hu, if_neg (by simp)]
      split at h
      · rename_i tm1 htm
        exact ih (i + 1) hl' _ _ _ _ h ρ (a.put o.dst undef) w hG hTop (hT.put VR.undef htm) hR hf fun tmps w'' ρ'' t1 t2 t3 => by
          have := hQ tmps w'' ρ'' t1 t2 t3
          have e : (a.put o.dst undef).defers = a.defers := by cases o.dst <;> rfl
          rw [e]; exact this
      · cases h
    · cases h

end
end Ce

namespace Ce
open Go

theorem befs_spec : ∀ (l : List Oper) (acc : List Nat), ∃ m, befs l acc = acc ++ m ∧ m.length = l.length ∧ ∀ k o, l[k]? = some o → m[k]? = some (bitsOf (acc ++ m.take k) o.after.toList) := by
  intro l
  induction l with
  | nil => intro acc; exact ⟨[], by simp [befs], rfl, fun k o h => by simp at h⟩
  | cons o l ih =>
    intro acc
    obtain ⟨m, h1, h2, h3⟩ := ih (acc ++ [bitsOf acc o.after.toList])
    refine ⟨bitsOf acc o.after.toList :: m, by simp [befs, h1], by simp [h2], fun k u hk => ?_⟩
    rcases k with _ | k
    · simp at hk; subst hk; simp
    · have := h3 k u (by simpa using hk)
      simpa using this

theorem bits_spec (acc : List Nat) : ∀ (es : List Edge) (j : Nat), (bitsOf acc es).testBit j = true → ∃ e ∈ es, Region.binds .any e = true ∧ (j = e.on ∨ (acc.getD e.on 0).testBit j = true) := by
  intro es
  induction es with
  | nil => intro j h; simp [bitsOf] at h
  | cons e es ih =>
    intro j h
    simp only [bitsOf, Bool.cond_eq_ite] at h
    split at h
    · rename_i hb
      have hor : ∀ a b : Nat, Nat.lor a b = a ||| b := fun _ _ => rfl
      have hsh : Nat.shiftLeft 1 e.on = 2 ^ e.on := by show 1 <<< e.on = _; rw [Nat.shiftLeft_eq, Nat.one_mul]
      rw [hor, hor, hsh, Nat.testBit_or, Nat.testBit_or, Bool.or_eq_true, Bool.or_eq_true, Nat.testBit_two_pow] at h
      rcases h with h | h | h
      · exact ⟨e, by simp, hb, .inl (of_decide_eq_true h).symm⟩
      · exact ⟨e, by simp, hb, .inr h⟩
      · obtain ⟨e', h1, h2⟩ := ih j h
        exact ⟨e', by simp [h1], h2⟩
    · obtain ⟨e', h1, h2⟩ := ih j h
      exact ⟨e', by simp [h1], h2⟩

section
variable {E : Env} {R : CallR} {ops : Array Oper}

theorem edges_lt (h : edgesOK ops = true) {j : Nat} {o : Oper} (ho : ops[j]? = some o) {e : Edge} (he : e ∈ o.after) (hb : Region.binds .any e = true) : e.on < j := by
  unfold edgesOK at h
  rw [List.all_eq_true] at h
  have hj : j < ops.size := (Array.getElem?_eq_some_iff.1 ho).1
  have := h j (List.mem_range.2 hj)
  simp only [ho] at this
  rw [List.all_eq_true] at this
  have := this e (by simpa using he)
  simp only [hb, Bool.not_true, Bool.false_or, Nat.blt_eq] at this
  exact this

/-- What stands ahead has been carried out. -/
theorem ahead_done (hed : edgesOK ops = true) {D : Nat → Prop} (hcl : ∀ j o, D j → ops[j]? = some o → ∀ e ∈ o.after, Region.binds .any e = true → D e.on) (hlt : ∀ j, D j → j < ops.size) :
    ∀ (i : Nat) (o : Oper), ops[i]? = some o → (∀ e ∈ o.after, Region.binds .any e = true → D e.on) → ∀ j, ((befs ops.toList []).getD i 0).testBit j = true → D j := by
  obtain ⟨m, hm, hlen, hsp⟩ := befs_spec ops.toList []
  simp only [List.nil_append] at hm hsp
  rw [hm]
  intro i
  induction i using Nat.strongRecOn with
  | _ i ih =>
    intro o ho hpre j hj
    have hmi := hsp i o (by simpa using ho)
    rw [List.getD_eq_getElem?_getD, hmi, Option.getD_some] at hj
    obtain ⟨e, he, hb, hor⟩ := bits_spec _ _ _ hj
    have he' : e ∈ o.after := by simpa using he
    have hD := hpre e he' hb
    rcases hor with rfl | hbit
    · exact hD
    · have hlt' := edges_lt hed ho he' hb
      have hbit' : (m.getD e.on 0).testBit j = true := by
        rw [List.getD_eq_getElem?_getD] at hbit ⊢
        rw [List.getElem?_take, if_pos hlt'] at hbit
        exact hbit
      have hsz := hlt _ hD
      exact ih e.on hlt' ops[e.on] (by simp) (hcl _ _ hD (by simp)) j hbit'

theorem mem_effects (P : Program) : ∀ (l : List Oper) (i j : Nat), j ∈ effects P l i ↔ ∃ k o, j = i + k ∧ l[k]? = some o ∧ kind P o.op = 3 := by
  intro l
  induction l with
  | nil => intro i j; simp [effects]
  | cons o l ih =>
    intro i j
    simp only [effects, Bool.cond_eq_ite, Nat.beq_eq]
    constructor
    · intro h
      split at h
      · rename_i hk
        rcases List.mem_cons.1 h with rfl | h
        · exact ⟨0, o, rfl, rfl, hk⟩
        · obtain ⟨k, u, h1, h2, h3⟩ := (ih _ _).1 h
          exact ⟨k + 1, u, by omega, by simpa using h2, h3⟩
      · obtain ⟨k, u, h1, h2, h3⟩ := (ih _ _).1 h
        exact ⟨k + 1, u, by omega, by simpa using h2, h3⟩
    · rintro ⟨k, u, h1, h2, h3⟩
      rcases k with _ | k
      · simp at h2; subst h2; rw [if_pos h3]; simp [h1]
      · have : j ∈ effects P l (i + 1) := (ih _ _).2 ⟨k, u, by omega, by simpa using h2, h3⟩
        split
        · exact List.mem_cons_of_mem _ this
        · exact this

theorem effects_sorted (P : Program) : ∀ (l : List Oper) (i : Nat), (effects P l i).Pairwise (· < ·) := by
  intro l
  induction l with
  | nil => intro i; exact List.Pairwise.nil
  | cons o l ih =>
    intro i
    simp only [effects, Bool.cond_eq_ite]
    split
    · refine List.Pairwise.cons (fun j hj => ?_) (ih _)
      obtain ⟨k, u, h1, _⟩ := (mem_effects P _ _ _).1 hj
      omega
    · exact ih _

/-- The effects stand in a row. -/
theorem chain_done {D : Nat → Prop} {b : List Nat} (hah : ∀ i, D i → ∀ j, (b.getD i 0).testBit j = true → D j) : ∀ (l : List Nat) (x : Nat), chained b (x :: l) = true → ∀ e ∈ l, (∀ j, (b.getD e 0).testBit j = true → D j) → D x := by
  intro l
  induction l with
  | nil => intro x _ e he; simp at he
  | cons y l ih =>
    intro x h e he hpre
    simp only [chained, Bool.and_eq_true] at h
    rcases List.mem_cons.1 he with rfl | he
    · exact hpre x h.1
    · exact hah y (ih y h.2 e he hpre) x h.1

theorem chained_tail {b : List Nat} : ∀ (l : List Nat) (x : Nat), chained b (x :: l) = true → chained b l = true := by
  intro l x h
  cases l with
  | nil => rfl
  | cons y l => simp only [chained, Bool.and_eq_true] at h; exact h.2

theorem effects_done {D : Nat → Prop} {b : List Nat} (hah : ∀ i, D i → ∀ j, (b.getD i 0).testBit j = true → D j) : ∀ (es : List Nat), chained b es = true → es.Pairwise (· < ·) → ∀ e ∈ es, (∀ j, (b.getD e 0).testBit j = true → D j) → ∀ e' ∈ es, e' < e → D e' := by
  intro es
  induction es with
  | nil => intro _ _ e he; simp at he
  | cons x l ih =>
    intro hch hs e he hpre e' he' hlt
    have hsl := (List.pairwise_cons.1 hs)
    rcases List.mem_cons.1 he with rfl | he1
    · rcases List.mem_cons.1 he' with rfl | he2
      · omega
      · have := hsl.1 e' he2; omega
    · rcases List.mem_cons.1 he' with rfl | he2
      · exact chain_done hah l e' hch e he1 hpre
      · exact ih (chained_tail l x hch) hsl.2 e he1 hpre e' he2 hlt

/-- The next effect. -/
theorem next_effect {D : Nat → Prop} (n : Nat) : ∀ (es : List Nat), es.Pairwise (· < ·) → (∀ e ∈ es, e < n) → (∀ e ∈ es, D e → ∀ e' ∈ es, e' < e → D e') → ∃ p, (p = n ∨ p ∈ es) ∧ p ≤ n ∧ ∀ e ∈ es, (D e ↔ e < p) := by
  intro es
  induction es with
  | nil => intro _ _ _; exact ⟨n, .inl rfl, Nat.le_refl _, fun e he => by simp at he⟩
  | cons x l ih =>
    intro hs hn hd
    have hsl := List.pairwise_cons.1 hs
    by_cases hx : D x
    · obtain ⟨p, h1, h2, h3⟩ := ih hsl.2 (fun e he => hn e (by simp [he])) (fun e he hDe e' he' hlt => hd e (by simp [he]) hDe e' (by simp [he']) hlt)
      refine ⟨p, h1.imp id fun h => by simp [h], h2, fun e he => ?_⟩
      rcases List.mem_cons.1 he with rfl | he
      · refine ⟨fun _ => ?_, fun _ => hx⟩
        rcases h1 with rfl | h1
        · exact hn e (by simp)
        · exact hsl.1 p h1
      · exact h3 e he
    · refine ⟨x, .inr (by simp), Nat.le_of_lt (hn x (by simp)), fun e he => ?_⟩
      rcases List.mem_cons.1 he with rfl | he
      · exact ⟨fun h => absurd h hx, fun h => by omega⟩
      · have := hsl.1 e he
        exact ⟨fun h => absurd (hd e (by simp [he]) h x (by simp) this) hx, fun h => by omega⟩

/-- What the reckoning went through. -/
def Tc (E : Env) (R : CallR) (ops : Array Oper) : List Oper → Nat → Tr Value → Hp → Nat → List Rec → Tr Value × Hp × Nat → Prop
  | [], _, tm, H, c, fw, fin => fw = [] ∧ fin = (tm, H, c)
  | o :: l, i, tm, H, c, fw, fin => ∃ d v tm1 H1 c1 fw', fw = ⟨i, o, tm, H, c, d, v⟩ :: fw' ∧ goes ops tm o = some d ∧ (d = true → evAny E R o tm H c = some (v, H1, c1)) ∧ c ≤ c1 ∧
      (d = false → v = undef ∧ H1 = H ∧ c1 = c) ∧ putD tm o.dst v = some tm1 ∧ Tc E R ops l (i + 1) tm1 H1 c1 fw' fin

theorem evOps_trace : ∀ (l : List Oper) (i : Nat) (tm : Tr Value) (H : Hp) (c : Nat) (rs : List Rec) {tm' : Tr Value} {H' : Hp} {c' : Nat} {rs' : List Rec}, evOps E R ops l i tm H c rs = some (tm', H', c', rs') →
    ∃ fw, rs' = fw.reverse ++ rs ∧ Tc E R ops l i tm H c fw (tm', H', c') := by
  intro l
  induction l with
  | nil =>
    intro i tm H c rs tm' H' c' rs' h
    simp only [evOps, Option.some.injEq, Prod.mk.injEq] at h
    obtain ⟨rfl, rfl, rfl, rfl⟩ := h
    exact ⟨[], by simp, rfl, rfl⟩
  | cons o l ih =>
    intro i tm H c rs tm' H' c' rs' h
    simp only [evOps] at h
    split at h
    · rename_i hgo
      split at h
      · rename_i v H1 c1 hev
        split at h
        · rename_i tm1 htm hle
          obtain ⟨fw, h1, h2⟩ := ih _ _ _ _ _ h
          exact ⟨⟨i, o, tm, H, c, true, v⟩ :: fw, by simp [h1], true, v, tm1, H1, c1, fw, rfl, hgo, fun _ => hev, Nat.le_of_ble_eq_true hle, (fun h => by cases h), htm, h2⟩
        · cases h
      · cases h
    · rename_i hgo
      split at h
      · rename_i tm1 htm
        obtain ⟨fw, h1, h2⟩ := ih _ _ _ _ _ h
        exact ⟨⟨i, o, tm, H, c, false, undef⟩ :: fw, by simp [h1], false, undef, tm1, H, c, fw, rfl, hgo, (fun h => by cases h), Nat.le_refl _, fun _ => ⟨rfl, rfl, rfl⟩, htm, h2⟩
      · cases h
    · cases h

/-- The state ahead of an operation. -/
def stA (fw : List Rec) (fin : Tr Value × Hp × Nat) (k : Nat) : Tr Value × Hp × Nat := match fw[k]? with
  | some r => (r.tm, r.H, r.c)
  | none => fin

theorem Tc.zero {l : List Oper} {i : Nat} {tm : Tr Value} {H : Hp} {c : Nat} {fw : List Rec} {fin : Tr Value × Hp × Nat} (h : Tc E R ops l i tm H c fw fin) : stA fw fin 0 = (tm, H, c) := by
  cases l with
  | nil => obtain ⟨rfl, rfl⟩ := h; rfl
  | cons o l => obtain ⟨d, v, tm1, H1, c1, fw', rfl, _⟩ := h; rfl

theorem Tc.len : ∀ {l : List Oper} {i : Nat} {tm : Tr Value} {H : Hp} {c : Nat} {fw : List Rec} {fin : Tr Value × Hp × Nat}, Tc E R ops l i tm H c fw fin → fw.length = l.length := by
  intro l
  induction l with
  | nil => intro i tm H c fw fin h; obtain ⟨rfl, rfl⟩ := h; rfl
  | cons o l ih => intro i tm H c fw fin h; obtain ⟨d, v, tm1, H1, c1, fw', rfl, _, _, _, _, _, h⟩ := h; simp [ih h]

/-- What holds of an operation. -/
def RecOK (E : Env) (R : CallR) (ops : Array Oper) (fw : List Rec) (fin : Tr Value × Hp × Nat) (k : Nat) (r : Rec) : Prop :=
  goes ops r.tm r.o = some r.done ∧ (r.done = true → evAny E R r.o r.tm r.H r.c = some (r.v, (stA fw fin (k + 1)).2.1, (stA fw fin (k + 1)).2.2)) ∧ r.c ≤ (stA fw fin (k + 1)).2.2 ∧
    (r.done = false → r.v = undef ∧ (stA fw fin (k + 1)).2.1 = r.H ∧ (stA fw fin (k + 1)).2.2 = r.c) ∧ putD r.tm r.o.dst r.v = some (stA fw fin (k + 1)).1

theorem Tc.at : ∀ {l : List Oper} {i : Nat} {tm : Tr Value} {H : Hp} {c : Nat} {fw : List Rec} {fin : Tr Value × Hp × Nat}, Tc E R ops l i tm H c fw fin → ∀ (k : Nat) (o : Oper), l[k]? = some o →
    ∃ r, fw[k]? = some r ∧ r.i = i + k ∧ r.o = o ∧ RecOK E R ops fw fin k r := by
  intro l
  induction l with
  | nil => intro i tm H c fw fin h k o hk; simp at hk
  | cons o l ih =>
    intro i tm H c fw fin h k u hk
    obtain ⟨d, v, tm1, H1, c1, fw', rfl, h1, h2, h3, h4, h5, h6⟩ := h
    have hst : ∀ j, stA (⟨i, o, tm, H, c, d, v⟩ :: fw') fin (j + 1) = stA fw' fin j := fun j => by simp [stA]
    rcases k with _ | k
    · simp at hk; subst hk
      refine ⟨_, rfl, rfl, rfl, h1, fun hd => ?_, ?_, fun hd => ?_, ?_⟩
      · rw [hst, h6.zero]; exact h2 hd
      · rw [hst, h6.zero]; exact h3
      · rw [hst, h6.zero]; exact h4 hd
      · rw [hst, h6.zero]; exact h5
    · obtain ⟨r, e1, e2, e3, e4, e5, e6, e7, e8⟩ := ih h6 k u (by simpa using hk)
      refine ⟨r, by simpa using e1, by omega, e3, e4, ?_, ?_, ?_, ?_⟩
      · rw [hst]; exact e5
      · rw [hst]; exact e6
      · rw [hst]; exact e7
      · rw [hst]; exact e8

theorem heapAt_in {p : Nat} {Hn : Hp} {r : Rec} : ∀ (rs : List Rec), r ∈ rs → r.i = p → (∀ r' ∈ rs, r'.i = p → r'.H = r.H) → heapAt rs Hn p = r.H := by
  intro rs
  induction rs with
  | nil => intro h; simp at h
  | cons x rs ih =>
    intro hm hp hu
    simp only [heapAt, Bool.cond_eq_ite, Nat.beq_eq]
    split
    · rename_i hx; exact hu x (by simp) hx
    · rename_i hx
      rcases List.mem_cons.1 hm with rfl | hm
      · exact absurd hp hx
      · exact ih hm hp fun r' h' => hu r' (by simp [h'])

theorem heapAt_out {p : Nat} {Hn : Hp} : ∀ (rs : List Rec), (∀ r ∈ rs, r.i ≠ p) → heapAt rs Hn p = Hn := by
  intro rs
  induction rs with
  | nil => intro _; rfl
  | cons x rs ih =>
    intro h
    simp only [heapAt, Bool.cond_eq_ite, Nat.beq_eq]
    rw [if_neg (h x (by simp))]
    exact ih fun r hr => h r (by simp [hr])

theorem same_eq : ∀ (n : Nat) (a b : Value), same n a b = true → a = b := by
  intro n
  have arr : ∀ (f : Value → Value → Bool), (∀ a b, f a b = true → a = b) → ∀ as bs : Array Value, (decide (as.size = bs.size) && (as.toList.zip bs.toList).all fun p => f p.1 p.2) = true → as = bs := by
    intro f hf as bs h
    simp only [Bool.and_eq_true, decide_eq_true_eq, List.all_eq_true] at h
    apply Array.ext h.1
    intro i h1 h2
    refine hf _ _ (h.2 (as[i], bs[i]) ?_)
    rw [List.mem_iff_getElem?]
    exact ⟨i, by simp [List.getElem?_zip_eq_some, h1, h2]⟩
  induction n with
  | zero => intro a b h; cases a <;> cases b <;> simp [same] at h <;> simp_all
  | succ n ih =>
    intro a b h
    cases a <;> cases b <;> simp only [same] at h <;> first
      | (simp at h; done)
      | (rw [arr _ ih _ _ h])
      | (simp at h; simp_all; done)
      | (simp only [Bool.and_eq_true, decide_eq_true_eq] at h; rw [h.1, ih _ _ h.2])
      | rfl

end
end Ce

namespace Ce
open Go

section
variable {E : Env} {R : CallR} {ops : Array Oper} {o : Oper} {tm : Tr Value} {H H' : Hp} {c c' : Nat} {v : Value}

theorem any_op (h : kind E.P o.op ≠ 3) : evAny E R o tm H c = evOp E o tm H c := by
  unfold evAny
  split
  · rename_i k hk
    split
    · rename_i f hf
      rw [hk] at h
      obtain ⟨cal, args, ats⟩ := k
      simp only at hf; subst hf
      exact absurd rfl h
    · rfl
  · rfl

theorem e_made (hk : kind E.P o.op = 1) (h : evOp E o tm H c = some (v, H', c')) : ∃ ob, c < 9223372036854775808 ∧ c' = c + 1 ∧ H' = H.put ob .dead 64 c ∧ wr ob = true := by
  have fin : ∀ {cells : List Value} {elem : TypeId} {k : Nat → Value}, newRow H c cells elem k = some (v, H', c') → ∃ ob, c < 9223372036854775808 ∧ c' = c + 1 ∧ H' = H.put ob .dead 64 c ∧ wr ob = true := fun h => by
    obtain ⟨h1, h2, h3, h4⟩ := newRow_inv h
    exact ⟨_, h1.2, h3, h4, rfl⟩
  have fin2 : ∀ {ob : Ob} {k : Nat → Value}, wr ob = true → newOb H c ob k = some (v, H', c') → ∃ ob, c < 9223372036854775808 ∧ c' = c + 1 ∧ H' = H.put ob .dead 64 c ∧ wr ob = true := fun hw h => by
    unfold newOb at h
    split at h
    · rename_i hg hlt
      simp only [Option.some.injEq, Prod.mk.injEq] at h
      exact ⟨_, by simpa [Nat.blt_eq] using hlt, h.2.2.symm, h.2.1.symm, hw⟩
    · cases h
  cases ho : o.op with
  | alloc e => simp only [evOp, ho] at h; (repeat' split at h) <;> first | exact fin h | cases h
  | box e x => simp only [evOp, ho] at h; (repeat' split at h) <;> first | exact fin h | cases h
  | buildSlice t n ps => simp only [evOp, ho] at h; (repeat' split at h) <;> first | exact fin h | cases h
  | makeMap t r => simp only [evOp, ho] at h; (repeat' split at h) <;> first | exact fin2 rfl h | cases h
  | makeSlice t l k => simp only [evOp, ho] at h; (repeat' split at h) <;> first | exact fin h | cases h
  | range t x => simp only [evOp, ho] at h; (repeat' split at h) <;> first | exact fin2 rfl h | cases h
  | convert s d x =>
    rw [ho] at hk
    simp only [kind] at hk
    split at hk
    · rename_i e he
      simp only [evOp, ho, he] at h; (repeat' split at h) <;> first | exact fin h | cases h
    · cases hk
  | call k =>
    rw [ho] at hk
    obtain ⟨cal, args, ats⟩ := k
    cases cal with
    | builtin b => cases b <;> simp [kind] at hk
    | _ => simp [kind] at hk
  | _ => rw [ho] at hk; simp [kind] at hk

theorem e_flat {s : Array Value → Sem Value} {vs : List Value} (h : evFlat E s vs H c = some (v, H', c')) : H' = H ∧ c' = c := by
  unfold evFlat at h
  (repeat' split at h) <;> first | (simp only [Option.some.injEq, Prod.mk.injEq] at h; exact ⟨h.2.1.symm, h.2.2.symm⟩) | cases h

theorem e_quiet (hk : kind E.P o.op = 0 ∨ kind E.P o.op = 2) (h : evOp E o tm H c = some (v, H', c')) : H' = H ∧ c' = c := by
  cases ho : o.op with
  | convert s d x =>
    rw [ho] at hk
    simp only [kind] at hk
    split at hk
    · simp at hk
    · rename_i hno
      simp only [evOp, ho] at h
      (repeat' split at h) <;> first
        | (simp only [Option.some.injEq, Prod.mk.injEq] at h; exact ⟨h.2.1.symm, h.2.2.symm⟩)
        | cases h
        | (rename_i e he _ _ _ _ _ _ _ _ _ _; exact (hno _ ‹_›).elim)
  | call k =>
    rw [ho] at hk
    obtain ⟨cal, args, ats⟩ := k
    cases cal with
    | builtin b =>
      cases b <;> simp [kind] at hk <;> simp only [evOp, ho] at h <;> (repeat' split at h) <;> first
        | (simp only [Option.some.injEq, Prod.mk.injEq] at h; exact ⟨h.2.1.symm, h.2.2.symm⟩)
        | exact e_flat h
        | (cases h; done)
        | (rename_i heq _; cases heq; done)
        | (rename_i heq; cases heq; done)
        | simp_all
    | _ => simp [kind] at hk
  | move x => simp only [evOp, ho] at h; (repeat' split at h) <;> first | (simp only [Option.some.injEq, Prod.mk.injEq] at h; exact ⟨h.2.1.symm, h.2.2.symm⟩) | cases h
  | assign x => simp only [evOp, ho] at h; (repeat' split at h) <;> first | (simp only [Option.some.injEq, Prod.mk.injEq] at h; exact ⟨h.2.1.symm, h.2.2.symm⟩) | cases h
  | pick q x y => simp only [evOp, ho] at h; (repeat' split at h) <;> first | (simp only [Option.some.injEq, Prod.mk.injEq] at h; exact ⟨h.2.1.symm, h.2.2.symm⟩) | cases h
  | build t ps => simp only [evOp, ho, Bool.cond_eq_ite] at h; (repeat' split at h) <;> first | (simp only [Option.some.injEq, Prod.mk.injEq] at h; exact ⟨h.2.1.symm, h.2.2.symm⟩) | cases h
  | nilCheck x => simp only [evOp, ho] at h; (repeat' split at h) <;> first | (simp only [Option.some.injEq, Prod.mk.injEq] at h; exact ⟨h.2.1.symm, h.2.2.symm⟩) | cases h
  | binOp op t x y u => simp only [evOp, ho] at h; (repeat' split at h) <;> first | (simp only [Option.some.injEq, Prod.mk.injEq] at h; exact ⟨h.2.1.symm, h.2.2.symm⟩) | cases h
  | unOp op t x => simp only [evOp, ho] at h; (repeat' split at h) <;> first | (simp only [Option.some.injEq, Prod.mk.injEq] at h; exact ⟨h.2.1.symm, h.2.2.symm⟩) | cases h
  | makeInterface t x => simp only [evOp, ho] at h; (repeat' split at h) <;> first | (simp only [Option.some.injEq, Prod.mk.injEq] at h; exact ⟨h.2.1.symm, h.2.2.symm⟩) | cases h
  | makeFunc fn fs cs => simp only [evOp, ho] at h; (repeat' split at h) <;> first | (simp only [Option.some.injEq, Prod.mk.injEq] at h; exact ⟨h.2.1.symm, h.2.2.symm⟩) | cases h
  | slice t x lo hi mx => simp only [evOp, ho] at h; (repeat' split at h) <;> first | (simp only [Option.some.injEq, Prod.mk.injEq] at h; exact ⟨h.2.1.symm, h.2.2.symm⟩) | cases h
  | fieldAddr t x f => simp only [evOp, ho] at h; (repeat' split at h) <;> first | (simp only [Option.some.injEq, Prod.mk.injEq] at h; exact ⟨h.2.1.symm, h.2.2.symm⟩) | cases h
  | field t x f => simp only [evOp, ho] at h; (repeat' split at h) <;> first | (simp only [Option.some.injEq, Prod.mk.injEq] at h; exact ⟨h.2.1.symm, h.2.2.symm⟩) | cases h
  | indexAddr t x ix => simp only [evOp, ho] at h; (repeat' split at h) <;> first | (simp only [Option.some.injEq, Prod.mk.injEq] at h; exact ⟨h.2.1.symm, h.2.2.symm⟩) | cases h
  | index t x ix => simp only [evOp, ho] at h; (repeat' split at h) <;> first | (simp only [Option.some.injEq, Prod.mk.injEq] at h; exact ⟨h.2.1.symm, h.2.2.symm⟩) | cases h
  | extract x i => simp only [evOp, ho] at h; (repeat' split at h) <;> first | (simp only [Option.some.injEq, Prod.mk.injEq] at h; exact ⟨h.2.1.symm, h.2.2.symm⟩) | cases h
  | load t x => simp only [evOp, ho] at h; (repeat' split at h) <;> first | (simp only [Option.some.injEq, Prod.mk.injEq] at h; exact ⟨h.2.1.symm, h.2.2.symm⟩) | cases h
  | lookup t x ix ok => simp only [evOp, ho] at h; (repeat' split at h) <;> first | (simp only [Option.some.injEq, Prod.mk.injEq] at h; exact ⟨h.2.1.symm, h.2.2.symm⟩) | cases h
  | _ => rw [ho] at hk; simp [kind] at hk

end
end Ce

namespace Ce
open Go

/-- The reckoning of a region, and its plan. -/
structure Ctx (E : Env) (R : CallR) (ops : Array Oper) (fw : List Rec) (fin : Tr Value × Hp × Nat) (tm0 : Tr Value) (H0 : Hp) (c0 : Nat) : Prop where
  tr : Tc E R ops ops.toList 0 tm0 H0 c0 fw fin
  plan : planOK E.P ops = true
  look : looksOK E ops fw.reverse fin.2.1 = true

def hpA (fw : List Rec) (fin : Tr Value × Hp × Nat) (k : Nat) : Hp := (stA fw fin k).2.1
def ccA (fw : List Rec) (fin : Tr Value × Hp × Nat) (k : Nat) : Nat := (stA fw fin k).2.2
/-- A number that an operation makes. -/
def NewAt (E : Env) (fw : List Rec) (x y s : Nat) (j : Nat) (r : Rec) : Prop := x ≤ j ∧ j < y ∧ fw[j]? = some r ∧ r.done = true ∧ kind E.P r.o.op = 1 ∧ s = r.c

theorem kinds (E : Env) (o : Op) : kind E.P o = 0 ∨ kind E.P o = 1 ∨ kind E.P o = 2 ∨ kind E.P o = 3 := by
  unfold kind; split <;> first | simp | (split <;> simp)

def tmA (fw : List Rec) (fin : Tr Value × Hp × Nat) (k : Nat) : Tr Value := (stA fw fin k).1

section
variable {E : Env} {R : CallR} {ops : Array Oper} {fw : List Rec} {fin : Tr Value × Hp × Nat} {tm0 : Tr Value} {H0 : Hp} {c0 : Nat}

namespace Ctx
variable (X : Ctx E R ops fw fin tm0 H0 c0)
include X

theorem len : fw.length = ops.size := by have := X.tr.len; simpa using this

theorem lt {k : Nat} {r : Rec} (h : fw[k]? = some r) : k < ops.size := by rw [← X.len]; exact (List.getElem?_eq_some_iff.1 h).1

theorem rc {k : Nat} (hk : k < ops.size) : ∃ r, fw[k]? = some r ∧ r.i = k ∧ ops[k]? = some r.o ∧ RecOK E R ops fw fin k r := by
  obtain ⟨r, h1, h2, h3, h4⟩ := X.tr.at k ops[k] (by simp [hk])
  exact ⟨r, h1, by omega, by rw [h3]; simp [hk], h4⟩

theorem rcOf {k : Nat} {r : Rec} (h : fw[k]? = some r) : r.i = k ∧ ops[k]? = some r.o ∧ RecOK E R ops fw fin k r := by
  obtain ⟨r', h1, h2⟩ := X.rc (X.lt h)
  rw [h] at h1; cases h1; exact h2

omit X in
theorem stOf {k : Nat} {r : Rec} (h : fw[k]? = some r) : tmA fw fin k = r.tm ∧ hpA fw fin k = r.H ∧ ccA fw fin k = r.c := by simp [tmA, hpA, ccA, stA, h]

theorem start : tmA fw fin 0 = tm0 ∧ hpA fw fin 0 = H0 ∧ ccA fw fin 0 = c0 := by
  have := X.tr.zero
  simp [tmA, hpA, ccA, this]

theorem last : tmA fw fin ops.size = fin.1 ∧ hpA fw fin ops.size = fin.2.1 ∧ ccA fw fin ops.size = fin.2.2 := by
  have : fw[ops.size]? = none := by rw [List.getElem?_eq_none]; rw [X.len]; exact Nat.le_refl _
  simp [tmA, hpA, ccA, stA, this]

theorem step {k : Nat} {r : Rec} (h : fw[k]? = some r) : goes ops r.tm r.o = some r.done ∧ (r.done = true → evAny E R r.o r.tm r.H r.c = some (r.v, hpA fw fin (k + 1), ccA fw fin (k + 1))) ∧ r.c ≤ ccA fw fin (k + 1) ∧
    (r.done = false → r.v = undef ∧ hpA fw fin (k + 1) = r.H ∧ ccA fw fin (k + 1) = r.c) ∧ putD r.tm r.o.dst r.v = some (tmA fw fin (k + 1)) := (X.rcOf h).2.2

theorem mono : ∀ (d k : Nat), k + d ≤ ops.size → ccA fw fin k ≤ ccA fw fin (k + d) := by
  intro d
  induction d with
  | zero => intro k _; exact Nat.le_refl _
  | succ d ih =>
    intro k hk
    obtain ⟨r, h1, _⟩ := X.rc (k := k + d) (by omega)
    have h2 := (X.step h1).2.2.1
    rw [← (stOf (fin := fin) h1).2.2] at h2
    exact Nat.le_trans (ih k (by omega)) h2

theorem mono' {k k' : Nat} (h : k ≤ k') (hk : k' ≤ ops.size) : ccA fw fin k ≤ ccA fw fin k' := by
  have := X.mono (k' - k) k (by omega)
  rwa [show k + (k' - k) = k' by omega] at this

theorem edges : edgesOK ops = true := by have := X.plan; simp only [planOK, Bool.and_eq_true] at this; exact this.1.1
theorem slots : slotsOK ops (befs ops.toList []) = true := by have := X.plan; simp only [planOK, Bool.and_eq_true] at this; exact this.1.2
theorem chain : chained (befs ops.toList []) (effects E.P ops.toList 0) = true := by have := X.plan; simp only [planOK, Bool.and_eq_true] at this; exact this.2

theorem isEffect {k : Nat} {r : Rec} (h : fw[k]? = some r) : k ∈ effects E.P ops.toList 0 ↔ kind E.P r.o.op = 3 := by
  rw [mem_effects]
  have ho := (X.rcOf h).2.1
  constructor
  · rintro ⟨j, o, h1, h2, h3⟩
    obtain rfl : k = j := by omega
    have : o = r.o := by rw [Array.getElem?_toList] at h2; rw [h2] at ho; exact Option.some.inj ho
    rw [← this]; exact h3
  · intro h3
    exact ⟨k, r.o, by omega, by rw [Array.getElem?_toList]; exact ho, h3⟩

/-- What an operation that is no effect does to the memory. -/
theorem quietStep {k : Nat} {r : Rec} (h : fw[k]? = some r) (hne : kind E.P r.o.op ≠ 3) :
    (r.done = true ∧ kind E.P r.o.op = 1 ∧ ∃ ob, r.c < 9223372036854775808 ∧ ccA fw fin (k + 1) = r.c + 1 ∧ hpA fw fin (k + 1) = r.H.put ob .dead 64 r.c ∧ wr ob = true) ∨
    (¬ (r.done = true ∧ kind E.P r.o.op = 1) ∧ hpA fw fin (k + 1) = r.H ∧ ccA fw fin (k + 1) = r.c) := by
  obtain ⟨h1, h2, h3, h4, h5⟩ := X.step h
  cases hd : r.done with
  | false => exact .inr ⟨by simp, (h4 hd).2⟩
  | true =>
    have hev := h2 hd
    rw [any_op hne] at hev
    rcases kinds E r.o.op with hk | hk | hk | hk
    · exact .inr ⟨by rw [hk]; simp, e_quiet (.inl hk) hev⟩
    · exact .inl ⟨rfl, hk, e_made hk hev⟩
    · exact .inr ⟨by rw [hk]; simp, e_quiet (.inr hk) hev⟩
    · exact absurd hk hne

/-- Between effects: some numbers more. -/
theorem gap {x : Nat} : ∀ (d : Nat), x + d ≤ ops.size → (∀ j, x ≤ j → j < x + d → j ∉ effects E.P ops.toList 0) → ∀ s,
    (∃ j r, NewAt E fw x (x + d) s j r ∧ lk (hpA fw fin (x + d)) s = lk (hpA fw fin (j + 1)) s ∧ wr (lk (hpA fw fin (j + 1)) s) = true) ∨
    ((∀ j r, ¬ NewAt E fw x (x + d) s j r) ∧ lk (hpA fw fin (x + d)) s = lk (hpA fw fin x) s) := by
  intro d
  induction d with
  | zero => intro _ _ s; exact .inr ⟨fun j r ⟨h1, h2, _⟩ => by omega, rfl⟩
  | succ d ih =>
    intro hn hno s
    obtain ⟨r, hr, _⟩ := X.rc (k := x + d) (by omega)
    have hst := stOf (fin := fin) hr
    have hne : kind E.P r.o.op ≠ 3 := fun e => hno (x + d) (by omega) (by omega) ((X.isEffect hr).2 e)
    have IH := ih (by omega) (fun j h1 h2 => hno j h1 (by omega)) s
    rw [show x + (d + 1) = x + d + 1 by omega]
    rcases X.quietStep hr hne with ⟨hd, hk, ob, hlt, hcc, hhp, hwr⟩ | ⟨hnm, hhp, hcc⟩
    · have hl : ∀ s, lk (hpA fw fin (x + d + 1)) s = if s = r.c then ob else lk (hpA fw fin (x + d)) s := fun s => by rw [hhp, lk_put _ _ _ _ (by omega), hst.2.1]
      by_cases hs : s = r.c
      · exact .inl ⟨x + d, r, ⟨by omega, by omega, hr, hd, hk, hs⟩, rfl, by rw [hl, if_pos hs]; exact hwr⟩
      · rcases IH with ⟨j, q, ⟨g1, g2, g3, g4, g5, g6⟩, e1, e2⟩ | ⟨g, e⟩
        · exact .inl ⟨j, q, ⟨g1, by omega, g3, g4, g5, g6⟩, by rw [hl, if_neg hs]; exact e1, e2⟩
        · refine .inr ⟨fun j q ⟨g1, g2, g3, g4, g5, g6⟩ => ?_, by rw [hl, if_neg hs]; exact e⟩
          by_cases hj : j = x + d
          · subst hj; rw [hr] at g3; cases g3; exact hs g6
          · exact g j q ⟨g1, by omega, g3, g4, g5, g6⟩
    · rw [hhp, ← hst.2.1]
      rcases IH with ⟨j, q, ⟨g1, g2, g3, g4, g5, g6⟩, e1, e2⟩ | ⟨g, e⟩
      · exact .inl ⟨j, q, ⟨g1, by omega, g3, g4, g5, g6⟩, e1, e2⟩
      · refine .inr ⟨fun j q ⟨g1, g2, g3, g4, g5, g6⟩ => ?_, e⟩
        by_cases hj : j = x + d
        · subst hj; rw [hr] at g3; cases g3; exact hnm ⟨g4, g5⟩
        · exact g j q ⟨g1, by omega, g3, g4, g5, g6⟩

theorem gap' {x y : Nat} (hxy : x ≤ y) (hy : y ≤ ops.size) (hno : ∀ j, x ≤ j → j < y → j ∉ effects E.P ops.toList 0) (s : Nat) :
    (∃ j r, NewAt E fw x y s j r ∧ lk (hpA fw fin y) s = lk (hpA fw fin (j + 1)) s ∧ wr (lk (hpA fw fin (j + 1)) s) = true) ∨
    ((∀ j r, ¬ NewAt E fw x y s j r) ∧ lk (hpA fw fin y) s = lk (hpA fw fin x) s) := by
  have := X.gap (x := x) (y - x) (by omega) (fun j h1 h2 => hno j h1 (by omega)) s
  rwa [show x + (y - x) = y by omega] at this

/-- A made number lies between two counts. -/
theorem mkc {j : Nat} {r : Rec} (h : fw[j]? = some r) (hd : r.done = true) (hk : kind E.P r.o.op = 1) : ccA fw fin (j + 1) = r.c + 1 := by
  rcases X.quietStep h (by rw [hk]; simp) with ⟨_, _, ob, _, hcc, _⟩ | ⟨hn, _⟩
  · exact hcc
  · exact absurd ⟨hd, hk⟩ hn

/-- Made numbers are apart. -/
theorem mkne {j j' : Nat} {r r' : Rec} (h : fw[j]? = some r) (h' : fw[j']? = some r') (hd : r.done = true) (hk : kind E.P r.o.op = 1) (hd' : r'.done = true) (hk' : kind E.P r'.o.op = 1) (hne : j ≠ j') : r.c ≠ r'.c := by
  have e1 := X.mkc h hd hk
  have e2 := X.mkc h' hd' hk'
  have s1 := (stOf (fin := fin) h).2.2
  have s2 := (stOf (fin := fin) h').2.2
  have l1 := X.lt h
  have l2 := X.lt h'
  rcases Nat.lt_or_ge j j' with hlt | hge
  · have := X.mono' (k := j + 1) (k' := j') (by omega) (by omega); omega
  · have := X.mono' (k := j' + 1) (k' := j) (by omega) (by omega); omega

/-- Who wrote a slot, by the text. -/
theorem slot : ∀ (k : Nat), k ≤ ops.size → ∀ t v, (tmA fw fin k).get t = some v →
    (∃ j r, j < k ∧ fw[j]? = some r ∧ r.o.dst = some t ∧ r.v = v ∧ ∀ j' r', j' < k → fw[j']? = some r' → r'.o.dst = some t → j' ≤ j) ∨
    ((∀ j r, j < k → fw[j]? = some r → r.o.dst ≠ some t) ∧ tm0.get t = some v) := by
  intro k
  induction k with
  | zero => intro _ t v h; rw [X.start.1] at h; exact .inr ⟨fun j r hj => by omega, h⟩
  | succ k ih =>
    intro hk t v h
    obtain ⟨r, hr, _⟩ := X.rc (k := k) (by omega)
    have hp := (X.step hr).2.2.2.2
    rw [← (stOf (fin := fin) hr).1] at hp
    by_cases hd : r.o.dst = some t
    · rw [hd] at hp
      simp only [putD] at hp
      split at hp
      · rename_i u hu
        simp only [Option.some.injEq] at hp
        rw [← hp, Tr.get_upd, if_pos rfl, hu] at h
        simp only [Option.map_some, Option.some.injEq] at h
        exact .inl ⟨k, r, by omega, hr, hd, h, fun j' r' h1 _ _ => by omega⟩
      · cases hp
    · have hsame : (tmA fw fin k).get t = some v := by
        cases hdst : r.o.dst with
        | none => rw [hdst] at hp; simp only [putD, Option.some.injEq] at hp; rw [hp]; exact h
        | some d =>
          rw [hdst] at hp
          simp only [putD] at hp
          split at hp
          · rename_i u hu
            simp only [Option.some.injEq] at hp
            rw [← hp, Tr.get_upd, if_neg (by intro e; subst e; exact hd hdst)] at h
            exact h
          · cases hp
      rcases ih (by omega) t v hsame with ⟨j, q, h1, h2, h3, h4, h5⟩ | ⟨h1, h2⟩
      · refine .inl ⟨j, q, by omega, h2, h3, h4, fun j' r' g1 g2 g3 => ?_⟩
        by_cases hj : j' = k
        · subst hj; rw [hr] at g2; cases g2; exact absurd g3 hd
        · exact h5 j' r' (by omega) g2 g3
      · refine .inr ⟨fun j q g1 g2 g3 => ?_, h2⟩
        by_cases hj : j = k
        · subst hj; rw [hr] at g2; cases g2; exact hd g3
        · exact h1 j q (by omega) g2 g3

/-- Slots that are there were there. -/
theorem dom : ∀ (k : Nat), k ≤ ops.size → ∀ t v, (tmA fw fin k).get t = some v → ∃ u, tm0.get t = some u := by
  intro k
  induction k with
  | zero => intro _ t v h; rw [X.start.1] at h; exact ⟨v, h⟩
  | succ k ih =>
    intro hk t v h
    obtain ⟨r, hr, _⟩ := X.rc (k := k) (by omega)
    have hp := (X.step hr).2.2.2.2
    rw [← (stOf (fin := fin) hr).1] at hp
    cases hdst : r.o.dst with
    | none => rw [hdst] at hp; simp only [putD, Option.some.injEq] at hp; exact ih (by omega) t v (by rw [hp]; exact h)
    | some d =>
      rw [hdst] at hp
      simp only [putD] at hp
      split at hp
      · rename_i u hu
        simp only [Option.some.injEq] at hp
        rw [← hp, Tr.get_upd] at h
        split at h
        · rename_i e; subst e
          exact ih (by omega) _ u hu
        · exact ih (by omega) t v h
      · cases hp

/-- Operations that share a slot. -/
theorem order {i j : Nat} {x y : Oper} (hij : i < j) (hx : ops[i]? = some x) (hy : ops[j]? = some y) (ha : x.apart ops y = false) : ((befs ops.toList []).getD j 0).testBit i = true := by
  have hs := X.slots
  unfold slotsOK at hs
  rw [List.all_eq_true] at hs
  have hj : j < ops.size := (Array.getElem?_eq_some_iff.1 hy).1
  have := hs j (List.mem_range.2 hj)
  rw [List.all_eq_true] at this
  have := this i (List.mem_range.2 hij)
  simp only [hx, hy, touch, ha, Bool.not_false, Bool.not_true, Bool.false_or] at this
  exact this

end Ctx

theorem apart_read {x y : Oper} {d : Tmp} (h : x.dst = some d) (hd : d ∈ y.looksAt ops) : x.apart ops y = false := by
  cases hc : x.apart ops y with
  | false => rfl
  | true => exact absurd hd ((Oper.apart_spec hc).1 d h)
theorem apart_read' {x y : Oper} {d : Tmp} (h : y.dst = some d) (hd : d ∈ x.looksAt ops) : x.apart ops y = false := by
  cases hc : x.apart ops y with
  | false => rfl
  | true => exact absurd hd ((Oper.apart_spec hc).2.2 d h)
theorem apart_both {x y : Oper} {d : Tmp} (h : x.dst = some d) (hd : y.dst = some d) : x.apart ops y = false := by
  cases hc : x.apart ops y with
  | false => rfl
  | true => exact absurd hd ((Oper.apart_spec hc).2.1 d h)

end
end Ce

namespace Ce
open Go

section
variable {E : Env} {R : CallR} {ops : Array Oper} {fw : List Rec} {fin : Tr Value × Hp × Nat} {tm0 : Tr Value} {H0 : Hp} {c0 : Nat} {ρ0 : Ren} {a0 : Act} {w0 : World}

/-- What holds when some have been carried out; p: the next that may change memory. -/
structure Way (E : Env) (ops : Array Oper) (fw : List Rec) (fin : Tr Value × Hp × Nat) (tm0 : Tr Value) (H0 : Hp) (c0 : Nat) (ρ0 : Ren) (a0 : Act) (w0 : World) (listed : Array Bool) (a : Act) (w : World) (ρ : Ren) (p : Nat) : Prop where
  size : listed.size = ops.size
  closed : ∀ j o, listed.getD j false = true → ops[j]? = some o → ∀ e ∈ o.after, Region.binds .any e = true → listed.getD e.on false = true
  pn : (p = ops.size ∨ p ∈ effects E.P ops.toList 0) ∧ p ≤ ops.size
  pd : ∀ e ∈ effects E.P ops.toList 0, (listed.getD e false = true ↔ e < p)
  wide : ∀ t v, tm0.get t = some v → t < a.tmps.size
  nobody : ∀ t v, (∀ j r, listed.getD j false = true → fw[j]? = some r → r.o.dst ≠ some t) → tm0.get t = some v → ∃ cv, a.tmps[t]? = some cv ∧ VR ρ v cv
  last : ∀ t j r, listed.getD j false = true → fw[j]? = some r → r.o.dst = some t → (∀ j' r', listed.getD j' false = true → fw[j']? = some r' → r'.o.dst = some t → j' ≤ j) → ∃ cv, a.tmps[t]? = some cv ∧ VR ρ r.v cv
  rel : Rel ρ (hpA fw fin p) w
  side : ∀ j r, listed.getD j false = true → p ≤ j → fw[j]? = some r → r.done = true → kind E.P r.o.op = 1 → ∃ q, ρ r.c = some q ∧ OR ρ q w (lk (hpA fw fin (j + 1)) r.c) ∧ w0.heap.size ≤ q.block ∧
    (∀ s u, lives (lk (hpA fw fin p) s) = true → ρ s = some u → u.block ≠ q.block)
  side2 : ∀ j r j' r' q q', listed.getD j false = true → p ≤ j → fw[j]? = some r → r.done = true → kind E.P r.o.op = 1 → listed.getD j' false = true → p ≤ j' → fw[j']? = some r' → r'.done = true → kind E.P r'.o.op = 1 → j ≠ j' →
    ρ r.c = some q → ρ r'.c = some q' → q.block ≠ q'.block
  fresh : ∀ j r, listed.getD j false = false → fw[j]? = some r → ∀ s, r.c ≤ s → s < ccA fw fin (j + 1) → ρ s = none
  wait : ∀ j r, listed.getD j false = false → j < p → fw[j]? = some r → r.done = true → kind E.P r.o.op = 1 → lk (hpA fw fin p) r.c = lk (hpA fw fin (j + 1)) r.c
  top : Top (hpA fw fin p) (ccA fw fin p)
  fr : Fr ρ0 H0 w0 ρ (hpA fw fin p) w c0 fin.2.2
  defers : a.defers = a0.defers

theorem set_get {listed : Array Bool} {i j : Nat} (hi : i < listed.size) : (listed.setIfInBounds i true).getD j false = true ↔ j = i ∨ listed.getD j false = true := by
  simp only [Array.getD_eq_getD_getElem?, Array.getElem?_setIfInBounds]
  by_cases h : i = j
  · subst h; simp [hi]
  · rw [if_neg h]; simp [Ne.symm h]

theorem set_get_f {listed : Array Bool} {i j : Nat} (hi : i < listed.size) : (listed.setIfInBounds i true).getD j false = false ↔ j ≠ i ∧ listed.getD j false = false := by
  have := set_get (listed := listed) (i := i) (j := j) hi
  cases h1 : (listed.setIfInBounds i true).getD j false <;> cases h2 : listed.getD j false <;> simp_all

variable (X : Ctx E R ops fw fin tm0 H0 c0)
include X

namespace Way
variable {listed : Array Bool} {a : Act} {w : World} {ρ : Ren} {p i : Nat} {r : Rec} (I : Way E ops fw fin tm0 H0 c0 ρ0 a0 w0 listed a w ρ p)
include I

omit X in
theorem lt {j : Nat} (h : listed.getD j false = true) : j < ops.size := by
  rw [← I.size]
  rcases Nat.lt_or_ge j listed.size with h' | h'
  · exact h'
  · simp [Array.getElem?_eq_none h'] at h

/-- All ahead of one that has been carried out. -/
theorem ahead (j : Nat) (h : listed.getD j false = true) : ∀ k, ((befs ops.toList []).getD j 0).testBit k = true → listed.getD k false = true := by
  have hj := Way.lt I h
  exact ahead_done (D := fun j => listed.getD j false = true) X.edges I.closed (fun j h => Way.lt I h) j ops[j] (by simp [hj]) (I.closed j ops[j] h (by simp [hj]))

/-- All ahead of one that is ready. -/
theorem aheadR (hr : fw[i]? = some r) (hready : ∀ e ∈ r.o.after, Region.binds .any e = true → listed.getD e.on false = true) : ∀ k, ((befs ops.toList []).getD i 0).testBit k = true → listed.getD k false = true :=
  ahead_done (D := fun j => listed.getD j false = true) X.edges I.closed (fun j h => Way.lt I h) i r.o (X.rcOf hr).2.1 hready

/-- A slot that one looks at. -/
theorem slotOK (hr : fw[i]? = some r) (hni : listed.getD i false = false) (hready : ∀ e ∈ r.o.after, Region.binds .any e = true → listed.getD e.on false = true) {t : Tmp} (ht : t ∈ r.o.looksAt ops) {v : Value} (hv : r.tm.get t = some v) :
    ∃ cv, a.tmps[t]? = some cv ∧ VR ρ v cv := by
  have hilt := X.lt hr
  have hst := Ctx.stOf (fin := fin) hr
  rw [← hst.1] at hv
  have hlate : ∀ j r', listed.getD j false = true → fw[j]? = some r' → r'.o.dst = some t → j < i := fun j r' h1 h2 h3 => by
    rcases Nat.lt_trichotomy j i with h | h | h
    · exact h
    · subst h; rw [hni] at h1; cases h1
    · have hbit := X.order h (X.rcOf hr).2.1 (X.rcOf h2).2.1 (apart_read' (ops := ops) h3 ht)
      have := Way.ahead X I j h1 i hbit
      rw [hni] at this; cases this
  rcases X.slot i (by omega) t v hv with ⟨j, q, h1, h2, h3, h4, h5⟩ | ⟨h1, h2⟩
  · have hbit := X.order h1 (X.rcOf h2).2.1 (X.rcOf hr).2.1 (apart_read (ops := ops) h3 ht)
    have hD := Way.aheadR X I hr hready j hbit
    rw [← h4]
    exact I.last t j q hD h2 h3 fun j' r' g1 g2 g3 => h5 j' r' (hlate j' r' g1 g2 g3) g2 g3
  · exact I.nobody t v (fun j r' g1 g2 g3 => h1 j r' (hlate j r' g1 g2 g3) g2 g3) h2

omit X in
theorem gr (hG : GR E ρ0) : GR E ρ := hG.mono I.fr.ext

theorem operands (hG : GR E ρ0) (hr : fw[i]? = some r) (hni : listed.getD i false = false) (hready : ∀ e ∈ r.o.after, Region.binds .any e = true → listed.getD e.on false = true) : OT E ρ r.tm a r.o.op.operands.toList := by
  intro x hx v hv
  cases x with
  | tmp t =>
    obtain ⟨cv, h1, h2⟩ := Way.slotOK X I hr hni hready (t := t) (by unfold Oper.looksAt; exact List.mem_append_left _ (List.mem_filterMap.2 ⟨.tmp t, hx, rfl⟩)) hv
    simp only [Act.eval, Array.getD_eq_getD_getElem?, h1, Option.getD_some]
    exact h2
  | const u =>
    simp only [opd, Bool.cond_eq_ite] at hv
    split at hv
    · rename_i hf; simp only [Option.some.injEq] at hv; subst hv; exact .flat 3 hf
    · cases hv
  | global g =>
    simp only [opd, Bool.cond_eq_ite] at hv
    split at hv
    · rename_i hg
      simp only [Option.some.injEq] at hv; subst hv
      obtain ⟨q, h1, h2, h3⟩ := Way.gr I hG g hg
      have := VR.ptr (o := 0) h1
      rw [h2, h3] at this
      exact this
    · cases hv
  | func f =>
    simp only [opd, Option.some.injEq] at hv
    subst hv
    exact .func rfl (fun i x y hx => by simp at hx) rfl (fun i x y hx => by simp at hx)

theorem wanted (hr : fw[i]? = some r) (hni : listed.getD i false = false) (hready : ∀ e ∈ r.o.after, Region.binds .any e = true → listed.getD e.on false = true) : Region.wanted r.o (yielded ops a.tmps) = r.done :=
  goes_sound (X.step hr).1 fun j want t u h1 h2 h3 => Way.slotOK X I hr hni hready (t := t) (by unfold Oper.looksAt; exact List.mem_append_right _ (by simp [h1, h2])) h3

/-- The slots behind one more. -/
theorem slots' {ρ' : Ren} (hρ : ∀ s q, ρ s = some q → ρ' s = some q) (hr : fw[i]? = some r) (hni : listed.getD i false = false) {cv : Value} (hV : VR ρ' r.v cv) :
    (∀ t v, (∀ j r', (listed.setIfInBounds i true).getD j false = true → fw[j]? = some r' → r'.o.dst ≠ some t) → tm0.get t = some v → ∃ cu, (a.put r.o.dst cv).tmps[t]? = some cu ∧ VR ρ' v cu) ∧
    (∀ t j q, (listed.setIfInBounds i true).getD j false = true → fw[j]? = some q → q.o.dst = some t → (∀ j' r', (listed.setIfInBounds i true).getD j' false = true → fw[j']? = some r' → r'.o.dst = some t → j' ≤ j) → ∃ cu, (a.put r.o.dst cv).tmps[t]? = some cu ∧ VR ρ' q.v cu) ∧
    (∀ t v, tm0.get t = some v → t < (a.put r.o.dst cv).tmps.size) := by
  have hil : i < listed.size := by rw [I.size]; exact X.lt hr
  have hother : ∀ t, r.o.dst ≠ some t → (a.put r.o.dst cv).tmps[t]? = a.tmps[t]? := fun t ht => by
    cases hd : r.o.dst with
    | none => rfl
    | some d => simp only [Act.put]; rw [Array.getElem?_setIfInBounds_ne]; intro e; subst e; exact ht hd
  have hsz : (a.put r.o.dst cv).tmps.size = a.tmps.size := by cases r.o.dst <;> simp [Act.put]
  refine ⟨fun t v h1 h2 => ?_, fun t j q h1 h2 h3 h4 => ?_, fun t v h => by rw [hsz]; exact I.wide t v h⟩
  · have hne := h1 i r ((set_get hil).2 (.inl rfl)) hr
    rw [hother t hne]
    obtain ⟨cu, e1, e2⟩ := I.nobody t v (fun j r' g1 g2 => h1 j r' ((set_get hil).2 (.inr g1)) g2) h2
    exact ⟨cu, e1, e2.mono hρ⟩
  · rcases (set_get hil).1 h1 with rfl | hD
    · rw [hr] at h2; cases h2
      have hp := (X.step hr).2.2.2.2
      rw [h3] at hp
      simp only [putD] at hp
      split at hp
      · rename_i u hu
        rw [← (Ctx.stOf (fin := fin) hr).1] at hu
        obtain ⟨u0, hu0⟩ := X.dom j (Nat.le_of_lt (X.lt hr)) t u hu
        have hlt := I.wide t u0 hu0
        exact ⟨cv, by rw [h3]; simp [Act.put, hlt], hV⟩
      · cases hp
    · have hji : j ≠ i := by intro e; subst e; rw [hni] at hD; cases hD
      by_cases hd : r.o.dst = some t
      · have hle := h4 i r ((set_get hil).2 (.inl rfl)) hr hd
        have hbit := X.order (i := i) (j := j) (by omega) (X.rcOf hr).2.1 (X.rcOf h2).2.1 (apart_both (ops := ops) hd h3)
        have := Way.ahead X I j hD i hbit
        rw [hni] at this; cases this
      · rw [hother t hd]
        obtain ⟨cu, e1, e2⟩ := I.last t j q hD h2 h3 fun j' r' g1 g2 g3 => h4 j' r' ((set_get hil).2 (.inr g1)) g2 g3
        exact ⟨cu, e1, e2.mono hρ⟩

theorem closed' (hr : fw[i]? = some r) (hready : ∀ e ∈ r.o.after, Region.binds .any e = true → listed.getD e.on false = true) :
    ∀ j o, (listed.setIfInBounds i true).getD j false = true → ops[j]? = some o → ∀ e ∈ o.after, Region.binds .any e = true → (listed.setIfInBounds i true).getD e.on false = true := by
  have hil : i < listed.size := by rw [I.size]; exact X.lt hr
  intro j o h1 h2 e he hb
  rw [set_get hil] at h1 ⊢
  rcases h1 with rfl | h1
  · have := (X.rcOf hr).2.1
    rw [h2] at this; cases this
    exact .inr (hready e he hb)
  · exact .inr (I.closed j o h1 h2 e he hb)

/-- Behind one that leaves the memory as it was. -/
theorem quiet (hr : fw[i]? = some r) (hni : listed.getD i false = false) (hready : ∀ e ∈ r.o.after, Region.binds .any e = true → listed.getD e.on false = true) (hne : kind E.P r.o.op ≠ 3) (hnm : ¬ (r.done = true ∧ kind E.P r.o.op = 1)) {cv : Value} (hV : VR ρ r.v cv) :
    Way E ops fw fin tm0 H0 c0 ρ0 a0 w0 (listed.setIfInBounds i true) (a.put r.o.dst cv) w ρ p := by
  have hil : i < listed.size := by rw [I.size]; exact X.lt hr
  obtain ⟨s1, s2, s3⟩ := Way.slots' X I (fun _ _ h => h) hr hni hV
  have hie : i ∉ effects E.P ops.toList 0 := fun h => hne ((X.isEffect hr).1 h)
  have hold : ∀ {j : Nat} {q : Rec}, (listed.setIfInBounds i true).getD j false = true → fw[j]? = some q → q.done = true → kind E.P q.o.op = 1 → listed.getD j false = true := fun {j q} h1 h2 h3 h4 => by
    rcases (set_get hil).1 h1 with rfl | h1
    · rw [hr] at h2; cases h2; exact absurd ⟨h3, h4⟩ hnm
    · exact h1
  exact {
    size := by simp [I.size]
    closed := Way.closed' X I hr hready
    pn := I.pn
    pd := fun e he => by
      rw [set_get hil, ← I.pd e he]
      exact ⟨fun h => h.resolve_left fun h => hie (h ▸ he), .inr⟩
    wide := s3
    nobody := s1
    last := s2
    rel := I.rel
    side := fun j q h1 h2 h3 h4 h5 => I.side j q (hold h1 h3 h4 h5) h2 h3 h4 h5
    side2 := fun j q j' q' u u' h1 h2 h3 h4 h5 h1' h2' h3' h4' h5' => I.side2 j q j' q' u u' (hold h1 h3 h4 h5) h2 h3 h4 h5 (hold h1' h3' h4' h5') h2' h3' h4' h5'
    fresh := fun j q h1 h2 => I.fresh j q ((set_get_f hil).1 h1).2 h2
    wait := fun j q h1 => I.wait j q ((set_get_f hil).1 h1).2
    top := I.top
    fr := I.fr
    defers := by rw [← I.defers]; cases r.o.dst <;> rfl }

/-- Behind one that makes memory. -/
theorem made (hr : fw[i]? = some r) (hni : listed.getD i false = false) (hready : ∀ e ∈ r.o.after, Region.binds .any e = true → listed.getD e.on false = true) (hd : r.done = true) (hk : kind E.P r.o.op = 1) {ob : Ob} (hob : hpA fw fin (i + 1) = r.H.put ob .dead 64 r.c) (hlt : r.c < 9223372036854775808)
    {cv : Value} {cob : Obj} {w' : World} {ext : Nat} (hheap : w'.heap = w.heap.push cob) (hos : w'.os = w.os) (htape : w'.tape = w.tape) (hout : w'.output = w.output)
    (hAll : ∀ (ρ' : Ren), (∀ s q, ρ s = some q → ρ' s = some q) → ρ' r.c = some ⟨w.heap.size, 0, ext⟩ → VR ρ' r.v cv ∧ ∀ w'', w''.heap[w.heap.size]? = some cob → OR ρ' ⟨w.heap.size, 0, ext⟩ w'' ob) :
    ∃ ρ', Way E ops fw fin tm0 H0 c0 ρ0 a0 w0 (listed.setIfInBounds i true) (a.put r.o.dst cv) w' ρ' p := by
  have hil : i < listed.size := by rw [I.size]; exact X.lt hr
  have hilt := X.lt hr
  have hst := Ctx.stOf (fin := fin) hr
  have hcc := X.mkc hr hd hk
  have hfresh : ρ r.c = .none := I.fresh i r hni hr r.c (Nat.le_refl _) (by omega)
  have hne : kind E.P r.o.op ≠ 3 := by rw [hk]; simp
  have hie : i ∉ effects E.P ops.toList 0 := fun h => hne ((X.isEffect hr).1 h)
  have hip : i ≠ p := fun e => by
    rcases I.pn.1 with h | h
    · omega
    · exact hie (e ▸ h)
  let ρ' : Ren := fun s => if s = r.c then some ⟨w.heap.size, 0, ext⟩ else ρ s
  have hρ : ∀ s q, ρ s = some q → ρ' s = some q := fun s q hs => by
    show (if s = r.c then _ else _) = _
    rw [if_neg]; exact hs
    intro e; subst e; rw [hfresh] at hs; cases hs
  have hρc : ρ' r.c = some ⟨w.heap.size, 0, ext⟩ := by show (if r.c = r.c then _ else _) = _; rw [if_pos rfl]
  have hinv : ∀ s q, ρ' s = some q → (s = r.c ∧ q = ⟨w.heap.size, 0, ext⟩) ∨ (s ≠ r.c ∧ ρ s = some q) := fun s q hs => by
    by_cases e : s = r.c
    · subst e; rw [hρc] at hs; exact .inl ⟨rfl, (Option.some.inj hs).symm⟩
    · refine .inr ⟨e, ?_⟩
      have : ρ' s = ρ s := by show (if s = r.c then _ else _) = _; rw [if_neg e]
      rw [← this]; exact hs
  obtain ⟨hV, hO⟩ := hAll ρ' hρ hρc
  obtain ⟨s1, s2, s3⟩ := Way.slots' X I hρ hr hni hV
  have hlk : lk (hpA fw fin (i + 1)) r.c = ob := by rw [hob, lk_put _ _ _ _ (by omega), if_pos rfl]
  have hold : ∀ k, k < w.heap.size → w'.heap[k]? = w.heap[k]? := fun k hk => by rw [hheap, Array.getElem?_push, if_neg (by omega)]
  have hnew : w'.heap[w.heap.size]? = some cob := by rw [hheap]; simp
  -- what stands at the number by the memory that is told
  have hhere : lk (hpA fw fin p) r.c = ob ∨ lk (hpA fw fin p) r.c = .dead := by
    rcases Nat.lt_or_ge i p with h | h
    · left; rw [← hlk]; exact I.wait i r hni h hr hd hk
    · right
      refine I.top _ ?_
      have := X.mono' (k := p) (k' := i) h (by omega)
      rw [hst.2.2] at this; exact this
  refine ⟨ρ', {
    size := by simp [I.size]
    closed := Way.closed' X I hr hready
    pn := I.pn
    pd := fun e he => by
      rw [set_get hil, ← I.pd e he]
      exact ⟨fun h => h.resolve_left fun h => hie (h ▸ he), .inr⟩
    wide := s3
    nobody := s1
    last := s2
    rel := ⟨fun s q hq => ?_, fun s t q u h1 h2 h3 h4 h5 => ?_, fun s q hq => ?_⟩
    side := fun j q h1 h2 h3 h4 h5 => ?_
    side2 := fun j q j' q' u u' h1 h2 h3 h4 h5 h1' h2' h3' h4' h5' h6 h7 h8 => ?_
    fresh := fun j q h1 h2 s h3 h4 => ?_
    wait := fun j q h1 => I.wait j q ((set_get_f hil).1 h1).2
    top := I.top
    fr := ?_
    defers := by rw [← I.defers]; cases r.o.dst <;> rfl }⟩
  · rcases hinv s q hq with ⟨rfl, rfl⟩ | ⟨hs, hq'⟩
    · rcases hhere with h | h
      · rw [h]; exact hO w' hnew
      · rw [h]; trivial
    · exact ((I.rel.obj s q hq').mono hρ).congr (hold _ (I.rel.below s q hq'))
  · rcases hinv s q h3 with ⟨rfl, rfl⟩ | ⟨hne1, hq'⟩ <;> rcases hinv t u h4 with ⟨rfl, rfl⟩ | ⟨hne2, hu'⟩
    · exact absurd rfl h5
    · have := I.rel.below t u hu'; simp only; omega
    · have := I.rel.below s q hq'; simp only; omega
    · exact I.rel.apart s t q u h1 h2 hq' hu' h5
  · rw [hheap]
    rcases hinv s q hq with ⟨rfl, rfl⟩ | ⟨hs, hq'⟩
    · simp
    · have := I.rel.below s q hq'; simp; omega
  · rcases (set_get hil).1 h1 with rfl | h1
    · rw [hr] at h3; cases h3
      refine ⟨_, hρc, by rw [hlk]; exact hO w' hnew, I.fr.size, fun s u h6 h7 => ?_⟩
      rcases hinv s u h7 with ⟨rfl, rfl⟩ | ⟨hs, hu'⟩
      · exfalso
        have hdead : lk (hpA fw fin p) r.c = .dead := I.top _ (by
          have := X.mono' (k := p) (k' := j) h2 (by omega)
          rw [hst.2.2] at this; exact this)
        rw [hdead] at h6; cases h6
      · have := I.rel.below s u hu'; simp only; omega
    · obtain ⟨u, e1, e2, e3, e4⟩ := I.side j q h1 h2 h3 h4 h5
      have hub := I.rel.below q.c u e1
      refine ⟨u, hρ _ _ e1, (e2.mono hρ).congr (hold _ hub), e3, fun s x h6 h7 => ?_⟩
      rcases hinv s x h7 with ⟨rfl, rfl⟩ | ⟨hs, hx'⟩
      · simp only; omega
      · exact e4 s x h6 hx'
  · have hor : ∀ {j : Nat} {q : Rec} {u : Pl}, (listed.setIfInBounds i true).getD j false = true → fw[j]? = some q → ρ' q.c = some u → (j = i ∧ u.block = w.heap.size) ∨ (j ≠ i ∧ listed.getD j false = true ∧ (q.c ≠ r.c → ρ q.c = some u)) := fun {j q u} g1 g2 g3 => by
      by_cases e : j = i
      · subst e; rw [hr] at g2; cases g2
        rw [hρc] at g3; cases g3; exact .inl ⟨rfl, rfl⟩
      · refine .inr ⟨e, ((set_get hil).1 g1).resolve_left e, fun hqc => ?_⟩
        rcases hinv _ _ g3 with ⟨h, _⟩ | ⟨_, h⟩
        · exact absurd h hqc
        · exact h
    rcases hor h1 h3 h7 with ⟨rfl, e1⟩ | ⟨n1, g1, k1⟩ <;> rcases hor h1' h3' h8 with ⟨rfl, e2⟩ | ⟨n2, g2, k2⟩
    · exact absurd rfl h6
    · have := I.rel.below _ _ (k2 (X.mkne h3' hr h4' h5' hd hk n2)); omega
    · have := I.rel.below _ _ (k1 (X.mkne h3 hr h4 h5 hd hk n1)); omega
    · exact I.side2 j q j' q' u u' g1 h2 h3 h4 h5 g2 h2' h3' h4' h5' h6 (k1 (X.mkne h3 hr h4 h5 hd hk n1)) (k2 (X.mkne h3' hr h4' h5' hd hk n2))
  · obtain ⟨n1, g1⟩ := (set_get_f hil).1 h1
    have hs := I.fresh j q g1 h2 s h3 h4
    have hsc : s ≠ r.c := by
      intro e; subst e
      have l1 := X.lt h2
      have s1 := (Ctx.stOf (fin := fin) h2).2.2
      rcases Nat.lt_or_ge j i with hlt' | hge
      · have := X.mono' (k := j + 1) (k' := i) (by omega) (by omega); omega
      · have := X.mono' (k := i + 1) (k' := j) (by omega) (by omega); omega
    show (if s = r.c then _ else _) = _
    rw [if_neg hsc]; exact hs
  · have hc0 := X.mono' (k := 0) (k' := i) (by omega) (by omega)
    have hcn := X.mono' (k := i + 1) (k' := ops.size) (by omega) (Nat.le_refl _)
    rw [X.start.2.2, hst.2.2] at hc0
    rw [X.last.2.2, hcc] at hcn
    exact {
      ext := fun s q hs => hρ _ _ (I.fr.ext s q hs)
      new := fun s q h1 h2 => by
        rcases hinv s q h2 with ⟨rfl, rfl⟩ | ⟨_, h2⟩
        · omega
        · exact I.fr.new s q h1 h2
      le := I.fr.le
      unreal := I.fr.unreal
      keep := fun B hB hk => by rw [hold B (Nat.lt_of_lt_of_le hB I.fr.size)]; exact I.fr.keep B hB hk
      writ := fun s q h1 h2 => by
        rcases hinv s q h2 with ⟨rfl, rfl⟩ | ⟨_, h2⟩
        · exact .inl I.fr.size
        · exact I.fr.writ s q h1 h2
      liv := fun s q h1 h2 => by
        rcases hinv s q h2 with ⟨rfl, rfl⟩ | ⟨_, h2⟩
        · exact .inl I.fr.size
        · exact I.fr.liv s q h1 h2
      top := I.fr.top
      size := by rw [hheap]; have := I.fr.size; simp; omega
      os := hos.trans I.fr.os
      tape := htape.trans I.fr.tape
      output := hout.trans I.fr.output }

/-- Behind one that may change memory. -/
theorem effect (hr : fw[i]? = some r) (hni : listed.getD i false = false) (hready : ∀ e ∈ r.o.after, Region.binds .any e = true → listed.getD e.on false = true) (hk : kind E.P r.o.op = 3) (hip : i = p)
    {ρ' : Ren} {w' : World} {cv : Value} (hV : VR ρ' r.v cv) (hRel : Rel ρ' (hpA fw fin (i + 1)) w') (hF : Fr ρ (hpA fw fin i) w ρ' (hpA fw fin (i + 1)) w' (ccA fw fin i) (ccA fw fin (i + 1))) :
    ∃ p', Way E ops fw fin tm0 H0 c0 ρ0 a0 w0 (listed.setIfInBounds i true) (a.put r.o.dst cv) w' ρ' p' := by
  subst hip
  have hil : i < listed.size := by rw [I.size]; exact X.lt hr
  have hilt := X.lt hr
  have hie : i ∈ effects E.P ops.toList 0 := (X.isEffect hr).2 hk
  obtain ⟨s1, s2, s3⟩ := Way.slots' X I hF.ext hr hni hV
  have hcl := Way.closed' X I hr hready
  have hltn : ∀ e ∈ effects E.P ops.toList 0, e < ops.size := fun e he => by
    obtain ⟨k, o, h1, h2, _⟩ := (mem_effects _ _ _ _).1 he
    have := (List.getElem?_eq_some_iff.1 h2).1
    simp at this; omega
  obtain ⟨p', hp1, hp2, hp3⟩ := next_effect (D := fun e => (listed.setIfInBounds i true).getD e false = true) ops.size (effects E.P ops.toList 0) (effects_sorted _ _ _) hltn (fun e he hDe e' he' hlt => by
    rw [set_get hil] at hDe ⊢
    rcases hDe with rfl | hDe
    · exact .inr ((I.pd e' he').2 hlt)
    · have := (I.pd e he).1 hDe
      exact .inr ((I.pd e' he').2 (by omega)))
  have hpi : i < p' := (hp3 i hie).1 ((set_get hil).2 (.inl rfl))
  have hno : ∀ j, i + 1 ≤ j → j < p' → j ∉ effects E.P ops.toList 0 := fun j h1 h2 h3 => by
    have := (hp3 j h3).2 h2
    rw [set_get hil] at this
    rcases this with h | h
    · omega
    · have := (I.pd j h3).1 h; omega
  have gap := fun s => X.gap' (x := i + 1) (y := p') (by omega) hp2 hno s
  -- numbers made in between
  have hbet : ∀ {s j : Nat} {q : Rec}, NewAt E fw (i + 1) p' s j q → ccA fw fin (i + 1) ≤ s ∧ s < ccA fw fin p' := fun {s j q} ⟨h1, h2, h3, h4, h5, h6⟩ => by
    have e1 := X.mkc h3 h4 h5
    have e2 := (Ctx.stOf (fin := fin) h3).2.2
    have e3 := X.mono' (k := i + 1) (k' := j) h1 (by omega)
    have e4 := X.mono' (k := j + 1) (k' := p') (by omega) hp2
    omega
  have hnone : ∀ {s j : Nat} {q : Rec}, NewAt E fw (i + 1) p' s j q → listed.getD j false = false → ρ' s = .none := fun {s j q} hN hj => by
    have hb := hbet hN
    obtain ⟨h1, h2, h3, h4, h5, h6⟩ := hN
    have e1 := X.mkc h3 h4 h5
    have hs := I.fresh j q hj h3 s (by omega) (by omega)
    cases hs' : ρ' s with
    | none => rfl
    | some u => have := hF.new s u hs hs'; omega
  have hside : ∀ {s j : Nat} {q : Rec}, NewAt E fw (i + 1) p' s j q → listed.getD j false = true → ∃ u, ρ s = some u ∧ OR ρ u w (lk (hpA fw fin (j + 1)) s) ∧ w0.heap.size ≤ u.block ∧ (∀ s' u', lives (lk (hpA fw fin i) s') = true → ρ s' = some u' → u'.block ≠ u.block) := fun {s j q} ⟨h1, h2, h3, h4, h5, h6⟩ hj => by
    subst h6; exact I.side j q hj (by omega) h3 h4 h5
  -- a block that stood aside stays
  have hstay : ∀ {u : Pl} {s : Nat}, ρ s = some u → (∀ s' u', lives (lk (hpA fw fin i) s') = true → ρ s' = some u' → u'.block ≠ u.block) → w'.heap[u.block]? = w.heap[u.block]? := fun {u s} h1 h2 =>
    hF.keep _ (I.rel.below s u h1) fun s' u' h3 h4 => h2 s' u' (wr_lives h3) h4
  have hlive : ∀ {u : Pl} {s : Nat}, ρ s = some u → (∀ s' u', lives (lk (hpA fw fin i) s') = true → ρ s' = some u' → u'.block ≠ u.block) → ∀ s' u', lives (lk (hpA fw fin (i + 1)) s') = true → ρ' s' = some u' → u'.block ≠ u.block := fun {u s} h1 h2 s' u' h3 h4 => by
    rcases hF.liv s' u' h3 h4 with h | ⟨t, x, g1, g2, g3⟩
    · have := I.rel.below s u h1; omega
    · rw [← g3]; exact h2 t x g1 g2
  -- the live ones at the next effect
  have hat : ∀ s u, lives (lk (hpA fw fin p') s) = true → ρ' s = some u → (∃ j q, NewAt E fw (i + 1) p' s j q ∧ listed.getD j false = true ∧ ρ s = some u) ∨ (lives (lk (hpA fw fin (i + 1)) s) = true ∧ lk (hpA fw fin p') s = lk (hpA fw fin (i + 1)) s) := fun s u h1 h2 => by
    rcases gap s with ⟨j, q, hN, e1, e2⟩ | ⟨hN, e⟩
    · left
      cases hj : listed.getD j false with
      | false => rw [hnone hN hj] at h2; cases h2
      | true =>
        obtain ⟨u', g1, _⟩ := hside hN hj
        have := hF.ext s u' g1
        rw [h2] at this; cases this
        exact ⟨j, q, hN, hj, g1⟩
    · right; rw [e] at h1; exact ⟨h1, e⟩
  refine ⟨p', {
    size := by simp [I.size]
    closed := hcl
    pn := ⟨hp1, hp2⟩
    pd := hp3
    wide := s3
    nobody := s1
    last := s2
    rel := ⟨fun s u hu => ?_, fun s t q u h1 h2 h3 h4 h5 => ?_, hRel.below⟩
    side := fun j q h1 h2 h3 h4 h5 => ?_
    side2 := fun j q j' q' u u' h1 h2 h3 h4 h5 h1' h2' h3' h4' h5' h6 h7 h8 => ?_
    fresh := fun j q h1 h2 s h3 h4 => ?_
    wait := fun j q h1 h2 h3 h4 h5 => ?_
    top := fun s hs => ?_
    fr := ?_
    defers := by rw [← I.defers]; cases r.o.dst <;> rfl }⟩
  · rcases gap s with ⟨j, q, hN, e1, e2⟩ | ⟨hN, e⟩
    · cases hj : listed.getD j false with
      | false => rw [hnone hN hj] at hu; cases hu
      | true =>
        obtain ⟨u', g1, g2, g3, g4⟩ := hside hN hj
        have := hF.ext s u' g1
        rw [hu] at this; cases this
        rw [e1]
        exact (g2.mono hF.ext).congr (hstay g1 g4)
    · rw [e]; exact hRel.obj s u hu
  · rcases hat s q h1 h3 with ⟨j, x, hN, hj, g⟩ | ⟨g1, g2⟩ <;> rcases hat t u h2 h4 with ⟨j', x', hN', hj', g'⟩ | ⟨g1', g2'⟩
    · obtain ⟨b1, b2, b3, b4, b5, b6⟩ := hN
      obtain ⟨b1', b2', b3', b4', b5', b6'⟩ := hN'
      have hjj : j ≠ j' := by intro e; subst e; rw [b3] at b3'; cases b3'; exact h5 (b6.trans b6'.symm)
      subst b6; subst b6'
      exact I.side2 j x j' x' q u hj (by omega) b3 b4 b5 hj' (by omega) b3' b4' b5' hjj g g'
    · obtain ⟨u', k1, _, _, k4⟩ := hside hN hj
      rw [g] at k1; cases k1
      exact (hlive g k4 t u g1' h4).symm
    · obtain ⟨u', k1, _, _, k4⟩ := hside hN' hj'
      rw [g'] at k1; cases k1
      exact hlive g' k4 s q g1 h3
    · exact hRel.apart s t q u g1 g1' h3 h4 h5
  · have hji : j ≠ i := by omega
    have hj := ((set_get hil).1 h1).resolve_left hji
    obtain ⟨u, g1, g2, g3, g4⟩ := I.side j q hj (by omega) h3 h4 h5
    refine ⟨u, hF.ext _ _ g1, (g2.mono hF.ext).congr (hstay g1 g4), g3, fun s x h6 h7 => ?_⟩
    rcases hat s x h6 h7 with ⟨j', q', hN, hj', g'⟩ | ⟨k1, k2⟩
    · obtain ⟨b1, b2, b3, b4, b5, b6⟩ := hN
      subst b6
      exact I.side2 j' q' j q x u hj' (by omega) b3 b4 b5 hj (by omega) h3 h4 h5 (by omega) g' g1
    · exact hlive g1 g4 s x k1 h7
  · have hj := ((set_get hil).1 h1).resolve_left (by omega)
    have hj' := ((set_get hil).1 h1').resolve_left (by omega)
    obtain ⟨x, g1, _⟩ := I.side j q hj (by omega) h3 h4 h5
    obtain ⟨x', g1', _⟩ := I.side j' q' hj' (by omega) h3' h4' h5'
    have e1 := hF.ext _ _ g1
    have e2 := hF.ext _ _ g1'
    rw [h7] at e1; cases e1
    rw [h8] at e2; cases e2
    exact I.side2 j q j' q' u u' hj (by omega) h3 h4 h5 hj' (by omega) h3' h4' h5' h6 g1 g1'
  · obtain ⟨n1, g1⟩ := (set_get_f hil).1 h1
    have hs := I.fresh j q g1 h2 s h3 h4
    cases hs' : ρ' s with
    | none => rfl
    | some u =>
      exfalso
      have hb := hF.new s u hs hs'
      have l1 := X.lt h2
      have s1 := (Ctx.stOf (fin := fin) h2).2.2
      rcases Nat.lt_or_ge j i with hlt' | hge
      · have := X.mono' (k := j + 1) (k' := i) (by omega) (by omega); omega
      · have := X.mono' (k := i + 1) (k' := j) (by omega) (by omega); omega
  · obtain ⟨n1, g1⟩ := (set_get_f hil).1 h1
    have hcc := X.mkc h3 h4 h5
    have s1 := (Ctx.stOf (fin := fin) h3).2.2
    have hs := I.fresh j q g1 h3 q.c (Nat.le_refl _) (by omega)
    rcases gap q.c with ⟨j', q', hN, e1, e2⟩ | ⟨hN, e⟩
    · obtain ⟨b1, b2, b3, b4, b5, b6⟩ := hN
      have : j' = j := by
        by_cases hjj : j' = j
        · exact hjj
        · exact absurd b6.symm (X.mkne b3 h3 b4 b5 h4 h5 hjj)
      subst this; exact e1
    · rw [e]
      have hji : j < i := by
        rcases Nat.lt_or_ge j (i + 1) with h | h
        · omega
        · exact absurd ⟨h, h2, h3, h4, h5, rfl⟩ (hN j q)
      have hm := X.mono' (k := j + 1) (k' := i) (by omega) (by omega)
      rw [hF.unreal q.c hs (by omega)]
      exact I.wait j q g1 hji h3 h4 h5
  · have htop := hF.top I.top
    rcases gap s with ⟨j, q, hN, e1, e2⟩ | ⟨hN, e⟩
    · have := hbet hN; omega
    · rw [e]
      have := X.mono' (k := i + 1) (k' := p') (by omega) hp2
      exact htop s (by omega)
  · have hc0 := X.mono' (k := 0) (k' := i) (by omega) (by omega)
    have hcn := X.mono' (k := i + 1) (k' := ops.size) (by omega) (Nat.le_refl _)
    have hci := X.mono' (k := i) (k' := i + 1) (by omega) (by omega)
    have hcp := X.mono' (k := p') (k' := ops.size) hp2 (Nat.le_refl _)
    rw [X.start.2.2] at hc0
    rw [X.last.2.2] at hcn hcp
    have hnew : ∀ s q, ρ0 s = .none → ρ' s = some q → c0 ≤ s ∧ s < fin.2.2 := fun s q h1 h2 => by
      cases h3 : ρ s with
      | none => have := hF.new s q h3 h2; omega
      | some u => exact I.fr.new s u h1 h3
    exact {
      ext := fun s q hs => hF.ext _ _ (I.fr.ext s q hs)
      new := hnew
      le := I.fr.le
      unreal := fun s h1 h2 => by
        have h3 : ρ s = .none := by
          cases h3 : ρ s with
          | none => rfl
          | some u => have := I.fr.new s u h1 h3; omega
        rcases gap s with ⟨j, q, hN, e1, e2⟩ | ⟨hN, e⟩
        · have := hbet hN; omega
        · rw [e, hF.unreal s h3 (by omega)]; exact I.fr.unreal s h1 h2
      keep := fun B hB hk => by
        rw [hF.keep B (Nat.lt_of_lt_of_le hB I.fr.size) fun s u h1 h2 => ?_]
        · exact I.fr.keep B hB hk
        · rcases I.fr.writ s u h1 h2 with h | ⟨t, x, g1, g2, g3⟩
          · omega
          · rw [← g3]; exact hk t x g1 g2
      writ := fun s u h1 h2 => by
        rcases hat s u (wr_lives h1) h2 with ⟨j, q, hN, hj, g⟩ | ⟨g1, g2⟩
        · obtain ⟨u', k1, _, k3, _⟩ := hside hN hj
          rw [g] at k1; cases k1; exact .inl k3
        · rw [g2] at h1
          rcases hF.writ s u h1 h2 with h | ⟨t, x, k1, k2, k3⟩
          · exact .inl (Nat.le_trans I.fr.size h)
          · rcases I.fr.writ t x k1 k2 with h | ⟨t', x', m1, m2, m3⟩
            · exact .inl (k3 ▸ h)
            · exact .inr ⟨t', x', m1, m2, m3.trans k3⟩
      liv := fun s u h1 h2 => by
        rcases hat s u h1 h2 with ⟨j, q, hN, hj, g⟩ | ⟨g1, g2⟩
        · obtain ⟨u', k1, _, k3, _⟩ := hside hN hj
          rw [g] at k1; cases k1; exact .inl k3
        · rcases hF.liv s u g1 h2 with h | ⟨t, x, k1, k2, k3⟩
          · exact .inl (Nat.le_trans I.fr.size h)
          · rcases I.fr.liv t x k1 k2 with h | ⟨t', x', m1, m2, m3⟩
            · exact .inl (k3 ▸ h)
            · exact .inr ⟨t', x', m1, m2, m3.trans k3⟩
      top := fun ht s hs => by
        have htop := hF.top I.top
        rcases gap s with ⟨j, q, hN, e1, e2⟩ | ⟨hN, e⟩
        · have := hbet hN; omega
        · rw [e]; exact htop s (by omega)
      size := Nat.le_trans I.fr.size hF.size
      os := hF.os.trans I.fr.os
      tape := hF.tape.trans I.fr.tape
      output := hF.output.trans I.fr.output }

end Way
end
end Ce

namespace Ce
open Go

section
variable {E : Env} {R : CallR} {ops : Array Oper} {fw : List Rec} {fin : Tr Value × Hp × Nat} {tm0 : Tr Value} {H0 : Hp} {c0 : Nat} {ρ0 : Ren} {a0 : Act} {w0 : World}

theorem way_start (X : Ctx E R ops fw fin tm0 H0 c0) (hT : TR ρ0 tm0 a0.tmps) (hR : Rel ρ0 H0 w0) (hTop : Top H0 c0) (hfresh : ∀ r, c0 ≤ r → r < fin.2.2 → ρ0 r = none) :
    ∃ p, Way E ops fw fin tm0 H0 c0 ρ0 a0 w0 (Array.replicate ops.size false) a0 w0 ρ0 p := by
  have hF : ∀ j, (Array.replicate ops.size false).getD j false = true → False := fun j h => by
    rw [Array.getD_eq_getD_getElem?, Array.getElem?_replicate] at h
    split at h <;> simp at h
  have hltn : ∀ e ∈ effects E.P ops.toList 0, e < ops.size := fun e he => by
    obtain ⟨k, o, h1, h2, _⟩ := (mem_effects _ _ _ _).1 he
    have := (List.getElem?_eq_some_iff.1 h2).1
    simp at this; omega
  obtain ⟨p, hp1, hp2, hp3⟩ := next_effect (D := fun _ => False) ops.size (effects E.P ops.toList 0) (effects_sorted _ _ _) hltn (fun e _ h => h.elim)
  have hno : ∀ j, 0 ≤ j → j < p → j ∉ effects E.P ops.toList 0 := fun j _ h2 h3 => (hp3 j h3).2 h2
  have gap := fun s => X.gap' (x := 0) (y := p) (by omega) hp2 hno s
  have hbet : ∀ {s j : Nat} {q : Rec}, NewAt E fw 0 p s j q → c0 ≤ s ∧ s < fin.2.2 ∧ s < ccA fw fin p := fun {s j q} ⟨h1, h2, h3, h4, h5, h6⟩ => by
    have e1 := X.mkc h3 h4 h5
    have e2 := (Ctx.stOf (fin := fin) h3).2.2
    have e3 := X.mono' (k := 0) (k' := j) h1 (by omega)
    have e4 := X.mono' (k := j + 1) (k' := p) (by omega) hp2
    have e5 := X.mono' (k := p) (k' := ops.size) hp2 (Nat.le_refl _)
    rw [X.start.2.2] at e3
    rw [X.last.2.2] at e5
    omega
  have hold : ∀ s q, ρ0 s = some q → lk (hpA fw fin p) s = lk H0 s := fun s q hq => by
    rcases gap s with ⟨j, r, hN, e1, e2⟩ | ⟨hN, e⟩
    · have hb := hbet hN
      rw [hfresh s hb.1 hb.2.1] at hq; cases hq
    · rw [e, X.start.2.1]
  have hle : c0 ≤ fin.2.2 := by have := X.mono' (k := 0) (k' := ops.size) (by omega) (Nat.le_refl _); rw [X.start.2.2, X.last.2.2] at this; exact this
  refine ⟨p, {
    size := by simp
    closed := fun j o h => (hF j h).elim
    pn := ⟨hp1, hp2⟩
    pd := fun e he => ⟨fun h => (hF e h).elim, fun h => ((hp3 e he).2 h).elim⟩
    wide := fun t v h => by obtain ⟨cv, h1, _⟩ := hT t v h; exact (Array.getElem?_eq_some_iff.1 h1).1
    nobody := fun t v _ h => hT t v h
    last := fun t j r h => (hF j h).elim
    rel := ⟨fun s q hq => by rw [hold s q hq]; exact hR.obj s q hq, fun s t q u h1 h2 h3 h4 h5 => by rw [hold s q h3] at h1; rw [hold t u h4] at h2; exact hR.apart s t q u h1 h2 h3 h4 h5, hR.below⟩
    side := fun j r h => (hF j h).elim
    side2 := fun j r j' r' q q' h => (hF j h).elim
    fresh := fun j r _ hr s h1 h2 => ?_
    wait := fun j r _ hj hr hd hk => ?_
    top := fun s hs => ?_
    fr := ?_
    defers := rfl }⟩
  · have l1 := X.lt hr
    have e2 := (Ctx.stOf (fin := fin) hr).2.2
    have e3 := X.mono' (k := 0) (k' := j) (by omega) (by omega)
    have e5 := X.mono' (k := j + 1) (k' := ops.size) (by omega) (Nat.le_refl _)
    rw [X.start.2.2] at e3
    rw [X.last.2.2] at e5
    exact hfresh s (by omega) (by omega)
  · rcases gap r.c with ⟨j', q', hN, e1, e2⟩ | ⟨hN, e⟩
    · obtain ⟨b1, b2, b3, b4, b5, b6⟩ := hN
      have : j' = j := by
        by_cases hjj : j' = j
        · exact hjj
        · exact absurd b6.symm (X.mkne b3 hr b4 b5 hd hk hjj)
      subst this; exact e1
    · exact absurd ⟨Nat.zero_le _, hj, hr, hd, hk, rfl⟩ (hN j r)
  · rcases gap s with ⟨j, q, hN, e1, e2⟩ | ⟨hN, e⟩
    · have := hbet hN; omega
    · rw [e, X.start.2.1]
      have := X.mono' (k := 0) (k' := p) (by omega) hp2
      rw [X.start.2.2] at this
      exact hTop s (by omega)
  · exact {
      ext := fun _ _ h => h
      new := fun s q h1 h2 => by simp [h1] at h2
      le := hle
      unreal := fun s h1 h2 => by
        rcases gap s with ⟨j, q, hN, e1, e2⟩ | ⟨hN, e⟩
        · have := hbet hN; omega
        · rw [e, X.start.2.1]
      keep := fun _ _ _ => rfl
      writ := fun s q h1 h2 => .inr ⟨s, q, by rw [← hold s q h2]; exact h1, h2, rfl⟩
      liv := fun s q h1 h2 => .inr ⟨s, q, by rw [← hold s q h2]; exact h1, h2, rfl⟩
      top := fun _ s hs => by
        rcases gap s with ⟨j, q, hN, e1, e2⟩ | ⟨hN, e⟩
        · have := hbet hN; omega
        · rw [e, X.start.2.1]; exact hTop s (by omega)
      size := Nat.le_refl _
      os := rfl
      tape := rfl
      output := rfl }

theorem ready_false {md : Region.Mode} {listed : Array Bool} {i : Nat} (h : i ∈ Region.ready md ops listed) : listed.getD i false = false := by
  have := (mem_ready.1 h).1
  rw [Array.getD_eq_getD_getElem?] at this ⊢
  cases h' : listed[i]? <;> simp_all

theorem way_step (hE : EnvOK E) (hC : CallOK E R) {Q : Exit → Act → World → Prop} (X : Ctx E R ops fw fin tm0 H0 c0) (hG : GR E ρ0) {listed : Array Bool} {a : Act} {w : World} {ρ : Ren} {p : Nat} (I : Way E ops fw fin tm0 H0 c0 ρ0 a0 w0 listed a w ρ p)
    {i : Nat} (hi : i ∈ Region.ready .any ops listed) : wpOp E.P ops Q i (fun a' w' => ∃ ρ' p', Way E ops fw fin tm0 H0 c0 ρ0 a0 w0 (listed.setIfInBounds i true) a' w' ρ' p') a w := by
  have hni := ready_false hi
  obtain ⟨_, o, ho, hedge⟩ := mem_ready.1 hi
  have hilt : i < ops.size := (Array.getElem?_eq_some_iff.1 ho).1
  obtain ⟨r, hr, hri, hro, _⟩ := X.rc hilt
  have hor : o = r.o := by rw [ho] at hro; exact Option.some.inj hro
  subst hor
  have hready : ∀ e ∈ r.o.after, Region.binds .any e = true → listed.getD e.on false = true := hedge
  have hst := Ctx.stOf (fin := fin) hr
  obtain ⟨k1, k2, k3, k4, k5⟩ := X.step hr
  have hip : kind E.P r.o.op = 3 → i = p := fun hk => by
    have hie := (X.isEffect hr).2 hk
    have hpre := Way.aheadR X I hr hready
    have hdone := effects_done (D := fun j => listed.getD j false = true) (fun j hj => Way.ahead X I j hj) (effects E.P ops.toList 0) X.chain (effects_sorted _ _ _) i hie hpre
    have h1 : ¬ i < p := fun h => by have := (I.pd i hie).2 h; rw [hni] at this; cases this
    rcases Nat.lt_or_ge p i with h | h
    · exfalso
      rcases I.pn.1 with h2 | h2
      · omega
      · have := (I.pd p h2).1 (hdone p h2 h); omega
    · omega
  unfold wpOp
  simp only [ho]
  rw [Way.wanted X I hr hni hready]
  cases hd : r.done with
  | false =>
    simp only [Bool.false_eq_true, if_false]
    obtain ⟨h1, h2, h3⟩ := k4 hd
    by_cases hk : kind E.P r.o.op = 3
    · have he := hip hk
      refine ⟨ρ, Way.effect X I hr hni hready hk he (ρ' := ρ) (w' := w) (by rw [h1]; exact VR.undef) ?_ ?_⟩
      · rw [h2, ← hst.2.1, he]; exact I.rel
      · rw [h2, h3, hst.2.1, hst.2.2]; exact Fr.refl _ _ _ _
    · exact ⟨ρ, p, Way.quiet X I hr hni hready hk (by rw [hd]; simp) (by rw [h1]; exact VR.undef)⟩
  | true =>
    simp only [if_true]
    left
    have hev := k2 hd
    have hOT := Way.operands X I hG hr hni hready
    rcases kinds E r.o.op with hk | hk | hk | hk
    · have hne : kind E.P r.o.op ≠ 3 := by rw [hk]; simp
      rw [any_op hne] at hev
      obtain ⟨_, _, cv, hrun, hV⟩ := pure_sound (w := w) hk hev hOT
      unfold Oper.wp
      rw [hrun]
      exact ⟨ρ, p, Way.quiet X I hr hni hready hne (by rw [hk]; simp) hV⟩
    · have hne : kind E.P r.o.op ≠ 3 := by rw [hk]; simp
      rw [any_op hne] at hev
      obtain ⟨ob, ⟨_, hlt⟩, hcc, hH, ⟨cv, cob, w', ext, hrun, hheap, hos, htape, hout, hAll⟩, _⟩ := made_sound (w := w) hk hev hOT
      unfold Oper.wp
      rw [hrun]
      obtain ⟨ρ', hW⟩ := Way.made X I hr hni hready hd hk hH hlt hheap hos htape hout hAll
      exact ⟨ρ', p, hW⟩
    · have hne : kind E.P r.o.op ≠ 3 := by rw [hk]; simp
      -- what is looked at now
      have hlook := X.look
      unfold looksOK at hlook
      simp only [List.all_eq_true] at hlook
      have hmem : r ∈ fw.reverse := by simpa using List.mem_of_getElem? hr
      have h1 := hlook r hmem
      simp only [hd, hk, Bool.true_and, Bool.or_eq_true, Bool.not_eq_true', List.all_eq_true] at h1
      have h1 := h1.resolve_left (by simp)
      have h2 := h1 p (by rcases I.pn.1 with h | h <;> simp [h])
      have hposs : possible (befs ops.toList []) (effects E.P ops.toList 0) r.i p = true := by
        unfold possible
        rw [List.all_eq_true]
        intro e he
        simp only [Bool.and_eq_true, Bool.or_eq_true, Bool.not_eq_true', Nat.blt_eq, decide_eq_false_iff_not]
        rw [hri]
        refine ⟨?_, ?_⟩
        · cases hb : ((befs ops.toList []).getD i 0).testBit e with
          | false => exact .inl rfl
          | true => exact .inr ((I.pd e he).1 (Way.aheadR X I hr hready e hb))
        · by_cases hep : e < p
          · right
            cases hb : ((befs ops.toList []).getD e 0).testBit i with
            | false => rfl
            | true => have := Way.ahead X I e ((I.pd e he).2 hep) i hb; rw [hni] at this; cases this
          · left
            cases hb : Nat.blt e p with
            | false => rfl
            | true => exact absurd (by simpa [Nat.blt_eq] using hb) hep
      have h2 := h2.resolve_left (by rw [hposs]; simp)
      have hheap : heapAt fw.reverse fin.2.1 p = hpA fw fin p := by
        rcases Nat.lt_or_ge p ops.size with hpl | hpl
        · obtain ⟨q, hq, hqi, _⟩ := X.rc hpl
          rw [heapAt_in fw.reverse (by simpa using List.mem_of_getElem? hq) hqi (fun r' hr' he => ?_), (Ctx.stOf (fin := fin) hq).2.1]
          obtain ⟨j, hj⟩ := List.mem_iff_getElem?.1 (by simpa using hr' : r' ∈ fw)
          have := (X.rcOf hj).1
          obtain rfl : j = p := by omega
          rw [hq] at hj; cases hj; rfl
        · obtain rfl : p = ops.size := by have := I.pn.2; omega
          rw [heapAt_out fw.reverse (fun r' hr' he => ?_), X.last.2.1]
          obtain ⟨j, hj⟩ := List.mem_iff_getElem?.1 (by simpa using hr' : r' ∈ fw)
          have := (X.rcOf hj).1
          have := X.lt hj
          omega
      rw [hheap] at h2
      split at h2
      · rename_i v2 H2 c2 hev2
        have hsv := same_eq 3 _ _ h2
        subst hsv
        obtain ⟨_, _, cv, hrun, hV⟩ := look_sound (w := w) hk hev2 hOT I.rel
        unfold Oper.wp
        rw [hrun]
        exact ⟨ρ, p, Way.quiet X I hr hni hready hne (by rw [hk]; simp) hV⟩
      · cases h2
    · have he := hip hk
      refine any_sound hE hC hev (I.gr hG) ?_ hOT ?_ ?_ _ _ fun cv w' ρ' hV hR' hF => ?_
      · rw [← hst.2.1, ← hst.2.2, he]; exact I.top
      · rw [← hst.2.1, he]; exact I.rel
      · exact fun s h1 h2 => I.fresh i r hni hr s h1 h2
      · refine ⟨ρ', Way.effect X I hr hni hready hk he hV hR' ?_⟩
        rw [hst.2.1, hst.2.2]; exact hF

theorem way_end (X : Ctx E R ops fw fin tm0 H0 c0) {listed : Array Bool} {a : Act} {w : World} {ρ : Ren} {p : Nat} (I : Way E ops fw fin tm0 H0 c0 ρ0 a0 w0 listed a w ρ p) (hall : ∀ j, j < ops.size → listed.getD j false = true) :
    TR ρ fin.1 a.tmps ∧ Rel ρ fin.2.1 w ∧ Fr ρ0 H0 w0 ρ fin.2.1 w c0 fin.2.2 ∧ a.defers = a0.defers := by
  have hp : p = ops.size := by
    rcases I.pn.1 with h | h
    · exact h
    · have hlt : p < ops.size := by
        obtain ⟨k, o, h1, h2, _⟩ := (mem_effects _ _ _ _).1 h
        have := (List.getElem?_eq_some_iff.1 h2).1
        simp at this; omega
      have := (I.pd p h).1 (hall p hlt); omega
  subst hp
  have h1 := I.rel
  have h2 := I.fr
  rw [X.last.2.1] at h1 h2
  refine ⟨fun t v hv => ?_, h1, h2, I.defers⟩
  rw [← X.last.1] at hv
  rcases X.slot ops.size (Nat.le_refl _) t v hv with ⟨j, r, e1, e2, e3, e4, e5⟩ | ⟨e1, e2⟩
  · rw [← e4]
    exact I.last t j r (hall j e1) e2 e3 fun j' r' g1 g2 g3 => e5 j' r' (X.lt g2) g2 g3
  · exact I.nobody t v (fun j r g1 g2 => e1 j r (X.lt g2) g2) e2

theorem least_ready (hed : edgesOK ops = true) {listed : Array Bool} (h : ∃ j, j < ops.size ∧ listed.size = ops.size ∧ listed.getD j false = false) : Region.ready .any ops listed ≠ [] := by
  obtain ⟨j, h1, hs, h2⟩ := h
  induction j using Nat.strongRecOn with
  | _ j ih =>
    by_cases hpre : ∀ e ∈ (ops[j]).after, Region.binds .any e = true → listed.getD e.on false = true
    · have : j ∈ Region.ready .any ops listed := mem_ready.2 ⟨by
        rw [Array.getD_eq_getD_getElem?] at h2 ⊢
        have hj : j < listed.size := by omega
        rw [Array.getElem?_eq_getElem hj] at h2 ⊢
        exact h2, ops[j], by simp [h1], hpre⟩
      exact List.ne_nil_of_mem this
    · obtain ⟨e, hpre⟩ := Classical.not_forall.1 hpre
      obtain ⟨he, hpre⟩ := Classical.not_forall.1 hpre
      obtain ⟨hb, hn⟩ := Classical.not_forall.1 hpre
      have hlt := edges_lt hed (j := j) (o := ops[j]) (by simp [h1]) he hb
      exact ih e.on hlt (by omega) (by cases hq : listed.getD e.on false <;> simp_all)

theorem way_all (hE : EnvOK E) (hC : CallOK E R) {Q : Exit → Act → World → Prop} (X : Ctx E R ops fw fin tm0 H0 c0) (hG : GR E ρ0) (hQ : ∀ a w ρ, TR ρ fin.1 a.tmps → Rel ρ fin.2.1 w → Fr ρ0 H0 w0 ρ fin.2.1 w c0 fin.2.2 → a.defers = a0.defers → Q .normal a w) :
    ∀ (fuel : Nat) (listed : Array Bool) (a : Act) (w : World) (ρ : Ren) (p : Nat), Way E ops fw fin tm0 H0 c0 ρ0 a0 w0 listed a w ρ p → listed.toList.count false = fuel → wpAny E.P .any ops Q fuel listed a w := by
  have hend : ∀ (listed : Array Bool) (a : Act) (w : World) (ρ : Ren) (p : Nat), Way E ops fw fin tm0 H0 c0 ρ0 a0 w0 listed a w ρ p → Region.ready .any ops listed = [] → Q .normal a w := fun listed a w ρ p I hr => by
    have hall : ∀ j, j < ops.size → listed.getD j false = true := fun j hj => by
      cases h : listed.getD j false with
      | true => rfl
      | false => exact absurd hr (least_ready X.edges ⟨j, hj, I.size, h⟩)
    obtain ⟨h1, h2, h3, h4⟩ := way_end X I hall
    exact hQ a w ρ h1 h2 h3 h4
  intro fuel
  induction fuel with
  | zero =>
    intro listed a w ρ p I hcount
    have hr : Region.ready .any ops listed = [] := by
      rw [List.eq_nil_iff_forall_not_mem]
      intro i hi
      have h1 := ready_false hi
      have h2 := (mem_ready.1 hi).1
      have : false ∈ listed.toList := by
        obtain ⟨_, o, ho, _⟩ := mem_ready.1 hi
        have hlt : i < listed.size := by rw [I.size]; exact (Array.getElem?_eq_some_iff.1 ho).1
        rw [Array.getD_eq_getD_getElem?, Array.getElem?_eq_getElem hlt] at h1
        simp only [Option.getD_some] at h1
        rw [← h1]; simp
      have := List.count_pos_iff.2 this
      omega
    exact ⟨hr, hend listed a w ρ p I hr⟩
  | succ fuel ih =>
    intro listed a w ρ p I hcount
    refine ⟨hend listed a w ρ p I, fun i hi => ?_⟩
    refine wpOp_mono ?_ (way_step (Q := Q) hE hC X hG I hi)
    rintro a' w' ⟨ρ', p', I'⟩
    refine ih _ a' w' ρ' p' I' ?_
    have h1 := ready_false hi
    obtain ⟨_, o, ho, _⟩ := mem_ready.1 hi
    have hlt : i < listed.size := by rw [I.size]; exact (Array.getElem?_eq_some_iff.1 ho).1
    have e : (listed.setIfInBounds i true).toList = listed.toList.set i true := by simp
    rw [e, List.count_set (by simpa using hlt)]
    rw [Array.getD_eq_getD_getElem?, Array.getElem?_eq_getElem hlt] at h1
    simp only [Option.getD_some] at h1
    simp [h1, hcount]

/-- A region. -/
theorem region_sound (hE : EnvOK E) (hC : CallOK E R) {Q : Exit → Act → World → Prop} {id : Nat} {draw : Bool} {tm tm' : Tr Value} {H H' : Hp} {c c' : Nat} (h : evRegion E R ops draw tm H c = some (tm', H', c')) {ρ : Ren} {a : Act} {w : World}
    (hG : GR E ρ) (hTop : Top H c) (hT : TR ρ tm a.tmps) (hR : Rel ρ H w) (hf : ∀ r, c ≤ r → r < c' → ρ r = none)
    (hQ : ∀ tmps w' ρ', TR ρ' tm' tmps → Rel ρ' H' w' → Fr ρ H w ρ' H' w' c c' → Q .normal ⟨tmps, a.defers⟩ w') : (Code.region id ops draw).wp E.P Q a w := by
  unfold evRegion at h
  split at h
  · cases h
  · rename_i tm1 H1 c1 rs hev
    cases draw with
    | false =>
      simp only [cond_false, Option.some.injEq, Prod.mk.injEq] at h
      obtain ⟨rfl, rfl, rfl⟩ := h
      refine wp_region ?_
      have := seq_sound (Q := Q) hE hC ops.toList 0 (fun j => by simp) tm H c [] hev ρ a w hG hTop hT hR hf hQ
      rw [List.range_eq_range']
      simpa using this
    | true =>
      simp only [Bool.cond_eq_ite, if_true] at h
      split at h
      · rename_i hplan
        simp only [Bool.and_eq_true] at hplan
        simp only [Option.some.injEq, Prod.mk.injEq] at h
        obtain ⟨rfl, rfl, rfl⟩ := h
        obtain ⟨fw, hrs, htr⟩ := evOps_trace _ _ _ _ _ _ hev
        simp only [List.append_nil] at hrs
        subst hrs
        have X : Ctx E R ops fw (tm1, H1, c1) tm H c := ⟨htr, hplan.1, hplan.2⟩
        refine wp_region_any hE.mixed ?_
        obtain ⟨p, I⟩ := way_start (a0 := a) (w0 := { w with drawn := w.drawn + 1 }) X hT (hR.of_heap rfl) hTop hf
        refine way_all hE hC X hG (fun a' w' ρ' h1 h2 h3 h4 => ?_) ops.size _ _ _ _ _ I (by simp)
        have := hQ a'.tmps w' ρ' h1 h2 ⟨h3.ext, h3.new, h3.le, h3.unreal, h3.keep, h3.writ, h3.liv, h3.top, h3.size, h3.os, h3.tape, h3.output⟩
        rw [← h4] at this
        exact this
      · cases h

end
end Ce

namespace Ce
open Go

/-- Rounds behind jumps. -/
def jrounds (P : Program) (body : Code) (Q : Exit → Act → World → Prop) (l : Nat) : Nat → Code → Act → World → Prop
  | 0, _, _, _ => False
  | n + 1, rest, a, w => rest.wp P (fun e a w => match e with
    | .goto l' => l' = l ∧ jrounds P body Q l n rest a w
    | e => Q e a w) a w

theorem wp_scope_rounds {P : Program} {Q : Exit → Act → World → Prop} {a : Act} {w : World} {body rest : Code} (n l : Nat) (hf : findLabel body l = some rest)
    (h : body.wp P (fun e a w => match e with
      | .goto l' => l' = l ∧ jrounds P body Q l n rest a w
      | e => Q e a w) a w) : (Code.scope body).wp P Q a w := by
  intro b k cs
  have hg : gotoIn l (.inScope body :: k) = some (.code rest :: .inScope body :: k) := by simp [gotoIn, hf]
  have key : ∀ n a w, jrounds P body Q l n rest a w → ∃ e a' w', Q e a' w' ∧ Arrives P (lone (b.at a (.code rest :: .inScope body :: k)) cs w) b k cs e a' w' := by
    intro n
    induction n with
    | zero => intro a w h; exact h.elim
    | succ n ih =>
      intro a w h
      obtain ⟨e, a₁, w₁, hq, harr⟩ := h b (.inScope body :: k) cs
      cases e with
      | normal => exact ⟨.normal, a₁, w₁, hq, Steps.trans harr (.one step_inScope)⟩
      | exit id => exact ⟨.exit id, a₁, w₁, hq, fun k' hk => harr k' (by simp [exitTo, hk])⟩
      | goto l' =>
        obtain ⟨rfl, hJ⟩ := hq
        obtain ⟨e₂, a₂, w₂, hq₂, harr₂⟩ := ih a₁ w₁ hJ
        exact ⟨e₂, a₂, w₂, hq₂, .of_steps (harr _ hg) harr₂⟩
      | ret => exact ⟨_, a₁, w₁, hq, harr⟩
      | panic ch => exact ⟨_, a₁, w₁, hq, harr⟩
      | outgrown => exact ⟨_, a₁, w₁, hq, harr⟩
  obtain ⟨e, a₁, w₁, hq, harr⟩ := h b (.inScope body :: k) cs
  cases e with
  | normal => exact ⟨.normal, a₁, w₁, hq, .head step_scope (Steps.trans harr (.one step_inScope))⟩
  | exit id => exact ⟨.exit id, a₁, w₁, hq, fun k' hk => .head step_scope (harr k' (by simp [exitTo, hk]))⟩
  | goto l' =>
    obtain ⟨rfl, hJ⟩ := hq
    obtain ⟨e₂, a₂, w₂, hq₂, harr₂⟩ := key n a₁ w₁ hJ
    exact ⟨e₂, a₂, w₂, hq₂, .of_steps (.head step_scope (harr _ hg)) harr₂⟩
  | ret => exact ⟨_, a₁, w₁, hq, .of_steps (.one step_scope) harr⟩
  | panic ch => exact ⟨_, a₁, w₁, hq, .of_steps (.one step_scope) harr⟩
  | outgrown => exact ⟨_, a₁, w₁, hq, .of_steps (.one step_scope) harr⟩

/-- A scope that is left by no jump to a label of its own. -/
theorem wp_scope_out {P : Program} {Q : Exit → Act → World → Prop} {a : Act} {w : World} {body : Code}
    (h : body.wp P (fun e a w => match e with
      | .goto l => findLabel body l = none ∧ Q (.goto l) a w
      | e => Q e a w) a w) : (Code.scope body).wp P Q a w := by
  intro b k cs
  obtain ⟨e, a₁, w₁, hq, harr⟩ := h b (.inScope body :: k) cs
  cases e with
  | normal => exact ⟨.normal, a₁, w₁, hq, .head step_scope (Steps.trans harr (.one step_inScope))⟩
  | exit id => exact ⟨.exit id, a₁, w₁, hq, fun k' hk => .head step_scope (harr k' (by simp [exitTo, hk]))⟩
  | goto l =>
    obtain ⟨h1, h2⟩ := hq
    exact ⟨.goto l, a₁, w₁, h2, fun k' hk => .head step_scope (harr k' (by simp [gotoIn, h1, hk]))⟩
  | ret => exact ⟨_, a₁, w₁, hq, .of_steps (.one step_scope) harr⟩
  | panic ch => exact ⟨_, a₁, w₁, hq, .of_steps (.one step_scope) harr⟩
  | outgrown => exact ⟨_, a₁, w₁, hq, .of_steps (.one step_scope) harr⟩

def exOf : Ex → Exit
  | .normal => .normal
  | .exit id => .exit id
  | .ret => .ret
  | .goto l => .goto l

section
variable {E : Env} {R : CallR}

theorem evRegion_mono {ops : Array Oper} {draw : Bool} {tm tm' : Tr Value} {H H' : Hp} {c c' : Nat} (h : evRegion E R ops draw tm H c = some (tm', H', c')) : c ≤ c' := by
  unfold evRegion at h
  split at h
  · cases h
  · rename_i tm1 H1 c1 rs hev
    have hm := evOps_mono _ _ _ _ _ _ hev
    cases draw with
    | false =>
      simp only [cond_false, Option.some.injEq, Prod.mk.injEq] at h
      omega
    | true =>
      simp only [Bool.cond_eq_ite, if_true] at h
      split at h
      · simp only [Option.some.injEq, Prod.mk.injEq] at h; omega
      · cases h

theorem loopP_mono {body : Tr Value → Hp → Nat → Rx} (hb : ∀ {tm H c x tm' H' c'}, body tm H c = some (x, tm', H', c') → c ≤ c') : ∀ (k : Nat) {tm : Tr Value} {H : Hp} {c : Nat} {x : Ex} {tm' : Tr Value} {H' : Hp} {c' : Nat}, loopP body k tm H c = some (x, tm', H', c') → c ≤ c' := by
  intro k
  induction k with
  | zero => intro tm H c x tm' H' c' h; exact hb h
  | succ k ih =>
    intro tm H c x tm' H' c' h
    simp only [loopP] at h
    split at h
    · rename_i h1; exact Nat.le_trans (ih h1) (ih h)
    · exact ih h

theorem jumpP_mono {l : Nat} {body : Tr Value → Hp → Nat → Rx} (hb : ∀ {tm H c x tm' H' c'}, body tm H c = some (x, tm', H', c') → c ≤ c') : ∀ (k : Nat) {tm : Tr Value} {H : Hp} {c : Nat} {x : Ex} {tm' : Tr Value} {H' : Hp} {c' : Nat}, jumpP l body k tm H c = some (x, tm', H', c') → c ≤ c' := by
  intro k
  induction k with
  | zero => intro tm H c x tm' H' c' h; exact hb h
  | succ k ih =>
    intro tm H c x tm' H' c' h
    simp only [jumpP] at h
    split at h
    · rename_i h1
      simp only [Bool.cond_eq_ite] at h
      split at h
      · exact Nat.le_trans (ih h1) (ih h)
      · cases h
    · exact ih h

theorem evCode_mono (lf : Nat) : ∀ (n : Nat) (code : Code) {tm : Tr Value} {H : Hp} {c : Nat} {x : Ex} {tm' : Tr Value} {H' : Hp} {c' : Nat}, evCode E R lf n code tm H c = some (x, tm', H', c') → c ≤ c' := by
  intro n
  induction n with
  | zero => intro code tm H c x tm' H' c' h; simp [evCode] at h
  | succ n ih =>
    intro code tm H c x tm' H' c' h
    cases code with
    | skip => simp only [evCode, Option.some.injEq, Prod.mk.injEq] at h; omega
    | label l => simp only [evCode, Option.some.injEq, Prod.mk.injEq] at h; omega
    | exit id => simp only [evCode, Option.some.injEq, Prod.mk.injEq] at h; omega
    | goto l => simp only [evCode, Option.some.injEq, Prod.mk.injEq] at h; omega
    | ret => simp only [evCode, Option.some.injEq, Prod.mk.injEq] at h; omega
    | refuse s => simp [evCode] at h
    | rangeFunc f p s b => simp [evCode] at h
    | region id ops draw =>
      simp only [evCode] at h
      split at h
      · rename_i hr
        simp only [Option.some.injEq, Prod.mk.injEq] at h
        have := evRegion_mono hr; omega
      · cases h
    | seq p q =>
      simp only [evCode] at h
      split at h
      · rename_i h1; exact Nat.le_trans (ih _ h1) (ih _ h)
      · exact ih _ h
    | cond q p r =>
      simp only [evCode] at h
      split at h
      · exact ih _ h
      · exact ih _ h
      · cases h
    | block id p =>
      simp only [evCode] at h
      split at h
      · rename_i h1
        have := ih _ h1
        simp only [Bool.cond_eq_ite] at h
        split at h <;> (simp only [Option.some.injEq, Prod.mk.injEq] at h; omega)
      · exact ih _ h
    | loop p =>
      simp only [evCode] at h
      split at h
      · cases h
      · exact loopP_mono (fun h => ih _ h) _ h
    | scope p =>
      simp only [evCode] at h
      split at h
      · rename_i h1
        split at h
        · split at h
          · cases h
          · exact Nat.le_trans (ih _ h1) (jumpP_mono (fun h => ih _ h) _ h)
        · simp only [Option.some.injEq, Prod.mk.injEq] at h
          have := ih _ h1; omega
      · exact ih _ h

/-- That a piece of code does what was reckoned. -/
def CodeOK (E : Env) (code : Code) (tm : Tr Value) (H : Hp) (c : Nat) (x : Ex) (tm' : Tr Value) (H' : Hp) (c' : Nat) : Prop :=
  ∀ (Q : Exit → Act → World → Prop) (ρ : Ren) (a : Act) (w : World), GR E ρ → Top H c → TR ρ tm a.tmps → Rel ρ H w → (∀ r, c ≤ r → r < c' → ρ r = none) →
    (∀ tmps w' ρ', TR ρ' tm' tmps → Rel ρ' H' w' → Fr ρ H w ρ' H' w' c c' → Q (exOf x) ⟨tmps, a.defers⟩ w') → code.wp E.P Q a w

theorem fresh_after {ρ ρ' : Ren} {H H' : Hp} {w w' : World} {c c1 c' : Nat} (hf : ∀ r, c ≤ r → r < c' → ρ r = none) (hF : Fr ρ H w ρ' H' w' c c1) : ∀ r, c1 ≤ r → r < c' → ρ' r = none := fun r h1 h2 => by
  cases hr : ρ' r with
  | none => rfl
  | some q => have := hF.new r q (hf r (by have := hF.le; omega) h2) hr; omega

theorem loop_rounds {lf : Nat} {code : Code} {body : Tr Value → Hp → Nat → Rx} (hm : ∀ {tm H c x tm' H' c'}, body tm H c = some (x, tm', H', c') → c ≤ c') (hb : ∀ {tm H c x tm' H' c'}, body tm H c = some (x, tm', H', c') → CodeOK E code tm H c x tm' H' c') :
    ∀ (k : Nat) {tm : Tr Value} {H : Hp} {c : Nat} {x : Ex} {tm' : Tr Value} {H' : Hp} {c' : Nat}, loopP body k tm H c = some (x, tm', H', c') →
    ∀ (m : Nat) (Q : Exit → Act → World → Prop) (ρ : Ren) (a : Act) (w : World), GR E ρ → Top H c → TR ρ tm a.tmps → Rel ρ H w → (∀ r, c ≤ r → r < c' → ρ r = none) →
      (∀ tmps w' ρ', TR ρ' tm' tmps → Rel ρ' H' w' → Fr ρ H w ρ' H' w' c c' → (x = .normal → Code.rounds E.P code Q m ⟨tmps, a.defers⟩ w') ∧ (x ≠ .normal → Q (exOf x) ⟨tmps, a.defers⟩ w')) → Code.rounds E.P code Q (2 ^ k + m) a w := by
  intro k
  induction k with
  | zero =>
    intro tm H c x tm' H' c' h m Q ρ a w hG hTop hT hR hf hQ
    rw [show 2 ^ 0 + m = m + 1 by omega, rounds_succ]
    refine hb h _ ρ a w hG hTop hT hR hf fun tmps w' ρ' h1 h2 h3 => ?_
    have := hQ tmps w' ρ' h1 h2 h3
    cases x with
    | normal => exact this.1 rfl
    | exit id => exact this.2 (by simp)
    | ret => exact this.2 (by simp)
    | goto l => exact this.2 (by simp)
  | succ k ih =>
    intro tm H c x tm' H' c' h m Q ρ a w hG hTop hT hR hf hQ
    simp only [loopP] at h
    rw [show 2 ^ (k + 1) + m = 2 ^ k + (2 ^ k + m) by rw [Nat.pow_succ]; omega]
    split at h
    · rename_i tm1 H1 c1 h1
      have hm2 := loopP_mono hm _ h
      refine ih h1 (2 ^ k + m) Q ρ a w hG hTop hT hR (fun r g1 g2 => hf r g1 (by omega)) fun tmps w' ρ' e1 e2 e3 => ⟨fun _ => ?_, fun hn => absurd rfl hn⟩
      exact ih h m Q ρ' ⟨tmps, a.defers⟩ w' (hG.mono e3.ext) (e3.top hTop) e1 e2 (fresh_after hf e3) fun tmps2 w2 ρ2 g1 g2 g3 => hQ tmps2 w2 ρ2 g1 g2 (e3.trans g3)
    · rename_i r hno
      refine ih h (2 ^ k + m) Q ρ a w hG hTop hT hR hf fun tmps w' ρ' e1 e2 e3 => ⟨fun hx => ?_, fun hx => (hQ tmps w' ρ' e1 e2 e3).2 hx⟩
      subst hx
      exact (hno _ _ _ h).elim

theorem jump_rounds {l : Nat} {bodyC code : Code} {body : Tr Value → Hp → Nat → Rx} (hm : ∀ {tm H c x tm' H' c'}, body tm H c = some (x, tm', H', c') → c ≤ c') (hb : ∀ {tm H c x tm' H' c'}, body tm H c = some (x, tm', H', c') → CodeOK E code tm H c x tm' H' c') :
    ∀ (k : Nat) {tm : Tr Value} {H : Hp} {c : Nat} {x : Ex} {tm' : Tr Value} {H' : Hp} {c' : Nat}, jumpP l body k tm H c = some (x, tm', H', c') →
    ∀ (m : Nat) (Q : Exit → Act → World → Prop) (ρ : Ren) (a : Act) (w : World), GR E ρ → Top H c → TR ρ tm a.tmps → Rel ρ H w → (∀ r, c ≤ r → r < c' → ρ r = none) →
      (∀ tmps w' ρ', TR ρ' tm' tmps → Rel ρ' H' w' → Fr ρ H w ρ' H' w' c c' → (∀ l', x = .goto l' → l' = l ∧ jrounds E.P bodyC Q l m code ⟨tmps, a.defers⟩ w') ∧ ((∀ l', x ≠ .goto l') → Q (exOf x) ⟨tmps, a.defers⟩ w')) → jrounds E.P bodyC Q l (2 ^ k + m) code a w := by
  intro k
  induction k with
  | zero =>
    intro tm H c x tm' H' c' h m Q ρ a w hG hTop hT hR hf hQ
    rw [show 2 ^ 0 + m = m + 1 by omega]
    simp only [jrounds]
    refine hb h _ ρ a w hG hTop hT hR hf fun tmps w' ρ' h1 h2 h3 => ?_
    have := hQ tmps w' ρ' h1 h2 h3
    cases x with
    | normal => exact this.2 (by simp)
    | exit id => exact this.2 (by simp)
    | ret => exact this.2 (by simp)
    | goto l' => exact this.1 l' rfl
  | succ k ih =>
    intro tm H c x tm' H' c' h m Q ρ a w hG hTop hT hR hf hQ
    simp only [jumpP] at h
    rw [show 2 ^ (k + 1) + m = 2 ^ k + (2 ^ k + m) by rw [Nat.pow_succ]; omega]
    split at h
    · rename_i l' tm1 H1 c1 h1
      simp only [Bool.cond_eq_ite, Nat.beq_eq] at h
      split at h
      · rename_i hl
        have hm2 := jumpP_mono hm _ h
        refine ih h1 (2 ^ k + m) Q ρ a w hG hTop hT hR (fun r g1 g2 => hf r g1 (by omega)) fun tmps w' ρ' e1 e2 e3 => ⟨fun l2 hl2 => ⟨by cases hl2; exact hl, ?_⟩, fun hn => absurd rfl (hn l')⟩
        exact ih h m Q ρ' ⟨tmps, a.defers⟩ w' (hG.mono e3.ext) (e3.top hTop) e1 e2 (fresh_after hf e3) fun tmps2 w2 ρ2 g1 g2 g3 => hQ tmps2 w2 ρ2 g1 g2 (e3.trans g3)
      · cases h
    · rename_i r hno
      refine ih h (2 ^ k + m) Q ρ a w hG hTop hT hR hf fun tmps w' ρ' e1 e2 e3 => ⟨fun l' hx => ?_, fun hx => (hQ tmps w' ρ' e1 e2 e3).2 hx⟩
      subst hx
      exact (hno _ _ _ _ h).elim

theorem code_sound (hE : EnvOK E) (hC : CallOK E R) (lf : Nat) : ∀ (n : Nat) (code : Code) {tm : Tr Value} {H : Hp} {c : Nat} {x : Ex} {tm' : Tr Value} {H' : Hp} {c' : Nat}, evCode E R lf n code tm H c = some (x, tm', H', c') → CodeOK E code tm H c x tm' H' c' := by
  intro n
  induction n with
  | zero => intro code tm H c x tm' H' c' h; simp [evCode] at h
  | succ n ih =>
    intro code tm H c x tm' H' c' h Q ρ a w hG hTop hT hR hf hQ
    cases code with
    | skip =>
      simp only [evCode, Option.some.injEq, Prod.mk.injEq] at h
      obtain ⟨rfl, rfl, rfl, rfl⟩ := h
      exact wp_skip (hQ a.tmps w ρ hT hR (Fr.refl _ _ _ _))
    | label l =>
      simp only [evCode, Option.some.injEq, Prod.mk.injEq] at h
      obtain ⟨rfl, rfl, rfl, rfl⟩ := h
      exact wp_label (hQ a.tmps w ρ hT hR (Fr.refl _ _ _ _))
    | exit id =>
      simp only [evCode, Option.some.injEq, Prod.mk.injEq] at h
      obtain ⟨rfl, rfl, rfl, rfl⟩ := h
      exact wp_exit (hQ a.tmps w ρ hT hR (Fr.refl _ _ _ _))
    | goto l =>
      simp only [evCode, Option.some.injEq, Prod.mk.injEq] at h
      obtain ⟨rfl, rfl, rfl, rfl⟩ := h
      exact wp_goto (hQ a.tmps w ρ hT hR (Fr.refl _ _ _ _))
    | ret =>
      simp only [evCode, Option.some.injEq, Prod.mk.injEq] at h
      obtain ⟨rfl, rfl, rfl, rfl⟩ := h
      exact wp_ret (hQ a.tmps w ρ hT hR (Fr.refl _ _ _ _))
    | refuse s => simp [evCode] at h
    | rangeFunc f p s b => simp [evCode] at h
    | region id ops draw =>
      simp only [evCode] at h
      split at h
      · rename_i hr
        simp only [Option.some.injEq, Prod.mk.injEq] at h
        obtain ⟨rfl, rfl, rfl, rfl⟩ := h
        exact region_sound hE hC hr hG hTop hT hR hf hQ
      · cases h
    | seq p q =>
      simp only [evCode] at h
      split at h
      · rename_i tm1 H1 c1 h1
        have hm2 := evCode_mono lf _ _ h
        refine wp_seq (ih _ h1 _ ρ a w hG hTop hT hR (fun r g1 g2 => hf r g1 (by omega)) fun tmps w' ρ' e1 e2 e3 => ?_)
        exact ih _ h Q ρ' ⟨tmps, a.defers⟩ w' (hG.mono e3.ext) (e3.top hTop) e1 e2 (fresh_after hf e3) fun tmps2 w2 ρ2 g1 g2 g3 => hQ tmps2 w2 ρ2 g1 g2 (e3.trans g3)
      · rename_i r hno
        refine wp_seq (ih _ h _ ρ a w hG hTop hT hR hf fun tmps w' ρ' e1 e2 e3 => ?_)
        have := hQ tmps w' ρ' e1 e2 e3
        cases x with
        | normal => exact (hno _ _ _ h).elim
        | exit id => exact this
        | ret => exact this
        | goto l => exact this
    | cond q p r =>
      simp only [evCode] at h
      split at h
      · rename_i hq
        have := (opd_tr hT hG hq).inv_bool
        exact wp_cond_true this (ih _ h Q ρ a w hG hTop hT hR hf hQ)
      · rename_i hq
        have := (opd_tr hT hG hq).inv_bool
        exact wp_cond_false this (ih _ h Q ρ a w hG hTop hT hR hf hQ)
      · cases h
    | block id p =>
      simp only [evCode] at h
      split at h
      · rename_i j tm1 H1 c1 h1
        simp only [Bool.cond_eq_ite, Nat.beq_eq] at h
        split at h
        · rename_i hj
          simp only [Option.some.injEq, Prod.mk.injEq] at h
          obtain ⟨rfl, rfl, rfl, rfl⟩ := h
          refine wp_block (ih _ h1 _ ρ a w hG hTop hT hR hf fun tmps w' ρ' e1 e2 e3 => ?_)
          show (if j = id then _ else _)
          rw [if_pos hj]
          exact hQ tmps w' ρ' e1 e2 e3
        · rename_i hj
          simp only [Option.some.injEq, Prod.mk.injEq] at h
          obtain ⟨rfl, rfl, rfl, rfl⟩ := h
          refine wp_block (ih _ h1 _ ρ a w hG hTop hT hR hf fun tmps w' ρ' e1 e2 e3 => ?_)
          show (if j = id then _ else _)
          rw [if_neg hj]
          exact hQ tmps w' ρ' e1 e2 e3
      · rename_i r hno
        refine wp_block (ih _ h _ ρ a w hG hTop hT hR hf fun tmps w' ρ' e1 e2 e3 => ?_)
        have := hQ tmps w' ρ' e1 e2 e3
        cases x with
        | normal => exact this
        | exit j => exact (hno _ _ _ _ h).elim
        | ret => exact this
        | goto l => exact this
    | loop p =>
      simp only [evCode] at h
      split at h
      · cases h
      · rename_i r hno
        refine wp_loop_rounds (2 ^ lf + 0) ?_
        refine loop_rounds (lf := lf) (fun h => evCode_mono lf _ _ h) (fun h => ih _ h) lf h 0 Q ρ a w hG hTop hT hR hf fun tmps w' ρ' e1 e2 e3 => ⟨fun hx => ?_, fun hx => hQ tmps w' ρ' e1 e2 e3⟩
        subst hx
        exact (hno _ _ _ h).elim
    | scope p =>
      simp only [evCode] at h
      split at h
      · rename_i l tm1 H1 c1 h1
        split at h
        · rename_i rest hrest
          split at h
          · cases h
          · rename_i r hno
            have hm2 := jumpP_mono (fun h => evCode_mono lf _ _ h) _ h
            refine wp_scope_rounds (2 ^ lf + 0) l hrest ?_
            refine ih _ h1 _ ρ a w hG hTop hT hR (fun r g1 g2 => hf r g1 (by omega)) fun tmps w' ρ' e1 e2 e3 => ⟨rfl, ?_⟩
            refine jump_rounds (fun h => evCode_mono lf _ _ h) (fun h => ih _ h) lf h 0 Q ρ' ⟨tmps, a.defers⟩ w' (hG.mono e3.ext) (e3.top hTop) e1 e2 (fresh_after hf e3) fun tmps2 w2 ρ2 g1 g2 g3 => ⟨fun l' hx => ?_, fun hx => hQ tmps2 w2 ρ2 g1 g2 (e3.trans g3)⟩
            subst hx
            exact (hno _ _ _ _ h).elim
        · rename_i hrest
          simp only [Option.some.injEq, Prod.mk.injEq] at h
          obtain ⟨rfl, rfl, rfl, rfl⟩ := h
          refine wp_scope_out (ih _ h1 _ ρ a w hG hTop hT hR hf fun tmps w' ρ' e1 e2 e3 => ⟨hrest, hQ tmps w' ρ' e1 e2 e3⟩)
      · rename_i r hno
        refine wp_scope_out (ih _ h _ ρ a w hG hTop hT hR hf fun tmps w' ρ' e1 e2 e3 => ?_)
        have := hQ tmps w' ρ' e1 e2 e3
        cases x with
        | normal => exact this
        | exit j => exact this
        | ret => exact this
        | goto l => exact (hno _ _ _ _ h).elim

/-- One result. -/
def resOne (tmps : Array Value) : ResultVar → Sem Value
  | .tmp t => pure (tmps.getD t undef)
  | .cell a t => do loadVar t (← asAddr (tmps.getD a undef))

/-- Several results as one. -/
def tupleOf : List Value → Value
  | [v] => v
  | l => .tuple l.toArray

theorem results_sound {tm : Tr Value} {H : Hp} {ρ : Ren} {tmps : Array Value} {w : World} (hT : TR ρ tm tmps) (hR : Rel ρ H w) : ∀ (l : List ResultVar) (vs : List Value), evResults E tm H l = some vs →
    ∃ cvs, VL ρ vs cvs ∧ (l.mapM (resOne tmps)).run E.P w = .ok cvs w := by
  intro l
  induction l with
  | nil => intro vs h; simp only [evResults, Option.some.injEq] at h; subst h; exact ⟨[], VL.nil, rfl⟩
  | cons r l ih =>
    intro vs h
    cases r with
    | tmp t =>
      simp only [evResults] at h
      split at h
      · rename_i v us hv hu
        simp only [Option.some.injEq] at h; subst h
        obtain ⟨cv, h1, h2⟩ := hT t v hv
        obtain ⟨cvs, h3, h4⟩ := ih us hu
        refine ⟨cv :: cvs, VL.cons h2 h3, ?_⟩
        rw [List.mapM_cons]
        simp [resOne, Array.getD_eq_getD_getElem?, h1, h4]
      · cases h
    | cell at_ t =>
      simp only [evResults] at h
      split at h
      · rename_i r off us hv hag hu
        obtain ⟨cp, h1, h2⟩ := hT at_ _ hv
        obtain ⟨p, hp, _, rfl⟩ := h2.inv_ptr
        obtain ⟨cvs, h3, h4⟩ := ih us hu
        split at h
        · rename_i n hn
          split at h
          · rename_i m hm
            simp only [Option.some.injEq] at h; subst h
            obtain ⟨cm, g1, g2⟩ := run_loadRow (P := E.P) hR hp hm
            refine ⟨.agg cm.toArray :: cvs, VL.cons g1.agg h3, ?_⟩
            rw [List.mapM_cons]
            simp [resOne, Array.getD_eq_getD_getElem?, h1, h4, asAddr, loadVar, run_agg hag, run_size hn, g2]
          · cases h
        · cases h
      · rename_i r off us hv hag hu
        obtain ⟨cp, h1, h2⟩ := hT at_ _ hv
        obtain ⟨p, hp, _, rfl⟩ := h2.inv_ptr
        obtain ⟨cvs, h3, h4⟩ := ih us hu
        split at h
        · rename_i size cells fz ro elem hg
          split at h
          · rename_i v hv2
            simp only [Option.some.injEq] at h; subst h
            obtain ⟨cv, g1, g2⟩ := cell_sound hR hp hg hv2
            refine ⟨cv :: cvs, VL.cons g2 h3, ?_⟩
            rw [List.mapM_cons]
            simp [resOne, Array.getD_eq_getD_getElem?, h1, h4, asAddr, loadVar, run_agg hag, run_load, g1]
          · cases h
        · cases h
      · cases h

theorem results_run {tm : Tr Value} {H : Hp} {ρ : Ren} {tmps : Array Value} {w : World} (hT : TR ρ tm tmps) (hR : Rel ρ H w) {fn : Func} {vs : List Value} (h : evResults E tm H fn.results.toList = some vs) :
    ∃ cvs, VL ρ vs cvs ∧ (results fn tmps).run E.P w = .ok (tupleOf cvs) w := by
  obtain ⟨cvs, h1, h2⟩ := results_sound hT hR _ _ h
  refine ⟨cvs, h1, ?_⟩
  have e : results fn tmps = (do let vs ← fn.results.mapM (resOne tmps); pure (if h : vs.size = 1 then vs[0] else .tuple vs)) := by
    unfold results
    congr 1
  rw [e, Array.mapM_eq_mapM_toList]
  simp only [Sem.run_bind, bind_map_left, h2, Result.andThen_ok]
  rcases cvs with _ | ⟨v, _ | ⟨u, l⟩⟩ <;> simp [tupleOf]

/-- The calls that are reckoned are right. -/
theorem call_sound (hE : EnvOK E) (lf : Nat) : ∀ n, CallOK E (evF E lf n) := by
  intro n
  induction n with
  | zero => intro f args H c v H' c' h; simp [evF] at h
  | succ n ih =>
    intro f args H c v H' c' h
    simp only [evF] at h
    cases hM : E.M f with
    | some p =>
      rw [hM] at h
      simp only at h
      obtain ⟨h1, h2⟩ := hE.prim f p hM
      exact ⟨h1, h2 _ _ _ _ _ _ h⟩
    | none =>
    rw [hM] at h
    simp only at h
    split at h
    · cases h
    · rename_i fn hfn
      split at h
      · cases h
      · rename_i code hcode
        refine ⟨⟨fn, hfn, by simp [hcode]⟩, fun ρ w cargs hG hTop hR hV hf => ?_⟩
        refine calls_of_wp (hE.fn f fn hfn).1 hcode ?_
        have hlen : args.length = cargs.size := by have := hV.1; simpa using this
        have hTR : TR ρ (Tr.updL (Tr.rep undef 64 (args.length + (fn.ntmps - args.length))) 0 args) (cargs ++ Array.replicate (fn.ntmps - cargs.size) undef) := by
          intro t u ht
          rcases Tr.get_updL _ _ _ _ _ ht with ⟨k, rfl, hk⟩ | ⟨hk, hg⟩
          · have hlt : k < args.length := (List.getElem?_eq_some_iff.1 hk).1
            have hlt' : k < cargs.size := by omega
            refine ⟨cargs[k], ?_, hV.2 k u _ hk (by simp [hlt'])⟩
            rw [Nat.zero_add, Array.getElem?_append_left hlt']; simp [hlt']
          · obtain ⟨rfl, hlt⟩ := Tr.get_rep _ _ _ _ _ hg
            have hge : cargs.size ≤ t := by
              rcases Nat.lt_or_ge t cargs.size with h | h
              · exact (hk t (by omega) (by omega)).elim
              · exact h
            refine ⟨undef, ?_, VR.undef⟩
            rw [Array.getElem?_append_right hge, Array.getElem?_replicate, if_pos (by omega)]
        have fin : ∀ {x : Ex} {tm1 : Tr Value} {H1 : Hp} {c1 : Nat}, (x = .normal ∨ x = .ret) → evCode E (evF E lf n) lf 1000 code (Tr.updL (Tr.rep undef 64 (args.length + (fn.ntmps - args.length))) 0 args) H c = some (x, tm1, H1, c1) →
            (match evResults E tm1 H1 fn.results.toList with
              | some [v] => some (v, H1, c1)
              | some vs => some (.tuple vs.toArray, H1, c1)
              | none => none : Rs) = some (v, H', c') → code.wp E.P (bodyPost E.P fn (CPost ρ H w v H' c c')) { tmps := cargs ++ Array.replicate (fn.ntmps - cargs.size) undef, defers := [] } w := fun {x tm1 H1 c1} hx hev hres => by
          have hrs : ∃ vs, evResults E tm1 H1 fn.results.toList = some vs ∧ v = tupleOf vs ∧ H1 = H' ∧ c1 = c' := by
            split at hres
            · rename_i u hu
              simp only [Option.some.injEq, Prod.mk.injEq] at hres
              exact ⟨_, hu, hres.1.symm, hres.2.1, hres.2.2⟩
            · rename_i vs hno hu
              simp only [Option.some.injEq, Prod.mk.injEq] at hres
              refine ⟨_, hu, ?_, hres.2.1, hres.2.2⟩
              rw [← hres.1]
              rcases vs with _ | ⟨u, _ | ⟨u', l⟩⟩
              · rfl
              · exact (hno u rfl).elim
              · rfl
            · cases hres
          obtain ⟨vs, hvs, rfl, rfl, rfl⟩ := hrs
          refine code_sound hE ih lf 1000 code hev _ ρ _ w hG hTop hTR hR hf fun tmps w' ρ' h1 h2 h3 => ?_
          obtain ⟨cvs, g1, g2⟩ := results_run h1 h2 hvs
          have hval : VR ρ' (tupleOf vs) (tupleOf cvs) := by
            have hl := g1.1
            rcases vs with _ | ⟨u, _ | ⟨u', l⟩⟩ <;> rcases cvs with _ | ⟨d, _ | ⟨d', m⟩⟩ <;> simp at hl
            · exact .flat 1 rfl
            · exact g1.2 0 u d rfl rfl
            · exact .tuple (by simpa using hl) fun i x y hx hy => g1.2 i x y (by simpa using hx) (by simpa using hy)
          rcases hx with rfl | rfl
          · exact ⟨rfl, _, g2, _, ρ', rfl, hval, h2, h3⟩
          · exact ⟨rfl, _, g2, _, ρ', rfl, hval, h2, h3⟩
        split at h
        · cases h
        · cases h
        · rename_i x tm1 H1 c1 hne1 hne2 hev
          refine fin ?_ hev h
          cases x with
          | normal => exact .inl rfl
          | ret => exact .inr rfl
          | exit id => exact (hne1 _ rfl).elim
          | goto l => exact (hne2 _ rfl).elim
        · cases h

end
end Ce
