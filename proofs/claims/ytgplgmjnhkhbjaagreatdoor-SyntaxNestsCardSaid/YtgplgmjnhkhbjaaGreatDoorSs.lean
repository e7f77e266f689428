/-
  The parser's walks, 4: inner, list.
-/
import Derived.Test.YtgplgmjnhkhbjaaGreatDoorSr
set_option linter.unusedVariables false
set_option linter.unusedSimpArgs false
namespace Go.Proofs.YtgplgmjnhkhbjaaGreatDoor
attribute [local go_sem] tok_0 tok_1 tok_2
open Go.RowKit Go.Proofs.YtgplgmjnhkhbjaaGreatDoorW.PrintWords PSameTree PflatTokens Syn

/-- a block that is set aside -/
structure Bx (rs : Nat → Prop) (W : World) (i : Nat) (cs : Array Value) (t : TypeId) : Prop where
  is : W.heap[i]? = some (.cells cs t (0, 0))
  rs : rs i

section
variable {w0 W W' : World} {g i b : Nat} {src : ByteArray} {rs : Nat → Prop} {s : St} {nv fv nv' : Value} {cs cs' : Array Value} {t : TypeId}
theorem Bx.lt (h : Bx rs W i cs t) : i < W.heap.size := blk_lt h.is
theorem Bx.mv (h : Bx rs W i cs t) (p : Pz w0 g src rs s nv fv W) (m : Mv g W nv W' nv') : Bx rs W' i cs t :=
  ⟨(m.kp.2 i h.lt (p.ng h.rs) (p.nn h.rs)).trans h.is, h.rs⟩
theorem Bx.mb (h : Bx rs W i cs t) (p : Pz w0 g src rs s nv fv W) (m : Mb g b W nv W' nv') (hi : i ≠ b) : Bx rs W' i cs t :=
  ⟨(m.kp i h.lt (p.ng h.rs) (p.nn h.rs) hi).trans h.is, h.rs⟩
theorem Bx.below (h : Bx rs W i cs t) (hb : Below W.heap.size W W') : Bx rs W' i cs t := ⟨blk_below h.is hb, h.rs⟩
theorem Bx.cell (h : Bx rs W i cs t) (j : Nat) : W.cell? ⟨i, j, none⟩ = cs[j]? := blk_cell h.is j
theorem Bx.frozen (h : Bx rs W i cs t) (j : Nat) : W.frozen? ⟨i, j, none⟩ = false := blk_frozen h.is j
theorem Bx.set (h : Bx rs W i cs t) (j : Nat) (u : Value) (e : cs.setIfInBounds j u = cs') : Bx rs (W.setCell ⟨i, j, none⟩ u) i cs' t := ⟨blk_put h.is j u e, h.rs⟩
theorem Bx.far (h : Bx rs W i cs t) (hi : i ≠ b) (j : Nat) (u : Value) : Bx rs (W.setCell ⟨b, j, none⟩ u) i cs t := ⟨blk_far h.is (p := ⟨b, j, none⟩) hi u, h.rs⟩
end

/-- expr does what the model does -/
def ExprOK (w0 : World) (g : Nat) (src : ByteArray) (fv : Value) (f : Nat → M Nat) : Prop :=
  ∀ (rs : Nat → Prop) (p : Nat) (i : Int) (W : World) (s : St) (nv : Value) (x : Except Fault (Nat × St)), i = (p : Int) → p ≤ 6 → f p s = some x → Pz w0 g src rs s nv fv W →
    Calls Tryz.prog 133 #[.pointer (some ⟨g, 0, none⟩), .int .i64 i] W fun e W' => Ends w0 g src rs fv W nv (fun k : Nat => .int .i64 (k : Int)) x e W'

section
variable {w0 W : World} {g : Nat} {src : ByteArray} {rs : Nat → Prop} {s : St} {nv fv : Value} {c : Cs}

theorem inner_inv {c : Cs} {a b : List UInt8} {x : Except Fault (Nat × St)} (hm : (do wantM a; let k ← c.expr 1; wantM b; return k : M Nat) s = some x) :
    ∃ y, wantM a s = some y ∧ ((∃ f, y = .error f ∧ x = .error f) ∨ ∃ s1, y = .ok ((), s1) ∧ ∃ z, c.expr 1 s1 = some z ∧ ((∃ f, z = .error f ∧ x = .error f) ∨ ∃ k s2, z = .ok (k, s2) ∧
      ∃ u, wantM b s2 = some u ∧ ((∃ f, u = .error f ∧ x = .error f) ∨ ∃ s3, u = .ok ((), s3) ∧ x = .ok (k, s3)))) := by
  rcases bind_is hm with ⟨e, h1, hx⟩ | ⟨u, s1, h1, h2⟩
  · exact ⟨_, h1, .inl ⟨e, rfl, hx⟩⟩
  · refine ⟨_, h1, .inr ⟨s1, rfl, ?_⟩⟩
    rcases bind_is h2 with ⟨e, h3, hx⟩ | ⟨k, s2, h3, h4⟩
    · exact ⟨_, h3, .inl ⟨e, rfl, hx⟩⟩
    · refine ⟨_, h3, .inr ⟨k, s2, rfl, ?_⟩⟩
      rcases bind_is h4 with ⟨e, h5, hx⟩ | ⟨u, s3, h5, h6⟩
      · exact ⟨_, h5, .inl ⟨e, rfl, hx⟩⟩
      · refine ⟨_, h5, .inr ⟨s3, rfl, ?_⟩⟩
        have h6 : some (Except.ok (k, s3)) = some x := h6
        exact (Option.some.inj h6).symm

set_option maxRecDepth 100000 in
set_option maxHeartbeats 2000000 in
theorem inner1_w (hE : ExprOK w0 g src fv c.expr) (a b : List UInt8) {x : Except Fault (Nat × St)} (hm : (do wantM a; let k ← c.expr 1; wantM b; return k : M Nat) s = some x) (h : Pz w0 g src rs s nv fv W) (pb fb kb tb : Nat) (k0 : Int)
    (b1 : Bx rs W pb #[.pointer (some ⟨g, 0, none⟩)] 70) (b2 : Bx rs W fb #[.string ⟨a.toArray⟩] 9) (b3 : Bx rs W kb #[.int .i64 k0] 3) (b4 : Bx rs W tb #[.string ⟨b.toArray⟩] 9) (n1 : pb ≠ kb) (n2 : tb ≠ kb) :
    Calls Tryz.prog 153 #[.pointer (some ⟨pb, 0, none⟩), .pointer (some ⟨fb, 0, none⟩), .pointer (some ⟨kb, 0, none⟩), .pointer (some ⟨tb, 0, none⟩)] W
      fun e W' => EndsB w0 g src rs fv kb W nv (fun (k : Nat) nv' W' => Bx rs W' kb #[.int .i64 (k : Int)] 3) x e W' := by
  obtain ⟨y, hy, HX⟩ := inner_inv hm
  have HX := Lib.hid HX
  have HE := Lib.hid hE
  have HW := Lib.hid (want_w a hy h)
  have HP := Lib.hid h
  have B1 := Lib.hid b1
  have B3 := Lib.hid b3
  have B4 := Lib.hid b4
  have c1 := (b1.cell 0).trans rfl
  have c2 := (b2.cell 0).trans rfl
  clear hm hy h hE b1 b2 b3 b4
  go_enter Tryz.func153, Tryz.ntmps153
  go_wp2_with (go_at_call 42; (with_reducible refine (HW.out).mono ?_))
  clear c1 c2
  rcases HX.out with ⟨f, rfl, rfl⟩ | ⟨s1, rfl, z, hz, hx⟩
  · rintro e w1 ⟨rfl, hb⟩
    have HB := Lib.hid hb
    clear hb
    go_wp2
    exact ⟨rfl, rfl, HB.out⟩
  · rintro e w1 ⟨rfl, n1v, hp1, hm1⟩
    have B1' := Lib.hid (B1.out.mv HP.out hm1)
    have B3' := Lib.hid (B3.out.mv HP.out hm1)
    have B4' := Lib.hid (B4.out.mv HP.out hm1)
    have c1 := (B1'.out.cell 0).trans rfl
    have HP1 := Lib.hid hp1
    have HM1 := Lib.hid hm1
    have HC := Lib.hid (HE.out rs 1 1 w1 s1 n1v z rfl (by omega) hz hp1)
    have HX1 := Lib.hid hx
    clear hp1 hm1 hz hx B1 B3 B4
    go_wp2_with (go_at_call 133; (with_reducible refine (HC.out).mono ?_))
    clear c1
    rcases HX1.out with ⟨f, rfl, rfl⟩ | ⟨k, s2, rfl, u, hu, hx⟩
    · rintro e w2 ⟨rfl, hb⟩
      have HB := Lib.hid hb
      clear hb
      go_wp2
      exact ⟨rfl, rfl, HB.out⟩
    · rintro e w2 ⟨rfl, n2v, hp2, hm2⟩
      have b1 := B1'.out.mv HP1.out hm2
      have b3 := B3'.out.mv HP1.out hm2
      have b4 := B4'.out.mv HP1.out hm2
      have f3 := b3.frozen 0
      have c3 := (b3.cell 0).trans rfl
      have HP3 := Lib.hid (hp2.other b3.rs 0 (.int .i64 (k : Int)))
      have HM3 := Lib.hid ((((HM1.out.trans hm2).mb kb)).set 0 (.int .i64 (k : Int)))
      have b3s := b3.set 0 (.int .i64 (k : Int)) (cs' := #[.int .i64 (k : Int)]) rfl
      have b1s := b1.far n1 0 (.int .i64 (k : Int))
      have b4s := b4.far n2 0 (.int .i64 (k : Int))
      have c1 := (b1s.cell 0).trans rfl
      have c4 := (b4s.cell 0).trans rfl
      have HC := Lib.hid (want_w b hu HP3.out)
      have HX2 := Lib.hid hx
      have B3 := Lib.hid b3s
      clear hp2 hm2 hu hx b1 b3 b4 b3s b1s b4s
      go_wp2_with (go_at_call 42; (with_reducible refine (HC.out).mono ?_))
      clear c1 c3 c4 f3
      rcases HX2.out with ⟨f, rfl, rfl⟩ | ⟨s3, rfl, rfl⟩
      · rintro e w3 ⟨rfl, hb⟩
        have HB := Lib.hid hb
        clear hb
        go_wp2
        exact ⟨rfl, rfl, HB.out⟩
      · rintro e w3 ⟨rfl, n3v, hp3, hm3⟩
        have HP4 := Lib.hid hp3
        have HM4 := Lib.hid (HM3.out.trans (hm3.mb kb))
        have B5 := Lib.hid (B3.out.mv HP3.out hm3)
        clear hp3 hm3
        go_wp2
        go_end0
        exact ⟨rfl, n3v, HP4.out, HM4.out, B5.out⟩
theorem alloc1 (W : World) (o1 : Obj) : Below W.heap.size W (W.alloc o1) ∧ (W.alloc o1).heap[W.heap.size]? = some o1 ∧ (W.alloc o1).heap.size = W.heap.size + 1 :=
  ⟨below_alloc (Below.refl _ _) _, blk_new W o1, by simp⟩
theorem alloc2 (W : World) (o1 o2 : Obj) : Below W.heap.size W ((W.alloc o1).alloc o2) ∧ ((W.alloc o1).alloc o2).heap[W.heap.size]? = some o1 ∧ ((W.alloc o1).alloc o2).heap[W.heap.size + 1]? = some o2 ∧ ((W.alloc o1).alloc o2).heap.size = W.heap.size + 1 + 1 := by
  obtain ⟨h1, h2, h3⟩ := alloc1 W o1
  refine ⟨below_alloc h1 _, blk_alloc h2 o2, ?_, by simp⟩
  rw [← h3]; exact blk_new _ _
theorem alloc3 (W : World) (o1 o2 o3 : Obj) : Below W.heap.size W (((W.alloc o1).alloc o2).alloc o3) ∧ (((W.alloc o1).alloc o2).alloc o3).heap[W.heap.size]? = some o1 ∧ (((W.alloc o1).alloc o2).alloc o3).heap[W.heap.size + 1]? = some o2 ∧ (((W.alloc o1).alloc o2).alloc o3).heap[W.heap.size + 1 + 1]? = some o3 ∧ (((W.alloc o1).alloc o2).alloc o3).heap.size = W.heap.size + 1 + 1 + 1 := by
  obtain ⟨h1, h2, h3, h4⟩ := alloc2 W o1 o2
  refine ⟨below_alloc h1 _, blk_alloc h2 o3, blk_alloc h3 o3, ?_, by simp⟩
  rw [← h4]; exact blk_new _ _
theorem alloc4 (W : World) (o1 o2 o3 o4 : Obj) : Below W.heap.size W ((((W.alloc o1).alloc o2).alloc o3).alloc o4) ∧ ((((W.alloc o1).alloc o2).alloc o3).alloc o4).heap[W.heap.size]? = some o1 ∧ ((((W.alloc o1).alloc o2).alloc o3).alloc o4).heap[W.heap.size + 1]? = some o2 ∧ ((((W.alloc o1).alloc o2).alloc o3).alloc o4).heap[W.heap.size + 1 + 1]? = some o3 ∧ ((((W.alloc o1).alloc o2).alloc o3).alloc o4).heap[W.heap.size + 1 + 1 + 1]? = some o4 ∧ ((((W.alloc o1).alloc o2).alloc o3).alloc o4).heap.size = W.heap.size + 1 + 1 + 1 + 1 := by
  obtain ⟨h1, h2, h3, h4, h5⟩ := alloc3 W o1 o2 o3
  refine ⟨below_alloc h1 _, blk_alloc h2 o4, blk_alloc h3 o4, blk_alloc h4 o4, ?_, by simp⟩
  rw [← h5]; exact blk_new _ _

set_option maxRecDepth 100000 in
set_option maxHeartbeats 2000000 in
theorem inner_w (hE : ExprOK w0 g src fv c.expr) (a b : List UInt8) {x : Except Fault (Nat × St)} (hm : innerM c a b s = some x) (h : Pz w0 g src rs s nv fv W) :
    Calls Tryz.prog 148 #[.pointer (some ⟨g, 0, none⟩), .string ⟨a.toArray⟩, .string ⟨b.toArray⟩] W fun e W' => Ends w0 g src rs fv W nv (fun k : Nat => .int .i64 (k : Int)) x e W' := by
  obtain ⟨hb, i1, i2, i3, i4, hz⟩ := alloc4 W (.cells #[.pointer (some ⟨g, 0, none⟩)] 70) (.cells #[.string ⟨a.toArray⟩] 9) (.cells #[.string ⟨b.toArray⟩] 9) (.cells #[.int .i64 0] 3)
  have hmf : ∀ (fn : Fn) (first cap : Array Value) (w : World), (Instr.makeFunc fn first cap).run Tryz.prog w = .ok (.func fn first cap) w := fun _ _ _ _ => rfl
  have hp := h.resB hb
  have HC := Lib.hid (opened_w (W.heap.size + 1 + 1 + 1) (fun (k : Nat) nv' W' => Bx (fun k => rs k ∨ (W.heap.size ≤ k ∧ k < ((((W.alloc (.cells #[.pointer (some ⟨g, 0, none⟩)] 70)).alloc (.cells #[.string ⟨a.toArray⟩] 9)).alloc (.cells #[.string ⟨b.toArray⟩] 9)).alloc (.cells #[.int .i64 0] 3)).heap.size)) W' (W.heap.size + 1 + 1 + 1) #[.int .i64 (k : Int)] 3) 153
    #[.pointer (some ⟨W.heap.size, 0, none⟩), .pointer (some ⟨W.heap.size + 1, 0, none⟩), .pointer (some ⟨W.heap.size + 1 + 1 + 1, 0, none⟩), .pointer (some ⟨W.heap.size + 1 + 1, 0, none⟩)] hm hp (fun w => by kernel_rfl)
    (fun k nv' W1 u hx => ⟨blk_far hx.is (p := ⟨g, 2, none⟩) (by have := h.lt; show W.heap.size + 1 + 1 + 1 ≠ g; omega) u, hx.rs⟩)
    (fun W1 y hp1 hm1 hy => inner1_w hE a b hy hp1 W.heap.size (W.heap.size + 1) (W.heap.size + 1 + 1 + 1) (W.heap.size + 1 + 1) 0
      (Bx.mv ⟨i1, .inr ⟨by omega, by rw [hz]; omega⟩⟩ hp hm1) (Bx.mv ⟨i2, .inr ⟨by omega, by rw [hz]; omega⟩⟩ hp hm1) (Bx.mv ⟨i4, .inr ⟨by omega, by rw [hz]; omega⟩⟩ hp hm1) (Bx.mv ⟨i3, .inr ⟨by omega, by rw [hz]; omega⟩⟩ hp hm1) (by omega) (by omega)))
  have HB := Lib.hid hb
  have HP := Lib.hid h
  have hk : W.heap.size ≤ W.heap.size + 1 + 1 + 1 := by omega
  clear hz i1 i2 i3 i4 h hE hm hp hb
  go_enter Tryz.func148, Tryz.ntmps148
  go_wp2_with (go_at_call 89; (with_reducible refine (HC.out).mono ?_))
  generalize ((((W.alloc (.cells #[.pointer (some ⟨g, 0, none⟩)] 70)).alloc (.cells #[.string ⟨a.toArray⟩] 9)).alloc (.cells #[.string ⟨b.toArray⟩] 9)).alloc (.cells #[.int .i64 0] 3)) = W1 at HB HC ⊢
  clear HC
  rcases x with f | ⟨k, s'⟩
  · rintro e w1 ⟨rfl, hb⟩
    have HB := Lib.hid hb
    clear hb
    go_wp2
    exact ⟨rfl, rfl, HB.out⟩
  · rintro e w1 ⟨rfl, nv', hp, hm, hx⟩
    have c6 := (hx.cell 0).trans rfl
    have f6 := hx.frozen 0
    have HP1 := Lib.hid (Pz.free (rs := rs) (hp.other hx.rs 0 (.int .i64 (k : Int))) (fun k hk => .inl hk))
    have HM1 := Lib.hid (Mb.mv (Mv.below HB.out) hk (hm.set 0 (.int .i64 (k : Int))))
    have b6 := hx.set 0 (.int .i64 (k : Int)) (cs' := #[.int .i64 (k : Int)]) rfl
    have d6 := (b6.cell 0).trans rfl
    clear hp hm hx b6
    go_wp2
    exact bodyPost_ret (v := .int .i64 (k : Int)) (by simp [results, Tryz.results148, go_sem, d6]) rfl ⟨rfl, nv', HP1.out, HM1.out⟩
end

end Go.Proofs.YtgplgmjnhkhbjaaGreatDoor
