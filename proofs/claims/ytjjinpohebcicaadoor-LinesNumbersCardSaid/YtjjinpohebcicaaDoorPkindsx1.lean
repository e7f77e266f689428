-- PRINTED BY print.sh 35421559b90ae4d0a3588c463048766b98c2df88dd9212a6774a882060cdf62d: not written by this session
import Derived.Test.YtjjinpohebcicaaDoorPkindsx0
namespace Go.Proofs.YtjjinpohebcicaaDoor.Pkinds
open Go.RowKit Go.Proofs.YtjjinpohebcicaaDoorW.PrintWords Go.Proofs.YtjjinpohebcicaaDoorW.PrintLast Go.Proofs.YtjjinpohebcicaaDoorW.PrintMore
attribute [local go_sem] max2_int min2_int max_two min_two max_three min_three max_four min_four   -- for this text's walks alone
set_option linter.unusedVariables false
set_option linter.unusedSimpArgs false

/-! ### smithyref31_kinds: function 27 -/
def smithyref31_kinds.f (a0 : ByteArray) : Option (Int × ByteArray) := if a0.toList = ([115, 111, 117, 114, 99, 101] : List UInt8) then (some (1, (⟨#[110, 116]⟩ : ByteArray))) else (if a0.toList = ([98, 117, 105, 108, 100] : List UInt8) then (some (2, (⟨#[110, 110, 105]⟩ : ByteArray))) else (if a0.toList = ([115, 116, 97, 114, 116] : List UInt8) then (some (3, (⟨#[110, 110, 110, 105, 43]⟩ : ByteArray))) else (if a0.toList = ([115, 116, 101, 112] : List UInt8) then (some (4, (⟨#[110, 105]⟩ : ByteArray))) else (if a0.toList = ([115, 104, 111, 119] : List UInt8) then (some (5, (⟨#[110]⟩ : ByteArray))) else (if a0.toList = ([100, 114, 111, 112] : List UInt8) then (some (6, (⟨#[110]⟩ : ByteArray))) else (some (0, (⟨#[]⟩ : ByteArray))))))))
set_option maxHeartbeats 8000000 in
set_option maxRecDepth 100000 in
theorem smithyref31_kinds.calls (a0 : ByteArray) (r1 : Int) (r2 : ByteArray) (w : World) (h : smithyref31_kinds.f a0 = some (r1, r2)) :
    Calls Tryd.prog 27 #[.string a0] w fun e w' => e = .returned (.tuple #[.int .u8 r1, .string r2]) ∧ Drawn0 w w' := by
  have H : (if a0.toList = ([115, 111, 117, 114, 99, 101] : List UInt8) then (some (1, (⟨#[110, 116]⟩ : ByteArray))) else (if a0.toList = ([98, 117, 105, 108, 100] : List UInt8) then (some (2, (⟨#[110, 110, 105]⟩ : ByteArray))) else (if a0.toList = ([115, 116, 97, 114, 116] : List UInt8) then (some (3, (⟨#[110, 110, 110, 105, 43]⟩ : ByteArray))) else (if a0.toList = ([115, 116, 101, 112] : List UInt8) then (some (4, (⟨#[110, 105]⟩ : ByteArray))) else (if a0.toList = ([115, 104, 111, 119] : List UInt8) then (some (5, (⟨#[110]⟩ : ByteArray))) else (if a0.toList = ([100, 114, 111, 112] : List UInt8) then (some (6, (⟨#[110]⟩ : ByteArray))) else (some (0, (⟨#[]⟩ : ByteArray))))))))) = some (r1, r2) := h
  clear h
  by_cases c2 : a0.toList = ([115, 111, 117, 114, 99, 101] : List UInt8)
  · rw [if_pos c2] at H
    have c2b0 : (a0.toList == ([115, 111, 117, 114, 99, 101] : List UInt8)) = true := beq_iff_eq.mpr c2
    have c2b1 : (a0.toList != ([115, 111, 117, 114, 99, 101] : List UInt8)) = false := bne_eq_false_iff_eq.mpr c2
    clear c2
    simp only [Option.some.injEq, Prod.mk.injEq] at H
    obtain ⟨rfl, rfl⟩ := H
    go_enter Tryd.func27, Tryd.ntmps27
    go_wp2
    go_ret2
    exact ⟨by first | rfl | (simp; done) | (simp [*]; done), by repeat (first | exact Drawn0.refl _ | apply Drawn0.step)⟩
  · rw [if_neg c2] at H
    have c2b0 : (a0.toList == ([115, 111, 117, 114, 99, 101] : List UInt8)) = false := beq_eq_false_iff_ne.mpr c2
    have c2b1 : (a0.toList != ([115, 111, 117, 114, 99, 101] : List UInt8)) = true := bne_iff_ne.mpr c2
    by_cases c3 : a0.toList = ([98, 117, 105, 108, 100] : List UInt8)
    · rw [if_pos c3] at H
      have c3b0 : (a0.toList == ([98, 117, 105, 108, 100] : List UInt8)) = true := beq_iff_eq.mpr c3
      have c3b1 : (a0.toList != ([98, 117, 105, 108, 100] : List UInt8)) = false := bne_eq_false_iff_eq.mpr c3
      clear c3
      simp only [Option.some.injEq, Prod.mk.injEq] at H
      obtain ⟨rfl, rfl⟩ := H
      go_enter Tryd.func27, Tryd.ntmps27
      go_wp2
      go_ret2
      exact ⟨by first | rfl | (simp; done) | (simp [*]; done), by repeat (first | exact Drawn0.refl _ | apply Drawn0.step)⟩
    · rw [if_neg c3] at H
      have c3b0 : (a0.toList == ([98, 117, 105, 108, 100] : List UInt8)) = false := beq_eq_false_iff_ne.mpr c3
      have c3b1 : (a0.toList != ([98, 117, 105, 108, 100] : List UInt8)) = true := bne_iff_ne.mpr c3
      by_cases c4 : a0.toList = ([115, 116, 97, 114, 116] : List UInt8)
      · rw [if_pos c4] at H
        have c4b0 : (a0.toList == ([115, 116, 97, 114, 116] : List UInt8)) = true := beq_iff_eq.mpr c4
        have c4b1 : (a0.toList != ([115, 116, 97, 114, 116] : List UInt8)) = false := bne_eq_false_iff_eq.mpr c4
        clear c4
        simp only [Option.some.injEq, Prod.mk.injEq] at H
        obtain ⟨rfl, rfl⟩ := H
        go_enter Tryd.func27, Tryd.ntmps27
        go_wp2
        go_ret2
        exact ⟨by first | rfl | (simp; done) | (simp [*]; done), by repeat (first | exact Drawn0.refl _ | apply Drawn0.step)⟩
      · rw [if_neg c4] at H
        have c4b0 : (a0.toList == ([115, 116, 97, 114, 116] : List UInt8)) = false := beq_eq_false_iff_ne.mpr c4
        have c4b1 : (a0.toList != ([115, 116, 97, 114, 116] : List UInt8)) = true := bne_iff_ne.mpr c4
        by_cases c5 : a0.toList = ([115, 116, 101, 112] : List UInt8)
        · rw [if_pos c5] at H
          have c5b0 : (a0.toList == ([115, 116, 101, 112] : List UInt8)) = true := beq_iff_eq.mpr c5
          have c5b1 : (a0.toList != ([115, 116, 101, 112] : List UInt8)) = false := bne_eq_false_iff_eq.mpr c5
          clear c5
          simp only [Option.some.injEq, Prod.mk.injEq] at H
          obtain ⟨rfl, rfl⟩ := H
          go_enter Tryd.func27, Tryd.ntmps27
          go_wp2
          go_ret2
          exact ⟨by first | rfl | (simp; done) | (simp [*]; done), by repeat (first | exact Drawn0.refl _ | apply Drawn0.step)⟩
        · rw [if_neg c5] at H
          have c5b0 : (a0.toList == ([115, 116, 101, 112] : List UInt8)) = false := beq_eq_false_iff_ne.mpr c5
          have c5b1 : (a0.toList != ([115, 116, 101, 112] : List UInt8)) = true := bne_iff_ne.mpr c5
          by_cases c6 : a0.toList = ([115, 104, 111, 119] : List UInt8)
          · rw [if_pos c6] at H
            have c6b0 : (a0.toList == ([115, 104, 111, 119] : List UInt8)) = true := beq_iff_eq.mpr c6
            have c6b1 : (a0.toList != ([115, 104, 111, 119] : List UInt8)) = false := bne_eq_false_iff_eq.mpr c6
            clear c6
            simp only [Option.some.injEq, Prod.mk.injEq] at H
            obtain ⟨rfl, rfl⟩ := H
            go_enter Tryd.func27, Tryd.ntmps27
            go_wp2
            go_ret2
            exact ⟨by first | rfl | (simp; done) | (simp [*]; done), by repeat (first | exact Drawn0.refl _ | apply Drawn0.step)⟩
          · rw [if_neg c6] at H
            have c6b0 : (a0.toList == ([115, 104, 111, 119] : List UInt8)) = false := beq_eq_false_iff_ne.mpr c6
            have c6b1 : (a0.toList != ([115, 104, 111, 119] : List UInt8)) = true := bne_iff_ne.mpr c6
            by_cases c7 : a0.toList = ([100, 114, 111, 112] : List UInt8)
            · rw [if_pos c7] at H
              have c7b0 : (a0.toList == ([100, 114, 111, 112] : List UInt8)) = true := beq_iff_eq.mpr c7
              have c7b1 : (a0.toList != ([100, 114, 111, 112] : List UInt8)) = false := bne_eq_false_iff_eq.mpr c7
              clear c7
              simp only [Option.some.injEq, Prod.mk.injEq] at H
              obtain ⟨rfl, rfl⟩ := H
              go_enter Tryd.func27, Tryd.ntmps27
              go_wp2
              go_ret2
              exact ⟨by first | rfl | (simp; done) | (simp [*]; done), by repeat (first | exact Drawn0.refl _ | apply Drawn0.step)⟩
            · rw [if_neg c7] at H
              have c7b0 : (a0.toList == ([100, 114, 111, 112] : List UInt8)) = false := beq_eq_false_iff_ne.mpr c7
              have c7b1 : (a0.toList != ([100, 114, 111, 112] : List UInt8)) = true := bne_iff_ne.mpr c7
              simp only [Option.some.injEq, Prod.mk.injEq] at H
              obtain ⟨rfl, rfl⟩ := H
              go_enter Tryd.func27, Tryd.ntmps27
              go_wp2
              go_ret2
              exact ⟨by first | rfl | (simp; done) | (simp [*]; done), by repeat (first | exact Drawn0.refl _ | apply Drawn0.step)⟩

end Go.Proofs.YtjjinpohebcicaaDoor.Pkinds
