/- The Go functions of this seat as plain Lean functions, and for each the proof that its call gives what the plain function gives. Printed by a program of this session. -/
import Derived.Test.YtnkihggdohigiaaPx0
import Derived.Test.YtnkihggdohigiaaPx3
namespace Go.Proofs.Ytnkihggdohigiaa.P
open Go.RowKit Go.Proofs.YtnkihggdohigiaaW.PrintWords Go.Proofs.YtnkihggdohigiaaW.PrintLast Go.Proofs.YtnkihggdohigiaaW.PrintMore
attribute [local go_sem] max2_int min2_int max_two min_two max_three min_three max_four min_four   -- for this text's walks alone
set_option linter.unusedVariables false
set_option linter.unusedSimpArgs false

/-! ### tabulariumref03_key: function 36 -/
def tabulariumref03_key.f (a0 : Nat) : Option (Int × Nat × Int) := if (FloatKind.f64.format.order a0 a0 != some .eq) = true then (some (2, 0, 0)) else (if (FloatKind.f64.format.order a0 0 == some .eq) = true then ((math_Signbit.f a0).bind fun t164 => (if t164 = true then (some (1, 0, 0)) else (some (1, a0, 1)))) else (some (1, a0, 1)))
set_option maxHeartbeats 8000000 in
set_option maxRecDepth 100000 in
theorem tabulariumref03_key.calls (a0 : Nat) (r1 : Int) (r2 : Nat) (r3 : Int) (w : World) (h : tabulariumref03_key.f a0 = some (r1, r2, r3)) :
    Calls Try.prog 36 #[.float .f64 a0] w fun e w' => e = .returned (.tuple #[.int .i64 r1, .float .f64 r2, .int .i64 r3]) ∧ Drawn0 w w' := by
  have H : (if (FloatKind.f64.format.order a0 a0 != some .eq) = true then (some (2, 0, 0)) else (if (FloatKind.f64.format.order a0 0 == some .eq) = true then ((math_Signbit.f a0).bind fun t164 => (if t164 = true then (some (1, 0, 0)) else (some (1, a0, 1)))) else (some (1, a0, 1)))) = some (r1, r2, r3) := h
  clear h
  by_cases c2 : (FloatKind.f64.format.order a0 a0 != some .eq) = true
  · rw [if_pos c2] at H
    have c2b0 : (FloatKind.f64.format.order a0 a0 != some .eq) = true := c2
    clear c2
    simp only [Option.some.injEq, Prod.mk.injEq] at H
    obtain ⟨rfl, rfl, rfl⟩ := H
    go_enter Try.func36, Try.ntmps36
    go_wp2
    go_ret3
    exact ⟨by first | rfl | (simp; done) | (simp [*]; done) | (simp; exact (fun (l_ : List UInt8) => by cases l_ <;> rfl : ∀ l_ : List UInt8, l_.isEmpty = !(l_ != [])) _), by repeat (first | exact Drawn0.refl _ | apply Drawn0.step)⟩
  · rw [if_neg c2] at H
    have c2b0 : (FloatKind.f64.format.order a0 a0 != some .eq) = false := Bool.eq_false_iff.mpr c2
    clear c2
    by_cases c3 : (FloatKind.f64.format.order a0 0 == some .eq) = true
    · rw [if_pos c3] at H
      have c3b0 : (FloatKind.f64.format.order a0 0 == some .eq) = true := c3
      clear c3
      replace H := Option.bind_eq_some_iff.mp H
      obtain ⟨t164, A40, H⟩ := H
      replace H : (if t164 = true then (some (1, 0, 0)) else (some (1, a0, 1))) = some (r1, r2, r3) := H
      have A4 := Aside0.mk A40
      clear A40
      by_cases c5 : t164 = true
      · subst c5
        have H1 : (some (1, 0, 0)) = some (r1, r2, r3) := by rw [if_pos rfl] at H; exact H
        clear H
        have H := H1
        clear H1
        simp only [Option.some.injEq, Prod.mk.injEq] at H
        obtain ⟨rfl, rfl, rfl⟩ := H
        go_enter Try.func36, Try.ntmps36
        go_wp2_with (first | (go_at_call 42; (with_reducible refine (math_Signbit.calls a0 true _ A4.out).mono ?_); rintro e w' ⟨rfl, ⟨nd, rfl⟩⟩))
        go_ret3
        exact ⟨by first | rfl | (simp; done) | (simp [*]; done) | (simp; exact (fun (l_ : List UInt8) => by cases l_ <;> rfl : ∀ l_ : List UInt8, l_.isEmpty = !(l_ != [])) _), by repeat (first | exact Drawn0.refl _ | apply Drawn0.step)⟩
      · replace c5 := Bool.eq_false_iff.mpr c5
        subst c5
        have H1 : (some (1, a0, 1)) = some (r1, r2, r3) := by rw [if_neg (show ¬ (false = true) by decide)] at H; exact H
        clear H
        have H := H1
        clear H1
        simp only [Option.some.injEq, Prod.mk.injEq] at H
        obtain ⟨rfl, rfl, rfl⟩ := H
        go_enter Try.func36, Try.ntmps36
        go_wp2_with (first | (go_at_call 42; (with_reducible refine (math_Signbit.calls a0 false _ A4.out).mono ?_); rintro e w' ⟨rfl, ⟨nd, rfl⟩⟩))
        go_ret3
        exact ⟨by first | rfl | (simp; done) | (simp [*]; done) | (simp; exact (fun (l_ : List UInt8) => by cases l_ <;> rfl : ∀ l_ : List UInt8, l_.isEmpty = !(l_ != [])) _), by repeat (first | exact Drawn0.refl _ | apply Drawn0.step)⟩
    · rw [if_neg c3] at H
      have c3b0 : (FloatKind.f64.format.order a0 0 == some .eq) = false := Bool.eq_false_iff.mpr c3
      clear c3
      simp only [Option.some.injEq, Prod.mk.injEq] at H
      obtain ⟨rfl, rfl, rfl⟩ := H
      go_enter Try.func36, Try.ntmps36
      go_wp2
      go_ret3
      exact ⟨by first | rfl | (simp; done) | (simp [*]; done) | (simp; exact (fun (l_ : List UInt8) => by cases l_ <;> rfl : ∀ l_ : List UInt8, l_.isEmpty = !(l_ != [])) _), by repeat (first | exact Drawn0.refl _ | apply Drawn0.step)⟩

/-! ### tabulariumref03_sign: function 37 -/
def tabulariumref03_sign.f (a0 : Bool) : Option (Int) := if a0 = true then (some (-1)) else (some 1)
set_option maxHeartbeats 8000000 in
set_option maxRecDepth 100000 in
theorem tabulariumref03_sign.calls (a0 : Bool) (r : Int) (w : World) (h : tabulariumref03_sign.f a0 = some r) :
    Calls Try.prog 37 #[.bool a0] w fun e w' => e = .returned (.int .i64 r) ∧ Drawn0 w w' := by
  have H : (if a0 = true then (some (-1)) else (some 1)) = some r := h
  clear h
  by_cases c2 : a0 = true
  · subst c2
    have H1 : (some (-1)) = some r := by rw [if_pos rfl] at H; exact H
    clear H
    have H := H1
    clear H1
    obtain rfl := Option.some.inj H
    go_enter Try.func37, Try.ntmps37
    go_wp2
    go_ret
    exact ⟨by first | rfl | (simp; done) | (simp [*]; done) | (simp; exact (fun (l_ : List UInt8) => by cases l_ <;> rfl : ∀ l_ : List UInt8, l_.isEmpty = !(l_ != [])) _), by repeat (first | exact Drawn0.refl _ | apply Drawn0.step)⟩
  · replace c2 := Bool.eq_false_iff.mpr c2
    subst c2
    have H1 : (some 1) = some r := by rw [if_neg (show ¬ (false = true) by decide)] at H; exact H
    clear H
    have H := H1
    clear H1
    obtain rfl := Option.some.inj H
    go_enter Try.func37, Try.ntmps37
    go_wp2
    go_ret
    exact ⟨by first | rfl | (simp; done) | (simp [*]; done) | (simp; exact (fun (l_ : List UInt8) => by cases l_ <;> rfl : ∀ l_ : List UInt8, l_.isEmpty = !(l_ != [])) _), by repeat (first | exact Drawn0.refl _ | apply Drawn0.step)⟩

end Go.Proofs.Ytnkihggdohigiaa.P
