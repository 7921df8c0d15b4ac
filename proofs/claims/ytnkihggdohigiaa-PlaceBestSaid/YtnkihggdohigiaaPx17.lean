/- The Go functions of this seat as plain Lean functions, and for each the proof that its call gives what the plain function gives. Printed by a program of this session. -/
import Derived.Test.YtnkihggdohigiaaPx0
namespace Go.Proofs.Ytnkihggdohigiaa.P
open Go.RowKit Go.Proofs.YtnkihggdohigiaaW.PrintWords Go.Proofs.YtnkihggdohigiaaW.PrintLast Go.Proofs.YtnkihggdohigiaaW.PrintMore
attribute [local go_sem] max2_int min2_int max_two min_two max_three min_three max_four min_four   -- for this text's walks alone
set_option linter.unusedVariables false
set_option linter.unusedSimpArgs false

/-! ### tabulariumref03_Same: function 12 -/
def tabulariumref03_Same.f (a0 : Nat) (a1 : Nat) : Option (Bool) := if (FloatKind.f64.format.order a0 a0 != some .eq) = true then (if (FloatKind.f64.format.order a1 a1 != some .eq) = true then (some true) else (some (((a0 : Nat) : Int) == ((a1 : Nat) : Int)))) else (some (((a0 : Nat) : Int) == ((a1 : Nat) : Int)))
set_option maxHeartbeats 8000000 in
set_option maxRecDepth 100000 in
theorem tabulariumref03_Same.calls (a0 : Nat) (a1 : Nat) (r : Bool) (w : World) (h : tabulariumref03_Same.f a0 a1 = some r) :
    Calls Try.prog 12 #[.float .f64 a0, .float .f64 a1] w fun e w' => e = .returned (.bool r) ∧ Drawn0 w w' := by
  have hx22 := x22
  have H : (if (FloatKind.f64.format.order a0 a0 != some .eq) = true then (if (FloatKind.f64.format.order a1 a1 != some .eq) = true then (some true) else (some (((a0 : Nat) : Int) == ((a1 : Nat) : Int)))) else (some (((a0 : Nat) : Int) == ((a1 : Nat) : Int)))) = some r := h
  clear h
  by_cases c3 : (FloatKind.f64.format.order a0 a0 != some .eq) = true
  · rw [if_pos c3] at H
    have c3b0 : (FloatKind.f64.format.order a0 a0 != some .eq) = true := c3
    clear c3
    by_cases c4 : (FloatKind.f64.format.order a1 a1 != some .eq) = true
    · rw [if_pos c4] at H
      have c4b0 : (FloatKind.f64.format.order a1 a1 != some .eq) = true := c4
      clear c4
      obtain rfl := Option.some.inj H
      go_enter Try.func12, Try.ntmps12
      go_wp2
      go_ret
      exact ⟨by first | rfl | (simp; done) | (simp [*]; done) | (simp; exact (fun (l_ : List UInt8) => by cases l_ <;> rfl : ∀ l_ : List UInt8, l_.isEmpty = !(l_ != [])) _), by repeat (first | exact Drawn0.refl _ | apply Drawn0.step)⟩
    · rw [if_neg c4] at H
      have c4b0 : (FloatKind.f64.format.order a1 a1 != some .eq) = false := Bool.eq_false_iff.mpr c4
      clear c4
      obtain rfl := Option.some.inj H
      go_enter Try.func12, Try.ntmps12
      go_wp2
      go_ret
      exact ⟨by first | rfl | (simp; done) | (simp [*]; done) | (simp; exact (fun (l_ : List UInt8) => by cases l_ <;> rfl : ∀ l_ : List UInt8, l_.isEmpty = !(l_ != [])) _), by repeat (first | exact Drawn0.refl _ | apply Drawn0.step)⟩
  · rw [if_neg c3] at H
    have c3b0 : (FloatKind.f64.format.order a0 a0 != some .eq) = false := Bool.eq_false_iff.mpr c3
    clear c3
    obtain rfl := Option.some.inj H
    go_enter Try.func12, Try.ntmps12
    go_wp2
    go_ret
    exact ⟨by first | rfl | (simp; done) | (simp [*]; done) | (simp; exact (fun (l_ : List UInt8) => by cases l_ <;> rfl : ∀ l_ : List UInt8, l_.isEmpty = !(l_ != [])) _), by repeat (first | exact Drawn0.refl _ | apply Drawn0.step)⟩

end Go.Proofs.Ytnkihggdohigiaa.P
