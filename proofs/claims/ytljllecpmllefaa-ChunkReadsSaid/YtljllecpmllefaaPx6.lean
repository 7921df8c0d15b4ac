/- The Go functions of this seat as plain Lean functions, and for each the proof that its call gives what the plain function gives. Printed by a program of this session. -/
import Derived.Test.YtljllecpmllefaaPx0
namespace Go.Proofs.Ytljllecpmllefaa.P
open Go.RowKit Go.Proofs.YtljllecpmllefaaW.PrintWords Go.Proofs.YtljllecpmllefaaW.PrintLast Go.Proofs.YtljllecpmllefaaW.PrintMore
attribute [local go_sem] max2_int min2_int max_two min_two max_three min_three max_four min_four   -- for this text's walks alone
set_option linter.unusedVariables false
set_option linter.unusedSimpArgs false

-- NOT PRINTED: function 24 (chunk_part)

/-! ### chunk_number: function 27 -/
def chunk_number.f (a0 : Int) : Option (Bool) := if a0 ≥ 1 then (some (decide (a0 ≤ 9007199254740991))) else (some false)
set_option maxHeartbeats 8000000 in
set_option maxRecDepth 100000 in
theorem chunk_number.calls (a0 : Int) (r : Bool) (w : World) (h : chunk_number.f a0 = some r) :
    Calls Try.prog 27 #[.int .i64 a0] w fun e w' => e = .returned (.bool r) ∧ Drawn0 w w' := by
  have H : (if a0 ≥ 1 then (some (decide (a0 ≤ 9007199254740991))) else (some false)) = some r := h
  clear h
  by_cases c2 : a0 ≥ 1
  · rw [if_pos c2] at H
    have c2b0 : decide (1 ≤ a0) = true := decide_eq_true c2
    clear c2
    obtain rfl := Option.some.inj H
    go_enter Try.func27, Try.ntmps27
    go_wp2
    go_ret
    exact ⟨by first | rfl | (simp; done) | (simp [*]; done) | (simp; exact (fun (l_ : List UInt8) => by cases l_ <;> rfl : ∀ l_ : List UInt8, l_.isEmpty = !(l_ != [])) _), by repeat (first | exact Drawn0.refl _ | apply Drawn0.step)⟩
  · rw [if_neg c2] at H
    have c2b0 : decide (1 ≤ a0) = false := decide_eq_false c2
    clear c2
    obtain rfl := Option.some.inj H
    go_enter Try.func27, Try.ntmps27
    go_wp2
    go_ret
    exact ⟨by first | rfl | (simp; done) | (simp [*]; done) | (simp; exact (fun (l_ : List UInt8) => by cases l_ <;> rfl : ∀ l_ : List UInt8, l_.isEmpty = !(l_ != [])) _), by repeat (first | exact Drawn0.refl _ | apply Drawn0.step)⟩

-- NOT PRINTED: function 23 (chunk_Read_1)

-- NOT PRINTED: function 28 (chunk_Read_2)

-- NOT PRINTED: function 29 (chunk_Read_3)

end Go.Proofs.Ytljllecpmllefaa.P
