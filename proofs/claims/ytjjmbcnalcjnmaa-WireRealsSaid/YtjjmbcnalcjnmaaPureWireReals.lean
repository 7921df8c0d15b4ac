/- The law WireReals over plain functions: a fraction is written as the reference writes it, and any bytes are read as the reference reads them. For every fraction and every text. -/
import Derived.Test.YtjjmbcnalcjnmaaEx01
import Derived.Test.YtjjmbcnalcjnmaaReals
import Derived.Test.YtjjmbcnalcjnmaaPx15
namespace Go.Proofs.Ytjjmbcnalcjnmaa.Pure
open Go.RowKit Go.Proofs.Ytjjmbcnalcjnmaa.P Go.Proofs.Ytjjmbcnalcjnmaa.Sp Go.Proofs.YtjjmbcnalcjnmaaW.PrintWords Go.Proofs.YtjjmbcnalcjnmaaW.PrintLast Go.Proofs.YtjjmbcnalcjnmaaW.PrintMore

theorem float_range {x : Nat} (h : (Lit.float .f64 x).wf = true) : x < 18446744073709551616 := by
  simpa [Lit.wf] using h

theorem WireReals : tabulariumlaw01_WireReals.Pure := by
  intro a0 a1 h0 h1
  have hx := float_range h0
  refine ⟨60, ?_⟩
  unfold tabulariumlaw01_WireReals.f
  rw [at_rounds tabulariumlaw01_examples.mono (show 30 ≤ 60 by omega) examples_at, wire_treal_at, ref_treal_at a1 60 (by omega), wire_real_at, ref_real_at hx 60 (by omega)]
  simp only [Option.bind_some]
  have e : (trealW a1).1 = (trealR a1).1 ∧ (trealW a1).2.1 = (trealR a1).2.1 ∧ ((trealR a1).2.2 = true → (trealW a1).2.2 = 0) ∧ ((trealR a1).2.2 = false → (trealW a1).2.2 = 2) := by
    unfold trealW trealR
    cases treal a1 with
    | none => simp
    | some p => simp
  obtain ⟨e1, e2, e3, e4⟩ := e
  rw [e1, same_self, Option.bind_some, if_pos trivial, if_pos trivial, e2, if_pos rfl]
  cases c : (trealR a1).2.2 with
  | true => rw [e3 c, if_pos rfl]; rfl
  | false => rw [e4 c, if_pos rfl]; rfl

end Go.Proofs.Ytjjmbcnalcjnmaa.Pure
