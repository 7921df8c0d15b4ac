/- The law WireNumbers over plain functions: a number is written as the reference writes it, and any bytes are read as the reference reads them. For every int and every text. -/
import Derived.Test.YtjjmbcnalcjnmaaEx01
import Derived.Test.YtjjmbcnalcjnmaaPx6
namespace Go.Proofs.Ytjjmbcnalcjnmaa.Pure
open Go.RowKit Go.Proofs.Ytjjmbcnalcjnmaa.P Go.Proofs.Ytjjmbcnalcjnmaa.Sp Go.Proofs.YtjjmbcnalcjnmaaW.PrintWords Go.Proofs.YtjjmbcnalcjnmaaW.PrintLast Go.Proofs.YtjjmbcnalcjnmaaW.PrintMore

theorem int_range {n : Int} (h : (Lit.int .i64 n).wf = true) : -9223372036854775808 ≤ n ∧ n ≤ 9223372036854775807 := by
  simpa [Lit.wf, IntKind.min, IntKind.max, IntKind.signed, IntKind.bits] using h

theorem WireNumbers : tabulariumlaw01_WireNumbers.Pure := by
  intro a0 a1 w0 h1
  have hn := int_range w0
  refine ⟨60, ?_⟩
  unfold tabulariumlaw01_WireNumbers.f
  rw [at_rounds tabulariumlaw01_examples.mono (show 30 ≤ 60 by omega) examples_at, wire_take_at a1 60 (by omega), ref_take_at a1 h1 60 (by omega), wire_num_at hn 60 (by omega), ref_num_at hn 60 (by omega)]
  simp only [Option.bind_some]
  rw [if_pos trivial, if_pos trivial]
  unfold tnumR tnumB
  cases tnum a1 with
  | none => simp
  | some p => simp

end Go.Proofs.Ytjjmbcnalcjnmaa.Pure
