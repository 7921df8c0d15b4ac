/- The law RealReaches over plain functions: of any numbers and any share it is told whether it is reached, and any list's mean is, as the reference tells it. For every two ints, every fraction and every list of fractions. -/
import Derived.Test.YtoncmgkgflomlaaEx03
import Derived.Test.YtoncmgkgflomlaaFlMean
import Derived.Test.YtoncmgkgflomlaaPx14
namespace Go.Proofs.Ytoncmgkgflomlaa.Pure
open Go.RowKit Go.Proofs.Ytoncmgkgflomlaa.P Go.Proofs.Ytoncmgkgflomlaa.Fl Go.Proofs.YtoncmgkgflomlaaW.PrintWords Go.Proofs.YtoncmgkgflomlaaW.PrintLast Go.Proofs.YtoncmgkgflomlaaW.PrintMore
set_option linter.unusedVariables false

theorem int_range {n : Int} (h : (Lit.int .i64 n).wf = true) : -9223372036854775808 ≤ n ∧ n ≤ 9223372036854775807 := by
  simpa [Lit.wf, IntKind.min, IntKind.max, IntKind.signed, IntKind.bits] using h

theorem RealReaches : tabulariumlaw03_RealReaches.Pure := by
  intro a want s l w0 w1 w2 h1 h2 h3
  have hw := (int_range w1).2
  refine ⟨200, ?_⟩
  unfold tabulariumlaw03_RealReaches.f
  have em : mn (l.length : Int) 100 = ((min l.length 100 : Nat) : Int) := by unfold mn; split <;> omega
  have hlen : (l.take (min l.length 100)).length ≤ 100 := by rw [List.length_take]; omega
  have hel : ∀ x ∈ l.take (min l.length 100), x < 18446744073709551616 := fun x hx => wf_lt (h3 x (List.mem_of_mem_take hx))
  obtain ⟨m1, m2⟩ := mean_at (l.take (min l.length 100)) (by omega) hel 200 (by omega)
  rw [examples_at 200 (by omega), em, Int.toNat_natCast, m1, m2, reached_at a want s hw, ref_reached_at a want s hw]
  simp only [Option.bind_some, same_at]
  rw [if_pos (by omega), if_pos (by omega)]
  simp

end Go.Proofs.Ytoncmgkgflomlaa.Pure
