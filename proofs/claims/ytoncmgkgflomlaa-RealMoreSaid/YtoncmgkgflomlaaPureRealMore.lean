/- The law RealMore over plain functions: with more there what was reached stays reached; with a less share, too; all of it is always as much as the share 1. For every three ints and two fractions. -/
import Derived.Test.YtoncmgkgflomlaaEx03
import Derived.Test.YtoncmgkgflomlaaFlReach
import Derived.Test.YtoncmgkgflomlaaPx6
namespace Go.Proofs.Ytoncmgkgflomlaa.Pure
open Go.RowKit Go.Proofs.Ytoncmgkgflomlaa.P Go.Proofs.Ytoncmgkgflomlaa.Fl Go.Proofs.YtoncmgkgflomlaaW.PrintWords Go.Proofs.YtoncmgkgflomlaaW.PrintLast Go.Proofs.YtoncmgkgflomlaaW.PrintMore

theorem int_range {n : Int} (h : (Lit.int .i64 n).wf = true) : -9223372036854775808 ≤ n ∧ n ≤ 9223372036854775807 := by
  simpa [Lit.wf, IntKind.min, IntKind.max, IntKind.signed, IntKind.bits] using h

theorem RealMore : tabulariumlaw03_RealMore.Pure := by
  intro a b want s l w0 w1 w2 w3 w4
  have hw := (int_range w2).2
  refine ⟨10, ?_⟩
  unfold tabulariumlaw03_RealMore.f
  rw [examples_at 10 (by omega), reached_at a want s hw, reached_at b want s hw, reached_at a want l hw, reached_at _ want 4607182418800017408 hw]
  simp only [Option.bind_some]
  have hall : reachv (mx a want) want 4607182418800017408 = true := reach_all hw (by unfold mx; split <;> omega)
  rw [hall]
  by_cases c : reachv a want s = true
  · have hless : (FloatKind.f64.format.order l s == some .lt || FloatKind.f64.format.order l s == some .eq) = true → reachv a want l = true := fun h => by
      obtain ⟨⟨n1, n2⟩, hk⟩ := (t_le l s).1 h
      exact reach_less hw c n1 hk n2
    rw [if_pos c]
    by_cases cab : b < a
    · rw [if_pos cab, if_pos trivial, if_pos c]
      by_cases cl : (FloatKind.f64.format.order l s == some .lt || FloatKind.f64.format.order l s == some .eq) = true
      · rw [if_pos cl, if_pos (hless cl)]
      · rw [if_neg cl]
    · rw [if_neg cab, if_pos trivial, if_pos (reach_more hw c (by omega))]
      by_cases cl : (FloatKind.f64.format.order l s == some .lt || FloatKind.f64.format.order l s == some .eq) = true
      · rw [if_pos cl, if_pos (hless cl)]
      · rw [if_neg cl]
  · rw [if_neg c, if_pos trivial]
    congr 1
    rw [decide_eq_true_eq]
    refine Int.not_le.1 fun h => c ?_
    unfold reachv
    rw [if_pos (by omega)]

end Go.Proofs.Ytoncmgkgflomlaa.Pure
