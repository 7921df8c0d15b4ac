/- The law EditApart over plain functions: two edits that may be ones have the same bytes just if they are the same. -/
import Derived.Test.YtecjdchjaoimfaaEx10
import Derived.Test.YtecjdchjaoimfaaPx20
namespace Go.Proofs.Ytecjdchjaoimfaa.Pure
open Go.RowKit Go.Proofs.Ytecjdchjaoimfaa.P Go.Proofs.Ytecjdchjaoimfaa.Sp Go.Proofs.YtecjdchjaoimfaaW.PrintWords Go.Proofs.YtecjdchjaoimfaaW.PrintLast Go.Proofs.YtecjdchjaoimfaaW.PrintMore

theorem EditApart : tabulariumlaw10_EditApart.Pure := by
  intro k1 p1 t1 c1 q1 n1 l1 k2 p2 t2 c2 q2 n2 l2 _ _ _ _ _ _ _ _ _ _ _ _ _ _ _ _ _ _
  refine ⟨60, ?_⟩
  unfold tabulariumlaw10_EditApart.f
  rw [at_rounds tabulariumlaw10_examples.mono (show 40 ≤ 60 by omega) examples_at, wire_enc_at _ _ _ _ _ _ _ 60 (by omega), wire_enc_at _ _ _ _ _ _ _ 60 (by omega)]
  simp only [Option.bind_some]
  unfold encW
  by_cases e1 : rightB k1 p1 t1 c1 q1 n1 l1 = true
  · rw [if_pos e1]
    by_cases e2 : rightB k2 p2 t2 c2 q2 n2 l2 = true
    · rw [if_pos e2]
      have h1 := (right_iff ..).1 e1
      have h2 := (right_iff ..).1 e2
      have hl := h1.len
      simp only
      rw [if_pos trivial, if_pos trivial, same_at _ _ _ _ _ _ _ _ _ _ _ _ _ _ (by unfold maxLen; omega) 60 (by omega), Option.bind_some, if_pos trivial]
      congr 1
      rw [beq_iff_eq, Bool.eq_iff_iff, beq_iff_eq, decide_eq_true_iff]
      exact enc_inj h1 h2
    · rw [if_neg e2]
      simp only
      rw [if_pos trivial, if_neg (by decide)]
  · rw [if_neg e1]
    simp only
    rw [if_neg (by decide)]

end Go.Proofs.Ytecjdchjaoimfaa.Pure
