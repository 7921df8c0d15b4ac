/- The law WireTexts over plain functions: a text is written as the reference writes it, and any bytes are read as the reference reads them. For every two texts. -/
import Derived.Test.YtjjmbcnalcjnmaaEx01
import Derived.Test.YtjjmbcnalcjnmaaTexts
import Derived.Test.YtjjmbcnalcjnmaaPx11
namespace Go.Proofs.Ytjjmbcnalcjnmaa.Pure
open Go.RowKit Go.Proofs.Ytjjmbcnalcjnmaa.P Go.Proofs.Ytjjmbcnalcjnmaa.Sp Go.Proofs.YtjjmbcnalcjnmaaW.PrintWords Go.Proofs.YtjjmbcnalcjnmaaW.PrintLast Go.Proofs.YtjjmbcnalcjnmaaW.PrintMore

theorem WireTexts : tabulariumlaw01_WireTexts.Pure := by
  intro a0 a1 h0 h1
  refine ⟨60, ?_⟩
  unfold tabulariumlaw01_WireTexts.f
  rw [at_rounds tabulariumlaw01_examples.mono (show 30 ≤ 60 by omega) examples_at, wire_text_at a0 (by omega) 60 (by omega), ref_text_at a0 (by omega) 60 (by omega), wire_ttext_at a1 60 (by omega), ref_ttext_at a1 h1 60 (by omega)]
  simp only [Option.bind_some]
  unfold textW textR ttextW ttextR
  cases text a0 <;> cases ttext a1 <;> simp

end Go.Proofs.Ytjjmbcnalcjnmaa.Pure
