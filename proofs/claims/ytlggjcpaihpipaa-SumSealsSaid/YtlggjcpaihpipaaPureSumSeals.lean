/- The law SumSeals over plain functions: any text is sealed, and any bytes are opened, as the reference does it. For every two texts. -/
import Derived.Test.YtlggjcpaihpipaaSeals
import Derived.Test.YtlggjcpaihpipaaPx19
namespace Go.Proofs.Ytlggjcpaihpipaa.Pure
open Go.RowKit Go.Proofs.Ytlggjcpaihpipaa.P Go.Proofs.Ytlggjcpaihpipaa.Sp Go.Proofs.YtlggjcpaihpipaaW.PrintWords Go.Proofs.YtlggjcpaihpipaaW.PrintLast Go.Proofs.YtlggjcpaihpipaaW.PrintMore

theorem SumSeals : tabulariumlaw02_SumSeals.Pure := by
  intro s b hs hb
  refine ⟨10 * s.size + 40200, ?_⟩
  generalize hk : 10 * s.size + 40200 = k
  unfold tabulariumlaw02_SumSeals.f
  rw [at_rounds tabulariumlaw02_examples.mono (show 100 ≤ k by omega) examples_at, seal_at s (by omega) k (by omega), ref_seal_at s (by omega) k (by omega), open_at b k (by omega), ref_open_at b hb k (by omega)]
  simp only [Option.bind_some]
  unfold sealW sealR
  cases seal_ s <;> simp

end Go.Proofs.Ytlggjcpaihpipaa.Pure
