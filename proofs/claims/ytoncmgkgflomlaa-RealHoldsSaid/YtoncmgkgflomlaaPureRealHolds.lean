/- The law RealHolds over plain functions: any fraction is held between any others, and any share is reckoned, as the reference does it. For every three fractions. -/
import Derived.Test.YtoncmgkgflomlaaEx03
import Derived.Test.YtoncmgkgflomlaaPx10
namespace Go.Proofs.Ytoncmgkgflomlaa.Pure
open Go.RowKit Go.Proofs.Ytoncmgkgflomlaa.P Go.Proofs.Ytoncmgkgflomlaa.Fl Go.Proofs.YtoncmgkgflomlaaW.PrintWords Go.Proofs.YtoncmgkgflomlaaW.PrintLast Go.Proofs.YtoncmgkgflomlaaW.PrintMore

theorem RealHolds : tabulariumlaw03_RealHolds.Pure := by
  intro f lo hi w0 w1 w2
  refine ⟨10, ?_⟩
  unfold tabulariumlaw03_RealHolds.f
  rw [examples_at 10 (by omega), clamp_at f lo hi 10 (by omega), ref_clamp_at f lo hi 10 (by omega), share_at f lo 10 (by omega), ref_share_at f lo 10 (by omega)]
  simp only [Option.bind_some, same_at]
  obtain ⟨s, hs⟩ := share_some f lo
  rw [hs]
  simp only [Option.bind_some, same_at]
  rfl

end Go.Proofs.Ytoncmgkgflomlaa.Pure
