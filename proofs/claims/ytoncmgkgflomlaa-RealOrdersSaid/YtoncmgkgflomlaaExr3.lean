/- The chapter's examples hold, by running them. -/
import Derived.Test.YtoncmgkgflomlaaFlRank
import Derived.Test.YtoncmgkgflomlaaPx3
import Derived.KernelRfl
namespace Go.Proofs.Ytoncmgkgflomlaa.Fl
open Go.RowKit Go.Proofs.YtoncmgkgflomlaaW.PrintWords Go.Proofs.YtoncmgkgflomlaaW.PrintLast Go.Proofs.YtoncmgkgflomlaaW.PrintMore Go.Proofs.Ytoncmgkgflomlaa.P

theorem ex03 : tabulariumlaw03_examples.f 5 = some true := by kernel_rfl
theorem examples_at (k : Nat) (hk : 5 ≤ k) : tabulariumlaw03_examples.f k = some true := at_rounds tabulariumlaw03_examples.mono hk ex03

end Go.Proofs.Ytoncmgkgflomlaa.Fl
