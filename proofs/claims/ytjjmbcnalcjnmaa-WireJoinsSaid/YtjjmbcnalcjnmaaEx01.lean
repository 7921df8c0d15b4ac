/- The chapter's examples hold, by running them. -/
import Derived.Test.YtjjmbcnalcjnmaaWire
import Derived.Test.YtjjmbcnalcjnmaaPx3
import Derived.KernelRfl
namespace Go.Proofs.Ytjjmbcnalcjnmaa.Sp
open Go.RowKit Go.Proofs.YtjjmbcnalcjnmaaW.PrintWords Go.Proofs.YtjjmbcnalcjnmaaW.PrintLast Go.Proofs.YtjjmbcnalcjnmaaW.PrintMore Go.Proofs.Ytjjmbcnalcjnmaa.P

theorem examples_at : tabulariumlaw01_examples.f 30 = some true := by kernel_rfl
theorem examples_ev : Ev (fun k => tabulariumlaw01_examples.f k) true := Ev.of tabulariumlaw01_examples.mono examples_at

end Go.Proofs.Ytjjmbcnalcjnmaa.Sp
