/- The Go functions of this seat as plain Lean functions, and for each the proof that its call gives what the plain function gives. Printed by a program of this session. -/
import Derived.Test.YtabgoiacjfekpaaProg
import Derived.Below
import Derived.Deep.Draws
import Derived.Deep.AppendLies
import Derived.Maps.AppendAt
import Derived.OwnWalk
import Derived.Laws.BytesArg
import Derived.Laws.MakeOwn
import Derived.Laws.OwnMore
import Derived.Deep.OwnRows
import Derived.Tactics
import Derived.Lib.ConvBytes
import Derived.Laws.Slices
import Derived.WalkKit
import Derived.KernelRfl
import Derived.RowKit3
import Derived.Deep.LoopGhost
import Derived.Deep.QuietTactic
import Derived.BigQuiet
import Derived.WideLaws
import Derived.Deep.DeepCutAuto
import Derived.Deep.CutBlock
import Derived.Deep.RegionHeld3
import Derived.Laws.Rows
import Derived.Lib.AppendStr
import Derived.ArgAppend
import Derived.Laws.IdiomCopy
import Derived.OrdersHeld
import Derived.Laws.BitsLemmas
import Derived.RowKit
import Derived.Lib.Hide
import Derived.Test.YtabgoiacjfekpaaFlt
import Derived.Test.YtabgoiacjfekpaaFln
import Derived.Deep.Quiet
import Derived.Deep.QuietTactic
import Derived.Test.YtabgoiacjfekpaaWWords
import Derived.Test.YtabgoiacjfekpaaWLast
import Derived.Test.YtabgoiacjfekpaaWTab
import Derived.Test.YtabgoiacjfekpaaWFour
import Derived.Test.YtabgoiacjfekpaaWQPut
import Derived.Test.YtabgoiacjfekpaaWApart
import Derived.Test.YtabgoiacjfekpaaWArr
import Derived.Test.YtabgoiacjfekpaaWZeros
import Derived.Test.YtabgoiacjfekpaaWFoot
import Derived.Test.YtabgoiacjfekpaaWKept
import Derived.Test.YtabgoiacjfekpaaWShare
import Derived.Test.YtabgoiacjfekpaaWN
import Derived.Test.YtabgoiacjfekpaaWFootNe
import Derived.Test.YtabgoiacjfekpaaWAt
import Derived.Test.YtabgoiacjfekpaaWEqStruct
import Derived.Test.YtabgoiacjfekpaaWRepsOne
import Derived.Test.YtabgoiacjfekpaaWInv
import Derived.Test.YtabgoiacjfekpaaWInvWords
import Derived.Test.YtabgoiacjfekpaaWGuard
import Derived.Test.YtabgoiacjfekpaaWNEv
import Derived.Test.YtabgoiacjfekpaaWMore
namespace Go.Proofs.Ytabgoiacjfekpaa.P
open Go.RowKit Go.Proofs.YtabgoiacjfekpaaW.PrintWords Go.Proofs.YtabgoiacjfekpaaW.PrintLast Go.Proofs.YtabgoiacjfekpaaW.PrintMore
attribute [local go_sem] max2_int min2_int max_two min_two max_three min_three max_four min_four   -- for this text's walks alone
set_option linter.unusedVariables false
set_option linter.unusedSimpArgs false



def errW : Option Int → Value
  | none => .nilIface
  | some c => .iface 0 (.int .i64 c)
theorem errW_none : errW none = .nilIface := rfl
theorem errW_some (c : Int) : errW (some c) = .iface 0 (.int .i64 c) := rfl

theorem info3 : (Try.prog.info? 3).map (fun i => (i.zero, i.size, i.bytes)) = some (some (.int .i64 0), 1, 8) := by kernel_rfl
-- the values' own types

end Go.Proofs.Ytabgoiacjfekpaa.P
