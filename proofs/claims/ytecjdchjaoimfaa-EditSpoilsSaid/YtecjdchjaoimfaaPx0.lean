/- The Go functions of this seat as plain Lean functions, and for each the proof that its call gives what the plain function gives. Printed by a program of this session. -/
import Derived.Test.YtecjdchjaoimfaaProg
import Derived.Below
import Derived.Deep.Draws
import Derived.Deep.AppendLies
import Derived.Maps.AppendAt
import Derived.OwnWalk
import Derived.Laws.BytesArg
import Derived.Laws.MakeOwn
import Derived.Laws.OwnMore
import Derived.Deep.OwnRows
import Derived.Tactics
import Derived.Lib.ConvBytes
import Derived.Laws.Slices
import Derived.WalkKit
import Derived.KernelRfl
import Derived.RowKit3
import Derived.Deep.LoopGhost
import Derived.Deep.QuietTactic
import Derived.BigQuiet
import Derived.WideLaws
import Derived.Deep.DeepCutAuto
import Derived.Deep.CutBlock
import Derived.Deep.RegionHeld3
import Derived.Laws.Rows
import Derived.Lib.AppendStr
import Derived.ArgAppend
import Derived.Laws.IdiomCopy
import Derived.OrdersHeld
import Derived.Laws.BitsLemmas
import Derived.RowKit
import Derived.Lib.Hide
import Derived.Test.YtecjdchjaoimfaaFlt
import Derived.Test.YtecjdchjaoimfaaFln
import Derived.Laws.EntriesVeiled
import Derived.Deep.Quiet
import Derived.Deep.QuietTactic
import Derived.Handy
import Derived.Lib.Builder
import Derived.Shelf.Strings.Builder1
import Derived.Lib.AppendStr
import Derived.Test.YtecjdchjaoimfaaWWords
import Derived.Test.YtecjdchjaoimfaaWLast
import Derived.Test.YtecjdchjaoimfaaWTab
import Derived.Test.YtecjdchjaoimfaaWFour
import Derived.Test.YtecjdchjaoimfaaWQPut
import Derived.Test.YtecjdchjaoimfaaWApart
import Derived.Test.YtecjdchjaoimfaaWArr
import Derived.Test.YtecjdchjaoimfaaWZeros
import Derived.Test.YtecjdchjaoimfaaWFoot
import Derived.Test.YtecjdchjaoimfaaWKept
import Derived.Test.YtecjdchjaoimfaaWShare
import Derived.Test.YtecjdchjaoimfaaWN
import Derived.Test.YtecjdchjaoimfaaWFootNe
import Derived.Test.YtecjdchjaoimfaaWAt
import Derived.Test.YtecjdchjaoimfaaWEqStruct
import Derived.Test.YtecjdchjaoimfaaWRepsOne
import Derived.Test.YtecjdchjaoimfaaWInv
import Derived.Test.YtecjdchjaoimfaaWInvWords
import Derived.Test.YtecjdchjaoimfaaWGuard
import Derived.Test.YtecjdchjaoimfaaWNEv
import Derived.Test.YtecjdchjaoimfaaWMore
namespace Go.Proofs.Ytecjdchjaoimfaa.P
open Go.RowKit Go.Proofs.YtecjdchjaoimfaaW.PrintWords Go.Proofs.YtecjdchjaoimfaaW.PrintLast Go.Proofs.YtecjdchjaoimfaaW.PrintMore
attribute [local go_sem] max2_int min2_int max_two min_two max_three min_three max_four min_four   -- for this text's walks alone
set_option linter.unusedVariables false
set_option linter.unusedSimpArgs false



def errW : Option Int → Value
  | none => .nilIface
  | some c => .iface 0 (.int .i64 c)
theorem errW_none : errW none = .nilIface := rfl
theorem errW_some (c : Int) : errW (some c) = .iface 0 (.int .i64 c) := rfl

theorem info3 : (Try.prog.info? 3).map (fun i => (i.zero, i.size, i.bytes)) = some (some (.int .i64 0), 1, 8) := by kernel_rfl
theorem info5 : (Try.prog.info? 5).map (fun i => (i.zero, i.size, i.bytes)) = some (some (.int .u8 0), 1, 1) := by kernel_rfl
-- the values' own types

end Go.Proofs.Ytecjdchjaoimfaa.P
