/- The Go functions of this seat as plain Lean functions, and for each the proof that its call gives what the plain function gives. Printed by a program of this session. -/
import Derived.Test.YtljllecpmllefaaProg
import Derived.Below
import Derived.Deep.Draws
import Derived.Deep.AppendLies
import Derived.Maps.AppendAt
import Derived.OwnWalk
import Derived.Laws.BytesArg
import Derived.Laws.MakeOwn
import Derived.Laws.OwnMore
import Derived.Deep.OwnRows
import Derived.Tactics
import Derived.Lib.ConvBytes
import Derived.Laws.Slices
import Derived.WalkKit
import Derived.KernelRfl
import Derived.RowKit3
import Derived.Deep.LoopGhost
import Derived.Deep.QuietTactic
import Derived.BigQuiet
import Derived.WideLaws
import Derived.Deep.DeepCutAuto
import Derived.Deep.CutBlock
import Derived.Deep.RegionHeld3
import Derived.Laws.Rows
import Derived.Lib.AppendStr
import Derived.ArgAppend
import Derived.Laws.IdiomCopy
import Derived.OrdersHeld
import Derived.Laws.BitsLemmas
import Derived.RowKit
import Derived.Lib.Hide
import Derived.Deep.Quiet
import Derived.Deep.QuietTactic
import Derived.Handy
import Derived.Lib.Builder
import Derived.Shelf.Strings.Builder1
import Derived.Lib.AppendStr
import Derived.Defers
import Derived.Recover
import Derived.Laws.Pointers
import Derived.WalkLawsBesides
import Derived.RegionTactic
import Derived.ChangeAlike
import Derived.Test.YtljllecpmllefaaWWords
import Derived.Test.YtljllecpmllefaaWLast
import Derived.Test.YtljllecpmllefaaWTab
import Derived.Test.YtljllecpmllefaaWFour
import Derived.Test.YtljllecpmllefaaWQPut
import Derived.Test.YtljllecpmllefaaWApart
import Derived.Test.YtljllecpmllefaaWArr
import Derived.Test.YtljllecpmllefaaWZeros
import Derived.Test.YtljllecpmllefaaWFoot
import Derived.Test.YtljllecpmllefaaWKept
import Derived.Test.YtljllecpmllefaaWShare
import Derived.Test.YtljllecpmllefaaWN
import Derived.Test.YtljllecpmllefaaWFootNe
import Derived.Test.YtljllecpmllefaaWAt
import Derived.Test.YtljllecpmllefaaWEqStruct
import Derived.Test.YtljllecpmllefaaWRepsOne
import Derived.Test.YtljllecpmllefaaWInv
import Derived.Test.YtljllecpmllefaaWInvWords
import Derived.Test.YtljllecpmllefaaWGuard
import Derived.Test.YtljllecpmllefaaWNEv
import Derived.Test.YtljllecpmllefaaWMore
namespace Go.Proofs.Ytljllecpmllefaa.P
open Go.RowKit Go.Proofs.YtljllecpmllefaaW.PrintWords Go.Proofs.YtljllecpmllefaaW.PrintLast Go.Proofs.YtljllecpmllefaaW.PrintMore
attribute [local go_sem] max2_int min2_int max_two min_two max_three min_three max_four min_four   -- for this text's walks alone
set_option linter.unusedVariables false
set_option linter.unusedSimpArgs false



def errW : Option Int → Value
  | none => .nilIface
  | some c => .iface 0 (.int .i64 c)
theorem errW_none : errW none = .nilIface := rfl
theorem errW_some (c : Int) : errW (some c) = .iface 0 (.int .i64 c) := rfl

theorem info5 : (Try.prog.info? 5).map (fun i => (i.zero, i.size, i.bytes)) = some (some (.int .u8 0), 1, 1) := by kernel_rfl
theorem info9 : (Try.prog.info? 9).map (fun i => (i.zero, i.size, i.bytes)) = some (some (.string ⟨#[]⟩), 1, 16) := by kernel_rfl
-- the values' own types

end Go.Proofs.Ytljllecpmllefaa.P
