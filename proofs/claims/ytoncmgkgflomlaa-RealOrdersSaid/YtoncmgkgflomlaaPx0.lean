/- The Go functions of this seat as plain Lean functions, and for each the proof that its call gives what the plain function gives. Printed by a program of this session. -/
import Derived.Test.YtoncmgkgflomlaaProg
import Derived.Below
import Derived.Deep.Draws
import Derived.Deep.AppendLies
import Derived.Maps.AppendAt
import Derived.OwnWalk
import Derived.Laws.BytesArg
import Derived.Laws.MakeOwn
import Derived.Laws.OwnMore
import Derived.Deep.OwnRows
import Derived.Tactics
import Derived.Lib.ConvBytes
import Derived.Laws.Slices
import Derived.WalkKit
import Derived.KernelRfl
import Derived.RowKit3
import Derived.Deep.LoopGhost
import Derived.Deep.QuietTactic
import Derived.BigQuiet
import Derived.WideLaws
import Derived.Deep.DeepCutAuto
import Derived.Deep.CutBlock
import Derived.Deep.RegionHeld3
import Derived.Laws.Rows
import Derived.Lib.AppendStr
import Derived.ArgAppend
import Derived.Laws.IdiomCopy
import Derived.OrdersHeld
import Derived.Laws.BitsLemmas
import Derived.RowKit
import Derived.Lib.Hide
import Derived.Test.YtoncmgkgflomlaaFlt
import Derived.Test.YtoncmgkgflomlaaFln
import Derived.Deep.Quiet
import Derived.Deep.QuietTactic
import Derived.Shelf.SlSortCmp.Insertion1
import Derived.Sort.LotA
import Derived.Handy
import Derived.Shelf.Slices.Clone
import Derived.Lib.OwnBridge
import Derived.Sort.OwnSortedInts
import Derived.Test.YtoncmgkgflomlaaWWords
import Derived.Test.YtoncmgkgflomlaaWLast
import Derived.Test.YtoncmgkgflomlaaWTab
import Derived.Test.YtoncmgkgflomlaaWFour
import Derived.Test.YtoncmgkgflomlaaWQPut
import Derived.Test.YtoncmgkgflomlaaWApart
import Derived.Test.YtoncmgkgflomlaaWArr
import Derived.Test.YtoncmgkgflomlaaWZeros
import Derived.Test.YtoncmgkgflomlaaWFoot
import Derived.Test.YtoncmgkgflomlaaWKept
import Derived.Test.YtoncmgkgflomlaaWShare
import Derived.Test.YtoncmgkgflomlaaWN
import Derived.Test.YtoncmgkgflomlaaWFootNe
import Derived.Test.YtoncmgkgflomlaaWAt
import Derived.Test.YtoncmgkgflomlaaWEqStruct
import Derived.Test.YtoncmgkgflomlaaWRepsOne
import Derived.Test.YtoncmgkgflomlaaWInv
import Derived.Test.YtoncmgkgflomlaaWInvWords
import Derived.Test.YtoncmgkgflomlaaWGuard
import Derived.Test.YtoncmgkgflomlaaWNEv
import Derived.Test.YtoncmgkgflomlaaWMore
namespace Go.Proofs.Ytoncmgkgflomlaa.P
open Go.RowKit Go.Proofs.YtoncmgkgflomlaaW.PrintWords Go.Proofs.YtoncmgkgflomlaaW.PrintLast Go.Proofs.YtoncmgkgflomlaaW.PrintMore
attribute [local go_sem] max2_int min2_int max_two min_two max_three min_three max_four min_four   -- for this text's walks alone
set_option linter.unusedVariables false
set_option linter.unusedSimpArgs false



def errW : Option Int → Value
  | none => .nilIface
  | some c => .iface 0 (.int .i64 c)
theorem errW_none : errW none = .nilIface := rfl
theorem errW_some (c : Int) : errW (some c) = .iface 0 (.int .i64 c) := rfl

theorem x14 (x : Nat) (W : World) : (callFunc 14 #[.float .f64 x]).run Try.prog W = .ok (.value (.int .u64 (x : Int))) W := by
  rw [run_callFunc_extern (e := Extern.MathFloatBits.float64bits) Try.func14 (by kernel_rfl) (by kernel_rfl) (by kernel_rfl) (by rfl)]
  rfl
theorem x34 (x : Int) (W : World) : (callFunc 34 #[.int .u64 x]).run Try.prog W = .ok (.value (.float .f64 x.toNat)) W := by
  rw [run_callFunc_extern (e := Extern.MathFloatBits.float64frombits) Try.func34 (by kernel_rfl) (by kernel_rfl) (by kernel_rfl) (by rfl)]
  rfl
theorem info22 : (Try.prog.info? 22).map (fun i => (i.zero, i.size, i.bytes)) = some (some (.float .f64 0), 1, 8) := by kernel_rfl
-- the values' own types

end Go.Proofs.Ytoncmgkgflomlaa.P
