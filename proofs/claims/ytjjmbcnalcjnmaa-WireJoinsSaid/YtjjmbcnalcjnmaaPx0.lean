/- The Go functions of this seat as plain Lean functions, and for each the proof that its call gives what the plain function gives. Printed by a program of this session. -/
import Derived.Test.YtjjmbcnalcjnmaaProg
import Derived.Below
import Derived.Deep.Draws
import Derived.Deep.AppendLies
import Derived.Maps.AppendAt
import Derived.OwnWalk
import Derived.Laws.BytesArg
import Derived.Laws.MakeOwn
import Derived.Laws.OwnMore
import Derived.Deep.OwnRows
import Derived.Tactics
import Derived.Lib.ConvBytes
import Derived.Laws.Slices
import Derived.WalkKit
import Derived.KernelRfl
import Derived.RowKit3
import Derived.Deep.LoopGhost
import Derived.Deep.QuietTactic
import Derived.BigQuiet
import Derived.WideLaws
import Derived.Deep.DeepCutAuto
import Derived.Deep.CutBlock
import Derived.Deep.RegionHeld3
import Derived.Laws.Rows
import Derived.Lib.AppendStr
import Derived.ArgAppend
import Derived.Laws.IdiomCopy
import Derived.OrdersHeld
import Derived.Laws.BitsLemmas
import Derived.RowKit
import Derived.Lib.Hide
import Derived.Test.YtjjmbcnalcjnmaaFlt
import Derived.Test.YtjjmbcnalcjnmaaFln
import Derived.Deep.Quiet
import Derived.Deep.QuietTactic
import Derived.Handy
import Derived.Lib.Builder
import Derived.Shelf.Strings.Builder1
import Derived.Lib.AppendStr
import Derived.Test.YtjjmbcnalcjnmaaWWords
import Derived.Test.YtjjmbcnalcjnmaaWLast
import Derived.Test.YtjjmbcnalcjnmaaWTab
import Derived.Test.YtjjmbcnalcjnmaaWFour
import Derived.Test.YtjjmbcnalcjnmaaWQPut
import Derived.Test.YtjjmbcnalcjnmaaWApart
import Derived.Test.YtjjmbcnalcjnmaaWArr
import Derived.Test.YtjjmbcnalcjnmaaWZeros
import Derived.Test.YtjjmbcnalcjnmaaWFoot
import Derived.Test.YtjjmbcnalcjnmaaWKept
import Derived.Test.YtjjmbcnalcjnmaaWShare
import Derived.Test.YtjjmbcnalcjnmaaWN
import Derived.Test.YtjjmbcnalcjnmaaWFootNe
import Derived.Test.YtjjmbcnalcjnmaaWAt
import Derived.Test.YtjjmbcnalcjnmaaWEqStruct
import Derived.Test.YtjjmbcnalcjnmaaWRepsOne
import Derived.Test.YtjjmbcnalcjnmaaWInv
import Derived.Test.YtjjmbcnalcjnmaaWInvWords
import Derived.Test.YtjjmbcnalcjnmaaWGuard
import Derived.Test.YtjjmbcnalcjnmaaWNEv
import Derived.Test.YtjjmbcnalcjnmaaWMore
namespace Go.Proofs.Ytjjmbcnalcjnmaa.P
open Go.RowKit Go.Proofs.YtjjmbcnalcjnmaaW.PrintWords Go.Proofs.YtjjmbcnalcjnmaaW.PrintLast Go.Proofs.YtjjmbcnalcjnmaaW.PrintMore
attribute [local go_sem] max2_int min2_int max_two min_two max_three min_three max_four min_four   -- for this text's walks alone
set_option linter.unusedVariables false
set_option linter.unusedSimpArgs false



def errW : Option Int → Value
  | none => .nilIface
  | some c => .iface 0 (.int .i64 c)
theorem errW_none : errW none = .nilIface := rfl
theorem errW_some (c : Int) : errW (some c) = .iface 0 (.int .i64 c) := rfl

theorem x31 (x : Int) (W : World) : (callFunc 31 #[.int .u64 x]).run Try.prog W = .ok (.value (.float .f64 x.toNat)) W := by
  rw [run_callFunc_extern (e := Extern.MathFloatBits.float64frombits) Try.func31 (by kernel_rfl) (by kernel_rfl) (by kernel_rfl) (by rfl)]
  rfl
theorem x32 (x : Nat) (W : World) : (callFunc 32 #[.float .f64 x]).run Try.prog W = .ok (.value (.int .u64 (x : Int))) W := by
  rw [run_callFunc_extern (e := Extern.MathFloatBits.float64bits) Try.func32 (by kernel_rfl) (by kernel_rfl) (by kernel_rfl) (by rfl)]
  rfl
theorem info5 : (Try.prog.info? 5).map (fun i => (i.zero, i.size, i.bytes)) = some (some (.int .u8 0), 1, 1) := by kernel_rfl
theorem info9 : (Try.prog.info? 9).map (fun i => (i.zero, i.size, i.bytes)) = some (some (.string ⟨#[]⟩), 1, 16) := by kernel_rfl
-- the values' own types

end Go.Proofs.Ytjjmbcnalcjnmaa.P
