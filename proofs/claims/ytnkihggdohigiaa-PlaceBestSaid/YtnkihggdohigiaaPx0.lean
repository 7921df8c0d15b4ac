/- The Go functions of this seat as plain Lean functions, and for each the proof that its call gives what the plain function gives. Printed by a program of this session. -/
import Derived.Test.YtnkihggdohigiaaProg
import Derived.Below
import Derived.Deep.Draws
import Derived.Deep.AppendLies
import Derived.Maps.AppendAt
import Derived.OwnWalk
import Derived.Laws.BytesArg
import Derived.Laws.MakeOwn
import Derived.Laws.OwnMore
import Derived.Deep.OwnRows
import Derived.Tactics
import Derived.Lib.ConvBytes
import Derived.Laws.Slices
import Derived.WalkKit
import Derived.KernelRfl
import Derived.RowKit3
import Derived.Deep.LoopGhost
import Derived.Deep.QuietTactic
import Derived.BigQuiet
import Derived.WideLaws
import Derived.Deep.DeepCutAuto
import Derived.Deep.CutBlock
import Derived.Deep.RegionHeld3
import Derived.Laws.Rows
import Derived.Lib.AppendStr
import Derived.ArgAppend
import Derived.Laws.IdiomCopy
import Derived.OrdersHeld
import Derived.Laws.BitsLemmas
import Derived.RowKit
import Derived.Lib.Hide
import Derived.Test.YtnkihggdohigiaaFlt
import Derived.Test.YtnkihggdohigiaaFln
import Derived.Deep.Quiet
import Derived.Deep.QuietTactic
import Derived.Shelf.SlSortCmp.Insertion1
import Derived.Sort.LotA
import Derived.Handy
import Derived.Shelf.Slices.Clone
import Derived.Lib.OwnBridge
import Derived.Sort.OwnSortedInts
import Derived.Test.YtnkihggdohigiaaWWords
import Derived.Test.YtnkihggdohigiaaWLast
import Derived.Test.YtnkihggdohigiaaWTab
import Derived.Test.YtnkihggdohigiaaWFour
import Derived.Test.YtnkihggdohigiaaWQPut
import Derived.Test.YtnkihggdohigiaaWApart
import Derived.Test.YtnkihggdohigiaaWArr
import Derived.Test.YtnkihggdohigiaaWZeros
import Derived.Test.YtnkihggdohigiaaWFoot
import Derived.Test.YtnkihggdohigiaaWKept
import Derived.Test.YtnkihggdohigiaaWShare
import Derived.Test.YtnkihggdohigiaaWN
import Derived.Test.YtnkihggdohigiaaWFootNe
import Derived.Test.YtnkihggdohigiaaWAt
import Derived.Test.YtnkihggdohigiaaWEqStruct
import Derived.Test.YtnkihggdohigiaaWRepsOne
import Derived.Test.YtnkihggdohigiaaWInv
import Derived.Test.YtnkihggdohigiaaWInvWords
import Derived.Test.YtnkihggdohigiaaWGuard
import Derived.Test.YtnkihggdohigiaaWNEv
import Derived.Test.YtnkihggdohigiaaWMore
namespace Go.Proofs.Ytnkihggdohigiaa.P
open Go.RowKit Go.Proofs.YtnkihggdohigiaaW.PrintWords Go.Proofs.YtnkihggdohigiaaW.PrintLast Go.Proofs.YtnkihggdohigiaaW.PrintMore
attribute [local go_sem] max2_int min2_int max_two min_two max_three min_three max_four min_four   -- for this text's walks alone
set_option linter.unusedVariables false
set_option linter.unusedSimpArgs false



def errW : Option Int → Value
  | none => .nilIface
  | some c => .iface 0 (.int .i64 c)
theorem errW_none : errW none = .nilIface := rfl
theorem errW_some (c : Int) : errW (some c) = .iface 0 (.int .i64 c) := rfl

theorem x22 (x : Nat) (W : World) : (callFunc 22 #[.float .f64 x]).run Try.prog W = .ok (.value (.int .u64 (x : Int))) W := by
  rw [run_callFunc_extern (e := Extern.MathFloatBits.float64bits) Try.func22 (by kernel_rfl) (by kernel_rfl) (by kernel_rfl) (by rfl)]
  rfl
theorem info3 : (Try.prog.info? 3).map (fun i => (i.zero, i.size, i.bytes)) = some (some (.int .i64 0), 1, 8) := by kernel_rfl
theorem info4 : (Try.prog.info? 4).map (fun i => (i.zero, i.size, i.bytes)) = some (some (.bool false), 1, 1) := by kernel_rfl
theorem info26 : (Try.prog.info? 26).map (fun i => (i.zero, i.size, i.bytes)) = some (some (.agg #[(.float .f64 0), (.float .f64 0), (.float .f64 0)]), 3, 24) := by kernel_rfl
-- the values' own types
/-! #### struct type 26 -/
structure S26 where
  f0 : Nat
  f1 : Nat
  f2 : Nat
def z26 : S26 := ⟨(0 : Nat), (0 : Nat), (0 : Nat)⟩
def k26 : Kd S26 := Kd.iso (Kd.pair Kd.f64 (Kd.pair Kd.f64 Kd.f64)) (fun x : S26 => (x.f0, x.f1, x.f2))
theorem k26_open {w : World} {x : S26} {cs : List Value} (h : k26.K w x cs) : cs = [.float .f64 x.f0, .float .f64 x.f1, .float .f64 x.f2] := by
  obtain ⟨_, _, rfl, rfl, ⟨_, _, rfl, rfl, rfl⟩⟩ := h
  exact rfl
theorem k26_openM {w : World} {base : Nat} {ok : Nat → Prop} {x : S26} {cs : List Value} (h : k26.M w base ok x cs) : cs = [.float .f64 x.f0, .float .f64 x.f1, .float .f64 x.f2] := by
  obtain ⟨_, _, rfl, rfl, ⟨_, _, rfl, rfl, rfl⟩⟩ := h
  exact rfl
theorem k26_mk (w : World) (x : S26)  : k26.K w x [.float .f64 x.f0, .float .f64 x.f1, .float .f64 x.f2] := ⟨[.float .f64 x.f0], [.float .f64 x.f1, .float .f64 x.f2], rfl, rfl, ⟨[.float .f64 x.f1], [.float .f64 x.f2], rfl, rfl, rfl⟩⟩
theorem k26_mkM (w : World) (base : Nat) (ok : Nat → Prop) (x : S26)  : k26.M w base ok x [.float .f64 x.f0, .float .f64 x.f1, .float .f64 x.f2] := ⟨[.float .f64 x.f0], [.float .f64 x.f1, .float .f64 x.f2], rfl, rfl, ⟨[.float .f64 x.f1], [.float .f64 x.f2], rfl, rfl, rfl⟩⟩
def rd_T26 (xs : List S26) (i : Int) : S26 := xs.getD i.toNat z26
theorem at_T26 {w : World} {A : Option Addr} {n : Nat} {xs : List S26} (h : Kd.C k26 w A n xs) (i : Int) (h0 : 0 ≤ i) (h1 : i < n) : ∃ ad , A = some ad ∧ w.cell? (ad.add (i.toNat * 3)) = some (.float .f64 (rd_T26 xs i).f0) ∧ w.cell? ⟨(ad.add (i.toNat * 3)).block, (ad.add (i.toNat * 3)).off + 1, none⟩ = some (.float .f64 (rd_T26 xs i).f1) ∧ w.cell? ⟨(ad.add (i.toNat * 3)).block, (ad.add (i.toNat * 3)).off + 2, none⟩ = some (.float .f64 (rd_T26 xs i).f2) := by
  obtain ⟨ad, c, e, _, hK, hc0⟩ := Kd.C_get h z26 i h0 h1
  have hc : ∀ j u, c[j]? = some u → w.cell? (ad.add (i.toNat * 3 + j)) = some u := hc0
  obtain rfl := k26_open hK
  exact ⟨ad, e, hc 0 _ rfl, by rw [← add_field _ _ 1 (by omega)]; exact hc 1 _ rfl, by rw [← add_field _ _ 2 (by omega)]; exact hc 2 _ rfl⟩

end Go.Proofs.Ytnkihggdohigiaa.P
