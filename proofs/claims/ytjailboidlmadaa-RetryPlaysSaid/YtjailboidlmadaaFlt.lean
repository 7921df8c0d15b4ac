/- Words for walks over float64: a value is its bits; arithmetic where it is valid, the lesser and the greater of two, elements of slices. -/
import Derived.Test.YtjailboidlmadaaWMore
import Derived.Test.YtjailboidlmadaaWFoot
import Derived.WalkLawsBesides
import Derived.Laws.FloatArith
import Derived.Laws.Externs
namespace Go.Proofs.YtjailboidlmadaaW.PrintWords
open Go.RowKit

theorem flt_of {op : BinOp} {P : Program} {x y : Nat} {o : Option Nat} (he : floatBits op .f64 x y = o) (h : o.isSome = true) (t : TypeId) (W : World) :
    (binOp op t (.float .f64 x) (.float .f64 y)).run P W = .ok (.float .f64 (o.getD 0)) W := by
  cases o with
  | none => cases h
  | some r => exact run_float_arith W op t .f64 x y r he

theorem flt_add {P : Program} {x y : Nat} (h : (FloatKind.f64.format.add x y).isSome = true) (t : TypeId) (W : World) : (binOp .add t (.float .f64 x) (.float .f64 y)).run P W = .ok (.float .f64 ((FloatKind.f64.format.add x y).getD 0)) W := flt_of (op := .add) (x := x) (y := y) (o := FloatKind.f64.format.add x y) rfl h t W
theorem flt_sub {P : Program} {x y : Nat} (h : (FloatKind.f64.format.sub x y).isSome = true) (t : TypeId) (W : World) : (binOp .sub t (.float .f64 x) (.float .f64 y)).run P W = .ok (.float .f64 ((FloatKind.f64.format.sub x y).getD 0)) W := flt_of (op := .sub) (x := x) (y := y) (o := FloatKind.f64.format.sub x y) rfl h t W
theorem flt_mul {P : Program} {x y : Nat} (h : (FloatKind.f64.format.mul x y).isSome = true) (t : TypeId) (W : World) : (binOp .mul t (.float .f64 x) (.float .f64 y)).run P W = .ok (.float .f64 ((FloatKind.f64.format.mul x y).getD 0)) W := flt_of (op := .mul) (x := x) (y := y) (o := FloatKind.f64.format.mul x y) rfl h t W
theorem flt_div {P : Program} {x y : Nat} (h : (FloatKind.f64.format.div x y).isSome = true) (t : TypeId) (W : World) : (binOp .quo t (.float .f64 x) (.float .f64 y)).run P W = .ok (.float .f64 ((FloatKind.f64.format.div x y).getD 0)) W := flt_of (op := .quo) (x := x) (y := y) (o := FloatKind.f64.format.div x y) rfl h t W

theorem unary_neg_f64 (x : Nat) : Op.unary .neg (.float .f64 x) = pure (.float .f64 (Op.negFloat .f64 x)) := rfl

/-- the lesser, the greater of two numbers, as Go has them -/
def fmn (x y : Nat) : Nat := match FloatKind.f64.format.order x y with
  | some .lt => x
  | some .gt => y
  | _ => if (FloatKind.f64.decode x).neg then x else y
def fmx (x y : Nat) : Nat := match FloatKind.f64.format.order x y with
  | some .lt => y
  | some .gt => x
  | _ => if (FloatKind.f64.decode x).neg then y else x
theorem flt_min2 {x y : Nat} (h : (FloatKind.f64.format.order x y).isSome = true) : Builtin.min2 (.float .f64 x) (.float .f64 y) = pure (.float .f64 (fmn x y)) := by
  unfold Builtin.min2 fmn
  simp only
  cases e : FloatKind.f64.format.order x y with
  | none => rw [e] at h; cases h
  | some c => cases c <;> rfl
theorem flt_max2 {x y : Nat} (h : (FloatKind.f64.format.order x y).isSome = true) : Builtin.max2 (.float .f64 x) (.float .f64 y) = pure (.float .f64 (fmx x y)) := by
  unfold Builtin.max2 fmx
  simp only
  cases e : FloatKind.f64.format.order x y with
  | none => rw [e] at h; cases h
  | some c => cases c <;> rfl

namespace Kd
def f64 : Kd Nat := scalar (Value.float .f64) (fun _ => rfl)
theorem heap_f64 : Heap Kd.f64 := ⟨fun _ h => h⟩
theorem at_f64 {w : World} {A : Option Addr} {n : Nat} {xs : List Nat} (h : Kd.f64.C w A n xs) (i : Int) (h0 : 0 ≤ i) (h1 : i < n) : ∃ ad, A = some ad ∧ w.cell? (ad.add i.toNat) = some (.float .f64 (rdOf (0 : Nat) xs i)) :=
  ReadsOf.at_ (reads_of_C (enc := Value.float .f64) (d := (0 : Nat)) (h1 := fun _ => rfl) h) i h0 h1
end Kd
@[go_sem] theorem run_store_f64 {P : Program} {w : World} (a : Addr) (m : Mode) (x : Nat) : (store a (.float .f64 x) m).run P w = stored P w a (.float .f64 x) m := run_store P w a _ m rfl
end Go.Proofs.YtjailboidlmadaaW.PrintWords
