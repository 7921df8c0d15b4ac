/- Words for walks: a difference that is not valid gives some bits that are no number, drawn from the tape. -/
import Derived.Test.YtjailboidlmadaaFlt
import Derived.Test.YtjailboidlmadaaFl
import Derived.Laws.NewFold
namespace Go.Proofs.YtjailboidlmadaaW.PrintWords
open Go.RowKit

/-- what is drawn -/
def nanv (W : World) (x y : Nat) : Nat := (Question.nanBits .f64 x y).cut (W.tape W.drawn (Question.nanBits .f64 x y))

theorem nanv_nan (W : World) (x y : Nat) : Go.Proofs.Ytjailboidlmadaa.Fl.nan (nanv W x y) := by
  unfold nanv Question.cut
  simp only
  generalize W.tape W.drawn (Question.nanBits .f64 x y) = t
  unfold Go.Proofs.Ytjailboidlmadaa.Fl.nan Go.Proofs.Ytjailboidlmadaa.Fl.rung Go.Proofs.Ytjailboidlmadaa.Fl.sw Go.Proofs.Ytjailboidlmadaa.Fl.inf
  have h1 : t % 2 = 0 ∨ t % 2 = 1 := by omega
  have h2 : (t / 2) % (2 ^ 52 - 1) < 2 ^ 52 - 1 := Nat.mod_lt _ (by decide)
  rcases h1 with h | h <;> rw [h] <;> omega

theorem flt_sub_nan {P : Program} {x y : Nat} (h : ¬ (FloatKind.f64.format.sub x y).isSome = true) (t : TypeId) (W : World) : (binOp .sub t (.float .f64 x) (.float .f64 y)).run P W = .ok (.float .f64 (nanv W x y)) W.drew := by
  have he : FloatKind.f64.format.sub x y = none := by
    cases e : FloatKind.f64.format.sub x y with
    | none => rfl
    | some r => rw [e] at h; exact absurd rfl h
  simp [binOp, Op.floatArith, he, nanv, Question.forced]

theorem nanv_ne (W : World) (x y z : Nat) : (FloatKind.f64.format.order (nanv W x y) z != some .eq) = true := by
  rw [Go.Proofs.Ytjailboidlmadaa.Fl.order_nan (.inl (nanv_nan W x y))]; rfl
theorem nanv_eq (W : World) (x y z : Nat) : (FloatKind.f64.format.order (nanv W x y) z == some .eq) = false := by
  rw [Go.Proofs.Ytjailboidlmadaa.Fl.order_nan (.inl (nanv_nan W x y))]; rfl
end Go.Proofs.YtjailboidlmadaaW.PrintWords
