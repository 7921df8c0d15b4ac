/- The law RetryNewest over plain functions: each call's edit is written (there are 4 x 61 of them, and the chapter's two examples): told by running the plain function. -/
import Derived.Test.YtjailboidlmadaaRtP

namespace Go.Proofs.Ytjailboidlmadaa.Pure
open Go.RowKit Go.Proofs.YtjailboidlmadaaW.PrintWords Go.Proofs.YtjailboidlmadaaW.PrintLast Go.Proofs.YtjailboidlmadaaW.PrintMore Go.Proofs.Ytjailboidlmadaa.P
set_option linter.unusedVariables false

/-- was it written? -/
def okE (r : Option (ByteArray × Int)) : Bool := match r with | some (_, e) => e == 0 | none => false
theorem okE_at {r : Option (ByteArray × Int)} (h : okE r = true) : ∃ b, r = some (b, 0) := by
  cases r with
  | none => cases h
  | some p =>
    obtain ⟨b, e⟩ := p
    have : e = 0 := by simpa [okE] using h
    exact ⟨b, by rw [this]⟩
def bytesE (r : Option (ByteArray × Int)) : List UInt8 := match r with | some (b, _) => b.toList | none => []
theorem all_newest : ((List.range 4).all fun c => (List.range 61).all fun i => okE (edit_Encode.f 40 3 ⟨#[47, 120]⟩ ⟨#[]⟩ (c : Int) (i : Int) 0 [])) = true := by kernel_rfl
theorem ex_pure : ∃ k bA bB, edit_Encode.f k 1 ⟨#[47, 97]⟩ ⟨#[]⟩ 1 7 0 [] = some (bA, 0) ∧ edit_Encode.f k 1 ⟨#[47, 98]⟩ ⟨#[]⟩ 1 7 0 [] = some (bB, 0) ∧ bB.toList ≠ bA.toList := by
  obtain ⟨bA, hA⟩ := okE_at (show okE (edit_Encode.f 40 1 ⟨#[47, 97]⟩ ⟨#[]⟩ 1 7 0 []) = true by kernel_rfl)
  obtain ⟨bB, hB⟩ := okE_at (show okE (edit_Encode.f 40 1 ⟨#[47, 98]⟩ ⟨#[]⟩ 1 7 0 []) = true by kernel_rfl)
  have h : (bytesE (edit_Encode.f 40 1 ⟨#[47, 98]⟩ ⟨#[]⟩ 1 7 0 []) == bytesE (edit_Encode.f 40 1 ⟨#[47, 97]⟩ ⟨#[]⟩ 1 7 0 [])) = false := by kernel_rfl
  rw [hA, hB] at h
  exact ⟨40, bA, bB, hA, hB, by simpa [bytesE] using h⟩
theorem newest_pure : newest_Pure := by
  refine ⟨ex_pure, fun c i hc hi => ?_⟩
  have h := List.all_eq_true.1 (List.all_eq_true.1 all_newest c (List.mem_range.2 hc)) i (List.mem_range.2 hi)
  exact ⟨40, okE_at h⟩
theorem RetryNewest : tabulariumlaw13_RetryNewest.Pure := newest_pure
end Go.Proofs.Ytjailboidlmadaa.Pure
