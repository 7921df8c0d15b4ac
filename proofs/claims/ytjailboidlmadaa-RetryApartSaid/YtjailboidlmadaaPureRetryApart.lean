/- The law RetryApart over plain functions: each call's edit is written (there are 2 x 10 of them, and the chapter's two examples): told by running the plain function. -/
import Derived.Test.YtjailboidlmadaaRtR
namespace Go.Proofs.Ytjailboidlmadaa.Pure
open Go.RowKit Go.Proofs.YtjailboidlmadaaW.PrintWords Go.Proofs.YtjailboidlmadaaW.PrintLast Go.Proofs.YtjailboidlmadaaW.PrintMore Go.Proofs.Ytjailboidlmadaa.P
set_option linter.unusedVariables false

/-- was it written? -/
def okE (r : Option (ByteArray × Int)) : Bool := match r with | some (_, e) => e == 0 | none => false
theorem okE_at {r : Option (ByteArray × Int)} (h : okE r = true) : ∃ b, r = some (b, 0) := by
  cases r with
  | none => cases h
  | some p =>
    obtain ⟨b, e⟩ := p
    have : e = 0 := by simpa [okE] using h
    exact ⟨b, by rw [this]⟩
def bytesE (r : Option (ByteArray × Int)) : List UInt8 := match r with | some (b, _) => b.toList | none => []
theorem all_apart : ((List.range 2).all fun c => (List.range 10).all fun i => okE (edit_Encode.f 40 1 ⟨#[47, 120]⟩ ⟨#[]⟩ (c : Int) (i : Int) 0 [])) = true := by kernel_rfl
theorem ex_pure : ∃ k bA bB, edit_Encode.f k 1 ⟨#[47, 97]⟩ ⟨#[]⟩ 1 7 0 [] = some (bA, 0) ∧ edit_Encode.f k 1 ⟨#[47, 98]⟩ ⟨#[]⟩ 1 7 0 [] = some (bB, 0) ∧ bB.toList ≠ bA.toList := by
  obtain ⟨bA, hA⟩ := okE_at (show okE (edit_Encode.f 40 1 ⟨#[47, 97]⟩ ⟨#[]⟩ 1 7 0 []) = true by kernel_rfl)
  obtain ⟨bB, hB⟩ := okE_at (show okE (edit_Encode.f 40 1 ⟨#[47, 98]⟩ ⟨#[]⟩ 1 7 0 []) = true by kernel_rfl)
  have h : (bytesE (edit_Encode.f 40 1 ⟨#[47, 98]⟩ ⟨#[]⟩ 1 7 0 []) == bytesE (edit_Encode.f 40 1 ⟨#[47, 97]⟩ ⟨#[]⟩ 1 7 0 [])) = false := by kernel_rfl
  rw [hA, hB] at h
  exact ⟨40, bA, bB, hA, hB, by simpa [bytesE] using h⟩
theorem apart_pure : apart_Pure := by
  refine ⟨ex_pure, ?_⟩
  have h : ∀ (c i : Nat), ∃ b, c < 2 → i < 10 → edit_Encode.f 40 1 ⟨#[47, 120]⟩ ⟨#[]⟩ (c : Int) (i : Int) 0 [] = some (b, 0) := by
    intro c i
    by_cases hc : c < 2 ∧ i < 10
    · obtain ⟨b, hb⟩ := okE_at (List.all_eq_true.1 (List.all_eq_true.1 all_apart c (List.mem_range.2 hc.1)) i (List.mem_range.2 hc.2))
      exact ⟨b, fun _ _ => hb⟩
    · exact ⟨⟨#[]⟩, fun h1 h2 => absurd ⟨h1, h2⟩ hc⟩
  exact ⟨fun c i => Classical.choose (h c i), fun c i h1 h2 => Classical.choose_spec (h c i) h1 h2⟩
theorem RetryApart : tabulariumlaw13_RetryApart.Pure := apart_pure
end Go.Proofs.Ytjailboidlmadaa.Pure
