/- The plain facts of the law RetryPlays: an answer is the same as itself; the chapter's two examples. -/
import Derived.Test.YtjailboidlmadaaRI
import Derived.Test.YtjailboidlmadaaRH
namespace Go.Proofs.Ytjailboidlmadaa.Pure
open Go.RowKit Go.Proofs.YtjailboidlmadaaW.PrintWords Go.Proofs.YtjailboidlmadaaW.PrintLast Go.Proofs.YtjailboidlmadaaW.PrintMore Go.Proofs.Ytjailboidlmadaa.P
set_option linter.unusedVariables false

/-- was it written? -/
def okE (r : Option (ByteArray × Int)) : Bool := match r with | some (_, e) => e == 0 | none => false
theorem okE_at {r : Option (ByteArray × Int)} (h : okE r = true) : ∃ b, r = some (b, 0) := by
  cases r with
  | none => cases h
  | some p =>
    obtain ⟨b, e⟩ := p
    have : e = 0 := by simpa [okE] using h
    exact ⟨b, by rw [this]⟩
def bytesE (r : Option (ByteArray × Int)) : List UInt8 := match r with | some (b, _) => b.toList | none => []
theorem ex_pure : ∃ k bA bB, edit_Encode.f k 1 ⟨#[47, 97]⟩ ⟨#[]⟩ 1 7 0 [] = some (bA, 0) ∧ edit_Encode.f k 1 ⟨#[47, 98]⟩ ⟨#[]⟩ 1 7 0 [] = some (bB, 0) ∧ bB.toList ≠ bA.toList := by
  obtain ⟨bA, hA⟩ := okE_at (show okE (edit_Encode.f 40 1 ⟨#[47, 97]⟩ ⟨#[]⟩ 1 7 0 []) = true by kernel_rfl)
  obtain ⟨bB, hB⟩ := okE_at (show okE (edit_Encode.f 40 1 ⟨#[47, 98]⟩ ⟨#[]⟩ 1 7 0 []) = true by kernel_rfl)
  have h : (bytesE (edit_Encode.f 40 1 ⟨#[47, 98]⟩ ⟨#[]⟩ 1 7 0 []) == bytesE (edit_Encode.f 40 1 ⟨#[47, 97]⟩ ⟨#[]⟩ 1 7 0 [])) = false := by kernel_rfl
  rw [hA, hB] at h
  exact ⟨40, bA, bB, hA, hB, by simpa [bytesE] using h⟩
theorem next_at {i n : Nat} (h : i < n) (hn : n ≤ maxLen) : wrap64 ((i : Int) + 1) = ((i + 1 : Nat) : Int) := by unfold maxLen at hn; unfold wrap64; omega
theorem texts_loop (l : List ByteArray) (hl : l.length ≤ maxLen) : ∀ (d i k : Nat), l.length - i = d → i ≤ l.length → d + 1 ≤ k → tabulariumlaw13_texts.l0 k l l (i : Int) = some true := by
  intro d
  induction d with
  | zero =>
    intro i k hd hi hk
    obtain ⟨k, rfl⟩ : ∃ m, k = m + 1 := ⟨k - 1, by omega⟩
    rw [tabulariumlaw13_texts.l0, if_neg (by omega)]
  | succ d ih =>
    intro i k hd hi hk
    obtain ⟨k, rfl⟩ : ∃ m, k = m + 1 := ⟨k - 1, by omega⟩
    rw [tabulariumlaw13_texts.l0, if_pos (by omega), if_pos (by omega), if_pos (by omega), if_pos rfl, next_at (n := l.length) (by omega) hl]
    exact ih (i + 1) k (by omega) (by omega) (by omega)
theorem blocks_loop (l : List S32) (hl : l.length ≤ maxLen) : ∀ (d i k : Nat), l.length - i = d → i ≤ l.length → d + 1 ≤ k → tabulariumlaw13_blocks.l0 k l l (i : Int) = some true := by
  intro d
  induction d with
  | zero =>
    intro i k hd hi hk
    obtain ⟨k, rfl⟩ : ∃ m, k = m + 1 := ⟨k - 1, by omega⟩
    rw [tabulariumlaw13_blocks.l0, if_neg (by omega)]
  | succ d ih =>
    intro i k hd hi hk
    obtain ⟨k, rfl⟩ : ∃ m, k = m + 1 := ⟨k - 1, by omega⟩
    rw [tabulariumlaw13_blocks.l0, if_pos (by omega), if_pos (by omega), if_pos (by omega), if_neg (by simp), next_at (n := l.length) (by omega) hl]
    exact ih (i + 1) k (by omega) (by omega) (by omega)
theorem answers_self (err b0 b1 b2 : Int) (names : List ByteArray) (path : ByteArray) (dir : Bool) (quota : Int) (blocks : List S32) (writer n : Int) (h1 : names.length ≤ maxLen) (h2 : blocks.length ≤ maxLen) :
    ∃ K, tabulariumlaw13_answers.f K err b0 b1 b2 names path dir quota blocks writer n err b0 b1 b2 names path dir quota blocks writer n = some true := by
  refine ⟨names.length + blocks.length + 1, ?_⟩
  have e1 : tabulariumlaw13_texts.f (names.length + blocks.length + 1) names names = some true := by
    unfold tabulariumlaw13_texts.f
    rw [if_pos rfl]
    exact texts_loop names h1 names.length 0 _ (by omega) (by omega) (by omega)
  have e2 : tabulariumlaw13_blocks.f (names.length + blocks.length + 1) blocks blocks = some true := by
    unfold tabulariumlaw13_blocks.f
    rw [if_pos rfl]
    exact blocks_loop blocks h2 blocks.length 0 _ (by omega) (by omega) (by omega)
  have e3 : tabulariumlaw13_node.f (names.length + blocks.length + 1) path dir quota blocks writer path dir quota blocks writer = some true := by
    unfold tabulariumlaw13_node.f
    rw [e2]
    simp
  unfold tabulariumlaw13_answers.f
  rw [e1, e3]
  simp
theorem RetryPlays : plays_Pure :=
  ⟨ex_pure, fun err b0 b1 b2 names path dir quota blocks writer n h1 h2 => answers_self err b0 b1 b2 names path dir quota blocks writer n h1 h2⟩
end Go.Proofs.Ytjailboidlmadaa.Pure
