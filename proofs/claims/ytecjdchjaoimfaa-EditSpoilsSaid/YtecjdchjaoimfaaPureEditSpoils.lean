/- The law EditSpoils over plain functions: an edit with one thing in it that its kind does not have is none. -/
import Derived.Test.YtecjdchjaoimfaaEx10
import Derived.Test.YtecjdchjaoimfaaPx21
namespace Go.Proofs.Ytecjdchjaoimfaa.Pure
open Go.RowKit Go.Proofs.Ytecjdchjaoimfaa.P Go.Proofs.Ytecjdchjaoimfaa.Sp Go.Proofs.YtecjdchjaoimfaaW.PrintWords Go.Proofs.YtecjdchjaoimfaaW.PrintLast Go.Proofs.YtecjdchjaoimfaaW.PrintMore

theorem spoils_j0 (x k : Int) (p t : ByteArray) (c q n : Int) (l : List Int) (h : RightP k p t c q n l) (K : Nat) (hK : 2 ≤ K) : tabulariumlaw10_EditSpoils.j0 K x true k p t c q n l = some true := by
  obtain ⟨K, rfl⟩ : ∃ m, K = m + 1 := ⟨K - 1, by omega⟩
  have hl := h.len
  have hr := lm_range k
  rw [tabulariumlaw10_EditSpoils.j0]
  split
  · rw [if_pos rfl, right_at, Option.bind_some, not_right (fun h => by have := h.kind; omega)]; rfl
  split
  · rw [if_pos rfl, right_at, Option.bind_some, not_right (fun h => by have := h.cl; omega)]; rfl
  split
  · rw [if_pos (by simp; omega), Option.bind_some, if_pos (by simp; omega), if_pos rfl, right_at, Option.bind_some, not_right (fun h => by have := h.all (-1) (by simp); omega)]; rfl
  split
  · rw [if_pos rfl, right_at, Option.bind_some, not_right (fun h => by have := h.call; omega)]; rfl
  · rw [if_pos rfl, right_at, Option.bind_some, not_right (fun h => by have := h.n; omega)]; rfl

theorem EditSpoils : tabulariumlaw10_EditSpoils.Pure := by
  intro k p t c q n l x _ _ _ _ _ _ _ _ _ _
  refine ⟨60, ?_⟩
  unfold tabulariumlaw10_EditSpoils.f
  rw [at_rounds tabulariumlaw10_examples.mono (show 40 ≤ 60 by omega) examples_at, right_at]
  simp only [Option.bind_some]
  by_cases e : rightB k p t c q n l = true
  · rw [if_pos e]
    have h := (right_iff ..).1 e
    split
    · exact spoils_j0 _ _ _ _ _ _ _ _ h 60 (by omega)
    · exact spoils_j0 _ _ _ _ _ _ _ _ h 60 (by omega)
  · rw [if_neg e, wire_enc_at _ _ _ _ _ _ _ 60 (by omega), Option.bind_some]
    unfold encW
    rw [if_neg e]
    rfl

end Go.Proofs.Ytecjdchjaoimfaa.Pure
