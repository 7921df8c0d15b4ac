/- The law EditBack over plain functions: an edit that is written is read as it was; what was read is right, and written as it stood; what is cut off is none. -/
import Derived.Test.YtecjdchjaoimfaaEx10
import Derived.Test.YtecjdchjaoimfaaPx19
namespace Go.Proofs.Ytecjdchjaoimfaa.Pure
open Go.RowKit Go.Proofs.Ytecjdchjaoimfaa.P Go.Proofs.Ytecjdchjaoimfaa.Sp Go.Proofs.YtecjdchjaoimfaaW.PrintWords Go.Proofs.YtecjdchjaoimfaaW.PrintLast Go.Proofs.YtecjdchjaoimfaaW.PrintMore

theorem back_j2 (b : ByteArray) (K : Nat) (hK : 50 ≤ K) : tabulariumlaw10_EditBack.j2 K b true = some true := by
  obtain ⟨K, rfl⟩ : ∃ m, K = m + 1 := ⟨K - 1, by omega⟩
  rw [tabulariumlaw10_EditBack.j2, wire_dec_at b K (by omega), Option.bind_some]
  cases e : dec b with
  | none =>
    simp only [decW]
    rw [if_neg (by decide)]
  | some x =>
    obtain ⟨h, hb⟩ := dec_back e
    have hr := (right_iff ..).2 h
    simp only [decW]
    rw [if_pos trivial, wire_enc_at _ _ _ _ _ _ _ K (by omega), Option.bind_some]
    unfold encW
    rw [if_pos hr]
    simp only
    rw [if_pos trivial, if_pos (by rw [← hb]), if_pos trivial, right_at, Option.bind_some, hr]

theorem back_j1 (b : ByteArray) (cut k : Int) (p t : ByteArray) (c q n : Int) (l : List Int) (h : RightP k p t c q n l) (h0 : 0 ≤ cut) (K : Nat) (hK : 60 ≤ K) :
    tabulariumlaw10_EditBack.j1 K b cut true (encB k p t c q n l) 0 true k p t c q n l = some true := by
  obtain ⟨K, rfl⟩ : ∃ m, K = m + 1 := ⟨K - 1, by omega⟩
  have hp := encB_pos k p t c q n l
  have m1 := Int.tmod_nonneg ((encB k p t c q n l).size : Int) h0
  have m2 := Int.tmod_lt_of_pos cut (show (0 : Int) < ((encB k p t c q n l).size : Int) by omega)
  obtain ⟨m, hm⟩ : ∃ m, m = Int.tmod cut ((encB k p t c q n l).size : Int) := ⟨_, rfl⟩
  rw [← hm] at m1 m2
  rw [tabulariumlaw10_EditBack.j1, ← hm, if_neg (by omega), if_pos m1, if_pos (by omega), wire_dec_at _ K (by omega), dec_cut h (by omega), Option.bind_some]
  simp only [decW]
  rw [if_pos trivial, if_pos trivial, if_pos trivial, right_at, Option.bind_some, if_pos ((right_iff ..).2 h)]
  exact back_j2 b K (by omega)

theorem EditBack : tabulariumlaw10_EditBack.Pure := by
  intro k p t c q n l b cut _ _ _ _ _ _ _ _ _ _ hc
  refine ⟨100, ?_⟩
  unfold tabulariumlaw10_EditBack.f
  rw [at_rounds tabulariumlaw10_examples.mono (show 40 ≤ 100 by omega) examples_at, wire_enc_at _ _ _ _ _ _ _ 100 (by omega)]
  simp only [Option.bind_some]
  unfold encW
  by_cases e : rightB k p t c q n l = true
  · rw [if_pos e]
    have h := (right_iff ..).1 e
    have hl := h.len
    have hp := encB_pos k p t c q n l
    simp only
    rw [if_pos trivial, show (100 : Nat) = 99 + 1 from rfl, tabulariumlaw10_EditBack.j0]
    rw [if_neg (by rw [beq_iff_eq, empty_iff]; omega), if_pos rfl, wire_dec_at _ 99 (by omega), dec_enc h, Option.bind_some]
    simp only [decW]
    rw [same_at _ _ _ _ _ _ _ _ _ _ _ _ _ _ (by unfold maxLen; omega) 99 (by omega), Option.bind_some, decide_eq_true rfl]
    split
    · exact back_j1 b _ k p t c q n l h (turned hc (by assumption)).1 99 (by omega)
    · exact back_j1 b _ k p t c q n l h (by omega) 99 (by omega)
  · rw [if_neg e]
    simp only
    rw [if_neg (by decide), show (100 : Nat) = 99 + 1 from rfl, tabulariumlaw10_EditBack.j0, if_neg (by decide), if_neg (by decide)]
    exact back_j2 b 99 (by omega)

end Go.Proofs.Ytecjdchjaoimfaa.Pure
