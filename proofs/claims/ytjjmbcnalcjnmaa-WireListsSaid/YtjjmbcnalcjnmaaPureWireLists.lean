/- The law WireLists over plain functions: a list is written as the reference writes it, and any bytes are read as the reference reads them, again and again. For every list of texts and every text. -/
import Derived.Test.YtjjmbcnalcjnmaaEx01
import Derived.Test.YtjjmbcnalcjnmaaRefLists
import Derived.Test.YtjjmbcnalcjnmaaPx22
namespace Go.Proofs.Ytjjmbcnalcjnmaa.Pure
open Go.RowKit Go.Proofs.Ytjjmbcnalcjnmaa.P Go.Proofs.Ytjjmbcnalcjnmaa.Sp Go.Proofs.YtjjmbcnalcjnmaaW.PrintWords Go.Proofs.YtjjmbcnalcjnmaaW.PrintLast Go.Proofs.YtjjmbcnalcjnmaaW.PrintMore
set_option linter.unusedVariables false

theorem lists_l1 (x1 : ByteArray) (x6 : ByteArray) (x7 : Int) (x8 : ByteArray) (x9 : Bool) (x10 : List ByteArray) (x11 : Bool) (x12 : Int) (F : Nat)
    (h : ∀ k, F ≤ k → tabulariumlaw01_WireLists.l0 k x1 true x6 x7 x8 x9 x10 x11 (wrap64 (x12 + 1)) = some true) :
    ∀ (d i k : Nat) (m : List ByteArray), m.length ≤ 1000 → m.length - i = d → i ≤ m.length → F + d + 1 ≤ k → tabulariumlaw01_WireLists.l1 k x1 true x6 x7 x8 x9 x10 x11 x12 m (i : Int) = some true := by
  intro d
  induction d with
  | zero =>
    intro i k m hm hd hi hk
    obtain ⟨k, rfl⟩ : ∃ j, k = j + 1 := ⟨k - 1, by omega⟩
    rw [tabulariumlaw01_WireLists.l1, if_neg (by omega)]
    exact h k (by omega)
  | succ d ih =>
    intro i k m hm hd hi hk
    obtain ⟨k, rfl⟩ : ∃ j, k = j + 1 := ⟨k - 1, by omega⟩
    rw [tabulariumlaw01_WireLists.l1, if_pos (by omega), if_pos (by omega), wrap64_of (by omega) (by omega), show ((i : Int) + 1) = ((i + 1 : Nat) : Int) by omega]
    exact ih (i + 1) k _ (by rw [List.length_set]; exact hm) (by rw [List.length_set]; omega) (by rw [List.length_set]; omega) (by omega)

theorem WireLists : tabulariumlaw01_WireLists.Pure := by
  intro l b h0 h1 h2 h3
  refine ⟨6000, ?_⟩
  unfold tabulariumlaw01_WireLists.f
  rw [at_rounds tabulariumlaw01_examples.mono (show 30 ≤ 6000 by omega) examples_at, wire_join_at l h2 6000 (by omega), ref_join_at l h2 6000 (by omega), ref_split_at b h3 6000 (by omega)]
  simp only [Option.bind_some]
  have last : ∀ k, 1 ≤ k → tabulariumlaw01_WireLists.l0 k b true (joinW l).1 (joinW l).2 (joinR l).1 (joinR l).2 (splitR b).1 (splitR b).2 2 = some true := fun k hk => by
    obtain ⟨k, rfl⟩ : ∃ j, k = j + 1 := ⟨k - 1, by omega⟩
    rw [tabulariumlaw01_WireLists.l0, if_neg (by decide), if_pos rfl]
    unfold joinW joinR
    cases join l with
    | none => simp
    | some t => simp
  have hlen : (splitW b).1.length ≤ 1000 := by
    unfold splitW
    cases e : split b with
    | none => exact Nat.zero_le _
    | some m => exact split_length e
  have step : ∀ (x12 : Int) (F k : Nat), x12 < 2 → (∀ k, F ≤ k → tabulariumlaw01_WireLists.l0 k b true (joinW l).1 (joinW l).2 (joinR l).1 (joinR l).2 (splitR b).1 (splitR b).2 (wrap64 (x12 + 1)) = some true) → F + 1200 ≤ k →
      tabulariumlaw01_WireLists.l0 k b true (joinW l).1 (joinW l).2 (joinR l).1 (joinR l).2 (splitR b).1 (splitR b).2 x12 = some true := fun x12 F k h12 hF hk => by
    obtain ⟨k, rfl⟩ : ∃ j, k = j + 2 := ⟨k - 2, by omega⟩
    rw [show k + 2 = k + 1 + 1 from rfl, tabulariumlaw01_WireLists.l0, if_pos h12, wire_split_at b (k + 1) (by omega), Option.bind_some, texts_at _ _ (by unfold maxLen; omega) (k + 1) (by omega), Option.bind_some]
    have e1 : (splitW b).1 = (splitR b).1 := by unfold splitW splitR; cases split b <;> rfl
    have e2 : ((splitR b).2 != ((splitW b).2 == 0)) = false := by unfold splitW splitR; cases split b <;> rfl
    have e3 : (splitR b).2 = false → ((splitW b).2 != 2) = false := by unfold splitW splitR; cases split b <;> simp
    rw [decide_eq_true e1, if_pos rfl, e2, if_neg (by decide)]
    have l1 := lists_l1 b (joinW l).1 (joinW l).2 (joinR l).1 (joinR l).2 (splitR b).1 (splitR b).2 x12 F hF (splitW b).1.length 0 k (splitW b).1 hlen (by omega) (by omega) (by omega)
    cases c : (splitR b).2 with
    | true =>
      rw [c] at l1
      rw [if_pos rfl, tabulariumlaw01_WireLists.j1, if_neg (by decide)]
      exact l1
    | false =>
      rw [c] at l1
      rw [if_neg (by decide), e3 c, tabulariumlaw01_WireLists.j1, if_neg (by decide)]
      exact l1
  refine step 0 2000 6000 (by decide) (fun k hk => ?_) (by omega)
  rw [show wrap64 (0 + 1) = 1 by unfold wrap64; omega]
  refine step 1 1 k (by decide) (fun k hk => ?_) (by omega)
  rw [show wrap64 (1 + 1) = 2 by unfold wrap64; omega]
  exact last k hk

end Go.Proofs.Ytjjmbcnalcjnmaa.Pure
