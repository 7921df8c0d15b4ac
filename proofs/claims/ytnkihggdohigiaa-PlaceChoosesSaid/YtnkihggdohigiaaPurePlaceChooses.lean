/- The law PlaceChooses over plain functions: which fit, which is better, which ones take a block, and how unlike they are, as the document's answer says. For every list of loads (the first fifty), every list of barred ones, every need and every two loads. -/
import Derived.Test.YtnkihggdohigiaaPlR
import Derived.Test.YtnkihggdohigiaaPx19
namespace Go.Proofs.Ytnkihggdohigiaa.Pure
open Go.RowKit Go.Proofs.Ytnkihggdohigiaa.P Go.Proofs.Ytnkihggdohigiaa.Fl Go.Proofs.YtnkihggdohigiaaW.PrintWords Go.Proofs.YtnkihggdohigiaaW.PrintLast Go.Proofs.YtnkihggdohigiaaW.PrintMore
set_option linter.unusedVariables false

theorem chooses_l1 (l : List S26) (a1 : Int) (l2 : List Int) (b : Bool) (want : List Int) (t : Nat) (ht : t < 1000) (a0 a3 a2 b0 b1 b2 : Nat) : ∀ r c K (X : List Int), X.length ≤ 50 → c + r = X.length →
    tabulariumlaw22_PlaceChooses.l1 (r + 1 + K) l a1 l2 b want ((t : Nat) : Int) X ((c : Nat) : Int) a0 a3 a2 b0 b1 b2 = tabulariumlaw22_PlaceChooses.l0 K l a1 l2 b want ((t + 1 : Nat) : Int) a0 a3 a2 b0 b1 b2
  | 0, c, K, X, hX, h => by
    rw [show 0 + 1 + K = K + 1 by omega, tabulariumlaw22_PlaceChooses.l1, if_neg (by omega), w_up t (by omega)]
  | r + 1, c, K, X, hX, h => by
    rw [show r + 1 + 1 + K = (r + 1 + K) + 1 by omega, tabulariumlaw22_PlaceChooses.l1, if_pos (by omega), if_pos (by omega), w_up c (by omega)]
    exact chooses_l1 l a1 l2 b want t ht a0 a3 a2 b0 b1 b2 r (c + 1) K _ (by rw [List.length_set]; exact hX) (by rw [List.length_set]; omega)
theorem chooses_turn {l : List S26} (hw : wfl l) (hl : l.length ≤ 50) (a1 : Int) (l2 : List Int) (h2 : l2.length < 1152921504606846976) (b : Bool) (t : Nat) (ht : t < 2) (a0 a3 a2 b0 b1 b2 : Nat) (K : Nat) (hK : 200 ≤ K) : ∃ K', K ≤ K' + 100 ∧
    tabulariumlaw22_PlaceChooses.l0 K l a1 l2 b (((tgt 10 l l2).take (mn ((tgt 10 l l2).length : Int) (mx a1 0)).toNat).map Int.ofNat) ((t : Nat) : Int) a0 a3 a2 b0 b1 b2 = tabulariumlaw22_PlaceChooses.l0 K' l a1 l2 b (((tgt 10 l l2).take (mn ((tgt 10 l l2).length : Int) (mx a1 0)).toNat).map Int.ofNat) ((t + 1 : Nat) : Int) a0 a3 a2 b0 b1 b2 := by
  have hle := tgt_le hw l2 10 (by omega)
  obtain ⟨W, hW⟩ : ∃ W, W = (((tgt 10 l l2).take (mn ((tgt 10 l l2).length : Int) (mx a1 0)).toNat).map Int.ofNat) := ⟨_, rfl⟩
  have hWl : W.length ≤ 50 := by rw [hW, List.length_map, List.length_take]; omega
  have ht' := targets_of hw (by omega) l2 h2 a1
  rw [← hW] at ht' ⊢
  obtain ⟨K1, rfl⟩ : ∃ q, K = (W.length + 1 + q) + 1 := ⟨K - 1 - (W.length + 1), by omega⟩
  refine ⟨K1, by omega, ?_⟩
  rw [tabulariumlaw22_PlaceChooses.l0, if_pos (by omega), ht', Option.bind_some, numbers_at W (by omega) _ (by omega), Option.bind_some, if_pos rfl]
  exact chooses_l1 l a1 l2 b W t (by omega) a0 a3 a2 b0 b1 b2 W.length 0 K1 W hWl (by omega)
theorem PlaceChooses : tabulariumlaw22_PlaceChooses.Pure := by
  intro l0 a1 l2 a0 a3 a2 b0 b1 b2 w0 w1 w2 w3 w4 w5 w6 w7 w8 w9 w10 w11 w12
  have ha := wf_lt w9
  have hb := wf_lt w12
  refine ⟨50 * (l2.length + 70) + 500, ?_⟩
  obtain ⟨f0, f1, f2⟩ := fifty l0.length
  have hl : (l0.take (mn (l0.length : Int) 50).toNat).length ≤ 50 := by rw [List.length_take]; omega
  have hw := wfl_take w2 (mn (l0.length : Int) 50).toNat
  have h2 : l2.length < 1152921504606846976 := by omega
  unfold tabulariumlaw22_PlaceChooses.f
  rw [examples_at _ (by omega), Option.bind_some, if_pos f0, if_pos f1, Option.bind_some]
  generalize l0.take (mn (l0.length : Int) 50).toNat = l at hl hw
  have hK : l.length * (l2.length + 70) + 10 ≤ 50 * (l2.length + 70) + 500 := by
    have := Nat.mul_le_mul_right (l2.length + 70) hl
    omega
  rw [ref_targets hw hl a1 l2 h2 _ hK, Option.bind_some]
  obtain ⟨K1, k1, e1⟩ := chooses_turn hw hl a1 l2 h2 true 0 (by omega) a0 a3 a2 b0 b1 b2 (50 * (l2.length + 70) + 500) (by omega)
  obtain ⟨K2, k2, e2⟩ := chooses_turn hw hl a1 l2 h2 true 1 (by omega) a0 a3 a2 b0 b1 b2 K1 (by omega)
  refine e1.trans (e2.trans ?_)
  obtain ⟨K3, rfl⟩ : ∃ q, K2 = q + 1 := ⟨K2 - 1, by omega⟩
  have bf := before_f ⟨a0, a3, a2⟩ ⟨b0, b1, b2⟩ ha hb K3 (by omega)
  have rb := refbefore_f ⟨a0, a3, a2⟩ ⟨b0, b1, b2⟩ ha hb K3 (by omega)
  have ff := fit_f ⟨a0, a3, a2⟩ K3 (by omega)
  have rf := reffit_f ⟨a0, a3, a2⟩ K3 (by omega)
  simp only at bf rb ff rf
  rw [tabulariumlaw22_PlaceChooses.l0, if_neg (by omega), spread_at l (by omega) K3 (by omega), Option.bind_some, refspread_at l (by omega) K3 (by omega), Option.bind_some, same_at, Option.bind_some, if_pos rfl, if_pos rfl, ff, Option.bind_some, rf, Option.bind_some, if_pos (beq_self_eq_true _), bf, Option.bind_some, rb, Option.bind_some, beq_self_eq_true]
end Go.Proofs.Ytnkihggdohigiaa.Pure
