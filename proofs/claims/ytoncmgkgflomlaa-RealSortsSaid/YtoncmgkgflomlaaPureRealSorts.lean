/- The law RealSorts over plain functions: what is sorted stands in its order, and is what was there, each as often. For every list of fractions. -/
import Derived.Test.YtoncmgkgflomlaaExr3
import Derived.Test.YtoncmgkgflomlaaSorts
import Derived.Test.YtoncmgkgflomlaaPx5
namespace Go.Proofs.Ytoncmgkgflomlaa.Pure
open Go.RowKit Go.Proofs.Ytoncmgkgflomlaa.P Go.Proofs.Ytoncmgkgflomlaa.Fl Go.Proofs.YtoncmgkgflomlaaW.PrintWords Go.Proofs.YtoncmgkgflomlaaW.PrintLast Go.Proofs.YtoncmgkgflomlaaW.PrintMore
set_option linter.unusedVariables false

def same (x : Nat) (L : List Nat) : Nat := L.countP (fun y => ordF x y == 0)
theorem rdOf_nat (L : List Nat) (j : Nat) (h : j < L.length) : rdOf (0 : Nat) L (j : Int) = L[j] := by
  unfold rdOf
  rw [Int.toNat_natCast, List.getD_eq_getElem?_getD, List.getElem?_eq_getElem h]
  rfl
theorem iffs {α : Type} {p q : Prop} [Decidable p] [Decidable q] {a b : α} (h : p ↔ q) : (if p then a else b) = (if q then a else b) := by
  by_cases c : p
  · rw [if_pos c, if_pos (h.1 c)]
  · rw [if_neg c, if_neg (fun g => c (h.2 g))]
theorem w1 (j : Nat) (h : j < 1000) : wrap64 ((j : Int) + 1) = ((j + 1 : Nat) : Int) := by unfold wrap64; omega

theorem l1_run (x0 x4 : List Nat) (x3 : Bool) (i : Nat) (hi : i < x4.length) (hl : x4.length = x0.length) (h60 : x0.length ≤ 60) :
    ∀ r j a b K, j + r = x0.length → a ≤ j → b ≤ j → tabulariumlaw03_RealSorts.l1 (r + 1 + K) x0 x3 x4 (i : Int) ((a : Nat) : Int) ((b : Nat) : Int) ((j : Nat) : Int) =
      if a + same x4[i] (x0.drop j) = b + same x4[i] (x4.drop j) then tabulariumlaw03_RealSorts.l0 K x0 x3 x4 ((i + 1 : Nat) : Int) else some false
  | 0, j, a, b, K, hj, ha, hb => by
    rw [show 0 + 1 + K = K + 1 by omega, tabulariumlaw03_RealSorts.l1, if_neg (by omega), List.drop_eq_nil_of_le (by omega), List.drop_eq_nil_of_le (by omega), w1 i (by omega)]
    have e : same x4[i] [] = 0 := rfl
    rw [e]
    by_cases c : a = b
    · rw [if_pos (by omega), if_pos (by omega)]
    · rw [if_neg (by omega), if_neg (by omega)]
  | r + 1, j, a, b, K, hj, ha, hb => by
    have hj0 : j < x0.length := by omega
    have hj4 : j < x4.length := by omega
    rw [show r + 1 + 1 + K = (r + 1 + K) + 1 by omega, tabulariumlaw03_RealSorts.l1, if_pos (by omega), if_pos (by omega), if_pos (by omega), if_pos (by omega), rdOf_nat x4 i hi, rdOf_nat x0 j hj0, ord_some, Option.bind_some]
    rw [List.drop_eq_getElem_cons hj0, List.drop_eq_getElem_cons hj4]
    have e0 : same x4[i] (x0[j] :: x0.drop (j + 1)) = same x4[i] (x0.drop (j + 1)) + if ordF x4[i] x0[j] = 0 then 1 else 0 := by
      unfold same; rw [List.countP_cons]; simp only [beq_iff_eq]
    have e4 : same x4[i] (x4[j] :: x4.drop (j + 1)) = same x4[i] (x4.drop (j + 1)) + if ordF x4[i] x4[j] = 0 then 1 else 0 := by
      unfold same; rw [List.countP_cons]; simp only [beq_iff_eq]
    rw [e0, e4]
    by_cases c0 : ordF x4[i] x0[j] = 0
    · rw [if_pos c0, if_pos (by omega), rdOf_nat x4 j hj4, ord_some, Option.bind_some, if_pos c0]
      by_cases c4 : ordF x4[i] x4[j] = 0
      · rw [if_pos c4, if_pos c4, w1 a (by omega), w1 b (by omega), w1 j (by omega), l1_run x0 x4 x3 i hi hl h60 r (j + 1) (a + 1) (b + 1) K (by omega) (by omega) (by omega)]
        exact iffs (by omega)
      · rw [if_neg c4, if_neg c4, w1 a (by omega), w1 j (by omega), l1_run x0 x4 x3 i hi hl h60 r (j + 1) (a + 1) b K (by omega) (by omega) (by omega)]
        exact iffs (by omega)
    · rw [if_neg c0, if_pos (by omega), rdOf_nat x4 j hj4, ord_some, Option.bind_some, if_neg c0]
      by_cases c4 : ordF x4[i] x4[j] = 0
      · rw [if_pos c4, if_pos c4, w1 b (by omega), w1 j (by omega), l1_run x0 x4 x3 i hi hl h60 r (j + 1) a (b + 1) K (by omega) (by omega) (by omega)]
        exact iffs (by omega)
      · rw [if_neg c4, if_neg c4, w1 j (by omega), l1_run x0 x4 x3 i hi hl h60 r (j + 1) a b K (by omega) (by omega) (by omega)]
        exact iffs (by omega)

theorem l0_run (x0 x4 : List Nat) (hp : x4.Perm x0) (hs : x4.Pairwise (fun a b => rk a ≤ rk b)) (h60 : x0.length ≤ 60) :
    ∀ r i K, i + r = x4.length → tabulariumlaw03_RealSorts.l0 (r * (x0.length + 3) + 1 + K) x0 true x4 ((i : Nat) : Int) = some true
  | 0, i, K, hi => by
    rw [show 0 * (x0.length + 3) + 1 + K = K + 1 by omega, tabulariumlaw03_RealSorts.l0, if_neg (by omega)]
  | r + 1, i, K, hi => by
    have hl := hp.length_eq
    have hi4 : i < x4.length := by omega
    have step : ∀ K', tabulariumlaw03_RealSorts.j1 (x0.length + 1 + (r * (x0.length + 3) + 1 + K') + 1) x0 true x4 ((i : Nat) : Int) false = some true := by
      intro K'
      rw [tabulariumlaw03_RealSorts.j1, if_neg (by decide)]
      have h := l1_run x0 x4 true i hi4 hl h60 x0.length 0 0 0 (r * (x0.length + 3) + 1 + K') (by omega) (by omega) (by omega)
      rw [List.drop_zero, List.drop_zero, if_pos (by unfold same; rw [hp.countP_eq]), l0_run x0 x4 hp hs h60 r (i + 1) K' (by omega)] at h
      exact h
    rw [show (r + 1) * (x0.length + 3) + 1 + K = (x0.length + 1 + (r * (x0.length + 3) + 1 + K) + 1) + 1 by rw [Nat.add_mul]; omega, tabulariumlaw03_RealSorts.l0, if_pos (by omega)]
    by_cases c : (i : Int) > 0
    · obtain ⟨p, rfl⟩ : ∃ p, i = p + 1 := ⟨i - 1, by omega⟩
      have hw : wrap64 (((p + 1 : Nat) : Int) - 1) = ((p : Nat) : Int) := by unfold wrap64; omega
      rw [if_pos c, hw, if_pos (by omega), if_pos (by omega), if_pos (by omega), rdOf_nat x4 p (by omega), rdOf_nat x4 (p + 1) hi4, ord_some, Option.bind_some]
      have hle := List.pairwise_iff_getElem.1 hs p (p + 1) (by omega) hi4 (by omega)
      have hng : ¬ ordF x4[p] x4[p + 1] > 0 := by rw [ordF_gt]; omega
      rw [decide_eq_false hng]
      exact step K
    · rw [if_neg c]
      exact step K

theorem RealSorts : tabulariumlaw03_RealSorts.Pure := by
  intro l0 w0 w1' w2
  have hmn : mn (l0.length : Int) 60 = ((min l0.length 60 : Nat) : Int) := by unfold mn; split <;> omega
  have hlen : (l0.take (min l0.length 60)).length = min l0.length 60 := by rw [List.length_take]; omega
  obtain ⟨s, hs⟩ := sort_total (l0.take (min l0.length 60)) (by rw [hlen]; omega)
  obtain ⟨hp, ho⟩ := sort_facts _ s hs
  refine ⟨s.length * ((l0.take (min l0.length 60)).length + 3) + 1 + 5, ?_⟩
  unfold tabulariumlaw03_RealSorts.f
  rw [examples_at _ (by omega), Option.bind_some, hmn, if_pos (by omega), if_pos (by omega), Int.toNat_natCast, hs, Option.bind_some, if_pos (by rw [hp.length_eq])]
  exact l0_run _ s hp ho (by rw [hlen]; omega) s.length 0 5 (by omega)
end Go.Proofs.Ytoncmgkgflomlaa.Pure
