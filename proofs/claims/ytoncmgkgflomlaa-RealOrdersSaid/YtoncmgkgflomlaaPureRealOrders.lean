/- The law RealOrders over plain functions: of any fractions it is told which goes ahead, and any list is sorted, as the reference tells it. For every two fractions and every list. -/
import Derived.Test.YtoncmgkgflomlaaRefOrds
import Derived.Test.YtoncmgkgflomlaaPx10
namespace Go.Proofs.Ytoncmgkgflomlaa.Pure
open Go.RowKit Go.Proofs.Ytoncmgkgflomlaa.P Go.Proofs.Ytoncmgkgflomlaa.Fl Go.Proofs.YtoncmgkgflomlaaW.PrintWords Go.Proofs.YtoncmgkgflomlaaW.PrintLast Go.Proofs.YtoncmgkgflomlaaW.PrintMore
set_option linter.unusedVariables false

theorem orders_l0 (a b : Nat) (L own : List Nat) (K : Nat) (hK : 1 ≤ K) (ha : a < 18446744073709551616) (hb : b < 18446744073709551616) (hr : tabulariumlaw03_reals.f K own L = some true) :
    ∀ r j (out : List Nat), j + r = out.length → out.length ≤ 100 → tabulariumlaw03_RealOrders.l0 (r + 1 + K) a b L true own out true ((j : Nat) : Int) = some true
  | 0, j, out, hj, h100 => by
    obtain ⟨q, rfl⟩ : ∃ q, K = q + 1 := ⟨K - 1, by omega⟩
    rw [show 0 + 1 + (q + 1) = (q + 1) + 1 by omega, tabulariumlaw03_RealOrders.l0, if_neg (by omega), hr, Option.bind_some, if_pos rfl, if_pos rfl, if_pos rfl, order_at ha hb, Option.bind_some, refOrder_at ha hb, Option.bind_some]
    simp
  | r + 1, j, out, hj, h100 => by
    rw [show r + 1 + 1 + K = (r + 1 + K) + 1 by omega, tabulariumlaw03_RealOrders.l0, if_pos (by omega), if_pos (by omega), wu j (by omega)]
    exact orders_l0 a b L own K hK ha hb hr r (j + 1) _ (by rw [List.length_set]; omega) (by rw [List.length_set]; exact h100)

theorem RealOrders : tabulariumlaw03_RealOrders.Pure := by
  intro a b l wa wb w1 w2 w3
  have ha := wf_lt wa
  have hb := wf_lt wb
  have hmn : mn (l.length : Int) 100 = ((min l.length 100 : Nat) : Int) := by unfold mn; split <;> omega
  have hlen : (l.take (min l.length 100)).length = min l.length 100 := by rw [List.length_take]; omega
  have hw : ∀ y ∈ l.take (min l.length 100), y < 18446744073709551616 := fun y hy => wf_lt (w3 y (List.mem_of_mem_take hy))
  have h100 : (l.take (min l.length 100)).length ≤ 100 := by rw [hlen]; omega
  have hn : (min l.length 100 : Nat) ≤ l.length := Nat.min_le_left _ _
  have hg : ∀ L : List Nat, L.length ≤ 100 → (∀ y ∈ L, y < 18446744073709551616) → L = l.take (min l.length 100) → ∃ k, tabulariumlaw03_RealOrders.f k a b l = some true := by
    intro L hL hwL e
    obtain ⟨s, hs⟩ := sort_total L (by omega)
    obtain ⟨hp, ho⟩ := sort_facts _ s hs
    have hsl := hp.length_eq
    obtain ⟨K, hKe⟩ : ∃ K, K = 20000 := ⟨_, rfl⟩
    have hm : L.length * (L.length + 3) ≤ 100 * 103 := Nat.mul_le_mul (by omega) (by omega)
    obtain ⟨t, ht, tor, tp⟩ := refSort_at L hL hwL (s.length + 1 + K) (by omega)
    have hst := ranks_alike ho tor (hp.trans tp.symm)
    have htl := tp.length_eq
    have hrs : tabulariumlaw03_reals.f (s.length + 1 + K) s t = some true := by
      refine reals_at s t (by omega) (by omega) (fun i h h' => ?_) _ (by omega)
      refine same_of (hwL _ (hp.mem_iff.1 (List.getElem_mem h))) (hwL _ (tp.mem_iff.1 (List.getElem_mem h'))) ?_
      have e1 : (s.map rk)[i]? = (t.map rk)[i]? := by rw [hst]
      rw [List.getElem?_map, List.getElem?_map, List.getElem?_eq_getElem h, List.getElem?_eq_getElem h'] at e1
      exact Option.some.inj e1
    have hre : tabulariumlaw03_reals.f K L L = some true := reals_at L L rfl hL (fun i h h' => same_of (hwL _ (List.getElem_mem h)) (hwL _ (List.getElem_mem h)) rfl) _ (by omega)
    refine ⟨s.length + 1 + K, ?_⟩
    unfold tabulariumlaw03_RealOrders.f
    rw [examples_at _ (by omega), Option.bind_some, hmn, if_pos (by omega), if_pos (by omega), Int.toNat_natCast, ← e]
    have e2 : ([] : List Nat) ++ L = L := List.nil_append _
    rw [e2, if_pos (by simp only [List.length_nil]; omega), Option.bind_some, hs, Option.bind_some, ht, Option.bind_some, hrs, Option.bind_some]
    exact orders_l0 a b L L K (by omega) ha hb hre s.length 0 s (by omega) (by omega)
  exact hg _ h100 hw rfl
end Go.Proofs.Ytoncmgkgflomlaa.Pure
