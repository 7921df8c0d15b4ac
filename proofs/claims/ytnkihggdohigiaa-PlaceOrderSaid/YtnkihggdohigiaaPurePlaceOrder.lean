/- The law PlaceOrder over plain functions: which is better is an order. For every three loads. -/
import Derived.Test.YtnkihggdohigiaaPlC
import Derived.Test.YtnkihggdohigiaaPx21
namespace Go.Proofs.Ytnkihggdohigiaa.Pure
open Go.RowKit Go.Proofs.Ytnkihggdohigiaa.P Go.Proofs.Ytnkihggdohigiaa.Fl Go.Proofs.YtnkihggdohigiaaW.PrintWords Go.Proofs.YtnkihggdohigiaaW.PrintLast Go.Proofs.YtnkihggdohigiaaW.PrintMore
set_option linter.unusedVariables false

theorem cmpN_neg (a b : Nat) : cmpN a b = wrap64 (-(cmpN b a)) := by
  unfold cmpN wrap64
  repeat' split
  all_goals omega
theorem cmpN_self (p : Nat) : cmpN p p = 0 := by unfold cmpN; rw [if_neg (by omega), if_neg (by omega)]
theorem PlaceOrder : tabulariumlaw22_PlaceOrder.Pure := by
  intro a0 a1 a2 b0 b1 b2 c0 c1 c2 w0 w1 w2 w3 w4 w5 w6 w7 w8
  refine ⟨10, ?_⟩
  have ha := wf_lt w2
  have hb := wf_lt w5
  have hc := wf_lt w8
  have bf : ∀ x0 x1 x2 y0 y1 y2 : Nat, x2 < 18446744073709551616 → y2 < 18446744073709551616 → place_Before.f 10 x0 x1 x2 y0 y1 y2 = some (cmpN (goodn ⟨x0, x1, x2⟩) (goodn ⟨y0, y1, y2⟩)) := fun x0 x1 x2 y0 y1 y2 hx hy => before_f ⟨x0, x1, x2⟩ ⟨y0, y1, y2⟩ hx hy 10 (by omega)
  unfold tabulariumlaw22_PlaceOrder.f
  rw [examples_at 10 (by omega), Option.bind_some, bf _ _ _ _ _ _ ha hb, Option.bind_some, bf _ _ _ _ _ _ hb hc, Option.bind_some, bf _ _ _ _ _ _ ha hc, Option.bind_some, if_pos rfl, bf _ _ _ _ _ _ hb ha, Option.bind_some, if_pos (cmpN_neg _ _), bf _ _ _ _ _ _ ha ha, Option.bind_some, if_pos (cmpN_self _)]
  clear bf w0 w1 w2 w3 w4 w5 w6 w7 w8 ha hb hc
  generalize goodn ⟨a0, a1, a2⟩ = p
  generalize goodn ⟨b0, b1, b2⟩ = q
  generalize goodn ⟨c0, c1, c2⟩ = s
  have h1 := cmpN_lt p q
  have h2 := cmpN_gt p q
  have h3 := cmpN_lt q s
  have h4 := cmpN_gt q s
  have h5 := cmpN_lt p s
  have h6 := cmpN_gt p s
  generalize cmpN p q = x at *
  generalize cmpN q s = y at *
  generalize cmpN p s = z at *
  repeat' split
  all_goals first | rfl | omega | (congr 1; rw [decide_eq_true_eq]; omega)
end Go.Proofs.Ytnkihggdohigiaa.Pure
