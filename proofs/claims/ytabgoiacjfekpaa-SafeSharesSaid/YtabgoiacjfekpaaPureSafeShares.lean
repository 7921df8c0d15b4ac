/- The law SafeShares over plain functions. For every fraction and every two ints. -/
import Derived.Test.YtabgoiacjfekpaaSfSafe
import Derived.Test.YtabgoiacjfekpaaPx7
namespace Go.Proofs.Ytabgoiacjfekpaa.Pure
open Go.RowKit Go.Proofs.Ytabgoiacjfekpaa.P Go.Proofs.Ytabgoiacjfekpaa.Sp Go.Proofs.Ytabgoiacjfekpaa.Fl Go.Proofs.YtabgoiacjfekpaaW.PrintWords Go.Proofs.YtabgoiacjfekpaaW.PrintLast Go.Proofs.YtabgoiacjfekpaaW.PrintMore
set_option linter.unusedVariables false

theorem int_range {n : Int} (h : (Lit.int .i64 n).wf = true) : -9223372036854775808 ≤ n ∧ n ≤ 9223372036854775807 := by
  simpa [Lit.wf, IntKind.min, IntKind.max, IntKind.signed, IntKind.bits] using h

theorem shv_one {s : Nat} (h : nan s ∨ key one < key s) : shv s = one := by
  have h1 := key_one
  have h0 := key_zero
  unfold shv
  by_cases c : nan s
  · rw [if_pos c]
  · rw [if_neg c]
    have hk := h.resolve_left c
    unfold clampv
    rw [if_neg (by rintro (h | h | h); exact c h; exact nan_zero h; exact nan_one h), if_neg (by omega), if_pos hk]

theorem last (a w : Int) (h1 : 1 ≤ w) (h2 : w ≤ 1000000) : (!(false || reachv (mx a 0) (mx w 0) one)) = decide (a < w) := by
  have hm : mx w 0 = w := by unfold mx; split <;> omega
  rw [hm, Bool.false_or]
  have h := reach_one_iff (mx a 0) h1 h2
  have e : w ≤ mx a 0 ↔ w ≤ a := by unfold mx; split <;> omega
  by_cases c : a < w
  · have : reachv (mx a 0) w one = false := by
      cases hr : reachv (mx a 0) w one with
      | false => rfl
      | true => have := e.1 (h.1 hr); omega
    rw [this, decide_eq_true c]; rfl
  · rw [h.2 (e.2 (by omega)), decide_eq_false c]; rfl

theorem SafeShares : tabulariumlaw21_SafeShares.Pure := by
  intro s a w ws wa ww
  have hw := (int_range ww).2
  refine ⟨50, ?_⟩
  unfold tabulariumlaw21_SafeShares.f
  rw [examples_at 50 (by omega), Option.bind_some, new_at s 50 (by omega), Option.bind_some, new_at 0 50 (by omega), Option.bind_some, Option.bind_some]
  simp only
  rw [see_at _ _ _ _ a 0 (by omega), Option.bind_some, see_at _ _ _ _ a w hw, Option.bind_some]
  have z0 : shv 0 = 0 := by decide
  have hm0 : mx 0 0 = 0 := rfl
  rw [hm0, reach_none _ _ (by omega), z0, reach_zero _ (mx_le hw)]
  simp only [Bool.or_true, Bool.not_true]
  rw [if_neg (by decide), tabulariumlaw21_SafeShares.j0, if_neg (by decide)]
  have hone : one = 4607182418800017408 := rfl
  rw [t_eqs]
  by_cases c : nan s
  · rw [if_neg (by rw [decide_eq_true c]; decide)]
    by_cases c1 : w > 1000000
    · rw [if_pos c1]
    · rw [if_neg c1]
      by_cases c2 : w < 1
      · rw [if_pos c2]
      · rw [if_neg c2, if_pos rfl, see_at _ _ _ _ a w hw, Option.bind_some, shv_one (.inl c)]
        simp only
        rw [last a w (by omega) (by omega)]
        simp
  · rw [if_pos (by rw [decide_eq_false c]; rfl), ← hone, t_le_num ⟨c, nan_one⟩]
    by_cases c0 : key s ≤ key one
    · rw [if_pos (decide_eq_true c0)]
    · rw [if_neg (by rw [decide_eq_false c0]; decide)]
      by_cases c1 : w > 1000000
      · rw [if_pos c1]
      · rw [if_neg c1]
        by_cases c2 : w < 1
        · rw [if_pos c2]
        · rw [if_neg c2, if_pos rfl, see_at _ _ _ _ a w hw, Option.bind_some, shv_one (.inr (by omega))]
          simp only
          rw [last a w (by omega) (by omega)]
          simp

end Go.Proofs.Ytabgoiacjfekpaa.Pure
