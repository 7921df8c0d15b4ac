/- The law RealTurns over plain functions: Order is an order of all fractions. For every three fractions. -/
import Derived.Test.YtoncmgkgflomlaaEx03
import Derived.Test.YtoncmgkgflomlaaPx4
namespace Go.Proofs.Ytoncmgkgflomlaa.Pure
set_option linter.unusedSimpArgs false
open Go.RowKit Go.Proofs.Ytoncmgkgflomlaa.P Go.Proofs.Ytoncmgkgflomlaa.Fl Go.Proofs.YtoncmgkgflomlaaW.PrintWords Go.Proofs.YtoncmgkgflomlaaW.PrintLast Go.Proofs.YtoncmgkgflomlaaW.PrintMore

theorem RealTurns : tabulariumlaw03_RealTurns.Pure := by
  intro a b c w0 w1 w2
  have ha := wf_lt w0
  have hb := wf_lt w1
  have hc := wf_lt w2
  refine ⟨10, ?_⟩
  have hlt : (FloatKind.f64.format.order a b == some .lt) = true → ordv a b < 0 := fun h => by
    obtain ⟨h1, h2⟩ := (t_lt a b).1 h
    have := rank_of_lt ha hb h1 h2
    unfold ordv; rw [if_pos this]; omega
  have hsame : ordv a b = 0 ↔ a = b ∨ (nan a ∧ nan b) := by
    rw [← rank_eq ha hb]
    unfold ordv
    constructor
    · intro h; split at h
      · omega
      · split at h <;> omega
    · intro h; rw [if_neg (by omega), if_neg (by omega)]
  have hback : ordv a b = wrap64 (-(ordv b a)) := by
    unfold ordv wrap64
    by_cases h1 : rankv a < rankv b
    · rw [if_pos h1, if_neg (by omega), if_pos h1]; rfl
    · by_cases h2 : rankv b < rankv a
      · rw [if_neg h1, if_pos h2, if_pos h2]; rfl
      · rw [if_neg h1, if_neg h2, if_neg h2, if_neg h1]; rfl
  have ht1 : ¬ ordv a b > 0 → ¬ ordv b c > 0 → ordv a c ≤ 0 := by
    unfold ordv; intro h1 h2; repeat' split at h1
    all_goals first | omega | (repeat' split at h2) | skip
    all_goals first | omega | (repeat' split) | skip
    all_goals omega
  have ht2 : ordv a b < 0 → ¬ ordv b c > 0 → ordv a c < 0 := by
    unfold ordv; intro h1 h2; repeat' split at h1
    all_goals first | omega | (repeat' split at h2) | skip
    all_goals first | omega | (repeat' split) | skip
    all_goals omega
  unfold tabulariumlaw03_RealTurns.f
  rw [examples_at 10 (by omega), order_at ha hb, order_at hb hc, order_at ha hc, order_at hb ha]
  simp only [Option.bind_some]
  rw [t_ne, t_ne]
  generalize (FloatKind.f64.format.order a b == some .lt) = q at *
  rw [← hback]
  generalize ordv a b = x at *
  generalize ordv b c = y at *
  generalize ordv a c = z at *
  have e0 : ((a : Nat) : Int) = ((b : Nat) : Int) ↔ a = b := by omega
  simp only [e0, decide_eq_true_eq]
  by_cases h1 : a = b
  · have hx : x = 0 := hsame.2 (.inl h1)
    subst hx
    simp only [h1, if_true]
    repeat' split
    all_goals first | rfl | (exfalso; simp_all; done) | (exfalso; omega) | (simp_all; done)
  · by_cases h2 : nan a ∧ nan b
    · have hx : x = 0 := hsame.2 (.inr h2)
      subst hx
      simp only [h1, h2.1, h2.2, if_true, if_false]
      repeat' split
      all_goals first | rfl | (exfalso; simp_all; done) | (exfalso; omega) | (simp_all; done)
    · have hx : ¬ x = 0 := fun h => by rcases hsame.1 h with h | h <;> contradiction
      have hxb : (x == 0) = false := by simpa using hx
      have hnn : nan a → ¬ nan b := fun q1 q2 => h2 ⟨q1, q2⟩
      clear hsame h2 hback w0 w1 w2 e0
      by_cases x1 : x > 0
      · have x2 : ¬ x < 0 := by omega
        have x3 : x ≥ 0 := by omega
        have hq : q = false := by cases q; · rfl
                                  exact absurd (hlt rfl) x2
        clear hlt ht1 ht2
        by_cases na : nan a
        · have nb := hnn na
          simp [h1, na, nb, hx, x1, x2, x3, hq]
        · simp [h1, na, hx, x1, x2, x3, hq]
      · have x2 : x < 0 := by omega
        have x3 : ¬ x ≥ 0 := by omega
        clear hlt
        by_cases y1 : y > 0
        · clear ht1 ht2
          by_cases na : nan a
          · have nb := hnn na
            simp [h1, na, nb, hx, x1, x2, x3, y1]
          · simp [h1, na, hx, x1, x2, x3, y1]
        · have z1 := ht1 x1 y1
          have z2 := ht2 x2 y1
          clear ht1 ht2
          by_cases na : nan a
          · have nb := hnn na
            simp [h1, na, nb, hx, x1, x2, x3, y1, z1, z2]
          · simp [h1, na, hx, x1, x2, x3, y1, z1, z2]

end Go.Proofs.Ytoncmgkgflomlaa.Pure
