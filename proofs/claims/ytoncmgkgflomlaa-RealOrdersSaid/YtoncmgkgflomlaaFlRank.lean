/- Where a fraction stands among all, said by the plain facts on float64 words. -/
import Derived.Test.YtoncmgkgflomlaaFl
import Derived.Test.YtoncmgkgflomlaaBits
import Derived.Test.YtoncmgkgflomlaaPx1
namespace Go.Proofs.Ytoncmgkgflomlaa.Fl
open Go.RowKit Go.Proofs.Ytoncmgkgflomlaa.P Go.Proofs.Ytoncmgkgflomlaa.Sp Go.Proofs.YtoncmgkgflomlaaW.PrintWords Go.Proofs.YtoncmgkgflomlaaW.PrintLast Go.Proofs.YtoncmgkgflomlaaW.PrintMore
set_option linter.unusedVariables false

theorem isNaN_at (x : Nat) : math_IsNaN.f x = some (decide (nan x)) := by unfold math_IsNaN.f; rw [t_ne]
theorem neg_iff {x : Nat} (h : x < 18446744073709551616) : neg x = true ↔ 9223372036854775808 ≤ x := by
  unfold neg sw; rw [beq_iff_eq]; omega
theorem signbit_at {x : Nat} (h : x < 18446744073709551616) : math_Signbit.f x = some (neg x) := by
  unfold math_Signbit.f
  congr 1
  have e := neg_iff h
  by_cases c : 9223372036854775808 ≤ x
  · rw [e.2 c, decide_eq_true]; unfold wrap64; omega
  · rw [Bool.eq_false_iff.mpr (fun q => c (e.1 q)), decide_eq_false]; unfold wrap64; omega

/-- where a word stands among all -/
def rankv (x : Nat) : Nat := if nan x then 18446744073709551615 else if neg x = true then 18446744073709551615 - x else x + 9223372036854775808

theorem rank_at {x : Nat} (h : x < 18446744073709551616) : real_rank.f x = some ((rankv x : Nat) : Int) := by
  unfold real_rank.f rankv
  rw [isNaN_at]
  simp only [Option.bind_some]
  by_cases c : nan x
  · rw [if_pos (decide_eq_true c), if_pos c]; rfl
  · rw [if_neg (by rw [decide_eq_true_eq]; exact c), if_neg c, signbit_at h]
    simp only [Option.bind_some]
    have e := neg_iff h
    by_cases c2 : neg x = true
    · rw [if_pos c2, if_pos c2, u64_ones_xor (by omega) (by omega)]
      congr 1
      omega
    · rw [if_neg c2, if_neg c2]
      have hx : ¬ 9223372036854775808 ≤ x := fun q => c2 (e.2 q)
      have := u64_or_add (x := (x : Int)) (y := 1) (i := 63) (by omega) (by omega) (by omega) (by omega) (by omega)
      rw [show (1 : Int) * 2 ^ 63 = 9223372036854775808 from rfl] at this
      rw [this]
      congr 1

/-- the order of words -/
def ordv (a b : Nat) : Int := if rankv a < rankv b then -1 else if rankv b < rankv a then 1 else 0

theorem order_at {a b : Nat} (ha : a < 18446744073709551616) (hb : b < 18446744073709551616) : real_Order.f a b = some (ordv a b) := by
  unfold real_Order.f ordv
  rw [rank_at ha, rank_at hb]
  simp only [Option.bind_some]
  by_cases c : rankv a < rankv b
  · rw [if_pos (by omega), if_pos c]
  · rw [if_neg (by omega), if_neg c]
    by_cases c2 : rankv b < rankv a
    · rw [if_pos (by omega), if_pos c2]
    · rw [if_neg (by omega), if_neg c2]

theorem rank_key {a : Nat} (ha : a < 18446744073709551616) (h : ¬ nan a) : (neg a = true ∧ (rankv a : Int) = 9223372036854775807 + key a ∧ key a ≤ 0) ∨ (neg a = false ∧ (rankv a : Int) = 9223372036854775808 + key a ∧ 0 ≤ key a ∧ key a ≤ 9218868437227405312) := by
  have e := neg_iff ha
  unfold nan rung sw inf at h
  unfold rankv key rung sw
  rw [if_neg (by unfold nan rung sw inf; exact h)]
  by_cases c : neg a = true
  · left
    have := e.1 c
    rw [if_pos c, if_pos c]
    refine ⟨c, ?_, ?_⟩ <;> omega
  · right
    have : ¬ 9223372036854775808 ≤ a := fun q => c (e.2 q)
    rw [if_neg c, if_neg c]
    refine ⟨by simpa using c, ?_, ?_, ?_⟩ <;> omega

theorem rank_nan {a : Nat} (h : nan a) : rankv a = 18446744073709551615 := by unfold rankv; rw [if_pos h]
theorem rank_lt_nan {a : Nat} (ha : a < 18446744073709551616) (h : ¬ nan a) : rankv a < 18446744073709551615 := by
  rcases rank_key ha h with ⟨_, h1, h2⟩ | ⟨_, h1, h2, h3⟩ <;> omega

theorem rank_eq {a b : Nat} (ha : a < 18446744073709551616) (hb : b < 18446744073709551616) : rankv a = rankv b ↔ a = b ∨ (nan a ∧ nan b) := by
  constructor
  · intro h
    by_cases c : nan a
    · by_cases d : nan b
      · exact .inr ⟨c, d⟩
      · have := rank_nan c; have := rank_lt_nan hb d; omega
    · by_cases d : nan b
      · have := rank_nan d; have := rank_lt_nan ha c; omega
      · left
        have e1 := neg_iff ha
        have e2 := neg_iff hb
        unfold rankv at h
        rw [if_neg c, if_neg d] at h
        by_cases n1 : neg a = true
        · have := e1.1 n1
          rw [if_pos n1] at h
          by_cases n2 : neg b = true
          · rw [if_pos n2] at h; have := e2.1 n2; omega
          · rw [if_neg n2] at h; omega
        · have q1 : ¬ 9223372036854775808 ≤ a := fun q => n1 (e1.2 q)
          rw [if_neg n1] at h
          by_cases n2 : neg b = true
          · rw [if_pos n2] at h; have := e2.1 n2; omega
          · rw [if_neg n2] at h; omega
  · rintro (rfl | ⟨c, d⟩)
    · rfl
    · rw [rank_nan c, rank_nan d]

theorem rank_of_lt {a b : Nat} (ha : a < 18446744073709551616) (hb : b < 18446744073709551616) (h : num2 a b) (hk : key a < key b) : rankv a < rankv b := by
  rcases rank_key ha h.1 with ⟨_, h1, h2⟩ | ⟨_, h1, h2, h3⟩ <;> rcases rank_key hb h.2 with ⟨_, g1, g2⟩ | ⟨_, g1, g2, g3⟩ <;> omega

end Go.Proofs.Ytoncmgkgflomlaa.Fl
