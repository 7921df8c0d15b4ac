/- Plain facts on safe mode: what New, See, On tell; a share of 0, and of 1. -/
import Derived.Test.YtabgoiacjfekpaaSfWhole
import Derived.KernelRfl
import Derived.Test.YtabgoiacjfekpaaPx5
namespace Go.Proofs.Ytabgoiacjfekpaa.Fl
open Go.RowKit Go.Proofs.Ytabgoiacjfekpaa.P Go.Proofs.Ytabgoiacjfekpaa.Sp Go.Proofs.YtabgoiacjfekpaaW.PrintWords Go.Proofs.YtabgoiacjfekpaaW.PrintLast Go.Proofs.YtabgoiacjfekpaaW.PrintMore
set_option linter.unusedVariables false

theorem ex21 : tabulariumlaw21_examples.f 10 = some true := by kernel_rfl
theorem examples_at (k : Nat) (hk : 10 ≤ k) : tabulariumlaw21_examples.f k = some true := at_rounds tabulariumlaw21_examples.mono hk ex21

/-- the share that is kept -/
def shv (s : Nat) : Nat := if nan s then one else clampv s 0 one
theorem new_at (s k : Nat) (hk : 2 ≤ k) : safe_New.f k s = some (shv s, false, 0, 0) := by
  unfold safe_New.f shv
  rw [t_ne]
  by_cases c : nan s
  · rw [if_pos (decide_eq_true c), clamp_at _ _ _ k hk, if_pos c]; rfl
  · rw [if_neg (by rw [decide_eq_false c]; decide), clamp_at _ _ _ k hk, if_neg c]; rfl

theorem shv_num (s : Nat) : ¬ nan (shv s) ∧ 0 ≤ key (shv s) ∧ key (shv s) ≤ key one := by
  have h1 := key_one
  have h0 := key_zero
  unfold shv
  by_cases c : nan s
  · rw [if_pos c]; exact ⟨nan_one, by omega, by omega⟩
  · rw [if_neg c]
    unfold clampv
    rw [if_neg (by rintro (h | h | h); exact c h; exact nan_zero h; exact nan_one h)]
    by_cases c1 : key s < key 0
    · rw [if_pos c1]; exact ⟨nan_zero, by omega, by omega⟩
    · rw [if_neg c1]
      by_cases c2 : key one < key s
      · rw [if_pos c2]; exact ⟨nan_one, by omega, by omega⟩
      · rw [if_neg c2]; exact ⟨c, by omega, by omega⟩

theorem mx_le {w : Int} (h : w ≤ 9223372036854775807) : mx w 0 ≤ 9223372036854775807 := by unfold mx; split <;> omega
theorem mx_mx (a : Int) : mx (mx a 0) 0 = mx a 0 := by unfold mx; split <;> omega

theorem see_at (s0 : Nat) (s1 : Bool) (s2 s3 a w : Int) (hw : w ≤ 9223372036854775807) :
    safe_Safe_See.f s0 s1 s2 s3 a w = some (!(s1 || reachv (mx a 0) (mx w 0) s0), s0, (s1 || reachv (mx a 0) (mx w 0) s0), mx a 0, mx w 0) := by
  unfold safe_Safe_See.f
  rw [reached_at _ _ _ (mx_le hw)]
  cases s1 <;> simp

theorem reach_none (a : Int) (s : Nat) {w : Int} (h : w < 1) : reachv a w s = true := by unfold reachv; rw [if_pos h]

/-- of the share 0 it is reached at once -/
theorem reach_zero (a : Int) {w : Int} (h2 : w ≤ 9223372036854775807) : reachv a w 0 = true := by
  by_cases c1 : w < 1
  · exact reach_none a 0 c1
  · obtain ⟨p, e, np⟩ := mul_is c1 h2 nan_zero
    rw [reach_iff c1 nan_zero e np, mx_nat]
    obtain ⟨n, rfl, x, y⟩ := want_nat c1 h2
    obtain ⟨r, er, p0, pi, _⟩ := fi_pos x y
    obtain ⟨q, eq, q1, _, q3⟩ := mul_spec nan_zero er p0 pi
    rw [eq] at e
    obtain rfl := Option.some.inj e
    have hz := q3 (by decide)
    rw [show rung 0 = 0 by decide, V_zero, Nat.zero_mul] at hz
    have : q = 0 := hz.unique (by omega) (rnd_zero TM 1 (by omega))
    subst this
    rw [key_word _ _ (by decide), show neg 0 = false by decide]
    have := fi_mono (Nat.zero_le a.toNat)
    rw [show floatOfInt .f64 ((0 : Nat) : Int) = 0 by decide +kernel, key_zero] at this
    exact this

/-- of the share 1 it is reached just when all is there -/
theorem reach_one_iff (a : Int) {w : Int} (h1 : 1 ≤ w) (h2 : w ≤ 1000000) : reachv a w one = true ↔ w ≤ a := by
  constructor
  · intro h
    refine Int.le_of_not_gt fun c => ?_
    have c1 : ¬ w < 1 := by omega
    obtain ⟨p, e, np⟩ := mul_is c1 (by omega) nan_one
    rw [reach_iff c1 nan_one e np] at h
    obtain ⟨n, hn, x, y⟩ := want_nat c1 (by omega)
    obtain ⟨r, er, p0, pi, _⟩ := fi_pos x y
    rw [hn, mul_one_ er p0 pi, ← hn] at e
    obtain rfl := Option.some.inj e
    have hb : (mx a 0).natAbs < 2 ^ 53 := by unfold mx; split <;> omega
    have := (whole_key w (mx a 0) (by omega) hb).1 h
    unfold mx at this
    split at this <;> omega
  · intro h
    exact reach_all (by omega) h

end Go.Proofs.Ytabgoiacjfekpaa.Fl
