/- The law SafeMissing over plain functions. For every fraction and every three ints. -/
import Derived.Test.YtabgoiacjfekpaaSfSafe
import Derived.Test.YtabgoiacjfekpaaPx6
namespace Go.Proofs.Ytabgoiacjfekpaa.Pure
open Go.RowKit Go.Proofs.Ytabgoiacjfekpaa.P Go.Proofs.Ytabgoiacjfekpaa.Sp Go.Proofs.Ytabgoiacjfekpaa.Fl Go.Proofs.YtabgoiacjfekpaaW.PrintWords Go.Proofs.YtabgoiacjfekpaaW.PrintLast Go.Proofs.YtabgoiacjfekpaaW.PrintMore
set_option linter.unusedVariables false

theorem int_range {n : Int} (h : (Lit.int .i64 n).wf = true) : -9223372036854775808 ≤ n ∧ n ≤ 9223372036854775807 := by
  simpa [Lit.wf, IntKind.min, IntKind.max, IntKind.signed, IntKind.bits] using h

theorem mid_of {i j : Int} (h0 : 0 ≤ i) (h1 : i < j) (h2 : j ≤ 1000000) : mid i j = (i + j) / 2 := by
  have e : IntKind.u64.wrap (i + j) = i + j := by
    simp [IntKind.wrap, IntKind.signed, IntKind.bits]
    omega
  unfold mid
  rw [wrap64_of (n := i + j) (by omega) (by omega), e, wrap64_of (by omega) (by omega)]

/-- what is sought in halves: the first one from which on it is so -/
theorem search_at (P : Int → Option Bool) (p : Int → Bool) (hP : ∀ m, 0 ≤ m → m ≤ 1000000 → P m = some (p m)) (mono : ∀ a b, a ≤ b → p a = true → p b = true) : ∀ (d k : Nat) (i j : Int), 0 ≤ i → i ≤ j → j ≤ 1000000 → (j - i).toNat ≤ d → d + 1 ≤ k → (∀ m, 0 ≤ m → m < i → p m = false) → (p j = true) →
    ∃ r, search P k i j = some r ∧ i ≤ r ∧ r ≤ j ∧ p r = true ∧ (∀ m, 0 ≤ m → m < r → p m = false) := by
  intro d
  induction d with
  | zero =>
    intro k i j h0 h1 h2 hd hk hlow hhi
    obtain ⟨k, rfl⟩ : ∃ m, k = m + 1 := ⟨k - 1, by omega⟩
    obtain rfl : i = j := by omega
    exact ⟨i, by rw [search, if_neg (by omega)], by omega, by omega, hhi, hlow⟩
  | succ d ih =>
    intro k i j h0 h1 h2 hd hk hlow hhi
    obtain ⟨k, rfl⟩ : ∃ m, k = m + 1 := ⟨k - 1, by omega⟩
    by_cases c : i < j
    · rw [search, if_pos c, mid_of h0 c h2, hP _ (by omega) (by omega), Option.bind_some]
      have m1 : i ≤ (i + j) / 2 := by omega
      have m2 : (i + j) / 2 < j := by omega
      generalize (i + j) / 2 = m at *
      cases hm : p m with
      | true =>
        rw [if_pos rfl]
        obtain ⟨r, g1, g2, g3, g4, g5⟩ := ih k i m h0 m1 (by omega) (by omega) (by omega) hlow hm
        exact ⟨r, g1, g2, by omega, g4, g5⟩
      | false =>
        rw [if_neg (by decide), wrap64_of (by omega) (by omega)]
        obtain ⟨r, g1, g2, g3, g4, g5⟩ := ih k (m + 1) j (by omega) (by omega) h2 (by omega) (by omega) (fun q q0 q1 => by
          cases hq : p q with
          | false => rfl
          | true => have := mono q m (by omega) hq; rw [hm] at this; cases this) hhi
        exact ⟨r, g1, by omega, g3, g4, g5⟩
    · obtain rfl : i = j := by omega
      exact ⟨i, by rw [search, if_neg c], by omega, by omega, hhi, hlow⟩

/-- the numbers that are left -/
theorem small (x : Int) (h : 0 ≤ x) : 0 ≤ Int.tmod x 1000001 ∧ Int.tmod x 1000001 ≤ 1000000 := by
  rw [Int.tmod_eq_emod_of_nonneg h]
  omega
theorem turned {n : Int} (h : (Lit.int .i64 n).wf = true) (hn : n < 0) : 0 ≤ wrap64 (-(wrap64 (n + 1))) := by
  have := int_range h
  rw [wrap64_of (n := n + 1) (by omega) (by omega), wrap64_of (by omega) (by omega)]
  omega

theorem full (h w : Int) (s : Nat) (hw : w ≤ 1000000) (hn : ¬ nan s) (hk : key s ≤ key one) (h1 : w ≤ h) : reachv h w s = true :=
  reach_less (by omega) (reach_all (by omega) h1) hn hk nan_one

theorem rest (k : Nat) (hk : 1000020 ≤ k) (s : Nat) (x y z : Int) (hx : 0 ≤ x) (hy : 0 ≤ y) (hz : z ≤ 9223372036854775807) :
    tabulariumlaw21_SafeMissing.j1 k s x y z true = some true := by
  obtain ⟨k, rfl⟩ : ∃ m, k = m + 1 := ⟨k - 1, by omega⟩
  obtain ⟨a0, a1⟩ := small x hx
  obtain ⟨w0, w1⟩ := small y hy
  obtain ⟨n1, n2, n3⟩ := shv_num s
  rw [tabulariumlaw21_SafeMissing.j1, new_at s k (by omega)]
  simp only [Option.bind_some]
  generalize Int.tmod x 1000001 = a at *
  generalize Int.tmod y 1000001 = w at *
  generalize shv s = c at *
  have ma : mx a 0 = a := by unfold mx; split <;> omega
  have mw : mx w 0 = w := by unfold mx; split <;> omega
  rw [see_at _ _ _ _ a w (by omega), ma, mw]
  simp only [Option.bind_some, Bool.false_or]
  cases hr : reachv a w c with
  | true =>
    simp only [Bool.not_true, Bool.false_eq_true, ↓reduceIte]
    have e : safe_Safe_Missing.f k c true a w = some (0, c, true, a, w) := by unfold safe_Safe_Missing.f; rw [if_pos rfl]
    rw [e]
    simp only [Option.bind_some, ↓reduceIte]
    rw [see_at _ _ _ _ 0 z hz]
    simp only [Option.bind_some, Bool.true_or, Bool.not_true, Bool.false_eq_true, ↓reduceIte]
    rfl
  | false =>
    have hw1 : ¬ w < 1 := fun h => by rw [reach_none a c h] at hr; cases hr
    have haw : a < w := by
      refine Int.lt_of_not_ge fun h => ?_
      rw [full a w c w1 n1 n3 h] at hr; cases hr
    simp only [Bool.not_false, ↓reduceIte]
    obtain ⟨r, g1, g2, g3, g4, g5⟩ := search_at (fun m => real_Reached.f (wrap64 (a + m)) w c) (fun m => reachv (a + m) w c) (fun m m0 m1 => by
        show real_Reached.f (wrap64 (a + m)) w c = _
        rw [wrap64_of (by omega) (by omega)]
        exact reached_at _ _ _ (by omega)) (fun p q hpq h => reach_more (by omega) h (by omega)) 1000001 k 0 (w - a) (by omega) (by omega) (by omega) (by omega) (by omega) (fun m m0 m1 => by omega) (full _ w c w1 n1 n3 (by omega))
    have e : safe_Safe_Missing.f k c false a w = some (r, c, false, a, w) := by
      unfold safe_Safe_Missing.f
      rw [if_neg (by decide), if_neg (by omega), wrap64_of (by omega) (by omega), g1, Option.bind_some]
    rw [e]
    have hr1 : 1 ≤ r := by
      by_cases c0 : r = 0
      · subst c0
        simp only [Int.add_zero] at g4
        rw [hr] at g4; cases g4
      · omega
    have g6 := g5 (r - 1) (by omega) (by omega)
    try simp only at g4 g6
    simp only [Option.bind_some]
    rw [if_pos hr1, wrap64_of (n := a + r) (by omega) (by omega), if_pos (by omega), see_at _ _ _ _ (a + r) w (by omega)]
    have m1 : mx (a + r) 0 = a + r := by unfold mx; split <;> omega
    rw [mw, m1, g4]
    simp only [Option.bind_some, Bool.or_true, Bool.not_true, Bool.false_eq_true, ↓reduceIte]
    rw [wrap64_of (by omega) (by omega), see_at _ _ _ _ (a + r - 1) w (by omega)]
    have m2 : mx (a + r - 1) 0 = a + (r - 1) := by unfold mx; split <;> omega
    rw [mw, m2, g6]
    rfl

theorem SafeMissing : tabulariumlaw21_SafeMissing.Pure := by
  intro s a w z ws wa ww wz
  refine ⟨1000030, ?_⟩
  unfold tabulariumlaw21_SafeMissing.f
  rw [examples_at 1000030 (by omega), Option.bind_some]
  have hz := (int_range wz).2
  have j0 : ∀ x, 0 ≤ x → tabulariumlaw21_SafeMissing.j0 1000030 s x w z true = some true := fun x hx => by
    rw [tabulariumlaw21_SafeMissing.j0]
    by_cases c : w < 0
    · rw [if_pos c, rest _ (by omega) s x _ z hx (turned ww c) hz]
    · rw [if_neg c, rest _ (by omega) s x w z hx (by omega) hz]
  by_cases c : a < 0
  · rw [if_pos c, j0 _ (turned wa c)]
  · rw [if_neg c, j0 a (by omega)]

end Go.Proofs.Ytabgoiacjfekpaa.Pure
