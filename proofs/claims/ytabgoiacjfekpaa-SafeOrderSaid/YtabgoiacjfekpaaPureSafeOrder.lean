/- The law SafeOrder over plain functions. For every two fractions and every three ints. -/
import Derived.Test.YtabgoiacjfekpaaSfSafe
import Derived.Test.YtabgoiacjfekpaaPx8
namespace Go.Proofs.Ytabgoiacjfekpaa.Pure
open Go.RowKit Go.Proofs.Ytabgoiacjfekpaa.P Go.Proofs.Ytabgoiacjfekpaa.Sp Go.Proofs.Ytabgoiacjfekpaa.Fl Go.Proofs.YtabgoiacjfekpaaW.PrintWords Go.Proofs.YtabgoiacjfekpaaW.PrintLast Go.Proofs.YtabgoiacjfekpaaW.PrintMore
set_option linter.unusedVariables false

theorem int_range {n : Int} (h : (Lit.int .i64 n).wf = true) : -9223372036854775808 ≤ n ∧ n ≤ 9223372036854775807 := by
  simpa [Lit.wf, IntKind.min, IntKind.max, IntKind.signed, IntKind.bits] using h

theorem mid_of {i j : Int} (h0 : 0 ≤ i) (h1 : i < j) (h2 : j ≤ 1000000) : mid i j = (i + j) / 2 := by
  have e : IntKind.u64.wrap (i + j) = i + j := by
    simp [IntKind.wrap, IntKind.signed, IntKind.bits]
    omega
  unfold mid
  rw [wrap64_of (n := i + j) (by omega) (by omega), e, wrap64_of (by omega) (by omega)]

/-- what is sought in halves: the first one from which on it is so -/
theorem search_at (P : Int → Option Bool) (p : Int → Bool) (hP : ∀ m, 0 ≤ m → m ≤ 1000000 → P m = some (p m)) (mono : ∀ a b, a ≤ b → p a = true → p b = true) : ∀ (d k : Nat) (i j : Int), 0 ≤ i → i ≤ j → j ≤ 1000000 → (j - i).toNat ≤ d → d + 1 ≤ k → (∀ m, 0 ≤ m → m < i → p m = false) → (p j = true) →
    ∃ r, search P k i j = some r ∧ i ≤ r ∧ r ≤ j ∧ p r = true ∧ (∀ m, 0 ≤ m → m < r → p m = false) := by
  intro d
  induction d with
  | zero =>
    intro k i j h0 h1 h2 hd hk hlow hhi
    obtain ⟨k, rfl⟩ : ∃ m, k = m + 1 := ⟨k - 1, by omega⟩
    obtain rfl : i = j := by omega
    exact ⟨i, by rw [search, if_neg (by omega)], by omega, by omega, hhi, hlow⟩
  | succ d ih =>
    intro k i j h0 h1 h2 hd hk hlow hhi
    obtain ⟨k, rfl⟩ : ∃ m, k = m + 1 := ⟨k - 1, by omega⟩
    by_cases c : i < j
    · rw [search, if_pos c, mid_of h0 c h2, hP _ (by omega) (by omega), Option.bind_some]
      have m1 : i ≤ (i + j) / 2 := by omega
      have m2 : (i + j) / 2 < j := by omega
      generalize (i + j) / 2 = m at *
      cases hm : p m with
      | true =>
        rw [if_pos rfl]
        obtain ⟨r, g1, g2, g3, g4, g5⟩ := ih k i m h0 m1 (by omega) (by omega) (by omega) hlow hm
        exact ⟨r, g1, g2, by omega, g4, g5⟩
      | false =>
        rw [if_neg (by decide), wrap64_of (by omega) (by omega)]
        obtain ⟨r, g1, g2, g3, g4, g5⟩ := ih k (m + 1) j (by omega) (by omega) h2 (by omega) (by omega) (fun q q0 q1 => by
          cases hq : p q with
          | false => rfl
          | true => have := mono q m (by omega) hq; rw [hm] at this; cases this) hhi
        exact ⟨r, g1, by omega, g3, g4, g5⟩
    · obtain rfl : i = j := by omega
      exact ⟨i, by rw [search, if_neg c], by omega, by omega, hhi, hlow⟩

/-- the numbers that are left -/
theorem small (x : Int) (h : 0 ≤ x) : 0 ≤ Int.tmod x 1000001 ∧ Int.tmod x 1000001 ≤ 1000000 := by
  rw [Int.tmod_eq_emod_of_nonneg h]
  omega
theorem turned {n : Int} (h : (Lit.int .i64 n).wf = true) (hn : n < 0) : 0 ≤ wrap64 (-(wrap64 (n + 1))) := by
  have := int_range h
  rw [wrap64_of (n := n + 1) (by omega) (by omega), wrap64_of (by omega) (by omega)]
  omega

theorem full (h w : Int) (s : Nat) (hw : w ≤ 1000000) (hn : ¬ nan s) (hk : key s ≤ key one) (h1 : w ≤ h) : reachv h w s = true :=
  reach_less (by omega) (reach_all (by omega) h1) hn hk nan_one

/-- how many are missing -/
theorem miss_at (k : Nat) (hk : 1000020 ≤ k) (c : Nat) (n1 : ¬ nan c) (n3 : key c ≤ key one) (h w : Int) (h0 : 0 ≤ h) (h1 : h ≤ 2000000) (w0 : 0 ≤ w) (w1 : w ≤ 1000000) :
    ∃ r, safe_Safe_Missing.f k c (reachv h w c) h w = some (r, c, reachv h w c, h, w) ∧ 0 ≤ r ∧ r ≤ w ∧ reachv (h + r) w c = true ∧ ∀ m, 0 ≤ m → m < r → reachv (h + m) w c = false := by
  cases hr : reachv h w c with
  | true =>
    refine ⟨0, ?_, Int.le_refl 0, w0, by rw [Int.add_zero]; exact hr, fun m a b => by omega⟩
    unfold safe_Safe_Missing.f
    rw [if_pos rfl]
  | false =>
    have hw1 : ¬ w < 1 := fun z => by rw [reach_none h c z] at hr; cases hr
    have haw : h < w := by
      refine Int.lt_of_not_ge fun z => ?_
      rw [full h w c w1 n1 n3 z] at hr; cases hr
    obtain ⟨r, g1, g2, g3, g4, g5⟩ := search_at (fun m => real_Reached.f (wrap64 (h + m)) w c) (fun m => reachv (h + m) w c) (fun m m0 m1 => by
        show real_Reached.f (wrap64 (h + m)) w c = _
        rw [wrap64_of (by omega) (by omega)]
        exact reached_at _ _ _ (by omega)) (fun p q hpq z => reach_more (by omega) z (by omega)) 1000001 k 0 (w - h) (by omega) (by omega) (by omega) (by omega) (by omega) (fun m m0 m1 => by omega) (full _ w c w1 n1 n3 (by omega))
    refine ⟨r, ?_, g2, by omega, g4, g5⟩
    unfold safe_Safe_Missing.f
    rw [if_neg (by decide), if_neg (by omega), wrap64_of (by omega) (by omega), g1, Option.bind_some]

/-- the one that has less is less -/
theorem least {p q : Int → Bool} {r s : Int} (hr0 : 0 ≤ r) (hs : ∀ m, 0 ≤ m → m < s → q m = false) (hr : p r = true) (h : p r = true → q r = true) : s ≤ r := by
  refine Int.le_of_not_gt fun c => ?_
  have := hs r hr0 c
  rw [h hr] at this
  cases this

theorem shv_mono {x y : Nat} (hx : ¬ nan x) (hy : ¬ nan y) (h : key x ≤ key y) : key (shv x) ≤ key (shv y) := by
  have h1 := key_one
  have h0 := key_zero
  unfold shv
  rw [if_neg hx, if_neg hy]
  unfold clampv
  rw [if_neg (show ¬ (nan x ∨ nan 0 ∨ nan one) by rintro (h | h | h); exact hx h; exact nan_zero h; exact nan_one h), if_neg (show ¬ (nan y ∨ nan 0 ∨ nan one) by rintro (h | h | h); exact hy h; exact nan_zero h; exact nan_one h)]
  repeat' split
  all_goals omega

/-- a number as the law turns it -/
def norm (n : Int) : Int := Int.tmod (if n < 0 then wrap64 (-(wrap64 (n + 1))) else n) 1000001
theorem norm_range {n : Int} (h : (Lit.int .i64 n).wf = true) : 0 ≤ norm n ∧ norm n ≤ 1000000 := by
  unfold norm
  by_cases c : n < 0
  · rw [if_pos c]; exact small _ (turned h c)
  · rw [if_neg c]; exact small _ (by omega)

theorem order_step (k : Nat) (a0 a1 : Nat) (t : Bool) (l : List Int) (i : Nat) (hi : i < 3) (hl : l.length = 3) (s : Nat) (o : Bool) (p q : Int) (s' : Nat) (o' : Bool) (p' q' : Int) (s'' : Nat) (o'' : Bool) (p'' q'' : Int) :
    tabulariumlaw21_SafeOrder.l0 (k + 1) a0 a1 t l (i : Int) s o p q s' o' p' q' s'' o'' p'' q'' = tabulariumlaw21_SafeOrder.l0 k a0 a1 t (l.set i (norm (l.getD i 0))) ((i + 1 : Nat) : Int) s o p q s' o' p' q' s'' o'' p'' q'' := by
  have e : ∀ m : List Int, rd m (i : Int) = m.getD i 0 := fun m => by unfold rd; rw [Int.toNat_natCast]
  rw [tabulariumlaw21_SafeOrder.l0, if_pos (by omega), if_pos (by omega), if_pos (by omega), e, Int.toNat_natCast, wrap64_of (n := (i : Int) + 1) (by omega) (by omega), show ((i : Int) + 1) = ((i + 1 : Nat) : Int) by omega]
  unfold norm
  by_cases c : l.getD i 0 < 0
  · rw [if_pos c, if_pos c, Option.bind_some, e, List.set_set]
    congr 2
    congr 1
    rw [List.getD_eq_getElem?_getD, List.getElem?_set_self (by omega)]
    rfl
  · rw [if_neg c, if_neg c]

theorem order_last (k : Nat) (hk : 1000020 ≤ k) (a0 a1 : Nat) (x y z : Int) (x0 : 0 ≤ x ∧ x ≤ 1000000) (y0 : 0 ≤ y ∧ y ≤ 1000000) (z0 : 0 ≤ z ∧ z ≤ 1000000) :
    tabulariumlaw21_SafeOrder.l0 (k + 1) a0 a1 true [x, y, z] ((3 : Nat) : Int) (shv a0) false 0 0 (shv a1) false 0 0 (shv a0) false 0 0 = some true := by
  rw [tabulariumlaw21_SafeOrder.l0, if_neg (by decide), if_pos (show (0 : Int) < (([x, y, z] : List Int).length : Int) by simp), if_pos (show (2 : Int) < (([x, y, z] : List Int).length : Int) by simp), show rd [x, y, z] 0 = x from rfl, show rd [x, y, z] 1 = y from rfl, show rd [x, y, z] 2 = z from rfl]
  obtain ⟨n1, n2, n3⟩ := shv_num a0
  obtain ⟨m1, m2, m3⟩ := shv_num a1
  have mX : mx x 0 = x := by unfold mx; split <;> omega
  have mZ : mx z 0 = z := by unfold mx; split <;> omega
  have mXY : mx (x + y) 0 = x + y := by unfold mx; split <;> omega
  rw [wrap64_of (n := x + y) (by omega) (by omega), see_at _ _ _ _ x z (by omega), see_at _ _ _ _ x z (by omega), see_at _ _ _ _ (x + y) z (by omega), mX, mZ, mXY]
  simp only [Option.bind_some, Bool.false_or]
  rw [if_pos (show (1 : Int) < (([x, y, z] : List Int).length : Int) by simp), if_pos trivial]
  obtain ⟨ra, a1_, a2, a3, a4, a5⟩ := miss_at k hk (shv a0) n1 n3 x z (by omega) (by omega) (by omega) (by omega)
  obtain ⟨rb, b1, b2, b3, b4, b5⟩ := miss_at k hk (shv a1) m1 m3 x z (by omega) (by omega) (by omega) (by omega)
  obtain ⟨rc, c1, c2, c3, c4, c5⟩ := miss_at k hk (shv a0) n1 n3 (x + y) z (by omega) (by omega) (by omega) (by omega)
  have hca : rc ≤ ra := least (p := fun m => reachv (x + m) z (shv a0)) (q := fun m => reachv (x + y + m) z (shv a0)) a2 c5 a4 (fun h => reach_more (by omega) h (by omega))
  rw [a1_, b1, c1]
  simp only [Option.bind_some]
  rw [a1_]
  simp only [Option.bind_some]
  rw [a1_]
  simp only [Option.bind_some]
  rw [a1_]
  simp only [Option.bind_some]
  by_cases c : (FloatKind.f64.format.order a1 a0 == some .lt || FloatKind.f64.format.order a1 a0 == some .eq) = true
  · rw [if_pos c]
    have hnum : ¬ nan a1 ∧ ¬ nan a0 := by
      constructor
      · intro h; rw [order_nan (Or.inl h)] at c; revert c; decide
      · intro h; rw [order_nan (Or.inr h)] at c; revert c; decide
    rw [t_le_num ⟨hnum.1, hnum.2⟩] at c
    have hk' := of_decide_eq_true c
    have hba : rb ≤ ra := least (p := fun m => reachv (x + m) z (shv a0)) (q := fun m => reachv (x + m) z (shv a1)) a2 b5 a4 (fun h => reach_less (by omega) h m1 (shv_mono hnum.1 hnum.2 hk') n1)
    rw [if_pos hba, if_pos hca, if_pos a2, decide_eq_true a3]
  · rw [if_neg c, if_pos hca, if_pos a2, decide_eq_true a3]

theorem SafeOrder : tabulariumlaw21_SafeOrder.Pure := by
  intro s t x y z ws wt wx wy wz
  obtain ⟨k, hk⟩ : ∃ k, 1000030 ≤ k := ⟨1000030, Nat.le_refl _⟩
  refine ⟨k + 4, ?_⟩
  unfold tabulariumlaw21_SafeOrder.f
  rw [examples_at (k + 4) (by omega), new_at s (k + 4) (by omega), new_at t (k + 4) (by omega)]
  simp only [Option.bind_some]
  rw [show (0 : Int) = ((0 : Nat) : Int) from rfl]
  rw [show k + 4 = k + 3 + 1 from rfl, order_step _ _ _ _ _ 0 (by decide) rfl, show k + 3 = k + 2 + 1 from rfl, order_step _ _ _ _ _ 1 (by decide) rfl, show k + 2 = k + 1 + 1 from rfl, order_step _ _ _ _ _ 2 (by decide) rfl]
  exact order_last k (by omega) s t (norm x) (norm y) (norm z) (norm_range wx) (norm_range wy) (norm_range wz)

end Go.Proofs.Ytabgoiacjfekpaa.Pure
