/- What package real and its reference compute as a list's mean, said by the plain facts on float64 words. -/
import Derived.Test.YtoncmgkgflomlaaFlReach
import Derived.Test.YtoncmgkgflomlaaPx11
import Derived.Test.YtoncmgkgflomlaaPx3
import Derived.Test.YtoncmgkgflomlaaPx12
import Derived.Test.YtoncmgkgflomlaaPx13
namespace Go.Proofs.Ytoncmgkgflomlaa.Fl
open Go.RowKit Go.Proofs.Ytoncmgkgflomlaa.P Go.Proofs.Ytoncmgkgflomlaa.Sp Go.Proofs.YtoncmgkgflomlaaW.PrintWords Go.Proofs.YtoncmgkgflomlaaW.PrintLast Go.Proofs.YtoncmgkgflomlaaW.PrintMore
set_option linter.unusedVariables false

theorem xor_low {x i : Nat} (h : x < 2 ^ i) : x ^^^ 2 ^ i = x + 2 ^ i := by
  have h1 := Nat.two_pow_add_eq_or_of_lt (i := i) (b := x) h 1
  have h2 : 2 ^ i * 1 ||| x = 2 ^ i * 1 ^^^ x := by
    apply Nat.eq_of_testBit_eq
    intro j
    rw [Nat.testBit_or, Nat.testBit_xor, Nat.mul_one]
    by_cases hj : j = i
    · subst hj
      rw [Nat.testBit_lt_two_pow h]; simp
    · rw [Nat.testBit_two_pow_of_ne (fun e => hj e.symm)]; simp
  rw [Nat.xor_comm, ← Nat.mul_one (2 ^ i), ← h2, ← h1]
  omega

theorem negf {x : Nat} (h : x < 18446744073709551616) : (Op.negFloat .f64 x < 18446744073709551616) ∧ rung (Op.negFloat .f64 x) = rung x ∧ neg (Op.negFloat .f64 x) = !neg x := by
  have e : Op.negFloat .f64 x = x ^^^ 2 ^ 63 := rfl
  rw [e]
  by_cases c : x < 9223372036854775808
  · rw [xor_low (show x < 2 ^ 63 by omega)]
    refine ⟨by omega, by unfold rung sw; omega, ?_⟩
    have a1 := neg_iff (x := x + 2 ^ 63) (by omega)
    have a2 := neg_iff h
    rw [a1.2 (by omega)]
    have : neg x = false := Bool.eq_false_iff.mpr fun q => by have := a2.1 q; omega
    rw [this]; rfl
  · obtain ⟨y, hy, rfl⟩ : ∃ y, y < 2 ^ 63 ∧ x = y + 2 ^ 63 := ⟨x - 2 ^ 63, by omega, by omega⟩
    have e2 : (y + 2 ^ 63) ^^^ 2 ^ 63 = y := by rw [← xor_low hy, Nat.xor_assoc, Nat.xor_self, Nat.xor_zero]
    rw [e2]
    refine ⟨by omega, by unfold rung sw; omega, ?_⟩
    have a1 := neg_iff (x := y) (by omega)
    have a2 := neg_iff h
    rw [a2.2 (by omega)]
    exact Bool.eq_false_iff.mpr fun q => by have := a1.1 q; omega

theorem abs_at {x : Nat} (h : x < 18446744073709551616) : math_Abs.f x = some (rung x) := by
  unfold math_Abs.f rung sw
  have e := u64_andNot_nat x 9223372036854775808 h (by omega)
  rw [show ((9223372036854775808 : Nat) : Int) = 9223372036854775808 from rfl] at e
  rw [e, Int.toNat_natCast]
  congr 1
  have := Nat.and_two_pow_sub_one_eq_mod x 63
  exact this

theorem big (x : Nat) (hx : rung x = x) (hn : neg x = false) : (FloatKind.f64.format.order x 9218868437227405311 == some .gt) = decide (rung x = inf) := by
  have k1 : key 9218868437227405311 = 9218868437227405311 := by decide
  have n1 : ¬ nan 9218868437227405311 := by decide
  have hi : inf = 9218868437227405312 := rfl
  by_cases c : nan x
  · rw [order_nan (.inl c), decide_eq_false (by unfold nan at c; omega)]; rfl
  · rw [t_gt_num ⟨c, n1⟩, k1, key_sg, hn]
    unfold sg nan at *
    rw [if_neg (by decide)]
    by_cases c2 : rung x = inf
    · rw [decide_eq_true c2, decide_eq_true]; omega
    · rw [decide_eq_false c2, decide_eq_false]; omega

theorem isInf_at {x : Nat} (h : x < 18446744073709551616) : math_IsInf.f x 0 = some (decide (rung x = inf)) := by
  unfold math_IsInf.f
  rw [if_pos rfl, abs_at h]
  simp only [Option.bind_some]
  have h1 : rung x < 9223372036854775808 := by unfold rung sw; omega
  have h2 : rung (rung x) = rung x := by unfold rung sw; omega
  have h3 : neg (rung x) = false := Bool.eq_false_iff.mpr fun q => by have := (neg_iff (x := rung x) (by omega)).1 q; omega
  rw [big (rung x) h2 h3, h2]

theorem isInf_pos {x : Nat} (h : x < 18446744073709551616) (hn : ¬ nan x) : math_IsInf.f x 1 = some (decide (rung x = inf ∧ neg x = false)) := by
  have k1 : key 9218868437227405311 = 9218868437227405311 := by decide
  have n1 : ¬ nan 9218868437227405311 := by decide
  have hi : inf = 9218868437227405312 := rfl
  unfold math_IsInf.f
  rw [if_neg (by decide), if_neg (by decide), t_gt_num ⟨hn, n1⟩, k1, key_sg]
  congr 1
  unfold nan at hn
  unfold sg
  cases c : neg x
  · rw [if_neg (by decide)]
    exact decide_eq_decide.2 ⟨fun h => ⟨by omega, rfl⟩, fun h => by omega⟩
  · rw [if_pos rfl]
    exact decide_eq_decide.2 ⟨fun h => by omega, fun h => by cases h.2⟩

theorem isInf_neg {x : Nat} (h : x < 18446744073709551616) (hn : ¬ nan x) : math_IsInf.f x (-1) = some (decide (rung x = inf ∧ neg x = true)) := by
  have k1 : key 9218868437227405311 = 9218868437227405311 := by decide
  have n1 : ¬ nan 9218868437227405311 := by decide
  have hi : inf = 9218868437227405312 := rfl
  obtain ⟨q1, q2, q3⟩ := negf h
  have hn2 : ¬ nan (Op.negFloat .f64 x) := by unfold nan at *; rw [q2]; exact hn
  unfold math_IsInf.f
  rw [if_neg (by decide), if_pos (by decide), t_gt_num ⟨hn2, n1⟩, k1, key_sg, q2, q3]
  congr 1
  unfold nan at hn
  unfold sg
  cases c : neg x
  · rw [Bool.not_false, if_pos rfl]
    exact decide_eq_decide.2 ⟨fun h => by omega, fun h => by cases h.2⟩
  · rw [Bool.not_true, if_neg (by decide)]
    exact decide_eq_decide.2 ⟨fun h => ⟨by omega, rfl⟩, fun h => by omega⟩

theorem copysign_max {x : Nat} (h : x < 18446744073709551616) : math_Copysign.f 9218868437227405311 x = some (if neg x = true then 18442240474082181119 else 9218868437227405311) := by
  unfold math_Copysign.f
  have e1 := u64_andNot_nat 9218868437227405311 9223372036854775808 (by omega) (by omega)
  have e2 := u64_and_nat x 9223372036854775808 h (by omega)
  rw [show ((9223372036854775808 : Nat) : Int) = 9223372036854775808 from rfl] at e1 e2
  rw [e1, e2]
  have e3 : (9218868437227405311 : Nat) &&& (18446744073709551615 - 9223372036854775808) = 9218868437227405311 := by decide
  have e4 : x &&& 9223372036854775808 = if neg x = true then 9223372036854775808 else 0 := by
    have hb : x.testBit 63 = neg x := by
      rw [Nat.testBit_eq_decide_div_mod_eq]
      unfold neg sw
      by_cases c : x / 9223372036854775808 % 2 = 1
      · rw [show (2 : Nat) ^ 63 = 9223372036854775808 from rfl, decide_eq_true c]; simp [c]
      · rw [show (2 : Nat) ^ 63 = 9223372036854775808 from rfl, decide_eq_false c]; simp [c]
    rw [show (9223372036854775808 : Nat) = 2 ^ 63 from rfl]
    apply Nat.eq_of_testBit_eq
    intro j
    rw [Nat.testBit_and]
    by_cases hj : j = 63
    · subst hj
      rw [Nat.testBit_two_pow_self, hb]
      cases neg x
      · rw [if_neg (by decide)]; rfl
      · rw [if_pos rfl, Nat.testBit_two_pow_self]; rfl
    · rw [Nat.testBit_two_pow_of_ne (fun e => hj e.symm)]
      split
      · rw [Nat.testBit_two_pow_of_ne (fun e => hj e.symm)]; simp
      · simp
  rw [e3, e4, u64_or_nat _ _ (by omega) (by split <;> omega), Int.toNat_natCast]
  congr 1
  by_cases c : neg x = true
  · rw [if_pos c, if_pos c]; decide
  · rw [if_neg c, if_neg c]; decide

/-! ### sums -/
theorem add_num {s f : Nat} (hs : ¬ nan s) (hf : rung f < inf) : ∃ q, FloatKind.f64.format.add s f = some q ∧ ¬ nan q ∧ q < 18446744073709551616 := by
  obtain ⟨n, j, e2, _⟩ := read_num hf
  have hw : ∀ d : Ieee.Datum, d.isNaN = false → ¬ nan (FloatKind.f64.format.write d) := by
    intro d hd
    cases d with
    | number a b c =>
      unfold Ieee.Format.write Ieee.Format.nearest
      simp only
      split
      · exact nan_word _ _ (by decide)
      · exact nan_word _ _ (by rw [f_inf]; exact Nat.min_le_right ..)
    | infinity a => exact nan_word a _ (Nat.le_refl _)
    | nan a b => simp [Ieee.Datum.isNaN] at hd
  unfold nan at hs
  by_cases c : rung s < inf
  · obtain ⟨m, i, e1, _⟩ := read_num c
    refine ⟨_, by unfold Ieee.Format.add; rw [e1, e2]; rfl, hw _ rfl, FloatKind.f64.format.write_lt _⟩
  · have e1 := read_inf (x := s) (by omega)
    refine ⟨_, by unfold Ieee.Format.add; rw [e1, e2]; rfl, hw _ rfl, FloatKind.f64.format.write_lt _⟩

def stepm (p : Nat × Nat) (f : Nat) : Nat × Nat := if nan f ∨ rung f = inf then p else ((FloatKind.f64.format.add p.1 f).getD 0, p.2 + 1)

theorem stepm_ok {p : Nat × Nat} {f : Nat} (h1 : ¬ nan p.1) (h2 : p.1 < 18446744073709551616) : ¬ nan (stepm p f).1 ∧ (stepm p f).1 < 18446744073709551616 ∧ (stepm p f).2 ≤ p.2 + 1 := by
  unfold stepm
  by_cases c : nan f ∨ rung f = inf
  · rw [if_pos c]; exact ⟨h1, h2, by omega⟩
  · rw [if_neg c]
    obtain ⟨q, e, g1, g2⟩ := add_num h1 (f := f) (by unfold nan at c; omega)
    simp only [e, Option.getD_some]
    exact ⟨g1, g2, by omega⟩

/-- what is told of a sum and a count -/
def meanEnd (p : Nat × Nat) : Nat := if p.2 = 0 then 0 else if rung p.1 = inf then (if neg p.1 = true then 18442240474082181119 else 9218868437227405311) else (FloatKind.f64.format.div p.1 (floatOfInt .f64 (p.2 : Int))).getD 0

theorem div_fin {s n : Nat} (hs : rung s < inf) (h1 : 1 ≤ n) (h2 : n ≤ 2 ^ 63) : (FloatKind.f64.format.div s (floatOfInt .f64 (n : Int))).isSome = true := by
  obtain ⟨r, e, r0, ri, _⟩ := fi_pos h1 h2
  obtain ⟨m, i, e1, _⟩ := read_num hs
  obtain ⟨w1, w2⟩ := word_at false r (by omega)
  obtain ⟨m2, i2, e2, v2⟩ := read_num (x := FloatKind.f64.format.word false r) (by omega)
  have hm : m2 ≠ 0 := by
    rintro rfl
    rw [Nat.zero_mul, w1, ← V_zero] at v2
    have := V_inj v2
    omega
  unfold Ieee.Format.div
  rw [e, e1, e2]
  simp only [Ieee.Datum.quotient]
  rw [if_neg hm]
  rfl

theorem rdOf_nat (l : List Nat) (i : Nat) (h : i < l.length) : rdOf (0 : Nat) l (i : Int) = l[i] := by
  unfold rdOf
  simp [List.getD_eq_getElem?_getD, List.getElem?_eq_getElem h]

theorem mean_end {s n k : Nat} (hs : ¬ nan s) (h64 : s < 18446744073709551616) (hn : n ≤ 2 ^ 62) (l : List Nat) (hk : 3 ≤ k) (i : Int) (hi : ¬ i < (l.length : Int)) :
    real_Mean.l0 k s (n : Int) l (l.length : Int) i = some (meanEnd (s, n)) ∧ tabulariumref03_Mean.l0 k l s (n : Int) i = some (meanEnd (s, n)) := by
  obtain ⟨k, rfl⟩ : ∃ m, k = m + 2 := ⟨k - 2, by omega⟩
  unfold meanEnd
  simp only
  have hi2 : inf = 9218868437227405312 := rfl
  constructor
  · simp only [real_Mean.l0]
    rw [if_neg hi]
    by_cases c : n = 0
    · rw [if_pos (by omega), if_pos c]
      simp only [real_Mean.j1]
      rw [if_pos trivial]
    · rw [if_neg (by omega), if_neg c, isNaN_at, decide_eq_false hs]
      simp only [Option.bind_some, real_Mean.j1]
      rw [if_neg (by decide), isInf_at h64]
      simp only [Option.bind_some, decide_eq_true_eq]
      by_cases c2 : rung s = inf
      · rw [if_pos c2, if_pos c2, copysign_max h64]
        rfl
      · rw [if_neg c2, if_neg c2, opt_getD]
        unfold nan at hs
        obtain ⟨q, hq⟩ := Option.isSome_iff_exists.1 (div_fin (s := s) (n := n) (by omega) (by omega) (by omega))
        rw [hq]; rfl
  · simp only [tabulariumref03_Mean.l0]
    rw [if_neg hi]
    by_cases c : n = 0
    · rw [if_pos (by omega), if_pos c]
    · rw [if_neg (by omega), if_neg c, t_ne, decide_eq_false hs, if_neg (by decide), isInf_pos h64 hs, isInf_neg h64 hs]
      simp only [Option.bind_some, decide_eq_true_eq]
      by_cases c2 : rung s = inf
      · rw [if_pos c2]
        cases c3 : neg s
        · rw [if_pos ⟨c2, rfl⟩, if_neg (by decide)]
        · rw [if_neg (by simp), if_pos ⟨c2, rfl⟩, if_pos rfl]
      · rw [if_neg (fun h => c2 h.1), if_neg (fun h => c2 h.1), if_neg c2, opt_getD]
        unfold nan at hs
        obtain ⟨q, hq⟩ := Option.isSome_iff_exists.1 (div_fin (s := s) (n := n) (by omega) (by omega) (by omega))
        rw [hq]; rfl

theorem mean_loop (l : List Nat) (hl : l.length ≤ 2 ^ 60) (hw : ∀ x ∈ l, x < 18446744073709551616) : ∀ (d i s n k : Nat), l.length - i = d → i ≤ l.length → ¬ nan s → s < 18446744073709551616 → n ≤ i → d + 3 ≤ k →
    real_Mean.l0 k s (n : Int) l (l.length : Int) (i : Int) = some (meanEnd ((l.drop i).foldl stepm (s, n))) ∧ tabulariumref03_Mean.l0 k l s (n : Int) (i : Int) = some (meanEnd ((l.drop i).foldl stepm (s, n))) := by
  intro d
  induction d with
  | zero =>
    intro i s n k hd hi hs h64 hn hk
    rw [List.drop_eq_nil_of_le (by omega)]
    exact mean_end hs h64 (by omega) l (by omega) _ (by omega)
  | succ d ih =>
    intro i s n k hd hi hs h64 hn hk
    obtain ⟨k, rfl⟩ : ∃ m, k = m + 1 := ⟨k - 1, by omega⟩
    have hlt : i < l.length := by omega
    have e1 : wrap64 ((i : Int) + 1) = ((i + 1 : Nat) : Int) := by rw [wrap64_of (by omega) (by omega)]; omega
    have e2 : wrap64 ((n : Int) + 1) = ((n + 1 : Nat) : Int) := by rw [wrap64_of (by omega) (by omega)]; omega
    have b1 : (i : Int) < (l.length : Int) := by omega
    have b2 : (0 : Int) ≤ (i : Int) := by omega
    have b3 : l.length - (i + 1) = d := by omega
    have b4 : d + 3 ≤ k := by omega
    have hx := hw l[i] (List.getElem_mem hlt)
    have hdrop : l.drop i = l[i] :: l.drop (i + 1) := List.drop_eq_getElem_cons hlt
    have hrec : real_Mean.l0 k (stepm (s, n) l[i]).1 ((stepm (s, n) l[i]).2 : Int) l (l.length : Int) ((i + 1 : Nat) : Int) = some (meanEnd ((l.drop (i + 1)).foldl stepm (stepm (s, n) l[i]))) ∧ tabulariumref03_Mean.l0 k l (stepm (s, n) l[i]).1 ((stepm (s, n) l[i]).2 : Int) ((i + 1 : Nat) : Int) = some (meanEnd ((l.drop (i + 1)).foldl stepm (stepm (s, n) l[i]))) := by
      obtain ⟨g1, g2, g3⟩ := stepm_ok (p := (s, n)) (f := l[i]) hs h64
      generalize stepm (s, n) l[i] = p at g1 g2 g3 ⊢
      clear hx hdrop e1 e2 hs h64
      exact ih (i + 1) p.1 p.2 k b3 hlt g1 g2 (Nat.le_trans g3 (Nat.succ_le_succ hn)) b4
    rw [hdrop, List.foldl_cons]
    unfold stepm at hrec ⊢
    simp only at hrec ⊢
    have hi2 : inf = 9218868437227405312 := rfl
    constructor
    · have hrec := hrec.1
      simp only [real_Mean.l0]
      rw [if_pos b1, if_pos b2, if_pos b1, rdOf_nat l i hlt, isNaN_at, isInf_at hx, e1, e2]
      simp only [Option.bind_some, decide_eq_true_eq]
      by_cases c1 : nan l[i]
      · rw [if_pos (.inl c1)] at hrec
        rw [if_pos c1, if_pos (show nan l[i] ∨ rung l[i] = inf from .inl c1)]
        exact hrec
      · rw [if_neg c1]
        by_cases c2 : rung l[i] = inf
        · rw [if_pos (.inr c2)] at hrec
          rw [if_pos c2, if_pos (show nan l[i] ∨ rung l[i] = inf from .inr c2)]
          exact hrec
        · have c3 : ¬ (nan l[i] ∨ rung l[i] = inf) := fun h => h.elim c1 c2
          rw [if_neg c3] at hrec
          rw [if_neg c2, if_neg c3]
          obtain ⟨q, e, _⟩ := add_num hs (f := l[i]) (by clear hrec hdrop e1 e2 hx hs h64; unfold nan at c1; omega)
          rw [e] at hrec ⊢
          exact hrec
    · have hrec := hrec.2
      simp only [tabulariumref03_Mean.l0]
      rw [if_pos b1, if_pos b2, rdOf_nat l i hlt, t_eqs, isInf_at hx, e1, e2]
      simp only [Option.bind_some, decide_eq_true_eq]
      by_cases c1 : nan l[i]
      · rw [if_pos (.inl c1)] at hrec
        rw [if_neg (by simp [c1]), if_pos (show nan l[i] ∨ rung l[i] = inf from .inl c1)]
        exact hrec
      · rw [if_pos (by simp [c1])]
        by_cases c2 : rung l[i] = inf
        · rw [if_pos (.inr c2)] at hrec
          rw [if_pos c2, if_pos (show nan l[i] ∨ rung l[i] = inf from .inr c2)]
          exact hrec
        · have c3 : ¬ (nan l[i] ∨ rung l[i] = inf) := fun h => h.elim c1 c2
          rw [if_neg c3] at hrec
          rw [if_neg c2, if_neg c3]
          obtain ⟨q, e, _⟩ := add_num hs (f := l[i]) (by clear hrec hdrop e1 e2 hx hs h64; unfold nan at c1; omega)
          rw [e] at hrec ⊢
          exact hrec

/-- a list's mean -/
def meanv (l : List Nat) : Nat := meanEnd (l.foldl stepm (0, 0))
theorem mean_at (l : List Nat) (hl : l.length ≤ 2 ^ 60) (hw : ∀ x ∈ l, x < 18446744073709551616) (k : Nat) (hk : l.length + 3 ≤ k) : real_Mean.f k l = some (meanv l) ∧ tabulariumref03_Mean.f k l = some (meanv l) := by
  unfold real_Mean.f tabulariumref03_Mean.f meanv
  have := mean_loop l hl hw l.length 0 0 0 k (by omega) (by omega) nan_zero (by omega) (by omega) hk
  rw [List.drop_zero] at this
  exact this

end Go.Proofs.Ytoncmgkgflomlaa.Fl
