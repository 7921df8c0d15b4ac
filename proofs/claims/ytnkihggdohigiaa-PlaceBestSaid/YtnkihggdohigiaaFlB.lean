/- What package real and its reference compute of single fractions, said by the plain facts on float64 words. -/
import Derived.Test.YtnkihggdohigiaaFl
import Derived.Test.YtnkihggdohigiaaFlA
import Derived.Test.YtnkihggdohigiaaPx3
import Derived.Test.YtnkihggdohigiaaPx4
import Derived.Test.YtnkihggdohigiaaPx1
import Derived.Test.YtnkihggdohigiaaPx14
import Derived.Test.YtnkihggdohigiaaPx11
import Derived.Test.YtnkihggdohigiaaPx17
section

namespace Go.Proofs.Ytnkihggdohigiaa.Fl
open Go.RowKit Go.Proofs.Ytnkihggdohigiaa.P Go.Proofs.Ytnkihggdohigiaa.Sp Go.Proofs.YtnkihggdohigiaaW.PrintWords Go.Proofs.YtnkihggdohigiaaW.PrintLast Go.Proofs.YtnkihggdohigiaaW.PrintMore
set_option linter.unusedVariables false

theorem isNaN_at (x : Nat) : math_IsNaN.f x = some (decide (nan x)) := by unfold math_IsNaN.f; rw [t_ne]
theorem neg_iff {x : Nat} (h : x < 18446744073709551616) : neg x = true ↔ 9223372036854775808 ≤ x := by
  unfold neg sw; rw [beq_iff_eq]; omega
theorem signbit_at {x : Nat} (h : x < 18446744073709551616) : math_Signbit.f x = some (neg x) := by
  unfold math_Signbit.f
  congr 1
  have e := neg_iff h
  by_cases c : 9223372036854775808 ≤ x
  · rw [e.2 c, decide_eq_true]; unfold wrap64; omega
  · rw [Bool.eq_false_iff.mpr (fun q => c (e.1 q)), decide_eq_false]; unfold wrap64; omega

/-- where a word stands among all -/
def rankv (x : Nat) : Nat := if nan x then 18446744073709551615 else if neg x = true then 18446744073709551615 - x else x + 9223372036854775808

theorem rank_at {x : Nat} (h : x < 18446744073709551616) : real_rank.f x = some ((rankv x : Nat) : Int) := by
  unfold real_rank.f rankv
  rw [isNaN_at]
  simp only [Option.bind_some]
  by_cases c : nan x
  · rw [if_pos (decide_eq_true c), if_pos c]; rfl
  · rw [if_neg (by rw [decide_eq_true_eq]; exact c), if_neg c, signbit_at h]
    simp only [Option.bind_some]
    have e := neg_iff h
    by_cases c2 : neg x = true
    · rw [if_pos c2, if_pos c2, u64_ones_xor (by omega) (by omega)]
      congr 1
      omega
    · rw [if_neg c2, if_neg c2]
      have hx : ¬ 9223372036854775808 ≤ x := fun q => c2 (e.2 q)
      have := u64_or_add (x := (x : Int)) (y := 1) (i := 63) (by omega) (by omega) (by omega) (by omega) (by omega)
      rw [show (1 : Int) * 2 ^ 63 = 9223372036854775808 from rfl] at this
      rw [this]
      congr 1

/-- the order of words -/
def ordv (a b : Nat) : Int := if rankv a < rankv b then -1 else if rankv b < rankv a then 1 else 0

theorem order_at {a b : Nat} (ha : a < 18446744073709551616) (hb : b < 18446744073709551616) : real_Order.f a b = some (ordv a b) := by
  unfold real_Order.f ordv
  rw [rank_at ha, rank_at hb]
  simp only [Option.bind_some]
  by_cases c : rankv a < rankv b
  · rw [if_pos (by omega), if_pos c]
  · rw [if_neg (by omega), if_neg c]
    by_cases c2 : rankv b < rankv a
    · rw [if_pos (by omega), if_pos c2]
    · rw [if_neg (by omega), if_neg c2]

theorem rank_key {a : Nat} (ha : a < 18446744073709551616) (h : ¬ nan a) : (neg a = true ∧ (rankv a : Int) = 9223372036854775807 + key a ∧ key a ≤ 0) ∨ (neg a = false ∧ (rankv a : Int) = 9223372036854775808 + key a ∧ 0 ≤ key a ∧ key a ≤ 9218868437227405312) := by
  have e := neg_iff ha
  unfold nan rung sw inf at h
  unfold rankv key rung sw
  rw [if_neg (by unfold nan rung sw inf; exact h)]
  by_cases c : neg a = true
  · left
    have := e.1 c
    rw [if_pos c, if_pos c]
    refine ⟨c, ?_, ?_⟩ <;> omega
  · right
    have : ¬ 9223372036854775808 ≤ a := fun q => c (e.2 q)
    rw [if_neg c, if_neg c]
    refine ⟨by simpa using c, ?_, ?_, ?_⟩ <;> omega

theorem rank_nan {a : Nat} (h : nan a) : rankv a = 18446744073709551615 := by unfold rankv; rw [if_pos h]
theorem rank_lt_nan {a : Nat} (ha : a < 18446744073709551616) (h : ¬ nan a) : rankv a < 18446744073709551615 := by
  rcases rank_key ha h with ⟨_, h1, h2⟩ | ⟨_, h1, h2, h3⟩ <;> omega

theorem rank_eq {a b : Nat} (ha : a < 18446744073709551616) (hb : b < 18446744073709551616) : rankv a = rankv b ↔ a = b ∨ (nan a ∧ nan b) := by
  constructor
  · intro h
    by_cases c : nan a
    · by_cases d : nan b
      · exact .inr ⟨c, d⟩
      · have := rank_nan c; have := rank_lt_nan hb d; omega
    · by_cases d : nan b
      · have := rank_nan d; have := rank_lt_nan ha c; omega
      · left
        have e1 := neg_iff ha
        have e2 := neg_iff hb
        unfold rankv at h
        rw [if_neg c, if_neg d] at h
        by_cases n1 : neg a = true
        · have := e1.1 n1
          rw [if_pos n1] at h
          by_cases n2 : neg b = true
          · rw [if_pos n2] at h; have := e2.1 n2; omega
          · rw [if_neg n2] at h; omega
        · have q1 : ¬ 9223372036854775808 ≤ a := fun q => n1 (e1.2 q)
          rw [if_neg n1] at h
          by_cases n2 : neg b = true
          · rw [if_pos n2] at h; have := e2.1 n2; omega
          · rw [if_neg n2] at h; omega
  · rintro (rfl | ⟨c, d⟩)
    · rfl
    · rw [rank_nan c, rank_nan d]

theorem rank_of_lt {a b : Nat} (ha : a < 18446744073709551616) (hb : b < 18446744073709551616) (h : num2 a b) (hk : key a < key b) : rankv a < rankv b := by
  rcases rank_key ha h.1 with ⟨_, h1, h2⟩ | ⟨_, h1, h2, h3⟩ <;> rcases rank_key hb h.2 with ⟨_, g1, g2⟩ | ⟨_, g1, g2, g3⟩ <;> omega

/-! ### held between two -/
def clampv (f lo hi : Nat) : Nat := if nan f ∨ nan lo ∨ nan hi then lo else if key f < key lo then lo else if key hi < key f then hi else f

theorem t_lt_num {x y : Nat} (h : num2 x y) : (FloatKind.f64.format.order x y == some .lt) = decide (key x < key y) := by
  by_cases c : key x < key y
  · rw [decide_eq_true c]; exact (t_lt x y).2 ⟨h, c⟩
  · rw [decide_eq_false c]; exact Bool.eq_false_iff.mpr fun q => c ((t_lt x y).1 q).2

theorem clamp_at (f lo hi k : Nat) (hk : 2 ≤ k) : real_Clamp.f k f lo hi = some (clampv f lo hi) := by
  obtain ⟨k, rfl⟩ : ∃ m, k = m + 1 := ⟨k - 1, by omega⟩
  unfold real_Clamp.f clampv
  rw [isNaN_at, isNaN_at, isNaN_at]
  simp only [Option.bind_some, real_Clamp.j0]
  by_cases c1 : nan f
  · simp [c1]
  · by_cases c2 : nan lo
    · simp [c1, c2]
    · by_cases c3 : nan hi
      · simp [c1, c2, c3]
      · rw [t_lt_num ⟨c1, c2⟩, t_lt_num ⟨c3, c1⟩]
        by_cases c4 : key f < key lo
        · simp [c1, c2, c3, c4]
        · by_cases c5 : key hi < key f
          · simp [c1, c2, c3, c4, c5]
          · simp [c1, c2, c3, c4, c5]

theorem ref_clamp_at (f lo hi k : Nat) (hk : 2 ≤ k) : tabulariumref03_Clamp.f k f lo hi = some (clampv f lo hi) := by
  obtain ⟨k, rfl⟩ : ∃ m, k = m + 1 := ⟨k - 1, by omega⟩
  unfold tabulariumref03_Clamp.f clampv
  rw [t_ne, t_ne, t_ne]
  simp only [tabulariumref03_Clamp.j0]
  by_cases c1 : nan f
  · simp [c1]
  · by_cases c2 : nan lo
    · simp [c1, c2]
    · by_cases c3 : nan hi
      · simp [c1, c2, c3]
      · rw [t_lt_num ⟨c1, c2⟩, t_lt_num ⟨c3, c1⟩]
        by_cases c4 : key f < key lo
        · simp [c1, c2, c3, c4]
        · by_cases c5 : key hi < key f
          · simp [c1, c2, c3, c4, c5]
          · simp [c1, c2, c3, c4, c5]

/-! ### how much is used -/
theorem key_zero : key 0 = 0 := by decide
theorem nan_zero : ¬ nan 0 := by decide
def one : Nat := 4607182418800017408
theorem key_one : key one = 4607182418800017408 := by decide
theorem nan_one : ¬ nan one := by decide

def sharev (u r : Nat) : Option Nat := if nan u ∨ nan r then some one else if key r ≤ 0 then some one else if key u ≤ 0 then some 0 else if key r ≤ key u then some one else FloatKind.f64.format.div u r

theorem opt_getD {o : Option Nat} : (if o.isSome = true then some (o.getD 0) else none) = o := by cases o <;> rfl

theorem t_le_num {x y : Nat} (h : num2 x y) : (FloatKind.f64.format.order x y == some .lt || FloatKind.f64.format.order x y == some .eq) = decide (key x ≤ key y) := by
  by_cases c : key x ≤ key y
  · rw [decide_eq_true c]; exact (t_le x y).2 ⟨h, c⟩
  · rw [decide_eq_false c]; exact Bool.eq_false_iff.mpr fun q => c ((t_le x y).1 q).2
theorem t_ge_num {x y : Nat} (h : num2 x y) : (FloatKind.f64.format.order x y == some .gt || FloatKind.f64.format.order x y == some .eq) = decide (key y ≤ key x) := by
  by_cases c : key y ≤ key x
  · rw [decide_eq_true c]; exact (t_ge x y).2 ⟨h, c⟩
  · rw [decide_eq_false c]; exact Bool.eq_false_iff.mpr fun q => c ((t_ge x y).1 q).2
theorem t_gt_num {x y : Nat} (h : num2 x y) : (FloatKind.f64.format.order x y == some .gt) = decide (key y < key x) := by
  by_cases c : key y < key x
  · rw [decide_eq_true c]; exact (t_gt x y).2 ⟨h, c⟩
  · rw [decide_eq_false c]; exact Bool.eq_false_iff.mpr fun q => c ((t_gt x y).1 q).2

theorem share_at (u r k : Nat) (hk : 2 ≤ k) : real_Share.f k u r = sharev u r := by
  obtain ⟨k, rfl⟩ : ∃ m, k = m + 1 := ⟨k - 1, by omega⟩
  unfold real_Share.f sharev
  rw [isNaN_at, isNaN_at]
  simp only [Option.bind_some, real_Share.j0]
  rw [opt_getD]
  by_cases c1 : nan u
  · simp [c1]; rfl
  · by_cases c2 : nan r
    · simp [c1, c2]; rfl
    · rw [t_le_num ⟨c2, nan_zero⟩, t_le_num ⟨c1, nan_zero⟩, t_ge_num ⟨c1, c2⟩, key_zero]
      by_cases c3 : key r ≤ 0
      · simp [c1, c2, c3]; rfl
      · by_cases c4 : key u ≤ 0
        · simp [c1, c2, c3, c4]
        · by_cases c5 : key r ≤ key u
          · simp [c1, c2, c3, c4, c5]; rfl
          · simp [c1, c2, c3, c4, c5]

theorem ref_share_at (u r k : Nat) (hk : 2 ≤ k) : tabulariumref03_Share.f k u r = sharev u r := by
  obtain ⟨k, rfl⟩ : ∃ m, k = m + 1 := ⟨k - 1, by omega⟩
  unfold tabulariumref03_Share.f sharev
  rw [t_ne, t_ne]
  simp only [tabulariumref03_Share.j0]
  rw [opt_getD]
  by_cases c1 : nan u
  · simp [c1]; rfl
  · by_cases c2 : nan r
    · simp [c1, c2]; rfl
    · rw [t_gt_num ⟨c2, nan_zero⟩, t_gt_num ⟨c1, nan_zero⟩, t_lt_num ⟨c1, c2⟩, key_zero]
      by_cases c3 : key r ≤ 0
      · have : ¬ 0 < key r := by omega
        simp [c1, c2, c3, this]; rfl
      · have h3 : 0 < key r := by omega
        by_cases c4 : key u ≤ 0
        · have : ¬ 0 < key u := by omega
          simp [c1, c2, c3, c4, h3, this]
        · have h4 : 0 < key u := by omega
          by_cases c5 : key r ≤ key u
          · have : ¬ key u < key r := by omega
            simp [c1, c2, c3, c4, c5, h3, h4, this]; rfl
          · have h5 : key u < key r := by omega
            simp [c1, c2, c3, c4, c5, h3, h4, h5]

theorem div_some {u r : Nat} (h1 : ¬ nan u) (h2 : ¬ nan r) (h3 : 0 < key u) (h4 : key u < key r) : ∃ q, FloatKind.f64.format.div u r = some q := by
  have n1 : neg u = false := by unfold key at h3; by_cases c : neg u = true; · rw [if_pos c] at h3; omega
                                simpa using c
  have h5 : 0 < key r := by omega
  have n2 : neg r = false := by unfold key at h5; by_cases c : neg r = true; · rw [if_pos c] at h5; omega
                                simpa using c
  unfold key at h3 h4
  rw [n1, if_neg (by decide)] at h3 h4
  rw [n2, if_neg (by decide)] at h4
  unfold nan at h1 h2
  obtain ⟨m, i, e1, v1⟩ := read_num (x := u) (by omega)
  unfold Ieee.Format.div
  rw [e1]
  by_cases c : rung r < inf
  · obtain ⟨n, j, e2, v2⟩ := read_num c
    rw [e2]
    have hn : n ≠ 0 := by
      rintro rfl
      rw [Nat.zero_mul, ← V_zero] at v2
      have := V_inj v2
      omega
    simp only [Ieee.Datum.quotient]
    rw [if_neg hn]
    exact ⟨_, rfl⟩
  · rw [read_inf (x := r) (by omega)]
    exact ⟨_, rfl⟩

theorem share_some (u r : Nat) : ∃ s, sharev u r = some s := by
  unfold sharev
  by_cases c1 : nan u ∨ nan r
  · rw [if_pos c1]; exact ⟨_, rfl⟩
  · rw [if_neg c1]
    by_cases c2 : key r ≤ 0
    · rw [if_pos c2]; exact ⟨_, rfl⟩
    · rw [if_neg c2]
      by_cases c3 : key u ≤ 0
      · rw [if_pos c3]; exact ⟨_, rfl⟩
      · rw [if_neg c3]
        by_cases c4 : key r ≤ key u
        · rw [if_pos c4]; exact ⟨_, rfl⟩
        · rw [if_neg c4]
          exact div_some (fun h => c1 (.inl h)) (fun h => c1 (.inr h)) (by omega) (by omega)

theorem same_at (x : Nat) : tabulariumref03_Same.f x x = some true := by
  unfold tabulariumref03_Same.f
  rw [t_ne]
  by_cases c : nan x <;> simp [c]

end Go.Proofs.Ytnkihggdohigiaa.Fl
end

section

namespace Go.Proofs.Ytnkihggdohigiaa.Fl
open Go.RowKit Go.Proofs.YtnkihggdohigiaaW.PrintWords
set_option linter.unusedVariables false

theorem V_one {e : Nat} (he : e = 1022) : V 4607182418800017408 = B * 2 ^ e := by
  have := V_at e B (.inr ⟨Nat.le_refl _, by have : B = 4503599627370496 := rfl; omega⟩)
  rw [← this, he]
  congr 1

theorem U_one (T : Nat) (hT : 1074 ≤ T) : U T 4607182418800017408 = 2 ^ T := by
  unfold U
  obtain ⟨e, he⟩ : ∃ e : Nat, e = 1022 := ⟨_, rfl⟩
  rw [V_one he, show B = 2 ^ 52 from rfl, ← Nat.pow_add, ← Nat.pow_add, show 52 + e + (T - 1074) = T by omega]

/-- of two positive numbers: of what sign and size the quotient is -/
theorem div_spec {u r : Nat} (h1 : ¬ nan u) (h2 : ¬ nan r) (h3 : 0 < key u) (h4 : key u < key r) :
    ∃ q, FloatKind.f64.format.div u r = some (FloatKind.f64.format.word false q) ∧ q ≤ 4607182418800017408 ∧ (q = 0 ∧ rung r = inf ∨ rung r < inf ∧ 0 < rung r ∧ Rnd TT (V (rung u) * 2 ^ TT) (V (rung r)) q) := by
  have n1 : neg u = false := by unfold key at h3; by_cases c : neg u = true; · rw [if_pos c] at h3; omega
                                simpa using c
  have h5 : 0 < key r := by omega
  have n2 : neg r = false := by unfold key at h5; by_cases c : neg r = true; · rw [if_pos c] at h5; omega
                                simpa using c
  unfold key at h3 h4
  rw [n1, if_neg (by decide)] at h3 h4
  rw [n2, if_neg (by decide)] at h4
  unfold nan at h1 h2
  by_cases c : rung r < inf
  · obtain ⟨q, e, hq⟩ := div_rnd (x := u) (y := r) (by omega) c (by omega) (by omega)
    rw [n1, n2] at e
    have hVr : 0 < V (rung r) := by have := V_lt (show 0 < rung r by omega); omega
    refine ⟨q, e, ?_, .inr ⟨c, by omega, hq⟩⟩
    refine hq.mono (Rnd.own (T := TT) (r := 4607182418800017408) (by decide)) hVr (by omega) ?_
    rw [U_one TT (by have := TT_eq; omega), Nat.mul_one, Nat.mul_comm]
    exact Nat.mul_le_mul_left _ (V_le (by omega))
  · refine ⟨0, ?_, by omega, .inl ⟨rfl, by omega⟩⟩
    obtain ⟨m, i, e1, _⟩ := read_num (x := u) (by omega)
    unfold Ieee.Format.div
    rw [e1, read_inf (x := r) (by omega), n1, n2]
    simp only [Ieee.Datum.quotient, Option.map_some, Ieee.Format.write]
    rw [nearest_zero]
    rfl

theorem one_inf : (4607182418800017408 : Nat) ≤ inf := by decide

theorem share_spec (u r : Nat) : ∃ s, sharev u r = some s ∧ ¬ nan s ∧ 0 ≤ key s ∧ key s ≤ 4607182418800017408 := by
  unfold sharev
  by_cases c1 : nan u ∨ nan r
  · rw [if_pos c1]; exact ⟨_, rfl, nan_one, by rw [key_one]; omega, by rw [key_one]; omega⟩
  · rw [if_neg c1]
    by_cases c2 : key r ≤ 0
    · rw [if_pos c2]; exact ⟨_, rfl, nan_one, by rw [key_one]; omega, by rw [key_one]; omega⟩
    · rw [if_neg c2]
      by_cases c3 : key u ≤ 0
      · rw [if_pos c3]; exact ⟨_, rfl, nan_zero, by rw [key_zero]; omega, by rw [key_zero]; omega⟩
      · rw [if_neg c3]
        by_cases c4 : key r ≤ key u
        · rw [if_pos c4]; exact ⟨_, rfl, nan_one, by rw [key_one]; omega, by rw [key_one]; omega⟩
        · rw [if_neg c4]
          obtain ⟨q, e, hq, _⟩ := div_spec (fun h => c1 (.inl h)) (fun h => c1 (.inr h)) (show 0 < key u by omega) (show key u < key r by omega)
          have := one_inf
          refine ⟨_, e, nan_word _ _ (by omega), ?_, ?_⟩
          · rw [key_word _ _ (by omega)]; unfold sg; rw [if_neg (by decide)]; omega
          · rw [key_word _ _ (by omega)]; unfold sg; rw [if_neg (by decide)]; omega

theorem share_mono {u m r s t : Nat} (hn : num2 u m) (hk : key u ≤ key m) (hs : sharev u r = some s) (ht : sharev m r = some t) : key s ≤ key t := by
  obtain ⟨s', e1, _, s0, s1⟩ := share_spec u r
  obtain ⟨t', e2, _, t0, t1⟩ := share_spec m r
  rw [hs] at e1
  rw [ht] at e2
  obtain rfl := Option.some.inj e1
  obtain rfl := Option.some.inj e2
  unfold sharev at hs ht
  by_cases c1 : nan r
  · rw [if_pos (.inr c1)] at hs ht
    obtain rfl := Option.some.inj hs
    obtain rfl := Option.some.inj ht
    omega
  · have q1 : ¬ (nan u ∨ nan r) := fun h => h.elim hn.1 c1
    have q2 : ¬ (nan m ∨ nan r) := fun h => h.elim hn.2 c1
    rw [if_neg q1] at hs
    rw [if_neg q2] at ht
    by_cases c2 : key r ≤ 0
    · rw [if_pos c2] at hs ht
      obtain rfl := Option.some.inj hs
      obtain rfl := Option.some.inj ht
      omega
    · rw [if_neg c2] at hs ht
      by_cases c3 : key u ≤ 0
      · rw [if_pos c3] at hs
        obtain rfl := Option.some.inj hs
        rw [key_zero]; exact t0
      · rw [if_neg c3] at hs
        rw [if_neg (by omega)] at ht
        by_cases c5 : key r ≤ key m
        · rw [if_pos c5] at ht
          obtain rfl := Option.some.inj ht
          rw [key_one]; exact s1
        · rw [if_neg c5] at ht
          rw [if_neg (by omega)] at hs
          obtain ⟨q, e3, hq, hr⟩ := div_spec hn.1 c1 (show 0 < key u by omega) (show key u < key r by omega)
          obtain ⟨q', e4, hq', hr'⟩ := div_spec hn.2 c1 (show 0 < key m by omega) (show key m < key r by omega)
          rw [hs] at e3
          rw [ht] at e4
          have es := Option.some.inj e3
          have et := Option.some.inj e4
          have := one_inf
          rw [es, et, key_word _ _ (by omega), key_word _ _ (by omega)]
          unfold sg
          rw [if_neg (by decide), if_neg (by decide)]
          rcases hr with ⟨rfl, _⟩ | ⟨h1, h2, h3⟩
          · omega
          · rcases hr' with ⟨_, h4⟩ | ⟨_, _, h5⟩
            · omega
            · have hVr : 0 < V (rung r) := by have := V_lt h2; omega
              have hv : V (rung u) ≤ V (rung m) := by
                refine V_le ?_
                have a1 : neg u = false := by by_cases c : neg u = true; · unfold key at c3; rw [if_pos c] at c3; omega
                                              simpa using c
                have a2 : neg m = false := by by_cases c : neg m = true; · unfold key at c3 hk; rw [if_pos c] at hk; split at hk <;> split at c3 <;> simp_all <;> omega
                                              simpa using c
                unfold key at hk
                rw [a1, a2, if_neg (by decide), if_neg (by decide)] at hk
                omega
              have := h3.mono h5 hVr hVr (Nat.mul_le_mul_right _ (Nat.mul_le_mul_right _ hv))
              omega

end Go.Proofs.Ytnkihggdohigiaa.Fl
end
