/- Plain facts on rounding to float64: what the nearest word is, said by neighbours; with more it is no less; what a word stands for is its own nearest. No program in sight. -/
import Derived.Test.YtabgoiacjfekpaaFl
namespace Go.Proofs.Ytabgoiacjfekpaa.Fl
open Go.RowKit Go.Proofs.YtabgoiacjfekpaaW.PrintWords
set_option linter.unusedVariables false

theorem V_at (e c : Nat) (h : (e = 0 ∧ c ≤ 2 * B) ∨ (B ≤ c ∧ c ≤ 2 * B)) : V (e * B + c) = c * 2 ^ e := by
  unfold V
  have hB : B = 4503599627370496 := rfl
  by_cases h1 : e * B + c < B
  · rw [if_pos h1]
    have : e = 0 := by
      rcases h with ⟨h, _⟩ | ⟨h, _⟩
      · exact h
      · omega
    subst this
    omega
  · rw [if_neg h1]
    by_cases h2 : c = 2 * B
    · subst h2
      have e1 : (e * B + 2 * B) / B = e + 2 := by rw [← Nat.add_mul, Nat.mul_div_cancel _ (by omega)]
      have e2 : (e * B + 2 * B) % B = 0 := by rw [← Nat.add_mul, Nat.mul_mod_left]
      rw [e1, e2, show e + 2 - 1 = e + 1 by omega, Nat.pow_succ, Nat.add_zero, Nat.mul_comm 2 B, Nat.mul_assoc, Nat.mul_comm 2 (2 ^ e)]
    · have hc : B ≤ c ∧ c < 2 * B := by
        rcases h with ⟨rfl, h⟩ | h
        · omega
        · omega
      have e1 : (e * B + c) / B = e + 1 := by
        rw [show e * B + c = (c - B) + B * (e + 1) by rw [Nat.mul_add, Nat.mul_comm B e]; omega, Nat.add_mul_div_left _ _ (by omega), Nat.div_eq_of_lt (by omega)]
        omega
      have e2 : (e * B + c) % B = c - B := by
        rw [show e * B + c = (c - B) + B * (e + 1) by rw [Nat.mul_add, Nat.mul_comm B e]; omega, Nat.add_mul_mod_self_left, Nat.mod_eq_of_lt (by omega)]
      rw [e1, e2, show e + 1 - 1 = e by omega, show B + (c - B) = c by omega]

/-- a whole number of units, half of a unit told to the even one -/
theorem cut_spec (s : Bool) (n d : Nat) : ∃ c, Ieee.Toward.even.cut s n d = c ∧ 2 * c * 2 ^ d ≤ 2 * n + 2 ^ d ∧ (2 * c * 2 ^ d = 2 * n + 2 ^ d → c % 2 = 0) ∧ 2 * n ≤ 2 * c * 2 ^ d + 2 ^ d ∧ (2 * n = 2 * c * 2 ^ d + 2 ^ d → c % 2 = 0) := by
  unfold Ieee.Toward.cut
  simp only [Nat.shiftLeft_eq, Nat.one_mul]
  by_cases h : d ≤ n.log2 + 2
  · rw [Nat.min_eq_left h]
    have hg : 0 < 2 ^ d := Nat.pow_pos (by omega)
    have hdm := Nat.div_add_mod n (2 ^ d)
    have hlt := Nat.mod_lt n hg
    generalize 2 ^ d = g at *
    generalize n / g = q at *
    generalize n % g = r at *
    have e0 : 2 * q * g = 2 * (g * q) := by rw [Nat.mul_assoc, Nat.mul_comm q g]
    have e1 : 2 * (q + 1) * g = 2 * (g * q) + 2 * g := by rw [Nat.mul_assoc, Nat.add_mul, Nat.mul_comm q g, Nat.mul_add, Nat.one_mul]
    by_cases c1 : g < 2 * r
    · refine ⟨q + 1, by simp [c1], ?_⟩
      rw [e1]
      refine ⟨?_, ?_, ?_, ?_⟩ <;> omega
    · by_cases c2 : g = 2 * r ∧ q % 2 = 1
      · refine ⟨q + 1, by simp [c2.1, c2.2], ?_⟩
        rw [e1]
        refine ⟨?_, ?_, ?_, ?_⟩ <;> omega
      · refine ⟨q, ?_, ?_⟩
        · by_cases c3 : g = 2 * r
          · have : q % 2 = 0 := by
              by_cases c4 : q % 2 = 1
              · exact absurd ⟨c3, c4⟩ c2
              · omega
            simp [c3, this]
          · simp [c1, c3]
        · rw [e0]
          refine ⟨?_, ?_, ?_, ?_⟩
          · omega
          · omega
          · omega
          · intro h4
            by_cases c4 : q % 2 = 1
            · exact absurd ⟨by omega, c4⟩ c2
            · omega
  · rw [Nat.min_eq_right (by omega)]
    refine ⟨0, ?_, ?_⟩
    · have hn : n < 2 ^ (n.log2 + 1) := Nat.lt_log2_self
      have hp : 2 ^ (n.log2 + 2) = 2 * 2 ^ (n.log2 + 1) := by rw [Nat.pow_succ]; omega
      rw [Nat.div_eq_of_lt (by omega), Nat.mod_eq_of_lt (by omega)]
      have c1 : ¬ 2 ^ (n.log2 + 2) < 2 * n := by omega
      simp [c1]
    · have hn : n < 2 ^ (n.log2 + 1) := Nat.lt_log2_self
      have hp : 2 ^ (n.log2 + 1) * 2 ≤ 2 ^ d := by rw [← Nat.pow_succ]; exact Nat.pow_le_pow_right (by omega) (by omega)
      refine ⟨?_, ?_, ?_, ?_⟩ <;> omega

/-- a rung's number, in units of '2 ^ -T' -/
def U (T r : Nat) : Nat := V r * 2 ^ (T - 1074)
theorem U_lt {T a b : Nat} (h : a < b) : U T a < U T b := Nat.mul_lt_mul_of_pos_right (V_lt h) (Nat.pow_pos (by omega))
theorem U_le {T a b : Nat} (h : a ≤ b) : U T a ≤ U T b := Nat.mul_le_mul_right _ (V_le h)

/-- r is the rung nearest to 'N / D' units -/
def Rnd (T N D r : Nat) : Prop := r ≤ inf ∧ (r < inf → 2 * N ≤ (U T r + U T (r + 1)) * D ∧ (2 * N = (U T r + U T (r + 1)) * D → r % 2 = 0)) ∧
  (0 < r → (U T (r - 1) + U T r) * D ≤ 2 * N ∧ ((U T (r - 1) + U T r) * D = 2 * N → r % 2 = 0))

/-- with more it is no less -/
theorem Rnd.mono {T N D r N' D' r' : Nat} (h : Rnd T N D r) (h' : Rnd T N' D' r') (hD : 0 < D) (hD' : 0 < D') (hq : N * D' ≤ N' * D) : r ≤ r' := by
  obtain ⟨a1, a2, a3⟩ := h
  obtain ⟨b1, b2, b3⟩ := h'
  refine Nat.le_of_not_lt fun hlt => ?_
  obtain ⟨p1, p2⟩ := a3 (by omega)
  obtain ⟨q1, q2⟩ := b2 (by omega)
  -- U(r-1) + U(r) over D is at most 2N; 2N' is at most U(r') + U(r'+1) over D'
  have m1 : U T r' ≤ U T (r - 1) := U_le (by omega)
  have m2 : U T (r' + 1) ≤ U T r := U_le (by omega)
  have h1 : (U T (r - 1) + U T r) * D * D' ≤ 2 * N * D' := Nat.mul_le_mul_right _ p1
  have h2 : 2 * N' * D ≤ (U T r' + U T (r' + 1)) * D' * D := Nat.mul_le_mul_right _ q1
  have h3 : 2 * N * D' ≤ 2 * N' * D := by rw [Nat.mul_assoc, Nat.mul_assoc]; omega
  have h4 : (U T r' + U T (r' + 1)) * D' * D ≤ (U T (r - 1) + U T r) * D * D' := by
    rw [Nat.mul_assoc, Nat.mul_assoc, Nat.mul_comm D' D]
    exact Nat.mul_le_mul_right _ (by omega)
  have e1 : (U T (r - 1) + U T r) * D = 2 * N := Nat.eq_of_mul_eq_mul_right hD' (by omega)
  have e2 : 2 * N' = (U T r' + U T (r' + 1)) * D' := Nat.eq_of_mul_eq_mul_right hD (by omega)
  have z1 := p2 e1
  have z2 := q2 e2
  by_cases c : r = r' + 1
  · omega
  · have m3 : U T (r' + 1) < U T r := U_lt (by omega)
    have : (U T r' + U T (r' + 1)) * (D' * D) < (U T (r - 1) + U T r) * (D' * D) := Nat.mul_lt_mul_of_pos_right (by omega) (Nat.mul_pos hD' hD)
    have e3 : (U T r' + U T (r' + 1)) * D' * D = (U T r' + U T (r' + 1)) * (D' * D) := Nat.mul_assoc ..
    have e4 : (U T (r - 1) + U T r) * D * D' = (U T (r - 1) + U T r) * (D' * D) := by rw [Nat.mul_assoc, Nat.mul_comm D D']
    omega

/-- a rung's own number -/
theorem Rnd.own {T r : Nat} (h : r ≤ inf) : Rnd T (U T r) 1 r := by
  refine ⟨h, fun _ => ?_, fun h0 => ?_⟩
  · have := U_lt (T := T) (show r < r + 1 by omega)
    exact ⟨by omega, fun h => by omega⟩
  · have := U_lt (T := T) (show r - 1 < r by omega)
    exact ⟨by omega, fun h => by omega⟩

theorem Rnd.scale {T N D r c : Nat} (hc : 0 < c) (h : Rnd T (N * c) (D * c) r) : Rnd T N D r := by
  obtain ⟨a1, a2, a3⟩ := h
  refine ⟨a1, fun hr => ?_, fun hr => ?_⟩
  · obtain ⟨p, q⟩ := a2 hr
    rw [← Nat.mul_assoc, ← Nat.mul_assoc] at p q
    exact ⟨Nat.le_of_mul_le_mul_right p hc, fun h => q (by rw [h])⟩
  · obtain ⟨p, q⟩ := a3 hr
    rw [← Nat.mul_assoc, ← Nat.mul_assoc] at p q
    exact ⟨Nat.le_of_mul_le_mul_right p hc, fun h => q (by rw [h])⟩

/-- the nearest word, in natural numbers -/
theorem nearest_nat (s : Bool) (mag k T : Nat) (hm : mag ≠ 0) :
    FloatKind.f64.format.nearest s mag ((k : Int) - T) = FloatKind.f64.format.word s (min (((k + mag.log2 + 1074) - (T + 52)) * B + Ieee.Toward.even.cut s (mag <<< ((1074 + k) - (((k + mag.log2 + 1074) - (T + 52)) + T))) ((((k + mag.log2 + 1074) - (T + 52)) + T) - (1074 + k))) inf) := by
  unfold Ieee.Format.nearest
  rw [if_neg hm]
  simp only [f_binade, f_inf, f_least]
  have hf : ((FloatKind.f64.format.fractionBits : Nat) : Int) = 52 := rfl
  rw [hf]
  generalize mag.log2 = L
  have hl : max ((k : Int) - T + (L : Int) - 52) (-1074) = (((k + L + 1074) - (T + 52) : Nat) : Int) - 1074 := by omega
  rw [hl]
  generalize (k + L + 1074) - (T + 52) = e
  have q1 : (((e : Nat) : Int) - 1074 - -1074).toNat = e := by omega
  have q2 : ((k : Int) - T - (((e : Nat) : Int) - 1074)).toNat = (1074 + k) - (e + T) := by omega
  have q3 : ((((e : Nat) : Int) - 1074) - ((k : Int) - T)).toNat = (e + T) - (1074 + k) := by omega
  rw [q1, q2, q3]

theorem V_up (e c : Nat) (h : (e = 0 ∧ c ≤ 2 * B) ∨ (B ≤ c ∧ c ≤ 2 * B)) : (c + 1) * 2 ^ e ≤ V (e * B + c + 1) ∧ (c < 2 * B → V (e * B + c + 1) = (c + 1) * 2 ^ e) := by
  have hB : B = 4503599627370496 := rfl
  by_cases c1 : c < 2 * B
  · have := V_at e (c + 1) (by omega)
    rw [← Nat.add_assoc] at this
    exact ⟨by omega, fun _ => this⟩
  · have hc : c = 2 * B := by omega
    have := V_at (e + 1) (B + 1) (by omega)
    rw [show (e + 1) * B + (B + 1) = e * B + c + 1 by rw [Nat.add_mul]; omega, Nat.pow_succ] at this
    refine ⟨?_, fun h => by omega⟩
    rw [this, hc]
    have : (B + 1) * (2 ^ e * 2) = (2 * B + 2) * 2 ^ e := by rw [Nat.mul_comm (2 ^ e) 2, ← Nat.mul_assoc]; congr 1
    rw [this]
    exact Nat.mul_le_mul_right _ (by omega)

theorem V_down (e c : Nat) (h : (e = 0 ∧ c ≤ 2 * B) ∨ (B ≤ c ∧ c ≤ 2 * B)) (h1 : ¬ (e ≠ 0 ∧ c = B)) (h0 : 0 < c) : V (e * B + c - 1) = (c - 1) * 2 ^ e := by
  have := V_at e (c - 1) (by omega)
  rw [← this]
  congr 1
  omega

theorem word_min {T N D r0 : Nat} (hD : 0 < D) (ha : 2 * N ≤ (U T r0 + U T (r0 + 1)) * D ∧ (2 * N = (U T r0 + U T (r0 + 1)) * D → r0 % 2 = 0))
    (hb : 0 < r0 → (U T (r0 - 1) + U T r0) * D ≤ 2 * N ∧ ((U T (r0 - 1) + U T r0) * D = 2 * N → r0 % 2 = 0)) : Rnd T N D (min r0 inf) := by
  by_cases c : r0 ≤ inf
  · rw [Nat.min_eq_left c]
    exact ⟨c, fun _ => ha, hb⟩
  · rw [Nat.min_eq_right (by omega)]
    refine ⟨Nat.le_refl _, fun h => absurd h (Nat.lt_irrefl _), fun h => ?_⟩
    obtain ⟨p, _⟩ := hb (by omega)
    have m1 : U T (inf - 1) ≤ U T (r0 - 1) := U_le (by omega)
    have m2 : U T inf < U T r0 := U_lt (by omega)
    have : (U T (inf - 1) + U T inf) * D < (U T (r0 - 1) + U T r0) * D := Nat.mul_lt_mul_of_pos_right (by omega) hD
    exact ⟨by omega, fun h => by omega⟩

theorem nearest_rnd (s : Bool) (mag k T N D : Nat) (ex : Prop) (hm : mag ≠ 0) (hT : 1074 ≤ T) (hD : 0 < D)
    (hH : ∀ j, (ex ∨ j % 2 = 0) → ((mag ≤ j ↔ N ≤ j * 2 ^ k * D) ∧ (j ≤ mag ↔ j * 2 ^ k * D ≤ N)))
    (hd : ex ∨ 1074 + k + 2 ≤ ((k + mag.log2 + 1074) - (T + 52)) + T) :
    ∃ r, FloatKind.f64.format.nearest s mag ((k : Int) - T) = FloatKind.f64.format.word s r ∧ Rnd T N D r := by
  have hB : B = 4503599627370496 := rfl
  have hlo : 2 ^ mag.log2 ≤ mag := Nat.log2_self_le hm
  have hhi : mag < 2 ^ (mag.log2 + 1) := Nat.lt_log2_self
  refine ⟨_, nearest_nat s mag k T hm, ?_⟩
  generalize mag.log2 = L at *
  obtain ⟨e, he⟩ : ∃ e, e = (k + L + 1074) - (T + 52) := ⟨_, rfl⟩
  rw [← he] at hd ⊢
  by_cases hd0 : e + T ≤ 1074 + k
  · -- nothing is dropped
    have hex : ex := hd.elim id (fun h => absurd h (by omega))
    rw [show (e + T) - (1074 + k) = 0 by omega]
    obtain ⟨up, hup⟩ : ∃ up, up = (1074 + k) - (e + T) := ⟨_, rfl⟩
    rw [← hup, Nat.shiftLeft_eq]
    obtain ⟨c, ec, c1, _, c3, _⟩ := cut_spec s (mag * 2 ^ up) 0
    rw [ec]
    obtain rfl : c = mag * 2 ^ up := by omega
    have hN : N = mag * 2 ^ k * D := by
      have h1 := (hH mag (.inl hex)).1.1 (Nat.le_refl _)
      have h2 := (hH mag (.inl hex)).2.1 (Nat.le_refl _)
      omega
    have hr : (e = 0 ∧ mag * 2 ^ up ≤ 2 * B) ∨ (B ≤ mag * 2 ^ up ∧ mag * 2 ^ up ≤ 2 * B) := by
      have hx : mag * 2 ^ up < 2 ^ (L + 1 + up) := by rw [Nat.pow_add]; exact Nat.mul_lt_mul_of_pos_right hhi (Nat.pow_pos (by omega))
      have hy : 2 ^ (L + up) ≤ mag * 2 ^ up := by rw [Nat.pow_add]; exact Nat.mul_le_mul_right _ hlo
      have hz : 2 ^ (L + 1 + up) ≤ 2 ^ 53 := Nat.pow_le_pow_right (by omega) (by omega)
      by_cases e0 : e = 0
      · left; exact ⟨e0, by omega⟩
      · right
        have : L + up = 52 := by omega
        rw [this] at hy
        omega
    have hv := V_at e (mag * 2 ^ up) hr
    have hU : U T (e * B + mag * 2 ^ up) * D = N := by
      unfold U
      have hq : mag * 2 ^ up * 2 ^ e * 2 ^ (T - 1074) = mag * 2 ^ k := by rw [Nat.mul_assoc, Nat.mul_assoc, ← Nat.pow_add, ← Nat.pow_add, show up + (e + (T - 1074)) = k by omega]
      rw [hv, hN, hq]
    refine word_min hD ⟨?_, ?_⟩ fun h0 => ⟨?_, ?_⟩
    · have := U_lt (T := T) (show e * B + mag * 2 ^ up < e * B + mag * 2 ^ up + 1 by omega)
      have := Nat.mul_lt_mul_of_pos_right this hD
      rw [Nat.add_mul]
      omega
    · have := U_lt (T := T) (show e * B + mag * 2 ^ up < e * B + mag * 2 ^ up + 1 by omega)
      have := Nat.mul_lt_mul_of_pos_right this hD
      rw [Nat.add_mul]
      intro h; omega
    · have := U_lt (T := T) (show e * B + mag * 2 ^ up - 1 < e * B + mag * 2 ^ up by omega)
      have := Nat.mul_lt_mul_of_pos_right this hD
      rw [Nat.add_mul]
      omega
    · have := U_lt (T := T) (show e * B + mag * 2 ^ up - 1 < e * B + mag * 2 ^ up by omega)
      have := Nat.mul_lt_mul_of_pos_right this hD
      rw [Nat.add_mul]
      intro h; omega
  · -- d + 1 digits are dropped
    rw [show (1074 + k) - (e + T) = 0 by omega, Nat.shiftLeft_zero]
    obtain ⟨d, hdd⟩ : ∃ d, d + 1 = (e + T) - (1074 + k) := ⟨(e + T) - (1074 + k) - 1, by omega⟩
    rw [← hdd]
    obtain ⟨c, ec, c1, c2, c3, c4⟩ := cut_spec s mag (d + 1)
    rw [ec]
    have hp : 2 ^ (d + 1) = 2 * 2 ^ d := by rw [Nat.pow_succ]; omega
    have hp0 : 0 < 2 ^ d := Nat.pow_pos (by omega)
    rw [hp] at c1 c2 c3 c4
    obtain ⟨Z, hZ⟩ : ∃ Z, Z = c * 2 ^ d := ⟨_, rfl⟩
    have z1 : 2 * c * (2 * 2 ^ d) = 4 * Z := by rw [hZ, Nat.mul_assoc, Nat.mul_left_comm c]; omega
    rw [z1] at c1 c2 c3 c4
    have hr : (e = 0 ∧ c ≤ 2 * B) ∨ (B ≤ c ∧ c ≤ 2 * B) := by
      have hx : 2 ^ (L + 1) ≤ 2 ^ 53 * (2 * 2 ^ d) := by
        rw [← hp, ← Nat.pow_add]; exact Nat.pow_le_pow_right (by omega) (by omega)
      have hc : c ≤ 2 * B := by
        refine Nat.le_of_not_lt fun h => ?_
        rw [hB] at h
        have : 9007199254740993 * 2 ^ d ≤ c * 2 ^ d := Nat.mul_le_mul_right _ (by omega)
        omega
      by_cases e0 : e = 0
      · exact .inl ⟨e0, hc⟩
      · right
        refine ⟨?_, hc⟩
        have hL : L = 52 + (d + 1) := by omega
        have hy : 2 ^ 52 * (2 * 2 ^ d) ≤ mag := by rw [← hp, ← Nat.pow_add, ← hL]; exact hlo
        refine Nat.le_of_not_lt fun h => ?_
        rw [hB] at h
        have : c * 2 ^ d ≤ 4503599627370495 * 2 ^ d := Nat.mul_le_mul_right _ (by omega)
        omega
    have hpar : (e * B + c) % 2 = c % 2 := by
      have : e * B = 2 * (e * 2251799813685248) := by rw [hB]; omega
      omega
    -- in multiples of X: half a unit times D
    obtain ⟨X, hX⟩ : ∃ X, X = 2 ^ d * 2 ^ k * D := ⟨_, rfl⟩
    have hG : 2 ^ e * 2 ^ (T - 1074) = 2 * (2 ^ d * 2 ^ k) := by
      rw [← Nat.pow_add, ← Nat.pow_add, Nat.mul_comm 2, ← Nat.pow_succ, show e + (T - 1074) = d + k + 1 by omega]
    have hUc : ∀ a : Nat, a * 2 ^ e * 2 ^ (T - 1074) * D = a * (2 * X) := by
      intro a
      rw [Nat.mul_assoc a, hG, hX, Nat.mul_assoc a, Nat.mul_assoc 2]
    have hj : ∀ a : Nat, a * 2 ^ d * 2 ^ k * D = a * X := by
      intro a
      rw [hX, Nat.mul_assoc a, Nat.mul_assoc a]
    have hXpos : 0 < X := by rw [hX]; exact Nat.mul_pos (Nat.mul_pos hp0 (Nat.pow_pos (by omega))) hD
    have hok : ∀ a : Nat, ex ∨ (a * 2 ^ d) % 2 = 0 := by
      intro a
      rcases hd with h | h
      · exact .inl h
      · right
        obtain ⟨f, rfl⟩ : ∃ f, d = f + 1 := ⟨d - 1, by omega⟩
        rw [Nat.pow_succ, ← Nat.mul_assoc, Nat.mul_mod_left]
    have hu0 : U T (e * B + c) * D = c * (2 * X) := by unfold U; rw [V_at e c hr, hUc]
    obtain ⟨v1, v2⟩ := V_up e c hr
    have hu1 : (c + 1) * (2 * X) ≤ U T (e * B + c + 1) * D := by
      rw [← hUc]
      unfold U
      exact Nat.mul_le_mul_right _ (Nat.mul_le_mul_right _ v1)
    have hu1' : c < 2 * B → U T (e * B + c + 1) * D = (c + 1) * (2 * X) := fun h => by
      rw [← hUc]
      unfold U
      rw [v2 h]
    obtain ⟨Y, hY⟩ : ∃ Y, Y = c * X := ⟨_, rfl⟩
    have y1 : c * (2 * X) = 2 * Y := by rw [hY, Nat.mul_left_comm]
    have y2 : (c + 1) * (2 * X) = 2 * Y + 2 * X := by rw [Nat.add_mul, y1]; omega
    have y3 : (2 * c + 1) * X = 2 * Y + X := by rw [Nat.add_mul, hY, Nat.mul_assoc]; omega
    have z3 : (2 * c + 1) * 2 ^ d = 2 * Z + 2 ^ d := by rw [Nat.add_mul, hZ, Nat.mul_assoc]; omega
    refine word_min hD ⟨?_, ?_⟩ fun h0 => ?_
    · have h1 := (hH ((2 * c + 1) * 2 ^ d) (hok _)).1.1 (by rw [z3]; omega)
      rw [hj, y3] at h1
      rw [Nat.add_mul, hu0, y1]
      omega
    · intro heq
      rw [hpar]
      by_cases cb : c < 2 * B
      · rw [Nat.add_mul, hu0, hu1' cb, y1, y2] at heq
        have h1 := (hH ((2 * c + 1) * 2 ^ d) (hok _)).2.2 (by rw [hj, y3]; omega)
        rw [z3] at h1
        exact c4 (by omega)
      · omega
    · by_cases cb : e ≠ 0 ∧ c = B
      · -- the least of a binade: the number is not below it
        have hL : L = 52 + (d + 1) := by omega
        have hy : (2 * c) * 2 ^ d ≤ mag := by
          rw [cb.2, hB, show 2 * 4503599627370496 = 2 ^ 53 by decide, ← Nat.pow_add, show 53 + d = L by omega]
          exact hlo
        have h1 := (hH ((2 * c) * 2 ^ d) (hok _)).2.1 hy
        rw [hj, Nat.mul_assoc, ← hY] at h1
        have := U_lt (T := T) (show e * B + c - 1 < e * B + c by omega)
        have := Nat.mul_lt_mul_of_pos_right this hD
        rw [hu0, y1] at this
        rw [Nat.add_mul, hu0, y1]
        exact ⟨by omega, fun h => by omega⟩
      · by_cases hc0 : c = 0
        · subst hc0
          exfalso
          rcases hr with ⟨h, _⟩ | ⟨h, _⟩
          · rw [h] at h0; omega
          · omega
        · have hdn := V_down e c hr cb (by omega)
          have hu2 : U T (e * B + c - 1) * D = (c - 1) * (2 * X) := by unfold U; rw [hdn, hUc]
          have y4 : (c - 1) * (2 * X) + 2 * X = 2 * Y := by
            rw [← y1]
            obtain ⟨f, rfl⟩ : ∃ f, c = f + 1 := ⟨c - 1, by omega⟩
            rw [Nat.add_sub_cancel, Nat.add_mul]; omega
          have y5 : (2 * c - 1) * X + X = 2 * Y := by
            obtain ⟨f, rfl⟩ : ∃ f, c = f + 1 := ⟨c - 1, by omega⟩
            rw [show 2 * (f + 1) - 1 = 2 * f + 1 by omega, hY, Nat.add_mul, Nat.add_mul, Nat.mul_assoc]; omega
          have z5 : (2 * c - 1) * 2 ^ d + 2 ^ d = 2 * Z := by
            obtain ⟨f, rfl⟩ : ∃ f, c = f + 1 := ⟨c - 1, by omega⟩
            rw [show 2 * (f + 1) - 1 = 2 * f + 1 by omega, hZ, Nat.add_mul, Nat.add_mul, Nat.mul_assoc]; omega
          have h1 := (hH ((2 * c - 1) * 2 ^ d) (hok _)).2.1 (by omega)
          rw [hj] at h1
          rw [Nat.add_mul, hu0, hu2, y1]
          refine ⟨by omega, fun heq => ?_⟩
          rw [hpar]
          have h2 := (hH ((2 * c - 1) * 2 ^ d) (hok _)).1.2 (by rw [hj]; omega)
          exact c2 (by omega)

end Go.Proofs.Ytabgoiacjfekpaa.Fl
