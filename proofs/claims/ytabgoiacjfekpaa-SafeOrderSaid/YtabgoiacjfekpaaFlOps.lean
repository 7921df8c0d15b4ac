/- Plain facts on products, quotients and whole numbers as float64 words: each is the nearest one to the exact result. No program in sight. -/
import Derived.Test.YtabgoiacjfekpaaRnd
namespace Go.Proofs.Ytabgoiacjfekpaa.Fl
open Go.RowKit Go.Proofs.YtabgoiacjfekpaaW.PrintWords
set_option linter.unusedVariables false

theorem read_fin {x : Nat} (h : rung x < inf) : ∃ m : Nat, ∃ up : Nat, FloatKind.f64.format.read x = .number (neg x) m ((up : Int) - 1074) ∧ m * 2 ^ up = V (rung x) ∧ m < 9007199254740992 ∧ up ≤ 2045 := by
  unfold Ieee.Format.read
  simp only [f_binade, f_inf, f_sw, f_least]
  show ∃ m up, (if rung x < B then _ else _) = _ ∧ _
  unfold V
  have hB : B = 4503599627370496 := rfl
  by_cases c : rung x < B
  · rw [if_pos c]
    exact ⟨rung x, 0, rfl, by rw [if_pos c]; omega, by omega, by omega⟩
  · rw [if_neg c, if_pos (show x % sw < inf from h)]
    refine ⟨B + rung x % B, rung x / B - 1, ?_, by rw [if_neg c], ?_, ?_⟩
    · have e : (-1074 : Int) + ((rung x / B - 1 : Nat) : Int) = ((rung x / B - 1 : Nat) : Int) - 1074 := by omega
      rw [← e]
      rfl
    · have := Nat.mod_lt (rung x) (show 0 < B by omega)
      omega
    · unfold inf at h
      rw [hB]
      omega

theorem word_pos (r : Nat) (h : r ≤ inf) : rung (FloatKind.f64.format.word false r) = r ∧ neg (FloatKind.f64.format.word false r) = false := by
  unfold Ieee.Format.word rung neg sw
  unfold inf at h
  rw [if_neg (by decide)]
  refine ⟨by omega, ?_⟩
  rw [show r / 9223372036854775808 = 0 by omega]; rfl
theorem word_neg (r : Nat) (h : r ≤ inf) : rung (FloatKind.f64.format.word true r) = r ∧ neg (FloatKind.f64.format.word true r) = true := by
  unfold Ieee.Format.word rung neg
  rw [if_pos rfl, f_sw]
  unfold inf at h
  unfold sw
  refine ⟨by omega, ?_⟩
  rw [show (9223372036854775808 + r) / 9223372036854775808 = 1 by omega]; rfl
theorem word_at (s : Bool) (r : Nat) (h : r ≤ inf) : rung (FloatKind.f64.format.word s r) = r ∧ neg (FloatKind.f64.format.word s r) = s := by
  cases s
  · exact word_pos r h
  · exact word_neg r h
theorem key_word (s : Bool) (r : Nat) (h : r ≤ inf) : key (FloatKind.f64.format.word s r) = sg s r := by
  rw [key_sg, (word_at s r h).1, (word_at s r h).2]
theorem nan_word (s : Bool) (r : Nat) (h : r ≤ inf) : ¬ nan (FloatKind.f64.format.word s r) := by
  unfold nan; rw [(word_at s r h).1]; omega

theorem rnd_zero (T : Nat) (D : Nat) (hD : 0 < D) : Rnd T 0 D 0 := by
  refine ⟨by decide, fun _ => ⟨by omega, fun h => rfl⟩, fun h => absurd h (by omega)⟩

theorem nearest_zero (s : Bool) (p : Int) : FloatKind.f64.format.nearest s 0 p = FloatKind.f64.format.word s 0 := by
  unfold Ieee.Format.nearest; rw [if_pos rfl]

/-- an exact number of units -/
theorem nearest_exact (s : Bool) (mag k T : Nat) (hT : 1074 ≤ T) : ∃ r, FloatKind.f64.format.nearest s mag ((k : Int) - T) = FloatKind.f64.format.word s r ∧ Rnd T (mag * 2 ^ k) 1 r := by
  by_cases h : mag = 0
  · subst h
    refine ⟨0, nearest_zero s _, ?_⟩
    rw [Nat.zero_mul]; exact rnd_zero T 1 (by omega)
  · refine nearest_rnd s mag k T (mag * 2 ^ k) 1 True h hT (by omega) (fun j _ => ?_) (.inl trivial)
    have hp : 0 < 2 ^ k := Nat.pow_pos (by omega)
    rw [Nat.mul_one]
    exact ⟨⟨fun h => Nat.mul_le_mul_right _ h, fun h => Nat.le_of_mul_le_mul_right h hp⟩, ⟨fun h => Nat.mul_le_mul_right _ h, fun h => Nat.le_of_mul_le_mul_right h hp⟩⟩

theorem mul_rnd {x y : Nat} (hx : rung x < inf) (hy : rung y < inf) : ∃ r, FloatKind.f64.format.mul x y = some (FloatKind.f64.format.word (neg x ^^ neg y) r) ∧ Rnd 2148 (V (rung x) * V (rung y)) 1 r := by
  obtain ⟨m, i, e1, v1, _, _⟩ := read_fin hx
  obtain ⟨n, j, e2, v2, _, _⟩ := read_fin hy
  obtain ⟨r, h1, h2⟩ := nearest_exact (neg x ^^ neg y) (m * n) (i + j) 2148 (by omega)
  refine ⟨r, ?_, ?_⟩
  · unfold Ieee.Format.mul
    rw [e1, e2]
    simp only [Ieee.Datum.product, Option.map_some, Ieee.Format.write]
    rw [← h1]
    congr 2
    omega
  · rw [← v1, ← v2]
    have : m * 2 ^ i * (n * 2 ^ j) = m * n * 2 ^ (i + j) := by
      rw [Nat.pow_add, Nat.mul_assoc, Nat.mul_assoc, Nat.mul_left_comm (2 ^ i)]
    rw [this]
    exact h2

theorem div_even (D n a : Nat) (hn : 0 < n) : (2 * (D / n) + (D % n != 0).toNat ≤ 2 * a ↔ D ≤ a * n) ∧ (2 * a ≤ 2 * (D / n) + (D % n != 0).toNat ↔ a * n ≤ D) := by
  have h1 := Nat.div_add_mod D n
  have h2 := Nat.mod_lt D hn
  have h3 : (D % n != 0).toNat = if D % n = 0 then 0 else 1 := by by_cases c : D % n = 0 <;> simp [c]
  rw [h3]
  have h4 : a ≤ D / n ↔ a * n ≤ D := Nat.le_div_iff_mul_le hn
  have h5 : D / n * n ≤ D := Nat.div_mul_le_self D n
  have h6 : n * (D / n) = D / n * n := Nat.mul_comm ..
  constructor
  · constructor
    · intro h
      by_cases c : D % n = 0
      · rw [if_pos c] at h
        have : D / n * n ≤ a * n := Nat.mul_le_mul_right _ (by omega)
        omega
      · rw [if_neg c] at h
        have : (D / n + 1) * n ≤ a * n := Nat.mul_le_mul_right _ (by omega)
        rw [Nat.add_mul] at this
        omega
    · intro h
      by_cases c : D % n = 0
      · rw [if_pos c]
        have : ¬ a < D / n := fun q => by
          have : (a + 1) * n ≤ D / n * n := Nat.mul_le_mul_right _ q
          rw [Nat.add_mul] at this
          omega
        omega
      · rw [if_neg c]
        have : ¬ a ≤ D / n := fun q => by
          have : a * n ≤ D / n * n := Nat.mul_le_mul_right _ q
          omega
        omega
  · constructor
    · intro h
      exact h4.1 (by split at h <;> omega)
    · intro h
      have := h4.2 h
      split <;> omega

def TT : Nat := 4000
theorem TT_eq : TT = 4000 := rfl

theorem div_rnd {x y : Nat} (hx : rung x < inf) (hy : rung y < inf) (h0 : 0 < rung x) (h1 : 0 < rung y) :
    ∃ r, FloatKind.f64.format.div x y = some (FloatKind.f64.format.word (neg x ^^ neg y) r) ∧ Rnd TT (V (rung x) * 2 ^ TT) (V (rung y)) r := by
  have hT := TT_eq
  obtain ⟨m, i, e1, v1, bm, bi⟩ := read_fin hx
  obtain ⟨n, j, e2, v2, bn, bj⟩ := read_fin hy
  have hVx : 0 < V (rung x) := by have := V_lt h0; omega
  have hVy : 0 < V (rung y) := by have := V_lt h1; omega
  have hm : m ≠ 0 := by rintro rfl; rw [Nat.zero_mul] at v1; omega
  have hn : n ≠ 0 := by rintro rfl; rw [Nat.zero_mul] at v2; omega
  have ln : 2 ^ n.log2 ≤ n := Nat.log2_self_le hn
  have ln2 : n < 2 ^ (n.log2 + 1) := Nat.lt_log2_self
  have lm : 2 ^ m.log2 ≤ m := Nat.log2_self_le hm
  have bl : n.log2 ≤ 52 := by
    refine Nat.le_of_not_lt fun h => ?_
    have : 2 ^ 53 ≤ 2 ^ n.log2 := Nat.pow_le_pow_right (by omega) h
    omega
  obtain ⟨more, hmore⟩ : ∃ more, more = 54 + n.log2 - m.log2 := ⟨_, rfl⟩
  obtain ⟨D, hD⟩ : ∃ D, D = m * 2 ^ more := ⟨_, rfl⟩
  obtain ⟨mag, hmag⟩ : ∃ mag, mag = 2 * (D / n) + (D % n != 0).toNat := ⟨_, rfl⟩
  obtain ⟨k, hk⟩ : ∃ k, k = i + TT - j - more - 1 := ⟨_, rfl⟩
  have hn0 : 0 < n := Nat.pos_of_ne_zero hn
  have hDn : 2 ^ 53 ≤ D / n := by
    rw [Nat.le_div_iff_mul_le hn0]
    have a1 : 2 ^ 53 * n ≤ 2 ^ 53 * 2 ^ (n.log2 + 1) := Nat.mul_le_mul_left _ (by omega)
    have a2 : 2 ^ 53 * 2 ^ (n.log2 + 1) ≤ 2 ^ (m.log2 + more) := by rw [← Nat.pow_add]; exact Nat.pow_le_pow_right (by omega) (by omega)
    have a3 : 2 ^ (m.log2 + more) ≤ D := by rw [Nat.pow_add, hD]; exact Nat.mul_le_mul_right _ lm
    omega
  have hmag2 : 2 ^ 54 ≤ mag := by rw [hmag]; omega
  have hL : 54 ≤ mag.log2 := (Nat.le_log2 (by omega)).2 hmag2
  have hE : i + TT - more - 1 = k + j := by omega
  obtain ⟨r, g1, g2⟩ := nearest_rnd (neg x ^^ neg y) mag k TT (V (rung x) * 2 ^ TT) (V (rung y)) False (by omega) (by omega) hVy (fun q hq => by
    have hq : q % 2 = 0 := hq.elim False.elim id
    obtain ⟨a, rfl⟩ : ∃ a, q = 2 * a := ⟨q / 2, by omega⟩
    have hp : 0 < 2 ^ (k + j) := Nat.pow_pos (by omega)
    have p1 : V (rung x) * 2 ^ TT = 2 * D * 2 ^ (k + j) := by
      rw [← v1, hD, Nat.mul_assoc m, ← Nat.pow_add, Nat.mul_assoc 2, Nat.mul_assoc m, ← Nat.pow_add, Nat.mul_left_comm 2 m, Nat.mul_comm 2 (2 ^ _), ← Nat.pow_succ, show (more + (k + j)).succ = i + TT by omega]
    have p2 : 2 * a * 2 ^ k * V (rung y) = 2 * (a * n) * 2 ^ (k + j) := by
      rw [← v2, Nat.pow_add, Nat.mul_assoc 2, Nat.mul_assoc 2, Nat.mul_assoc 2, Nat.mul_assoc a, Nat.mul_assoc a, Nat.mul_left_comm n]
    have hde := div_even D n a hn0
    rw [p1, p2, hmag]
    constructor
    · rw [hde.1]
      exact ⟨fun h => Nat.mul_le_mul_right _ (by omega), fun h => by have := Nat.le_of_mul_le_mul_right h hp; omega⟩
    · rw [hde.2]
      exact ⟨fun h => Nat.mul_le_mul_right _ (by omega), fun h => by have := Nat.le_of_mul_le_mul_right h hp; omega⟩) (.inr (by omega))
  refine ⟨r, ?_, g2⟩
  unfold Ieee.Format.div
  rw [e1, e2]
  have hf : FloatKind.f64.format.fractionBits + 2 = 54 := rfl
  simp only [Ieee.Datum.quotient, hf]
  rw [if_neg hn, ← hmore, Nat.shiftLeft_eq, ← hD, ← hmag]
  simp only [Option.map_some, Ieee.Format.write]
  rw [← g1]
  congr 2
  omega

theorem Rnd.unique {T N D r r' : Nat} (hD : 0 < D) (h : Rnd T N D r) (h' : Rnd T N D r') : r = r' :=
  Nat.le_antisymm (h.mono h' hD hD (Nat.le_refl _)) (h'.mono h hD hD (Nat.le_refl _))

/-! ### whole numbers -/
theorem fi_nat (n T : Nat) (hT : 1074 ≤ T) : ∃ r, floatOfInt .f64 (n : Int) = FloatKind.f64.format.word false r ∧ Rnd T (n * 2 ^ T) 1 r := by
  obtain ⟨r, h1, h2⟩ := nearest_exact false n T T hT
  refine ⟨r, ?_, h2⟩
  unfold floatOfInt FloatKind.nearest FloatKind.encode Ieee.Format.write
  simp only
  rw [← h1, decide_eq_false (by omega), Int.natAbs_natCast]
  congr 1
  omega

end Go.Proofs.Ytabgoiacjfekpaa.Fl
