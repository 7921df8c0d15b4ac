/- Plain facts on whole numbers as fractions: they are exact, their sums too, and a mean of some lies between two of which these do. -/
import Derived.Test.YtabgoiacjfekpaaSfReach
namespace Go.Proofs.Ytabgoiacjfekpaa.Fl
open Go.RowKit Go.Proofs.Ytabgoiacjfekpaa.P Go.Proofs.YtabgoiacjfekpaaW.PrintWords Go.Proofs.YtabgoiacjfekpaaW.PrintLast Go.Proofs.YtabgoiacjfekpaaW.PrintMore
set_option linter.unusedVariables false

def TZ : Nat := 1074
theorem TZ_eq : TZ = 1074 := rfl

/-- a small whole number's rung -/
theorem whole_rung (n : Nat) (h : n < 2 ^ 53) : ∃ r, r < inf ∧ V r = n * 2 ^ TZ ∧ (0 < r ↔ 0 < n) := by
  have hB : B = 4503599627370496 := rfl
  have hB2 : B = 2 ^ 52 := rfl
  have hI : inf = 9218868437227405312 := rfl
  by_cases h0 : n = 0
  · subst h0; exact ⟨0, by decide, by rw [V_zero, Nat.zero_mul], by omega⟩
  have l1 : 2 ^ n.log2 ≤ n := Nat.log2_self_le h0
  have l2 : n < 2 ^ (n.log2 + 1) := Nat.lt_log2_self
  have l3 : n.log2 ≤ 52 := by
    refine Nat.le_of_not_lt fun c => ?_
    have : 2 ^ 53 ≤ 2 ^ n.log2 := Nat.pow_le_pow_right (by omega) c
    omega
  obtain ⟨L, hL⟩ : ∃ L, L = n.log2 := ⟨_, rfl⟩
  rw [← hL] at l1 l2 l3
  clear hL
  obtain ⟨c, hc⟩ : ∃ c, c = n * 2 ^ (52 - L) := ⟨_, rfl⟩
  have c1 : B ≤ c := by
    rw [hB2, hc, show (52 : Nat) = L + (52 - L) by omega, Nat.pow_add, show L + (52 - L) - L = 52 - L by omega]
    exact Nat.mul_le_mul_right _ l1
  have c2 : c < 2 * B := by
    have : n * 2 ^ (52 - L) < 2 ^ (L + 1) * 2 ^ (52 - L) := Nat.mul_lt_mul_of_pos_right l2 (Nat.pow_pos (by omega))
    rw [← Nat.pow_add, show L + 1 + (52 - L) = 53 by omega, ← hc] at this
    rw [hB]; omega
  have hT := TZ_eq
  refine ⟨(TZ + L - 52) * B + c, ?_, ?_, ?_⟩
  · have : (TZ + L - 52) * B ≤ 1074 * B := Nat.mul_le_mul_right _ (by omega)
    rw [hI]; rw [hB] at this c2 ⊢; omega
  · rw [V_at _ c (.inr ⟨c1, by omega⟩), hc, Nat.mul_assoc, ← Nat.pow_add, show 52 - L + (TZ + L - 52) = TZ by omega]
  · rw [hB] at c1; omega

/-- what a small whole number's word is -/
theorem whole (a : Int) (h : a.natAbs < 2 ^ 53) : ∃ r, floatOfInt .f64 a = FloatKind.f64.format.word (decide (a < 0)) r ∧ r < inf ∧ V r = a.natAbs * 2 ^ TZ ∧ (0 < r ↔ a ≠ 0) := by
  obtain ⟨q, q1, q2, q3⟩ := whole_rung a.natAbs h
  obtain ⟨r, h1, h2⟩ := nearest_exact (decide (a < 0)) a.natAbs TZ TZ (by rw [TZ_eq]; omega)
  have hU : U TZ q = a.natAbs * 2 ^ TZ := by
    unfold U; rw [TZ_eq, Nat.sub_self, ← TZ_eq, Nat.pow_zero, Nat.mul_one, q2]
  have hr : r = q := h2.unique (by omega) (by rw [← hU]; exact Rnd.own (by omega))
  subst hr
  refine ⟨r, ?_, q1, q2, by omega⟩
  unfold floatOfInt FloatKind.nearest FloatKind.encode Ieee.Format.write
  simp only
  rw [← h1]
  congr 1

theorem whole_facts (a : Int) (h : a.natAbs < 2 ^ 53) : ∃ r, floatOfInt .f64 a = FloatKind.f64.format.word (decide (a < 0)) r ∧ rung (floatOfInt .f64 a) = r ∧ neg (floatOfInt .f64 a) = decide (a < 0) ∧ r < inf ∧ V r = a.natAbs * 2 ^ TZ ∧ (0 < r ↔ a ≠ 0) := by
  obtain ⟨r, e, h1, h2, h3⟩ := whole a h
  obtain ⟨w1, w2⟩ := word_at (decide (a < 0)) r (by omega)
  exact ⟨r, e, by rw [e]; exact w1, by rw [e]; exact w2, h1, h2, h3⟩

theorem whole_nan (a : Int) (h : a.natAbs < 2 ^ 53) : ¬ nan (floatOfInt .f64 a) := by
  obtain ⟨r, e, h0, _, h1, _⟩ := whole_facts a h
  unfold nan; rw [h0]; omega

theorem units_le {a b r q : Nat} (h1 : V r = a * 2 ^ TZ) (h2 : V q = b * 2 ^ TZ) : r ≤ q ↔ a ≤ b := by
  have hp : 0 < 2 ^ TZ := Nat.pow_pos (by omega)
  constructor
  · intro h
    have := V_le h
    rw [h1, h2] at this
    exact Nat.le_of_mul_le_mul_right this hp
  · intro h
    refine Nat.le_of_not_lt fun c => ?_
    have := V_lt c
    rw [h1, h2] at this
    have := Nat.lt_of_mul_lt_mul_right this
    omega

theorem whole_key (a b : Int) (ha : a.natAbs < 2 ^ 53) (hb : b.natAbs < 2 ^ 53) : key (floatOfInt .f64 a) ≤ key (floatOfInt .f64 b) ↔ a ≤ b := by
  obtain ⟨r, e1, p1, p2, p3, p4, p5⟩ := whole_facts a ha
  obtain ⟨q, e2, q1, q2, q3, q4, q5⟩ := whole_facts b hb
  have u1 := units_le p4 q4
  have u2 := units_le q4 p4
  rw [key_sg, key_sg, p1, p2, q1, q2]
  clear e1 e2 p1 p2 q1 q2 p3 q3 p4 q4
  unfold sg
  by_cases c1 : a < 0 <;> by_cases c2 : b < 0 <;> simp [c1, c2] <;> omega

/-- sums of whole numbers are exact -/
theorem whole_add (a b : Int) (ha : a.natAbs < 2 ^ 53) (hb : b.natAbs < 2 ^ 53) : FloatKind.f64.format.add (floatOfInt .f64 a) (floatOfInt .f64 b) = some (floatOfInt .f64 (a + b)) := by
  obtain ⟨r, e1, p1, p2, p3, p4, p5⟩ := whole_facts a ha
  obtain ⟨q, e2, q1, q2, q3, q4, q5⟩ := whole_facts b hb
  obtain ⟨m, i, f1, v1⟩ := read_num (x := floatOfInt .f64 a) (by rw [p1]; exact p3)
  obtain ⟨n, j, f2, v2⟩ := read_num (x := floatOfInt .f64 b) (by rw [q1]; exact q3)
  rw [p1, p4] at v1
  rw [q1, q4] at v2
  rw [p2] at f1
  rw [q2] at f2
  clear e1 e2 p1 p2 q1 q2 p3 q3 p4 q4
  unfold Ieee.Format.add
  rw [f1, f2]
  clear f1 f2
  simp only [Ieee.Datum.sum, Option.map_some, Ieee.Format.write, Option.some.injEq]
  have z1 : ((i : Int) - 1074 - min ((i : Int) - 1074) ((j : Int) - 1074)).toNat = i - min i j := by omega
  have z2 : ((j : Int) - 1074 - min ((i : Int) - 1074) ((j : Int) - 1074)).toNat = j - min i j := by omega
  have z3 : min ((i : Int) - 1074) ((j : Int) - 1074) = ((min i j : Nat) : Int) - (TZ : Nat) := by rw [TZ_eq]; omega
  rw [z1, z2, z3]
  have hp : 0 < 2 ^ (min i j) := Nat.pow_pos (by omega)
  have hz : 0 < 2 ^ TZ := Nat.pow_pos (by omega)
  have k1 : m * 2 ^ (i - min i j) * 2 ^ (min i j) = a.natAbs * 2 ^ TZ := by rw [← v1, Nat.mul_assoc, ← Nat.pow_add, Nat.sub_add_cancel (Nat.min_le_left ..)]
  have k2 : n * 2 ^ (j - min i j) * 2 ^ (min i j) = b.natAbs * 2 ^ TZ := by rw [← v2, Nat.mul_assoc, ← Nat.pow_add, Nat.sub_add_cancel (Nat.min_le_right ..)]
  unfold Ieee.signed
  rw [Nat.shiftLeft_eq, Nat.shiftLeft_eq]
  generalize m * 2 ^ (i - min i j) = M at *
  generalize n * 2 ^ (j - min i j) = M2 at *
  clear v1 v2 z1 z2 z3
  have g1 : (if decide (a < 0) = true then -((M : Nat) : Int) else ((M : Nat) : Int)) * ((2 ^ (min i j) : Nat) : Int) = a * ((2 ^ TZ : Nat) : Int) := by
    have : ((M * 2 ^ (min i j) : Nat) : Int) = ((a.natAbs * 2 ^ TZ : Nat) : Int) := by rw [k1]
    rw [Int.natCast_mul, Int.natCast_mul] at this
    by_cases c : a < 0
    · rw [decide_eq_true c, if_pos rfl, Int.neg_mul, this, ← Int.neg_mul]; congr 1; omega
    · rw [decide_eq_false c, if_neg (by decide), this]; congr 1; omega
  have g2 : (if decide (b < 0) = true then -((M2 : Nat) : Int) else ((M2 : Nat) : Int)) * ((2 ^ (min i j) : Nat) : Int) = b * ((2 ^ TZ : Nat) : Int) := by
    have : ((M2 * 2 ^ (min i j) : Nat) : Int) = ((b.natAbs * 2 ^ TZ : Nat) : Int) := by rw [k2]
    rw [Int.natCast_mul, Int.natCast_mul] at this
    by_cases c : b < 0
    · rw [decide_eq_true c, if_pos rfl, Int.neg_mul, this, ← Int.neg_mul]; congr 1; omega
    · rw [decide_eq_false c, if_neg (by decide), this]; congr 1; omega
  generalize (if decide (a < 0) = true then -((M : Nat) : Int) else ((M : Nat) : Int)) = X at *
  generalize (if decide (b < 0) = true then -((M2 : Nat) : Int) else ((M2 : Nat) : Int)) = Y at *
  clear k1 k2
  have g3 : (X + Y) * ((2 ^ (min i j) : Nat) : Int) = (a + b) * ((2 ^ TZ : Nat) : Int) := by rw [Int.add_mul, Int.add_mul, g1, g2]
  have hp' : (0 : Int) < ((2 ^ (min i j) : Nat) : Int) := by exact_mod_cast hp
  have hz' : (0 : Int) < ((2 ^ TZ : Nat) : Int) := by exact_mod_cast hz
  have s1 : X + Y < 0 ↔ a + b < 0 := by
    constructor
    · intro h
      have := Int.mul_neg_of_neg_of_pos h hp'
      rw [g3] at this
      refine Int.lt_of_not_ge fun c => ?_
      have := Int.mul_nonneg c (Int.le_of_lt hz'); omega
    · intro h
      have := Int.mul_neg_of_neg_of_pos h hz'
      rw [← g3] at this
      refine Int.lt_of_not_ge fun c => ?_
      have := Int.mul_nonneg c (Int.le_of_lt hp'); omega
  have s2 : X + Y = 0 → a + b = 0 := by
    intro h
    rw [h, Int.zero_mul] at g3
    rcases Int.mul_eq_zero.1 g3.symm with h | h
    · exact h
    · omega
  have hsign : (if X + Y = 0 then decide (a < 0) && decide (b < 0) else decide (X + Y < 0)) = decide (a + b < 0) := by
    by_cases c : X + Y = 0
    · have := s2 c
      rw [if_pos c]
      by_cases d1 : a < 0 <;> by_cases d2 : b < 0 <;> simp [d1, d2] <;> omega
    · rw [if_neg c]
      exact decide_eq_decide.2 s1
  rw [hsign]
  have g4 : (X + Y).natAbs * 2 ^ (min i j) = (a + b).natAbs * 2 ^ TZ := by
    have := congrArg Int.natAbs g3
    rw [Int.natAbs_mul, Int.natAbs_mul, Int.natAbs_natCast, Int.natAbs_natCast] at this
    exact this
  have hT : 1074 ≤ TZ := by rw [TZ_eq]; omega
  obtain ⟨r1, b1, b2⟩ := nearest_exact (decide (a + b < 0)) (X + Y).natAbs (min i j) TZ hT
  obtain ⟨r2, d1, d2⟩ := nearest_exact (decide (a + b < 0)) (a + b).natAbs TZ TZ hT
  rw [g4] at b2
  have : r1 = r2 := b2.unique (by omega) d2
  subst this
  rw [b1, ← d1]
  unfold floatOfInt FloatKind.nearest FloatKind.encode Ieee.Format.write
  simp only
  congr 1

/-- a mean of whole numbers lies between two whole numbers of which these do -/
theorem whole_div (s n lo hi : Int) (hs : s.natAbs < 2 ^ 53) (h1 : 1 ≤ n) (hn : n < 2 ^ 53) (hl : lo.natAbs < 2 ^ 53) (hh : hi.natAbs < 2 ^ 53) (hlo : lo * n ≤ s) (hhi : s ≤ hi * n) :
    ∃ q, FloatKind.f64.format.div (floatOfInt .f64 s) (floatOfInt .f64 n) = some q ∧ ¬ nan q ∧ key (floatOfInt .f64 lo) ≤ key q ∧ key q ≤ key (floatOfInt .f64 hi) := by
  obtain ⟨r, e1, p1, p2, p3, p4, p5⟩ := whole_facts s hs
  obtain ⟨d, e2, q1, q2, q3, q4, q5⟩ := whole_facts n (by omega)
  obtain ⟨l, e3, l1, l2, l3, l4, l5⟩ := whole_facts lo hl
  obtain ⟨h, e4, k1, k2, k3, k4, k5⟩ := whole_facts hi hh
  rw [key_sg (floatOfInt .f64 lo), key_sg (floatOfInt .f64 hi), l1, l2, k1, k2]
  have hn0 : decide (n < 0) = false := decide_eq_false (by omega)
  rw [hn0] at q2
  by_cases c : s = 0
  · subst c
    have hz : floatOfInt .f64 0 = 0 := by decide +kernel
    obtain ⟨m2, i2, f2, v2⟩ := read_num (x := floatOfInt .f64 n) (by rw [q1]; exact q3)
    have hm : m2 ≠ 0 := by
      rintro rfl
      rw [Nat.zero_mul, q1, ← V_zero] at v2
      have := V_inj v2
      omega
    refine ⟨0, ?_, by decide, ?_, ?_⟩
    · unfold Ieee.Format.div
      rw [f2, q2, hz, show FloatKind.f64.format.read 0 = .number false 0 (-1074) by decide +kernel]
      simp only [Ieee.Datum.quotient]
      rw [if_neg hm, Nat.zero_shiftLeft, Nat.zero_div, Nat.zero_mod]
      simp only [Option.map_some, Ieee.Format.write]
      rw [show (2 * 0 + (0 != 0).toNat : Nat) = 0 from rfl, nearest_zero]
      decide +kernel
    · have : lo ≤ 0 := by
        refine Int.le_of_not_gt fun c => ?_
        have := Int.mul_pos c (show 0 < n by omega); omega
      rw [show key 0 = 0 by decide]
      unfold sg
      split <;> rename_i g
      · omega
      · have : lo = 0 := by have := of_decide_eq_false (Bool.eq_false_iff.2 g); omega
        omega
    · have : 0 ≤ hi := by
        refine Int.le_of_not_gt fun c => ?_
        have := Int.mul_neg_of_neg_of_pos c (show 0 < n by omega); omega
      rw [show key 0 = 0 by decide]
      unfold sg
      rw [decide_eq_false (by omega), if_neg (by decide)]
      omega
  have hr0 : 0 < r := p5.2 c
  have hd0 : 0 < d := q5.2 (by omega)
  obtain ⟨g, g1, g2⟩ := div_rnd (x := floatOfInt .f64 s) (y := floatOfInt .f64 n) (by rw [p1]; exact p3) (by rw [q1]; exact q3) (by rw [p1]; exact hr0) (by rw [q1]; exact hd0)
  rw [p1, q1] at g2
  rw [p2, q2, Bool.xor_false] at g1
  have hTT := TT_eq
  have hTZ := TZ_eq
  have hVd : 0 < V d := by have := V_lt hd0; omega
  -- sizes alone
  have up : ∀ b B : Nat, b < inf → V b = B * 2 ^ TZ → s.natAbs ≤ B * n.natAbs → g ≤ b := fun b B b1 b2 b3 => by
    refine g2.mono (Rnd.own (T := TT) (r := b) (by omega)) hVd (by omega) ?_
    unfold U
    rw [b2, p4, q4, Nat.mul_one, Nat.mul_assoc B, ← Nat.pow_add, show TZ + (TT - 1074) = TT by omega]
    calc s.natAbs * 2 ^ TZ * 2 ^ TT ≤ B * n.natAbs * 2 ^ TZ * 2 ^ TT := Nat.mul_le_mul_right _ (Nat.mul_le_mul_right _ b3)
      _ = B * 2 ^ TT * (n.natAbs * 2 ^ TZ) := by
        rw [Nat.mul_assoc B, Nat.mul_assoc B, Nat.mul_assoc B, Nat.mul_comm (n.natAbs * 2 ^ TZ)]
  have dn : ∀ b B : Nat, b < inf → V b = B * 2 ^ TZ → B * n.natAbs ≤ s.natAbs → b ≤ g := fun b B b1 b2 b3 => by
    refine (Rnd.own (T := TT) (r := b) (by omega)).mono g2 (by omega) hVd ?_
    unfold U
    rw [b2, p4, q4, Nat.mul_one, Nat.mul_assoc B, ← Nat.pow_add, show TZ + (TT - 1074) = TT by omega]
    calc B * 2 ^ TT * (n.natAbs * 2 ^ TZ) = B * n.natAbs * 2 ^ TZ * 2 ^ TT := by
          rw [Nat.mul_assoc B, Nat.mul_assoc B, Nat.mul_assoc B, Nat.mul_comm (n.natAbs * 2 ^ TZ)]
      _ ≤ s.natAbs * 2 ^ TZ * 2 ^ TT := Nat.mul_le_mul_right _ (Nat.mul_le_mul_right _ b3)
  have gi : g ≤ inf := g2.1
  refine ⟨_, g1, nan_word _ _ gi, ?_, ?_⟩
  · rw [key_word _ _ gi]
    by_cases c1 : lo < 0
    · rw [decide_eq_true c1]
      by_cases c2 : s < 0
      · rw [decide_eq_true c2]
        have := up l lo.natAbs l3 l4 (by
          have h1 : (-lo) * n = -(lo * n) := Int.neg_mul ..
          have h2 : ((lo.natAbs * n.natAbs : Nat) : Int) = (-lo) * n := by rw [Int.natCast_mul]; congr 1 <;> omega
          omega)
        unfold sg; simp <;> omega
      · rw [decide_eq_false c2]; unfold sg; simp <;> omega
    · have c3 : ¬ s < 0 := fun h => by have := Int.mul_nonneg (show 0 ≤ lo by omega) (show 0 ≤ n by omega); omega
      rw [decide_eq_false c1, decide_eq_false c3]
      have := dn l lo.natAbs l3 l4 (by
        have h2 : ((lo.natAbs * n.natAbs : Nat) : Int) = lo * n := by rw [Int.natCast_mul]; congr 1 <;> omega
        omega)
      unfold sg; simp <;> omega
  · rw [key_word _ _ gi]
    by_cases c1 : hi < 0
    · have c3 : s < 0 := by have := Int.mul_neg_of_neg_of_pos c1 (show 0 < n by omega); omega
      rw [decide_eq_true c1, decide_eq_true c3]
      have := dn h hi.natAbs k3 k4 (by
        have h1 : (-hi) * n = -(hi * n) := Int.neg_mul ..
        have h2 : ((hi.natAbs * n.natAbs : Nat) : Int) = (-hi) * n := by rw [Int.natCast_mul]; congr 1 <;> omega
        omega)
      unfold sg; simp <;> omega
    · rw [decide_eq_false c1]
      by_cases c2 : s < 0
      · rw [decide_eq_true c2]; unfold sg; simp <;> omega
      · rw [decide_eq_false c2]
        have := up h hi.natAbs k3 k4 (by
          have h2 : ((hi.natAbs * n.natAbs : Nat) : Int) = hi * n := by rw [Int.natCast_mul]; congr 1 <;> omega
          omega)
        unfold sg; simp <;> omega

end Go.Proofs.Ytabgoiacjfekpaa.Fl
