/- Plain facts on float64 words: how a word's bits stand to the number that it stands for; the order of words is the order of whole numbers. No program in sight. -/
import Derived.Test.YtjailboidlmadaaFlt
namespace Go.Proofs.Ytjailboidlmadaa.Fl
open Go.RowKit Go.Proofs.YtjailboidlmadaaW.PrintWords
set_option linter.unusedVariables false

def inf : Nat := 9218868437227405312
def sw : Nat := 9223372036854775808
def B : Nat := 4503599627370496
def rung (x : Nat) : Nat := x % sw
def neg (x : Nat) : Bool := x / sw % 2 == 1
def nan (x : Nat) : Prop := inf < rung x
instance (x : Nat) : Decidable (nan x) := inferInstanceAs (Decidable (inf < rung x))
def key (x : Nat) : Int := if neg x = true then -(rung x : Int) else (rung x : Int)

/-- a rung's number, in units of the least one -/
def V (r : Nat) : Nat := if r < B then r else (B + r % B) * 2 ^ (r / B - 1)

theorem V_step (r : Nat) : V r < V (r + 1) := by
  unfold V B
  by_cases h1 : r + 1 < 4503599627370496
  · rw [if_pos (by omega), if_pos h1]; omega
  · rw [if_neg h1]
    by_cases h2 : r < 4503599627370496
    · obtain rfl : r = 4503599627370495 := by omega
      rw [if_pos (by omega)]; decide
    · rw [if_neg h2]
      by_cases h3 : (r + 1) / 4503599627370496 = r / 4503599627370496
      · rw [h3]
        refine Nat.mul_lt_mul_of_pos_right ?_ (Nat.pow_pos (by omega))
        omega
      · have e1 : (r + 1) / 4503599627370496 - 1 = (r / 4503599627370496 - 1) + 1 := by omega
        have e2 : (r + 1) % 4503599627370496 = 0 := by omega
        have e3 : r % 4503599627370496 = 4503599627370495 := by omega
        rw [e1, e2, e3, Nat.pow_succ]
        have : 0 < 2 ^ (r / 4503599627370496 - 1) := Nat.pow_pos (by omega)
        omega

theorem V_lt {a b : Nat} (h : a < b) : V a < V b := by
  induction b with
  | zero => omega
  | succ b ih =>
    by_cases c : a = b
    · subst c; exact V_step a
    · exact Nat.lt_trans (ih (by omega)) (V_step b)
theorem V_le {a b : Nat} (h : a ≤ b) : V a ≤ V b := by
  by_cases c : a = b
  · subst c; exact Nat.le_refl _
  · exact Nat.le_of_lt (V_lt (by omega))
theorem V_lt_iff (a b : Nat) : V a < V b ↔ a < b := ⟨fun h => Nat.lt_of_not_le fun h2 => Nat.lt_irrefl _ (Nat.lt_of_lt_of_le h (V_le h2)), V_lt⟩
theorem V_inj {a b : Nat} (h : V a = V b) : a = b := by
  rcases Nat.lt_trichotomy a b with c | c | c
  · have := V_lt c; omega
  · exact c
  · have := V_lt c; omega
theorem V_zero : V 0 = 0 := by unfold V B; decide

theorem f_binade : FloatKind.f64.format.binade = B := by decide
theorem f_inf : FloatKind.f64.format.infRung = inf := by decide
theorem f_sw : FloatKind.f64.format.signWeight = sw := by decide
theorem f_least : FloatKind.f64.format.leastPlace = -1074 := by decide

/-- what a word stands for -/
theorem read_num {x : Nat} (h : rung x < inf) : ∃ m : Nat, ∃ up : Nat, FloatKind.f64.format.read x = .number (neg x) m ((up : Int) - 1074) ∧ m * 2 ^ up = V (rung x) := by
  unfold Ieee.Format.read
  simp only [f_binade, f_inf, f_sw, f_least]
  show ∃ m up, (if rung x < B then _ else _) = _ ∧ _
  unfold V
  by_cases c : rung x < B
  · rw [if_pos c]
    exact ⟨rung x, 0, rfl, by rw [if_pos c]; omega⟩
  · rw [if_neg c, if_pos (show x % sw < inf from h)]
    refine ⟨B + rung x % B, rung x / B - 1, ?_, by rw [if_neg c]⟩
    have e : (-1074 : Int) + ((rung x / B - 1 : Nat) : Int) = ((rung x / B - 1 : Nat) : Int) - 1074 := by omega
    rw [← e]
    rfl

theorem read_inf {x : Nat} (h : rung x = inf) : FloatKind.f64.format.read x = .infinity (neg x) := by
  unfold Ieee.Format.read
  simp only [f_binade, f_inf, f_sw, f_least]
  show (if rung x < B then _ else if rung x < inf then _ else if rung x = inf then _ else _) = _
  rw [if_neg (by rw [h]; decide), if_neg (by omega), if_pos h]
  rfl

theorem read_nan {x : Nat} (h : nan x) : FloatKind.f64.format.read x = .nan (neg x) (rung x - inf) := by
  unfold nan at h
  unfold Ieee.Format.read
  simp only [f_binade, f_inf, f_sw, f_least]
  show (if rung x < B then _ else if rung x < inf then _ else if rung x = inf then _ else _) = _
  rw [if_neg (by unfold inf at h; unfold B; omega), if_neg (by omega), if_neg (by omega)]
  rfl

/-- a number with its sign -/
def sg (s : Bool) (n : Nat) : Int := if s = true then -(n : Int) else (n : Int)

theorem signed_sg (s : Bool) (m up : Nat) : Ieee.signed s m up = sg s (m * 2 ^ up) := by
  unfold Ieee.signed sg
  rw [Nat.shiftLeft_eq]

theorem cmp_lt {a b : Int} (h : a < b) : compare a b = .lt := by
  show compareOfLessAndEq a b = .lt
  unfold compareOfLessAndEq; rw [if_pos h]
theorem cmp_gt {a b : Int} (h : b < a) : compare a b = .gt := by
  show compareOfLessAndEq a b = .gt
  unfold compareOfLessAndEq; rw [if_neg (by omega), if_neg (by omega)]
theorem cmp_eq {a b : Int} (h : a = b) : compare a b = .eq := by
  show compareOfLessAndEq a b = .eq
  unfold compareOfLessAndEq; rw [if_neg (by omega), if_pos h]
theorem cmp_same {a b c d : Int} (h1 : a < b ↔ c < d) (h2 : b < a ↔ d < c) : compare a b = compare c d := by
  rcases Int.lt_trichotomy a b with h | h | h
  · rw [cmp_lt h, cmp_lt (h1.1 h)]
  · rw [cmp_eq h, cmp_eq (by have := fun q => h1.2 q; have := fun q => h2.2 q; omega)]
  · rw [cmp_gt h, cmp_gt (h2.1 h)]

theorem sg_lt_scale (s t : Bool) (a b c : Nat) (hc : 0 < c) : sg s a < sg t b ↔ sg s (a * c) < sg t (b * c) := by
  have e : ∀ (s : Bool) (n : Nat), sg s (n * c) = sg s n * (c : Int) := by
    intro s n; unfold sg; split
    · rw [Int.natCast_mul, Int.neg_mul]
    · rw [Int.natCast_mul]
  rw [e, e]
  exact ⟨fun h => Int.mul_lt_mul_of_pos_right h (by omega), fun h => Int.lt_of_mul_lt_mul_right h (by omega)⟩

theorem sg_lt_V (s t : Bool) (a b : Nat) : sg s (V a) < sg t (V b) ↔ sg s a < sg t b := by
  have h1 := V_lt_iff a b
  have h2 := V_lt_iff b a
  have h3 : V a = 0 ↔ a = 0 := ⟨fun h => V_inj (h.trans V_zero.symm), fun h => by rw [h]; exact V_zero⟩
  have h4 : V b = 0 ↔ b = 0 := ⟨fun h => V_inj (h.trans V_zero.symm), fun h => by rw [h]; exact V_zero⟩
  unfold sg
  cases s <;> cases t <;> simp <;> omega

theorem key_sg (x : Nat) : key x = sg (neg x) (rung x) := rfl

theorem order_num {s t : Bool} {m n i j : Nat} {a b : Nat} (h1 : m * 2 ^ i = V a) (h2 : n * 2 ^ j = V b) :
    Ieee.Datum.order (.number s m ((i : Int) - 1074)) (.number t n ((j : Int) - 1074)) = some (compare (sg s a) (sg t b)) := by
  unfold Ieee.Datum.order
  simp only
  congr 1
  rw [signed_sg, signed_sg]
  have e1 : ((i : Int) - 1074 - min ((i : Int) - 1074) ((j : Int) - 1074)).toNat = i - min i j := by omega
  have e2 : ((j : Int) - 1074 - min ((i : Int) - 1074) ((j : Int) - 1074)).toNat = j - min i j := by omega
  rw [e1, e2]
  have p1 : m * 2 ^ (i - min i j) * 2 ^ (min i j) = V a := by rw [← h1, Nat.mul_assoc, ← Nat.pow_add, Nat.sub_add_cancel (Nat.min_le_left ..)]
  have p2 : n * 2 ^ (j - min i j) * 2 ^ (min i j) = V b := by rw [← h2, Nat.mul_assoc, ← Nat.pow_add, Nat.sub_add_cancel (Nat.min_le_right ..)]
  have hp : 0 < 2 ^ (min i j) := Nat.pow_pos (by omega)
  refine cmp_same ?_ ?_
  · rw [sg_lt_scale _ _ _ _ _ hp, p1, p2, sg_lt_V]
  · rw [sg_lt_scale _ _ _ _ _ hp, p1, p2, sg_lt_V]

theorem order_nan {x y : Nat} (h : nan x ∨ nan y) : FloatKind.f64.format.order x y = none := by
  unfold Ieee.Format.order
  rcases h with h | h
  · rw [read_nan h]; rfl
  · rw [read_nan h]; cases FloatKind.f64.format.read x <;> rfl

theorem order_key {x y : Nat} (hx : ¬ nan x) (hy : ¬ nan y) : FloatKind.f64.format.order x y = some (compare (key x) (key y)) := by
  unfold nan at hx hy
  unfold Ieee.Format.order
  rw [key_sg, key_sg]
  have hi : 0 < inf := by decide
  by_cases cx : rung x < inf
  · obtain ⟨m, i, e1, v1⟩ := read_num cx
    rw [e1]
    by_cases cy : rung y < inf
    · obtain ⟨n, j, e2, v2⟩ := read_num cy
      rw [e2]
      exact order_num v1 v2
    · have ey : rung y = inf := by omega
      rw [read_inf ey, ey]
      show some (if neg y then Ordering.gt else .lt) = _
      congr 1
      cases neg y
      · rw [cmp_lt]; · rfl
        cases neg x <;> simp [sg] <;> omega
      · rw [cmp_gt]; · rfl
        cases neg x <;> simp [sg] <;> omega
  · have ex : rung x = inf := by omega
    rw [read_inf ex, ex]
    by_cases cy : rung y < inf
    · obtain ⟨n, j, e2, v2⟩ := read_num cy
      rw [e2]
      show some (if neg x then Ordering.lt else .gt) = _
      congr 1
      cases neg x
      · rw [cmp_gt]; · rfl
        cases neg y <;> simp [sg] <;> omega
      · rw [cmp_lt]; · rfl
        cases neg y <;> simp [sg] <;> omega
    · have ey : rung y = inf := by omega
      rw [read_inf ey, ey]
      show some (compare (neg y).toNat (neg x).toNat) = _
      congr 1
      cases neg x <;> cases neg y
      · rw [cmp_eq rfl]; rfl
      · rw [cmp_gt]; · rfl
        unfold sg; simp; omega
      · rw [cmp_lt]; · rfl
        unfold sg; simp; omega
      · rw [cmp_eq rfl]; rfl

/-! ### tests -/
theorem t_ne (x : Nat) : (FloatKind.f64.format.order x x != some .eq) = decide (nan x) := by
  by_cases h : nan x
  · rw [order_nan (.inl h), decide_eq_true h]; rfl
  · rw [order_key h h, cmp_eq rfl, decide_eq_false h]; rfl
theorem t_eqs (x : Nat) : (FloatKind.f64.format.order x x == some .eq) = !decide (nan x) := by
  by_cases h : nan x
  · rw [order_nan (.inl h), decide_eq_true h]; rfl
  · rw [order_key h h, cmp_eq rfl, decide_eq_false h]; rfl

def num2 (x y : Nat) : Prop := ¬ nan x ∧ ¬ nan y
theorem num2_or (x y : Nat) : num2 x y ∨ (nan x ∨ nan y) := by
  unfold num2
  by_cases h1 : nan x
  · exact .inr (.inl h1)
  · by_cases h2 : nan y
    · exact .inr (.inr h2)
    · exact .inl ⟨h1, h2⟩
theorem t_lt (x y : Nat) : ((FloatKind.f64.format.order x y == some .lt) = true) ↔ num2 x y ∧ key x < key y := by
  rcases num2_or x y with h | h
  · rw [order_key h.1 h.2]
    rcases Int.lt_trichotomy (key x) (key y) with c | c | c
    · rw [cmp_lt c]; simp [h, c]
    · rw [cmp_eq c]; simp [c]
    · rw [cmp_gt c]; simp; omega
  · rw [order_nan h]; simp [num2]; intro a b; rcases h with h | h <;> contradiction
theorem t_gt (x y : Nat) : ((FloatKind.f64.format.order x y == some .gt) = true) ↔ num2 x y ∧ key y < key x := by
  rcases num2_or x y with h | h
  · rw [order_key h.1 h.2]
    rcases Int.lt_trichotomy (key x) (key y) with c | c | c
    · rw [cmp_lt c]; simp; omega
    · rw [cmp_eq c]; simp [c]
    · rw [cmp_gt c]; simp [h, c]
  · rw [order_nan h]; simp [num2]; intro a b; rcases h with h | h <;> contradiction
theorem t_eq (x y : Nat) : ((FloatKind.f64.format.order x y == some .eq) = true) ↔ num2 x y ∧ key x = key y := by
  rcases num2_or x y with h | h
  · rw [order_key h.1 h.2]
    rcases Int.lt_trichotomy (key x) (key y) with c | c | c
    · rw [cmp_lt c]; simp; omega
    · rw [cmp_eq c]; simp [h, c]
    · rw [cmp_gt c]; simp; omega
  · rw [order_nan h]; simp [num2]; intro a b; rcases h with h | h <;> contradiction
theorem t_le (x y : Nat) : ((FloatKind.f64.format.order x y == some .lt || FloatKind.f64.format.order x y == some .eq) = true) ↔ num2 x y ∧ key x ≤ key y := by
  rw [Bool.or_eq_true, t_lt, t_eq]
  constructor
  · rintro (⟨a, b⟩ | ⟨a, b⟩) <;> exact ⟨a, by omega⟩
  · rintro ⟨a, b⟩
    by_cases c : key x = key y
    · exact .inr ⟨a, c⟩
    · exact .inl ⟨a, by omega⟩
theorem t_ge (x y : Nat) : ((FloatKind.f64.format.order x y == some .gt || FloatKind.f64.format.order x y == some .eq) = true) ↔ num2 x y ∧ key y ≤ key x := by
  rw [Bool.or_eq_true, t_gt, t_eq]
  constructor
  · rintro (⟨a, b⟩ | ⟨a, b⟩) <;> exact ⟨a, by omega⟩
  · rintro ⟨a, b⟩
    by_cases c : key x = key y
    · exact .inr ⟨a, c⟩
    · exact .inl ⟨a, by omega⟩

theorem wf_lt {x : Nat} (h : (Lit.float .f64 x).wf = true) : x < 18446744073709551616 := by
  simpa [Lit.wf] using h

end Go.Proofs.Ytjailboidlmadaa.Fl
