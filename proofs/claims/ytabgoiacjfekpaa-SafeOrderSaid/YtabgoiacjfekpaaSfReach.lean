/- Plain facts on shares that are reached, for a seat that has no more of chapter 3 than holding and reaching (the same as FlReal, FlShare, FlReach, as far as needed). -/
import Derived.Test.YtabgoiacjfekpaaFlOps
import Derived.Test.YtabgoiacjfekpaaSp
import Derived.Test.YtabgoiacjfekpaaPx1
import Derived.Test.YtabgoiacjfekpaaPx9
import Derived.Test.YtabgoiacjfekpaaPx2
import Derived.Test.YtabgoiacjfekpaaPx10
namespace Go.Proofs.Ytabgoiacjfekpaa.Fl
open Go.RowKit Go.Proofs.Ytabgoiacjfekpaa.P Go.Proofs.YtabgoiacjfekpaaW.PrintWords Go.Proofs.YtabgoiacjfekpaaW.PrintLast Go.Proofs.YtabgoiacjfekpaaW.PrintMore
set_option linter.unusedVariables false

theorem isNaN_at (x : Nat) : math_IsNaN.f x = some (decide (nan x)) := by unfold math_IsNaN.f; rw [t_ne]
def clampv (f lo hi : Nat) : Nat := if nan f ∨ nan lo ∨ nan hi then lo else if key f < key lo then lo else if key hi < key f then hi else f

theorem t_lt_num {x y : Nat} (h : num2 x y) : (FloatKind.f64.format.order x y == some .lt) = decide (key x < key y) := by
  by_cases c : key x < key y
  · rw [decide_eq_true c]; exact (t_lt x y).2 ⟨h, c⟩
  · rw [decide_eq_false c]; exact Bool.eq_false_iff.mpr fun q => c ((t_lt x y).1 q).2

theorem clamp_at (f lo hi k : Nat) (hk : 2 ≤ k) : real_Clamp.f k f lo hi = some (clampv f lo hi) := by
  obtain ⟨k, rfl⟩ : ∃ m, k = m + 1 := ⟨k - 1, by omega⟩
  unfold real_Clamp.f clampv
  rw [isNaN_at, isNaN_at, isNaN_at]
  simp only [Option.bind_some, real_Clamp.j0]
  by_cases c1 : nan f
  · simp [c1]
  · by_cases c2 : nan lo
    · simp [c1, c2]
    · by_cases c3 : nan hi
      · simp [c1, c2, c3]
      · rw [t_lt_num ⟨c1, c2⟩, t_lt_num ⟨c3, c1⟩]
        by_cases c4 : key f < key lo
        · simp [c1, c2, c3, c4]
        · by_cases c5 : key hi < key f
          · simp [c1, c2, c3, c4, c5]
          · simp [c1, c2, c3, c4, c5]

theorem ref_clamp_at (f lo hi k : Nat) (hk : 2 ≤ k) : tabulariumref03_Clamp.f k f lo hi = some (clampv f lo hi) := by
  obtain ⟨k, rfl⟩ : ∃ m, k = m + 1 := ⟨k - 1, by omega⟩
  unfold tabulariumref03_Clamp.f clampv
  rw [t_ne, t_ne, t_ne]
  simp only [tabulariumref03_Clamp.j0]
  by_cases c1 : nan f
  · simp [c1]
  · by_cases c2 : nan lo
    · simp [c1, c2]
    · by_cases c3 : nan hi
      · simp [c1, c2, c3]
      · rw [t_lt_num ⟨c1, c2⟩, t_lt_num ⟨c3, c1⟩]
        by_cases c4 : key f < key lo
        · simp [c1, c2, c3, c4]
        · by_cases c5 : key hi < key f
          · simp [c1, c2, c3, c4, c5]
          · simp [c1, c2, c3, c4, c5]

/-! ### how much is used -/
theorem key_zero : key 0 = 0 := by decide
theorem nan_zero : ¬ nan 0 := by decide
def one : Nat := 4607182418800017408
theorem key_one : key one = 4607182418800017408 := by decide
theorem nan_one : ¬ nan one := by decide

theorem opt_getD {o : Option Nat} : (if o.isSome = true then some (o.getD 0) else none) = o := by cases o <;> rfl

theorem t_le_num {x y : Nat} (h : num2 x y) : (FloatKind.f64.format.order x y == some .lt || FloatKind.f64.format.order x y == some .eq) = decide (key x ≤ key y) := by
  by_cases c : key x ≤ key y
  · rw [decide_eq_true c]; exact (t_le x y).2 ⟨h, c⟩
  · rw [decide_eq_false c]; exact Bool.eq_false_iff.mpr fun q => c ((t_le x y).1 q).2
theorem t_ge_num {x y : Nat} (h : num2 x y) : (FloatKind.f64.format.order x y == some .gt || FloatKind.f64.format.order x y == some .eq) = decide (key y ≤ key x) := by
  by_cases c : key y ≤ key x
  · rw [decide_eq_true c]; exact (t_ge x y).2 ⟨h, c⟩
  · rw [decide_eq_false c]; exact Bool.eq_false_iff.mpr fun q => c ((t_ge x y).1 q).2
theorem t_gt_num {x y : Nat} (h : num2 x y) : (FloatKind.f64.format.order x y == some .gt) = decide (key y < key x) := by
  by_cases c : key y < key x
  · rw [decide_eq_true c]; exact (t_gt x y).2 ⟨h, c⟩
  · rw [decide_eq_false c]; exact Bool.eq_false_iff.mpr fun q => c ((t_gt x y).1 q).2

theorem V_one {e : Nat} (he : e = 1022) : V 4607182418800017408 = B * 2 ^ e := by
  have := V_at e B (.inr ⟨Nat.le_refl _, by have : B = 4503599627370496 := rfl; omega⟩)
  rw [← this, he]
  congr 1

theorem U_one (T : Nat) (hT : 1074 ≤ T) : U T 4607182418800017408 = 2 ^ T := by
  unfold U
  obtain ⟨e, he⟩ : ∃ e : Nat, e = 1022 := ⟨_, rfl⟩
  rw [V_one he, show B = 2 ^ 52 from rfl, ← Nat.pow_add, ← Nat.pow_add, show 52 + e + (T - 1074) = T by omega]

theorem one_inf : (4607182418800017408 : Nat) ≤ inf := by decide


def TM : Nat := 2148
theorem TM_eq : TM = 2148 := rfl

/-- the rung of a whole number from 0 on -/
theorem fi_spec (n : Nat) : ∃ r, floatOfInt .f64 (n : Int) = FloatKind.f64.format.word false r ∧ r ≤ inf ∧ Rnd TM (n * 2 ^ TM) 1 r := by
  have := TM_eq
  obtain ⟨r, h1, h2⟩ := fi_nat n TM (by omega)
  exact ⟨r, h1, h2.1, h2⟩

theorem fi_mono {a b : Nat} (h : a ≤ b) : key (floatOfInt .f64 (a : Int)) ≤ key (floatOfInt .f64 (b : Int)) := by
  obtain ⟨r, e1, i1, h1⟩ := fi_spec a
  obtain ⟨q, e2, i2, h2⟩ := fi_spec b
  rw [e1, e2, key_word _ _ i1, key_word _ _ i2]
  unfold sg
  rw [if_neg (by decide), if_neg (by decide)]
  have := h1.mono h2 (by omega) (by omega) (Nat.mul_le_mul_right _ (Nat.mul_le_mul_right _ h))
  omega

theorem fi_nan (n : Nat) : ¬ nan (floatOfInt .f64 (n : Int)) := by
  obtain ⟨r, e1, i1, h1⟩ := fi_spec n
  rw [e1]; exact nan_word _ _ i1

/-- the rung of a whole number from 1 on: it is finite and not 0 -/
theorem fi_pos {n : Nat} (h1 : 1 ≤ n) (h2 : n ≤ 2 ^ 63) : ∃ r, floatOfInt .f64 (n : Int) = FloatKind.f64.format.word false r ∧ 0 < r ∧ r < inf ∧ Rnd TM (n * 2 ^ TM) 1 r := by
  have hT := TM_eq
  obtain ⟨r, e1, i1, hr⟩ := fi_spec n
  refine ⟨r, e1, ?_, ?_, hr⟩
  · have := (Rnd.own (T := TM) (r := 4607182418800017408) (by decide)).mono hr (by omega) (by omega) (by
      rw [U_one TM (by omega), Nat.mul_one, Nat.mul_one]
      exact Nat.le_mul_of_pos_left _ h1)
    omega
  · obtain ⟨e, he⟩ : ∃ e : Nat, e = 1085 := ⟨_, rfl⟩
    have hv := V_at e B (.inr ⟨Nat.le_refl _, by have : B = 4503599627370496 := rfl; omega⟩)
    have hB : B = 4503599627370496 := rfl
    have hinf : inf = 9218868437227405312 := rfl
    have heB : e * B + B = 4890909195324358656 := by rw [he, hB]
    have hu : U TM (e * B + B) = 2 ^ 63 * 2 ^ TM := by
      unfold U
      rw [hv, show B = 2 ^ 52 from rfl, ← Nat.pow_add, ← Nat.pow_add, ← Nat.pow_add, show 52 + e + (TM - 1074) = 63 + TM by omega]
    have := hr.mono (Rnd.own (T := TM) (r := e * B + B) (by omega)) (by omega) (by omega) (by
      rw [hu, Nat.mul_one, Nat.mul_one]
      exact Nat.mul_le_mul_right _ h2)
    omega

/-- of what sign and size a share of a whole number is -/
theorem mul_spec {s f rw_ : Nat} (hs : ¬ nan s) (hf : f = FloatKind.f64.format.word false rw_) (h0 : 0 < rw_) (hi : rw_ < inf) :
    ∃ r, FloatKind.f64.format.mul s f = some (FloatKind.f64.format.word (neg s) r) ∧ r ≤ inf ∧ (rung s = inf → r = inf) ∧ (rung s < inf → Rnd TM (V (rung s) * V rw_) 1 r) := by
  obtain ⟨w1, w2⟩ := word_at false rw_ (by omega)
  rw [← hf] at w1 w2
  unfold nan at hs
  by_cases c : rung s < inf
  · obtain ⟨r, e, h⟩ := mul_rnd c (show rung f < inf by omega)
    rw [w2, Bool.xor_false] at e
    rw [w1] at h
    exact ⟨r, e, h.1, fun q => by omega, fun _ => h⟩
  · refine ⟨inf, ?_, Nat.le_refl _, fun _ => rfl, fun q => absurd q c⟩
    obtain ⟨m, i, e2, v2⟩ := read_num (x := f) (by omega)
    have hm : m ≠ 0 := by
      rintro rfl
      rw [Nat.zero_mul, ← V_zero, w1] at v2
      have := V_inj v2
      omega
    unfold Ieee.Format.mul
    rw [read_inf (x := s) (by omega), e2]
    simp only [Ieee.Datum.product]
    rw [if_neg hm, w2, Bool.xor_false]
    simp only [Option.map_some, Ieee.Format.write, f_inf]

theorem mul_mono {s t f rw_ p q : Nat} (hs : ¬ nan s) (ht : ¬ nan t) (hf : f = FloatKind.f64.format.word false rw_) (h0 : 0 < rw_) (hi : rw_ < inf)
    (hp : FloatKind.f64.format.mul s f = some p) (hq : FloatKind.f64.format.mul t f = some q) (hk : key s ≤ key t) : key p ≤ key q := by
  obtain ⟨a, e1, i1, a1, a2⟩ := mul_spec hs hf h0 hi
  obtain ⟨b, e2, i2, b1, b2⟩ := mul_spec ht hf h0 hi
  rw [hp] at e1
  rw [hq] at e2
  have g1 := Option.some.inj e1
  have g2 := Option.some.inj e2
  rw [g1, g2, key_word _ _ i1, key_word _ _ i2]
  unfold nan at hs ht
  have hle : ∀ {x y a b : Nat}, x ≤ y → y ≤ inf → (x < inf → Rnd TM (V x * V rw_) 1 a) → (y = inf → b = inf) → (y < inf → Rnd TM (V y * V rw_) 1 b) → (x = inf → a = inf) → a ≤ inf → a ≤ b := by
    intro x y a b h h' p1 p2 p3 p4 p5
    by_cases c : y < inf
    · exact (p1 (by omega)).mono (p3 c) (by omega) (by omega) (Nat.mul_le_mul_right _ (Nat.mul_le_mul_right _ (V_le h)))
    · rw [p2 (by omega)]; exact p5
  have hz : ∀ {x a : Nat}, x = 0 → (x < inf → Rnd TM (V x * V rw_) 1 a) → a = 0 := by
    intro x a h p
    subst h
    have := p (by decide)
    rw [V_zero, Nat.zero_mul] at this
    exact this.unique (by omega) (rnd_zero TM 1 (by omega))
  rw [key_sg, key_sg] at hk
  unfold sg at hk ⊢
  cases c1 : neg s <;> cases c2 : neg t <;> simp only [c1, c2, if_true, if_false, Bool.false_eq_true] at hk ⊢
  · have := hle (show rung s ≤ rung t by omega) (by omega) a2 b1 b2 a1 i1; omega
  · have z1 := hz (show rung s = 0 by omega) a2
    have z2 := hz (show rung t = 0 by omega) b2
    omega
  · omega
  · have := hle (show rung t ≤ rung s by omega) (by omega) b2 a1 a2 b1 i2; omega

theorem mul_one_ {f rw_ : Nat} (hf : f = FloatKind.f64.format.word false rw_) (h0 : 0 < rw_) (hi : rw_ < inf) : FloatKind.f64.format.mul one f = some f := by
  have hT := TM_eq
  have hr1 : rung one = 4607182418800017408 := by decide
  obtain ⟨r, e, i, _, h⟩ := mul_spec nan_one hf h0 hi
  have h := h (by rw [hr1]; decide)
  have hu : V (rung one) * V rw_ = U TM rw_ := by
    obtain ⟨x, hx⟩ : ∃ e : Nat, e = 1022 := ⟨_, rfl⟩
    rw [hr1, V_one hx]
    unfold U
    rw [show B = 2 ^ 52 from rfl, ← Nat.pow_add, Nat.mul_comm, show 52 + x = TM - 1074 by omega]
  rw [hu] at h
  have := h.unique (by omega) (Rnd.own (by omega))
  rw [e, this, hf]
  congr 2

/-- is a share of what is wanted there? -/
def reachv (have_ want : Int) (share : Nat) : Bool :=
  if want < 1 then true else if nan share then false else !(FloatKind.f64.format.order (floatOfInt .f64 (mx have_ 0)) ((FloatKind.f64.format.mul share (floatOfInt .f64 want)).getD 0) == some .lt)

theorem want_nat {want : Int} (h1 : ¬ want < 1) (h2 : want ≤ 9223372036854775807) : ∃ n : Nat, want = (n : Int) ∧ 1 ≤ n ∧ n ≤ 2 ^ 63 := ⟨want.toNat, by omega, by omega, by omega⟩
theorem mx_nat (a : Int) : mx a 0 = ((a.toNat : Nat) : Int) := by unfold mx; split <;> omega

theorem mul_is {want : Int} {share : Nat} (h1 : ¬ want < 1) (h2 : want ≤ 9223372036854775807) (hs : ¬ nan share) : ∃ p, FloatKind.f64.format.mul share (floatOfInt .f64 want) = some p ∧ ¬ nan p := by
  obtain ⟨n, rfl, a, b⟩ := want_nat h1 h2
  obtain ⟨r, e, p0, pi, _⟩ := fi_pos a b
  obtain ⟨q, e2, hq, _⟩ := mul_spec hs e p0 pi
  exact ⟨_, e2, nan_word _ _ hq⟩

theorem reached_at (have_ want : Int) (share : Nat) (h2 : want ≤ 9223372036854775807) : real_Reached.f have_ want share = some (reachv have_ want share) := by
  unfold real_Reached.f reachv
  by_cases c1 : want < 1
  · rw [if_pos c1, if_pos c1]
  · rw [if_neg c1, if_neg c1, isNaN_at]
    simp only [Option.bind_some, decide_eq_true_eq]
    by_cases c2 : nan share
    · rw [if_pos c2, if_pos c2]
    · rw [if_neg c2, if_neg c2]
      obtain ⟨p, e, _⟩ := mul_is c1 h2 c2
      rw [e]
      rfl

theorem ref_reached_at (have_ want : Int) (share : Nat) (h2 : want ≤ 9223372036854775807) : tabulariumref03_Reached.f have_ want share = some (reachv have_ want share) := by
  unfold tabulariumref03_Reached.f reachv
  by_cases c1 : want < 1
  · rw [if_pos c1, if_pos c1]
  · rw [if_neg c1, if_neg c1, t_ne]
    simp only [decide_eq_true_eq]
    by_cases c2 : nan share
    · rw [if_pos c2, if_pos c2]
    · rw [if_neg c2, if_neg c2]
      obtain ⟨p, e, _⟩ := mul_is c1 h2 c2
      rw [e]
      rfl

/-- what it says, by keys -/
theorem reach_iff {have_ want : Int} {share p : Nat} (h1 : ¬ want < 1) (hs : ¬ nan share) (hp : FloatKind.f64.format.mul share (floatOfInt .f64 want) = some p) (np : ¬ nan p) :
    reachv have_ want share = true ↔ key p ≤ key (floatOfInt .f64 (mx have_ 0)) := by
  unfold reachv
  rw [if_neg h1, if_neg hs, hp]
  simp only [Option.getD_some]
  have hf : ¬ nan (floatOfInt .f64 (mx have_ 0)) := by rw [mx_nat]; exact fi_nan _
  rw [t_lt_num ⟨hf, np⟩]
  simp

theorem reach_more {a b want : Int} {share : Nat} (h2 : want ≤ 9223372036854775807) (h : reachv a want share = true) (hab : a ≤ b) : reachv b want share = true := by
  by_cases c1 : want < 1
  · unfold reachv; rw [if_pos c1]
  · by_cases c2 : nan share
    · unfold reachv at h; rw [if_neg c1, if_pos c2] at h; cases h
    · obtain ⟨p, e, np⟩ := mul_is c1 h2 c2
      rw [reach_iff c1 c2 e np] at h ⊢
      rw [mx_nat] at h ⊢
      have := fi_mono (show a.toNat ≤ b.toNat by omega)
      omega

theorem reach_less {a want : Int} {share less : Nat} (h2 : want ≤ 9223372036854775807) (h : reachv a want share = true) (hn : ¬ nan less) (hk : key less ≤ key share) (hs : ¬ nan share) : reachv a want less = true := by
  by_cases c1 : want < 1
  · unfold reachv; rw [if_pos c1]
  · obtain ⟨p, e, np⟩ := mul_is c1 h2 hs
    obtain ⟨q, e2, nq⟩ := mul_is c1 h2 hn
    rw [reach_iff c1 hs e np] at h
    rw [reach_iff c1 hn e2 nq]
    obtain ⟨n, rfl, x, y⟩ := want_nat c1 h2
    obtain ⟨r, er, p0, pi, _⟩ := fi_pos x y
    have := mul_mono hn hs er p0 pi e2 e hk
    omega

theorem reach_all {a want : Int} (h2 : want ≤ 9223372036854775807) (h : want ≤ a) : reachv a want one = true := by
  by_cases c1 : want < 1
  · unfold reachv; rw [if_pos c1]
  · obtain ⟨p, e, np⟩ := mul_is c1 h2 nan_one
    rw [reach_iff c1 nan_one e np, mx_nat]
    obtain ⟨n, rfl, x, y⟩ := want_nat c1 h2
    obtain ⟨r, er, p0, pi, _⟩ := fi_pos x y
    rw [mul_one_ er p0 pi] at e
    obtain rfl := Option.some.inj e
    exact fi_mono (by omega)

end Go.Proofs.Ytabgoiacjfekpaa.Fl
