/- Plain facts on shares: a share lies between 0 and 1, and with more used it is no less. No program in sight. -/
import Derived.Test.YtoncmgkgflomlaaFlOps
import Derived.Test.YtoncmgkgflomlaaFlReal
namespace Go.Proofs.Ytoncmgkgflomlaa.Fl
open Go.RowKit Go.Proofs.YtoncmgkgflomlaaW.PrintWords
set_option linter.unusedVariables false

theorem V_one {e : Nat} (he : e = 1022) : V 4607182418800017408 = B * 2 ^ e := by
  have := V_at e B (.inr ⟨Nat.le_refl _, by have : B = 4503599627370496 := rfl; omega⟩)
  rw [← this, he]
  congr 1

theorem U_one (T : Nat) (hT : 1074 ≤ T) : U T 4607182418800017408 = 2 ^ T := by
  unfold U
  obtain ⟨e, he⟩ : ∃ e : Nat, e = 1022 := ⟨_, rfl⟩
  rw [V_one he, show B = 2 ^ 52 from rfl, ← Nat.pow_add, ← Nat.pow_add, show 52 + e + (T - 1074) = T by omega]

/-- of two positive numbers: of what sign and size the quotient is -/
theorem div_spec {u r : Nat} (h1 : ¬ nan u) (h2 : ¬ nan r) (h3 : 0 < key u) (h4 : key u < key r) :
    ∃ q, FloatKind.f64.format.div u r = some (FloatKind.f64.format.word false q) ∧ q ≤ 4607182418800017408 ∧ (q = 0 ∧ rung r = inf ∨ rung r < inf ∧ 0 < rung r ∧ Rnd TT (V (rung u) * 2 ^ TT) (V (rung r)) q) := by
  have n1 : neg u = false := by unfold key at h3; by_cases c : neg u = true; · rw [if_pos c] at h3; omega
                                simpa using c
  have h5 : 0 < key r := by omega
  have n2 : neg r = false := by unfold key at h5; by_cases c : neg r = true; · rw [if_pos c] at h5; omega
                                simpa using c
  unfold key at h3 h4
  rw [n1, if_neg (by decide)] at h3 h4
  rw [n2, if_neg (by decide)] at h4
  unfold nan at h1 h2
  by_cases c : rung r < inf
  · obtain ⟨q, e, hq⟩ := div_rnd (x := u) (y := r) (by omega) c (by omega) (by omega)
    rw [n1, n2] at e
    have hVr : 0 < V (rung r) := by have := V_lt (show 0 < rung r by omega); omega
    refine ⟨q, e, ?_, .inr ⟨c, by omega, hq⟩⟩
    refine hq.mono (Rnd.own (T := TT) (r := 4607182418800017408) (by decide)) hVr (by omega) ?_
    rw [U_one TT (by have := TT_eq; omega), Nat.mul_one, Nat.mul_comm]
    exact Nat.mul_le_mul_left _ (V_le (by omega))
  · refine ⟨0, ?_, by omega, .inl ⟨rfl, by omega⟩⟩
    obtain ⟨m, i, e1, _⟩ := read_num (x := u) (by omega)
    unfold Ieee.Format.div
    rw [e1, read_inf (x := r) (by omega), n1, n2]
    simp only [Ieee.Datum.quotient, Option.map_some, Ieee.Format.write]
    rw [nearest_zero]
    rfl

theorem one_inf : (4607182418800017408 : Nat) ≤ inf := by decide

theorem share_spec (u r : Nat) : ∃ s, sharev u r = some s ∧ ¬ nan s ∧ 0 ≤ key s ∧ key s ≤ 4607182418800017408 := by
  unfold sharev
  by_cases c1 : nan u ∨ nan r
  · rw [if_pos c1]; exact ⟨_, rfl, nan_one, by rw [key_one]; omega, by rw [key_one]; omega⟩
  · rw [if_neg c1]
    by_cases c2 : key r ≤ 0
    · rw [if_pos c2]; exact ⟨_, rfl, nan_one, by rw [key_one]; omega, by rw [key_one]; omega⟩
    · rw [if_neg c2]
      by_cases c3 : key u ≤ 0
      · rw [if_pos c3]; exact ⟨_, rfl, nan_zero, by rw [key_zero]; omega, by rw [key_zero]; omega⟩
      · rw [if_neg c3]
        by_cases c4 : key r ≤ key u
        · rw [if_pos c4]; exact ⟨_, rfl, nan_one, by rw [key_one]; omega, by rw [key_one]; omega⟩
        · rw [if_neg c4]
          obtain ⟨q, e, hq, _⟩ := div_spec (fun h => c1 (.inl h)) (fun h => c1 (.inr h)) (show 0 < key u by omega) (show key u < key r by omega)
          have := one_inf
          refine ⟨_, e, nan_word _ _ (by omega), ?_, ?_⟩
          · rw [key_word _ _ (by omega)]; unfold sg; rw [if_neg (by decide)]; omega
          · rw [key_word _ _ (by omega)]; unfold sg; rw [if_neg (by decide)]; omega

theorem share_mono {u m r s t : Nat} (hn : num2 u m) (hk : key u ≤ key m) (hs : sharev u r = some s) (ht : sharev m r = some t) : key s ≤ key t := by
  obtain ⟨s', e1, _, s0, s1⟩ := share_spec u r
  obtain ⟨t', e2, _, t0, t1⟩ := share_spec m r
  rw [hs] at e1
  rw [ht] at e2
  obtain rfl := Option.some.inj e1
  obtain rfl := Option.some.inj e2
  unfold sharev at hs ht
  by_cases c1 : nan r
  · rw [if_pos (.inr c1)] at hs ht
    obtain rfl := Option.some.inj hs
    obtain rfl := Option.some.inj ht
    omega
  · have q1 : ¬ (nan u ∨ nan r) := fun h => h.elim hn.1 c1
    have q2 : ¬ (nan m ∨ nan r) := fun h => h.elim hn.2 c1
    rw [if_neg q1] at hs
    rw [if_neg q2] at ht
    by_cases c2 : key r ≤ 0
    · rw [if_pos c2] at hs ht
      obtain rfl := Option.some.inj hs
      obtain rfl := Option.some.inj ht
      omega
    · rw [if_neg c2] at hs ht
      by_cases c3 : key u ≤ 0
      · rw [if_pos c3] at hs
        obtain rfl := Option.some.inj hs
        rw [key_zero]; exact t0
      · rw [if_neg c3] at hs
        rw [if_neg (by omega)] at ht
        by_cases c5 : key r ≤ key m
        · rw [if_pos c5] at ht
          obtain rfl := Option.some.inj ht
          rw [key_one]; exact s1
        · rw [if_neg c5] at ht
          rw [if_neg (by omega)] at hs
          obtain ⟨q, e3, hq, hr⟩ := div_spec hn.1 c1 (show 0 < key u by omega) (show key u < key r by omega)
          obtain ⟨q', e4, hq', hr'⟩ := div_spec hn.2 c1 (show 0 < key m by omega) (show key m < key r by omega)
          rw [hs] at e3
          rw [ht] at e4
          have es := Option.some.inj e3
          have et := Option.some.inj e4
          have := one_inf
          rw [es, et, key_word _ _ (by omega), key_word _ _ (by omega)]
          unfold sg
          rw [if_neg (by decide), if_neg (by decide)]
          rcases hr with ⟨rfl, _⟩ | ⟨h1, h2, h3⟩
          · omega
          · rcases hr' with ⟨_, h4⟩ | ⟨_, _, h5⟩
            · omega
            · have hVr : 0 < V (rung r) := by have := V_lt h2; omega
              have hv : V (rung u) ≤ V (rung m) := by
                refine V_le ?_
                have a1 : neg u = false := by by_cases c : neg u = true; · unfold key at c3; rw [if_pos c] at c3; omega
                                              simpa using c
                have a2 : neg m = false := by by_cases c : neg m = true; · unfold key at c3 hk; rw [if_pos c] at hk; split at hk <;> split at c3 <;> simp_all <;> omega
                                              simpa using c
                unfold key at hk
                rw [a1, a2, if_neg (by decide), if_neg (by decide)] at hk
                omega
              have := h3.mono h5 hVr hVr (Nat.mul_le_mul_right _ (Nat.mul_le_mul_right _ hv))
              omega

end Go.Proofs.Ytoncmgkgflomlaa.Fl
