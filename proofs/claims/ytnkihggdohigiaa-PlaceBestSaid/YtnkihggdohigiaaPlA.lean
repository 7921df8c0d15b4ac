/- The reference's order of two fractions. -/
import Derived.Test.YtnkihggdohigiaaFlB
import Derived.Test.YtnkihggdohigiaaPx12
import Derived.Test.YtnkihggdohigiaaPx13
import Derived.Test.YtnkihggdohigiaaPx5
import Derived.Test.YtnkihggdohigiaaPx1
import Derived.Test.YtnkihggdohigiaaPx15
import Derived.Test.YtnkihggdohigiaaPx11
section

namespace Go.Proofs.Ytnkihggdohigiaa.Pure
open Go.RowKit Go.Proofs.Ytnkihggdohigiaa.P Go.Proofs.Ytnkihggdohigiaa.Fl Go.Proofs.YtnkihggdohigiaaW.PrintWords Go.Proofs.YtnkihggdohigiaaW.PrintLast Go.Proofs.YtnkihggdohigiaaW.PrintMore
set_option linter.unusedVariables false

theorem key0 : key 0 = 0 := by decide
theorem nan0 : ¬ nan 0 := by decide
theorem key_nan {a : Nat} (h : nan a) : tabulariumref03_key.f a = some (2, 0, 0) := by
  unfold tabulariumref03_key.f
  rw [t_ne, decide_eq_true h, if_pos rfl]
theorem key_num {a : Nat} (ha : a < 18446744073709551616) (h : ¬ nan a) : ∃ f p, tabulariumref03_key.f a = some (1, f, p) ∧ ¬ nan f ∧ key f = key a ∧ (key a = 0 → p = if neg a = true then 0 else 1) := by
  unfold tabulariumref03_key.f
  rw [t_ne, decide_eq_false h, if_neg (by decide), signbit_at ha, Option.bind_some]
  have e := t_eq a 0
  by_cases c : (FloatKind.f64.format.order a 0 == some .eq) = true
  · rw [if_pos c]
    have hk : key a = 0 := by rw [(e.1 c).2, key0]
    by_cases n : neg a = true
    · rw [if_pos n]
      exact ⟨0, 0, rfl, nan0, by rw [key0, hk], fun _ => (if_pos n).symm⟩
    · rw [if_neg n]
      exact ⟨a, 1, rfl, h, rfl, fun _ => (if_neg n).symm⟩
  · rw [if_neg c]
    exact ⟨a, 1, rfl, h, rfl, fun q => absurd (e.2 ⟨⟨h, nan0⟩, by rw [q, key0]⟩) c⟩

theorem refOrder_at {a b : Nat} (ha : a < 18446744073709551616) (hb : b < 18446744073709551616) (k : Nat) : tabulariumref03_Order.f (k + 1) a b = some (ordv a b) := by
  unfold tabulariumref03_Order.f
  by_cases na : nan a
  · rw [key_nan na, Option.bind_some]
    by_cases nb : nan b
    · rw [key_nan nb, Option.bind_some, show ordv a b = 0 from by unfold ordv; rw [rank_nan na, rank_nan nb]; rfl]
      rfl
    · obtain ⟨g, q, hg, _⟩ := key_num hb nb
      have h1 := rank_nan na
      have h2 := rank_lt_nan hb nb
      rw [hg, Option.bind_some, if_neg (show ¬ (2 : Int) = 1 by decide), show ordv a b = 1 from by unfold ordv; rw [if_neg (by omega), if_pos (by omega)]]
      rfl
  · obtain ⟨f, p, hf, f1, f2, f3⟩ := key_num ha na
    rw [hf, Option.bind_some]
    by_cases nb : nan b
    · have h1 := rank_nan nb
      have h2 := rank_lt_nan ha na
      rw [key_nan nb, Option.bind_some, if_neg (show ¬ (1 : Int) = 2 by decide), show ordv a b = -1 from by unfold ordv; rw [if_pos (by omega)]]
      rfl
    · obtain ⟨g, q, hg, g1, g2, g3⟩ := key_num hb nb
      rw [hg, Option.bind_some, if_pos rfl]
      simp only
      have tl := t_lt f g
      have tg := t_gt f g
      have te := t_eq f 0
      rw [f2, g2] at tl tg
      rw [f2, key0] at te
      have ra := rank_key ha na
      have rb := rank_key hb nb
      by_cases c1 : key a < key b
      · have hl := tl.2 ⟨⟨f1, g1⟩, c1⟩
        rw [if_pos hl, tabulariumref03_Order.j0, if_pos rfl, hl, show ordv a b = -1 from by unfold ordv; rw [if_pos (rank_of_lt ha hb ⟨na, nb⟩ c1)]]
        rfl
      · have hl : (FloatKind.f64.format.order f g == some .lt) = false := Bool.eq_false_iff.mpr (fun h => c1 (tl.1 h).2)
        rw [hl, if_neg (by decide), tabulariumref03_Order.j0]
        by_cases c2 : key b < key a
        · have hh := rank_of_lt hb ha ⟨nb, na⟩ c2
          rw [if_pos (tg.2 ⟨⟨f1, g1⟩, c2⟩), hl, show ordv a b = 1 from by unfold ordv; rw [if_neg (by omega), if_pos hh]]
          rfl
        · rw [if_neg (fun h => c2 (tg.1 h).2)]
          by_cases c3 : key a = 0
          · rw [if_pos (te.2 ⟨⟨f1, nan0⟩, c3⟩), f3 c3, g3 (by omega)]
            rcases ra with ⟨n1, r1, r2⟩ | ⟨n1, r1, r2, r3⟩ <;> rcases rb with ⟨m1, s1, s2⟩ | ⟨m1, s1, s2, s3⟩ <;> rw [n1, m1]
            · rw [if_pos rfl, show ordv a b = 0 from by unfold ordv; rw [if_neg (by omega), if_neg (by omega)]]
            · rw [if_pos rfl, if_neg (by decide), if_neg (by decide), show ordv a b = -1 from by unfold ordv; rw [if_pos (by omega)]]
              rfl
            · rw [if_pos rfl, if_neg (by decide), if_neg (by decide), show ordv a b = 1 from by unfold ordv; rw [if_neg (by omega), if_pos (by omega)]]
              rfl
            · rw [if_pos rfl, show ordv a b = 0 from by unfold ordv; rw [if_neg (by omega), if_neg (by omega)]]
          · rw [if_neg (fun h => c3 (te.1 h).2), show ordv a b = 0 from by unfold ordv; rcases ra with ⟨n1, r1, r2⟩ | ⟨n1, r1, r2, r3⟩ <;> rcases rb with ⟨m1, s1, s2⟩ | ⟨m1, s1, s2, s3⟩ <;> rw [if_neg (by omega), if_neg (by omega)]]

end Go.Proofs.Ytnkihggdohigiaa.Pure
end

section

namespace Go.Proofs.Ytnkihggdohigiaa.Pure
open Go.RowKit Go.Proofs.Ytnkihggdohigiaa.P Go.Proofs.Ytnkihggdohigiaa.Fl Go.Proofs.YtnkihggdohigiaaW.PrintWords Go.Proofs.YtnkihggdohigiaaW.PrintLast Go.Proofs.YtnkihggdohigiaaW.PrintMore
set_option linter.unusedVariables false

theorem share_word (u r : Nat) : ∃ s, sharev u r = some s ∧ s ≤ 4607182418800017408 := by
  unfold sharev
  by_cases c1 : nan u ∨ nan r
  · rw [if_pos c1]; exact ⟨_, rfl, Nat.le_refl _⟩
  · rw [if_neg c1]
    by_cases c2 : key r ≤ 0
    · rw [if_pos c2]; exact ⟨_, rfl, Nat.le_refl _⟩
    · rw [if_neg c2]
      by_cases c3 : key u ≤ 0
      · rw [if_pos c3]; exact ⟨_, rfl, by omega⟩
      · rw [if_neg c3]
        by_cases c4 : key r ≤ key u
        · rw [if_pos c4]; exact ⟨_, rfl, Nat.le_refl _⟩
        · rw [if_neg c4]
          obtain ⟨q, e, hq, _⟩ := div_spec (fun h => c1 (.inl h)) (fun h => c1 (.inr h)) (by omega) (by omega)
          exact ⟨_, e, hq⟩
def shv (x : S26) : Nat := (sharev x.f1 x.f0).getD 0
def bev (x : S26) : Nat := if nan x.f2 then one else clampv x.f2 0 one
theorem shv_at (x : S26) : sharev x.f1 x.f0 = some (shv x) := by
  obtain ⟨s, hs⟩ := share_some x.f1 x.f0
  unfold shv; rw [hs]; rfl
theorem shv_le (x : S26) : shv x ≤ 4607182418800017408 := by
  obtain ⟨s, hs, h⟩ := share_word x.f1 x.f0
  unfold shv; rw [hs]; exact h
theorem shv_lt (x : S26) : shv x < 18446744073709551616 := Nat.lt_of_le_of_lt (shv_le x) (by decide)
theorem bev_lt {x : S26} (h : x.f2 < 18446744073709551616) : bev x < 18446744073709551616 := by
  unfold bev clampv one
  repeat' split
  all_goals first | exact h | decide
theorem share_f (x : S26) (k : Nat) (hk : 2 ≤ k) : place_share.f k x.f0 x.f1 x.f2 = some (shv x) := by
  unfold place_share.f
  rw [share_at _ _ _ hk, shv_at]; rfl
theorem refshare_f (x : S26) (k : Nat) (hk : 2 ≤ k) : tabulariumref22_share.f k x.f0 x.f1 x.f2 = some (shv x) := by
  unfold tabulariumref22_share.f
  rw [ref_share_at _ _ _ hk, shv_at]; rfl
theorem busy_f (x : S26) (k : Nat) (hk : 2 ≤ k) : place_busy.f k x.f0 x.f1 x.f2 = some (bev x) := by
  unfold place_busy.f bev
  rw [t_ne]
  by_cases c : nan x.f2
  · rw [decide_eq_true c, if_pos rfl, if_pos c]; rfl
  · rw [decide_eq_false c, if_neg (by decide), if_neg c, clamp_at _ _ _ _ hk]; rfl
theorem refbusy_f (x : S26) (k : Nat) (hk : 2 ≤ k) : tabulariumref22_busy.f k x.f0 x.f1 x.f2 = some (bev x) := by
  unfold tabulariumref22_busy.f bev
  rw [t_ne]
  by_cases c : nan x.f2
  · rw [decide_eq_true c, if_pos rfl, if_pos c]; rfl
  · rw [decide_eq_false c, if_neg (by decide), if_neg c, ref_clamp_at _ _ _ _ hk]; rfl
/-- has room -/
def fitv (x : S26) : Bool := FloatKind.f64.format.order (shv x) 4607182418800017408 == some .lt
theorem fit_f (x : S26) (k : Nat) (hk : 2 ≤ k) : place_Fit.f k x.f0 x.f1 x.f2 = some (fitv x) := by
  unfold place_Fit.f
  rw [share_f x k hk]; rfl
theorem reffit_f (x : S26) (k : Nat) (hk : 2 ≤ k) : tabulariumref22_Fit.f k x.f0 x.f1 x.f2 = some (fitv x) := by
  unfold tabulariumref22_Fit.f
  rw [refshare_f x k hk]; rfl

/-- the number that tells how good a load is: the less the better -/
def goodn (x : S26) : Nat := rankv (shv x) * 18446744073709551616 + rankv (bev x)
def cmpN (a b : Nat) : Int := if a < b then -1 else if b < a then 1 else 0
theorem rankv_lt {a : Nat} (h : a < 18446744073709551616) : rankv a < 18446744073709551616 := by
  by_cases n : nan a
  · rw [rank_nan n]; decide
  · have := rank_lt_nan h n; omega
theorem cmp_two {a b c d : Nat} (hc : rankv c < 18446744073709551616) (hd : rankv d < 18446744073709551616) : (if ordv a b = 0 then ordv c d else ordv a b) = cmpN (rankv a * 18446744073709551616 + rankv c) (rankv b * 18446744073709551616 + rankv d) := by
  unfold ordv cmpN
  repeat' split
  all_goals first | rfl | omega
theorem or_at (a b : Int) (k : Nat) (hk : 3 ≤ k) : cmp_Or_int.f k [a, b] = some (if a = 0 then b else a) := by
  obtain ⟨q, rfl⟩ : ∃ q, k = q + 3 := ⟨k - 3, by omega⟩
  unfold cmp_Or_int.f
  have r0 : rd [a, b] 0 = a := rfl
  have r1 : rd [a, b] 1 = b := rfl
  have w1 : wrap64 (0 + 1) = 1 := by unfold wrap64; omega
  have w2 : wrap64 (1 + 1) = 2 := by unfold wrap64; omega
  have hl : (([a, b] : List Int).length : Int) = 2 := rfl
  rw [hl, cmp_Or_int.l0, if_pos (by decide), if_pos (by decide), if_pos (by simp), r0]
  by_cases c : a = 0
  · rw [if_pos c, if_pos c, cmp_Or_int.l0, w1, if_pos (by decide), if_pos (by decide), if_pos (by simp)]
    rw [r1]
    by_cases d : b = 0
    · rw [if_pos d, cmp_Or_int.l0, w2, if_neg (by decide), d]
    · rw [if_neg d]
  · rw [if_neg c, if_neg c]
theorem before_f (x y : S26) (hx : x.f2 < 18446744073709551616) (hy : y.f2 < 18446744073709551616) (k : Nat) (hk : 3 ≤ k) : place_Before.f k x.f0 x.f1 x.f2 y.f0 y.f1 y.f2 = some (cmpN (goodn x) (goodn y)) := by
  unfold place_Before.f
  rw [share_f x k (by omega), share_f y k (by omega), busy_f x k (by omega), busy_f y k (by omega)]
  simp only [Option.bind_some]
  rw [order_at (shv_lt x) (shv_lt y)]
  simp only [Option.bind_some]
  rw [order_at (bev_lt hx) (bev_lt hy)]
  simp only [Option.bind_some]
  rw [or_at _ _ _ hk, cmp_two (rankv_lt (bev_lt hx)) (rankv_lt (bev_lt hy))]
  rfl
theorem refbefore_f (x y : S26) (hx : x.f2 < 18446744073709551616) (hy : y.f2 < 18446744073709551616) (k : Nat) (hk : 3 ≤ k) : tabulariumref22_Before.f k x.f0 x.f1 x.f2 y.f0 y.f1 y.f2 = some (cmpN (goodn x) (goodn y)) := by
  obtain ⟨q, rfl⟩ : ∃ q, k = q + 1 := ⟨k - 1, by omega⟩
  unfold tabulariumref22_Before.f
  rw [refshare_f x _ (by omega), refshare_f y _ (by omega), refbusy_f x _ (by omega), refbusy_f y _ (by omega)]
  simp only [Option.bind_some]
  rw [refOrder_at (shv_lt x) (shv_lt y)]
  simp only [Option.bind_some]
  rw [refOrder_at (bev_lt hx) (bev_lt hy)]
  simp only [Option.bind_some]
  have h := cmp_two (a := shv x) (b := shv y) (rankv_lt (bev_lt hx)) (rankv_lt (bev_lt hy))
  show _ = some (cmpN (rankv (shv x) * 18446744073709551616 + rankv (bev x)) (rankv (shv y) * 18446744073709551616 + rankv (bev y)))
  rw [← h]
  by_cases c : ordv (shv x) (shv y) = 0
  · rw [if_pos c, if_pos c]
  · rw [if_neg c, if_neg c]
end Go.Proofs.Ytnkihggdohigiaa.Pure
end
