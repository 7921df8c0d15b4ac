/- The law PlaceSpread over plain functions: how unlike loads are lies between 0 and 1; of one alone it is 0; with one more it is no less. For every list of loads (the first fifty) and every one more. -/
import Derived.Test.YtnkihggdohigiaaPlC
import Derived.Test.YtnkihggdohigiaaPx22
namespace Go.Proofs.Ytnkihggdohigiaa.Pure
open Go.RowKit Go.Proofs.Ytnkihggdohigiaa.P Go.Proofs.Ytnkihggdohigiaa.Fl Go.Proofs.YtnkihggdohigiaaW.PrintWords Go.Proofs.YtnkihggdohigiaaW.PrintLast Go.Proofs.YtnkihggdohigiaaW.PrintMore
set_option linter.unusedVariables false

theorem spv_le (L : List S26) : spv L ≤ 4607182418800017408 := by
  cases L with
  | nil => exact Nat.zero_le _
  | cons x L =>
    have h1 := mxl_le L (shv x) (shv_le x)
    exact Nat.le_trans (sub_at h1 (Nat.le_trans (mnl_le L _) (mxl_ge L _))).2 h1
theorem spv_one (x : S26) : spv [x] = 0 := sub_self (shv_le x)
theorem spv_more (L : List S26) (x : S26) : spv L ≤ spv (L ++ [x]) := by
  cases L with
  | nil => exact Nat.zero_le _
  | cons y L =>
    show subv (mxl (shv y) L) (mnl (shv y) L) ≤ subv (mxl (shv y) (L ++ [x])) (mnl (shv y) (L ++ [x]))
    have e1 : mxl (shv y) (L ++ [x]) = max (mxl (shv y) L) (shv x) := by unfold mxl; rw [List.foldl_append]; rfl
    have e2 : mnl (shv y) (L ++ [x]) = min (mnl (shv y) L) (shv x) := by unfold mnl; rw [List.foldl_append]; rfl
    rw [e1, e2]
    exact sub_more (Nat.max_le.2 ⟨mxl_le L _ (shv_le y), shv_le x⟩) (Nat.le_trans (mnl_le L _) (mxl_ge L _)) (Nat.le_max_left _ _) (Nat.min_le_left _ _)
theorem ge_w {x y : Nat} (hx : x ≤ 4607182418800017408) (hy : y ≤ 4607182418800017408) (h : y ≤ x) : (FloatKind.f64.format.order x y == some .gt || FloatKind.f64.format.order x y == some .eq) = true := by
  obtain ⟨_, _, kx, nx⟩ := word_facts hx
  obtain ⟨_, _, ky, ny⟩ := word_facts hy
  exact (t_ge x y).2 ⟨⟨nx, ny⟩, by rw [kx, ky]; omega⟩
theorem le_w {x y : Nat} (hx : x ≤ 4607182418800017408) (hy : y ≤ 4607182418800017408) (h : x ≤ y) : (FloatKind.f64.format.order x y == some .lt || FloatKind.f64.format.order x y == some .eq) = true := by
  obtain ⟨_, _, kx, nx⟩ := word_facts hx
  obtain ⟨_, _, ky, ny⟩ := word_facts hy
  exact (t_le x y).2 ⟨⟨nx, ny⟩, by rw [kx, ky]; omega⟩
theorem PlaceSpread : tabulariumlaw22_PlaceSpread.Pure := by
  intro l0 b0 b1 b2 w0 w1 w2 w3 w4 w5
  refine ⟨200, ?_⟩
  obtain ⟨f0, f1, f2⟩ := fifty l0.length
  have hl : (l0.take (mn (l0.length : Int) 50).toNat).length ≤ 50 := by rw [List.length_take]; omega
  unfold tabulariumlaw22_PlaceSpread.f
  rw [examples_at 200 (by omega), Option.bind_some, if_pos f0, if_pos f1, Option.bind_some]
  generalize l0.take (mn (l0.length : Int) 50).toNat = l at hl
  have s0 := spv_le l
  have s1 := spv_le (l ++ [⟨b0, b1, b2⟩])
  have hm := spv_more l ⟨b0, b1, b2⟩
  have hla : (l ++ [(⟨b0, b1, b2⟩ : S26)]).length ≤ 51 := by rw [List.length_append, List.length_singleton]; omega
  have hz : (0 : Nat) ≤ 4607182418800017408 := by omega
  rw [spread_at l (by omega) 200 (by omega), Option.bind_some, if_pos (by rw [List.length_nil]; omega), Option.bind_some, Option.bind_some, List.nil_append, if_pos (by rw [List.length_singleton]; omega), spread_at _ (by omega) 200 (by omega), Option.bind_some, if_pos rfl,
    if_pos (ge_w s0 hz (Nat.zero_le _)), if_pos (le_w s0 (Nat.le_refl _) s0), if_pos (ge_w s1 s0 hm), if_pos (le_w s1 (Nat.le_refl _) s1), spread_at [_] (by rw [List.length_singleton]; omega) 200 (by rw [List.length_singleton]; omega), Option.bind_some, spv_one]
  have e0 : (FloatKind.f64.format.order 0 0 == some .eq) = true := (t_eq 0 0).2 ⟨⟨nan_zero, nan_zero⟩, rfl⟩
  rw [if_pos e0, spread_at [] (by decide) 200 (by decide), Option.bind_some]
  exact congrArg some e0
end Go.Proofs.Ytnkihggdohigiaa.Pure
