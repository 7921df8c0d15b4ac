/- The Go functions of this seat as plain Lean functions, and for each the proof that its call gives what the plain function gives. Printed by a program of this session. -/
import Derived.Test.YtnkihggdohigiaaPz
import Derived.Test.YtnkihggdohigiaaPx0
import Derived.Test.YtnkihggdohigiaaPx1
import Derived.Test.YtnkihggdohigiaaPx5
import Derived.Test.YtnkihggdohigiaaPx7
import Derived.Test.YtnkihggdohigiaaPx10
namespace Go.Proofs.Ytnkihggdohigiaa.P
open Go.RowKit Go.Proofs.YtnkihggdohigiaaW.PrintWords Go.Proofs.YtnkihggdohigiaaW.PrintLast Go.Proofs.YtnkihggdohigiaaW.PrintMore
attribute [local go_sem] max2_int min2_int max_two min_two max_three min_three max_four min_four   -- for this text's walks alone
set_option linter.unusedVariables false
set_option linter.unusedSimpArgs false

/-! ### tabulariumlaw22_PlaceBest: function 4 -/
mutual
def tabulariumlaw22_PlaceBest.l0 : Nat → List (S26) → Int → List Int → Bool → List Int → List Bool → Int → Option (Bool)
  | 0, _, _, _, _, _, _, _ => none
  | k + 1, x0, x1, x2, x7, x8, x9, x10 => if x10 < (x8.length : Int) then (if 0 ≤ x10 then (if (rd x8 x10) < 0 then (tabulariumlaw22_PlaceBest.j1 k x0 x1 x2 x7 x8 x9 x10 (rd x8 x10) true) else (if (rd x8 x10) ≥ (x0.length : Int) then (tabulariumlaw22_PlaceBest.j1 k x0 x1 x2 x7 x8 x9 x10 (rd x8 x10) true) else (if 0 ≤ (rd x8 x10) then (if (rd x8 x10) < (x9.length : Int) then (if rdOf false x9 (rd x8 x10) = true then (tabulariumlaw22_PlaceBest.j1 k x0 x1 x2 x7 x8 x9 x10 (rd x8 x10) true) else (if (rd x8 x10) < (x0.length : Int) then ((place_Fit.f k ((rd_T26 x0 (rd x8 x10)).f0) ((rd_T26 x0 (rd x8 x10)).f1) ((rd_T26 x0 (rd x8 x10)).f2)).bind fun t268 => (if t268 = true then (if x10 > 0 then (if 0 ≤ (wrap64 (x10 - 1)) then (if (wrap64 (x10 - 1)) < (x8.length : Int) then (if 0 ≤ (rd x8 (wrap64 (x10 - 1))) then (if (rd x8 (wrap64 (x10 - 1))) < (x0.length : Int) then ((place_Before.f k ((rd_T26 x0 (rd x8 (wrap64 (x10 - 1)))).f0) ((rd_T26 x0 (rd x8 (wrap64 (x10 - 1)))).f1) ((rd_T26 x0 (rd x8 (wrap64 (x10 - 1)))).f2) ((rd_T26 x0 (rd x8 x10)).f0) ((rd_T26 x0 (rd x8 x10)).f1) ((rd_T26 x0 (rd x8 x10)).f2)).bind fun t272 => (tabulariumlaw22_PlaceBest.j1 k x0 x1 x2 x7 x8 x9 x10 (rd x8 x10) (decide (t272 > 0)))) else (none)) else (none)) else (none)) else (none)) else (tabulariumlaw22_PlaceBest.j1 k x0 x1 x2 x7 x8 x9 x10 (rd x8 x10) false)) else (tabulariumlaw22_PlaceBest.j1 k x0 x1 x2 x7 x8 x9 x10 (rd x8 x10) true))) else (none))) else (none)) else (none)))) else (none)) else (tabulariumlaw22_PlaceBest.l2 k x0 x1 x2 x7 x8 x9 0 0)
def tabulariumlaw22_PlaceBest.j1 : Nat → List (S26) → Int → List Int → Bool → List Int → List Bool → Int → Int → Bool → Option (Bool)
  | 0, _, _, _, _, _, _, _, _, _ => none
  | k + 1, x0, x1, x2, x7, x8, x9, x10, x11, x82 => if x82 = true then (some false) else (if 0 ≤ x11 then (if x11 < (x9.length : Int) then (tabulariumlaw22_PlaceBest.l1 k x0 x1 x2 x7 x8 (x9.set (x11 : Int).toNat true) x10 x11 0) else (none)) else (none))
def tabulariumlaw22_PlaceBest.l1 : Nat → List (S26) → Int → List Int → Bool → List Int → List Bool → Int → Int → Int → Option (Bool)
  | 0, _, _, _, _, _, _, _, _, _ => none
  | k + 1, x0, x1, x2, x7, x8, x9, x10, x11, x12 => if x12 < (x2.length : Int) then (if 0 ≤ x12 then (if (rd x2 x12) = x11 then (some false) else (tabulariumlaw22_PlaceBest.l1 k x0 x1 x2 x7 x8 x9 x10 x11 (wrap64 (x12 + 1)))) else (none)) else (tabulariumlaw22_PlaceBest.l0 k x0 x1 x2 x7 x8 x9 (wrap64 (x10 + 1)))
def tabulariumlaw22_PlaceBest.l2 : Nat → List (S26) → Int → List Int → Bool → List Int → List Bool → Int → Int → Option (Bool)
  | 0, _, _, _, _, _, _, _, _ => none
  | k + 1, x0, x1, x2, x7, x8, x9, x13, x14 => if x14 < (x0.length : Int) then (if 0 ≤ x14 then ((place_Fit.f k ((rd_T26 x0 x14).f0) ((rd_T26 x0 x14).f1) ((rd_T26 x0 x14).f2)).bind fun t276 => (tabulariumlaw22_PlaceBest.l3 k x0 x1 x2 x7 x8 x9 x13 x14 (!t276) 0)) else (none)) else (if x7 = true then (some ((x8.length : Int) == (mn x13 (mx x1 0)))) else (some false))
def tabulariumlaw22_PlaceBest.l3 : Nat → List (S26) → Int → List Int → Bool → List Int → List Bool → Int → Int → Bool → Int → Option (Bool)
  | 0, _, _, _, _, _, _, _, _, _, _ => none
  | k + 1, x0, x1, x2, x7, x8, x9, x13, x14, x15, x16 => if x16 < (x2.length : Int) then (if x15 = true then (tabulariumlaw22_PlaceBest.l3 k x0 x1 x2 x7 x8 x9 x13 x14 true (wrap64 (x16 + 1))) else (if 0 ≤ x16 then (tabulariumlaw22_PlaceBest.l3 k x0 x1 x2 x7 x8 x9 x13 x14 ((rd x2 x16) == x14) (wrap64 (x16 + 1))) else (none))) else (if x15 = true then (tabulariumlaw22_PlaceBest.l2 k x0 x1 x2 x7 x8 x9 x13 (wrap64 (x14 + 1))) else (tabulariumlaw22_PlaceBest.l4 k x0 x1 x2 x7 x8 x9 (wrap64 (x13 + 1)) x14 0))
def tabulariumlaw22_PlaceBest.l4 : Nat → List (S26) → Int → List Int → Bool → List Int → List Bool → Int → Int → Int → Option (Bool)
  | 0, _, _, _, _, _, _, _, _, _ => none
  | k + 1, x0, x1, x2, x7, x8, x9, x13, x14, x17 => if x17 < (x8.length : Int) then (if 0 ≤ x14 then (if x14 < (x9.length : Int) then (if rdOf false x9 x14 = true then (tabulariumlaw22_PlaceBest.l4 k x0 x1 x2 x7 x8 x9 x13 x14 (wrap64 (x17 + 1))) else (if x14 < (x0.length : Int) then (if 0 ≤ x17 then (if 0 ≤ (rd x8 x17) then (if (rd x8 x17) < (x0.length : Int) then ((place_Before.f k ((rd_T26 x0 x14).f0) ((rd_T26 x0 x14).f1) ((rd_T26 x0 x14).f2) ((rd_T26 x0 (rd x8 x17)).f0) ((rd_T26 x0 (rd x8 x17)).f1) ((rd_T26 x0 (rd x8 x17)).f2)).bind fun t282 => (if t282 < 0 then (some false) else (tabulariumlaw22_PlaceBest.l4 k x0 x1 x2 x7 x8 x9 x13 x14 (wrap64 (x17 + 1))))) else (none)) else (none)) else (none)) else (none))) else (none)) else (none)) else (tabulariumlaw22_PlaceBest.l2 k x0 x1 x2 x7 x8 x9 x13 (wrap64 (x14 + 1)))
end
def tabulariumlaw22_PlaceBest.f (k : Nat) (l0 : List (S26)) (a1 : Int) (l2 : List Int) : Option (Bool) := (tabulariumlaw22_examples.f k).bind fun t254 => (if 0 ≤ (mn (l0.length : Int) 50) then (if (mn (l0.length : Int) 50) ≤ (l0.length : Int) then ((some (l0.take ((mn (l0.length : Int) 50) : Int).toNat : List (S26))).bind fun y255 => ((place_Targets.f y255 a1 l2).bind fun t259 => (if 0 ≤ (y255.length : Int) then (if ((y255.length : Int) : Int).toNat ≤ 281474976710656 then (tabulariumlaw22_PlaceBest.l0 k y255 a1 l2 t254 t259 (List.replicate ((y255.length : Int) : Int).toNat false) 0) else (none)) else (none)))) else (none)) else (none))
theorem tabulariumlaw22_PlaceBest.mono_l : ∀ k, (∀ y0 y1 y2 y3 y4 y5 y6, LeO (tabulariumlaw22_PlaceBest.l0 k y0 y1 y2 y3 y4 y5 y6) (tabulariumlaw22_PlaceBest.l0 (k + 1) y0 y1 y2 y3 y4 y5 y6)) ∧ (∀ y0 y1 y2 y3 y4 y5 y6 y7 y8, LeO (tabulariumlaw22_PlaceBest.j1 k y0 y1 y2 y3 y4 y5 y6 y7 y8) (tabulariumlaw22_PlaceBest.j1 (k + 1) y0 y1 y2 y3 y4 y5 y6 y7 y8)) ∧ (∀ y0 y1 y2 y3 y4 y5 y6 y7 y8, LeO (tabulariumlaw22_PlaceBest.l1 k y0 y1 y2 y3 y4 y5 y6 y7 y8) (tabulariumlaw22_PlaceBest.l1 (k + 1) y0 y1 y2 y3 y4 y5 y6 y7 y8)) ∧ (∀ y0 y1 y2 y3 y4 y5 y6 y7, LeO (tabulariumlaw22_PlaceBest.l2 k y0 y1 y2 y3 y4 y5 y6 y7) (tabulariumlaw22_PlaceBest.l2 (k + 1) y0 y1 y2 y3 y4 y5 y6 y7)) ∧ (∀ y0 y1 y2 y3 y4 y5 y6 y7 y8 y9, LeO (tabulariumlaw22_PlaceBest.l3 k y0 y1 y2 y3 y4 y5 y6 y7 y8 y9) (tabulariumlaw22_PlaceBest.l3 (k + 1) y0 y1 y2 y3 y4 y5 y6 y7 y8 y9)) ∧ (∀ y0 y1 y2 y3 y4 y5 y6 y7 y8, LeO (tabulariumlaw22_PlaceBest.l4 k y0 y1 y2 y3 y4 y5 y6 y7 y8) (tabulariumlaw22_PlaceBest.l4 (k + 1) y0 y1 y2 y3 y4 y5 y6 y7 y8))
  | 0 => ⟨fun _ _ _ _ _ _ _ r h => by simp [tabulariumlaw22_PlaceBest.l0] at h, fun _ _ _ _ _ _ _ _ _ r h => by simp [tabulariumlaw22_PlaceBest.j1] at h, fun _ _ _ _ _ _ _ _ _ r h => by simp [tabulariumlaw22_PlaceBest.l1] at h, fun _ _ _ _ _ _ _ _ r h => by simp [tabulariumlaw22_PlaceBest.l2] at h, fun _ _ _ _ _ _ _ _ _ _ r h => by simp [tabulariumlaw22_PlaceBest.l3] at h, fun _ _ _ _ _ _ _ _ _ r h => by simp [tabulariumlaw22_PlaceBest.l4] at h⟩
  | k + 1 => by
    obtain ⟨ih0, ih1, ih2, ih3, ih4, ih5⟩ := tabulariumlaw22_PlaceBest.mono_l k
    refine ⟨?_, ?_, ?_, ?_, ?_, ?_⟩
    · intro y0 y1 y2 y3 y4 y5 y6
      unfold tabulariumlaw22_PlaceBest.l0
      repeat' first
      | (with_reducible exact ih0 _ _ _ _ _ _ _)
      | (with_reducible exact ih1 _ _ _ _ _ _ _ _ _)
      | (with_reducible exact ih2 _ _ _ _ _ _ _ _ _)
      | (with_reducible exact ih3 _ _ _ _ _ _ _ _)
      | (with_reducible exact ih4 _ _ _ _ _ _ _ _ _ _)
      | (with_reducible exact ih5 _ _ _ _ _ _ _ _ _)
      | (with_reducible exact place_Before.mono _ _ _ _ _ _ _)
      | (with_reducible exact place_Fit.mono _ _ _ _)
      | (with_reducible exact tabulariumlaw22_examples.mono _)
      | (with_reducible exact LeO.refl _)
      | (with_reducible exact LeO.none _)
      | (with_reducible refine LeO.ite ?_ ?_)
      | (with_reducible refine LeO.bind ?_ (fun _ => ?_))
      | exact ih0 _ _ _ _ _ _ _
      | exact ih1 _ _ _ _ _ _ _ _ _
      | exact ih2 _ _ _ _ _ _ _ _ _
      | exact ih3 _ _ _ _ _ _ _ _
      | exact ih4 _ _ _ _ _ _ _ _ _ _
      | exact ih5 _ _ _ _ _ _ _ _ _
      | exact place_Before.mono _ _ _ _ _ _ _
      | exact place_Fit.mono _ _ _ _
      | exact tabulariumlaw22_examples.mono _
      | exact LeO.none _
      | refine LeO.ite ?_ ?_
      | refine LeO.bind ?_ (fun _ => ?_)
    · intro y0 y1 y2 y3 y4 y5 y6 y7 y8
      unfold tabulariumlaw22_PlaceBest.j1
      repeat' first
      | (with_reducible exact ih0 _ _ _ _ _ _ _)
      | (with_reducible exact ih1 _ _ _ _ _ _ _ _ _)
      | (with_reducible exact ih2 _ _ _ _ _ _ _ _ _)
      | (with_reducible exact ih3 _ _ _ _ _ _ _ _)
      | (with_reducible exact ih4 _ _ _ _ _ _ _ _ _ _)
      | (with_reducible exact ih5 _ _ _ _ _ _ _ _ _)
      | (with_reducible exact place_Before.mono _ _ _ _ _ _ _)
      | (with_reducible exact place_Fit.mono _ _ _ _)
      | (with_reducible exact tabulariumlaw22_examples.mono _)
      | (with_reducible exact LeO.refl _)
      | (with_reducible exact LeO.none _)
      | (with_reducible refine LeO.ite ?_ ?_)
      | (with_reducible refine LeO.bind ?_ (fun _ => ?_))
      | exact ih0 _ _ _ _ _ _ _
      | exact ih1 _ _ _ _ _ _ _ _ _
      | exact ih2 _ _ _ _ _ _ _ _ _
      | exact ih3 _ _ _ _ _ _ _ _
      | exact ih4 _ _ _ _ _ _ _ _ _ _
      | exact ih5 _ _ _ _ _ _ _ _ _
      | exact place_Before.mono _ _ _ _ _ _ _
      | exact place_Fit.mono _ _ _ _
      | exact tabulariumlaw22_examples.mono _
      | exact LeO.none _
      | refine LeO.ite ?_ ?_
      | refine LeO.bind ?_ (fun _ => ?_)
    · intro y0 y1 y2 y3 y4 y5 y6 y7 y8
      unfold tabulariumlaw22_PlaceBest.l1
      repeat' first
      | (with_reducible exact ih0 _ _ _ _ _ _ _)
      | (with_reducible exact ih1 _ _ _ _ _ _ _ _ _)
      | (with_reducible exact ih2 _ _ _ _ _ _ _ _ _)
      | (with_reducible exact ih3 _ _ _ _ _ _ _ _)
      | (with_reducible exact ih4 _ _ _ _ _ _ _ _ _ _)
      | (with_reducible exact ih5 _ _ _ _ _ _ _ _ _)
      | (with_reducible exact place_Before.mono _ _ _ _ _ _ _)
      | (with_reducible exact place_Fit.mono _ _ _ _)
      | (with_reducible exact tabulariumlaw22_examples.mono _)
      | (with_reducible exact LeO.refl _)
      | (with_reducible exact LeO.none _)
      | (with_reducible refine LeO.ite ?_ ?_)
      | (with_reducible refine LeO.bind ?_ (fun _ => ?_))
      | exact ih0 _ _ _ _ _ _ _
      | exact ih1 _ _ _ _ _ _ _ _ _
      | exact ih2 _ _ _ _ _ _ _ _ _
      | exact ih3 _ _ _ _ _ _ _ _
      | exact ih4 _ _ _ _ _ _ _ _ _ _
      | exact ih5 _ _ _ _ _ _ _ _ _
      | exact place_Before.mono _ _ _ _ _ _ _
      | exact place_Fit.mono _ _ _ _
      | exact tabulariumlaw22_examples.mono _
      | exact LeO.none _
      | refine LeO.ite ?_ ?_
      | refine LeO.bind ?_ (fun _ => ?_)
    · intro y0 y1 y2 y3 y4 y5 y6 y7
      unfold tabulariumlaw22_PlaceBest.l2
      repeat' first
      | (with_reducible exact ih0 _ _ _ _ _ _ _)
      | (with_reducible exact ih1 _ _ _ _ _ _ _ _ _)
      | (with_reducible exact ih2 _ _ _ _ _ _ _ _ _)
      | (with_reducible exact ih3 _ _ _ _ _ _ _ _)
      | (with_reducible exact ih4 _ _ _ _ _ _ _ _ _ _)
      | (with_reducible exact ih5 _ _ _ _ _ _ _ _ _)
      | (with_reducible exact place_Before.mono _ _ _ _ _ _ _)
      | (with_reducible exact place_Fit.mono _ _ _ _)
      | (with_reducible exact tabulariumlaw22_examples.mono _)
      | (with_reducible exact LeO.refl _)
      | (with_reducible exact LeO.none _)
      | (with_reducible refine LeO.ite ?_ ?_)
      | (with_reducible refine LeO.bind ?_ (fun _ => ?_))
      | exact ih0 _ _ _ _ _ _ _
      | exact ih1 _ _ _ _ _ _ _ _ _
      | exact ih2 _ _ _ _ _ _ _ _ _
      | exact ih3 _ _ _ _ _ _ _ _
      | exact ih4 _ _ _ _ _ _ _ _ _ _
      | exact ih5 _ _ _ _ _ _ _ _ _
      | exact place_Before.mono _ _ _ _ _ _ _
      | exact place_Fit.mono _ _ _ _
      | exact tabulariumlaw22_examples.mono _
      | exact LeO.none _
      | refine LeO.ite ?_ ?_
      | refine LeO.bind ?_ (fun _ => ?_)
    · intro y0 y1 y2 y3 y4 y5 y6 y7 y8 y9
      unfold tabulariumlaw22_PlaceBest.l3
      repeat' first
      | (with_reducible exact ih0 _ _ _ _ _ _ _)
      | (with_reducible exact ih1 _ _ _ _ _ _ _ _ _)
      | (with_reducible exact ih2 _ _ _ _ _ _ _ _ _)
      | (with_reducible exact ih3 _ _ _ _ _ _ _ _)
      | (with_reducible exact ih4 _ _ _ _ _ _ _ _ _ _)
      | (with_reducible exact ih5 _ _ _ _ _ _ _ _ _)
      | (with_reducible exact place_Before.mono _ _ _ _ _ _ _)
      | (with_reducible exact place_Fit.mono _ _ _ _)
      | (with_reducible exact tabulariumlaw22_examples.mono _)
      | (with_reducible exact LeO.refl _)
      | (with_reducible exact LeO.none _)
      | (with_reducible refine LeO.ite ?_ ?_)
      | (with_reducible refine LeO.bind ?_ (fun _ => ?_))
      | exact ih0 _ _ _ _ _ _ _
      | exact ih1 _ _ _ _ _ _ _ _ _
      | exact ih2 _ _ _ _ _ _ _ _ _
      | exact ih3 _ _ _ _ _ _ _ _
      | exact ih4 _ _ _ _ _ _ _ _ _ _
      | exact ih5 _ _ _ _ _ _ _ _ _
      | exact place_Before.mono _ _ _ _ _ _ _
      | exact place_Fit.mono _ _ _ _
      | exact tabulariumlaw22_examples.mono _
      | exact LeO.none _
      | refine LeO.ite ?_ ?_
      | refine LeO.bind ?_ (fun _ => ?_)
    · intro y0 y1 y2 y3 y4 y5 y6 y7 y8
      unfold tabulariumlaw22_PlaceBest.l4
      repeat' first
      | (with_reducible exact ih0 _ _ _ _ _ _ _)
      | (with_reducible exact ih1 _ _ _ _ _ _ _ _ _)
      | (with_reducible exact ih2 _ _ _ _ _ _ _ _ _)
      | (with_reducible exact ih3 _ _ _ _ _ _ _ _)
      | (with_reducible exact ih4 _ _ _ _ _ _ _ _ _ _)
      | (with_reducible exact ih5 _ _ _ _ _ _ _ _ _)
      | (with_reducible exact place_Before.mono _ _ _ _ _ _ _)
      | (with_reducible exact place_Fit.mono _ _ _ _)
      | (with_reducible exact tabulariumlaw22_examples.mono _)
      | (with_reducible exact LeO.refl _)
      | (with_reducible exact LeO.none _)
      | (with_reducible refine LeO.ite ?_ ?_)
      | (with_reducible refine LeO.bind ?_ (fun _ => ?_))
      | exact ih0 _ _ _ _ _ _ _
      | exact ih1 _ _ _ _ _ _ _ _ _
      | exact ih2 _ _ _ _ _ _ _ _ _
      | exact ih3 _ _ _ _ _ _ _ _
      | exact ih4 _ _ _ _ _ _ _ _ _ _
      | exact ih5 _ _ _ _ _ _ _ _ _
      | exact place_Before.mono _ _ _ _ _ _ _
      | exact place_Fit.mono _ _ _ _
      | exact tabulariumlaw22_examples.mono _
      | exact LeO.none _
      | refine LeO.ite ?_ ?_
      | refine LeO.bind ?_ (fun _ => ?_)
theorem tabulariumlaw22_PlaceBest.mono : ∀ a0 a1 a2 k, LeO (tabulariumlaw22_PlaceBest.f k a0 a1 a2) (tabulariumlaw22_PlaceBest.f (k + 1) a0 a1 a2) := by
  intro a0 a1 a2 k
  obtain ⟨ih0, ih1, ih2, ih3, ih4, ih5⟩ := tabulariumlaw22_PlaceBest.mono_l k
  unfold tabulariumlaw22_PlaceBest.f
  repeat' first
      | (with_reducible exact ih0 _ _ _ _ _ _ _)
      | (with_reducible exact ih1 _ _ _ _ _ _ _ _ _)
      | (with_reducible exact ih2 _ _ _ _ _ _ _ _ _)
      | (with_reducible exact ih3 _ _ _ _ _ _ _ _)
      | (with_reducible exact ih4 _ _ _ _ _ _ _ _ _ _)
      | (with_reducible exact ih5 _ _ _ _ _ _ _ _ _)
      | (with_reducible exact place_Before.mono _ _ _ _ _ _ _)
      | (with_reducible exact place_Fit.mono _ _ _ _)
      | (with_reducible exact tabulariumlaw22_examples.mono _)
      | (with_reducible exact LeO.refl _)
      | (with_reducible exact LeO.none _)
      | (with_reducible refine LeO.ite ?_ ?_)
      | (with_reducible refine LeO.bind ?_ (fun _ => ?_))
      | exact ih0 _ _ _ _ _ _ _
      | exact ih1 _ _ _ _ _ _ _ _ _
      | exact ih2 _ _ _ _ _ _ _ _ _
      | exact ih3 _ _ _ _ _ _ _ _
      | exact ih4 _ _ _ _ _ _ _ _ _ _
      | exact ih5 _ _ _ _ _ _ _ _ _
      | exact place_Before.mono _ _ _ _ _ _ _
      | exact place_Fit.mono _ _ _ _
      | exact tabulariumlaw22_examples.mono _
      | exact LeO.none _
      | refine LeO.ite ?_ ?_
      | refine LeO.bind ?_ (fun _ => ?_)
def tabulariumlaw22_PlaceBest.T9 : Bool × List (List Nat × List Nat) := (true, [([], []), ([0], [0]), ([1], [1]), ([2], [2]), ([2], [2]), ([4, 2], [2, 4]), ([3, 5, 2], [2, 3, 5]), ([2, 6], [2, 6]), ([7, 2], [7]), ([8], [8]), ([8], [8]), ([9, 10, 8], [8, 9, 10]), ([11, 8], [8, 11]), ([8, 12], [8, 12]), ([13, 8], [13]), ([14], [14]), ([14], [14]), ([15, 16, 14], [14, 15, 16]), ([17, 14], [14, 17]), ([18, 14, 14], [14, 18]), ([19, 14], [14, 19]), ([14, 20], [14, 20]), ([21, 19], [21]), ([22], [22]), ([23, 22], [22, 23]), ([24, 22, 22], [22, 24]), ([25], [25]), ([25], [25]), ([25], [25]), ([28, 25], [25, 28]), ([27, 29, 25], [25, 27, 29]), ([30, 25], [25, 30]), ([26, 31, 25], [25, 26, 31]), ([32, 25], [25, 32]), ([25], [25]), ([25], [25]), ([34, 35, 25], [25, 34, 35]), ([36, 25], [25, 36]), ([33, 37, 25, 25], [25, 33, 37]), ([38, 25], [25, 38]), ([25, 39, 22], [22, 25, 39]), ([22, 40], [22, 40])])
def tabulariumlaw22_PlaceBest.B9 : List Nat := [0, 1, 3, 7, 7, 23, 63, 127, 255, 511, 511, 2047, 4095, 8191, 16383, 32767, 32767, 131071, 262143, 524287, 1048575, 2097151, 4194303, 8388607, 16777215, 33554431, 67108863, 67108863, 67108863, 335544319, 1006632959, 2080374783, 4294967295, 8589934591, 67108863, 67108863, 51606716415, 120326193151, 274877906943, 549755813887, 1099511627775, 2199023255551]
theorem tabulariumlaw22_PlaceBest.tab9 : rtab .any (opsOf Try.f4 9) = tabulariumlaw22_PlaceBest.T9 := by kernel_rfl
theorem tabulariumlaw22_PlaceBest.bits9 : waitsOk tabulariumlaw22_PlaceBest.T9.2 tabulariumlaw22_PlaceBest.B9 = true := by kernel_rfl
def tabulariumlaw22_PlaceBest.T31 : Bool × List (List Nat × List Nat) := (true, [([], []), ([], []), ([0, 1], [0, 1]), ([2], [2]), ([3], [3]), ([4], [4]), ([5], [5]), ([5], [5]), ([6, 7, 5], [5, 6, 7]), ([8, 5], [5, 8]), ([5], [5]), ([5], [5]), ([5], [5]), ([11, 12, 5], [5, 11, 12]), ([13, 5], [5, 13]), ([10, 14, 5], [5, 10, 14]), ([15, 5], [5, 15]), ([9, 16, 5, 5], [5, 9, 16]), ([17, 5], [5, 17]), ([5, 18], [5, 18])])
def tabulariumlaw22_PlaceBest.B31 : List Nat := [0, 0, 3, 7, 15, 31, 63, 63, 255, 511, 63, 63, 63, 6207, 14399, 31807, 64575, 131071, 262143, 524287]
theorem tabulariumlaw22_PlaceBest.tab31 : rtab .any (opsOf Try.f4 31) = tabulariumlaw22_PlaceBest.T31 := by kernel_rfl
theorem tabulariumlaw22_PlaceBest.bits31 : waitsOk tabulariumlaw22_PlaceBest.T31.2 tabulariumlaw22_PlaceBest.B31 = true := by kernel_rfl
set_option maxHeartbeats 8000000 in
set_option maxRecDepth 100000 in
theorem tabulariumlaw22_PlaceBest.calls (k : Nat) (A0 : Option Addr) (c0 : Nat) (l0 : List (S26)) (a1 : Int) (A2 : Option Addr) (c2 : Nat) (l2 : List Int) (r : Bool) (w : World) (hr0 : Kd.C k26 w A0 l0.length l0) (hc0 : l0.length ≤ c0) (hr2 : Kd.C (Kd.int .i64) w A2 l2.length l2) (hc2 : l2.length ≤ c2) (h : tabulariumlaw22_PlaceBest.f k l0 a1 l2 = some r) :
    Calls Try.prog 4 #[.slice A0 l0.length c0, .int .i64 a1, .slice A2 l2.length c2] w fun e w' => e = .returned (.bool r) ∧ Below w.heap.size w w' := by
  have hu26 := Try.underlying26
  have HR0 := Aside0.mk hr0
  have HC0 := Aside0.mk hc0
  clear hr0 hc0
  have HR2 := Aside0.mk hr2
  have HC2 := Aside0.mk hc2
  clear hr2 hc2
  have HB := Aside0.mk (Below.refl w.heap.size w)
  have H : ((tabulariumlaw22_examples.f k).bind fun t254 => (if 0 ≤ (mn (l0.length : Int) 50) then (if (mn (l0.length : Int) 50) ≤ (l0.length : Int) then ((some (l0.take ((mn (l0.length : Int) 50) : Int).toNat : List (S26))).bind fun y255 => ((place_Targets.f y255 a1 l2).bind fun t259 => (if 0 ≤ (y255.length : Int) then (if ((y255.length : Int) : Int).toNat ≤ 281474976710656 then (tabulariumlaw22_PlaceBest.l0 k y255 a1 l2 t254 t259 (List.replicate ((y255.length : Int) : Int).toNat false) 0) else (none)) else (none)))) else (none)) else (none))) = some r := h
  clear h
  replace H := Option.bind_eq_some_iff.mp H
  obtain ⟨t254, A40, H⟩ := H
  replace H : (if 0 ≤ (mn (l0.length : Int) 50) then (if (mn (l0.length : Int) 50) ≤ (l0.length : Int) then ((some (l0.take ((mn (l0.length : Int) 50) : Int).toNat : List (S26))).bind fun y255 => ((place_Targets.f y255 a1 l2).bind fun t259 => (if 0 ≤ (y255.length : Int) then (if ((y255.length : Int) : Int).toNat ≤ 281474976710656 then (tabulariumlaw22_PlaceBest.l0 k y255 a1 l2 t254 t259 (List.replicate ((y255.length : Int) : Int).toNat false) 0) else (none)) else (none)))) else (none)) else (none)) = some r := H
  have A4 := Aside0.mk A40
  clear A40
  obtain ⟨ji5, hji5⟩ : ∃ j_ : Int, (mn (l0.length : Int) 50) = j_ := ⟨_, rfl⟩
  replace H : (if 0 ≤ (ji5) then (if (ji5) ≤ (l0.length : Int) then ((some (l0.take ((ji5) : Int).toNat : List (S26))).bind fun y255 => ((place_Targets.f y255 a1 l2).bind fun t259 => (if 0 ≤ (y255.length : Int) then (if ((y255.length : Int) : Int).toNat ≤ 281474976710656 then (tabulariumlaw22_PlaceBest.l0 k y255 a1 l2 t254 t259 (List.replicate ((y255.length : Int) : Int).toNat false) 0) else (none)) else (none)))) else (none)) else (none)) = some r := by first | (rw [hji5] at H; exact H) | (simp only [hji5] at H ⊢; exact H)
  (try rw [hji5] at A4)
  (try (have hji5h : ji5 ≤ 50 := by (rw [← hji5]; unfold mn; (repeat' split) <;> omega)))
  (try (have hji5g : ji5 ≤ 64 := by omega))
  (try (have hji5l : 0 ≤ ji5 := by (rw [← hji5]; unfold mn; (repeat' split) <;> omega)))
  (try (have hji5m : 0 ≤ ji5 := by omega))
  have hji5_ : (if 50 < (l0.length : Int) then 50 else (l0.length : Int)) = ji5 := hji5
  by_cases c6 : 0 ≤ (ji5)
  · rw [if_pos c6] at H
    have c6b0 := eq_true c6
    have c6b1 : decide (0 ≤ (ji5)) = true := decide_eq_true c6
    clear c6
    by_cases c7 : (ji5) ≤ (l0.length : Int)
    · rw [if_pos c7] at H
      have c7b0 := eq_true c7
      have c7b1 : decide ((ji5) ≤ (l0.length : Int)) = true := decide_eq_true c7
      clear c7
      obtain ⟨y255, hy255⟩ : ∃ y_ : List (S26), y_ = (l0.take ((ji5) : Int).toNat) := ⟨_, rfl⟩
      replace H : ((place_Targets.f y255 a1 l2).bind fun t259 => (if 0 ≤ (y255.length : Int) then (if ((y255.length : Int) : Int).toNat ≤ 281474976710656 then (tabulariumlaw22_PlaceBest.l0 k y255 a1 l2 t254 t259 (List.replicate ((y255.length : Int) : Int).toNat false) 0) else (none)) else (none))) = some r := by first | (rw [hy255]; with_reducible exact H) | (have H2_ := (Option.bind_some _ _).symm.trans H; rw [hy255]; with_reducible exact H2_) | (have H2_ := (Option.bind_some _ _).symm.trans H; with_reducible exact H2_) | with_reducible exact H | (rw [hy255]; exact H) | exact H
      have Ny255 := Aside0.mk hy255
      clear hy255
      replace H := Option.bind_eq_some_iff.mp H
      obtain ⟨t259, A80, H⟩ := H
      replace H : (if 0 ≤ (y255.length : Int) then (if ((y255.length : Int) : Int).toNat ≤ 281474976710656 then (tabulariumlaw22_PlaceBest.l0 k y255 a1 l2 t254 t259 (List.replicate ((y255.length : Int) : Int).toNat false) 0) else (none)) else (none)) = some r := H
      have A8 := Aside0.mk A80
      clear A80
      by_cases c9 : 0 ≤ (y255.length : Int)
      · rw [if_pos c9] at H
        have c9b0 := eq_true c9
        have c9b1 : decide (0 ≤ (y255.length : Int)) = true := decide_eq_true c9
        clear c9
        by_cases c10 : ((y255.length : Int) : Int).toNat ≤ 281474976710656
        · rw [if_pos c10] at H
          have c10b0 := eq_true c10
          have c10b1 : decide (((y255.length : Int) : Int).toNat ≤ 281474976710656) = true := decide_eq_true c10
          clear c10
          obtain ⟨y262, hy262⟩ : ∃ y_ : List Bool, y_ = (List.replicate ((y255.length : Int) : Int).toNat false) := ⟨_, rfl⟩
          replace H : (tabulariumlaw22_PlaceBest.l0 k y255 a1 l2 t254 t259 y262 0) = some r := by first | (rw [hy262]; with_reducible exact H) | (have H2_ := (Option.bind_some _ _).symm.trans H; rw [hy262]; with_reducible exact H2_) | (have H2_ := (Option.bind_some _ _).symm.trans H; with_reducible exact H2_) | with_reducible exact H | (rw [hy262]; exact H) | exact H
          have Ny262 := Aside0.mk hy262
          clear hy262
          have H' := Aside0.mk H
          clear H
          go_enter Try.func4, Try.ntmps4
          go_wp2_with (first | ((with_reducible refine gate_callee (f := 8) rfl ?_); refine goesL_ (some 18) rfl rfl Try.func8 (by kernel_rfl) rfl #[] rfl (by (try simp only [List.map_toArray, List.map_cons, List.map_nil]); first | done | rfl | (simp only [List.length_drop, List.length_take]; rfl)) ?_; (with_reducible refine (tabulariumlaw22_examples.calls k  t254 _ A4.out).mono ?_); rintro e w11 ⟨rfl, hb⟩; refine ⟨_, rfl, ?_⟩; have n0_ := Aside0.mk (below_step (by repeat (first | (with_reducible first | exact HB.out | apply below_alloc | apply pw_below_drewN | apply below_drew1) | exact HB.out)) hb); clear HB; have HB := n0_; clear n0_; (try clear hb); (try clear hb2); (try clear hk); (try clear hi); have q12 : ((ji5) : Int) ≤ ((l0.length : Int) : Int) := of_decide_eq_true (by first | (with_reducible assumption) | assumption); obtain ⟨i012, hi012, _, hsz12, _⟩ := info_parts info26; have hroom12 : l0.length ≤ c0 := HC0.out; have hC12 : Kd.C k26 _ A0 l0.length l0 := HR0.out; have hcut12 := cut_to (P := Try.prog) 22 26 .i64 Try.underlying22 hi012 A0 l0.length c0 (ji5) (of_decide_eq_true (by first | (with_reducible assumption) | assumption)) q12 hroom12; have hr12 := Kd.C_take (m := ((ji5) : Int).toNat) hC12 (by omega); have hy12 : y255.length = ((ji5) : Int).toNat := (by rw [Ny255.out, List.length_take]; omega); rw [← Ny255.out] at hr12; rw [← hy12] at hcut12; have HR258 := Aside0.mk hr12; have HC258 := Aside0.mk (show y255.length ≤ c0 from by omega); clear hr12 hC12 hroom12 hi012 hsz12; have KY12 := Aside0.mk hy12; clear hy12; replace q12 := eq_true q12) | ((with_reducible refine gate_callee (f := 10) rfl ?_); refine goesL_ (some 27) rfl rfl Try.func10 (by kernel_rfl) rfl #[.slice A0 y255.length c0, .int .i64 a1, .slice A2 l2.length c2] rfl (by (try simp only [List.map_toArray, List.map_cons, List.map_nil]); first | done | rfl | (simp only [List.length_drop, List.length_take]; rfl)) ?_; (with_reducible refine (place_Targets.calls _ _ y255 a1 _ _ l2 t259 _ ?side1 ?side2 ?side3 ?side4 A8.out).mono ?_); (case side1 => repeat (first | exact (Kd.C_below HR258.out HB.out) | (with_reducible refine Kd.C_alloc ?_ _) | (with_reducible refine Kd.C_drewN ?_ _) | (with_reducible refine Kd.C_drew ?_))); (case side2 => exact HC258.out); (case side3 => repeat (first | exact (Kd.C_below HR2.out HB.out) | (with_reducible refine Kd.C_alloc ?_ _) | (with_reducible refine Kd.C_drewN ?_ _) | (with_reducible refine Kd.C_drew ?_))); (case side4 => exact HC2.out); rintro e w13 ⟨v260, rfl, ho0, hb⟩; refine ⟨_, rfl, ?_⟩; have n0_ := Aside0.mk (Kd.R_lower ho0 (below_size (by repeat (first | (with_reducible first | exact HB.out | apply below_alloc | apply pw_below_drewN | apply below_drew1) | exact HB.out)))); have n1_ := Aside0.mk (below_step (by repeat (first | (with_reducible first | exact HB.out | apply below_alloc | apply pw_below_drewN | apply below_drew1) | exact HB.out)) hb); clear HB; have HO261 := n0_; have HB := n1_; clear n0_ n1_; (try clear hb); (try clear hb2); (try clear hk); (try clear hi); (try clear ho0)) | ((with_reducible refine gate_dst (N := 30) rfl ?_); (try (refine gate_guard (by rfl) ?_; dsimp only)); refine Kd.R_make Kd.bool _ 4 rfl (N := 30) rfl 35 _ _ rfl (y255.length : Int) rfl rfl Try.underlying35 (.bool false) 1 info4 rfl (by decide) (by omega) false (ok := fun _ => True) (okp := fun _ => True) rfl (fun _ hk => hk) trivial (of_decide_eq_true (by first | (with_reducible assumption) | assumption)) (Nat.le_trans (Nat.mul_le_mul_right _ (of_decide_eq_true (by first | (with_reducible assumption) | assumption) : (y255.length : Int).toNat ≤ 281474976710656)) (by omega)) (Below.refl _ _) (Nat.le_refl _) ?_; intro v263 w14 ho15 hb hg_ hnew_; clear hg_ hnew_; (first | rw [← Ny262.out] at ho15 | (simp only [Int.reduceToNat] at ho15; rw [← Ny262.out] at ho15)); have n0_ := Aside0.mk (Kd.R_below (by (with_reducible repeat (first | apply Kd.R_alloc | apply Kd.R_drewN | apply Kd.R_drew)); exact HO261.out) hb); have n1_ := Aside0.mk (Kd.R_lower ho15 (below_size (by repeat (first | (with_reducible first | exact HB.out | apply below_alloc | apply pw_below_drewN | apply below_drew1) | exact HB.out)))); have n2_ := Aside0.mk (below_step (by repeat (first | (with_reducible first | exact HB.out | apply below_alloc | apply pw_below_drewN | apply below_drew1) | exact HB.out)) hb); clear HO261; clear HB; have HO261 := n0_; have HO264 := n1_; have HB := n2_; clear n0_ n1_ n2_; clear hb ho15))
          go_loopg [10] k (fun kq v10 w' => ∃ (x9_1 : List Bool) (x10_1 : Int), v10 = .int .i64 x10_1 ∧ Aside0 (tabulariumlaw22_PlaceBest.l0 kq y255 a1 l2 t254 t259 x9_1 x10_1 = some r) ∧ Aside0 (kq ≤ k) ∧ Aside0 (Kd.R (Kd.int .i64) 3 w' w.heap.size (fun _ => True) v260 t259) ∧ Aside0 (Kd.R Kd.bool 4 w' w.heap.size (fun _ => True) v263 x9_1) ∧ Aside0 (Below w.heap.size w w'))
          case atStart => exact ⟨(y262), (0), (by first | rfl | (simp; done) | (simp [*]; done) | (simp; exact (fun (l_ : List UInt8) => by cases l_ <;> rfl : ∀ l_ : List UInt8, l_.isEmpty = !(l_ != [])) _)), H', ⟨Nat.le_refl _⟩, ⟨by (with_reducible repeat (first | apply Kd.R_alloc | apply Kd.R_drewN | apply Kd.R_drew)); exact HO261.out⟩, ⟨by (with_reducible repeat (first | apply Kd.R_alloc | apply Kd.R_drewN | apply Kd.R_drew)); exact HO264.out⟩, ⟨by repeat (first | (with_reducible first | exact HB.out | apply below_alloc | apply pw_below_drewN | apply below_drew1) | exact HB.out)⟩⟩
          case round =>
            clear H'
            try clear c1
            try clear q1
            try clear c2
            try clear p2
            try clear c4
            try clear c6
            try clear c6b0
            try clear c6b1
            try clear c7
            try clear c7b0
            try clear c7b1
            try clear c8
            try clear c9
            try clear c9b0
            try clear c9b1
            try clear c10
            try clear c10b0
            try clear c10b1
            try clear q12
            try clear q12
            obtain ⟨x9_1, x10_1, rfl, HA, HK1, HO_8, HO_9, HB⟩ := hrel
            cases gk with
            | zero => exact absurd HA.out (by simp [tabulariumlaw22_PlaceBest.l0])
            | succ k1 =>
              have H := HA.out
              clear HA
              simp only [tabulariumlaw22_PlaceBest.l0] at H
              by_cases c16 : x10_1 < (t259.length : Int)
              · rw [if_pos c16] at H
                have c16b0 : decide (x10_1 < (t259.length : Int)) = true := decide_eq_true c16
                clear c16
                by_cases c17 : 0 ≤ x10_1
                · rw [if_pos c17] at H
                  have c17b0 : decide (0 ≤ x10_1) = true := decide_eq_true c17
                  clear c17
                  have HC18 := Aside0.mk H
                  clear H
                  obtain ⟨Ao19, co19, eo19⟩ := Kd.R_slice HO_8.out
                  subst eo19
                  have p265 : 0 ≤ (x10_1 : Int) := of_decide_eq_true (by first | (with_reducible assumption) | assumption)
                  have q265 : x10_1 < (t259.length : Int) := of_decide_eq_true (by first | (with_reducible assumption) | assumption)
                  obtain ⟨ad265, e265, hx265_0⟩ := Kd.at_int (Kd.R_reads' HO_8.out).2.2 x10_1 p265 q265
                  cases e265
                  replace p265 := eq_true p265; replace q265 := eq_true q265
                  go_upto_region 9 with (fail)
                  go_cut [82] (fun v82 wc => ∃ (kq : Nat) (x82_17 : Bool), v82 = .bool x82_17 ∧ Aside0 (tabulariumlaw22_PlaceBest.j1 kq y255 a1 l2 t254 t259 x9_1 x10_1 (rd t259 x10_1) x82_17 = some r) ∧ Aside0 (kq ≤ k1) ∧ Aside0 (Kd.R (Kd.int .i64) 3 wc w.heap.size (fun _ => True) (.slice (some ad265) t259.length co19) t259) ∧ Aside0 (Kd.R Kd.bool 4 wc w.heap.size (fun _ => True) v263 x9_1) ∧ Aside0 (Below w.heap.size w wc))
                  case first =>
                    have H := HC18.out
                    clear HC18
                    by_cases c20 : (rd t259 x10_1) < 0
                    · rw [if_pos c20] at H
                      have c20b0 : decide ((rd t259 x10_1) < 0) = true := decide_eq_true c20
                      clear c20
                      (first | rw [c20b0] | (simp only [i64_w, i32_w]; rw [c20b0]) | skip)
                      have H' := Aside0.mk H
                      clear H
                      try go_wp2
                      have n0_ := Aside0.mk (Kd.R_drew HO_8.out)
                      have n1_ := Aside0.mk (Kd.R_drew HO_9.out)
                      have n2_ := Aside0.mk (below_drew1 HB.out)
                      clear HO_8; clear HO_9; clear HB; have HO_8 := n0_; have HO_9 := n1_; have HB := n2_; clear n0_ n1_ n2_
                      refine start_ (n := 42) (S := fun w' => True) (ds := []) (nz 42 0) (by kernel_rfl) rfl (by kernel_rfl) trivial (fun hHeld => ?_); refine with_tabW tabulariumlaw22_PlaceBest.tab9 tabulariumlaw22_PlaceBest.bits9 (fun HT_ HW_ => ?_)
                      generalize wr.drew = w21 at HO_8 HO_9 HB hHeld ⊢
                      refine zp HT_ 0 41 1 ?_
                      refine zp HT_ 1 42 3 ?_
                      refine zp HT_ 2 43 7 ?_
                      refine zq HT_ 3 44 15 ?_
                      refine zq HT_ 4 45 31 ?_
                      refine zq HT_ 5 46 63 ?_
                      refine zq HT_ 6 47 127 ?_
                      refine zp HT_ 7 48 255 ?_
                      refine zp HT_ 8 49 511 ?_
                      refine zq HT_ 9 50 1023 ?_
                      refine zq HT_ 10 51 2047 ?_
                      refine zq HT_ 11 52 4095 ?_
                      refine zq HT_ 12 53 8191 ?_
                      refine zp HT_ 13 54 16383 ?_
                      refine zp HT_ 14 55 32767 ?_
                      refine zq HT_ 15 56 65535 ?_
                      refine zq HT_ 16 57 131071 ?_
                      refine zq HT_ 17 58 262143 ?_
                      refine zq HT_ 18 59 524287 ?_
                      refine zq HT_ 19 60 1048575 ?_
                      refine zq HT_ 20 61 2097151 ?_
                      refine zp HT_ 21 62 4194303 ?_
                      refine zp HT_ 22 63 8388607 ?_
                      refine zq HT_ 23 64 16777215 ?_
                      refine zq HT_ 24 65 33554431 ?_
                      refine zq HT_ 25 66 67108863 ?_
                      refine zq HT_ 26 67 134217727 ?_
                      refine zq HT_ 27 68 268435455 ?_
                      refine zq HT_ 28 69 536870911 ?_
                      refine zq HT_ 29 70 1073741823 ?_
                      refine zq HT_ 30 71 2147483647 ?_
                      refine zq HT_ 31 72 4294967295 ?_
                      refine zq HT_ 32 73 8589934591 ?_
                      refine zq HT_ 33 74 17179869183 ?_
                      refine zq HT_ 34 75 34359738367 ?_
                      refine zq HT_ 35 76 68719476735 ?_
                      refine zq HT_ 36 77 137438953471 ?_
                      refine zq HT_ 37 78 274877906943 ?_
                      refine zq HT_ 38 79 549755813887 ?_
                      refine zq HT_ 39 80 1099511627775 ?_
                      refine zq HT_ 40 81 2199023255551 ?_
                      refine zp HT_ 41 82 4398046511103 ?_
                      refine done_ (done_of HT_.out (by kernel_rfl)) ?_
                      try go_wp2
                      go_meet
                      case rel => exact ⟨_, (true), (by first | rfl | (simp; done) | (simp [*]; done) | (simp; exact (fun (l_ : List UInt8) => by cases l_ <;> rfl : ∀ l_ : List UInt8, l_.isEmpty = !(l_ != [])) _)), H', ⟨by have := HK1.out; first | omega | exact Nat.le_refl _⟩, ⟨by (with_reducible repeat (first | apply Kd.R_alloc | apply Kd.R_drewN | apply Kd.R_drew)); exact HO_8.out⟩, ⟨by (with_reducible repeat (first | apply Kd.R_alloc | apply Kd.R_drewN | apply Kd.R_drew)); exact HO_9.out⟩, ⟨by repeat (first | (with_reducible first | exact HB.out | apply below_alloc | apply pw_below_drewN | apply below_drew1) | exact HB.out)⟩⟩
                    · rw [if_neg c20] at H
                      have c20b0 : decide ((rd t259 x10_1) < 0) = false := decide_eq_false c20
                      clear c20
                      (first | rw [c20b0] | (simp only [i64_w, i32_w]; rw [c20b0]) | skip)
                      by_cases c22 : (rd t259 x10_1) ≥ (y255.length : Int)
                      · rw [if_pos c22] at H
                        have c22b0 : decide ((y255.length : Int) ≤ (rd t259 x10_1)) = true := decide_eq_true c22
                        clear c22
                        have H' := Aside0.mk H
                        clear H
                        try go_wp2
                        have n0_ := Aside0.mk (Kd.R_drew HO_8.out)
                        have n1_ := Aside0.mk (Kd.R_drew HO_9.out)
                        have n2_ := Aside0.mk (below_drew1 HB.out)
                        clear HO_8; clear HO_9; clear HB; have HO_8 := n0_; have HO_9 := n1_; have HB := n2_; clear n0_ n1_ n2_
                        refine start_ (n := 42) (S := fun w' => True) (ds := []) (nz 42 0) (by kernel_rfl) rfl (by kernel_rfl) trivial (fun hHeld => ?_); refine with_tabW tabulariumlaw22_PlaceBest.tab9 tabulariumlaw22_PlaceBest.bits9 (fun HT_ HW_ => ?_)
                        generalize wr.drew = w23 at HO_8 HO_9 HB hHeld ⊢
                        refine zp HT_ 0 41 1 ?_
                        refine zp HT_ 1 42 3 ?_
                        refine zp HT_ 2 43 7 ?_
                        refine zp HT_ 3 44 15 ?_
                        refine zp HT_ 4 45 31 ?_
                        refine zp HT_ 5 46 63 ?_
                        refine zp HT_ 6 47 127 ?_
                        refine zp HT_ 7 48 255 ?_
                        refine zp HT_ 8 49 511 ?_
                        refine zq HT_ 9 50 1023 ?_
                        refine zq HT_ 10 51 2047 ?_
                        refine zq HT_ 11 52 4095 ?_
                        refine zq HT_ 12 53 8191 ?_
                        refine zp HT_ 13 54 16383 ?_
                        refine zp HT_ 14 55 32767 ?_
                        refine zq HT_ 15 56 65535 ?_
                        refine zq HT_ 16 57 131071 ?_
                        refine zq HT_ 17 58 262143 ?_
                        refine zq HT_ 18 59 524287 ?_
                        refine zq HT_ 19 60 1048575 ?_
                        refine zq HT_ 20 61 2097151 ?_
                        refine zp HT_ 21 62 4194303 ?_
                        refine zp HT_ 22 63 8388607 ?_
                        refine zq HT_ 23 64 16777215 ?_
                        refine zq HT_ 24 65 33554431 ?_
                        refine zq HT_ 25 66 67108863 ?_
                        refine zq HT_ 26 67 134217727 ?_
                        refine zq HT_ 27 68 268435455 ?_
                        refine zq HT_ 28 69 536870911 ?_
                        refine zq HT_ 29 70 1073741823 ?_
                        refine zq HT_ 30 71 2147483647 ?_
                        refine zq HT_ 31 72 4294967295 ?_
                        refine zq HT_ 32 73 8589934591 ?_
                        refine zq HT_ 33 74 17179869183 ?_
                        refine zq HT_ 34 75 34359738367 ?_
                        refine zq HT_ 35 76 68719476735 ?_
                        refine zq HT_ 36 77 137438953471 ?_
                        refine zq HT_ 37 78 274877906943 ?_
                        refine zq HT_ 38 79 549755813887 ?_
                        refine zq HT_ 39 80 1099511627775 ?_
                        refine zq HT_ 40 81 2199023255551 ?_
                        refine zp HT_ 41 82 4398046511103 ?_
                        refine done_ (done_of HT_.out (by kernel_rfl)) ?_
                        try go_wp2
                        go_meet
                        case rel => exact ⟨_, (true), (by first | rfl | (simp; done) | (simp [*]; done) | (simp; exact (fun (l_ : List UInt8) => by cases l_ <;> rfl : ∀ l_ : List UInt8, l_.isEmpty = !(l_ != [])) _)), H', ⟨by have := HK1.out; first | omega | exact Nat.le_refl _⟩, ⟨by (with_reducible repeat (first | apply Kd.R_alloc | apply Kd.R_drewN | apply Kd.R_drew)); exact HO_8.out⟩, ⟨by (with_reducible repeat (first | apply Kd.R_alloc | apply Kd.R_drewN | apply Kd.R_drew)); exact HO_9.out⟩, ⟨by repeat (first | (with_reducible first | exact HB.out | apply below_alloc | apply pw_below_drewN | apply below_drew1) | exact HB.out)⟩⟩
                      · rw [if_neg c22] at H
                        have c22b0 : decide ((y255.length : Int) ≤ (rd t259 x10_1)) = false := decide_eq_false c22
                        clear c22
                        by_cases c24 : 0 ≤ (rd t259 x10_1)
                        · rw [if_pos c24] at H
                          have c24b0 : decide (0 ≤ (rd t259 x10_1)) = true := decide_eq_true c24
                          clear c24
                          by_cases c25 : (rd t259 x10_1) < (x9_1.length : Int)
                          · rw [if_pos c25] at H
                            have c25b0 : decide ((rd t259 x10_1) < (x9_1.length : Int)) = true := decide_eq_true c25
                            clear c25
                            obtain ⟨bq26, hbq26⟩ : ∃ b_ : Bool, b_ = (rdOf false x9_1 (rd t259 x10_1)) := ⟨_, rfl⟩
                            replace H : (if bq26 = true then (tabulariumlaw22_PlaceBest.j1 k1 y255 a1 l2 t254 t259 x9_1 x10_1 (rd t259 x10_1) true) else (if (rd t259 x10_1) < (y255.length : Int) then ((place_Fit.f k1 ((rd_T26 y255 (rd t259 x10_1)).f0) ((rd_T26 y255 (rd t259 x10_1)).f1) ((rd_T26 y255 (rd t259 x10_1)).f2)).bind fun t268 => (if t268 = true then (if x10_1 > 0 then (if 0 ≤ (wrap64 (x10_1 - 1)) then (if (wrap64 (x10_1 - 1)) < (t259.length : Int) then (if 0 ≤ (rd t259 (wrap64 (x10_1 - 1))) then (if (rd t259 (wrap64 (x10_1 - 1))) < (y255.length : Int) then ((place_Before.f k1 ((rd_T26 y255 (rd t259 (wrap64 (x10_1 - 1)))).f0) ((rd_T26 y255 (rd t259 (wrap64 (x10_1 - 1)))).f1) ((rd_T26 y255 (rd t259 (wrap64 (x10_1 - 1)))).f2) ((rd_T26 y255 (rd t259 x10_1)).f0) ((rd_T26 y255 (rd t259 x10_1)).f1) ((rd_T26 y255 (rd t259 x10_1)).f2)).bind fun t272 => (tabulariumlaw22_PlaceBest.j1 k1 y255 a1 l2 t254 t259 x9_1 x10_1 (rd t259 x10_1) (decide (t272 > 0)))) else (none)) else (none)) else (none)) else (none)) else (tabulariumlaw22_PlaceBest.j1 k1 y255 a1 l2 t254 t259 x9_1 x10_1 (rd t259 x10_1) false)) else (tabulariumlaw22_PlaceBest.j1 k1 y255 a1 l2 t254 t259 x9_1 x10_1 (rd t259 x10_1) true))) else (none))) = some r := by rw [← hbq26] at H; exact H
                            have Nbq26 := Aside0.mk hbq26
                            clear hbq26
                            by_cases c27 : bq26 = true
                            · subst c27
                              have H1 : (tabulariumlaw22_PlaceBest.j1 k1 y255 a1 l2 t254 t259 x9_1 x10_1 (rd t259 x10_1) true) = some r := by rw [if_pos rfl] at H; exact H
                              clear H
                              have H := H1
                              clear H1
                              have H' := Aside0.mk H
                              clear H
                              try go_wp2
                              have n0_ := Aside0.mk (Kd.R_drew HO_8.out)
                              have n1_ := Aside0.mk (Kd.R_drew HO_9.out)
                              have n2_ := Aside0.mk (below_drew1 HB.out)
                              clear HO_8; clear HO_9; clear HB; have HO_8 := n0_; have HO_9 := n1_; have HB := n2_; clear n0_ n1_ n2_
                              obtain ⟨Ao29, co29, eo29⟩ := Kd.R_slice HO_9.out
                              (first | subst eo29 | (injection eo29 with f1_ f2_ f3_; have f4_ := f1_.symm; have f5_ := f3_.symm; clear f1_ f2_ f3_; subst f4_; subst f5_))
                              have p266 : 0 ≤ ((rd t259 x10_1) : Int) := of_decide_eq_true (by first | (with_reducible assumption) | assumption)
                              have q266 : (rd t259 x10_1) < (x9_1.length : Int) := of_decide_eq_true (by first | (with_reducible assumption) | assumption)
                              obtain ⟨ad266, e266, hx266_0⟩ := Kd.at_bool (Kd.R_reads' HO_9.out).2.2 (rd t259 x10_1) p266 q266
                              (try rw [← Nbq26.out] at hx266_0)
                              cases e266
                              replace p266 := eq_true p266; replace q266 := eq_true q266
                              refine start_ (n := 42) (S := fun w' => w'.cell? (ad266.add ((rd t259 x10_1)).toNat) = some (.bool true)) (ds := []) (nz 42 0) (by kernel_rfl) rfl (by kernel_rfl) (hx266_0) (fun hHeld => ?_); refine with_tabW tabulariumlaw22_PlaceBest.tab9 tabulariumlaw22_PlaceBest.bits9 (fun HT_ HW_ => ?_)
                              generalize wr.drew = w28 at HO_8 HO_9 HB hx266_0 hHeld ⊢
                              refine zp HT_ 0 41 1 ?_
                              refine zp HT_ 1 42 3 ?_
                              refine zp HT_ 2 43 7 ?_
                              refine zp HT_ 3 44 15 ?_
                              refine zp HT_ 4 45 31 ?_
                              refine zp HT_ 5 46 63 ?_
                              refine zp HT_ 6 47 127 ?_
                              refine zp HT_ 7 48 255 ?_
                              refine zp HT_ 8 49 511 ?_
                              refine zp HT_ 9 50 1023 ?_
                              refine zp HT_ 10 51 2047 ?_
                              refine zp HT_ 11 52 4095 ?_
                              refine zt HT_ HW_ hHeld 12 53 8191 ?_
                              refine zp HT_ 13 54 16383 ?_
                              refine zp HT_ 14 55 32767 ?_
                              refine zq HT_ 15 56 65535 ?_
                              refine zq HT_ 16 57 131071 ?_
                              refine zq HT_ 17 58 262143 ?_
                              refine zq HT_ 18 59 524287 ?_
                              refine zq HT_ 19 60 1048575 ?_
                              refine zq HT_ 20 61 2097151 ?_
                              refine zp HT_ 21 62 4194303 ?_
                              refine zp HT_ 22 63 8388607 ?_
                              refine zq HT_ 23 64 16777215 ?_
                              refine zq HT_ 24 65 33554431 ?_
                              refine zq HT_ 25 66 67108863 ?_
                              refine zq HT_ 26 67 134217727 ?_
                              refine zq HT_ 27 68 268435455 ?_
                              refine zq HT_ 28 69 536870911 ?_
                              refine zq HT_ 29 70 1073741823 ?_
                              refine zq HT_ 30 71 2147483647 ?_
                              refine zq HT_ 31 72 4294967295 ?_
                              refine zq HT_ 32 73 8589934591 ?_
                              refine zq HT_ 33 74 17179869183 ?_
                              refine zq HT_ 34 75 34359738367 ?_
                              refine zq HT_ 35 76 68719476735 ?_
                              refine zq HT_ 36 77 137438953471 ?_
                              refine zq HT_ 37 78 274877906943 ?_
                              refine zq HT_ 38 79 549755813887 ?_
                              refine zq HT_ 39 80 1099511627775 ?_
                              refine zq HT_ 40 81 2199023255551 ?_
                              refine zp HT_ 41 82 4398046511103 ?_
                              refine done_ (done_of HT_.out (by kernel_rfl)) ?_
                              try go_wp2
                              go_meet
                              case rel => exact ⟨_, (true), (by first | rfl | (simp; done) | (simp [*]; done) | (simp; exact (fun (l_ : List UInt8) => by cases l_ <;> rfl : ∀ l_ : List UInt8, l_.isEmpty = !(l_ != [])) _)), H', ⟨by have := HK1.out; first | omega | exact Nat.le_refl _⟩, ⟨by (with_reducible repeat (first | apply Kd.R_alloc | apply Kd.R_drewN | apply Kd.R_drew)); exact HO_8.out⟩, ⟨by (with_reducible repeat (first | apply Kd.R_alloc | apply Kd.R_drewN | apply Kd.R_drew)); exact HO_9.out⟩, ⟨by repeat (first | (with_reducible first | exact HB.out | apply below_alloc | apply pw_below_drewN | apply below_drew1) | exact HB.out)⟩⟩
                            · replace c27 := Bool.eq_false_iff.mpr c27
                              subst c27
                              have H1 : (if (rd t259 x10_1) < (y255.length : Int) then ((place_Fit.f k1 ((rd_T26 y255 (rd t259 x10_1)).f0) ((rd_T26 y255 (rd t259 x10_1)).f1) ((rd_T26 y255 (rd t259 x10_1)).f2)).bind fun t268 => (if t268 = true then (if x10_1 > 0 then (if 0 ≤ (wrap64 (x10_1 - 1)) then (if (wrap64 (x10_1 - 1)) < (t259.length : Int) then (if 0 ≤ (rd t259 (wrap64 (x10_1 - 1))) then (if (rd t259 (wrap64 (x10_1 - 1))) < (y255.length : Int) then ((place_Before.f k1 ((rd_T26 y255 (rd t259 (wrap64 (x10_1 - 1)))).f0) ((rd_T26 y255 (rd t259 (wrap64 (x10_1 - 1)))).f1) ((rd_T26 y255 (rd t259 (wrap64 (x10_1 - 1)))).f2) ((rd_T26 y255 (rd t259 x10_1)).f0) ((rd_T26 y255 (rd t259 x10_1)).f1) ((rd_T26 y255 (rd t259 x10_1)).f2)).bind fun t272 => (tabulariumlaw22_PlaceBest.j1 k1 y255 a1 l2 t254 t259 x9_1 x10_1 (rd t259 x10_1) (decide (t272 > 0)))) else (none)) else (none)) else (none)) else (none)) else (tabulariumlaw22_PlaceBest.j1 k1 y255 a1 l2 t254 t259 x9_1 x10_1 (rd t259 x10_1) false)) else (tabulariumlaw22_PlaceBest.j1 k1 y255 a1 l2 t254 t259 x9_1 x10_1 (rd t259 x10_1) true))) else (none)) = some r := by rw [if_neg (show ¬ (false = true) by decide)] at H; exact H
                              clear H
                              have H := H1
                              clear H1
                              by_cases c30 : (rd t259 x10_1) < (y255.length : Int)
                              · rw [if_pos c30] at H
                                have c30b0 : decide ((rd t259 x10_1) < (y255.length : Int)) = true := decide_eq_true c30
                                clear c30
                                replace H := Option.bind_eq_some_iff.mp H
                                obtain ⟨t268, A310, H⟩ := H
                                replace H : (if t268 = true then (if x10_1 > 0 then (if 0 ≤ (wrap64 (x10_1 - 1)) then (if (wrap64 (x10_1 - 1)) < (t259.length : Int) then (if 0 ≤ (rd t259 (wrap64 (x10_1 - 1))) then (if (rd t259 (wrap64 (x10_1 - 1))) < (y255.length : Int) then ((place_Before.f k1 ((rd_T26 y255 (rd t259 (wrap64 (x10_1 - 1)))).f0) ((rd_T26 y255 (rd t259 (wrap64 (x10_1 - 1)))).f1) ((rd_T26 y255 (rd t259 (wrap64 (x10_1 - 1)))).f2) ((rd_T26 y255 (rd t259 x10_1)).f0) ((rd_T26 y255 (rd t259 x10_1)).f1) ((rd_T26 y255 (rd t259 x10_1)).f2)).bind fun t272 => (tabulariumlaw22_PlaceBest.j1 k1 y255 a1 l2 t254 t259 x9_1 x10_1 (rd t259 x10_1) (decide (t272 > 0)))) else (none)) else (none)) else (none)) else (none)) else (tabulariumlaw22_PlaceBest.j1 k1 y255 a1 l2 t254 t259 x9_1 x10_1 (rd t259 x10_1) false)) else (tabulariumlaw22_PlaceBest.j1 k1 y255 a1 l2 t254 t259 x9_1 x10_1 (rd t259 x10_1) true)) = some r := H
                                have A31 := Aside0.mk A310
                                clear A310
                                by_cases c32 : t268 = true
                                · subst c32
                                  have H1 : (if x10_1 > 0 then (if 0 ≤ (wrap64 (x10_1 - 1)) then (if (wrap64 (x10_1 - 1)) < (t259.length : Int) then (if 0 ≤ (rd t259 (wrap64 (x10_1 - 1))) then (if (rd t259 (wrap64 (x10_1 - 1))) < (y255.length : Int) then ((place_Before.f k1 ((rd_T26 y255 (rd t259 (wrap64 (x10_1 - 1)))).f0) ((rd_T26 y255 (rd t259 (wrap64 (x10_1 - 1)))).f1) ((rd_T26 y255 (rd t259 (wrap64 (x10_1 - 1)))).f2) ((rd_T26 y255 (rd t259 x10_1)).f0) ((rd_T26 y255 (rd t259 x10_1)).f1) ((rd_T26 y255 (rd t259 x10_1)).f2)).bind fun t272 => (tabulariumlaw22_PlaceBest.j1 k1 y255 a1 l2 t254 t259 x9_1 x10_1 (rd t259 x10_1) (decide (t272 > 0)))) else (none)) else (none)) else (none)) else (none)) else (tabulariumlaw22_PlaceBest.j1 k1 y255 a1 l2 t254 t259 x9_1 x10_1 (rd t259 x10_1) false)) = some r := by rw [if_pos rfl] at H; exact H
                                  clear H
                                  have H := H1
                                  clear H1
                                  by_cases c33 : x10_1 > 0
                                  · rw [if_pos c33] at H
                                    have c33b0 : decide (0 < x10_1) = true := decide_eq_true c33
                                    clear c33
                                    obtain ⟨ji34, hji34⟩ : ∃ j_ : Int, (wrap64 (x10_1 - 1)) = j_ := ⟨_, rfl⟩
                                    replace H : (if 0 ≤ (ji34) then (if (ji34) < (t259.length : Int) then (if 0 ≤ (rd t259 (ji34)) then (if (rd t259 (ji34)) < (y255.length : Int) then ((place_Before.f k1 ((rd_T26 y255 (rd t259 (ji34))).f0) ((rd_T26 y255 (rd t259 (ji34))).f1) ((rd_T26 y255 (rd t259 (ji34))).f2) ((rd_T26 y255 (rd t259 x10_1)).f0) ((rd_T26 y255 (rd t259 x10_1)).f1) ((rd_T26 y255 (rd t259 x10_1)).f2)).bind fun t272 => (tabulariumlaw22_PlaceBest.j1 k1 y255 a1 l2 t254 t259 x9_1 x10_1 (rd t259 x10_1) (decide (t272 > 0)))) else (none)) else (none)) else (none)) else (none)) = some r := by first | (rw [hji34] at H; exact H) | (simp only [hji34] at H ⊢; exact H)
                                    (try rw [hji34] at A31)
                                    have hji34w : (IntKind.i64.wrap (x10_1 - 1)) = ji34 := (i64_w _).trans hji34
                                    by_cases c35 : 0 ≤ (ji34)
                                    · rw [if_pos c35] at H
                                      have c35b0 : decide (0 ≤ (ji34)) = true := decide_eq_true c35
                                      clear c35
                                      by_cases c36 : (ji34) < (t259.length : Int)
                                      · rw [if_pos c36] at H
                                        have c36b0 : decide ((ji34) < (t259.length : Int)) = true := decide_eq_true c36
                                        clear c36
                                        by_cases c37 : 0 ≤ (rd t259 (ji34))
                                        · rw [if_pos c37] at H
                                          have c37b0 : decide (0 ≤ (rd t259 (ji34))) = true := decide_eq_true c37
                                          clear c37
                                          by_cases c38 : (rd t259 (ji34)) < (y255.length : Int)
                                          · rw [if_pos c38] at H
                                            have c38b0 : decide ((rd t259 (ji34)) < (y255.length : Int)) = true := decide_eq_true c38
                                            clear c38
                                            replace H := Option.bind_eq_some_iff.mp H
                                            obtain ⟨t272, A390, H⟩ := H
                                            replace H : (tabulariumlaw22_PlaceBest.j1 k1 y255 a1 l2 t254 t259 x9_1 x10_1 (rd t259 x10_1) (decide (t272 > 0))) = some r := H
                                            have A39 := Aside0.mk A390
                                            clear A390
                                            have H' := Aside0.mk H
                                            clear H
                                            try go_wp2
                                            have n0_ := Aside0.mk (Kd.R_drew HO_8.out)
                                            have n1_ := Aside0.mk (Kd.R_drew HO_9.out)
                                            have n2_ := Aside0.mk (below_drew1 HB.out)
                                            clear HO_8; clear HO_9; clear HB; have HO_8 := n0_; have HO_9 := n1_; have HB := n2_; clear n0_ n1_ n2_
                                            obtain ⟨Ao41, co41, eo41⟩ := Kd.R_slice HO_9.out
                                            (first | subst eo41 | (injection eo41 with f1_ f2_ f3_; have f4_ := f1_.symm; have f5_ := f3_.symm; clear f1_ f2_ f3_; subst f4_; subst f5_))
                                            have p266 : 0 ≤ ((rd t259 x10_1) : Int) := of_decide_eq_true (by first | (with_reducible assumption) | assumption)
                                            have q266 : (rd t259 x10_1) < (x9_1.length : Int) := of_decide_eq_true (by first | (with_reducible assumption) | assumption)
                                            obtain ⟨ad266, e266, hx266_0⟩ := Kd.at_bool (Kd.R_reads' HO_9.out).2.2 (rd t259 x10_1) p266 q266
                                            (try rw [← Nbq26.out] at hx266_0)
                                            cases e266
                                            replace p266 := eq_true p266; replace q266 := eq_true q266
                                            have p267 : 0 ≤ ((rd t259 x10_1) : Int) := of_decide_eq_true (by first | (with_reducible assumption) | assumption)
                                            have q267 : (rd t259 x10_1) < (y255.length : Int) := of_decide_eq_true (by first | (with_reducible assumption) | assumption)
                                            obtain ⟨ad267, e267, hx267_0, hx267_1, hx267_2⟩ := at_T26 HR258.out (rd t259 x10_1) p267 q267
                                            have hw267_2 := hx267_2
                                            have hw267_1 := hx267_1
                                            have hw267_0 := hx267_0
                                            cases e267
                                            replace hx267_0 := (HB.out.cell (World.block_lt_of_cell? w _ hx267_0)).trans hx267_0
                                            replace hx267_1 := (HB.out.cell (World.block_lt_of_cell? w _ hx267_1)).trans hx267_1
                                            replace hx267_2 := (HB.out.cell (World.block_lt_of_cell? w _ hx267_2)).trans hx267_2
                                            replace p267 := eq_true p267; replace q267 := eq_true q267
                                            have p269 : 0 ≤ ((ji34) : Int) := of_decide_eq_true (by first | (with_reducible assumption) | assumption)
                                            have q269 : (ji34) < (t259.length : Int) := of_decide_eq_true (by first | (with_reducible assumption) | assumption)
                                            obtain ⟨ad269, e269, hx269_0⟩ := Kd.at_int (Kd.R_reads' HO_8.out).2.2 (ji34) p269 q269
                                            obtain rfl : ad265 = ad269 := (by injection e269)
                                            replace p269 := eq_true p269; replace q269 := eq_true q269
                                            have p270 : 0 ≤ ((rd t259 (ji34)) : Int) := of_decide_eq_true (by first | (with_reducible assumption) | assumption)
                                            have q270 : (rd t259 (ji34)) < (y255.length : Int) := of_decide_eq_true (by first | (with_reducible assumption) | assumption)
                                            obtain ⟨ad270, e270, hx270_0, hx270_1, hx270_2⟩ := at_T26 HR258.out (rd t259 (ji34)) p270 q270
                                            have hw270_2 := hx270_2
                                            have hw270_1 := hx270_1
                                            have hw270_0 := hx270_0
                                            obtain rfl : ad267 = ad270 := (by injection e270)
                                            replace hx270_0 := (HB.out.cell (World.block_lt_of_cell? w _ hx270_0)).trans hx270_0
                                            replace hx270_1 := (HB.out.cell (World.block_lt_of_cell? w _ hx270_1)).trans hx270_1
                                            replace hx270_2 := (HB.out.cell (World.block_lt_of_cell? w _ hx270_2)).trans hx270_2
                                            replace p270 := eq_true p270; replace q270 := eq_true q270
                                            have p271 : 0 ≤ ((rd t259 x10_1) : Int) := of_decide_eq_true (by first | (with_reducible assumption) | assumption)
                                            have q271 : (rd t259 x10_1) < (y255.length : Int) := of_decide_eq_true (by first | (with_reducible assumption) | assumption)
                                            obtain ⟨ad271, e271, hx271_0, hx271_1, hx271_2⟩ := at_T26 HR258.out (rd t259 x10_1) p271 q271
                                            have hw271_2 := hx271_2
                                            have hw271_1 := hx271_1
                                            have hw271_0 := hx271_0
                                            obtain rfl : ad267 = ad271 := (by injection e271)
                                            replace hx271_0 := (HB.out.cell (World.block_lt_of_cell? w _ hx271_0)).trans hx271_0
                                            replace hx271_1 := (HB.out.cell (World.block_lt_of_cell? w _ hx271_1)).trans hx271_1
                                            replace hx271_2 := (HB.out.cell (World.block_lt_of_cell? w _ hx271_2)).trans hx271_2
                                            replace p271 := eq_true p271; replace q271 := eq_true q271
                                            refine start_ (n := 42) (S := fun w' => w'.cell? (ad266.add ((rd t259 x10_1)).toNat) = some (.bool false) ∧ w'.cell? (ad267.add (((rd t259 x10_1)).toNat * 3)) = some (.float .f64 ((rd_T26 y255 (rd t259 x10_1)).f0)) ∧ w'.cell? ⟨(ad267.add (((rd t259 x10_1)).toNat * 3)).block, (ad267.add (((rd t259 x10_1)).toNat * 3)).off + 1, none⟩ = some (.float .f64 ((rd_T26 y255 (rd t259 x10_1)).f1)) ∧ w'.cell? ⟨(ad267.add (((rd t259 x10_1)).toNat * 3)).block, (ad267.add (((rd t259 x10_1)).toNat * 3)).off + 2, none⟩ = some (.float .f64 ((rd_T26 y255 (rd t259 x10_1)).f2)) ∧ w'.cell? (ad265.add ((ji34)).toNat) = some (.int .i64 (rd t259 (ji34))) ∧ w'.cell? (ad267.add (((rd t259 (ji34))).toNat * 3)) = some (.float .f64 ((rd_T26 y255 (rd t259 (ji34))).f0)) ∧ w'.cell? ⟨(ad267.add (((rd t259 (ji34))).toNat * 3)).block, (ad267.add (((rd t259 (ji34))).toNat * 3)).off + 1, none⟩ = some (.float .f64 ((rd_T26 y255 (rd t259 (ji34))).f1)) ∧ w'.cell? ⟨(ad267.add (((rd t259 (ji34))).toNat * 3)).block, (ad267.add (((rd t259 (ji34))).toNat * 3)).off + 2, none⟩ = some (.float .f64 ((rd_T26 y255 (rd t259 (ji34))).f2)) ∧ w'.cell? (ad267.add (((rd t259 x10_1)).toNat * 3)) = some (.float .f64 ((rd_T26 y255 (rd t259 x10_1)).f0)) ∧ w'.cell? ⟨(ad267.add (((rd t259 x10_1)).toNat * 3)).block, (ad267.add (((rd t259 x10_1)).toNat * 3)).off + 1, none⟩ = some (.float .f64 ((rd_T26 y255 (rd t259 x10_1)).f1)) ∧ w'.cell? ⟨(ad267.add (((rd t259 x10_1)).toNat * 3)).block, (ad267.add (((rd t259 x10_1)).toNat * 3)).off + 2, none⟩ = some (.float .f64 ((rd_T26 y255 (rd t259 x10_1)).f2))) (ds := []) (nz 42 0) (by kernel_rfl) rfl (by kernel_rfl) ⟨hx266_0, ((HB.out.cell (World.block_lt_of_cell? w _ hw267_0)).trans hw267_0), ((HB.out.cell (World.block_lt_of_cell? w _ hw267_1)).trans hw267_1), ((HB.out.cell (World.block_lt_of_cell? w _ hw267_2)).trans hw267_2), hx269_0, ((HB.out.cell (World.block_lt_of_cell? w _ hw270_0)).trans hw270_0), ((HB.out.cell (World.block_lt_of_cell? w _ hw270_1)).trans hw270_1), ((HB.out.cell (World.block_lt_of_cell? w _ hw270_2)).trans hw270_2), ((HB.out.cell (World.block_lt_of_cell? w _ hw271_0)).trans hw271_0), ((HB.out.cell (World.block_lt_of_cell? w _ hw271_1)).trans hw271_1), ((HB.out.cell (World.block_lt_of_cell? w _ hw271_2)).trans hw271_2)⟩ (fun hHeld => ?_); refine with_tabW tabulariumlaw22_PlaceBest.tab9 tabulariumlaw22_PlaceBest.bits9 (fun HT_ HW_ => ?_)
                                            generalize wr.drew = w40 at HO_8 HO_9 HB hx266_0 hx267_0 hx267_1 hx267_2 hx269_0 hx270_0 hx270_1 hx270_2 hx271_0 hx271_1 hx271_2 hHeld ⊢
                                            refine zp HT_ 0 41 1 ?_
                                            refine zp HT_ 1 42 3 ?_
                                            refine zp HT_ 2 43 7 ?_
                                            refine zp HT_ 3 44 15 ?_
                                            refine zp HT_ 4 45 31 ?_
                                            refine zp HT_ 5 46 63 ?_
                                            refine zp HT_ 6 47 127 ?_
                                            refine zp HT_ 7 48 255 ?_
                                            refine zp HT_ 8 49 511 ?_
                                            refine zp HT_ 9 50 1023 ?_
                                            refine zp HT_ 10 51 2047 ?_
                                            refine zp HT_ 11 52 4095 ?_
                                            refine zt HT_ HW_ hHeld 12 53 8191 ?_
                                            refine zp HT_ 13 54 16383 ?_
                                            refine zp HT_ 14 55 32767 ?_
                                            refine zp HT_ 15 56 65535 ?_
                                            refine zp HT_ 16 57 131071 ?_
                                            refine zp HT_ 17 58 262143 ?_
                                            refine zt HT_ HW_ hHeld 18 59 524287 ?_
                                            refine zo HT_ 19 60 1048575 (fun K hK => ?_)
                                            refine zg Try.func15 #[.agg #[.float .f64 ((rd_T26 y255 (rd t259 x10_1)).f0), .float .f64 ((rd_T26 y255 (rd t259 x10_1)).f1), .float .f64 ((rd_T26 y255 (rd t259 x10_1)).f2)]] ?_
                                            with_reducible refine (place_Fit.calls k1 ((rd_T26 y255 (rd t259 x10_1)).f0) ((rd_T26 y255 (rd t259 x10_1)).f1) ((rd_T26 y255 (rd t259 x10_1)).f2) true _ A31.out).mono ?_
                                            rintro e w42 ⟨rfl, hb⟩
                                            have HS0_ := (hb.cell (World.block_lt_of_cell? _ _ (hHeld.1))).trans (hHeld.1)
                                            have HS4_ := (hb.cell (World.block_lt_of_cell? _ _ (hHeld.2.2.2.2.1))).trans (hHeld.2.2.2.2.1)
                                            refine ⟨_, rfl, ?_⟩
                                            have n0_ := Aside0.mk (Kd.R_below (by (with_reducible repeat (first | apply Kd.R_alloc | apply Kd.R_drewN | apply Kd.R_drew)); exact HO_8.out) hb)
                                            have n1_ := Aside0.mk (Kd.R_below (by (with_reducible repeat (first | apply Kd.R_alloc | apply Kd.R_drewN | apply Kd.R_drew)); exact HO_9.out) hb)
                                            have n2_ := Aside0.mk (below_step (by repeat (first | (with_reducible first | exact HB.out | apply below_alloc | apply pw_below_drewN | apply below_drew1) | exact HB.out)) hb)
                                            clear HO_8; clear HO_9; clear HB; have HO_8 := n0_; have HO_9 := n1_; have HB := n2_; clear n0_ n1_ n2_; (try clear hb); (try clear hb2); (try clear hk); (try clear hi)
                                            refine hK.out _ _ ⟨HS0_, ((HB.out.cell (World.block_lt_of_cell? w _ hw267_0)).trans hw267_0), ((HB.out.cell (World.block_lt_of_cell? w _ hw267_1)).trans hw267_1), ((HB.out.cell (World.block_lt_of_cell? w _ hw267_2)).trans hw267_2), HS4_, ((HB.out.cell (World.block_lt_of_cell? w _ hw270_0)).trans hw270_0), ((HB.out.cell (World.block_lt_of_cell? w _ hw270_1)).trans hw270_1), ((HB.out.cell (World.block_lt_of_cell? w _ hw270_2)).trans hw270_2), ((HB.out.cell (World.block_lt_of_cell? w _ hw271_0)).trans hw271_0), ((HB.out.cell (World.block_lt_of_cell? w _ hw271_1)).trans hw271_1), ((HB.out.cell (World.block_lt_of_cell? w _ hw271_2)).trans hw271_2)⟩ (fun hHeld => ?_)
                                            clear hK K
                                            refine zn ?_
                                            refine zp HT_ 20 61 2097151 ?_
                                            refine zp HT_ 21 62 4194303 ?_
                                            refine zp HT_ 22 63 8388607 ?_
                                            refine zp HT_ 23 64 16777215 ?_
                                            refine zp HT_ 24 65 33554431 ?_
                                            refine zp HT_ 25 66 67108863 ?_
                                            refine zp HT_ 26 67 134217727 ?_
                                            refine zp HT_ 27 68 268435455 ?_
                                            refine zp HT_ 28 69 536870911 ?_
                                            refine zp HT_ 29 70 1073741823 ?_
                                            refine zp HT_ 30 71 2147483647 ?_
                                            refine zp HT_ 34 75 19327352831 ?_
                                            refine zp HT_ 35 76 53687091199 ?_
                                            refine zp HT_ 36 77 122406567935 ?_
                                            refine zt HT_ HW_ hHeld 31 72 124554051583 ?_
                                            refine zp HT_ 32 73 128849018879 ?_
                                            refine zt HT_ HW_ hHeld 33 74 137438953471 ?_
                                            refine zt HT_ HW_ hHeld 37 78 274877906943 ?_
                                            refine zo HT_ 38 79 549755813887 (fun K hK => ?_)
                                            refine goes_ Try.func17 (by kernel_rfl) rfl #[.agg #[.float .f64 ((rd_T26 y255 (rd t259 (ji34))).f0), .float .f64 ((rd_T26 y255 (rd t259 (ji34))).f1), .float .f64 ((rd_T26 y255 (rd t259 (ji34))).f2)], .agg #[.float .f64 ((rd_T26 y255 (rd t259 x10_1)).f0), .float .f64 ((rd_T26 y255 (rd t259 x10_1)).f1), .float .f64 ((rd_T26 y255 (rd t259 x10_1)).f2)]] (by rfl) rfl rfl (by (try simp only [List.map_toArray, List.map_cons, List.map_nil]); first | done | (simp only [hji34]; rfl) | rfl | (simp only [List.length_drop, List.length_take]; rfl)) ?_
                                            with_reducible refine (place_Before.calls k1 ((rd_T26 y255 (rd t259 (ji34))).f0) ((rd_T26 y255 (rd t259 (ji34))).f1) ((rd_T26 y255 (rd t259 (ji34))).f2) ((rd_T26 y255 (rd t259 x10_1)).f0) ((rd_T26 y255 (rd t259 x10_1)).f1) ((rd_T26 y255 (rd t259 x10_1)).f2) t272 _ A39.out).mono ?_
                                            rintro e w43 ⟨rfl, hb⟩
                                            have HS0_ := (hb.cell (World.block_lt_of_cell? _ _ (hHeld.1))).trans (hHeld.1)
                                            have HS4_ := (hb.cell (World.block_lt_of_cell? _ _ (hHeld.2.2.2.2.1))).trans (hHeld.2.2.2.2.1)
                                            refine ⟨_, rfl, ?_⟩
                                            have n0_ := Aside0.mk (Kd.R_below (by (with_reducible repeat (first | apply Kd.R_alloc | apply Kd.R_drewN | apply Kd.R_drew)); exact HO_8.out) hb)
                                            have n1_ := Aside0.mk (Kd.R_below (by (with_reducible repeat (first | apply Kd.R_alloc | apply Kd.R_drewN | apply Kd.R_drew)); exact HO_9.out) hb)
                                            have n2_ := Aside0.mk (below_step (by repeat (first | (with_reducible first | exact HB.out | apply below_alloc | apply pw_below_drewN | apply below_drew1) | exact HB.out)) hb)
                                            clear HO_8; clear HO_9; clear HB; have HO_8 := n0_; have HO_9 := n1_; have HB := n2_; clear n0_ n1_ n2_; (try clear hb); (try clear hb2); (try clear hk); (try clear hi)
                                            refine hK.out _ _ ⟨HS0_, ((HB.out.cell (World.block_lt_of_cell? w _ hw267_0)).trans hw267_0), ((HB.out.cell (World.block_lt_of_cell? w _ hw267_1)).trans hw267_1), ((HB.out.cell (World.block_lt_of_cell? w _ hw267_2)).trans hw267_2), HS4_, ((HB.out.cell (World.block_lt_of_cell? w _ hw270_0)).trans hw270_0), ((HB.out.cell (World.block_lt_of_cell? w _ hw270_1)).trans hw270_1), ((HB.out.cell (World.block_lt_of_cell? w _ hw270_2)).trans hw270_2), ((HB.out.cell (World.block_lt_of_cell? w _ hw271_0)).trans hw271_0), ((HB.out.cell (World.block_lt_of_cell? w _ hw271_1)).trans hw271_1), ((HB.out.cell (World.block_lt_of_cell? w _ hw271_2)).trans hw271_2)⟩ (fun hHeld => ?_)
                                            clear hK K
                                            refine zn ?_
                                            refine zp HT_ 39 80 1099511627775 ?_
                                            refine zp HT_ 40 81 2199023255551 ?_
                                            refine zp HT_ 41 82 4398046511103 ?_
                                            refine done_ (done_of HT_.out (by kernel_rfl)) ?_
                                            try go_wp2
                                            go_meet
                                            case rel => exact ⟨_, (decide (t272 > 0)), (by first | rfl | (simp; done) | (simp [*]; done) | (simp; exact (fun (l_ : List UInt8) => by cases l_ <;> rfl : ∀ l_ : List UInt8, l_.isEmpty = !(l_ != [])) _)), H', ⟨by have := HK1.out; first | omega | exact Nat.le_refl _⟩, ⟨by (with_reducible repeat (first | apply Kd.R_alloc | apply Kd.R_drewN | apply Kd.R_drew)); exact HO_8.out⟩, ⟨by (with_reducible repeat (first | apply Kd.R_alloc | apply Kd.R_drewN | apply Kd.R_drew)); exact HO_9.out⟩, ⟨by repeat (first | (with_reducible first | exact HB.out | apply below_alloc | apply pw_below_drewN | apply below_drew1) | exact HB.out)⟩⟩
                                          · rw [if_neg c38] at H
                                            exact absurd H (by simp)
                                        · rw [if_neg c37] at H
                                          exact absurd H (by simp)
                                      · rw [if_neg c36] at H
                                        exact absurd H (by simp)
                                    · rw [if_neg c35] at H
                                      exact absurd H (by simp)
                                  · rw [if_neg c33] at H
                                    have c33b0 : decide (0 < x10_1) = false := decide_eq_false c33
                                    clear c33
                                    have H' := Aside0.mk H
                                    clear H
                                    try go_wp2
                                    have n0_ := Aside0.mk (Kd.R_drew HO_8.out)
                                    have n1_ := Aside0.mk (Kd.R_drew HO_9.out)
                                    have n2_ := Aside0.mk (below_drew1 HB.out)
                                    clear HO_8; clear HO_9; clear HB; have HO_8 := n0_; have HO_9 := n1_; have HB := n2_; clear n0_ n1_ n2_
                                    obtain ⟨Ao45, co45, eo45⟩ := Kd.R_slice HO_9.out
                                    (first | subst eo45 | (injection eo45 with f1_ f2_ f3_; have f4_ := f1_.symm; have f5_ := f3_.symm; clear f1_ f2_ f3_; subst f4_; subst f5_))
                                    have p266 : 0 ≤ ((rd t259 x10_1) : Int) := of_decide_eq_true (by first | (with_reducible assumption) | assumption)
                                    have q266 : (rd t259 x10_1) < (x9_1.length : Int) := of_decide_eq_true (by first | (with_reducible assumption) | assumption)
                                    obtain ⟨ad266, e266, hx266_0⟩ := Kd.at_bool (Kd.R_reads' HO_9.out).2.2 (rd t259 x10_1) p266 q266
                                    (try rw [← Nbq26.out] at hx266_0)
                                    cases e266
                                    replace p266 := eq_true p266; replace q266 := eq_true q266
                                    have p267 : 0 ≤ ((rd t259 x10_1) : Int) := of_decide_eq_true (by first | (with_reducible assumption) | assumption)
                                    have q267 : (rd t259 x10_1) < (y255.length : Int) := of_decide_eq_true (by first | (with_reducible assumption) | assumption)
                                    obtain ⟨ad267, e267, hx267_0, hx267_1, hx267_2⟩ := at_T26 HR258.out (rd t259 x10_1) p267 q267
                                    have hw267_2 := hx267_2
                                    have hw267_1 := hx267_1
                                    have hw267_0 := hx267_0
                                    cases e267
                                    replace hx267_0 := (HB.out.cell (World.block_lt_of_cell? w _ hx267_0)).trans hx267_0
                                    replace hx267_1 := (HB.out.cell (World.block_lt_of_cell? w _ hx267_1)).trans hx267_1
                                    replace hx267_2 := (HB.out.cell (World.block_lt_of_cell? w _ hx267_2)).trans hx267_2
                                    replace p267 := eq_true p267; replace q267 := eq_true q267
                                    refine start_ (n := 42) (S := fun w' => w'.cell? (ad266.add ((rd t259 x10_1)).toNat) = some (.bool false) ∧ w'.cell? (ad267.add (((rd t259 x10_1)).toNat * 3)) = some (.float .f64 ((rd_T26 y255 (rd t259 x10_1)).f0)) ∧ w'.cell? ⟨(ad267.add (((rd t259 x10_1)).toNat * 3)).block, (ad267.add (((rd t259 x10_1)).toNat * 3)).off + 1, none⟩ = some (.float .f64 ((rd_T26 y255 (rd t259 x10_1)).f1)) ∧ w'.cell? ⟨(ad267.add (((rd t259 x10_1)).toNat * 3)).block, (ad267.add (((rd t259 x10_1)).toNat * 3)).off + 2, none⟩ = some (.float .f64 ((rd_T26 y255 (rd t259 x10_1)).f2))) (ds := []) (nz 42 0) (by kernel_rfl) rfl (by kernel_rfl) ⟨hx266_0, ((HB.out.cell (World.block_lt_of_cell? w _ hw267_0)).trans hw267_0), ((HB.out.cell (World.block_lt_of_cell? w _ hw267_1)).trans hw267_1), ((HB.out.cell (World.block_lt_of_cell? w _ hw267_2)).trans hw267_2)⟩ (fun hHeld => ?_); refine with_tabW tabulariumlaw22_PlaceBest.tab9 tabulariumlaw22_PlaceBest.bits9 (fun HT_ HW_ => ?_)
                                    generalize wr.drew = w44 at HO_8 HO_9 HB hx266_0 hx267_0 hx267_1 hx267_2 hHeld ⊢
                                    refine zp HT_ 0 41 1 ?_
                                    refine zp HT_ 1 42 3 ?_
                                    refine zp HT_ 2 43 7 ?_
                                    refine zp HT_ 3 44 15 ?_
                                    refine zp HT_ 4 45 31 ?_
                                    refine zp HT_ 5 46 63 ?_
                                    refine zp HT_ 6 47 127 ?_
                                    refine zp HT_ 7 48 255 ?_
                                    refine zp HT_ 8 49 511 ?_
                                    refine zp HT_ 9 50 1023 ?_
                                    refine zp HT_ 10 51 2047 ?_
                                    refine zp HT_ 11 52 4095 ?_
                                    refine zt HT_ HW_ hHeld 12 53 8191 ?_
                                    refine zp HT_ 13 54 16383 ?_
                                    refine zp HT_ 14 55 32767 ?_
                                    refine zp HT_ 15 56 65535 ?_
                                    refine zp HT_ 16 57 131071 ?_
                                    refine zp HT_ 17 58 262143 ?_
                                    refine zt HT_ HW_ hHeld 18 59 524287 ?_
                                    refine zo HT_ 19 60 1048575 (fun K hK => ?_)
                                    refine zg Try.func15 #[.agg #[.float .f64 ((rd_T26 y255 (rd t259 x10_1)).f0), .float .f64 ((rd_T26 y255 (rd t259 x10_1)).f1), .float .f64 ((rd_T26 y255 (rd t259 x10_1)).f2)]] ?_
                                    with_reducible refine (place_Fit.calls k1 ((rd_T26 y255 (rd t259 x10_1)).f0) ((rd_T26 y255 (rd t259 x10_1)).f1) ((rd_T26 y255 (rd t259 x10_1)).f2) true _ A31.out).mono ?_
                                    rintro e w46 ⟨rfl, hb⟩
                                    have HS0_ := (hb.cell (World.block_lt_of_cell? _ _ (hHeld.1))).trans (hHeld.1)
                                    refine ⟨_, rfl, ?_⟩
                                    have n0_ := Aside0.mk (Kd.R_below (by (with_reducible repeat (first | apply Kd.R_alloc | apply Kd.R_drewN | apply Kd.R_drew)); exact HO_8.out) hb)
                                    have n1_ := Aside0.mk (Kd.R_below (by (with_reducible repeat (first | apply Kd.R_alloc | apply Kd.R_drewN | apply Kd.R_drew)); exact HO_9.out) hb)
                                    have n2_ := Aside0.mk (below_step (by repeat (first | (with_reducible first | exact HB.out | apply below_alloc | apply pw_below_drewN | apply below_drew1) | exact HB.out)) hb)
                                    clear HO_8; clear HO_9; clear HB; have HO_8 := n0_; have HO_9 := n1_; have HB := n2_; clear n0_ n1_ n2_; (try clear hb); (try clear hb2); (try clear hk); (try clear hi)
                                    refine hK.out _ _ ⟨HS0_, ((HB.out.cell (World.block_lt_of_cell? w _ hw267_0)).trans hw267_0), ((HB.out.cell (World.block_lt_of_cell? w _ hw267_1)).trans hw267_1), ((HB.out.cell (World.block_lt_of_cell? w _ hw267_2)).trans hw267_2)⟩ (fun hHeld => ?_)
                                    clear hK K
                                    refine zn ?_
                                    refine zp HT_ 20 61 2097151 ?_
                                    refine zp HT_ 21 62 4194303 ?_
                                    refine zp HT_ 22 63 8388607 ?_
                                    refine zp HT_ 23 64 16777215 ?_
                                    refine zp HT_ 24 65 33554431 ?_
                                    refine zp HT_ 25 66 67108863 ?_
                                    refine zq HT_ 26 67 134217727 ?_
                                    refine zq HT_ 27 68 268435455 ?_
                                    refine zq HT_ 28 69 536870911 ?_
                                    refine zq HT_ 29 70 1073741823 ?_
                                    refine zq HT_ 30 71 2147483647 ?_
                                    refine zq HT_ 31 72 4294967295 ?_
                                    refine zq HT_ 32 73 8589934591 ?_
                                    refine zq HT_ 33 74 17179869183 ?_
                                    refine zq HT_ 34 75 34359738367 ?_
                                    refine zq HT_ 35 76 68719476735 ?_
                                    refine zq HT_ 36 77 137438953471 ?_
                                    refine zq HT_ 37 78 274877906943 ?_
                                    refine zq HT_ 38 79 549755813887 ?_
                                    refine zq HT_ 39 80 1099511627775 ?_
                                    refine zp HT_ 40 81 2199023255551 ?_
                                    refine zp HT_ 41 82 4398046511103 ?_
                                    refine done_ (done_of HT_.out (by kernel_rfl)) ?_
                                    try go_wp2
                                    go_meet
                                    case rel => exact ⟨_, (false), (by first | rfl | (simp; done) | (simp [*]; done) | (simp; exact (fun (l_ : List UInt8) => by cases l_ <;> rfl : ∀ l_ : List UInt8, l_.isEmpty = !(l_ != [])) _)), H', ⟨by have := HK1.out; first | omega | exact Nat.le_refl _⟩, ⟨by (with_reducible repeat (first | apply Kd.R_alloc | apply Kd.R_drewN | apply Kd.R_drew)); exact HO_8.out⟩, ⟨by (with_reducible repeat (first | apply Kd.R_alloc | apply Kd.R_drewN | apply Kd.R_drew)); exact HO_9.out⟩, ⟨by repeat (first | (with_reducible first | exact HB.out | apply below_alloc | apply pw_below_drewN | apply below_drew1) | exact HB.out)⟩⟩
                                · replace c32 := Bool.eq_false_iff.mpr c32
                                  subst c32
                                  have H1 : (tabulariumlaw22_PlaceBest.j1 k1 y255 a1 l2 t254 t259 x9_1 x10_1 (rd t259 x10_1) true) = some r := by rw [if_neg (show ¬ (false = true) by decide)] at H; exact H
                                  clear H
                                  have H := H1
                                  clear H1
                                  have H' := Aside0.mk H
                                  clear H
                                  try go_wp2
                                  have n0_ := Aside0.mk (Kd.R_drew HO_8.out)
                                  have n1_ := Aside0.mk (Kd.R_drew HO_9.out)
                                  have n2_ := Aside0.mk (below_drew1 HB.out)
                                  clear HO_8; clear HO_9; clear HB; have HO_8 := n0_; have HO_9 := n1_; have HB := n2_; clear n0_ n1_ n2_
                                  obtain ⟨Ao48, co48, eo48⟩ := Kd.R_slice HO_9.out
                                  (first | subst eo48 | (injection eo48 with f1_ f2_ f3_; have f4_ := f1_.symm; have f5_ := f3_.symm; clear f1_ f2_ f3_; subst f4_; subst f5_))
                                  have p266 : 0 ≤ ((rd t259 x10_1) : Int) := of_decide_eq_true (by first | (with_reducible assumption) | assumption)
                                  have q266 : (rd t259 x10_1) < (x9_1.length : Int) := of_decide_eq_true (by first | (with_reducible assumption) | assumption)
                                  obtain ⟨ad266, e266, hx266_0⟩ := Kd.at_bool (Kd.R_reads' HO_9.out).2.2 (rd t259 x10_1) p266 q266
                                  (try rw [← Nbq26.out] at hx266_0)
                                  cases e266
                                  replace p266 := eq_true p266; replace q266 := eq_true q266
                                  have p267 : 0 ≤ ((rd t259 x10_1) : Int) := of_decide_eq_true (by first | (with_reducible assumption) | assumption)
                                  have q267 : (rd t259 x10_1) < (y255.length : Int) := of_decide_eq_true (by first | (with_reducible assumption) | assumption)
                                  obtain ⟨ad267, e267, hx267_0, hx267_1, hx267_2⟩ := at_T26 HR258.out (rd t259 x10_1) p267 q267
                                  have hw267_2 := hx267_2
                                  have hw267_1 := hx267_1
                                  have hw267_0 := hx267_0
                                  cases e267
                                  replace hx267_0 := (HB.out.cell (World.block_lt_of_cell? w _ hx267_0)).trans hx267_0
                                  replace hx267_1 := (HB.out.cell (World.block_lt_of_cell? w _ hx267_1)).trans hx267_1
                                  replace hx267_2 := (HB.out.cell (World.block_lt_of_cell? w _ hx267_2)).trans hx267_2
                                  replace p267 := eq_true p267; replace q267 := eq_true q267
                                  refine start_ (n := 42) (S := fun w' => w'.cell? (ad266.add ((rd t259 x10_1)).toNat) = some (.bool false) ∧ w'.cell? (ad267.add (((rd t259 x10_1)).toNat * 3)) = some (.float .f64 ((rd_T26 y255 (rd t259 x10_1)).f0)) ∧ w'.cell? ⟨(ad267.add (((rd t259 x10_1)).toNat * 3)).block, (ad267.add (((rd t259 x10_1)).toNat * 3)).off + 1, none⟩ = some (.float .f64 ((rd_T26 y255 (rd t259 x10_1)).f1)) ∧ w'.cell? ⟨(ad267.add (((rd t259 x10_1)).toNat * 3)).block, (ad267.add (((rd t259 x10_1)).toNat * 3)).off + 2, none⟩ = some (.float .f64 ((rd_T26 y255 (rd t259 x10_1)).f2))) (ds := []) (nz 42 0) (by kernel_rfl) rfl (by kernel_rfl) ⟨hx266_0, ((HB.out.cell (World.block_lt_of_cell? w _ hw267_0)).trans hw267_0), ((HB.out.cell (World.block_lt_of_cell? w _ hw267_1)).trans hw267_1), ((HB.out.cell (World.block_lt_of_cell? w _ hw267_2)).trans hw267_2)⟩ (fun hHeld => ?_); refine with_tabW tabulariumlaw22_PlaceBest.tab9 tabulariumlaw22_PlaceBest.bits9 (fun HT_ HW_ => ?_)
                                  generalize wr.drew = w47 at HO_8 HO_9 HB hx266_0 hx267_0 hx267_1 hx267_2 hHeld ⊢
                                  refine zp HT_ 0 41 1 ?_
                                  refine zp HT_ 1 42 3 ?_
                                  refine zp HT_ 2 43 7 ?_
                                  refine zp HT_ 3 44 15 ?_
                                  refine zp HT_ 4 45 31 ?_
                                  refine zp HT_ 5 46 63 ?_
                                  refine zp HT_ 6 47 127 ?_
                                  refine zp HT_ 7 48 255 ?_
                                  refine zp HT_ 8 49 511 ?_
                                  refine zp HT_ 9 50 1023 ?_
                                  refine zp HT_ 10 51 2047 ?_
                                  refine zp HT_ 11 52 4095 ?_
                                  refine zt HT_ HW_ hHeld 12 53 8191 ?_
                                  refine zp HT_ 13 54 16383 ?_
                                  refine zp HT_ 14 55 32767 ?_
                                  refine zp HT_ 15 56 65535 ?_
                                  refine zp HT_ 16 57 131071 ?_
                                  refine zp HT_ 17 58 262143 ?_
                                  refine zt HT_ HW_ hHeld 18 59 524287 ?_
                                  refine zo HT_ 19 60 1048575 (fun K hK => ?_)
                                  refine zg Try.func15 #[.agg #[.float .f64 ((rd_T26 y255 (rd t259 x10_1)).f0), .float .f64 ((rd_T26 y255 (rd t259 x10_1)).f1), .float .f64 ((rd_T26 y255 (rd t259 x10_1)).f2)]] ?_
                                  with_reducible refine (place_Fit.calls k1 ((rd_T26 y255 (rd t259 x10_1)).f0) ((rd_T26 y255 (rd t259 x10_1)).f1) ((rd_T26 y255 (rd t259 x10_1)).f2) false _ A31.out).mono ?_
                                  rintro e w49 ⟨rfl, hb⟩
                                  have HS0_ := (hb.cell (World.block_lt_of_cell? _ _ (hHeld.1))).trans (hHeld.1)
                                  refine ⟨_, rfl, ?_⟩
                                  have n0_ := Aside0.mk (Kd.R_below (by (with_reducible repeat (first | apply Kd.R_alloc | apply Kd.R_drewN | apply Kd.R_drew)); exact HO_8.out) hb)
                                  have n1_ := Aside0.mk (Kd.R_below (by (with_reducible repeat (first | apply Kd.R_alloc | apply Kd.R_drewN | apply Kd.R_drew)); exact HO_9.out) hb)
                                  have n2_ := Aside0.mk (below_step (by repeat (first | (with_reducible first | exact HB.out | apply below_alloc | apply pw_below_drewN | apply below_drew1) | exact HB.out)) hb)
                                  clear HO_8; clear HO_9; clear HB; have HO_8 := n0_; have HO_9 := n1_; have HB := n2_; clear n0_ n1_ n2_; (try clear hb); (try clear hb2); (try clear hk); (try clear hi)
                                  refine hK.out _ _ ⟨HS0_, ((HB.out.cell (World.block_lt_of_cell? w _ hw267_0)).trans hw267_0), ((HB.out.cell (World.block_lt_of_cell? w _ hw267_1)).trans hw267_1), ((HB.out.cell (World.block_lt_of_cell? w _ hw267_2)).trans hw267_2)⟩ (fun hHeld => ?_)
                                  clear hK K
                                  refine zn ?_
                                  refine zp HT_ 20 61 2097151 ?_
                                  refine zp HT_ 21 62 4194303 ?_
                                  refine zp HT_ 22 63 8388607 ?_
                                  refine zq HT_ 23 64 16777215 ?_
                                  refine zq HT_ 24 65 33554431 ?_
                                  refine zq HT_ 25 66 67108863 ?_
                                  refine zq HT_ 26 67 134217727 ?_
                                  refine zq HT_ 27 68 268435455 ?_
                                  refine zq HT_ 28 69 536870911 ?_
                                  refine zq HT_ 29 70 1073741823 ?_
                                  refine zq HT_ 30 71 2147483647 ?_
                                  refine zq HT_ 31 72 4294967295 ?_
                                  refine zq HT_ 32 73 8589934591 ?_
                                  refine zq HT_ 33 74 17179869183 ?_
                                  refine zq HT_ 34 75 34359738367 ?_
                                  refine zq HT_ 35 76 68719476735 ?_
                                  refine zq HT_ 36 77 137438953471 ?_
                                  refine zq HT_ 37 78 274877906943 ?_
                                  refine zq HT_ 38 79 549755813887 ?_
                                  refine zq HT_ 39 80 1099511627775 ?_
                                  refine zq HT_ 40 81 2199023255551 ?_
                                  refine zp HT_ 41 82 4398046511103 ?_
                                  refine done_ (done_of HT_.out (by kernel_rfl)) ?_
                                  try go_wp2
                                  go_meet
                                  case rel => exact ⟨_, (true), (by first | rfl | (simp; done) | (simp [*]; done) | (simp; exact (fun (l_ : List UInt8) => by cases l_ <;> rfl : ∀ l_ : List UInt8, l_.isEmpty = !(l_ != [])) _)), H', ⟨by have := HK1.out; first | omega | exact Nat.le_refl _⟩, ⟨by (with_reducible repeat (first | apply Kd.R_alloc | apply Kd.R_drewN | apply Kd.R_drew)); exact HO_8.out⟩, ⟨by (with_reducible repeat (first | apply Kd.R_alloc | apply Kd.R_drewN | apply Kd.R_drew)); exact HO_9.out⟩, ⟨by repeat (first | (with_reducible first | exact HB.out | apply below_alloc | apply pw_below_drewN | apply below_drew1) | exact HB.out)⟩⟩
                              · rw [if_neg c30] at H
                                exact absurd H (by simp)
                          · rw [if_neg c25] at H
                            exact absurd H (by simp)
                        · rw [if_neg c24] at H
                          exact absurd H (by simp)
                  case rest =>
                    clear HC18
                    try clear c1
                    try clear c2
                    try clear p2
                    try clear q2
                    try clear hx2
                    try clear c3
                    try clear c15
                    try clear c24
                    try clear c25
                    try clear p26
                    try clear q26
                    try clear hx26
                    try clear c30
                    try clear c32
                    try clear hx266_0
                    try clear hx267_0
                    try clear hx267_1
                    try clear hx267_2
                    try clear p266
                    try clear p267
                    try clear q266
                    try clear q267
                    obtain ⟨kq, x82_17, rfl, HA, HJ17, HO_8, HO_9, HB⟩ := hcut
                    cases kq with
                    | zero => exact absurd HA.out (by simp [tabulariumlaw22_PlaceBest.j1])
                    | succ kj17 =>
                      have H := HA.out
                      clear HA
                      simp only [tabulariumlaw22_PlaceBest.j1] at H
                      by_cases c50 : x82_17 = true
                      · subst c50
                        have H1 : (some false) = some r := by rw [if_pos rfl] at H; exact H
                        clear H
                        have H := H1
                        clear H1
                        obtain rfl := Option.some.inj H
                        go_wp2
                        go_ret
                        exact ⟨by first | rfl | (simp [errW_none, errW_some] <;> rfl) | (simp only [← hji5]; first | rfl | (simp [errW_none, errW_some] <;> rfl)) | (simp [*, errW_none, errW_some] <;> rfl), by repeat (first | (with_reducible first | exact HB.out | apply below_alloc | apply pw_below_drewN | apply below_drew1) | exact HB.out)⟩
                      · replace c50 := Bool.eq_false_iff.mpr c50
                        subst c50
                        have H1 : (if 0 ≤ (rd t259 x10_1) then (if (rd t259 x10_1) < (x9_1.length : Int) then (tabulariumlaw22_PlaceBest.l1 kj17 y255 a1 l2 t254 t259 (x9_1.set ((rd t259 x10_1) : Int).toNat true) x10_1 (rd t259 x10_1) 0) else (none)) else (none)) = some r := by rw [if_neg (show ¬ (false = true) by decide)] at H; exact H
                        clear H
                        have H := H1
                        clear H1
                        by_cases c51 : 0 ≤ (rd t259 x10_1)
                        · rw [if_pos c51] at H
                          have c51b0 : decide (0 ≤ (rd t259 x10_1)) = true := decide_eq_true c51
                          clear c51
                          by_cases c52 : (rd t259 x10_1) < (x9_1.length : Int)
                          · rw [if_pos c52] at H
                            have c52b0 : decide ((rd t259 x10_1) < (x9_1.length : Int)) = true := decide_eq_true c52
                            clear c52
                            obtain ⟨y273, hy273⟩ : ∃ y_ : List Bool, y_ = (x9_1.set ((rd t259 x10_1) : Int).toNat true) := ⟨_, rfl⟩
                            replace H : (tabulariumlaw22_PlaceBest.l1 kj17 y255 a1 l2 t254 t259 y273 x10_1 (rd t259 x10_1) 0) = some r := by first | (rw [hy273]; with_reducible exact H) | (have H2_ := (Option.bind_some _ _).symm.trans H; rw [hy273]; with_reducible exact H2_) | (have H2_ := (Option.bind_some _ _).symm.trans H; with_reducible exact H2_) | with_reducible exact H | (rw [hy273]; exact H) | exact H
                            have Ny273 := Aside0.mk hy273
                            clear hy273
                            have H' := Aside0.mk H
                            clear H
                            have p53 : 0 ≤ ((rd t259 x10_1) : Int) := of_decide_eq_true (by first | (with_reducible assumption) | assumption)
                            have q53 : ((rd t259 x10_1) : Int) < ((x9_1.length : Int) : Int) := of_decide_eq_true (by first | (with_reducible assumption) | assumption)
                            obtain ⟨go53, co53, eo53, gb53, gl53, cl53, HG53⟩ := Kd.R_form HO_9.out (by omega)
                            (first | cases eo53 | (injection eo53 with ea_ en_ ec_; (first | subst ea_ | (injection ea_ with ea_; subst ea_)); subst ec_; clear en_))
                            have GB53 := Aside0.mk gb53
                            have GG53 := Aside0.mk HG53
                            clear gb53 gl53 HG53
                            obtain ⟨hx53_0, hf53_0⟩ := Kd.R_celln false HO_9.out ((rd t259 x10_1) : Int) p53 q53
                            replace p53 := eq_true p53; replace q53 := eq_true q53
                            have HP54 := Kd.R_putg HO_9.out ((rd t259 x10_1) : Int) true
                            go_wp2_with (first | ((with_reducible refine gate_store (t := 4) (p := 85) rfl ?_); refine store_event (t := 4) (p := 85) (v := ?vo_w55) (w1 := (wc.setCell ⟨go53, ((rd t259 x10_1) : Int).toNat, none⟩ (.bool true))) ?hg ?ho ?hn ?hr ?_; (case ho => rfl); (case hg => rfl); (case hn => rfl); (case hr => first | (go_simp; done) | (go_simp; rfl)); intro w55 hw; have hg : wc.grownBy w55 (some go53) := (by rw [hw]; exact HP54.2); have hp_ : Kd.R Kd.bool 4 w55 w.heap.size (fun _ => True) (.slice (some ⟨go53, 0, none⟩) x9_1.length co53) y273 := (by rw [hw, Ny273.out]; exact HP54.1); clear HP54; have n0_ := Aside0.mk (Kd.R_over' (v := (.slice (some ⟨go53, 0, none⟩) x9_1.length co53)) (by (with_reducible repeat (first | apply Kd.R_alloc | apply Kd.R_drewN | apply Kd.R_drew)); exact HO_8.out) (Kd.R_typed HO_9.out) (by decide) hg); have n1_ := Aside0.mk (hp_); have n2_ := Aside0.mk ((by rw [hw]; exact below_set (HB.out) GB53.out : Below w.heap.size w w55)); clear HO_8; clear HO_9; clear HB; have HO_8 := n0_; have HO_9 := n1_; have HB := n2_; clear n0_ n1_ n2_; clear hg hw hp_))
                            go_loopg [12] kj17 (fun kq v12 w' => ∃ (x12_3 : Int), v12 = .int .i64 x12_3 ∧ Aside0 (tabulariumlaw22_PlaceBest.l1 kq y255 a1 l2 t254 t259 y273 x10_1 (rd t259 x10_1) x12_3 = some r) ∧ Aside0 (kq ≤ kj17) ∧ Aside0 (Kd.R (Kd.int .i64) 3 w' w.heap.size (fun _ => True) (.slice (some ad265) t259.length co19) t259) ∧ Aside0 (Kd.R Kd.bool 4 w' w.heap.size (fun _ => True) (.slice (some ⟨go53, 0, none⟩) x9_1.length co53) y273) ∧ Aside0 (Below w.heap.size w w'))
                            case atStart => exact ⟨(0), (by first | rfl | (simp; done) | (simp [*]; done) | (simp; exact (fun (l_ : List UInt8) => by cases l_ <;> rfl : ∀ l_ : List UInt8, l_.isEmpty = !(l_ != [])) _)), H', ⟨Nat.le_refl _⟩, ⟨by (with_reducible repeat (first | apply Kd.R_alloc | apply Kd.R_drewN | apply Kd.R_drew)); exact HO_8.out⟩, ⟨by (with_reducible repeat (first | apply Kd.R_alloc | apply Kd.R_drewN | apply Kd.R_drew)); exact HO_9.out⟩, ⟨by repeat (first | (with_reducible first | exact HB.out | apply below_alloc | apply pw_below_drewN | apply below_drew1) | exact HB.out)⟩⟩
                            case round =>
                              clear H'
                              try clear c1
                              try clear c2
                              try clear p2
                              try clear q2
                              try clear hx2
                              try clear c3
                              try clear c5
                              try clear p5
                              try clear q5
                              try clear hx5
                              try clear hf5
                              try clear c15
                              try clear c24
                              try clear c25
                              try clear p26
                              try clear q26
                              try clear hx26
                              try clear c30
                              try clear c32
                              try clear c50
                              try clear c51
                              try clear c51b0
                              try clear c52
                              try clear c52b0
                              try clear p53
                              try clear q53
                              try clear hx53
                              try clear hf53
                              try clear hx266_0
                              try clear hx267_0
                              try clear hx267_1
                              try clear hx267_2
                              try clear hx53_0
                              try clear p2
                              try clear p26
                              try clear p266
                              try clear p267
                              try clear p53
                              try clear q2
                              try clear q26
                              try clear q266
                              try clear q267
                              try clear q53
                              obtain ⟨x12_3, rfl, HA, HK3, HO_8, HO_9, HB⟩ := hrel
                              have hl9_3 := (Kd.R_reads' HO_9.out).1
                              rw [hl9_3] at HO_9
                              (try simp only [hl9_3])
                              (try simp only [hl9_3] at HO_8)
                              cases gk with
                              | zero => exact absurd HA.out (by simp [tabulariumlaw22_PlaceBest.l1])
                              | succ k3 =>
                                have H := HA.out
                                clear HA
                                simp only [tabulariumlaw22_PlaceBest.l1] at H
                                by_cases c56 : x12_3 < (l2.length : Int)
                                · rw [if_pos c56] at H
                                  have c56b0 : decide (x12_3 < (l2.length : Int)) = true := decide_eq_true c56
                                  clear c56
                                  by_cases c57 : 0 ≤ x12_3
                                  · rw [if_pos c57] at H
                                    have c57b0 : decide (0 ≤ x12_3) = true := decide_eq_true c57
                                    clear c57
                                    by_cases c58 : (rd l2 x12_3) = (rd t259 x10_1)
                                    · rw [if_pos c58] at H
                                      have c58b0 : ((rd l2 x12_3) == (rd t259 x10_1)) = true := beq_iff_eq.mpr c58
                                      have c58b1 : ((rd l2 x12_3) != (rd t259 x10_1)) = false := bne_eq_false_iff_eq.mpr c58
                                      clear c58
                                      obtain rfl := Option.some.inj H
                                      have p274 : 0 ≤ (x12_3 : Int) := of_decide_eq_true (by first | (with_reducible assumption) | assumption)
                                      have q274 : x12_3 < (l2.length : Int) := of_decide_eq_true (by first | (with_reducible assumption) | assumption)
                                      obtain ⟨ad274, e274, hx274_0⟩ := Kd.at_int HR2.out x12_3 p274 q274
                                      cases e274
                                      replace hx274_0 := (HB.out.cell (World.block_lt_of_cell? w _ hx274_0)).trans hx274_0
                                      replace p274 := eq_true p274; replace q274 := eq_true q274
                                      go_wp2
                                      go_ret
                                      exact ⟨by first | rfl | (simp [errW_none, errW_some] <;> rfl) | (simp only [← hji5]; first | rfl | (simp [errW_none, errW_some] <;> rfl)) | (simp [*, errW_none, errW_some] <;> rfl), by repeat (first | (with_reducible first | exact HB.out | apply below_alloc | apply pw_below_drewN | apply below_drew1) | exact HB.out)⟩
                                    · rw [if_neg c58] at H
                                      have c58b0 : ((rd l2 x12_3) == (rd t259 x10_1)) = false := beq_eq_false_iff_ne.mpr c58
                                      have c58b1 : ((rd l2 x12_3) != (rd t259 x10_1)) = true := bne_iff_ne.mpr c58
                                      have H' := Aside0.mk H
                                      clear H
                                      have p274 : 0 ≤ (x12_3 : Int) := of_decide_eq_true (by first | (with_reducible assumption) | assumption)
                                      have q274 : x12_3 < (l2.length : Int) := of_decide_eq_true (by first | (with_reducible assumption) | assumption)
                                      obtain ⟨ad274, e274, hx274_0⟩ := Kd.at_int HR2.out x12_3 p274 q274
                                      cases e274
                                      replace hx274_0 := (HB.out.cell (World.block_lt_of_cell? w _ hx274_0)).trans hx274_0
                                      replace p274 := eq_true p274; replace q274 := eq_true q274
                                      go_wp2
                                      (try simp only [← hl9_3])
                                      go_roundg k3
                                      case measure => have := HK1.out; have := HJ17.out; have := HK3.out; omega
                                      case rel => exact ⟨(wrap64 (x12_3 + 1)), (by first | rfl | (simp; done) | (simp [*]; done) | (simp; exact (fun (l_ : List UInt8) => by cases l_ <;> rfl : ∀ l_ : List UInt8, l_.isEmpty = !(l_ != [])) _)), H', ⟨by have := HK1.out; have := HJ17.out; have := HK3.out; omega⟩, ⟨by (try simp only [hl9_3]); (with_reducible repeat (first | apply Kd.R_alloc | apply Kd.R_drewN | apply Kd.R_drew)); exact HO_8.out⟩, ⟨by (try simp only [hl9_3]); (with_reducible repeat (first | apply Kd.R_alloc | apply Kd.R_drewN | apply Kd.R_drew)); exact HO_9.out⟩, ⟨by repeat (first | (with_reducible first | exact HB.out | apply below_alloc | apply pw_below_drewN | apply below_drew1) | exact HB.out)⟩⟩
                                  · rw [if_neg c57] at H
                                    exact absurd H (by simp)
                                · rw [if_neg c56] at H
                                  have c56b0 : decide (x12_3 < (l2.length : Int)) = false := decide_eq_false c56
                                  clear c56
                                  have H' := Aside0.mk H
                                  clear H
                                  go_wp2
                                  (try simp only [← hl9_3])
                                  go_roundg k3
                                  case measure => have := HK1.out; have := HJ17.out; have := HK3.out; omega
                                  case rel => exact ⟨(y273), (wrap64 (x10_1 + 1)), (by first | rfl | (simp; done) | (simp [*]; done) | (simp; exact (fun (l_ : List UInt8) => by cases l_ <;> rfl : ∀ l_ : List UInt8, l_.isEmpty = !(l_ != [])) _)), H', ⟨by have := HK1.out; have := HJ17.out; have := HK3.out; omega⟩, ⟨by (try simp only [hl9_3]); (with_reducible repeat (first | apply Kd.R_alloc | apply Kd.R_drewN | apply Kd.R_drew)); exact HO_8.out⟩, ⟨by (try simp only [hl9_3]); (with_reducible repeat (first | apply Kd.R_alloc | apply Kd.R_drewN | apply Kd.R_drew)); exact HO_9.out⟩, ⟨by repeat (first | (with_reducible first | exact HB.out | apply below_alloc | apply pw_below_drewN | apply below_drew1) | exact HB.out)⟩⟩
                          · rw [if_neg c52] at H
                            exact absurd H (by simp)
                        · rw [if_neg c51] at H
                          exact absurd H (by simp)
                · rw [if_neg c17] at H
                  exact absurd H (by simp)
              · rw [if_neg c16] at H
                have c16b0 : decide (x10_1 < (t259.length : Int)) = false := decide_eq_false c16
                clear c16
                have H' := Aside0.mk H
                clear H
                obtain ⟨Ao59, co59, eo59⟩ := Kd.R_slice HO_8.out
                subst eo59
                go_wp2
                go_loopg [13, 14] k1 (fun kq v13 v14 w' => ∃ (x13_2 : Int) (x14_2 : Int), v13 = .int .i64 x13_2 ∧ v14 = .int .i64 x14_2 ∧ Aside0 (tabulariumlaw22_PlaceBest.l2 kq y255 a1 l2 t254 t259 x9_1 x13_2 x14_2 = some r) ∧ Aside0 (kq ≤ k1) ∧ Aside0 (Kd.R (Kd.int .i64) 3 w' w.heap.size (fun _ => True) (.slice Ao59 t259.length co59) t259) ∧ Aside0 (Kd.R Kd.bool 4 w' w.heap.size (fun _ => True) v263 x9_1) ∧ Aside0 (Below w.heap.size w w'))
                case atStart => exact ⟨(0), (0), (by first | rfl | (simp; done) | (simp [*]; done) | (simp; exact (fun (l_ : List UInt8) => by cases l_ <;> rfl : ∀ l_ : List UInt8, l_.isEmpty = !(l_ != [])) _)), (by first | rfl | (simp; done) | (simp [*]; done) | (simp; exact (fun (l_ : List UInt8) => by cases l_ <;> rfl : ∀ l_ : List UInt8, l_.isEmpty = !(l_ != [])) _)), H', ⟨Nat.le_refl _⟩, ⟨by (with_reducible repeat (first | apply Kd.R_alloc | apply Kd.R_drewN | apply Kd.R_drew)); exact HO_8.out⟩, ⟨by (with_reducible repeat (first | apply Kd.R_alloc | apply Kd.R_drewN | apply Kd.R_drew)); exact HO_9.out⟩, ⟨by repeat (first | (with_reducible first | exact HB.out | apply below_alloc | apply pw_below_drewN | apply below_drew1) | exact HB.out)⟩⟩
                case round =>
                  clear H'
                  try clear c1
                  try clear c2
                  try clear p2
                  try clear q2
                  try clear hx2
                  try clear c3
                  try clear c5
                  try clear p5
                  try clear q5
                  try clear hx5
                  try clear hf5
                  try clear p6
                  try clear c15
                  try clear c16
                  try clear c16b0
                  try clear c17
                  try clear c24
                  try clear c25
                  try clear p26
                  try clear q26
                  try clear hx26
                  try clear p27
                  try clear q27
                  try clear hx27
                  try clear c30
                  try clear c32
                  try clear c50
                  try clear c51
                  try clear c51b0
                  try clear c52
                  try clear c52b0
                  try clear p53
                  try clear q53
                  try clear hx53
                  try clear hf53
                  try clear c56
                  try clear c56b0
                  try clear c57
                  try clear c57b0
                  try clear c58
                  try clear c58b0
                  try clear c58b1
                  try clear hx266_0
                  try clear hx267_0
                  try clear hx267_1
                  try clear hx267_2
                  try clear hx274_0
                  try clear hx53_0
                  try clear p2
                  try clear p26
                  try clear p266
                  try clear p267
                  try clear p274
                  try clear p5
                  try clear p53
                  try clear q2
                  try clear q26
                  try clear q266
                  try clear q267
                  try clear q274
                  try clear q5
                  try clear q53
                  obtain ⟨x13_2, x14_2, rfl, rfl, HA, HK2, HO_8, HO_9, HB⟩ := hrel
                  cases gk with
                  | zero => exact absurd HA.out (by simp [tabulariumlaw22_PlaceBest.l2])
                  | succ k2 =>
                    have H := HA.out
                    clear HA
                    simp only [tabulariumlaw22_PlaceBest.l2] at H
                    by_cases c60 : x14_2 < (y255.length : Int)
                    · rw [if_pos c60] at H
                      have c60b0 : decide (x14_2 < (y255.length : Int)) = true := decide_eq_true c60
                      clear c60
                      by_cases c61 : 0 ≤ x14_2
                      · rw [if_pos c61] at H
                        have c61b0 : decide (0 ≤ x14_2) = true := decide_eq_true c61
                        clear c61
                        replace H := Option.bind_eq_some_iff.mp H
                        obtain ⟨t276, A620, H⟩ := H
                        replace H : (tabulariumlaw22_PlaceBest.l3 k2 y255 a1 l2 t254 t259 x9_1 x13_2 x14_2 (!t276) 0) = some r := H
                        have A62 := Aside0.mk A620
                        clear A620
                        have H' := Aside0.mk H
                        clear H
                        have p275 : 0 ≤ (x14_2 : Int) := of_decide_eq_true (by first | (with_reducible assumption) | assumption)
                        have q275 : x14_2 < (y255.length : Int) := of_decide_eq_true (by first | (with_reducible assumption) | assumption)
                        obtain ⟨ad275, e275, hx275_0, hx275_1, hx275_2⟩ := at_T26 HR258.out x14_2 p275 q275
                        cases e275
                        replace hx275_0 := (HB.out.cell (World.block_lt_of_cell? w _ hx275_0)).trans hx275_0
                        replace hx275_1 := (HB.out.cell (World.block_lt_of_cell? w _ hx275_1)).trans hx275_1
                        replace hx275_2 := (HB.out.cell (World.block_lt_of_cell? w _ hx275_2)).trans hx275_2
                        replace p275 := eq_true p275; replace q275 := eq_true q275
                        go_wp2_with (first | ((with_reducible refine gate_callee (f := 15) rfl ?_); refine goesL_ (some 108) rfl rfl Try.func15 (by kernel_rfl) rfl #[.agg #[.float .f64 ((rd_T26 y255 x14_2).f0), .float .f64 ((rd_T26 y255 x14_2).f1), .float .f64 ((rd_T26 y255 x14_2).f2)]] rfl (by (try simp only [List.map_toArray, List.map_cons, List.map_nil]); first | done | rfl | (simp only [List.length_drop, List.length_take]; rfl)) ?_; (with_reducible refine (place_Fit.calls k2 ((rd_T26 y255 x14_2).f0) ((rd_T26 y255 x14_2).f1) ((rd_T26 y255 x14_2).f2) t276 _ A62.out).mono ?_); rintro e w63 ⟨rfl, hb⟩; refine ⟨_, rfl, ?_⟩; have n0_ := Aside0.mk (Kd.R_below (by (with_reducible repeat (first | apply Kd.R_alloc | apply Kd.R_drewN | apply Kd.R_drew)); exact HO_8.out) hb); have n1_ := Aside0.mk (Kd.R_below (by (with_reducible repeat (first | apply Kd.R_alloc | apply Kd.R_drewN | apply Kd.R_drew)); exact HO_9.out) hb); have n2_ := Aside0.mk (below_step (by repeat (first | (with_reducible first | exact HB.out | apply below_alloc | apply pw_below_drewN | apply below_drew1) | exact HB.out)) hb); clear HO_8; clear HO_9; clear HB; have HO_8 := n0_; have HO_9 := n1_; have HB := n2_; clear n0_ n1_ n2_; (try clear hb); (try clear hb2); (try clear hk); (try clear hi)))
                        go_loopg [15, 16] k2 (fun kq v15 v16 w' => ∃ (x15_3 : Bool) (x16_3 : Int), v15 = .bool x15_3 ∧ v16 = .int .i64 x16_3 ∧ Aside0 (tabulariumlaw22_PlaceBest.l3 kq y255 a1 l2 t254 t259 x9_1 x13_2 x14_2 x15_3 x16_3 = some r) ∧ Aside0 (kq ≤ k2) ∧ Aside0 (Kd.R (Kd.int .i64) 3 w' w.heap.size (fun _ => True) (.slice Ao59 t259.length co59) t259) ∧ Aside0 (Kd.R Kd.bool 4 w' w.heap.size (fun _ => True) v263 x9_1) ∧ Aside0 (Below w.heap.size w w'))
                        case atStart => exact ⟨(!t276), (0), (by first | rfl | (simp; done) | (simp [*]; done) | (simp; exact (fun (l_ : List UInt8) => by cases l_ <;> rfl : ∀ l_ : List UInt8, l_.isEmpty = !(l_ != [])) _)), (by first | rfl | (simp; done) | (simp [*]; done) | (simp; exact (fun (l_ : List UInt8) => by cases l_ <;> rfl : ∀ l_ : List UInt8, l_.isEmpty = !(l_ != [])) _)), H', ⟨Nat.le_refl _⟩, ⟨by (with_reducible repeat (first | apply Kd.R_alloc | apply Kd.R_drewN | apply Kd.R_drew)); exact HO_8.out⟩, ⟨by (with_reducible repeat (first | apply Kd.R_alloc | apply Kd.R_drewN | apply Kd.R_drew)); exact HO_9.out⟩, ⟨by repeat (first | (with_reducible first | exact HB.out | apply below_alloc | apply pw_below_drewN | apply below_drew1) | exact HB.out)⟩⟩
                        case round =>
                          clear H'
                          try clear c1
                          try clear c2
                          try clear p2
                          try clear q2
                          try clear hx2
                          try clear c3
                          try clear c5
                          try clear p5
                          try clear q5
                          try clear hx5
                          try clear hf5
                          try clear c6
                          try clear p6
                          try clear c15
                          try clear c16
                          try clear c16b0
                          try clear c17
                          try clear c24
                          try clear c25
                          try clear p26
                          try clear q26
                          try clear hx26
                          try clear p27
                          try clear q27
                          try clear hx27
                          try clear c30
                          try clear c32
                          try clear c50
                          try clear c51
                          try clear c51b0
                          try clear c52
                          try clear c52b0
                          try clear p53
                          try clear q53
                          try clear hx53
                          try clear hf53
                          try clear c56
                          try clear c56b0
                          try clear c57
                          try clear c57b0
                          try clear c58
                          try clear c58b0
                          try clear c58b1
                          try clear c60
                          try clear c60b0
                          try clear c61
                          try clear c61b0
                          try clear hx266_0
                          try clear hx267_0
                          try clear hx267_1
                          try clear hx267_2
                          try clear hx274_0
                          try clear hx275_0
                          try clear hx275_1
                          try clear hx275_2
                          try clear hx53_0
                          try clear p2
                          try clear p26
                          try clear p266
                          try clear p267
                          try clear p27
                          try clear p274
                          try clear p275
                          try clear p5
                          try clear p53
                          try clear p6
                          try clear q2
                          try clear q26
                          try clear q266
                          try clear q267
                          try clear q27
                          try clear q274
                          try clear q275
                          try clear q5
                          try clear q53
                          obtain ⟨x15_3, x16_3, rfl, rfl, HA, HK3, HO_8, HO_9, HB⟩ := hrel
                          cases gk with
                          | zero => exact absurd HA.out (by simp [tabulariumlaw22_PlaceBest.l3])
                          | succ k3 =>
                            have H := HA.out
                            clear HA
                            simp only [tabulariumlaw22_PlaceBest.l3] at H
                            by_cases c64 : x16_3 < (l2.length : Int)
                            · rw [if_pos c64] at H
                              have c64b0 : decide (x16_3 < (l2.length : Int)) = true := decide_eq_true c64
                              clear c64
                              by_cases c65 : x15_3 = true
                              · subst c65
                                have H1 : (tabulariumlaw22_PlaceBest.l3 k3 y255 a1 l2 t254 t259 x9_1 x13_2 x14_2 true (wrap64 (x16_3 + 1))) = some r := by rw [if_pos rfl] at H; exact H
                                clear H
                                have H := H1
                                clear H1
                                have H' := Aside0.mk H
                                clear H
                                go_wp2
                                go_roundg k3
                                case measure => have := HK1.out; have := HK2.out; have := HK3.out; omega
                                case rel => exact ⟨(true), (wrap64 (x16_3 + 1)), (by first | rfl | (simp; done) | (simp [*]; done) | (simp; exact (fun (l_ : List UInt8) => by cases l_ <;> rfl : ∀ l_ : List UInt8, l_.isEmpty = !(l_ != [])) _)), (by first | rfl | (simp; done) | (simp [*]; done) | (simp; exact (fun (l_ : List UInt8) => by cases l_ <;> rfl : ∀ l_ : List UInt8, l_.isEmpty = !(l_ != [])) _)), H', ⟨by have := HK1.out; have := HK2.out; have := HK3.out; omega⟩, ⟨by (with_reducible repeat (first | apply Kd.R_alloc | apply Kd.R_drewN | apply Kd.R_drew)); exact HO_8.out⟩, ⟨by (with_reducible repeat (first | apply Kd.R_alloc | apply Kd.R_drewN | apply Kd.R_drew)); exact HO_9.out⟩, ⟨by repeat (first | (with_reducible first | exact HB.out | apply below_alloc | apply pw_below_drewN | apply below_drew1) | exact HB.out)⟩⟩
                              · replace c65 := Bool.eq_false_iff.mpr c65
                                subst c65
                                have H1 : (if 0 ≤ x16_3 then (tabulariumlaw22_PlaceBest.l3 k3 y255 a1 l2 t254 t259 x9_1 x13_2 x14_2 ((rd l2 x16_3) == x14_2) (wrap64 (x16_3 + 1))) else (none)) = some r := by rw [if_neg (show ¬ (false = true) by decide)] at H; exact H
                                clear H
                                have H := H1
                                clear H1
                                by_cases c66 : 0 ≤ x16_3
                                · rw [if_pos c66] at H
                                  have c66b0 : decide (0 ≤ x16_3) = true := decide_eq_true c66
                                  clear c66
                                  have H' := Aside0.mk H
                                  clear H
                                  have p277 : 0 ≤ (x16_3 : Int) := of_decide_eq_true (by first | (with_reducible assumption) | assumption)
                                  have q277 : x16_3 < (l2.length : Int) := of_decide_eq_true (by first | (with_reducible assumption) | assumption)
                                  obtain ⟨ad277, e277, hx277_0⟩ := Kd.at_int HR2.out x16_3 p277 q277
                                  cases e277
                                  replace hx277_0 := (HB.out.cell (World.block_lt_of_cell? w _ hx277_0)).trans hx277_0
                                  replace p277 := eq_true p277; replace q277 := eq_true q277
                                  go_wp2
                                  go_roundg k3
                                  case measure => have := HK1.out; have := HK2.out; have := HK3.out; omega
                                  case rel => exact ⟨(((rd l2 x16_3) == x14_2)), (wrap64 (x16_3 + 1)), (by first | rfl | (simp; done) | (simp [*]; done) | (simp; exact (fun (l_ : List UInt8) => by cases l_ <;> rfl : ∀ l_ : List UInt8, l_.isEmpty = !(l_ != [])) _)), (by first | rfl | (simp; done) | (simp [*]; done) | (simp; exact (fun (l_ : List UInt8) => by cases l_ <;> rfl : ∀ l_ : List UInt8, l_.isEmpty = !(l_ != [])) _)), H', ⟨by have := HK1.out; have := HK2.out; have := HK3.out; omega⟩, ⟨by (with_reducible repeat (first | apply Kd.R_alloc | apply Kd.R_drewN | apply Kd.R_drew)); exact HO_8.out⟩, ⟨by (with_reducible repeat (first | apply Kd.R_alloc | apply Kd.R_drewN | apply Kd.R_drew)); exact HO_9.out⟩, ⟨by repeat (first | (with_reducible first | exact HB.out | apply below_alloc | apply pw_below_drewN | apply below_drew1) | exact HB.out)⟩⟩
                                · rw [if_neg c66] at H
                                  exact absurd H (by simp)
                            · rw [if_neg c64] at H
                              have c64b0 : decide (x16_3 < (l2.length : Int)) = false := decide_eq_false c64
                              clear c64
                              by_cases c67 : x15_3 = true
                              · subst c67
                                have H1 : (tabulariumlaw22_PlaceBest.l2 k3 y255 a1 l2 t254 t259 x9_1 x13_2 (wrap64 (x14_2 + 1))) = some r := by rw [if_pos rfl] at H; exact H
                                clear H
                                have H := H1
                                clear H1
                                have H' := Aside0.mk H
                                clear H
                                go_wp2
                                go_roundg k3
                                case measure => have := HK1.out; have := HK2.out; have := HK3.out; omega
                                case rel => exact ⟨(x13_2), (wrap64 (x14_2 + 1)), (by first | rfl | (simp; done) | (simp [*]; done) | (simp; exact (fun (l_ : List UInt8) => by cases l_ <;> rfl : ∀ l_ : List UInt8, l_.isEmpty = !(l_ != [])) _)), (by first | rfl | (simp; done) | (simp [*]; done) | (simp; exact (fun (l_ : List UInt8) => by cases l_ <;> rfl : ∀ l_ : List UInt8, l_.isEmpty = !(l_ != [])) _)), H', ⟨by have := HK1.out; have := HK2.out; have := HK3.out; omega⟩, ⟨by (with_reducible repeat (first | apply Kd.R_alloc | apply Kd.R_drewN | apply Kd.R_drew)); exact HO_8.out⟩, ⟨by (with_reducible repeat (first | apply Kd.R_alloc | apply Kd.R_drewN | apply Kd.R_drew)); exact HO_9.out⟩, ⟨by repeat (first | (with_reducible first | exact HB.out | apply below_alloc | apply pw_below_drewN | apply below_drew1) | exact HB.out)⟩⟩
                              · replace c67 := Bool.eq_false_iff.mpr c67
                                subst c67
                                have H1 : (tabulariumlaw22_PlaceBest.l4 k3 y255 a1 l2 t254 t259 x9_1 (wrap64 (x13_2 + 1)) x14_2 0) = some r := by rw [if_neg (show ¬ (false = true) by decide)] at H; exact H
                                clear H
                                have H := H1
                                clear H1
                                have H' := Aside0.mk H
                                clear H
                                go_wp2
                                go_loopg [17] k3 (fun kq v17 w' => ∃ (x17_4 : Int), v17 = .int .i64 x17_4 ∧ Aside0 (tabulariumlaw22_PlaceBest.l4 kq y255 a1 l2 t254 t259 x9_1 (wrap64 (x13_2 + 1)) x14_2 x17_4 = some r) ∧ Aside0 (kq ≤ k3) ∧ Aside0 (Kd.R (Kd.int .i64) 3 w' w.heap.size (fun _ => True) (.slice Ao59 t259.length co59) t259) ∧ Aside0 (Kd.R Kd.bool 4 w' w.heap.size (fun _ => True) v263 x9_1) ∧ Aside0 (Below w.heap.size w w'))
                                case atStart => exact ⟨(0), (by first | rfl | (simp; done) | (simp [*]; done) | (simp; exact (fun (l_ : List UInt8) => by cases l_ <;> rfl : ∀ l_ : List UInt8, l_.isEmpty = !(l_ != [])) _)), H', ⟨Nat.le_refl _⟩, ⟨by (with_reducible repeat (first | apply Kd.R_alloc | apply Kd.R_drewN | apply Kd.R_drew)); exact HO_8.out⟩, ⟨by (with_reducible repeat (first | apply Kd.R_alloc | apply Kd.R_drewN | apply Kd.R_drew)); exact HO_9.out⟩, ⟨by repeat (first | (with_reducible first | exact HB.out | apply below_alloc | apply pw_below_drewN | apply below_drew1) | exact HB.out)⟩⟩
                                case round =>
                                  clear H'
                                  try clear c1
                                  try clear c2
                                  try clear p2
                                  try clear q2
                                  try clear hx2
                                  try clear c3
                                  try clear c5
                                  try clear p5
                                  try clear q5
                                  try clear hx5
                                  try clear hf5
                                  try clear c6
                                  try clear p6
                                  try clear c15
                                  try clear c16
                                  try clear c16b0
                                  try clear c17
                                  try clear c24
                                  try clear c25
                                  try clear p26
                                  try clear q26
                                  try clear hx26
                                  try clear p27
                                  try clear q27
                                  try clear hx27
                                  try clear c30
                                  try clear c32
                                  try clear c50
                                  try clear c51
                                  try clear c51b0
                                  try clear c52
                                  try clear c52b0
                                  try clear p53
                                  try clear q53
                                  try clear hx53
                                  try clear hf53
                                  try clear c56
                                  try clear c56b0
                                  try clear c57
                                  try clear c57b0
                                  try clear c58
                                  try clear c58b0
                                  try clear c58b1
                                  try clear c60
                                  try clear c60b0
                                  try clear c61
                                  try clear c61b0
                                  try clear c64
                                  try clear c64b0
                                  try clear p64
                                  try clear c65
                                  try clear c66
                                  try clear c66b0
                                  try clear c67
                                  try clear hx266_0
                                  try clear hx267_0
                                  try clear hx267_1
                                  try clear hx267_2
                                  try clear hx274_0
                                  try clear hx275_0
                                  try clear hx275_1
                                  try clear hx275_2
                                  try clear hx277_0
                                  try clear hx53_0
                                  try clear p2
                                  try clear p26
                                  try clear p266
                                  try clear p267
                                  try clear p27
                                  try clear p274
                                  try clear p275
                                  try clear p277
                                  try clear p5
                                  try clear p53
                                  try clear p6
                                  try clear q2
                                  try clear q26
                                  try clear q266
                                  try clear q267
                                  try clear q27
                                  try clear q274
                                  try clear q275
                                  try clear q277
                                  try clear q5
                                  try clear q53
                                  obtain ⟨x17_4, rfl, HA, HK4, HO_8, HO_9, HB⟩ := hrel
                                  cases gk with
                                  | zero => exact absurd HA.out (by simp [tabulariumlaw22_PlaceBest.l4])
                                  | succ k4 =>
                                    have H := HA.out
                                    clear HA
                                    simp only [tabulariumlaw22_PlaceBest.l4] at H
                                    by_cases c68 : x17_4 < (t259.length : Int)
                                    · rw [if_pos c68] at H
                                      have c68b0 : decide (x17_4 < (t259.length : Int)) = true := decide_eq_true c68
                                      clear c68
                                      by_cases c69 : 0 ≤ x14_2
                                      · rw [if_pos c69] at H
                                        have c69b0 : decide (0 ≤ x14_2) = true := decide_eq_true c69
                                        clear c69
                                        by_cases c70 : x14_2 < (x9_1.length : Int)
                                        · rw [if_pos c70] at H
                                          have c70b0 : decide (x14_2 < (x9_1.length : Int)) = true := decide_eq_true c70
                                          clear c70
                                          obtain ⟨bq71, hbq71⟩ : ∃ b_ : Bool, b_ = (rdOf false x9_1 x14_2) := ⟨_, rfl⟩
                                          replace H : (if bq71 = true then (tabulariumlaw22_PlaceBest.l4 k4 y255 a1 l2 t254 t259 x9_1 (wrap64 (x13_2 + 1)) x14_2 (wrap64 (x17_4 + 1))) else (if x14_2 < (y255.length : Int) then (if 0 ≤ x17_4 then (if 0 ≤ (rd t259 x17_4) then (if (rd t259 x17_4) < (y255.length : Int) then ((place_Before.f k4 ((rd_T26 y255 x14_2).f0) ((rd_T26 y255 x14_2).f1) ((rd_T26 y255 x14_2).f2) ((rd_T26 y255 (rd t259 x17_4)).f0) ((rd_T26 y255 (rd t259 x17_4)).f1) ((rd_T26 y255 (rd t259 x17_4)).f2)).bind fun t282 => (if t282 < 0 then (some false) else (tabulariumlaw22_PlaceBest.l4 k4 y255 a1 l2 t254 t259 x9_1 (wrap64 (x13_2 + 1)) x14_2 (wrap64 (x17_4 + 1))))) else (none)) else (none)) else (none)) else (none))) = some r := by rw [← hbq71] at H; exact H
                                          have Nbq71 := Aside0.mk hbq71
                                          clear hbq71
                                          by_cases c72 : bq71 = true
                                          · subst c72
                                            have H1 : (tabulariumlaw22_PlaceBest.l4 k4 y255 a1 l2 t254 t259 x9_1 (wrap64 (x13_2 + 1)) x14_2 (wrap64 (x17_4 + 1))) = some r := by rw [if_pos rfl] at H; exact H
                                            clear H
                                            have H := H1
                                            clear H1
                                            have H' := Aside0.mk H
                                            clear H
                                            try go_wp2
                                            have n0_ := Aside0.mk (Kd.R_drew HO_8.out)
                                            have n1_ := Aside0.mk (Kd.R_drew HO_9.out)
                                            have n2_ := Aside0.mk (below_drew1 HB.out)
                                            clear HO_8; clear HO_9; clear HB; have HO_8 := n0_; have HO_9 := n1_; have HB := n2_; clear n0_ n1_ n2_
                                            obtain ⟨Ao74, co74, eo74⟩ := Kd.R_slice HO_9.out
                                            (first | subst eo74 | (injection eo74 with f1_ f2_ f3_; have f4_ := f1_.symm; have f5_ := f3_.symm; clear f1_ f2_ f3_; subst f4_; subst f5_))
                                            have p278 : 0 ≤ (x14_2 : Int) := of_decide_eq_true (by first | (with_reducible assumption) | assumption)
                                            have q278 : x14_2 < (x9_1.length : Int) := of_decide_eq_true (by first | (with_reducible assumption) | assumption)
                                            obtain ⟨ad278, e278, hx278_0⟩ := Kd.at_bool (Kd.R_reads' HO_9.out).2.2 x14_2 p278 q278
                                            (try rw [← Nbq71.out] at hx278_0)
                                            cases e278
                                            replace p278 := eq_true p278; replace q278 := eq_true q278
                                            refine start_ (n := 20) (S := fun w' => w'.cell? (ad278.add (x14_2).toNat) = some (.bool true)) (ds := []) (nz 20 0) (by kernel_rfl) rfl (by kernel_rfl) (hx278_0) (fun hHeld => ?_); refine with_tabW tabulariumlaw22_PlaceBest.tab31 tabulariumlaw22_PlaceBest.bits31 (fun HT_ HW_ => ?_)
                                            generalize wr.drew = w73 at HO_8 HO_9 HB hx278_0 hHeld ⊢
                                            refine zp HT_ 0 134 1 ?_
                                            refine zp HT_ 1 135 3 ?_
                                            refine zp HT_ 2 136 7 ?_
                                            refine zt HT_ HW_ hHeld 3 137 15 ?_
                                            refine zp HT_ 4 138 31 ?_
                                            refine zp HT_ 5 139 63 ?_
                                            refine zq HT_ 6 140 127 ?_
                                            refine zq HT_ 7 141 255 ?_
                                            refine zq HT_ 8 142 511 ?_
                                            refine zq HT_ 9 143 1023 ?_
                                            refine zq HT_ 10 144 2047 ?_
                                            refine zq HT_ 11 145 4095 ?_
                                            refine zq HT_ 12 146 8191 ?_
                                            refine zq HT_ 13 147 16383 ?_
                                            refine zq HT_ 14 148 32767 ?_
                                            refine zq HT_ 15 149 65535 ?_
                                            refine zq HT_ 16 150 131071 ?_
                                            refine zq HT_ 17 151 262143 ?_
                                            refine zq HT_ 18 152 524287 ?_
                                            refine zp HT_ 19 153 1048575 ?_
                                            refine done_ (done_of HT_.out (by kernel_rfl)) ?_
                                            try go_wp2
                                            go_roundg k4
                                            case measure => have := HK1.out; have := HK2.out; have := HK3.out; have := HK4.out; omega
                                            case rel => exact ⟨(wrap64 (x17_4 + 1)), (by first | rfl | (simp; done) | (simp [*]; done) | (simp; exact (fun (l_ : List UInt8) => by cases l_ <;> rfl : ∀ l_ : List UInt8, l_.isEmpty = !(l_ != [])) _)), H', ⟨by have := HK1.out; have := HK2.out; have := HK3.out; have := HK4.out; omega⟩, ⟨by (with_reducible repeat (first | apply Kd.R_alloc | apply Kd.R_drewN | apply Kd.R_drew)); exact HO_8.out⟩, ⟨by (with_reducible repeat (first | apply Kd.R_alloc | apply Kd.R_drewN | apply Kd.R_drew)); exact HO_9.out⟩, ⟨by repeat (first | (with_reducible first | exact HB.out | apply below_alloc | apply pw_below_drewN | apply below_drew1) | exact HB.out)⟩⟩
                                          · replace c72 := Bool.eq_false_iff.mpr c72
                                            subst c72
                                            have H1 : (if x14_2 < (y255.length : Int) then (if 0 ≤ x17_4 then (if 0 ≤ (rd t259 x17_4) then (if (rd t259 x17_4) < (y255.length : Int) then ((place_Before.f k4 ((rd_T26 y255 x14_2).f0) ((rd_T26 y255 x14_2).f1) ((rd_T26 y255 x14_2).f2) ((rd_T26 y255 (rd t259 x17_4)).f0) ((rd_T26 y255 (rd t259 x17_4)).f1) ((rd_T26 y255 (rd t259 x17_4)).f2)).bind fun t282 => (if t282 < 0 then (some false) else (tabulariumlaw22_PlaceBest.l4 k4 y255 a1 l2 t254 t259 x9_1 (wrap64 (x13_2 + 1)) x14_2 (wrap64 (x17_4 + 1))))) else (none)) else (none)) else (none)) else (none)) = some r := by rw [if_neg (show ¬ (false = true) by decide)] at H; exact H
                                            clear H
                                            have H := H1
                                            clear H1
                                            by_cases c75 : x14_2 < (y255.length : Int)
                                            · rw [if_pos c75] at H
                                              have c75b0 : decide (x14_2 < (y255.length : Int)) = true := decide_eq_true c75
                                              clear c75
                                              by_cases c76 : 0 ≤ x17_4
                                              · rw [if_pos c76] at H
                                                have c76b0 : decide (0 ≤ x17_4) = true := decide_eq_true c76
                                                clear c76
                                                by_cases c77 : 0 ≤ (rd t259 x17_4)
                                                · rw [if_pos c77] at H
                                                  have c77b0 : decide (0 ≤ (rd t259 x17_4)) = true := decide_eq_true c77
                                                  clear c77
                                                  by_cases c78 : (rd t259 x17_4) < (y255.length : Int)
                                                  · rw [if_pos c78] at H
                                                    have c78b0 : decide ((rd t259 x17_4) < (y255.length : Int)) = true := decide_eq_true c78
                                                    clear c78
                                                    replace H := Option.bind_eq_some_iff.mp H
                                                    obtain ⟨t282, A790, H⟩ := H
                                                    replace H : (if t282 < 0 then (some false) else (tabulariumlaw22_PlaceBest.l4 k4 y255 a1 l2 t254 t259 x9_1 (wrap64 (x13_2 + 1)) x14_2 (wrap64 (x17_4 + 1)))) = some r := H
                                                    have A79 := Aside0.mk A790
                                                    clear A790
                                                    by_cases c80 : t282 < 0
                                                    · rw [if_pos c80] at H
                                                      have c80b0 : decide (t282 < 0) = true := decide_eq_true c80
                                                      clear c80
                                                      obtain rfl := Option.some.inj H
                                                      try go_wp2
                                                      have n0_ := Aside0.mk (Kd.R_drew HO_8.out)
                                                      have n1_ := Aside0.mk (Kd.R_drew HO_9.out)
                                                      have n2_ := Aside0.mk (below_drew1 HB.out)
                                                      clear HO_8; clear HO_9; clear HB; have HO_8 := n0_; have HO_9 := n1_; have HB := n2_; clear n0_ n1_ n2_
                                                      obtain ⟨Ao82, co82, eo82⟩ := Kd.R_slice HO_9.out
                                                      (first | subst eo82 | (injection eo82 with f1_ f2_ f3_; have f4_ := f1_.symm; have f5_ := f3_.symm; clear f1_ f2_ f3_; subst f4_; subst f5_))
                                                      have p278 : 0 ≤ (x14_2 : Int) := of_decide_eq_true (by first | (with_reducible assumption) | assumption)
                                                      have q278 : x14_2 < (x9_1.length : Int) := of_decide_eq_true (by first | (with_reducible assumption) | assumption)
                                                      obtain ⟨ad278, e278, hx278_0⟩ := Kd.at_bool (Kd.R_reads' HO_9.out).2.2 x14_2 p278 q278
                                                      (try rw [← Nbq71.out] at hx278_0)
                                                      cases e278
                                                      replace p278 := eq_true p278; replace q278 := eq_true q278
                                                      have p279 : 0 ≤ (x14_2 : Int) := of_decide_eq_true (by first | (with_reducible assumption) | assumption)
                                                      have q279 : x14_2 < (y255.length : Int) := of_decide_eq_true (by first | (with_reducible assumption) | assumption)
                                                      obtain ⟨ad279, e279, hx279_0, hx279_1, hx279_2⟩ := at_T26 HR258.out x14_2 p279 q279
                                                      have hw279_2 := hx279_2
                                                      have hw279_1 := hx279_1
                                                      have hw279_0 := hx279_0
                                                      obtain rfl : ad275 = ad279 := (by injection e279)
                                                      replace hx279_0 := (HB.out.cell (World.block_lt_of_cell? w _ hx279_0)).trans hx279_0
                                                      replace hx279_1 := (HB.out.cell (World.block_lt_of_cell? w _ hx279_1)).trans hx279_1
                                                      replace hx279_2 := (HB.out.cell (World.block_lt_of_cell? w _ hx279_2)).trans hx279_2
                                                      replace p279 := eq_true p279; replace q279 := eq_true q279
                                                      have p280 : 0 ≤ (x17_4 : Int) := of_decide_eq_true (by first | (with_reducible assumption) | assumption)
                                                      have q280 : x17_4 < (t259.length : Int) := of_decide_eq_true (by first | (with_reducible assumption) | assumption)
                                                      obtain ⟨ad280, e280, hx280_0⟩ := Kd.at_int (Kd.R_reads' HO_8.out).2.2 x17_4 p280 q280
                                                      cases e280
                                                      replace p280 := eq_true p280; replace q280 := eq_true q280
                                                      have p281 : 0 ≤ ((rd t259 x17_4) : Int) := of_decide_eq_true (by first | (with_reducible assumption) | assumption)
                                                      have q281 : (rd t259 x17_4) < (y255.length : Int) := of_decide_eq_true (by first | (with_reducible assumption) | assumption)
                                                      obtain ⟨ad281, e281, hx281_0, hx281_1, hx281_2⟩ := at_T26 HR258.out (rd t259 x17_4) p281 q281
                                                      have hw281_2 := hx281_2
                                                      have hw281_1 := hx281_1
                                                      have hw281_0 := hx281_0
                                                      obtain rfl : ad275 = ad281 := (by injection e281)
                                                      replace hx281_0 := (HB.out.cell (World.block_lt_of_cell? w _ hx281_0)).trans hx281_0
                                                      replace hx281_1 := (HB.out.cell (World.block_lt_of_cell? w _ hx281_1)).trans hx281_1
                                                      replace hx281_2 := (HB.out.cell (World.block_lt_of_cell? w _ hx281_2)).trans hx281_2
                                                      replace p281 := eq_true p281; replace q281 := eq_true q281
                                                      refine start_ (n := 20) (S := fun w' => w'.cell? (ad278.add (x14_2).toNat) = some (.bool false) ∧ w'.cell? (ad275.add ((x14_2).toNat * 3)) = some (.float .f64 ((rd_T26 y255 x14_2).f0)) ∧ w'.cell? ⟨(ad275.add ((x14_2).toNat * 3)).block, (ad275.add ((x14_2).toNat * 3)).off + 1, none⟩ = some (.float .f64 ((rd_T26 y255 x14_2).f1)) ∧ w'.cell? ⟨(ad275.add ((x14_2).toNat * 3)).block, (ad275.add ((x14_2).toNat * 3)).off + 2, none⟩ = some (.float .f64 ((rd_T26 y255 x14_2).f2)) ∧ w'.cell? (ad280.add (x17_4).toNat) = some (.int .i64 (rd t259 x17_4)) ∧ w'.cell? (ad275.add (((rd t259 x17_4)).toNat * 3)) = some (.float .f64 ((rd_T26 y255 (rd t259 x17_4)).f0)) ∧ w'.cell? ⟨(ad275.add (((rd t259 x17_4)).toNat * 3)).block, (ad275.add (((rd t259 x17_4)).toNat * 3)).off + 1, none⟩ = some (.float .f64 ((rd_T26 y255 (rd t259 x17_4)).f1)) ∧ w'.cell? ⟨(ad275.add (((rd t259 x17_4)).toNat * 3)).block, (ad275.add (((rd t259 x17_4)).toNat * 3)).off + 2, none⟩ = some (.float .f64 ((rd_T26 y255 (rd t259 x17_4)).f2))) (ds := []) (nz 20 0) (by kernel_rfl) rfl (by kernel_rfl) ⟨hx278_0, ((HB.out.cell (World.block_lt_of_cell? w _ hw279_0)).trans hw279_0), ((HB.out.cell (World.block_lt_of_cell? w _ hw279_1)).trans hw279_1), ((HB.out.cell (World.block_lt_of_cell? w _ hw279_2)).trans hw279_2), hx280_0, ((HB.out.cell (World.block_lt_of_cell? w _ hw281_0)).trans hw281_0), ((HB.out.cell (World.block_lt_of_cell? w _ hw281_1)).trans hw281_1), ((HB.out.cell (World.block_lt_of_cell? w _ hw281_2)).trans hw281_2)⟩ (fun hHeld => ?_); refine with_tabW tabulariumlaw22_PlaceBest.tab31 tabulariumlaw22_PlaceBest.bits31 (fun HT_ HW_ => ?_)
                                                      generalize wr.drew = w81 at HO_8 HO_9 HB hx278_0 hx279_0 hx279_1 hx279_2 hx280_0 hx281_0 hx281_1 hx281_2 hHeld ⊢
                                                      refine zp HT_ 0 134 1 ?_
                                                      refine zp HT_ 1 135 3 ?_
                                                      refine zp HT_ 2 136 7 ?_
                                                      refine zt HT_ HW_ hHeld 3 137 15 ?_
                                                      refine zp HT_ 4 138 31 ?_
                                                      refine zp HT_ 5 139 63 ?_
                                                      refine zp HT_ 6 140 127 ?_
                                                      refine zp HT_ 7 141 255 ?_
                                                      refine zp HT_ 8 142 511 ?_
                                                      refine zp HT_ 10 144 1535 ?_
                                                      refine zp HT_ 11 145 3583 ?_
                                                      refine zp HT_ 12 146 7679 ?_
                                                      refine zp HT_ 13 147 15871 ?_
                                                      refine zt HT_ HW_ hHeld 9 143 16383 ?_
                                                      refine zt HT_ HW_ hHeld 14 148 32767 ?_
                                                      refine zp HT_ 15 149 65535 ?_
                                                      refine zt HT_ HW_ hHeld 16 150 131071 ?_
                                                      refine zo HT_ 17 151 262143 (fun K hK => ?_)
                                                      refine zg Try.func17 #[.agg #[.float .f64 ((rd_T26 y255 x14_2).f0), .float .f64 ((rd_T26 y255 x14_2).f1), .float .f64 ((rd_T26 y255 x14_2).f2)], .agg #[.float .f64 ((rd_T26 y255 (rd t259 x17_4)).f0), .float .f64 ((rd_T26 y255 (rd t259 x17_4)).f1), .float .f64 ((rd_T26 y255 (rd t259 x17_4)).f2)]] ?_
                                                      with_reducible refine (place_Before.calls k4 ((rd_T26 y255 x14_2).f0) ((rd_T26 y255 x14_2).f1) ((rd_T26 y255 x14_2).f2) ((rd_T26 y255 (rd t259 x17_4)).f0) ((rd_T26 y255 (rd t259 x17_4)).f1) ((rd_T26 y255 (rd t259 x17_4)).f2) t282 _ A79.out).mono ?_
                                                      rintro e w83 ⟨rfl, hb⟩
                                                      have HS0_ := (hb.cell (World.block_lt_of_cell? _ _ (hHeld.1))).trans (hHeld.1)
                                                      have HS4_ := (hb.cell (World.block_lt_of_cell? _ _ (hHeld.2.2.2.2.1))).trans (hHeld.2.2.2.2.1)
                                                      refine ⟨_, rfl, ?_⟩
                                                      have n0_ := Aside0.mk (Kd.R_below (by (with_reducible repeat (first | apply Kd.R_alloc | apply Kd.R_drewN | apply Kd.R_drew)); exact HO_8.out) hb)
                                                      have n1_ := Aside0.mk (Kd.R_below (by (with_reducible repeat (first | apply Kd.R_alloc | apply Kd.R_drewN | apply Kd.R_drew)); exact HO_9.out) hb)
                                                      have n2_ := Aside0.mk (below_step (by repeat (first | (with_reducible first | exact HB.out | apply below_alloc | apply pw_below_drewN | apply below_drew1) | exact HB.out)) hb)
                                                      clear HO_8; clear HO_9; clear HB; have HO_8 := n0_; have HO_9 := n1_; have HB := n2_; clear n0_ n1_ n2_; (try clear hb); (try clear hb2); (try clear hk); (try clear hi)
                                                      refine hK.out _ _ ⟨HS0_, ((HB.out.cell (World.block_lt_of_cell? w _ hw279_0)).trans hw279_0), ((HB.out.cell (World.block_lt_of_cell? w _ hw279_1)).trans hw279_1), ((HB.out.cell (World.block_lt_of_cell? w _ hw279_2)).trans hw279_2), HS4_, ((HB.out.cell (World.block_lt_of_cell? w _ hw281_0)).trans hw281_0), ((HB.out.cell (World.block_lt_of_cell? w _ hw281_1)).trans hw281_1), ((HB.out.cell (World.block_lt_of_cell? w _ hw281_2)).trans hw281_2)⟩ (fun hHeld => ?_)
                                                      clear hK K
                                                      refine zn ?_
                                                      refine zp HT_ 18 152 524287 ?_
                                                      refine zp HT_ 19 153 1048575 ?_
                                                      refine done_ (done_of HT_.out (by kernel_rfl)) ?_
                                                      try go_wp2
                                                      go_ret
                                                      exact ⟨by first | rfl | (simp [errW_none, errW_some] <;> rfl) | (simp only [← hji5]; first | rfl | (simp [errW_none, errW_some] <;> rfl)) | (simp [*, errW_none, errW_some] <;> rfl), by repeat (first | (with_reducible first | exact HB.out | apply below_alloc | apply pw_below_drewN | apply below_drew1) | exact HB.out)⟩
                                                    · rw [if_neg c80] at H
                                                      have c80b0 : decide (t282 < 0) = false := decide_eq_false c80
                                                      clear c80
                                                      have H' := Aside0.mk H
                                                      clear H
                                                      try go_wp2
                                                      have n0_ := Aside0.mk (Kd.R_drew HO_8.out)
                                                      have n1_ := Aside0.mk (Kd.R_drew HO_9.out)
                                                      have n2_ := Aside0.mk (below_drew1 HB.out)
                                                      clear HO_8; clear HO_9; clear HB; have HO_8 := n0_; have HO_9 := n1_; have HB := n2_; clear n0_ n1_ n2_
                                                      obtain ⟨Ao85, co85, eo85⟩ := Kd.R_slice HO_9.out
                                                      (first | subst eo85 | (injection eo85 with f1_ f2_ f3_; have f4_ := f1_.symm; have f5_ := f3_.symm; clear f1_ f2_ f3_; subst f4_; subst f5_))
                                                      have p278 : 0 ≤ (x14_2 : Int) := of_decide_eq_true (by first | (with_reducible assumption) | assumption)
                                                      have q278 : x14_2 < (x9_1.length : Int) := of_decide_eq_true (by first | (with_reducible assumption) | assumption)
                                                      obtain ⟨ad278, e278, hx278_0⟩ := Kd.at_bool (Kd.R_reads' HO_9.out).2.2 x14_2 p278 q278
                                                      (try rw [← Nbq71.out] at hx278_0)
                                                      cases e278
                                                      replace p278 := eq_true p278; replace q278 := eq_true q278
                                                      have p279 : 0 ≤ (x14_2 : Int) := of_decide_eq_true (by first | (with_reducible assumption) | assumption)
                                                      have q279 : x14_2 < (y255.length : Int) := of_decide_eq_true (by first | (with_reducible assumption) | assumption)
                                                      obtain ⟨ad279, e279, hx279_0, hx279_1, hx279_2⟩ := at_T26 HR258.out x14_2 p279 q279
                                                      have hw279_2 := hx279_2
                                                      have hw279_1 := hx279_1
                                                      have hw279_0 := hx279_0
                                                      obtain rfl : ad275 = ad279 := (by injection e279)
                                                      replace hx279_0 := (HB.out.cell (World.block_lt_of_cell? w _ hx279_0)).trans hx279_0
                                                      replace hx279_1 := (HB.out.cell (World.block_lt_of_cell? w _ hx279_1)).trans hx279_1
                                                      replace hx279_2 := (HB.out.cell (World.block_lt_of_cell? w _ hx279_2)).trans hx279_2
                                                      replace p279 := eq_true p279; replace q279 := eq_true q279
                                                      have p280 : 0 ≤ (x17_4 : Int) := of_decide_eq_true (by first | (with_reducible assumption) | assumption)
                                                      have q280 : x17_4 < (t259.length : Int) := of_decide_eq_true (by first | (with_reducible assumption) | assumption)
                                                      obtain ⟨ad280, e280, hx280_0⟩ := Kd.at_int (Kd.R_reads' HO_8.out).2.2 x17_4 p280 q280
                                                      cases e280
                                                      replace p280 := eq_true p280; replace q280 := eq_true q280
                                                      have p281 : 0 ≤ ((rd t259 x17_4) : Int) := of_decide_eq_true (by first | (with_reducible assumption) | assumption)
                                                      have q281 : (rd t259 x17_4) < (y255.length : Int) := of_decide_eq_true (by first | (with_reducible assumption) | assumption)
                                                      obtain ⟨ad281, e281, hx281_0, hx281_1, hx281_2⟩ := at_T26 HR258.out (rd t259 x17_4) p281 q281
                                                      have hw281_2 := hx281_2
                                                      have hw281_1 := hx281_1
                                                      have hw281_0 := hx281_0
                                                      obtain rfl : ad275 = ad281 := (by injection e281)
                                                      replace hx281_0 := (HB.out.cell (World.block_lt_of_cell? w _ hx281_0)).trans hx281_0
                                                      replace hx281_1 := (HB.out.cell (World.block_lt_of_cell? w _ hx281_1)).trans hx281_1
                                                      replace hx281_2 := (HB.out.cell (World.block_lt_of_cell? w _ hx281_2)).trans hx281_2
                                                      replace p281 := eq_true p281; replace q281 := eq_true q281
                                                      refine start_ (n := 20) (S := fun w' => w'.cell? (ad278.add (x14_2).toNat) = some (.bool false) ∧ w'.cell? (ad275.add ((x14_2).toNat * 3)) = some (.float .f64 ((rd_T26 y255 x14_2).f0)) ∧ w'.cell? ⟨(ad275.add ((x14_2).toNat * 3)).block, (ad275.add ((x14_2).toNat * 3)).off + 1, none⟩ = some (.float .f64 ((rd_T26 y255 x14_2).f1)) ∧ w'.cell? ⟨(ad275.add ((x14_2).toNat * 3)).block, (ad275.add ((x14_2).toNat * 3)).off + 2, none⟩ = some (.float .f64 ((rd_T26 y255 x14_2).f2)) ∧ w'.cell? (ad280.add (x17_4).toNat) = some (.int .i64 (rd t259 x17_4)) ∧ w'.cell? (ad275.add (((rd t259 x17_4)).toNat * 3)) = some (.float .f64 ((rd_T26 y255 (rd t259 x17_4)).f0)) ∧ w'.cell? ⟨(ad275.add (((rd t259 x17_4)).toNat * 3)).block, (ad275.add (((rd t259 x17_4)).toNat * 3)).off + 1, none⟩ = some (.float .f64 ((rd_T26 y255 (rd t259 x17_4)).f1)) ∧ w'.cell? ⟨(ad275.add (((rd t259 x17_4)).toNat * 3)).block, (ad275.add (((rd t259 x17_4)).toNat * 3)).off + 2, none⟩ = some (.float .f64 ((rd_T26 y255 (rd t259 x17_4)).f2))) (ds := []) (nz 20 0) (by kernel_rfl) rfl (by kernel_rfl) ⟨hx278_0, ((HB.out.cell (World.block_lt_of_cell? w _ hw279_0)).trans hw279_0), ((HB.out.cell (World.block_lt_of_cell? w _ hw279_1)).trans hw279_1), ((HB.out.cell (World.block_lt_of_cell? w _ hw279_2)).trans hw279_2), hx280_0, ((HB.out.cell (World.block_lt_of_cell? w _ hw281_0)).trans hw281_0), ((HB.out.cell (World.block_lt_of_cell? w _ hw281_1)).trans hw281_1), ((HB.out.cell (World.block_lt_of_cell? w _ hw281_2)).trans hw281_2)⟩ (fun hHeld => ?_); refine with_tabW tabulariumlaw22_PlaceBest.tab31 tabulariumlaw22_PlaceBest.bits31 (fun HT_ HW_ => ?_)
                                                      generalize wr.drew = w84 at HO_8 HO_9 HB hx278_0 hx279_0 hx279_1 hx279_2 hx280_0 hx281_0 hx281_1 hx281_2 hHeld ⊢
                                                      refine zp HT_ 0 134 1 ?_
                                                      refine zp HT_ 1 135 3 ?_
                                                      refine zp HT_ 2 136 7 ?_
                                                      refine zt HT_ HW_ hHeld 3 137 15 ?_
                                                      refine zp HT_ 4 138 31 ?_
                                                      refine zp HT_ 5 139 63 ?_
                                                      refine zp HT_ 6 140 127 ?_
                                                      refine zp HT_ 7 141 255 ?_
                                                      refine zp HT_ 8 142 511 ?_
                                                      refine zp HT_ 10 144 1535 ?_
                                                      refine zp HT_ 11 145 3583 ?_
                                                      refine zp HT_ 12 146 7679 ?_
                                                      refine zp HT_ 13 147 15871 ?_
                                                      refine zt HT_ HW_ hHeld 9 143 16383 ?_
                                                      refine zt HT_ HW_ hHeld 14 148 32767 ?_
                                                      refine zp HT_ 15 149 65535 ?_
                                                      refine zt HT_ HW_ hHeld 16 150 131071 ?_
                                                      refine zo HT_ 17 151 262143 (fun K hK => ?_)
                                                      refine zg Try.func17 #[.agg #[.float .f64 ((rd_T26 y255 x14_2).f0), .float .f64 ((rd_T26 y255 x14_2).f1), .float .f64 ((rd_T26 y255 x14_2).f2)], .agg #[.float .f64 ((rd_T26 y255 (rd t259 x17_4)).f0), .float .f64 ((rd_T26 y255 (rd t259 x17_4)).f1), .float .f64 ((rd_T26 y255 (rd t259 x17_4)).f2)]] ?_
                                                      with_reducible refine (place_Before.calls k4 ((rd_T26 y255 x14_2).f0) ((rd_T26 y255 x14_2).f1) ((rd_T26 y255 x14_2).f2) ((rd_T26 y255 (rd t259 x17_4)).f0) ((rd_T26 y255 (rd t259 x17_4)).f1) ((rd_T26 y255 (rd t259 x17_4)).f2) t282 _ A79.out).mono ?_
                                                      rintro e w86 ⟨rfl, hb⟩
                                                      have HS0_ := (hb.cell (World.block_lt_of_cell? _ _ (hHeld.1))).trans (hHeld.1)
                                                      have HS4_ := (hb.cell (World.block_lt_of_cell? _ _ (hHeld.2.2.2.2.1))).trans (hHeld.2.2.2.2.1)
                                                      refine ⟨_, rfl, ?_⟩
                                                      have n0_ := Aside0.mk (Kd.R_below (by (with_reducible repeat (first | apply Kd.R_alloc | apply Kd.R_drewN | apply Kd.R_drew)); exact HO_8.out) hb)
                                                      have n1_ := Aside0.mk (Kd.R_below (by (with_reducible repeat (first | apply Kd.R_alloc | apply Kd.R_drewN | apply Kd.R_drew)); exact HO_9.out) hb)
                                                      have n2_ := Aside0.mk (below_step (by repeat (first | (with_reducible first | exact HB.out | apply below_alloc | apply pw_below_drewN | apply below_drew1) | exact HB.out)) hb)
                                                      clear HO_8; clear HO_9; clear HB; have HO_8 := n0_; have HO_9 := n1_; have HB := n2_; clear n0_ n1_ n2_; (try clear hb); (try clear hb2); (try clear hk); (try clear hi)
                                                      refine hK.out _ _ ⟨HS0_, ((HB.out.cell (World.block_lt_of_cell? w _ hw279_0)).trans hw279_0), ((HB.out.cell (World.block_lt_of_cell? w _ hw279_1)).trans hw279_1), ((HB.out.cell (World.block_lt_of_cell? w _ hw279_2)).trans hw279_2), HS4_, ((HB.out.cell (World.block_lt_of_cell? w _ hw281_0)).trans hw281_0), ((HB.out.cell (World.block_lt_of_cell? w _ hw281_1)).trans hw281_1), ((HB.out.cell (World.block_lt_of_cell? w _ hw281_2)).trans hw281_2)⟩ (fun hHeld => ?_)
                                                      clear hK K
                                                      refine zn ?_
                                                      refine zp HT_ 18 152 524287 ?_
                                                      refine zp HT_ 19 153 1048575 ?_
                                                      refine done_ (done_of HT_.out (by kernel_rfl)) ?_
                                                      try go_wp2
                                                      go_roundg k4
                                                      case measure => have := HK1.out; have := HK2.out; have := HK3.out; have := HK4.out; omega
                                                      case rel => exact ⟨(wrap64 (x17_4 + 1)), (by first | rfl | (simp; done) | (simp [*]; done) | (simp; exact (fun (l_ : List UInt8) => by cases l_ <;> rfl : ∀ l_ : List UInt8, l_.isEmpty = !(l_ != [])) _)), H', ⟨by have := HK1.out; have := HK2.out; have := HK3.out; have := HK4.out; omega⟩, ⟨by (with_reducible repeat (first | apply Kd.R_alloc | apply Kd.R_drewN | apply Kd.R_drew)); exact HO_8.out⟩, ⟨by (with_reducible repeat (first | apply Kd.R_alloc | apply Kd.R_drewN | apply Kd.R_drew)); exact HO_9.out⟩, ⟨by repeat (first | (with_reducible first | exact HB.out | apply below_alloc | apply pw_below_drewN | apply below_drew1) | exact HB.out)⟩⟩
                                                  · rw [if_neg c78] at H
                                                    exact absurd H (by simp)
                                                · rw [if_neg c77] at H
                                                  exact absurd H (by simp)
                                              · rw [if_neg c76] at H
                                                exact absurd H (by simp)
                                            · rw [if_neg c75] at H
                                              exact absurd H (by simp)
                                        · rw [if_neg c70] at H
                                          exact absurd H (by simp)
                                      · rw [if_neg c69] at H
                                        exact absurd H (by simp)
                                    · rw [if_neg c68] at H
                                      have c68b0 : decide (x17_4 < (t259.length : Int)) = false := decide_eq_false c68
                                      clear c68
                                      have H' := Aside0.mk H
                                      clear H
                                      go_wp2
                                      go_roundg k4
                                      case measure => have := HK1.out; have := HK2.out; have := HK3.out; have := HK4.out; omega
                                      case rel => exact ⟨((wrap64 (x13_2 + 1))), (wrap64 (x14_2 + 1)), (by first | rfl | (simp; done) | (simp [*]; done) | (simp; exact (fun (l_ : List UInt8) => by cases l_ <;> rfl : ∀ l_ : List UInt8, l_.isEmpty = !(l_ != [])) _)), (by first | rfl | (simp; done) | (simp [*]; done) | (simp; exact (fun (l_ : List UInt8) => by cases l_ <;> rfl : ∀ l_ : List UInt8, l_.isEmpty = !(l_ != [])) _)), H', ⟨by have := HK1.out; have := HK2.out; have := HK3.out; have := HK4.out; omega⟩, ⟨by (with_reducible repeat (first | apply Kd.R_alloc | apply Kd.R_drewN | apply Kd.R_drew)); exact HO_8.out⟩, ⟨by (with_reducible repeat (first | apply Kd.R_alloc | apply Kd.R_drewN | apply Kd.R_drew)); exact HO_9.out⟩, ⟨by repeat (first | (with_reducible first | exact HB.out | apply below_alloc | apply pw_below_drewN | apply below_drew1) | exact HB.out)⟩⟩
                      · rw [if_neg c61] at H
                        exact absurd H (by simp)
                    · rw [if_neg c60] at H
                      have c60b0 : decide (x14_2 < (y255.length : Int)) = false := decide_eq_false c60
                      clear c60
                      by_cases c87 : t254 = true
                      · subst c87
                        have H1 : (some ((t259.length : Int) == (mn x13_2 (mx a1 0)))) = some r := by rw [if_pos rfl] at H; exact H
                        clear H
                        have H := H1
                        clear H1
                        obtain ⟨ji88, hji88⟩ : ∃ j_ : Int, (mx a1 0) = j_ := ⟨_, rfl⟩
                        replace H : (some ((t259.length : Int) == (mn x13_2 (ji88)))) = some r := by first | (rw [hji88] at H; exact H) | (simp only [hji88] at H ⊢; exact H)
                        have hji88_ : (if a1 < 0 then 0 else a1) = ji88 := hji88
                        obtain ⟨ji89, hji89⟩ : ∃ j_ : Int, (mn x13_2 (ji88)) = j_ := ⟨_, rfl⟩
                        replace H : (some ((t259.length : Int) == (ji89))) = some r := by first | (rw [hji89] at H; exact H) | (simp only [hji89] at H ⊢; exact H)
                        have hji89_ : (if (ji88) < x13_2 then (ji88) else x13_2) = ji89 := hji89
                        obtain rfl := Option.some.inj H
                        go_wp2
                        go_ret
                        exact ⟨by first | rfl | (simp [errW_none, errW_some] <;> rfl) | (simp only [← hji5, ← hji88, ← hji89]; first | rfl | (simp [errW_none, errW_some] <;> rfl)) | (simp [*, errW_none, errW_some] <;> rfl), by repeat (first | (with_reducible first | exact HB.out | apply below_alloc | apply pw_below_drewN | apply below_drew1) | exact HB.out)⟩
                      · replace c87 := Bool.eq_false_iff.mpr c87
                        subst c87
                        have H1 : (some false) = some r := by rw [if_neg (show ¬ (false = true) by decide)] at H; exact H
                        clear H
                        have H := H1
                        clear H1
                        obtain rfl := Option.some.inj H
                        go_wp2
                        go_ret
                        exact ⟨by first | rfl | (simp [errW_none, errW_some] <;> rfl) | (simp only [← hji5]; first | rfl | (simp [errW_none, errW_some] <;> rfl)) | (simp [*, errW_none, errW_some] <;> rfl), by repeat (first | (with_reducible first | exact HB.out | apply below_alloc | apply pw_below_drewN | apply below_drew1) | exact HB.out)⟩
        · rw [if_neg c10] at H
          exact absurd H (by simp)
      · rw [if_neg c9] at H
        exact absurd H (by simp)
    · rw [if_neg c7] at H
      exact absurd H (by simp)
  · rw [if_neg c6] at H
    exact absurd H (by simp)

/-- THE ONE PURE STATEMENT of tabulariumlaw22_PlaceBest. -/
def tabulariumlaw22_PlaceBest.Pure : Prop := ∀ (l0 : List (S26)) (a1 : Int) (l2 : List Int), (l0.length ≤ maxLen) → (l0.length * 24 ≤ 140737488351232) → (∀ y2_ ∈ l0, ((Lit.float .f64 y2_.f0).wf = true) ∧ ((Lit.float .f64 y2_.f1).wf = true) ∧ ((Lit.float .f64 y2_.f2).wf = true)) → ((Lit.int .i64 a1).wf = true) → (l2.length ≤ maxLen) → (l2.length * 8 ≤ 140737488351232) → (∀ y2_ ∈ l2, ((Lit.int .i64 y2_).wf = true)) → ∃ k, tabulariumlaw22_PlaceBest.f k l0 a1 l2 = some true
theorem tabulariumlaw22_PlaceBest.walk (P : tabulariumlaw22_PlaceBest.Pure) (A0 : Option Addr) (c0 : Nat) (l0 : List (S26)) (a1 : Int) (A2 : Option Addr) (c2 : Nat) (l2 : List Int) (w : World) (hr0 : Kd.C k26 w A0 l0.length l0) (hc0 : l0.length ≤ c0) (hr2 : Kd.C (Kd.int .i64) w A2 l2.length l2) (hc2 : l2.length ≤ c2) (g0 : l0.length ≤ maxLen) (g1 : l0.length * 24 ≤ 140737488351232) (g2 : ∀ y2_ ∈ l0, ((Lit.float .f64 y2_.f0).wf = true) ∧ ((Lit.float .f64 y2_.f1).wf = true) ∧ ((Lit.float .f64 y2_.f2).wf = true)) (g3 : (Lit.int .i64 a1).wf = true) (g4 : l2.length ≤ maxLen) (g5 : l2.length * 8 ≤ 140737488351232) (g6 : ∀ y2_ ∈ l2, ((Lit.int .i64 y2_).wf = true)) :
    Calls Try.prog 4 #[.slice A0 l0.length c0, .int .i64 a1, .slice A2 l2.length c2] w fun e w' => e = .returned (.bool true) ∧ Below w.heap.size w w' := by
  obtain ⟨k, h⟩ := P l0 a1 l2 g0 g1 g2 g3 g4 g5 g6
  refine (tabulariumlaw22_PlaceBest.calls k A0 c0 l0 a1 A2 c2 l2 true w hr0 hc0 hr2 hc2 h).mono ?_
  rintro e w' ⟨rfl, hd⟩
  exact ⟨rfl, hd⟩

end Go.Proofs.Ytnkihggdohigiaa.P
