/- The Go functions of this seat as plain Lean functions, and for each the proof that its call gives what the plain function gives. Printed by a program of this session. -/
import Derived.Test.YtabgoiacjfekpaaPz
import Derived.Test.YtabgoiacjfekpaaPx0
import Derived.Test.YtabgoiacjfekpaaPx2
import Derived.Test.YtabgoiacjfekpaaPx3
import Derived.Test.YtabgoiacjfekpaaPx4
import Derived.Test.YtabgoiacjfekpaaPx5
import Derived.Test.YtabgoiacjfekpaaPx10
import Derived.Test.YtabgoiacjfekpaaPx11
import Derived.Test.YtabgoiacjfekpaaPx12
import Derived.Test.YtabgoiacjfekpaaPx13
namespace Go.Proofs.Ytabgoiacjfekpaa.P
open Go.RowKit Go.Proofs.YtabgoiacjfekpaaW.PrintWords Go.Proofs.YtabgoiacjfekpaaW.PrintLast Go.Proofs.YtabgoiacjfekpaaW.PrintMore
attribute [local go_sem] max2_int min2_int max_two min_two max_three min_three max_four min_four   -- for this text's walks alone
set_option linter.unusedVariables false
set_option linter.unusedSimpArgs false

theorem nw37 {w W W' : World} {g : Nat} {f0 : Nat} {f1 : Bool} {f2 : Int} {f3 : Int} {x0 : Nat} {x1 : Bool} {x2 : Int} {x3 : Int} (h : Aside0 (IsS37 w W g f0 f1 f2 f3)) (k : IsS37 w W g f0 f1 f2 f3 → IsS37 w W' g x0 x1 x2 x3 := by (intro h_; repeat (first | (with_reducible first | exact h_ | apply IsS37.alloc | apply IsS37.drewN | apply IsS37.drew | apply IsS37.set_0 | apply IsS37.set_1 | apply IsS37.set_2 | apply IsS37.set_3) | exact h_))) : IsS37 w W' g x0 x1 x2 x3 := k h.out
theorem kb37 {w V W W1 : World} {g g' : Nat} {f0 : Nat} {f1 : Bool} {f2 : Int} {f3 : Int} {x0 : Nat} {x1 : Bool} {x2 : Int} {x3 : Int} (h : Aside0 (IsS37 w V g' f0 f1 f2 f3)) (hk : KeepBut W W1 g none) (hn : g' ≠ g) (k : IsS37 w V g' f0 f1 f2 f3 → IsS37 w W g' x0 x1 x2 x3 := by (intro h_; repeat (first | (with_reducible first | exact h_ | apply IsS37.alloc | apply IsS37.drewN | apply IsS37.drew | apply IsS37.set_0 | apply IsS37.set_1 | apply IsS37.set_2 | apply IsS37.set_3) | exact h_))) : IsS37 w W1 g' x0 x1 x2 x3 := ⟨KeepBut.blk hk (And.left (k h.out)) hn (by simp), And.right (k h.out)⟩
theorem nw41 {w W W' : World} {g : Nat} {f0 : Nat} {f1 : Bool} {f2 : Int} {f3 : Int} {x0 : Nat} {x1 : Bool} {x2 : Int} {x3 : Int} (h : Aside0 (IsS41 w W g f0 f1 f2 f3)) (k : IsS41 w W g f0 f1 f2 f3 → IsS41 w W' g x0 x1 x2 x3 := by (intro h_; repeat (first | (with_reducible first | exact h_ | apply IsS41.alloc | apply IsS41.drewN | apply IsS41.drew | apply IsS41.set_0 | apply IsS41.set_1 | apply IsS41.set_2 | apply IsS41.set_3) | exact h_))) : IsS41 w W' g x0 x1 x2 x3 := k h.out
theorem kb41 {w V W W1 : World} {g g' : Nat} {f0 : Nat} {f1 : Bool} {f2 : Int} {f3 : Int} {x0 : Nat} {x1 : Bool} {x2 : Int} {x3 : Int} (h : Aside0 (IsS41 w V g' f0 f1 f2 f3)) (hk : KeepBut W W1 g none) (hn : g' ≠ g) (k : IsS41 w V g' f0 f1 f2 f3 → IsS41 w W g' x0 x1 x2 x3 := by (intro h_; repeat (first | (with_reducible first | exact h_ | apply IsS41.alloc | apply IsS41.drewN | apply IsS41.drew | apply IsS41.set_0 | apply IsS41.set_1 | apply IsS41.set_2 | apply IsS41.set_3) | exact h_))) : IsS41 w W1 g' x0 x1 x2 x3 := ⟨KeepBut.blk hk (And.left (k h.out)) hn (by simp), And.right (k h.out)⟩

theorem tabulariumref21_Safe_Missing.same_jl : ∀ (k : Nat), (∀ x a b c d r a' b' c' d', tabulariumref21_Safe_Missing.j0 k x a b c d = some (r, a', b', c', d') → a' = a ∧ b' = b ∧ c' = c ∧ d' = d) ∧ (∀ x y a b c d r a' b' c' d', tabulariumref21_Safe_Missing.l0 k x y a b c d = some (r, a', b', c', d') → a' = a ∧ b' = b ∧ c' = c ∧ d' = d)
  | 0 => ⟨fun _ _ _ _ _ _ _ _ _ _ h => by simp [tabulariumref21_Safe_Missing.j0] at h, fun _ _ _ _ _ _ _ _ _ _ _ h => by simp [tabulariumref21_Safe_Missing.l0] at h⟩
  | k + 1 => by
    obtain ⟨_, ih⟩ := tabulariumref21_Safe_Missing.same_jl k
    refine ⟨fun x a b c d r a' b' c' d' h => ?_, fun x y a b c d r a' b' c' d' h => ?_⟩
    · rw [tabulariumref21_Safe_Missing.j0] at h
      split at h
      · injection h with h
        injection h with h1 h
        injection h with h2 h
        injection h with h3 h
        injection h with h4 h5
        exact ⟨h2.symm, h3.symm, h4.symm, h5.symm⟩
      · exact ih _ _ _ _ _ _ _ _ _ _ _ h
    · rw [tabulariumref21_Safe_Missing.l0] at h
      split at h
      · obtain ⟨t, _, h⟩ := Option.bind_eq_some_iff.mp h
        split at h
        · exact ih _ _ _ _ _ _ _ _ _ _ _ h
        · exact ih _ _ _ _ _ _ _ _ _ _ _ h
      · injection h with h
        injection h with h1 h
        injection h with h2 h
        injection h with h3 h
        injection h with h4 h5
        exact ⟨h2.symm, h3.symm, h4.symm, h5.symm⟩
theorem tabulariumref21_Safe_Missing.same {k : Nat} {a : Nat} {b : Bool} {c d r : Int} {a' : Nat} {b' : Bool} {c' d' : Int} (h : tabulariumref21_Safe_Missing.f k a b c d = some (r, a', b', c', d')) : a' = a ∧ b' = b ∧ c' = c ∧ d' = d := by
  unfold tabulariumref21_Safe_Missing.f at h
  split at h
  · exact (tabulariumref21_Safe_Missing.same_jl k).1 _ _ _ _ _ _ _ _ _ _ h
  · exact (tabulariumref21_Safe_Missing.same_jl k).1 _ _ _ _ _ _ _ _ _ _ h

/-! ### tabulariumlaw21_SafePlays: function 6 -/
mutual
def tabulariumlaw21_SafePlays.l0 : Nat → List Int → List Int → Bool → Int → Nat → Bool → Int → Int → Nat → Bool → Int → Int → Option (Bool)
  | 0, _, _, _, _, _, _, _, _, _, _, _, _ => none
  | k + 1, x1, x2, x7, x10, x338000, x338001, x338002, x338003, x343000, x343001, x343002, x343003 => if x10 < (x1.length : Int) then (if x10 < (x2.length : Int) then (tabulariumlaw21_SafePlays.j1 k x1 x2 x7 x10 (decide (x10 < 50)) x338000 x338001 x338002 x338003 x343000 x343001 x343002 x343003) else (tabulariumlaw21_SafePlays.j1 k x1 x2 x7 x10 false x338000 x338001 x338002 x338003 x343000 x343001 x343002 x343003)) else (tabulariumlaw21_SafePlays.j1 k x1 x2 x7 x10 false x338000 x338001 x338002 x338003 x343000 x343001 x343002 x343003)
def tabulariumlaw21_SafePlays.j1 : Nat → List Int → List Int → Bool → Int → Bool → Nat → Bool → Int → Int → Nat → Bool → Int → Int → Option (Bool)
  | 0, _, _, _, _, _, _, _, _, _, _, _, _, _ => none
  | k + 1, x1, x2, x7, x10, x35, x338000, x338001, x338002, x338003, x343000, x343001, x343002, x343003 => if x35 = true then (if 0 ≤ x10 then (if x10 < (x1.length : Int) then (if x10 < (x2.length : Int) then ((safe_Safe_See.f x338000 x338001 x338002 x338003 (rd x1 x10) (rd x2 x10)).bind fun bt345 => ((tabulariumref21_Safe_See.f x343000 x343001 x343002 x343003 (rd x1 x10) (rd x2 x10)).bind fun bt352 => ((safe_Safe_Seen.f bt345.2.1 bt345.2.2.1 bt345.2.2.2.1 bt345.2.2.2.2).bind fun bt357 => (if (bt345.1 != bt352.1) = true then (some false) else ((safe_Safe_On.f bt357.2.2.1 bt357.2.2.2.1 bt357.2.2.2.2.1 bt357.2.2.2.2.2).bind fun bt363 => (if (bt363.1 != (!bt352.2.2.1)) = true then (some false) else (if bt357.1 = bt352.2.2.2.1 then (if bt357.2.1 = bt352.2.2.2.2 then ((safe_Safe_Missing.f k bt363.2.1 bt363.2.2.1 bt363.2.2.2.1 bt363.2.2.2.2).bind fun bt368 => ((tabulariumref21_Safe_Missing.f k bt352.2.1 bt352.2.2.1 bt352.2.2.2.1 bt352.2.2.2.2).bind fun bt373 => (if bt368.1 = bt373.1 then (tabulariumlaw21_SafePlays.l0 k x1 x2 x7 (wrap64 (x10 + 1)) bt368.2.1 bt368.2.2.1 bt368.2.2.2.1 bt368.2.2.2.2 bt373.2.1 bt373.2.2.1 bt373.2.2.2.1 bt373.2.2.2.2) else (some false)))) else (some false)) else (some false)))))))) else (none)) else (none)) else (none)) else (some x7)
end
def tabulariumlaw21_SafePlays.f (k : Nat) (a0 : Nat) (l1 : List Int) (l2 : List Int) : Option (Bool) := (tabulariumlaw21_examples.f k).bind fun t332 => ((safe_New.f k a0).bind fun bt333 => ((tabulariumref21_New.f k a0).bind fun bt338 => (tabulariumlaw21_SafePlays.l0 k l1 l2 t332 0 bt333.1 bt333.2.1 bt333.2.2.1 bt333.2.2.2 bt338.1 bt338.2.1 bt338.2.2.1 bt338.2.2.2)))
theorem tabulariumlaw21_SafePlays.mono_l : ∀ k, (∀ y0 y1 y2 y3 y4 y5 y6 y7 y8 y9 y10 y11, LeO (tabulariumlaw21_SafePlays.l0 k y0 y1 y2 y3 y4 y5 y6 y7 y8 y9 y10 y11) (tabulariumlaw21_SafePlays.l0 (k + 1) y0 y1 y2 y3 y4 y5 y6 y7 y8 y9 y10 y11)) ∧ (∀ y0 y1 y2 y3 y4 y5 y6 y7 y8 y9 y10 y11 y12, LeO (tabulariumlaw21_SafePlays.j1 k y0 y1 y2 y3 y4 y5 y6 y7 y8 y9 y10 y11 y12) (tabulariumlaw21_SafePlays.j1 (k + 1) y0 y1 y2 y3 y4 y5 y6 y7 y8 y9 y10 y11 y12))
  | 0 => ⟨fun _ _ _ _ _ _ _ _ _ _ _ _ r h => by simp [tabulariumlaw21_SafePlays.l0] at h, fun _ _ _ _ _ _ _ _ _ _ _ _ _ r h => by simp [tabulariumlaw21_SafePlays.j1] at h⟩
  | k + 1 => by
    obtain ⟨ih0, ih1⟩ := tabulariumlaw21_SafePlays.mono_l k
    refine ⟨?_, ?_⟩
    · intro y0 y1 y2 y3 y4 y5 y6 y7 y8 y9 y10 y11
      unfold tabulariumlaw21_SafePlays.l0
      repeat' first
      | (with_reducible exact ih0 _ _ _ _ _ _ _ _ _ _ _ _)
      | (with_reducible exact ih1 _ _ _ _ _ _ _ _ _ _ _ _ _)
      | (with_reducible exact safe_New.mono _ _)
      | (with_reducible exact safe_Safe_Missing.mono _ _ _ _ _)
      | (with_reducible exact tabulariumlaw21_examples.mono _)
      | (with_reducible exact tabulariumref21_New.mono _ _)
      | (with_reducible exact tabulariumref21_Safe_Missing.mono _ _ _ _ _)
      | (with_reducible exact LeO.refl _)
      | (with_reducible exact LeO.none _)
      | (with_reducible refine LeO.ite ?_ ?_)
      | (with_reducible refine LeO.bind ?_ (fun _ => ?_))
      | exact ih0 _ _ _ _ _ _ _ _ _ _ _ _
      | exact ih1 _ _ _ _ _ _ _ _ _ _ _ _ _
      | exact safe_New.mono _ _
      | exact safe_Safe_Missing.mono _ _ _ _ _
      | exact tabulariumlaw21_examples.mono _
      | exact tabulariumref21_New.mono _ _
      | exact tabulariumref21_Safe_Missing.mono _ _ _ _ _
      | exact LeO.none _
      | refine LeO.ite ?_ ?_
      | refine LeO.bind ?_ (fun _ => ?_)
    · intro y0 y1 y2 y3 y4 y5 y6 y7 y8 y9 y10 y11 y12
      unfold tabulariumlaw21_SafePlays.j1
      repeat' first
      | (with_reducible exact ih0 _ _ _ _ _ _ _ _ _ _ _ _)
      | (with_reducible exact ih1 _ _ _ _ _ _ _ _ _ _ _ _ _)
      | (with_reducible exact safe_New.mono _ _)
      | (with_reducible exact safe_Safe_Missing.mono _ _ _ _ _)
      | (with_reducible exact tabulariumlaw21_examples.mono _)
      | (with_reducible exact tabulariumref21_New.mono _ _)
      | (with_reducible exact tabulariumref21_Safe_Missing.mono _ _ _ _ _)
      | (with_reducible exact LeO.refl _)
      | (with_reducible exact LeO.none _)
      | (with_reducible refine LeO.ite ?_ ?_)
      | (with_reducible refine LeO.bind ?_ (fun _ => ?_))
      | exact ih0 _ _ _ _ _ _ _ _ _ _ _ _
      | exact ih1 _ _ _ _ _ _ _ _ _ _ _ _ _
      | exact safe_New.mono _ _
      | exact safe_Safe_Missing.mono _ _ _ _ _
      | exact tabulariumlaw21_examples.mono _
      | exact tabulariumref21_New.mono _ _
      | exact tabulariumref21_Safe_Missing.mono _ _ _ _ _
      | exact LeO.none _
      | refine LeO.ite ?_ ?_
      | refine LeO.bind ?_ (fun _ => ?_)
theorem tabulariumlaw21_SafePlays.mono : ∀ a0 a1 a2 k, LeO (tabulariumlaw21_SafePlays.f k a0 a1 a2) (tabulariumlaw21_SafePlays.f (k + 1) a0 a1 a2) := by
  intro a0 a1 a2 k
  obtain ⟨ih0, ih1⟩ := tabulariumlaw21_SafePlays.mono_l k
  unfold tabulariumlaw21_SafePlays.f
  repeat' first
      | (with_reducible exact ih0 _ _ _ _ _ _ _ _ _ _ _ _)
      | (with_reducible exact ih1 _ _ _ _ _ _ _ _ _ _ _ _ _)
      | (with_reducible exact safe_New.mono _ _)
      | (with_reducible exact safe_Safe_Missing.mono _ _ _ _ _)
      | (with_reducible exact tabulariumlaw21_examples.mono _)
      | (with_reducible exact tabulariumref21_New.mono _ _)
      | (with_reducible exact tabulariumref21_Safe_Missing.mono _ _ _ _ _)
      | (with_reducible exact LeO.refl _)
      | (with_reducible exact LeO.none _)
      | (with_reducible refine LeO.ite ?_ ?_)
      | (with_reducible refine LeO.bind ?_ (fun _ => ?_))
      | exact ih0 _ _ _ _ _ _ _ _ _ _ _ _
      | exact ih1 _ _ _ _ _ _ _ _ _ _ _ _ _
      | exact safe_New.mono _ _
      | exact safe_Safe_Missing.mono _ _ _ _ _
      | exact tabulariumlaw21_examples.mono _
      | exact tabulariumref21_New.mono _ _
      | exact tabulariumref21_Safe_Missing.mono _ _ _ _ _
      | exact LeO.none _
      | refine LeO.ite ?_ ?_
      | refine LeO.bind ?_ (fun _ => ?_)
def tabulariumlaw21_SafePlays.T9 : Bool × List (List Nat × List Nat) := (true, [([], []), ([], []), ([], []), ([1, 2], [1, 2]), ([3], [3]), ([], []), ([], []), ([5, 6], [5, 6]), ([7], [7]), ([0, 4, 8], [0, 4, 8]), ([9, 9, 0, 1, 2, 3, 4, 5, 6, 7, 8, 9], [9])])
def tabulariumlaw21_SafePlays.B9 : List Nat := [0, 0, 0, 6, 14, 0, 0, 96, 224, 511, 1023]
theorem tabulariumlaw21_SafePlays.tab9 : rtab .any (opsOf Try.f6 9) = tabulariumlaw21_SafePlays.T9 := by kernel_rfl
theorem tabulariumlaw21_SafePlays.bits9 : waitsOk tabulariumlaw21_SafePlays.T9.2 tabulariumlaw21_SafePlays.B9 = true := by kernel_rfl
def tabulariumlaw21_SafePlays.T10 : Bool × List (List Nat × List Nat) := (true, [([], []), ([], []), ([], []), ([1, 2], [1, 2]), ([3], [3]), ([], []), ([], []), ([5, 6], [5, 6]), ([7], [7]), ([0, 4, 8], [0, 4, 8]), ([9, 9, 0, 1, 2, 3, 4, 5, 6, 7, 8, 9], [9])])
def tabulariumlaw21_SafePlays.B10 : List Nat := [0, 0, 0, 6, 14, 0, 0, 96, 224, 511, 1023]
theorem tabulariumlaw21_SafePlays.tab10 : rtab .any (opsOf Try.f6 10) = tabulariumlaw21_SafePlays.T10 := by kernel_rfl
theorem tabulariumlaw21_SafePlays.bits10 : waitsOk tabulariumlaw21_SafePlays.T10.2 tabulariumlaw21_SafePlays.B10 = true := by kernel_rfl
def tabulariumlaw21_SafePlays.T12 : Bool × List (List Nat × List Nat) := (true, [([], []), ([], []), ([0, 1], [0, 1]), ([2], [2]), ([3], [3]), ([4, 3, 3], [3, 4]), ([3], [3]), ([6, 3], [3, 6]), ([7, 3], [3, 7]), ([8, 3], [3, 8]), ([9, 3], [3, 9]), ([5, 10, 3], [3, 5, 10]), ([3, 11], [3, 11]), ([12, 5], [12]), ([13], [13]), ([13], [13]), ([15, 13], [13, 15]), ([16, 13], [13, 16]), ([17, 13], [13, 17]), ([14, 18, 13], [13, 14, 18]), ([13, 19], [13, 19]), ([20, 13], [20]), ([21], [21]), ([21], [21]), ([23, 21], [21, 23]), ([24, 21], [21, 24]), ([25, 21], [21, 25]), ([22, 26, 21], [21, 22, 26]), ([21, 27], [21, 27]), ([28, 21], [28]), ([29], [29]), ([30, 29, 29], [29, 30]), ([29], [29]), ([32, 31, 29], [29, 32]), ([31, 33, 29], [29, 31, 33]), ([29, 34], [29, 34])])
def tabulariumlaw21_SafePlays.B12 : List Nat := [0, 0, 3, 7, 15, 31, 15, 79, 207, 463, 975, 2047, 4095, 8191, 16383, 16383, 49151, 114687, 245759, 524287, 1048575, 2097151, 4194303, 4194303, 12582911, 29360127, 62914559, 134217727, 268435455, 536870911, 1073741823, 2147483647, 1073741823, 8589934591, 17179869183, 34359738367]
theorem tabulariumlaw21_SafePlays.tab12 : rtab .any (opsOf Try.f6 12) = tabulariumlaw21_SafePlays.T12 := by kernel_rfl
theorem tabulariumlaw21_SafePlays.bits12 : waitsOk tabulariumlaw21_SafePlays.T12.2 tabulariumlaw21_SafePlays.B12 = true := by kernel_rfl
set_option maxHeartbeats 8000000 in
set_option maxRecDepth 100000 in
theorem tabulariumlaw21_SafePlays.calls (k : Nat) (a0 : Nat) (A1 : Option Addr) (c1 : Nat) (l1 : List Int) (A2 : Option Addr) (c2 : Nat) (l2 : List Int) (r : Bool) (w : World) (hr1 : Kd.C (Kd.int .i64) w A1 l1.length l1) (hc1 : l1.length ≤ c1) (hr2 : Kd.C (Kd.int .i64) w A2 l2.length l2) (hc2 : l2.length ≤ c2) (h : tabulariumlaw21_SafePlays.f k a0 l1 l2 = some r) :
    Calls Try.prog 6 #[.float .f64 a0, .slice A1 l1.length c1, .slice A2 l2.length c2] w fun e w' => e = .returned (.bool r) ∧ Below w.heap.size w w' := by
  have HR1 := Aside0.mk hr1
  have HC1 := Aside0.mk hc1
  clear hr1 hc1
  have HR2 := Aside0.mk hr2
  have HC2 := Aside0.mk hc2
  clear hr2 hc2
  have HB := Aside0.mk (Below.refl w.heap.size w)
  have H : ((tabulariumlaw21_examples.f k).bind fun t332 => ((safe_New.f k a0).bind fun bt333 => ((tabulariumref21_New.f k a0).bind fun bt338 => (tabulariumlaw21_SafePlays.l0 k l1 l2 t332 0 bt333.1 bt333.2.1 bt333.2.2.1 bt333.2.2.2 bt338.1 bt338.2.1 bt338.2.2.1 bt338.2.2.2)))) = some r := h
  clear h
  replace H := Option.bind_eq_some_iff.mp H
  obtain ⟨t332, A40, H⟩ := H
  replace H : ((safe_New.f k a0).bind fun bt333 => ((tabulariumref21_New.f k a0).bind fun bt338 => (tabulariumlaw21_SafePlays.l0 k l1 l2 t332 0 bt333.1 bt333.2.1 bt333.2.2.1 bt333.2.2.2 bt338.1 bt338.2.1 bt338.2.2.1 bt338.2.2.2))) = some r := H
  have A4 := Aside0.mk A40
  clear A40
  replace H := Option.bind_eq_some_iff.mp H
  obtain ⟨⟨t333, t334, t335, t336⟩, A50, H⟩ := H
  replace H : ((tabulariumref21_New.f k a0).bind fun bt338 => (tabulariumlaw21_SafePlays.l0 k l1 l2 t332 0 t333 t334 t335 t336 bt338.1 bt338.2.1 bt338.2.2.1 bt338.2.2.2)) = some r := H
  have A5 := Aside0.mk A50
  clear A50
  replace H := Option.bind_eq_some_iff.mp H
  obtain ⟨⟨t338, t339, t340, t341⟩, A60, H⟩ := H
  replace H : (tabulariumlaw21_SafePlays.l0 k l1 l2 t332 0 t333 t334 t335 t336 t338 t339 t340 t341) = some r := H
  have A6 := Aside0.mk A60
  clear A60
  have H' := Aside0.mk H
  clear H
  go_enter Try.func6, Try.ntmps6
  go_wp2_with (first | ((with_reducible refine gate_callee (f := 7) rfl ?_); refine goesL_ (some 15) rfl rfl Try.func7 (by kernel_rfl) rfl #[] rfl (by (try simp only [List.map_toArray, List.map_cons, List.map_nil]); first | done | rfl | (simp only [List.length_drop, List.length_take]; rfl)) ?_; (with_reducible refine (tabulariumlaw21_examples.calls k  t332 _ A4.out).mono ?_); rintro e w7 ⟨rfl, hb⟩; refine ⟨_, rfl, ?_⟩; have n0_ := Aside0.mk (below_step (by repeat (first | (with_reducible first | exact HB.out | apply below_alloc | apply pw_below_drewN | apply below_drew1) | exact HB.out)) hb); clear HB; have HB := n0_; clear n0_; (try clear hb); (try clear hb2); (try clear hk); (try clear hi)) | ((with_reducible refine gate_callee (f := 8) rfl ?_); refine goesL_ (some 17) rfl rfl Try.func8 (by kernel_rfl) rfl #[.float .f64 a0] rfl (by (try simp only [List.map_toArray, List.map_cons, List.map_nil]); first | done | rfl | (simp only [List.length_drop, List.length_take]; rfl)) ?_; (with_reducible refine (safe_New.calls k a0 t333 t334 t335 t336 w _ ?side1 A5.out).mono ?_); (case side1 => exact bw0 HB); rintro e w8 ⟨g337, rfl, hi, hb, hb2⟩; refine ⟨_, rfl, ?_⟩; have n0_ := Aside0.mk (hb); have n1_ := Aside0.mk (hi); clear HB; have HB := n0_; have HI337 := n1_; clear n0_ n1_; (try clear hb); (try clear hb2); (try clear hk); (try clear hi)) | ((with_reducible refine gate_callee (f := 12) rfl ?_); refine goesL_ (some 19) rfl rfl Try.func12 (by kernel_rfl) rfl #[.float .f64 a0] rfl (by (try simp only [List.map_toArray, List.map_cons, List.map_nil]); first | done | rfl | (simp only [List.length_drop, List.length_take]; rfl)) ?_; (with_reducible refine (tabulariumref21_New.calls k a0 t338 t339 t340 t341 ?wz9 _ ?side1 A6.out).mono ?_); (case side1 => exact Below.refl _ _); rintro e w10 ⟨g342, rfl, hi, hb, hb2⟩; refine ⟨_, rfl, ?_⟩; have n0_ := Aside0.mk (IsS41.below (nw41 HI337) hb2); have n1_ := Aside0.mk (below_step (by repeat (first | (with_reducible first | exact HB.out | apply below_alloc | apply pw_below_drewN | apply below_drew1 | refine below_set ?_ (IsS41.ge HI337.out)) | exact HB.out)) hb2); have n2_ := Aside0.mk ((show IsS37 w _ _ t338 t339 t340 t341 from ⟨hi.1, Nat.le_trans (below_size (by repeat (first | (with_reducible first | exact HB.out | apply below_alloc | apply pw_below_drewN | apply below_drew1 | refine below_set ?_ (IsS41.ge HI337.out)) | exact HB.out))) hi.2⟩)); have n3_ := Aside0.mk ((Nat.ne_of_lt (Nat.lt_of_lt_of_le (IsS41.lt (show IsS41 w _ g337 t333 t334 t335 t336 from nw41 HI337)) hi.2) : g337 ≠ g342)); have n4_ := Aside0.mk ((Nat.ne_of_gt (Nat.lt_of_lt_of_le (IsS41.lt (show IsS41 w _ g337 t333 t334 t335 t336 from nw41 HI337)) hi.2) : g342 ≠ g337)); clear HI337; clear HB; have HI337 := n0_; have HB := n1_; have HI342 := n2_; have NS337_342 := n3_; have NS342_337 := n4_; clear n0_ n1_ n2_ n3_ n4_; (try clear hb); (try clear hb2); (try clear hk); (try clear hi)))
  go_loopg [10] k (fun kq v10 w' => ∃ (x10_1 : Int) (x338000_1 : Nat) (x338001_1 : Bool) (x338002_1 : Int) (x338003_1 : Int) (x343000_1 : Nat) (x343001_1 : Bool) (x343002_1 : Int) (x343003_1 : Int), v10 = .int .i64 x10_1 ∧ Aside0 (tabulariumlaw21_SafePlays.l0 kq l1 l2 t332 x10_1 x338000_1 x338001_1 x338002_1 x338003_1 x343000_1 x343001_1 x343002_1 x343003_1 = some r) ∧ Aside0 (kq ≤ k) ∧ Aside0 (IsS41 w w' g337 x338000_1 x338001_1 x338002_1 x338003_1) ∧ Aside0 (IsS37 w w' g342 x343000_1 x343001_1 x343002_1 x343003_1) ∧ Aside0 (Below w.heap.size w w'))
  case atStart => exact ⟨(0), (t333), (t334), (t335), (t336), (t338), (t339), (t340), (t341), (by first | rfl | (simp; done) | (simp [*]; done)), H', ⟨Nat.le_refl _⟩, ⟨nw41 HI337⟩, ⟨nw37 HI342⟩, ⟨by repeat (first | (with_reducible first | exact HB.out | apply below_alloc | apply pw_below_drewN | apply below_drew1 | refine below_set ?_ (IsS41.ge HI337.out) | refine below_set ?_ (IsS37.ge HI342.out)) | exact HB.out)⟩⟩
  case round =>
    clear H'
    try clear c1
    try clear c2
    try clear p2
    try clear c6
    try clear c7
    try clear c8
    obtain ⟨x10_1, x338000_1, x338001_1, x338002_1, x338003_1, x343000_1, x343001_1, x343002_1, x343003_1, rfl, HA, HK1, HI337, HI342, HB⟩ := hrel
    cases gk with
    | zero => exact absurd HA.out (by simp [tabulariumlaw21_SafePlays.l0])
    | succ k1 =>
      have H := HA.out
      clear HA
      simp only [tabulariumlaw21_SafePlays.l0] at H
      have HC11 := Aside0.mk H
      clear H
      go_upto_region 7 with (fail)
      go_cut [35] (fun v35 wc => ∃ (kq : Nat) (x35_10 : Bool), v35 = .bool x35_10 ∧ Aside0 (tabulariumlaw21_SafePlays.j1 kq l1 l2 t332 x10_1 x35_10 x338000_1 x338001_1 x338002_1 x338003_1 x343000_1 x343001_1 x343002_1 x343003_1 = some r) ∧ Aside0 (kq ≤ k1) ∧ Aside0 (IsS41 w wc g337 x338000_1 x338001_1 x338002_1 x338003_1) ∧ Aside0 (IsS37 w wc g342 x343000_1 x343001_1 x343002_1 x343003_1) ∧ Aside0 (Below w.heap.size w wc))
      case first =>
        have H := HC11.out
        clear HC11
        by_cases c12 : x10_1 < (l1.length : Int)
        · rw [if_pos c12] at H
          have c12b0 : decide (x10_1 < (l1.length : Int)) = true := decide_eq_true c12
          clear c12
          (first | rw [c12b0] | (simp only [i64_w, i32_w]; rw [c12b0]) | skip)
          by_cases c13 : x10_1 < (l2.length : Int)
          · rw [if_pos c13] at H
            have c13b0 : decide (x10_1 < (l2.length : Int)) = true := decide_eq_true c13
            clear c13
            have H' := Aside0.mk H
            clear H
            go_wp2
            go_meet
            case rel => exact ⟨_, (decide (x10_1 < 50)), (by first | rfl | (simp; done) | (simp [*]; done)), H', ⟨by have := HK1.out; first | omega | exact Nat.le_refl _⟩, ⟨nw41 HI337⟩, ⟨nw37 HI342⟩, ⟨by repeat (first | (with_reducible first | exact HB.out | apply below_alloc | apply pw_below_drewN | apply below_drew1 | refine below_set ?_ (IsS41.ge HI337.out) | refine below_set ?_ (IsS37.ge HI342.out)) | exact HB.out)⟩⟩
          · rw [if_neg c13] at H
            have c13b0 : decide (x10_1 < (l2.length : Int)) = false := decide_eq_false c13
            clear c13
            have H' := Aside0.mk H
            clear H
            go_wp2
            go_meet
            case rel => exact ⟨_, (false), (by first | rfl | (simp; done) | (simp [*]; done)), H', ⟨by have := HK1.out; first | omega | exact Nat.le_refl _⟩, ⟨nw41 HI337⟩, ⟨nw37 HI342⟩, ⟨by repeat (first | (with_reducible first | exact HB.out | apply below_alloc | apply pw_below_drewN | apply below_drew1 | refine below_set ?_ (IsS41.ge HI337.out) | refine below_set ?_ (IsS37.ge HI342.out)) | exact HB.out)⟩⟩
        · rw [if_neg c12] at H
          have c12b0 : decide (x10_1 < (l1.length : Int)) = false := decide_eq_false c12
          clear c12
          (first | rw [c12b0] | (simp only [i64_w, i32_w]; rw [c12b0]) | skip)
          have H' := Aside0.mk H
          clear H
          go_wp2
          go_meet
          case rel => exact ⟨_, (false), (by first | rfl | (simp; done) | (simp [*]; done)), H', ⟨by have := HK1.out; first | omega | exact Nat.le_refl _⟩, ⟨nw41 HI337⟩, ⟨nw37 HI342⟩, ⟨by repeat (first | (with_reducible first | exact HB.out | apply below_alloc | apply pw_below_drewN | apply below_drew1 | refine below_set ?_ (IsS41.ge HI337.out) | refine below_set ?_ (IsS37.ge HI342.out)) | exact HB.out)⟩⟩
      case rest =>
        clear HC11
        try clear c1
        try clear c2
        try clear p2
        try clear c6
        try clear c7
        try clear c8
        try clear c12
        try clear c12b0
        try clear c13
        try clear c13b0
        try clear p2
        obtain ⟨kq, x35_10, rfl, HA, HJ10, HI337, HI342, HB⟩ := hcut
        cases kq with
        | zero => exact absurd HA.out (by simp [tabulariumlaw21_SafePlays.j1])
        | succ kj10 =>
          have H := HA.out
          clear HA
          simp only [tabulariumlaw21_SafePlays.j1] at H
          by_cases c14 : x35_10 = true
          · subst c14
            have H1 : (if 0 ≤ x10_1 then (if x10_1 < (l1.length : Int) then (if x10_1 < (l2.length : Int) then ((safe_Safe_See.f x338000_1 x338001_1 x338002_1 x338003_1 (rd l1 x10_1) (rd l2 x10_1)).bind fun bt345 => ((tabulariumref21_Safe_See.f x343000_1 x343001_1 x343002_1 x343003_1 (rd l1 x10_1) (rd l2 x10_1)).bind fun bt352 => ((safe_Safe_Seen.f bt345.2.1 bt345.2.2.1 bt345.2.2.2.1 bt345.2.2.2.2).bind fun bt357 => (if (bt345.1 != bt352.1) = true then (some false) else ((safe_Safe_On.f bt357.2.2.1 bt357.2.2.2.1 bt357.2.2.2.2.1 bt357.2.2.2.2.2).bind fun bt363 => (if (bt363.1 != (!bt352.2.2.1)) = true then (some false) else (if bt357.1 = bt352.2.2.2.1 then (if bt357.2.1 = bt352.2.2.2.2 then ((safe_Safe_Missing.f kj10 bt363.2.1 bt363.2.2.1 bt363.2.2.2.1 bt363.2.2.2.2).bind fun bt368 => ((tabulariumref21_Safe_Missing.f kj10 bt352.2.1 bt352.2.2.1 bt352.2.2.2.1 bt352.2.2.2.2).bind fun bt373 => (if bt368.1 = bt373.1 then (tabulariumlaw21_SafePlays.l0 kj10 l1 l2 t332 (wrap64 (x10_1 + 1)) bt368.2.1 bt368.2.2.1 bt368.2.2.2.1 bt368.2.2.2.2 bt373.2.1 bt373.2.2.1 bt373.2.2.2.1 bt373.2.2.2.2) else (some false)))) else (some false)) else (some false)))))))) else (none)) else (none)) else (none)) = some r := by rw [if_pos rfl] at H; exact H
            clear H
            have H := H1
            clear H1
            by_cases c15 : 0 ≤ x10_1
            · rw [if_pos c15] at H
              have c15b0 : decide (0 ≤ x10_1) = true := decide_eq_true c15
              clear c15
              by_cases c16 : x10_1 < (l1.length : Int)
              · rw [if_pos c16] at H
                have c16b0 : decide (x10_1 < (l1.length : Int)) = true := decide_eq_true c16
                clear c16
                by_cases c17 : x10_1 < (l2.length : Int)
                · rw [if_pos c17] at H
                  have c17b0 : decide (x10_1 < (l2.length : Int)) = true := decide_eq_true c17
                  clear c17
                  replace H := Option.bind_eq_some_iff.mp H
                  obtain ⟨⟨t345, t346, t347, t348, t349⟩, A180, H⟩ := H
                  replace H : ((tabulariumref21_Safe_See.f x343000_1 x343001_1 x343002_1 x343003_1 (rd l1 x10_1) (rd l2 x10_1)).bind fun bt352 => ((safe_Safe_Seen.f t346 t347 t348 t349).bind fun bt357 => (if (t345 != bt352.1) = true then (some false) else ((safe_Safe_On.f bt357.2.2.1 bt357.2.2.2.1 bt357.2.2.2.2.1 bt357.2.2.2.2.2).bind fun bt363 => (if (bt363.1 != (!bt352.2.2.1)) = true then (some false) else (if bt357.1 = bt352.2.2.2.1 then (if bt357.2.1 = bt352.2.2.2.2 then ((safe_Safe_Missing.f kj10 bt363.2.1 bt363.2.2.1 bt363.2.2.2.1 bt363.2.2.2.2).bind fun bt368 => ((tabulariumref21_Safe_Missing.f kj10 bt352.2.1 bt352.2.2.1 bt352.2.2.2.1 bt352.2.2.2.2).bind fun bt373 => (if bt368.1 = bt373.1 then (tabulariumlaw21_SafePlays.l0 kj10 l1 l2 t332 (wrap64 (x10_1 + 1)) bt368.2.1 bt368.2.2.1 bt368.2.2.2.1 bt368.2.2.2.2 bt373.2.1 bt373.2.2.1 bt373.2.2.2.1 bt373.2.2.2.2) else (some false)))) else (some false)) else (some false))))))) = some r := H
                  have A18 := Aside0.mk A180
                  clear A180
                  replace H := Option.bind_eq_some_iff.mp H
                  obtain ⟨⟨t352, t353, t354, t355, t356⟩, A190, H⟩ := H
                  replace H : ((safe_Safe_Seen.f t346 t347 t348 t349).bind fun bt357 => (if (t345 != t352) = true then (some false) else ((safe_Safe_On.f bt357.2.2.1 bt357.2.2.2.1 bt357.2.2.2.2.1 bt357.2.2.2.2.2).bind fun bt363 => (if (bt363.1 != (!t354)) = true then (some false) else (if bt357.1 = t355 then (if bt357.2.1 = t356 then ((safe_Safe_Missing.f kj10 bt363.2.1 bt363.2.2.1 bt363.2.2.2.1 bt363.2.2.2.2).bind fun bt368 => ((tabulariumref21_Safe_Missing.f kj10 t353 t354 t355 t356).bind fun bt373 => (if bt368.1 = bt373.1 then (tabulariumlaw21_SafePlays.l0 kj10 l1 l2 t332 (wrap64 (x10_1 + 1)) bt368.2.1 bt368.2.2.1 bt368.2.2.2.1 bt368.2.2.2.2 bt373.2.1 bt373.2.2.1 bt373.2.2.2.1 bt373.2.2.2.2) else (some false)))) else (some false)) else (some false)))))) = some r := H
                  have A19 := Aside0.mk A190
                  clear A190
                  replace H := Option.bind_eq_some_iff.mp H
                  obtain ⟨⟨t357, t358, t359, t360, t361, t362⟩, A200, H⟩ := H
                  replace H : (if (t345 != t352) = true then (some false) else ((safe_Safe_On.f t359 t360 t361 t362).bind fun bt363 => (if (bt363.1 != (!t354)) = true then (some false) else (if t357 = t355 then (if t358 = t356 then ((safe_Safe_Missing.f kj10 bt363.2.1 bt363.2.2.1 bt363.2.2.2.1 bt363.2.2.2.2).bind fun bt368 => ((tabulariumref21_Safe_Missing.f kj10 t353 t354 t355 t356).bind fun bt373 => (if bt368.1 = bt373.1 then (tabulariumlaw21_SafePlays.l0 kj10 l1 l2 t332 (wrap64 (x10_1 + 1)) bt368.2.1 bt368.2.2.1 bt368.2.2.2.1 bt368.2.2.2.2 bt373.2.1 bt373.2.2.1 bt373.2.2.2.1 bt373.2.2.2.2) else (some false)))) else (some false)) else (some false))))) = some r := H
                  have A20 := Aside0.mk A200
                  clear A200
                  by_cases c21 : (t345 != t352) = true
                  · rw [if_pos c21] at H
                    have c21b0 : (t345 != t352) = true := c21
                    (try (have c21b1 : decide (t345 = t352) = false := by first | simpa using c21 | (revert c21; generalize t345 = x_; generalize t352 = y_; revert x_ y_; decide)))
                    (try (have c21b2 : (t345 == t352) = false := by first | simpa using c21 | (revert c21; generalize t345 = x_; generalize t352 = y_; revert x_ y_; decide)))
                    (try (have c21b3 : ¬ (t345 = t352) := by first | simpa using c21 | (revert c21; generalize t345 = x_; generalize t352 = y_; revert x_ y_; decide)))
                    clear c21
                    obtain rfl := Option.some.inj H
                    try go_wp2
                    have n0_ := Aside0.mk (IsS41.drew HI337.out)
                    have n1_ := Aside0.mk (IsS37.drew HI342.out)
                    have n2_ := Aside0.mk (below_drew1 HB.out)
                    clear HI337; clear HI342; clear HB; have HI337 := n0_; have HI342 := n1_; have HB := n2_; clear n0_ n1_ n2_
                    have p343 : 0 ≤ (x10_1 : Int) := of_decide_eq_true (by first | (with_reducible assumption) | assumption)
                    have q343 : x10_1 < (l1.length : Int) := of_decide_eq_true (by first | (with_reducible assumption) | assumption)
                    obtain ⟨ad343, e343, hx343_0⟩ := Kd.at_int HR1.out x10_1 p343 q343
                    have hw343_0 := hx343_0
                    cases e343
                    replace hx343_0 := (HB.out.cell (World.block_lt_of_cell? w _ hx343_0)).trans hx343_0
                    replace p343 := eq_true p343; replace q343 := eq_true q343
                    have p344 : 0 ≤ (x10_1 : Int) := of_decide_eq_true (by first | (with_reducible assumption) | assumption)
                    have q344 : x10_1 < (l2.length : Int) := of_decide_eq_true (by first | (with_reducible assumption) | assumption)
                    obtain ⟨ad344, e344, hx344_0⟩ := Kd.at_int HR2.out x10_1 p344 q344
                    have hw344_0 := hx344_0
                    cases e344
                    replace hx344_0 := (HB.out.cell (World.block_lt_of_cell? w _ hx344_0)).trans hx344_0
                    replace p344 := eq_true p344; replace q344 := eq_true q344
                    refine start_ (n := 11) (S := fun w' => w'.cell? (ad343.add (x10_1).toNat) = some (.int .i64 (rd l1 x10_1)) ∧ w'.cell? (ad344.add (x10_1).toNat) = some (.int .i64 (rd l2 x10_1))) (ds := []) (nz 11 0) (by kernel_rfl) rfl (by kernel_rfl) ⟨((HB.out.cell (World.block_lt_of_cell? w _ hw343_0)).trans hw343_0), ((HB.out.cell (World.block_lt_of_cell? w _ hw344_0)).trans hw344_0)⟩ (fun hHeld => ?_); refine with_tabW tabulariumlaw21_SafePlays.tab9 tabulariumlaw21_SafePlays.bits9 (fun HT_ HW_ => ?_)
                    generalize wc.drew = w22 at HI337 HI342 HB hx343_0 hx344_0 hHeld ⊢
                    refine zp HT_ 0 38 1 ?_
                    refine zp HT_ 1 39 3 ?_
                    refine zp HT_ 2 40 7 ?_
                    refine zp HT_ 3 41 15 ?_
                    refine zp HT_ 5 43 47 ?_
                    refine zp HT_ 6 44 111 ?_
                    refine zp HT_ 7 45 239 ?_
                    refine zt HT_ HW_ hHeld 4 42 255 ?_
                    refine zt HT_ HW_ hHeld 8 46 511 ?_
                    refine zo HT_ 9 47 1023 (fun K hK => ?_)
                    refine zg Try.func9 #[.pointer (some ⟨g337, 0, none⟩), .int .i64 (rd l1 x10_1), .int .i64 (rd l2 x10_1)] ?_
                    with_reducible refine (safe_Safe_See.calls g337 x338000_1 x338001_1 x338002_1 x338003_1 (rd l1 x10_1) (rd l2 x10_1) t345 t346 t347 t348 t349 w _ ?side1 ?side2 A18.out).mono ?_
                    (case side1 => exact nw41 HI337)
                    (case side2 => exact bw2 HB (IsS41.ge HI337.out) (IsS37.ge HI342.out))
                    rintro e w23 ⟨rfl, hi, hb, hk⟩
                    refine ⟨_, rfl, ?_⟩
                    have n0_ := Aside0.mk (show IsS37 w _ g342 x343000_1 x343001_1 x343002_1 x343003_1 from kb37 HI342 hk NS342_337.out)
                    have n1_ := Aside0.mk (hb)
                    have n2_ := Aside0.mk (hi)
                    clear HI342; clear HB; clear HI337; have HI342 := n0_; have HB := n1_; have HI337 := n2_; clear n0_ n1_ n2_; (try clear hb); (try clear hb2); (try clear hk); (try clear hi)
                    refine hK.out _ _ ⟨((HB.out.cell (World.block_lt_of_cell? w _ hw343_0)).trans hw343_0), ((HB.out.cell (World.block_lt_of_cell? w _ hw344_0)).trans hw344_0)⟩ (fun hHeld => ?_)
                    clear hK K
                    refine zn ?_
                    refine zp HT_ 10 11 2047 ?_
                    refine done_ (done_of HT_.out (by kernel_rfl)) ?_
                    try go_wp2
                    have n0_ := Aside0.mk (IsS41.drew HI337.out)
                    have n1_ := Aside0.mk (IsS37.drew HI342.out)
                    have n2_ := Aside0.mk (below_drew1 HB.out)
                    clear HI337; clear HI342; clear HB; have HI337 := n0_; have HI342 := n1_; have HB := n2_; clear n0_ n1_ n2_
                    have p350 : 0 ≤ (x10_1 : Int) := of_decide_eq_true (by first | (with_reducible assumption) | assumption)
                    have q350 : x10_1 < (l1.length : Int) := of_decide_eq_true (by first | (with_reducible assumption) | assumption)
                    obtain ⟨ad350, e350, hx350_0⟩ := Kd.at_int HR1.out x10_1 p350 q350
                    have hw350_0 := hx350_0
                    obtain rfl : ad343 = ad350 := (by injection e350)
                    replace hx350_0 := (HB.out.cell (World.block_lt_of_cell? w _ hx350_0)).trans hx350_0
                    replace p350 := eq_true p350; replace q350 := eq_true q350
                    have p351 : 0 ≤ (x10_1 : Int) := of_decide_eq_true (by first | (with_reducible assumption) | assumption)
                    have q351 : x10_1 < (l2.length : Int) := of_decide_eq_true (by first | (with_reducible assumption) | assumption)
                    obtain ⟨ad351, e351, hx351_0⟩ := Kd.at_int HR2.out x10_1 p351 q351
                    have hw351_0 := hx351_0
                    obtain rfl : ad344 = ad351 := (by injection e351)
                    replace hx351_0 := (HB.out.cell (World.block_lt_of_cell? w _ hx351_0)).trans hx351_0
                    replace p351 := eq_true p351; replace q351 := eq_true q351
                    refine start_ (n := 11) (S := fun w' => w'.cell? (ad343.add (x10_1).toNat) = some (.int .i64 (rd l1 x10_1)) ∧ w'.cell? (ad344.add (x10_1).toNat) = some (.int .i64 (rd l2 x10_1))) (ds := []) (nz 11 0) (by kernel_rfl) rfl (by kernel_rfl) ⟨((HB.out.cell (World.block_lt_of_cell? w _ hw350_0)).trans hw350_0), ((HB.out.cell (World.block_lt_of_cell? w _ hw351_0)).trans hw351_0)⟩ (fun hHeld => ?_); refine with_tabW tabulariumlaw21_SafePlays.tab10 tabulariumlaw21_SafePlays.bits10 (fun HT_ HW_ => ?_)
                    generalize w23.drew = w24 at HI337 HI342 HB hx350_0 hx351_0 hHeld ⊢
                    refine zp HT_ 0 48 1 ?_
                    refine zp HT_ 1 49 3 ?_
                    refine zp HT_ 2 50 7 ?_
                    refine zp HT_ 3 51 15 ?_
                    refine zp HT_ 5 53 47 ?_
                    refine zp HT_ 6 54 111 ?_
                    refine zp HT_ 7 55 239 ?_
                    refine zt HT_ HW_ hHeld 4 52 255 ?_
                    refine zt HT_ HW_ hHeld 8 56 511 ?_
                    refine zo HT_ 9 57 1023 (fun K hK => ?_)
                    refine zg Try.func13 #[.pointer (some ⟨g342, 0, none⟩), .int .i64 (rd l1 x10_1), .int .i64 (rd l2 x10_1)] ?_
                    with_reducible refine (tabulariumref21_Safe_See.calls g342 x343000_1 x343001_1 x343002_1 x343003_1 (rd l1 x10_1) (rd l2 x10_1) t352 t353 t354 t355 t356 w _ ?side1 ?side2 A19.out).mono ?_
                    (case side1 => exact nw37 HI342)
                    (case side2 => exact bw2 HB (IsS41.ge HI337.out) (IsS37.ge HI342.out))
                    rintro e w25 ⟨rfl, hi, hb, hk⟩
                    refine ⟨_, rfl, ?_⟩
                    have n0_ := Aside0.mk (show IsS41 w _ g337 t346 t347 t348 t349 from kb41 HI337 hk NS337_342.out)
                    have n1_ := Aside0.mk (hb)
                    have n2_ := Aside0.mk (hi)
                    clear HI337; clear HB; clear HI342; have HI337 := n0_; have HB := n1_; have HI342 := n2_; clear n0_ n1_ n2_; (try clear hb); (try clear hb2); (try clear hk); (try clear hi)
                    refine hK.out _ _ ⟨((HB.out.cell (World.block_lt_of_cell? w _ hw350_0)).trans hw350_0), ((HB.out.cell (World.block_lt_of_cell? w _ hw351_0)).trans hw351_0)⟩ (fun hHeld => ?_)
                    clear hK K
                    refine zn ?_
                    refine zp HT_ 10 12 2047 ?_
                    refine done_ (done_of HT_.out (by kernel_rfl)) ?_
                    try go_wp2_with (first | ((with_reducible refine gate_callee (f := 14) rfl ?_); refine goesL_ (some 60) rfl rfl Try.func14 (by kernel_rfl) rfl #[.pointer (some ⟨g337, 0, none⟩)] rfl (by (try simp only [List.map_toArray, List.map_cons, List.map_nil]); first | done | rfl | (simp only [List.length_drop, List.length_take]; rfl)) ?_; (with_reducible refine (safe_Safe_Seen.calls g337 t346 t347 t348 t349 t357 t358 t359 t360 t361 t362 w _ ?side1 ?side2 A20.out).mono ?_); (case side1 => exact nw41 HI337); (case side2 => exact bw2 HB (IsS41.ge HI337.out) (IsS37.ge HI342.out)); rintro e w26 ⟨rfl, hi, hb, hk⟩; refine ⟨_, rfl, ?_⟩; have n0_ := Aside0.mk (show IsS37 w _ g342 t353 t354 t355 t356 from kb37 HI342 hk NS342_337.out); have n1_ := Aside0.mk (hb); have n2_ := Aside0.mk (hi); clear HI342; clear HB; clear HI337; have HI342 := n0_; have HB := n1_; have HI337 := n2_; clear n0_ n1_ n2_; (try clear hb); (try clear hb2); (try clear hk); (try clear hi)))
                    have n0_ := Aside0.mk (IsS41.drew HI337.out)
                    have n1_ := Aside0.mk (IsS37.drew HI342.out)
                    have n2_ := Aside0.mk (below_drew1 HB.out)
                    clear HI337; clear HI342; clear HB; have HI337 := n0_; have HI342 := n1_; have HB := n2_; clear n0_ n1_ n2_
                    refine start_ (n := 36) (S := fun w' => True) (ds := []) (nz 36 0) (by kernel_rfl) rfl (by kernel_rfl) trivial (fun hHeld => ?_); refine with_tabW tabulariumlaw21_SafePlays.tab12 tabulariumlaw21_SafePlays.bits12 (fun HT_ HW_ => ?_)
                    generalize w26.drew = w27 at HI337 HI342 HB hHeld ⊢
                    refine zp HT_ 0 63 1 ?_
                    refine zp HT_ 1 64 3 ?_
                    refine zp HT_ 2 65 7 ?_
                    refine zp HT_ 3 66 15 ?_
                    refine zq HT_ 4 67 31 ?_
                    refine zq HT_ 5 68 63 ?_
                    refine zq HT_ 6 69 127 ?_
                    refine zq HT_ 7 70 255 ?_
                    refine zq HT_ 8 71 511 ?_
                    refine zq HT_ 9 72 1023 ?_
                    refine zq HT_ 10 73 2047 ?_
                    refine zq HT_ 11 74 4095 ?_
                    refine zp HT_ 12 75 8191 ?_
                    refine zp HT_ 13 76 16383 ?_
                    refine zq HT_ 14 77 32767 ?_
                    refine zq HT_ 15 78 65535 ?_
                    refine zq HT_ 16 79 131071 ?_
                    refine zq HT_ 17 80 262143 ?_
                    refine zq HT_ 18 81 524287 ?_
                    refine zq HT_ 19 82 1048575 ?_
                    refine zp HT_ 20 83 2097151 ?_
                    refine zp HT_ 21 84 4194303 ?_
                    refine zq HT_ 22 85 8388607 ?_
                    refine zq HT_ 23 86 16777215 ?_
                    refine zq HT_ 24 87 33554431 ?_
                    refine zq HT_ 25 88 67108863 ?_
                    refine zq HT_ 26 89 134217727 ?_
                    refine zq HT_ 27 90 268435455 ?_
                    refine zp HT_ 28 91 536870911 ?_
                    refine zp HT_ 29 92 1073741823 ?_
                    refine zq HT_ 30 93 2147483647 ?_
                    refine zq HT_ 31 94 4294967295 ?_
                    refine zq HT_ 32 95 8589934591 ?_
                    refine zq HT_ 33 96 17179869183 ?_
                    refine zq HT_ 34 97 34359738367 ?_
                    refine zp HT_ 35 98 68719476735 ?_
                    refine done_ (done_of HT_.out (by kernel_rfl)) ?_
                    try go_wp2
                    go_ret
                    exact ⟨by first | rfl | (simp [errW_none, errW_some] <;> rfl) | (simp [*, errW_none, errW_some] <;> rfl), by repeat (first | (with_reducible first | exact HB.out | apply below_alloc | apply pw_below_drewN | apply below_drew1 | refine below_set ?_ (IsS41.ge HI337.out) | refine below_set ?_ (IsS37.ge HI342.out)) | exact HB.out)⟩
                  · rw [if_neg c21] at H
                    have c21b0 : (t345 != t352) = false := by simpa using c21
                    (try (have c21b1 : decide (t345 = t352) = true := by first | simpa using c21 | (revert c21; generalize t345 = x_; generalize t352 = y_; revert x_ y_; decide)))
                    (try (have c21b2 : (t345 == t352) = true := by first | simpa using c21 | (revert c21; generalize t345 = x_; generalize t352 = y_; revert x_ y_; decide)))
                    clear c21
                    replace H := Option.bind_eq_some_iff.mp H
                    obtain ⟨⟨t363, t364, t365, t366, t367⟩, A280, H⟩ := H
                    replace H : (if (t363 != (!t354)) = true then (some false) else (if t357 = t355 then (if t358 = t356 then ((safe_Safe_Missing.f kj10 t364 t365 t366 t367).bind fun bt368 => ((tabulariumref21_Safe_Missing.f kj10 t353 t354 t355 t356).bind fun bt373 => (if bt368.1 = bt373.1 then (tabulariumlaw21_SafePlays.l0 kj10 l1 l2 t332 (wrap64 (x10_1 + 1)) bt368.2.1 bt368.2.2.1 bt368.2.2.2.1 bt368.2.2.2.2 bt373.2.1 bt373.2.2.1 bt373.2.2.2.1 bt373.2.2.2.2) else (some false)))) else (some false)) else (some false))) = some r := H
                    have A28 := Aside0.mk A280
                    clear A280
                    by_cases c29 : (t363 != (!t354)) = true
                    · rw [if_pos c29] at H
                      have c29b0 : (t363 != (!t354)) = true := c29
                      (try (have c29b1 : decide (t363 = (!t354)) = false := by first | simpa using c29 | (revert c29; generalize t363 = x_; generalize (!t354) = y_; revert x_ y_; decide)))
                      (try (have c29b2 : (t363 == (!t354)) = false := by first | simpa using c29 | (revert c29; generalize t363 = x_; generalize (!t354) = y_; revert x_ y_; decide)))
                      (try (have c29b3 : ¬ (t363 = (!t354)) := by first | simpa using c29 | (revert c29; generalize t363 = x_; generalize (!t354) = y_; revert x_ y_; decide)))
                      clear c29
                      obtain rfl := Option.some.inj H
                      try go_wp2
                      have n0_ := Aside0.mk (IsS41.drew HI337.out)
                      have n1_ := Aside0.mk (IsS37.drew HI342.out)
                      have n2_ := Aside0.mk (below_drew1 HB.out)
                      clear HI337; clear HI342; clear HB; have HI337 := n0_; have HI342 := n1_; have HB := n2_; clear n0_ n1_ n2_
                      have p343 : 0 ≤ (x10_1 : Int) := of_decide_eq_true (by first | (with_reducible assumption) | assumption)
                      have q343 : x10_1 < (l1.length : Int) := of_decide_eq_true (by first | (with_reducible assumption) | assumption)
                      obtain ⟨ad343, e343, hx343_0⟩ := Kd.at_int HR1.out x10_1 p343 q343
                      have hw343_0 := hx343_0
                      cases e343
                      replace hx343_0 := (HB.out.cell (World.block_lt_of_cell? w _ hx343_0)).trans hx343_0
                      replace p343 := eq_true p343; replace q343 := eq_true q343
                      have p344 : 0 ≤ (x10_1 : Int) := of_decide_eq_true (by first | (with_reducible assumption) | assumption)
                      have q344 : x10_1 < (l2.length : Int) := of_decide_eq_true (by first | (with_reducible assumption) | assumption)
                      obtain ⟨ad344, e344, hx344_0⟩ := Kd.at_int HR2.out x10_1 p344 q344
                      have hw344_0 := hx344_0
                      cases e344
                      replace hx344_0 := (HB.out.cell (World.block_lt_of_cell? w _ hx344_0)).trans hx344_0
                      replace p344 := eq_true p344; replace q344 := eq_true q344
                      refine start_ (n := 11) (S := fun w' => w'.cell? (ad343.add (x10_1).toNat) = some (.int .i64 (rd l1 x10_1)) ∧ w'.cell? (ad344.add (x10_1).toNat) = some (.int .i64 (rd l2 x10_1))) (ds := []) (nz 11 0) (by kernel_rfl) rfl (by kernel_rfl) ⟨((HB.out.cell (World.block_lt_of_cell? w _ hw343_0)).trans hw343_0), ((HB.out.cell (World.block_lt_of_cell? w _ hw344_0)).trans hw344_0)⟩ (fun hHeld => ?_); refine with_tabW tabulariumlaw21_SafePlays.tab9 tabulariumlaw21_SafePlays.bits9 (fun HT_ HW_ => ?_)
                      generalize wc.drew = w30 at HI337 HI342 HB hx343_0 hx344_0 hHeld ⊢
                      refine zp HT_ 0 38 1 ?_
                      refine zp HT_ 1 39 3 ?_
                      refine zp HT_ 2 40 7 ?_
                      refine zp HT_ 3 41 15 ?_
                      refine zp HT_ 5 43 47 ?_
                      refine zp HT_ 6 44 111 ?_
                      refine zp HT_ 7 45 239 ?_
                      refine zt HT_ HW_ hHeld 4 42 255 ?_
                      refine zt HT_ HW_ hHeld 8 46 511 ?_
                      refine zo HT_ 9 47 1023 (fun K hK => ?_)
                      refine zg Try.func9 #[.pointer (some ⟨g337, 0, none⟩), .int .i64 (rd l1 x10_1), .int .i64 (rd l2 x10_1)] ?_
                      with_reducible refine (safe_Safe_See.calls g337 x338000_1 x338001_1 x338002_1 x338003_1 (rd l1 x10_1) (rd l2 x10_1) t345 t346 t347 t348 t349 w _ ?side1 ?side2 A18.out).mono ?_
                      (case side1 => exact nw41 HI337)
                      (case side2 => exact bw2 HB (IsS41.ge HI337.out) (IsS37.ge HI342.out))
                      rintro e w31 ⟨rfl, hi, hb, hk⟩
                      refine ⟨_, rfl, ?_⟩
                      have n0_ := Aside0.mk (show IsS37 w _ g342 x343000_1 x343001_1 x343002_1 x343003_1 from kb37 HI342 hk NS342_337.out)
                      have n1_ := Aside0.mk (hb)
                      have n2_ := Aside0.mk (hi)
                      clear HI342; clear HB; clear HI337; have HI342 := n0_; have HB := n1_; have HI337 := n2_; clear n0_ n1_ n2_; (try clear hb); (try clear hb2); (try clear hk); (try clear hi)
                      refine hK.out _ _ ⟨((HB.out.cell (World.block_lt_of_cell? w _ hw343_0)).trans hw343_0), ((HB.out.cell (World.block_lt_of_cell? w _ hw344_0)).trans hw344_0)⟩ (fun hHeld => ?_)
                      clear hK K
                      refine zn ?_
                      refine zp HT_ 10 11 2047 ?_
                      refine done_ (done_of HT_.out (by kernel_rfl)) ?_
                      try go_wp2
                      have n0_ := Aside0.mk (IsS41.drew HI337.out)
                      have n1_ := Aside0.mk (IsS37.drew HI342.out)
                      have n2_ := Aside0.mk (below_drew1 HB.out)
                      clear HI337; clear HI342; clear HB; have HI337 := n0_; have HI342 := n1_; have HB := n2_; clear n0_ n1_ n2_
                      have p350 : 0 ≤ (x10_1 : Int) := of_decide_eq_true (by first | (with_reducible assumption) | assumption)
                      have q350 : x10_1 < (l1.length : Int) := of_decide_eq_true (by first | (with_reducible assumption) | assumption)
                      obtain ⟨ad350, e350, hx350_0⟩ := Kd.at_int HR1.out x10_1 p350 q350
                      have hw350_0 := hx350_0
                      obtain rfl : ad343 = ad350 := (by injection e350)
                      replace hx350_0 := (HB.out.cell (World.block_lt_of_cell? w _ hx350_0)).trans hx350_0
                      replace p350 := eq_true p350; replace q350 := eq_true q350
                      have p351 : 0 ≤ (x10_1 : Int) := of_decide_eq_true (by first | (with_reducible assumption) | assumption)
                      have q351 : x10_1 < (l2.length : Int) := of_decide_eq_true (by first | (with_reducible assumption) | assumption)
                      obtain ⟨ad351, e351, hx351_0⟩ := Kd.at_int HR2.out x10_1 p351 q351
                      have hw351_0 := hx351_0
                      obtain rfl : ad344 = ad351 := (by injection e351)
                      replace hx351_0 := (HB.out.cell (World.block_lt_of_cell? w _ hx351_0)).trans hx351_0
                      replace p351 := eq_true p351; replace q351 := eq_true q351
                      refine start_ (n := 11) (S := fun w' => w'.cell? (ad343.add (x10_1).toNat) = some (.int .i64 (rd l1 x10_1)) ∧ w'.cell? (ad344.add (x10_1).toNat) = some (.int .i64 (rd l2 x10_1))) (ds := []) (nz 11 0) (by kernel_rfl) rfl (by kernel_rfl) ⟨((HB.out.cell (World.block_lt_of_cell? w _ hw350_0)).trans hw350_0), ((HB.out.cell (World.block_lt_of_cell? w _ hw351_0)).trans hw351_0)⟩ (fun hHeld => ?_); refine with_tabW tabulariumlaw21_SafePlays.tab10 tabulariumlaw21_SafePlays.bits10 (fun HT_ HW_ => ?_)
                      generalize w31.drew = w32 at HI337 HI342 HB hx350_0 hx351_0 hHeld ⊢
                      refine zp HT_ 0 48 1 ?_
                      refine zp HT_ 1 49 3 ?_
                      refine zp HT_ 2 50 7 ?_
                      refine zp HT_ 3 51 15 ?_
                      refine zp HT_ 5 53 47 ?_
                      refine zp HT_ 6 54 111 ?_
                      refine zp HT_ 7 55 239 ?_
                      refine zt HT_ HW_ hHeld 4 52 255 ?_
                      refine zt HT_ HW_ hHeld 8 56 511 ?_
                      refine zo HT_ 9 57 1023 (fun K hK => ?_)
                      refine zg Try.func13 #[.pointer (some ⟨g342, 0, none⟩), .int .i64 (rd l1 x10_1), .int .i64 (rd l2 x10_1)] ?_
                      with_reducible refine (tabulariumref21_Safe_See.calls g342 x343000_1 x343001_1 x343002_1 x343003_1 (rd l1 x10_1) (rd l2 x10_1) t352 t353 t354 t355 t356 w _ ?side1 ?side2 A19.out).mono ?_
                      (case side1 => exact nw37 HI342)
                      (case side2 => exact bw2 HB (IsS41.ge HI337.out) (IsS37.ge HI342.out))
                      rintro e w33 ⟨rfl, hi, hb, hk⟩
                      refine ⟨_, rfl, ?_⟩
                      have n0_ := Aside0.mk (show IsS41 w _ g337 t346 t347 t348 t349 from kb41 HI337 hk NS337_342.out)
                      have n1_ := Aside0.mk (hb)
                      have n2_ := Aside0.mk (hi)
                      clear HI337; clear HB; clear HI342; have HI337 := n0_; have HB := n1_; have HI342 := n2_; clear n0_ n1_ n2_; (try clear hb); (try clear hb2); (try clear hk); (try clear hi)
                      refine hK.out _ _ ⟨((HB.out.cell (World.block_lt_of_cell? w _ hw350_0)).trans hw350_0), ((HB.out.cell (World.block_lt_of_cell? w _ hw351_0)).trans hw351_0)⟩ (fun hHeld => ?_)
                      clear hK K
                      refine zn ?_
                      refine zp HT_ 10 12 2047 ?_
                      refine done_ (done_of HT_.out (by kernel_rfl)) ?_
                      try go_wp2_with (first | ((with_reducible refine gate_callee (f := 14) rfl ?_); refine goesL_ (some 60) rfl rfl Try.func14 (by kernel_rfl) rfl #[.pointer (some ⟨g337, 0, none⟩)] rfl (by (try simp only [List.map_toArray, List.map_cons, List.map_nil]); first | done | rfl | (simp only [List.length_drop, List.length_take]; rfl)) ?_; (with_reducible refine (safe_Safe_Seen.calls g337 t346 t347 t348 t349 t357 t358 t359 t360 t361 t362 w _ ?side1 ?side2 A20.out).mono ?_); (case side1 => exact nw41 HI337); (case side2 => exact bw2 HB (IsS41.ge HI337.out) (IsS37.ge HI342.out)); rintro e w34 ⟨rfl, hi, hb, hk⟩; refine ⟨_, rfl, ?_⟩; have n0_ := Aside0.mk (show IsS37 w _ g342 t353 t354 t355 t356 from kb37 HI342 hk NS342_337.out); have n1_ := Aside0.mk (hb); have n2_ := Aside0.mk (hi); clear HI342; clear HB; clear HI337; have HI342 := n0_; have HB := n1_; have HI337 := n2_; clear n0_ n1_ n2_; (try clear hb); (try clear hb2); (try clear hk); (try clear hi)))
                      have n0_ := Aside0.mk (IsS41.drew HI337.out)
                      have n1_ := Aside0.mk (IsS37.drew HI342.out)
                      have n2_ := Aside0.mk (below_drew1 HB.out)
                      clear HI337; clear HI342; clear HB; have HI337 := n0_; have HI342 := n1_; have HB := n2_; clear n0_ n1_ n2_
                      refine start_ (n := 36) (S := fun w' => w'.cell? ⟨g342, 0, none⟩ = some (.float .f64 t353) ∧ w'.cell? ⟨g342, 1, none⟩ = some (.bool t354) ∧ w'.cell? ⟨g342, 2, none⟩ = some (.int .i64 t355) ∧ w'.cell? ⟨g342, 3, none⟩ = some (.int .i64 t356)) (ds := []) (nz 36 0) (by kernel_rfl) rfl (by kernel_rfl) ⟨(blk_cell (Aside0.mk (And.left HI342.out)).out 0).trans rfl, (blk_cell (Aside0.mk (And.left HI342.out)).out 1).trans rfl, (blk_cell (Aside0.mk (And.left HI342.out)).out 2).trans rfl, (blk_cell (Aside0.mk (And.left HI342.out)).out 3).trans rfl⟩ (fun hHeld => ?_); refine with_tabW tabulariumlaw21_SafePlays.tab12 tabulariumlaw21_SafePlays.bits12 (fun HT_ HW_ => ?_)
                      generalize w34.drew = w35 at HI337 HI342 HB hHeld ⊢
                      refine zp HT_ 0 63 1 ?_
                      refine zp HT_ 1 64 3 ?_
                      refine zp HT_ 2 65 7 ?_
                      refine zp HT_ 3 66 15 ?_
                      refine zp HT_ 4 67 31 ?_
                      refine zp HT_ 6 69 95 ?_
                      refine zp HT_ 7 70 223 ?_
                      refine zp HT_ 8 71 479 ?_
                      refine zt HT_ HW_ hHeld 9 72 991 ?_
                      refine zp HT_ 10 73 2015 ?_
                      refine zo HT_ 5 68 2047 (fun K hK => ?_)
                      refine zg Try.func11 #[.pointer (some ⟨g337, 0, none⟩)] ?_
                      with_reducible refine (safe_Safe_On.calls g337 t359 t360 t361 t362 t363 t364 t365 t366 t367 w _ ?side1 ?side2 A28.out).mono ?_
                      (case side1 => exact nw41 HI337)
                      (case side2 => exact bw2 HB (IsS41.ge HI337.out) (IsS37.ge HI342.out))
                      rintro e w36 ⟨rfl, hi, hb, hk⟩
                      refine ⟨_, rfl, ?_⟩
                      have n0_ := Aside0.mk (show IsS37 w _ g342 t353 t354 t355 t356 from kb37 HI342 hk NS342_337.out)
                      have n1_ := Aside0.mk (hb)
                      have n2_ := Aside0.mk (hi)
                      clear HI342; clear HB; clear HI337; have HI342 := n0_; have HB := n1_; have HI337 := n2_; clear n0_ n1_ n2_; (try clear hb); (try clear hb2); (try clear hk); (try clear hi)
                      refine hK.out _ _ ⟨(blk_cell (Aside0.mk (And.left HI342.out)).out 0).trans rfl, (blk_cell (Aside0.mk (And.left HI342.out)).out 1).trans rfl, (blk_cell (Aside0.mk (And.left HI342.out)).out 2).trans rfl, (blk_cell (Aside0.mk (And.left HI342.out)).out 3).trans rfl⟩ (fun hHeld => ?_)
                      clear hK K
                      refine zn ?_
                      refine zp HT_ 11 74 4095 ?_
                      refine zp HT_ 12 75 8191 ?_
                      refine zp HT_ 13 76 16383 ?_
                      refine zq HT_ 14 77 32767 ?_
                      refine zq HT_ 15 78 65535 ?_
                      refine zq HT_ 16 79 131071 ?_
                      refine zq HT_ 17 80 262143 ?_
                      refine zq HT_ 18 81 524287 ?_
                      refine zq HT_ 19 82 1048575 ?_
                      refine zp HT_ 20 83 2097151 ?_
                      refine zp HT_ 21 84 4194303 ?_
                      refine zq HT_ 22 85 8388607 ?_
                      refine zq HT_ 23 86 16777215 ?_
                      refine zq HT_ 24 87 33554431 ?_
                      refine zq HT_ 25 88 67108863 ?_
                      refine zq HT_ 26 89 134217727 ?_
                      refine zq HT_ 27 90 268435455 ?_
                      refine zp HT_ 28 91 536870911 ?_
                      refine zp HT_ 29 92 1073741823 ?_
                      refine zq HT_ 30 93 2147483647 ?_
                      refine zq HT_ 31 94 4294967295 ?_
                      refine zq HT_ 32 95 8589934591 ?_
                      refine zq HT_ 33 96 17179869183 ?_
                      refine zq HT_ 34 97 34359738367 ?_
                      refine zp HT_ 35 98 68719476735 ?_
                      refine done_ (done_of HT_.out (by kernel_rfl)) ?_
                      try go_wp2
                      go_ret
                      exact ⟨by first | rfl | (simp [errW_none, errW_some] <;> rfl) | (simp [*, errW_none, errW_some] <;> rfl), by repeat (first | (with_reducible first | exact HB.out | apply below_alloc | apply pw_below_drewN | apply below_drew1 | refine below_set ?_ (IsS41.ge HI337.out) | refine below_set ?_ (IsS37.ge HI342.out)) | exact HB.out)⟩
                    · rw [if_neg c29] at H
                      have c29b0 : (t363 != (!t354)) = false := by simpa using c29
                      (try (have c29b1 : decide (t363 = (!t354)) = true := by first | simpa using c29 | (revert c29; generalize t363 = x_; generalize (!t354) = y_; revert x_ y_; decide)))
                      (try (have c29b2 : (t363 == (!t354)) = true := by first | simpa using c29 | (revert c29; generalize t363 = x_; generalize (!t354) = y_; revert x_ y_; decide)))
                      clear c29
                      by_cases c37 : t357 = t355
                      · rw [if_pos c37] at H
                        have c37b0 : (t357 == t355) = true := beq_iff_eq.mpr c37
                        have c37b1 : (t357 != t355) = false := bne_eq_false_iff_eq.mpr c37
                        clear c37
                        by_cases c38 : t358 = t356
                        · rw [if_pos c38] at H
                          have c38b0 : (t358 == t356) = true := beq_iff_eq.mpr c38
                          have c38b1 : (t358 != t356) = false := bne_eq_false_iff_eq.mpr c38
                          clear c38
                          replace H := Option.bind_eq_some_iff.mp H
                          obtain ⟨⟨t368, t369, t370, t371, t372⟩, A390, H⟩ := H
                          replace H : ((tabulariumref21_Safe_Missing.f kj10 t353 t354 t355 t356).bind fun bt373 => (if t368 = bt373.1 then (tabulariumlaw21_SafePlays.l0 kj10 l1 l2 t332 (wrap64 (x10_1 + 1)) t369 t370 t371 t372 bt373.2.1 bt373.2.2.1 bt373.2.2.2.1 bt373.2.2.2.2) else (some false))) = some r := H
                          have A39 := Aside0.mk A390
                          clear A390
                          replace H := Option.bind_eq_some_iff.mp H
                          obtain ⟨⟨t373, t374, t375, t376, t377⟩, A400, H⟩ := H
                          replace H : (if t368 = t373 then (tabulariumlaw21_SafePlays.l0 kj10 l1 l2 t332 (wrap64 (x10_1 + 1)) t369 t370 t371 t372 t374 t375 t376 t377) else (some false)) = some r := H
                          have A40 := Aside0.mk A400
                          clear A400
                          by_cases c41 : t368 = t373
                          · rw [if_pos c41] at H
                            have c41b0 : (t368 == t373) = true := beq_iff_eq.mpr c41
                            have c41b1 : (t368 != t373) = false := bne_eq_false_iff_eq.mpr c41
                            clear c41
                            have H' := Aside0.mk H
                            clear H
                            try go_wp2
                            have n0_ := Aside0.mk (IsS41.drew HI337.out)
                            have n1_ := Aside0.mk (IsS37.drew HI342.out)
                            have n2_ := Aside0.mk (below_drew1 HB.out)
                            clear HI337; clear HI342; clear HB; have HI337 := n0_; have HI342 := n1_; have HB := n2_; clear n0_ n1_ n2_
                            have p343 : 0 ≤ (x10_1 : Int) := of_decide_eq_true (by first | (with_reducible assumption) | assumption)
                            have q343 : x10_1 < (l1.length : Int) := of_decide_eq_true (by first | (with_reducible assumption) | assumption)
                            obtain ⟨ad343, e343, hx343_0⟩ := Kd.at_int HR1.out x10_1 p343 q343
                            have hw343_0 := hx343_0
                            cases e343
                            replace hx343_0 := (HB.out.cell (World.block_lt_of_cell? w _ hx343_0)).trans hx343_0
                            replace p343 := eq_true p343; replace q343 := eq_true q343
                            have p344 : 0 ≤ (x10_1 : Int) := of_decide_eq_true (by first | (with_reducible assumption) | assumption)
                            have q344 : x10_1 < (l2.length : Int) := of_decide_eq_true (by first | (with_reducible assumption) | assumption)
                            obtain ⟨ad344, e344, hx344_0⟩ := Kd.at_int HR2.out x10_1 p344 q344
                            have hw344_0 := hx344_0
                            cases e344
                            replace hx344_0 := (HB.out.cell (World.block_lt_of_cell? w _ hx344_0)).trans hx344_0
                            replace p344 := eq_true p344; replace q344 := eq_true q344
                            refine start_ (n := 11) (S := fun w' => w'.cell? (ad343.add (x10_1).toNat) = some (.int .i64 (rd l1 x10_1)) ∧ w'.cell? (ad344.add (x10_1).toNat) = some (.int .i64 (rd l2 x10_1))) (ds := []) (nz 11 0) (by kernel_rfl) rfl (by kernel_rfl) ⟨((HB.out.cell (World.block_lt_of_cell? w _ hw343_0)).trans hw343_0), ((HB.out.cell (World.block_lt_of_cell? w _ hw344_0)).trans hw344_0)⟩ (fun hHeld => ?_); refine with_tabW tabulariumlaw21_SafePlays.tab9 tabulariumlaw21_SafePlays.bits9 (fun HT_ HW_ => ?_)
                            generalize wc.drew = w42 at HI337 HI342 HB hx343_0 hx344_0 hHeld ⊢
                            refine zp HT_ 0 38 1 ?_
                            refine zp HT_ 1 39 3 ?_
                            refine zp HT_ 2 40 7 ?_
                            refine zp HT_ 3 41 15 ?_
                            refine zp HT_ 5 43 47 ?_
                            refine zp HT_ 6 44 111 ?_
                            refine zp HT_ 7 45 239 ?_
                            refine zt HT_ HW_ hHeld 4 42 255 ?_
                            refine zt HT_ HW_ hHeld 8 46 511 ?_
                            refine zo HT_ 9 47 1023 (fun K hK => ?_)
                            refine zg Try.func9 #[.pointer (some ⟨g337, 0, none⟩), .int .i64 (rd l1 x10_1), .int .i64 (rd l2 x10_1)] ?_
                            with_reducible refine (safe_Safe_See.calls g337 x338000_1 x338001_1 x338002_1 x338003_1 (rd l1 x10_1) (rd l2 x10_1) t345 t346 t347 t348 t349 w _ ?side1 ?side2 A18.out).mono ?_
                            (case side1 => exact nw41 HI337)
                            (case side2 => exact bw2 HB (IsS41.ge HI337.out) (IsS37.ge HI342.out))
                            rintro e w43 ⟨rfl, hi, hb, hk⟩
                            refine ⟨_, rfl, ?_⟩
                            have n0_ := Aside0.mk (show IsS37 w _ g342 x343000_1 x343001_1 x343002_1 x343003_1 from kb37 HI342 hk NS342_337.out)
                            have n1_ := Aside0.mk (hb)
                            have n2_ := Aside0.mk (hi)
                            clear HI342; clear HB; clear HI337; have HI342 := n0_; have HB := n1_; have HI337 := n2_; clear n0_ n1_ n2_; (try clear hb); (try clear hb2); (try clear hk); (try clear hi)
                            refine hK.out _ _ ⟨((HB.out.cell (World.block_lt_of_cell? w _ hw343_0)).trans hw343_0), ((HB.out.cell (World.block_lt_of_cell? w _ hw344_0)).trans hw344_0)⟩ (fun hHeld => ?_)
                            clear hK K
                            refine zn ?_
                            refine zp HT_ 10 11 2047 ?_
                            refine done_ (done_of HT_.out (by kernel_rfl)) ?_
                            try go_wp2
                            have n0_ := Aside0.mk (IsS41.drew HI337.out)
                            have n1_ := Aside0.mk (IsS37.drew HI342.out)
                            have n2_ := Aside0.mk (below_drew1 HB.out)
                            clear HI337; clear HI342; clear HB; have HI337 := n0_; have HI342 := n1_; have HB := n2_; clear n0_ n1_ n2_
                            have p350 : 0 ≤ (x10_1 : Int) := of_decide_eq_true (by first | (with_reducible assumption) | assumption)
                            have q350 : x10_1 < (l1.length : Int) := of_decide_eq_true (by first | (with_reducible assumption) | assumption)
                            obtain ⟨ad350, e350, hx350_0⟩ := Kd.at_int HR1.out x10_1 p350 q350
                            have hw350_0 := hx350_0
                            obtain rfl : ad343 = ad350 := (by injection e350)
                            replace hx350_0 := (HB.out.cell (World.block_lt_of_cell? w _ hx350_0)).trans hx350_0
                            replace p350 := eq_true p350; replace q350 := eq_true q350
                            have p351 : 0 ≤ (x10_1 : Int) := of_decide_eq_true (by first | (with_reducible assumption) | assumption)
                            have q351 : x10_1 < (l2.length : Int) := of_decide_eq_true (by first | (with_reducible assumption) | assumption)
                            obtain ⟨ad351, e351, hx351_0⟩ := Kd.at_int HR2.out x10_1 p351 q351
                            have hw351_0 := hx351_0
                            obtain rfl : ad344 = ad351 := (by injection e351)
                            replace hx351_0 := (HB.out.cell (World.block_lt_of_cell? w _ hx351_0)).trans hx351_0
                            replace p351 := eq_true p351; replace q351 := eq_true q351
                            refine start_ (n := 11) (S := fun w' => w'.cell? (ad343.add (x10_1).toNat) = some (.int .i64 (rd l1 x10_1)) ∧ w'.cell? (ad344.add (x10_1).toNat) = some (.int .i64 (rd l2 x10_1))) (ds := []) (nz 11 0) (by kernel_rfl) rfl (by kernel_rfl) ⟨((HB.out.cell (World.block_lt_of_cell? w _ hw350_0)).trans hw350_0), ((HB.out.cell (World.block_lt_of_cell? w _ hw351_0)).trans hw351_0)⟩ (fun hHeld => ?_); refine with_tabW tabulariumlaw21_SafePlays.tab10 tabulariumlaw21_SafePlays.bits10 (fun HT_ HW_ => ?_)
                            generalize w43.drew = w44 at HI337 HI342 HB hx350_0 hx351_0 hHeld ⊢
                            refine zp HT_ 0 48 1 ?_
                            refine zp HT_ 1 49 3 ?_
                            refine zp HT_ 2 50 7 ?_
                            refine zp HT_ 3 51 15 ?_
                            refine zp HT_ 5 53 47 ?_
                            refine zp HT_ 6 54 111 ?_
                            refine zp HT_ 7 55 239 ?_
                            refine zt HT_ HW_ hHeld 4 52 255 ?_
                            refine zt HT_ HW_ hHeld 8 56 511 ?_
                            refine zo HT_ 9 57 1023 (fun K hK => ?_)
                            refine zg Try.func13 #[.pointer (some ⟨g342, 0, none⟩), .int .i64 (rd l1 x10_1), .int .i64 (rd l2 x10_1)] ?_
                            with_reducible refine (tabulariumref21_Safe_See.calls g342 x343000_1 x343001_1 x343002_1 x343003_1 (rd l1 x10_1) (rd l2 x10_1) t352 t353 t354 t355 t356 w _ ?side1 ?side2 A19.out).mono ?_
                            (case side1 => exact nw37 HI342)
                            (case side2 => exact bw2 HB (IsS41.ge HI337.out) (IsS37.ge HI342.out))
                            rintro e w45 ⟨rfl, hi, hb, hk⟩
                            refine ⟨_, rfl, ?_⟩
                            have n0_ := Aside0.mk (show IsS41 w _ g337 t346 t347 t348 t349 from kb41 HI337 hk NS337_342.out)
                            have n1_ := Aside0.mk (hb)
                            have n2_ := Aside0.mk (hi)
                            clear HI337; clear HB; clear HI342; have HI337 := n0_; have HB := n1_; have HI342 := n2_; clear n0_ n1_ n2_; (try clear hb); (try clear hb2); (try clear hk); (try clear hi)
                            refine hK.out _ _ ⟨((HB.out.cell (World.block_lt_of_cell? w _ hw350_0)).trans hw350_0), ((HB.out.cell (World.block_lt_of_cell? w _ hw351_0)).trans hw351_0)⟩ (fun hHeld => ?_)
                            clear hK K
                            refine zn ?_
                            refine zp HT_ 10 12 2047 ?_
                            refine done_ (done_of HT_.out (by kernel_rfl)) ?_
                            try go_wp2_with (first | ((with_reducible refine gate_callee (f := 14) rfl ?_); refine goesL_ (some 60) rfl rfl Try.func14 (by kernel_rfl) rfl #[.pointer (some ⟨g337, 0, none⟩)] rfl (by (try simp only [List.map_toArray, List.map_cons, List.map_nil]); first | done | rfl | (simp only [List.length_drop, List.length_take]; rfl)) ?_; (with_reducible refine (safe_Safe_Seen.calls g337 t346 t347 t348 t349 t357 t358 t359 t360 t361 t362 w _ ?side1 ?side2 A20.out).mono ?_); (case side1 => exact nw41 HI337); (case side2 => exact bw2 HB (IsS41.ge HI337.out) (IsS37.ge HI342.out)); rintro e w46 ⟨rfl, hi, hb, hk⟩; refine ⟨_, rfl, ?_⟩; have n0_ := Aside0.mk (show IsS37 w _ g342 t353 t354 t355 t356 from kb37 HI342 hk NS342_337.out); have n1_ := Aside0.mk (hb); have n2_ := Aside0.mk (hi); clear HI342; clear HB; clear HI337; have HI342 := n0_; have HB := n1_; have HI337 := n2_; clear n0_ n1_ n2_; (try clear hb); (try clear hb2); (try clear hk); (try clear hi)))
                            have n0_ := Aside0.mk (IsS41.drew HI337.out)
                            have n1_ := Aside0.mk (IsS37.drew HI342.out)
                            have n2_ := Aside0.mk (below_drew1 HB.out)
                            clear HI337; clear HI342; clear HB; have HI337 := n0_; have HI342 := n1_; have HB := n2_; clear n0_ n1_ n2_
                            refine start_ (n := 36) (S := fun w' => w'.cell? ⟨g342, 0, none⟩ = some (.float .f64 t353) ∧ w'.cell? ⟨g342, 1, none⟩ = some (.bool t354) ∧ w'.cell? ⟨g342, 2, none⟩ = some (.int .i64 t355) ∧ w'.cell? ⟨g342, 3, none⟩ = some (.int .i64 t356)) (ds := []) (nz 36 0) (by kernel_rfl) rfl (by kernel_rfl) ⟨(blk_cell (Aside0.mk (And.left HI342.out)).out 0).trans rfl, (blk_cell (Aside0.mk (And.left HI342.out)).out 1).trans rfl, (blk_cell (Aside0.mk (And.left HI342.out)).out 2).trans rfl, (blk_cell (Aside0.mk (And.left HI342.out)).out 3).trans rfl⟩ (fun hHeld => ?_); refine with_tabW tabulariumlaw21_SafePlays.tab12 tabulariumlaw21_SafePlays.bits12 (fun HT_ HW_ => ?_)
                            generalize w46.drew = w47 at HI337 HI342 HB hHeld ⊢
                            refine zp HT_ 0 63 1 ?_
                            refine zp HT_ 1 64 3 ?_
                            refine zp HT_ 2 65 7 ?_
                            refine zp HT_ 3 66 15 ?_
                            refine zp HT_ 4 67 31 ?_
                            refine zp HT_ 6 69 95 ?_
                            refine zp HT_ 7 70 223 ?_
                            refine zp HT_ 8 71 479 ?_
                            refine zt HT_ HW_ hHeld 9 72 991 ?_
                            refine zp HT_ 10 73 2015 ?_
                            refine zo HT_ 5 68 2047 (fun K hK => ?_)
                            refine zg Try.func11 #[.pointer (some ⟨g337, 0, none⟩)] ?_
                            with_reducible refine (safe_Safe_On.calls g337 t359 t360 t361 t362 t363 t364 t365 t366 t367 w _ ?side1 ?side2 A28.out).mono ?_
                            (case side1 => exact nw41 HI337)
                            (case side2 => exact bw2 HB (IsS41.ge HI337.out) (IsS37.ge HI342.out))
                            rintro e w48 ⟨rfl, hi, hb, hk⟩
                            refine ⟨_, rfl, ?_⟩
                            have n0_ := Aside0.mk (show IsS37 w _ g342 t353 t354 t355 t356 from kb37 HI342 hk NS342_337.out)
                            have n1_ := Aside0.mk (hb)
                            have n2_ := Aside0.mk (hi)
                            clear HI342; clear HB; clear HI337; have HI342 := n0_; have HB := n1_; have HI337 := n2_; clear n0_ n1_ n2_; (try clear hb); (try clear hb2); (try clear hk); (try clear hi)
                            refine hK.out _ _ ⟨(blk_cell (Aside0.mk (And.left HI342.out)).out 0).trans rfl, (blk_cell (Aside0.mk (And.left HI342.out)).out 1).trans rfl, (blk_cell (Aside0.mk (And.left HI342.out)).out 2).trans rfl, (blk_cell (Aside0.mk (And.left HI342.out)).out 3).trans rfl⟩ (fun hHeld => ?_)
                            clear hK K
                            refine zn ?_
                            refine zp HT_ 11 74 4095 ?_
                            refine zp HT_ 12 75 8191 ?_
                            refine zp HT_ 13 76 16383 ?_
                            refine zp HT_ 14 77 32767 ?_
                            refine zp HT_ 15 78 65535 ?_
                            refine zp HT_ 16 79 131071 ?_
                            refine zp HT_ 17 80 262143 ?_
                            refine zt HT_ HW_ hHeld 18 81 524287 ?_
                            refine zp HT_ 19 82 1048575 ?_
                            refine zp HT_ 20 83 2097151 ?_
                            refine zp HT_ 21 84 4194303 ?_
                            refine zp HT_ 22 85 8388607 ?_
                            refine zp HT_ 23 86 16777215 ?_
                            refine zp HT_ 24 87 33554431 ?_
                            refine zp HT_ 25 88 67108863 ?_
                            refine zt HT_ HW_ hHeld 26 89 134217727 ?_
                            refine zp HT_ 27 90 268435455 ?_
                            refine zp HT_ 28 91 536870911 ?_
                            refine zp HT_ 29 92 1073741823 ?_
                            refine zp HT_ 30 93 2147483647 ?_
                            refine zp HT_ 32 95 6442450943 ?_
                            refine zo HT_ 31 94 8589934591 (fun K hK => ?_)
                            refine zg Try.func10 #[.pointer (some ⟨g337, 0, none⟩)] ?_
                            with_reducible refine (safe_Safe_Missing.calls kj10 g337 t364 t365 t366 t367 t368 t369 t370 t371 t372 w _ ?side1 ?side2 A39.out).mono ?_
                            (case side1 => exact nw41 HI337)
                            (case side2 => exact bw2 HB (IsS41.ge HI337.out) (IsS37.ge HI342.out))
                            rintro e w49 ⟨rfl, hi, hb, hk⟩
                            refine ⟨_, rfl, ?_⟩
                            have n0_ := Aside0.mk (show IsS37 w _ g342 t353 t354 t355 t356 from kb37 HI342 hk NS342_337.out)
                            have n1_ := Aside0.mk (hb)
                            have n2_ := Aside0.mk (hi)
                            clear HI342; clear HB; clear HI337; have HI342 := n0_; have HB := n1_; have HI337 := n2_; clear n0_ n1_ n2_; (try clear hb); (try clear hb2); (try clear hk); (try clear hi)
                            refine hK.out _ _ ⟨(blk_cell (Aside0.mk (And.left HI342.out)).out 0).trans rfl, (blk_cell (Aside0.mk (And.left HI342.out)).out 1).trans rfl, (blk_cell (Aside0.mk (And.left HI342.out)).out 2).trans rfl, (blk_cell (Aside0.mk (And.left HI342.out)).out 3).trans rfl⟩ (fun hHeld => ?_)
                            clear hK K
                            refine zn ?_
                            refine zo HT_ 33 96 17179869183 (fun K hK => ?_)
                            refine zg Try.func15 #[.pointer (some ⟨g342, 0, none⟩)] ?_
                            with_reducible refine (tabulariumref21_Safe_Missing.calls kj10 g342 t353 t354 t355 t356 t373 t374 t375 t376 t377 w _ ?side1 ?side2 A40.out).mono ?_
                            (case side1 => exact nw37 HI342)
                            (case side2 => exact bw2 HB (IsS41.ge HI337.out) (IsS37.ge HI342.out))
                            rintro e w50 ⟨rfl, hi, hb, hk⟩
                            refine ⟨_, rfl, ?_⟩
                            have n0_ := Aside0.mk (show IsS41 w _ g337 t369 t370 t371 t372 from kb41 HI337 hk NS337_342.out)
                            have n1_ := Aside0.mk (hb)
                            have n2_ := Aside0.mk (hi)
                            clear HI337; clear HB; clear HI342; have HI337 := n0_; have HB := n1_; have HI342 := n2_; clear n0_ n1_ n2_; (try clear hb); (try clear hb2); (try clear hk); (try clear hi)
                            obtain ⟨e0_, e1_, e2_, e3_⟩ := tabulariumref21_Safe_Missing.same A40.out
                            refine hK.out _ _ ⟨(blk_cell (Aside0.mk (And.left HI342.out)).out 0).trans (by simp only [e0_, e1_, e2_, e3_]; rfl), (blk_cell (Aside0.mk (And.left HI342.out)).out 1).trans (by simp only [e0_, e1_, e2_, e3_]; rfl), (blk_cell (Aside0.mk (And.left HI342.out)).out 2).trans (by simp only [e0_, e1_, e2_, e3_]; rfl), (blk_cell (Aside0.mk (And.left HI342.out)).out 3).trans (by simp only [e0_, e1_, e2_, e3_]; rfl)⟩ (fun hHeld => ?_)
                            clear hK K
                            refine zn ?_
                            refine zp HT_ 34 97 34359738367 ?_
                            refine zp HT_ 35 98 68719476735 ?_
                            refine done_ (done_of HT_.out (by kernel_rfl)) ?_
                            try go_wp2
                            go_roundg kj10
                            case measure => have := HK1.out; have := HJ10.out; omega
                            case rel => exact ⟨(wrap64 (x10_1 + 1)), (t369), (t370), (t371), (t372), (t374), (t375), (t376), (t377), (by first | rfl | (simp; done) | (simp [*]; done)), H', ⟨by have := HK1.out; have := HJ10.out; omega⟩, ⟨nw41 HI337⟩, ⟨nw37 HI342⟩, ⟨by repeat (first | (with_reducible first | exact HB.out | apply below_alloc | apply pw_below_drewN | apply below_drew1 | refine below_set ?_ (IsS41.ge HI337.out) | refine below_set ?_ (IsS37.ge HI342.out)) | exact HB.out)⟩⟩
                          · rw [if_neg c41] at H
                            have c41b0 : (t368 == t373) = false := beq_eq_false_iff_ne.mpr c41
                            have c41b1 : (t368 != t373) = true := bne_iff_ne.mpr c41
                            obtain rfl := Option.some.inj H
                            try go_wp2
                            have n0_ := Aside0.mk (IsS41.drew HI337.out)
                            have n1_ := Aside0.mk (IsS37.drew HI342.out)
                            have n2_ := Aside0.mk (below_drew1 HB.out)
                            clear HI337; clear HI342; clear HB; have HI337 := n0_; have HI342 := n1_; have HB := n2_; clear n0_ n1_ n2_
                            have p343 : 0 ≤ (x10_1 : Int) := of_decide_eq_true (by first | (with_reducible assumption) | assumption)
                            have q343 : x10_1 < (l1.length : Int) := of_decide_eq_true (by first | (with_reducible assumption) | assumption)
                            obtain ⟨ad343, e343, hx343_0⟩ := Kd.at_int HR1.out x10_1 p343 q343
                            have hw343_0 := hx343_0
                            cases e343
                            replace hx343_0 := (HB.out.cell (World.block_lt_of_cell? w _ hx343_0)).trans hx343_0
                            replace p343 := eq_true p343; replace q343 := eq_true q343
                            have p344 : 0 ≤ (x10_1 : Int) := of_decide_eq_true (by first | (with_reducible assumption) | assumption)
                            have q344 : x10_1 < (l2.length : Int) := of_decide_eq_true (by first | (with_reducible assumption) | assumption)
                            obtain ⟨ad344, e344, hx344_0⟩ := Kd.at_int HR2.out x10_1 p344 q344
                            have hw344_0 := hx344_0
                            cases e344
                            replace hx344_0 := (HB.out.cell (World.block_lt_of_cell? w _ hx344_0)).trans hx344_0
                            replace p344 := eq_true p344; replace q344 := eq_true q344
                            refine start_ (n := 11) (S := fun w' => w'.cell? (ad343.add (x10_1).toNat) = some (.int .i64 (rd l1 x10_1)) ∧ w'.cell? (ad344.add (x10_1).toNat) = some (.int .i64 (rd l2 x10_1))) (ds := []) (nz 11 0) (by kernel_rfl) rfl (by kernel_rfl) ⟨((HB.out.cell (World.block_lt_of_cell? w _ hw343_0)).trans hw343_0), ((HB.out.cell (World.block_lt_of_cell? w _ hw344_0)).trans hw344_0)⟩ (fun hHeld => ?_); refine with_tabW tabulariumlaw21_SafePlays.tab9 tabulariumlaw21_SafePlays.bits9 (fun HT_ HW_ => ?_)
                            generalize wc.drew = w51 at HI337 HI342 HB hx343_0 hx344_0 hHeld ⊢
                            refine zp HT_ 0 38 1 ?_
                            refine zp HT_ 1 39 3 ?_
                            refine zp HT_ 2 40 7 ?_
                            refine zp HT_ 3 41 15 ?_
                            refine zp HT_ 5 43 47 ?_
                            refine zp HT_ 6 44 111 ?_
                            refine zp HT_ 7 45 239 ?_
                            refine zt HT_ HW_ hHeld 4 42 255 ?_
                            refine zt HT_ HW_ hHeld 8 46 511 ?_
                            refine zo HT_ 9 47 1023 (fun K hK => ?_)
                            refine zg Try.func9 #[.pointer (some ⟨g337, 0, none⟩), .int .i64 (rd l1 x10_1), .int .i64 (rd l2 x10_1)] ?_
                            with_reducible refine (safe_Safe_See.calls g337 x338000_1 x338001_1 x338002_1 x338003_1 (rd l1 x10_1) (rd l2 x10_1) t345 t346 t347 t348 t349 w _ ?side1 ?side2 A18.out).mono ?_
                            (case side1 => exact nw41 HI337)
                            (case side2 => exact bw2 HB (IsS41.ge HI337.out) (IsS37.ge HI342.out))
                            rintro e w52 ⟨rfl, hi, hb, hk⟩
                            refine ⟨_, rfl, ?_⟩
                            have n0_ := Aside0.mk (show IsS37 w _ g342 x343000_1 x343001_1 x343002_1 x343003_1 from kb37 HI342 hk NS342_337.out)
                            have n1_ := Aside0.mk (hb)
                            have n2_ := Aside0.mk (hi)
                            clear HI342; clear HB; clear HI337; have HI342 := n0_; have HB := n1_; have HI337 := n2_; clear n0_ n1_ n2_; (try clear hb); (try clear hb2); (try clear hk); (try clear hi)
                            refine hK.out _ _ ⟨((HB.out.cell (World.block_lt_of_cell? w _ hw343_0)).trans hw343_0), ((HB.out.cell (World.block_lt_of_cell? w _ hw344_0)).trans hw344_0)⟩ (fun hHeld => ?_)
                            clear hK K
                            refine zn ?_
                            refine zp HT_ 10 11 2047 ?_
                            refine done_ (done_of HT_.out (by kernel_rfl)) ?_
                            try go_wp2
                            have n0_ := Aside0.mk (IsS41.drew HI337.out)
                            have n1_ := Aside0.mk (IsS37.drew HI342.out)
                            have n2_ := Aside0.mk (below_drew1 HB.out)
                            clear HI337; clear HI342; clear HB; have HI337 := n0_; have HI342 := n1_; have HB := n2_; clear n0_ n1_ n2_
                            have p350 : 0 ≤ (x10_1 : Int) := of_decide_eq_true (by first | (with_reducible assumption) | assumption)
                            have q350 : x10_1 < (l1.length : Int) := of_decide_eq_true (by first | (with_reducible assumption) | assumption)
                            obtain ⟨ad350, e350, hx350_0⟩ := Kd.at_int HR1.out x10_1 p350 q350
                            have hw350_0 := hx350_0
                            obtain rfl : ad343 = ad350 := (by injection e350)
                            replace hx350_0 := (HB.out.cell (World.block_lt_of_cell? w _ hx350_0)).trans hx350_0
                            replace p350 := eq_true p350; replace q350 := eq_true q350
                            have p351 : 0 ≤ (x10_1 : Int) := of_decide_eq_true (by first | (with_reducible assumption) | assumption)
                            have q351 : x10_1 < (l2.length : Int) := of_decide_eq_true (by first | (with_reducible assumption) | assumption)
                            obtain ⟨ad351, e351, hx351_0⟩ := Kd.at_int HR2.out x10_1 p351 q351
                            have hw351_0 := hx351_0
                            obtain rfl : ad344 = ad351 := (by injection e351)
                            replace hx351_0 := (HB.out.cell (World.block_lt_of_cell? w _ hx351_0)).trans hx351_0
                            replace p351 := eq_true p351; replace q351 := eq_true q351
                            refine start_ (n := 11) (S := fun w' => w'.cell? (ad343.add (x10_1).toNat) = some (.int .i64 (rd l1 x10_1)) ∧ w'.cell? (ad344.add (x10_1).toNat) = some (.int .i64 (rd l2 x10_1))) (ds := []) (nz 11 0) (by kernel_rfl) rfl (by kernel_rfl) ⟨((HB.out.cell (World.block_lt_of_cell? w _ hw350_0)).trans hw350_0), ((HB.out.cell (World.block_lt_of_cell? w _ hw351_0)).trans hw351_0)⟩ (fun hHeld => ?_); refine with_tabW tabulariumlaw21_SafePlays.tab10 tabulariumlaw21_SafePlays.bits10 (fun HT_ HW_ => ?_)
                            generalize w52.drew = w53 at HI337 HI342 HB hx350_0 hx351_0 hHeld ⊢
                            refine zp HT_ 0 48 1 ?_
                            refine zp HT_ 1 49 3 ?_
                            refine zp HT_ 2 50 7 ?_
                            refine zp HT_ 3 51 15 ?_
                            refine zp HT_ 5 53 47 ?_
                            refine zp HT_ 6 54 111 ?_
                            refine zp HT_ 7 55 239 ?_
                            refine zt HT_ HW_ hHeld 4 52 255 ?_
                            refine zt HT_ HW_ hHeld 8 56 511 ?_
                            refine zo HT_ 9 57 1023 (fun K hK => ?_)
                            refine zg Try.func13 #[.pointer (some ⟨g342, 0, none⟩), .int .i64 (rd l1 x10_1), .int .i64 (rd l2 x10_1)] ?_
                            with_reducible refine (tabulariumref21_Safe_See.calls g342 x343000_1 x343001_1 x343002_1 x343003_1 (rd l1 x10_1) (rd l2 x10_1) t352 t353 t354 t355 t356 w _ ?side1 ?side2 A19.out).mono ?_
                            (case side1 => exact nw37 HI342)
                            (case side2 => exact bw2 HB (IsS41.ge HI337.out) (IsS37.ge HI342.out))
                            rintro e w54 ⟨rfl, hi, hb, hk⟩
                            refine ⟨_, rfl, ?_⟩
                            have n0_ := Aside0.mk (show IsS41 w _ g337 t346 t347 t348 t349 from kb41 HI337 hk NS337_342.out)
                            have n1_ := Aside0.mk (hb)
                            have n2_ := Aside0.mk (hi)
                            clear HI337; clear HB; clear HI342; have HI337 := n0_; have HB := n1_; have HI342 := n2_; clear n0_ n1_ n2_; (try clear hb); (try clear hb2); (try clear hk); (try clear hi)
                            refine hK.out _ _ ⟨((HB.out.cell (World.block_lt_of_cell? w _ hw350_0)).trans hw350_0), ((HB.out.cell (World.block_lt_of_cell? w _ hw351_0)).trans hw351_0)⟩ (fun hHeld => ?_)
                            clear hK K
                            refine zn ?_
                            refine zp HT_ 10 12 2047 ?_
                            refine done_ (done_of HT_.out (by kernel_rfl)) ?_
                            try go_wp2_with (first | ((with_reducible refine gate_callee (f := 14) rfl ?_); refine goesL_ (some 60) rfl rfl Try.func14 (by kernel_rfl) rfl #[.pointer (some ⟨g337, 0, none⟩)] rfl (by (try simp only [List.map_toArray, List.map_cons, List.map_nil]); first | done | rfl | (simp only [List.length_drop, List.length_take]; rfl)) ?_; (with_reducible refine (safe_Safe_Seen.calls g337 t346 t347 t348 t349 t357 t358 t359 t360 t361 t362 w _ ?side1 ?side2 A20.out).mono ?_); (case side1 => exact nw41 HI337); (case side2 => exact bw2 HB (IsS41.ge HI337.out) (IsS37.ge HI342.out)); rintro e w55 ⟨rfl, hi, hb, hk⟩; refine ⟨_, rfl, ?_⟩; have n0_ := Aside0.mk (show IsS37 w _ g342 t353 t354 t355 t356 from kb37 HI342 hk NS342_337.out); have n1_ := Aside0.mk (hb); have n2_ := Aside0.mk (hi); clear HI342; clear HB; clear HI337; have HI342 := n0_; have HB := n1_; have HI337 := n2_; clear n0_ n1_ n2_; (try clear hb); (try clear hb2); (try clear hk); (try clear hi)))
                            have n0_ := Aside0.mk (IsS41.drew HI337.out)
                            have n1_ := Aside0.mk (IsS37.drew HI342.out)
                            have n2_ := Aside0.mk (below_drew1 HB.out)
                            clear HI337; clear HI342; clear HB; have HI337 := n0_; have HI342 := n1_; have HB := n2_; clear n0_ n1_ n2_
                            refine start_ (n := 36) (S := fun w' => w'.cell? ⟨g342, 0, none⟩ = some (.float .f64 t353) ∧ w'.cell? ⟨g342, 1, none⟩ = some (.bool t354) ∧ w'.cell? ⟨g342, 2, none⟩ = some (.int .i64 t355) ∧ w'.cell? ⟨g342, 3, none⟩ = some (.int .i64 t356)) (ds := []) (nz 36 0) (by kernel_rfl) rfl (by kernel_rfl) ⟨(blk_cell (Aside0.mk (And.left HI342.out)).out 0).trans rfl, (blk_cell (Aside0.mk (And.left HI342.out)).out 1).trans rfl, (blk_cell (Aside0.mk (And.left HI342.out)).out 2).trans rfl, (blk_cell (Aside0.mk (And.left HI342.out)).out 3).trans rfl⟩ (fun hHeld => ?_); refine with_tabW tabulariumlaw21_SafePlays.tab12 tabulariumlaw21_SafePlays.bits12 (fun HT_ HW_ => ?_)
                            generalize w55.drew = w56 at HI337 HI342 HB hHeld ⊢
                            refine zp HT_ 0 63 1 ?_
                            refine zp HT_ 1 64 3 ?_
                            refine zp HT_ 2 65 7 ?_
                            refine zp HT_ 3 66 15 ?_
                            refine zp HT_ 4 67 31 ?_
                            refine zp HT_ 6 69 95 ?_
                            refine zp HT_ 7 70 223 ?_
                            refine zp HT_ 8 71 479 ?_
                            refine zt HT_ HW_ hHeld 9 72 991 ?_
                            refine zp HT_ 10 73 2015 ?_
                            refine zo HT_ 5 68 2047 (fun K hK => ?_)
                            refine zg Try.func11 #[.pointer (some ⟨g337, 0, none⟩)] ?_
                            with_reducible refine (safe_Safe_On.calls g337 t359 t360 t361 t362 t363 t364 t365 t366 t367 w _ ?side1 ?side2 A28.out).mono ?_
                            (case side1 => exact nw41 HI337)
                            (case side2 => exact bw2 HB (IsS41.ge HI337.out) (IsS37.ge HI342.out))
                            rintro e w57 ⟨rfl, hi, hb, hk⟩
                            refine ⟨_, rfl, ?_⟩
                            have n0_ := Aside0.mk (show IsS37 w _ g342 t353 t354 t355 t356 from kb37 HI342 hk NS342_337.out)
                            have n1_ := Aside0.mk (hb)
                            have n2_ := Aside0.mk (hi)
                            clear HI342; clear HB; clear HI337; have HI342 := n0_; have HB := n1_; have HI337 := n2_; clear n0_ n1_ n2_; (try clear hb); (try clear hb2); (try clear hk); (try clear hi)
                            refine hK.out _ _ ⟨(blk_cell (Aside0.mk (And.left HI342.out)).out 0).trans rfl, (blk_cell (Aside0.mk (And.left HI342.out)).out 1).trans rfl, (blk_cell (Aside0.mk (And.left HI342.out)).out 2).trans rfl, (blk_cell (Aside0.mk (And.left HI342.out)).out 3).trans rfl⟩ (fun hHeld => ?_)
                            clear hK K
                            refine zn ?_
                            refine zp HT_ 11 74 4095 ?_
                            refine zp HT_ 12 75 8191 ?_
                            refine zp HT_ 13 76 16383 ?_
                            refine zp HT_ 14 77 32767 ?_
                            refine zp HT_ 15 78 65535 ?_
                            refine zp HT_ 16 79 131071 ?_
                            refine zp HT_ 17 80 262143 ?_
                            refine zt HT_ HW_ hHeld 18 81 524287 ?_
                            refine zp HT_ 19 82 1048575 ?_
                            refine zp HT_ 20 83 2097151 ?_
                            refine zp HT_ 21 84 4194303 ?_
                            refine zp HT_ 22 85 8388607 ?_
                            refine zp HT_ 23 86 16777215 ?_
                            refine zp HT_ 24 87 33554431 ?_
                            refine zp HT_ 25 88 67108863 ?_
                            refine zt HT_ HW_ hHeld 26 89 134217727 ?_
                            refine zp HT_ 27 90 268435455 ?_
                            refine zp HT_ 28 91 536870911 ?_
                            refine zp HT_ 29 92 1073741823 ?_
                            refine zp HT_ 30 93 2147483647 ?_
                            refine zp HT_ 32 95 6442450943 ?_
                            refine zo HT_ 31 94 8589934591 (fun K hK => ?_)
                            refine zg Try.func10 #[.pointer (some ⟨g337, 0, none⟩)] ?_
                            with_reducible refine (safe_Safe_Missing.calls kj10 g337 t364 t365 t366 t367 t368 t369 t370 t371 t372 w _ ?side1 ?side2 A39.out).mono ?_
                            (case side1 => exact nw41 HI337)
                            (case side2 => exact bw2 HB (IsS41.ge HI337.out) (IsS37.ge HI342.out))
                            rintro e w58 ⟨rfl, hi, hb, hk⟩
                            refine ⟨_, rfl, ?_⟩
                            have n0_ := Aside0.mk (show IsS37 w _ g342 t353 t354 t355 t356 from kb37 HI342 hk NS342_337.out)
                            have n1_ := Aside0.mk (hb)
                            have n2_ := Aside0.mk (hi)
                            clear HI342; clear HB; clear HI337; have HI342 := n0_; have HB := n1_; have HI337 := n2_; clear n0_ n1_ n2_; (try clear hb); (try clear hb2); (try clear hk); (try clear hi)
                            refine hK.out _ _ ⟨(blk_cell (Aside0.mk (And.left HI342.out)).out 0).trans rfl, (blk_cell (Aside0.mk (And.left HI342.out)).out 1).trans rfl, (blk_cell (Aside0.mk (And.left HI342.out)).out 2).trans rfl, (blk_cell (Aside0.mk (And.left HI342.out)).out 3).trans rfl⟩ (fun hHeld => ?_)
                            clear hK K
                            refine zn ?_
                            refine zo HT_ 33 96 17179869183 (fun K hK => ?_)
                            refine zg Try.func15 #[.pointer (some ⟨g342, 0, none⟩)] ?_
                            with_reducible refine (tabulariumref21_Safe_Missing.calls kj10 g342 t353 t354 t355 t356 t373 t374 t375 t376 t377 w _ ?side1 ?side2 A40.out).mono ?_
                            (case side1 => exact nw37 HI342)
                            (case side2 => exact bw2 HB (IsS41.ge HI337.out) (IsS37.ge HI342.out))
                            rintro e w59 ⟨rfl, hi, hb, hk⟩
                            refine ⟨_, rfl, ?_⟩
                            have n0_ := Aside0.mk (show IsS41 w _ g337 t369 t370 t371 t372 from kb41 HI337 hk NS337_342.out)
                            have n1_ := Aside0.mk (hb)
                            have n2_ := Aside0.mk (hi)
                            clear HI337; clear HB; clear HI342; have HI337 := n0_; have HB := n1_; have HI342 := n2_; clear n0_ n1_ n2_; (try clear hb); (try clear hb2); (try clear hk); (try clear hi)
                            obtain ⟨e0_, e1_, e2_, e3_⟩ := tabulariumref21_Safe_Missing.same A40.out
                            refine hK.out _ _ ⟨(blk_cell (Aside0.mk (And.left HI342.out)).out 0).trans (by simp only [e0_, e1_, e2_, e3_]; rfl), (blk_cell (Aside0.mk (And.left HI342.out)).out 1).trans (by simp only [e0_, e1_, e2_, e3_]; rfl), (blk_cell (Aside0.mk (And.left HI342.out)).out 2).trans (by simp only [e0_, e1_, e2_, e3_]; rfl), (blk_cell (Aside0.mk (And.left HI342.out)).out 3).trans (by simp only [e0_, e1_, e2_, e3_]; rfl)⟩ (fun hHeld => ?_)
                            clear hK K
                            refine zn ?_
                            refine zp HT_ 34 97 34359738367 ?_
                            refine zp HT_ 35 98 68719476735 ?_
                            refine done_ (done_of HT_.out (by kernel_rfl)) ?_
                            try go_wp2
                            go_ret
                            exact ⟨by first | rfl | (simp [errW_none, errW_some] <;> rfl) | (simp [*, errW_none, errW_some] <;> rfl), by repeat (first | (with_reducible first | exact HB.out | apply below_alloc | apply pw_below_drewN | apply below_drew1 | refine below_set ?_ (IsS41.ge HI337.out) | refine below_set ?_ (IsS37.ge HI342.out)) | exact HB.out)⟩
                        · rw [if_neg c38] at H
                          have c38b0 : (t358 == t356) = false := beq_eq_false_iff_ne.mpr c38
                          have c38b1 : (t358 != t356) = true := bne_iff_ne.mpr c38
                          obtain rfl := Option.some.inj H
                          try go_wp2
                          have n0_ := Aside0.mk (IsS41.drew HI337.out)
                          have n1_ := Aside0.mk (IsS37.drew HI342.out)
                          have n2_ := Aside0.mk (below_drew1 HB.out)
                          clear HI337; clear HI342; clear HB; have HI337 := n0_; have HI342 := n1_; have HB := n2_; clear n0_ n1_ n2_
                          have p343 : 0 ≤ (x10_1 : Int) := of_decide_eq_true (by first | (with_reducible assumption) | assumption)
                          have q343 : x10_1 < (l1.length : Int) := of_decide_eq_true (by first | (with_reducible assumption) | assumption)
                          obtain ⟨ad343, e343, hx343_0⟩ := Kd.at_int HR1.out x10_1 p343 q343
                          have hw343_0 := hx343_0
                          cases e343
                          replace hx343_0 := (HB.out.cell (World.block_lt_of_cell? w _ hx343_0)).trans hx343_0
                          replace p343 := eq_true p343; replace q343 := eq_true q343
                          have p344 : 0 ≤ (x10_1 : Int) := of_decide_eq_true (by first | (with_reducible assumption) | assumption)
                          have q344 : x10_1 < (l2.length : Int) := of_decide_eq_true (by first | (with_reducible assumption) | assumption)
                          obtain ⟨ad344, e344, hx344_0⟩ := Kd.at_int HR2.out x10_1 p344 q344
                          have hw344_0 := hx344_0
                          cases e344
                          replace hx344_0 := (HB.out.cell (World.block_lt_of_cell? w _ hx344_0)).trans hx344_0
                          replace p344 := eq_true p344; replace q344 := eq_true q344
                          refine start_ (n := 11) (S := fun w' => w'.cell? (ad343.add (x10_1).toNat) = some (.int .i64 (rd l1 x10_1)) ∧ w'.cell? (ad344.add (x10_1).toNat) = some (.int .i64 (rd l2 x10_1))) (ds := []) (nz 11 0) (by kernel_rfl) rfl (by kernel_rfl) ⟨((HB.out.cell (World.block_lt_of_cell? w _ hw343_0)).trans hw343_0), ((HB.out.cell (World.block_lt_of_cell? w _ hw344_0)).trans hw344_0)⟩ (fun hHeld => ?_); refine with_tabW tabulariumlaw21_SafePlays.tab9 tabulariumlaw21_SafePlays.bits9 (fun HT_ HW_ => ?_)
                          generalize wc.drew = w60 at HI337 HI342 HB hx343_0 hx344_0 hHeld ⊢
                          refine zp HT_ 0 38 1 ?_
                          refine zp HT_ 1 39 3 ?_
                          refine zp HT_ 2 40 7 ?_
                          refine zp HT_ 3 41 15 ?_
                          refine zp HT_ 5 43 47 ?_
                          refine zp HT_ 6 44 111 ?_
                          refine zp HT_ 7 45 239 ?_
                          refine zt HT_ HW_ hHeld 4 42 255 ?_
                          refine zt HT_ HW_ hHeld 8 46 511 ?_
                          refine zo HT_ 9 47 1023 (fun K hK => ?_)
                          refine zg Try.func9 #[.pointer (some ⟨g337, 0, none⟩), .int .i64 (rd l1 x10_1), .int .i64 (rd l2 x10_1)] ?_
                          with_reducible refine (safe_Safe_See.calls g337 x338000_1 x338001_1 x338002_1 x338003_1 (rd l1 x10_1) (rd l2 x10_1) t345 t346 t347 t348 t349 w _ ?side1 ?side2 A18.out).mono ?_
                          (case side1 => exact nw41 HI337)
                          (case side2 => exact bw2 HB (IsS41.ge HI337.out) (IsS37.ge HI342.out))
                          rintro e w61 ⟨rfl, hi, hb, hk⟩
                          refine ⟨_, rfl, ?_⟩
                          have n0_ := Aside0.mk (show IsS37 w _ g342 x343000_1 x343001_1 x343002_1 x343003_1 from kb37 HI342 hk NS342_337.out)
                          have n1_ := Aside0.mk (hb)
                          have n2_ := Aside0.mk (hi)
                          clear HI342; clear HB; clear HI337; have HI342 := n0_; have HB := n1_; have HI337 := n2_; clear n0_ n1_ n2_; (try clear hb); (try clear hb2); (try clear hk); (try clear hi)
                          refine hK.out _ _ ⟨((HB.out.cell (World.block_lt_of_cell? w _ hw343_0)).trans hw343_0), ((HB.out.cell (World.block_lt_of_cell? w _ hw344_0)).trans hw344_0)⟩ (fun hHeld => ?_)
                          clear hK K
                          refine zn ?_
                          refine zp HT_ 10 11 2047 ?_
                          refine done_ (done_of HT_.out (by kernel_rfl)) ?_
                          try go_wp2
                          have n0_ := Aside0.mk (IsS41.drew HI337.out)
                          have n1_ := Aside0.mk (IsS37.drew HI342.out)
                          have n2_ := Aside0.mk (below_drew1 HB.out)
                          clear HI337; clear HI342; clear HB; have HI337 := n0_; have HI342 := n1_; have HB := n2_; clear n0_ n1_ n2_
                          have p350 : 0 ≤ (x10_1 : Int) := of_decide_eq_true (by first | (with_reducible assumption) | assumption)
                          have q350 : x10_1 < (l1.length : Int) := of_decide_eq_true (by first | (with_reducible assumption) | assumption)
                          obtain ⟨ad350, e350, hx350_0⟩ := Kd.at_int HR1.out x10_1 p350 q350
                          have hw350_0 := hx350_0
                          obtain rfl : ad343 = ad350 := (by injection e350)
                          replace hx350_0 := (HB.out.cell (World.block_lt_of_cell? w _ hx350_0)).trans hx350_0
                          replace p350 := eq_true p350; replace q350 := eq_true q350
                          have p351 : 0 ≤ (x10_1 : Int) := of_decide_eq_true (by first | (with_reducible assumption) | assumption)
                          have q351 : x10_1 < (l2.length : Int) := of_decide_eq_true (by first | (with_reducible assumption) | assumption)
                          obtain ⟨ad351, e351, hx351_0⟩ := Kd.at_int HR2.out x10_1 p351 q351
                          have hw351_0 := hx351_0
                          obtain rfl : ad344 = ad351 := (by injection e351)
                          replace hx351_0 := (HB.out.cell (World.block_lt_of_cell? w _ hx351_0)).trans hx351_0
                          replace p351 := eq_true p351; replace q351 := eq_true q351
                          refine start_ (n := 11) (S := fun w' => w'.cell? (ad343.add (x10_1).toNat) = some (.int .i64 (rd l1 x10_1)) ∧ w'.cell? (ad344.add (x10_1).toNat) = some (.int .i64 (rd l2 x10_1))) (ds := []) (nz 11 0) (by kernel_rfl) rfl (by kernel_rfl) ⟨((HB.out.cell (World.block_lt_of_cell? w _ hw350_0)).trans hw350_0), ((HB.out.cell (World.block_lt_of_cell? w _ hw351_0)).trans hw351_0)⟩ (fun hHeld => ?_); refine with_tabW tabulariumlaw21_SafePlays.tab10 tabulariumlaw21_SafePlays.bits10 (fun HT_ HW_ => ?_)
                          generalize w61.drew = w62 at HI337 HI342 HB hx350_0 hx351_0 hHeld ⊢
                          refine zp HT_ 0 48 1 ?_
                          refine zp HT_ 1 49 3 ?_
                          refine zp HT_ 2 50 7 ?_
                          refine zp HT_ 3 51 15 ?_
                          refine zp HT_ 5 53 47 ?_
                          refine zp HT_ 6 54 111 ?_
                          refine zp HT_ 7 55 239 ?_
                          refine zt HT_ HW_ hHeld 4 52 255 ?_
                          refine zt HT_ HW_ hHeld 8 56 511 ?_
                          refine zo HT_ 9 57 1023 (fun K hK => ?_)
                          refine zg Try.func13 #[.pointer (some ⟨g342, 0, none⟩), .int .i64 (rd l1 x10_1), .int .i64 (rd l2 x10_1)] ?_
                          with_reducible refine (tabulariumref21_Safe_See.calls g342 x343000_1 x343001_1 x343002_1 x343003_1 (rd l1 x10_1) (rd l2 x10_1) t352 t353 t354 t355 t356 w _ ?side1 ?side2 A19.out).mono ?_
                          (case side1 => exact nw37 HI342)
                          (case side2 => exact bw2 HB (IsS41.ge HI337.out) (IsS37.ge HI342.out))
                          rintro e w63 ⟨rfl, hi, hb, hk⟩
                          refine ⟨_, rfl, ?_⟩
                          have n0_ := Aside0.mk (show IsS41 w _ g337 t346 t347 t348 t349 from kb41 HI337 hk NS337_342.out)
                          have n1_ := Aside0.mk (hb)
                          have n2_ := Aside0.mk (hi)
                          clear HI337; clear HB; clear HI342; have HI337 := n0_; have HB := n1_; have HI342 := n2_; clear n0_ n1_ n2_; (try clear hb); (try clear hb2); (try clear hk); (try clear hi)
                          refine hK.out _ _ ⟨((HB.out.cell (World.block_lt_of_cell? w _ hw350_0)).trans hw350_0), ((HB.out.cell (World.block_lt_of_cell? w _ hw351_0)).trans hw351_0)⟩ (fun hHeld => ?_)
                          clear hK K
                          refine zn ?_
                          refine zp HT_ 10 12 2047 ?_
                          refine done_ (done_of HT_.out (by kernel_rfl)) ?_
                          try go_wp2_with (first | ((with_reducible refine gate_callee (f := 14) rfl ?_); refine goesL_ (some 60) rfl rfl Try.func14 (by kernel_rfl) rfl #[.pointer (some ⟨g337, 0, none⟩)] rfl (by (try simp only [List.map_toArray, List.map_cons, List.map_nil]); first | done | rfl | (simp only [List.length_drop, List.length_take]; rfl)) ?_; (with_reducible refine (safe_Safe_Seen.calls g337 t346 t347 t348 t349 t357 t358 t359 t360 t361 t362 w _ ?side1 ?side2 A20.out).mono ?_); (case side1 => exact nw41 HI337); (case side2 => exact bw2 HB (IsS41.ge HI337.out) (IsS37.ge HI342.out)); rintro e w64 ⟨rfl, hi, hb, hk⟩; refine ⟨_, rfl, ?_⟩; have n0_ := Aside0.mk (show IsS37 w _ g342 t353 t354 t355 t356 from kb37 HI342 hk NS342_337.out); have n1_ := Aside0.mk (hb); have n2_ := Aside0.mk (hi); clear HI342; clear HB; clear HI337; have HI342 := n0_; have HB := n1_; have HI337 := n2_; clear n0_ n1_ n2_; (try clear hb); (try clear hb2); (try clear hk); (try clear hi)))
                          have n0_ := Aside0.mk (IsS41.drew HI337.out)
                          have n1_ := Aside0.mk (IsS37.drew HI342.out)
                          have n2_ := Aside0.mk (below_drew1 HB.out)
                          clear HI337; clear HI342; clear HB; have HI337 := n0_; have HI342 := n1_; have HB := n2_; clear n0_ n1_ n2_
                          refine start_ (n := 36) (S := fun w' => w'.cell? ⟨g342, 0, none⟩ = some (.float .f64 t353) ∧ w'.cell? ⟨g342, 1, none⟩ = some (.bool t354) ∧ w'.cell? ⟨g342, 2, none⟩ = some (.int .i64 t355) ∧ w'.cell? ⟨g342, 3, none⟩ = some (.int .i64 t356)) (ds := []) (nz 36 0) (by kernel_rfl) rfl (by kernel_rfl) ⟨(blk_cell (Aside0.mk (And.left HI342.out)).out 0).trans rfl, (blk_cell (Aside0.mk (And.left HI342.out)).out 1).trans rfl, (blk_cell (Aside0.mk (And.left HI342.out)).out 2).trans rfl, (blk_cell (Aside0.mk (And.left HI342.out)).out 3).trans rfl⟩ (fun hHeld => ?_); refine with_tabW tabulariumlaw21_SafePlays.tab12 tabulariumlaw21_SafePlays.bits12 (fun HT_ HW_ => ?_)
                          generalize w64.drew = w65 at HI337 HI342 HB hHeld ⊢
                          refine zp HT_ 0 63 1 ?_
                          refine zp HT_ 1 64 3 ?_
                          refine zp HT_ 2 65 7 ?_
                          refine zp HT_ 3 66 15 ?_
                          refine zp HT_ 4 67 31 ?_
                          refine zp HT_ 6 69 95 ?_
                          refine zp HT_ 7 70 223 ?_
                          refine zp HT_ 8 71 479 ?_
                          refine zt HT_ HW_ hHeld 9 72 991 ?_
                          refine zp HT_ 10 73 2015 ?_
                          refine zo HT_ 5 68 2047 (fun K hK => ?_)
                          refine zg Try.func11 #[.pointer (some ⟨g337, 0, none⟩)] ?_
                          with_reducible refine (safe_Safe_On.calls g337 t359 t360 t361 t362 t363 t364 t365 t366 t367 w _ ?side1 ?side2 A28.out).mono ?_
                          (case side1 => exact nw41 HI337)
                          (case side2 => exact bw2 HB (IsS41.ge HI337.out) (IsS37.ge HI342.out))
                          rintro e w66 ⟨rfl, hi, hb, hk⟩
                          refine ⟨_, rfl, ?_⟩
                          have n0_ := Aside0.mk (show IsS37 w _ g342 t353 t354 t355 t356 from kb37 HI342 hk NS342_337.out)
                          have n1_ := Aside0.mk (hb)
                          have n2_ := Aside0.mk (hi)
                          clear HI342; clear HB; clear HI337; have HI342 := n0_; have HB := n1_; have HI337 := n2_; clear n0_ n1_ n2_; (try clear hb); (try clear hb2); (try clear hk); (try clear hi)
                          refine hK.out _ _ ⟨(blk_cell (Aside0.mk (And.left HI342.out)).out 0).trans rfl, (blk_cell (Aside0.mk (And.left HI342.out)).out 1).trans rfl, (blk_cell (Aside0.mk (And.left HI342.out)).out 2).trans rfl, (blk_cell (Aside0.mk (And.left HI342.out)).out 3).trans rfl⟩ (fun hHeld => ?_)
                          clear hK K
                          refine zn ?_
                          refine zp HT_ 11 74 4095 ?_
                          refine zp HT_ 12 75 8191 ?_
                          refine zp HT_ 13 76 16383 ?_
                          refine zp HT_ 14 77 32767 ?_
                          refine zp HT_ 15 78 65535 ?_
                          refine zp HT_ 16 79 131071 ?_
                          refine zp HT_ 17 80 262143 ?_
                          refine zt HT_ HW_ hHeld 18 81 524287 ?_
                          refine zp HT_ 19 82 1048575 ?_
                          refine zp HT_ 20 83 2097151 ?_
                          refine zp HT_ 21 84 4194303 ?_
                          refine zp HT_ 22 85 8388607 ?_
                          refine zp HT_ 23 86 16777215 ?_
                          refine zp HT_ 24 87 33554431 ?_
                          refine zp HT_ 25 88 67108863 ?_
                          refine zt HT_ HW_ hHeld 26 89 134217727 ?_
                          refine zp HT_ 27 90 268435455 ?_
                          refine zp HT_ 28 91 536870911 ?_
                          refine zp HT_ 29 92 1073741823 ?_
                          refine zq HT_ 30 93 2147483647 ?_
                          refine zq HT_ 31 94 4294967295 ?_
                          refine zq HT_ 32 95 8589934591 ?_
                          refine zq HT_ 33 96 17179869183 ?_
                          refine zq HT_ 34 97 34359738367 ?_
                          refine zp HT_ 35 98 68719476735 ?_
                          refine done_ (done_of HT_.out (by kernel_rfl)) ?_
                          try go_wp2
                          go_ret
                          exact ⟨by first | rfl | (simp [errW_none, errW_some] <;> rfl) | (simp [*, errW_none, errW_some] <;> rfl), by repeat (first | (with_reducible first | exact HB.out | apply below_alloc | apply pw_below_drewN | apply below_drew1 | refine below_set ?_ (IsS41.ge HI337.out) | refine below_set ?_ (IsS37.ge HI342.out)) | exact HB.out)⟩
                      · rw [if_neg c37] at H
                        have c37b0 : (t357 == t355) = false := beq_eq_false_iff_ne.mpr c37
                        have c37b1 : (t357 != t355) = true := bne_iff_ne.mpr c37
                        obtain rfl := Option.some.inj H
                        try go_wp2
                        have n0_ := Aside0.mk (IsS41.drew HI337.out)
                        have n1_ := Aside0.mk (IsS37.drew HI342.out)
                        have n2_ := Aside0.mk (below_drew1 HB.out)
                        clear HI337; clear HI342; clear HB; have HI337 := n0_; have HI342 := n1_; have HB := n2_; clear n0_ n1_ n2_
                        have p343 : 0 ≤ (x10_1 : Int) := of_decide_eq_true (by first | (with_reducible assumption) | assumption)
                        have q343 : x10_1 < (l1.length : Int) := of_decide_eq_true (by first | (with_reducible assumption) | assumption)
                        obtain ⟨ad343, e343, hx343_0⟩ := Kd.at_int HR1.out x10_1 p343 q343
                        have hw343_0 := hx343_0
                        cases e343
                        replace hx343_0 := (HB.out.cell (World.block_lt_of_cell? w _ hx343_0)).trans hx343_0
                        replace p343 := eq_true p343; replace q343 := eq_true q343
                        have p344 : 0 ≤ (x10_1 : Int) := of_decide_eq_true (by first | (with_reducible assumption) | assumption)
                        have q344 : x10_1 < (l2.length : Int) := of_decide_eq_true (by first | (with_reducible assumption) | assumption)
                        obtain ⟨ad344, e344, hx344_0⟩ := Kd.at_int HR2.out x10_1 p344 q344
                        have hw344_0 := hx344_0
                        cases e344
                        replace hx344_0 := (HB.out.cell (World.block_lt_of_cell? w _ hx344_0)).trans hx344_0
                        replace p344 := eq_true p344; replace q344 := eq_true q344
                        refine start_ (n := 11) (S := fun w' => w'.cell? (ad343.add (x10_1).toNat) = some (.int .i64 (rd l1 x10_1)) ∧ w'.cell? (ad344.add (x10_1).toNat) = some (.int .i64 (rd l2 x10_1))) (ds := []) (nz 11 0) (by kernel_rfl) rfl (by kernel_rfl) ⟨((HB.out.cell (World.block_lt_of_cell? w _ hw343_0)).trans hw343_0), ((HB.out.cell (World.block_lt_of_cell? w _ hw344_0)).trans hw344_0)⟩ (fun hHeld => ?_); refine with_tabW tabulariumlaw21_SafePlays.tab9 tabulariumlaw21_SafePlays.bits9 (fun HT_ HW_ => ?_)
                        generalize wc.drew = w67 at HI337 HI342 HB hx343_0 hx344_0 hHeld ⊢
                        refine zp HT_ 0 38 1 ?_
                        refine zp HT_ 1 39 3 ?_
                        refine zp HT_ 2 40 7 ?_
                        refine zp HT_ 3 41 15 ?_
                        refine zp HT_ 5 43 47 ?_
                        refine zp HT_ 6 44 111 ?_
                        refine zp HT_ 7 45 239 ?_
                        refine zt HT_ HW_ hHeld 4 42 255 ?_
                        refine zt HT_ HW_ hHeld 8 46 511 ?_
                        refine zo HT_ 9 47 1023 (fun K hK => ?_)
                        refine zg Try.func9 #[.pointer (some ⟨g337, 0, none⟩), .int .i64 (rd l1 x10_1), .int .i64 (rd l2 x10_1)] ?_
                        with_reducible refine (safe_Safe_See.calls g337 x338000_1 x338001_1 x338002_1 x338003_1 (rd l1 x10_1) (rd l2 x10_1) t345 t346 t347 t348 t349 w _ ?side1 ?side2 A18.out).mono ?_
                        (case side1 => exact nw41 HI337)
                        (case side2 => exact bw2 HB (IsS41.ge HI337.out) (IsS37.ge HI342.out))
                        rintro e w68 ⟨rfl, hi, hb, hk⟩
                        refine ⟨_, rfl, ?_⟩
                        have n0_ := Aside0.mk (show IsS37 w _ g342 x343000_1 x343001_1 x343002_1 x343003_1 from kb37 HI342 hk NS342_337.out)
                        have n1_ := Aside0.mk (hb)
                        have n2_ := Aside0.mk (hi)
                        clear HI342; clear HB; clear HI337; have HI342 := n0_; have HB := n1_; have HI337 := n2_; clear n0_ n1_ n2_; (try clear hb); (try clear hb2); (try clear hk); (try clear hi)
                        refine hK.out _ _ ⟨((HB.out.cell (World.block_lt_of_cell? w _ hw343_0)).trans hw343_0), ((HB.out.cell (World.block_lt_of_cell? w _ hw344_0)).trans hw344_0)⟩ (fun hHeld => ?_)
                        clear hK K
                        refine zn ?_
                        refine zp HT_ 10 11 2047 ?_
                        refine done_ (done_of HT_.out (by kernel_rfl)) ?_
                        try go_wp2
                        have n0_ := Aside0.mk (IsS41.drew HI337.out)
                        have n1_ := Aside0.mk (IsS37.drew HI342.out)
                        have n2_ := Aside0.mk (below_drew1 HB.out)
                        clear HI337; clear HI342; clear HB; have HI337 := n0_; have HI342 := n1_; have HB := n2_; clear n0_ n1_ n2_
                        have p350 : 0 ≤ (x10_1 : Int) := of_decide_eq_true (by first | (with_reducible assumption) | assumption)
                        have q350 : x10_1 < (l1.length : Int) := of_decide_eq_true (by first | (with_reducible assumption) | assumption)
                        obtain ⟨ad350, e350, hx350_0⟩ := Kd.at_int HR1.out x10_1 p350 q350
                        have hw350_0 := hx350_0
                        obtain rfl : ad343 = ad350 := (by injection e350)
                        replace hx350_0 := (HB.out.cell (World.block_lt_of_cell? w _ hx350_0)).trans hx350_0
                        replace p350 := eq_true p350; replace q350 := eq_true q350
                        have p351 : 0 ≤ (x10_1 : Int) := of_decide_eq_true (by first | (with_reducible assumption) | assumption)
                        have q351 : x10_1 < (l2.length : Int) := of_decide_eq_true (by first | (with_reducible assumption) | assumption)
                        obtain ⟨ad351, e351, hx351_0⟩ := Kd.at_int HR2.out x10_1 p351 q351
                        have hw351_0 := hx351_0
                        obtain rfl : ad344 = ad351 := (by injection e351)
                        replace hx351_0 := (HB.out.cell (World.block_lt_of_cell? w _ hx351_0)).trans hx351_0
                        replace p351 := eq_true p351; replace q351 := eq_true q351
                        refine start_ (n := 11) (S := fun w' => w'.cell? (ad343.add (x10_1).toNat) = some (.int .i64 (rd l1 x10_1)) ∧ w'.cell? (ad344.add (x10_1).toNat) = some (.int .i64 (rd l2 x10_1))) (ds := []) (nz 11 0) (by kernel_rfl) rfl (by kernel_rfl) ⟨((HB.out.cell (World.block_lt_of_cell? w _ hw350_0)).trans hw350_0), ((HB.out.cell (World.block_lt_of_cell? w _ hw351_0)).trans hw351_0)⟩ (fun hHeld => ?_); refine with_tabW tabulariumlaw21_SafePlays.tab10 tabulariumlaw21_SafePlays.bits10 (fun HT_ HW_ => ?_)
                        generalize w68.drew = w69 at HI337 HI342 HB hx350_0 hx351_0 hHeld ⊢
                        refine zp HT_ 0 48 1 ?_
                        refine zp HT_ 1 49 3 ?_
                        refine zp HT_ 2 50 7 ?_
                        refine zp HT_ 3 51 15 ?_
                        refine zp HT_ 5 53 47 ?_
                        refine zp HT_ 6 54 111 ?_
                        refine zp HT_ 7 55 239 ?_
                        refine zt HT_ HW_ hHeld 4 52 255 ?_
                        refine zt HT_ HW_ hHeld 8 56 511 ?_
                        refine zo HT_ 9 57 1023 (fun K hK => ?_)
                        refine zg Try.func13 #[.pointer (some ⟨g342, 0, none⟩), .int .i64 (rd l1 x10_1), .int .i64 (rd l2 x10_1)] ?_
                        with_reducible refine (tabulariumref21_Safe_See.calls g342 x343000_1 x343001_1 x343002_1 x343003_1 (rd l1 x10_1) (rd l2 x10_1) t352 t353 t354 t355 t356 w _ ?side1 ?side2 A19.out).mono ?_
                        (case side1 => exact nw37 HI342)
                        (case side2 => exact bw2 HB (IsS41.ge HI337.out) (IsS37.ge HI342.out))
                        rintro e w70 ⟨rfl, hi, hb, hk⟩
                        refine ⟨_, rfl, ?_⟩
                        have n0_ := Aside0.mk (show IsS41 w _ g337 t346 t347 t348 t349 from kb41 HI337 hk NS337_342.out)
                        have n1_ := Aside0.mk (hb)
                        have n2_ := Aside0.mk (hi)
                        clear HI337; clear HB; clear HI342; have HI337 := n0_; have HB := n1_; have HI342 := n2_; clear n0_ n1_ n2_; (try clear hb); (try clear hb2); (try clear hk); (try clear hi)
                        refine hK.out _ _ ⟨((HB.out.cell (World.block_lt_of_cell? w _ hw350_0)).trans hw350_0), ((HB.out.cell (World.block_lt_of_cell? w _ hw351_0)).trans hw351_0)⟩ (fun hHeld => ?_)
                        clear hK K
                        refine zn ?_
                        refine zp HT_ 10 12 2047 ?_
                        refine done_ (done_of HT_.out (by kernel_rfl)) ?_
                        try go_wp2_with (first | ((with_reducible refine gate_callee (f := 14) rfl ?_); refine goesL_ (some 60) rfl rfl Try.func14 (by kernel_rfl) rfl #[.pointer (some ⟨g337, 0, none⟩)] rfl (by (try simp only [List.map_toArray, List.map_cons, List.map_nil]); first | done | rfl | (simp only [List.length_drop, List.length_take]; rfl)) ?_; (with_reducible refine (safe_Safe_Seen.calls g337 t346 t347 t348 t349 t357 t358 t359 t360 t361 t362 w _ ?side1 ?side2 A20.out).mono ?_); (case side1 => exact nw41 HI337); (case side2 => exact bw2 HB (IsS41.ge HI337.out) (IsS37.ge HI342.out)); rintro e w71 ⟨rfl, hi, hb, hk⟩; refine ⟨_, rfl, ?_⟩; have n0_ := Aside0.mk (show IsS37 w _ g342 t353 t354 t355 t356 from kb37 HI342 hk NS342_337.out); have n1_ := Aside0.mk (hb); have n2_ := Aside0.mk (hi); clear HI342; clear HB; clear HI337; have HI342 := n0_; have HB := n1_; have HI337 := n2_; clear n0_ n1_ n2_; (try clear hb); (try clear hb2); (try clear hk); (try clear hi)))
                        have n0_ := Aside0.mk (IsS41.drew HI337.out)
                        have n1_ := Aside0.mk (IsS37.drew HI342.out)
                        have n2_ := Aside0.mk (below_drew1 HB.out)
                        clear HI337; clear HI342; clear HB; have HI337 := n0_; have HI342 := n1_; have HB := n2_; clear n0_ n1_ n2_
                        refine start_ (n := 36) (S := fun w' => w'.cell? ⟨g342, 0, none⟩ = some (.float .f64 t353) ∧ w'.cell? ⟨g342, 1, none⟩ = some (.bool t354) ∧ w'.cell? ⟨g342, 2, none⟩ = some (.int .i64 t355) ∧ w'.cell? ⟨g342, 3, none⟩ = some (.int .i64 t356)) (ds := []) (nz 36 0) (by kernel_rfl) rfl (by kernel_rfl) ⟨(blk_cell (Aside0.mk (And.left HI342.out)).out 0).trans rfl, (blk_cell (Aside0.mk (And.left HI342.out)).out 1).trans rfl, (blk_cell (Aside0.mk (And.left HI342.out)).out 2).trans rfl, (blk_cell (Aside0.mk (And.left HI342.out)).out 3).trans rfl⟩ (fun hHeld => ?_); refine with_tabW tabulariumlaw21_SafePlays.tab12 tabulariumlaw21_SafePlays.bits12 (fun HT_ HW_ => ?_)
                        generalize w71.drew = w72 at HI337 HI342 HB hHeld ⊢
                        refine zp HT_ 0 63 1 ?_
                        refine zp HT_ 1 64 3 ?_
                        refine zp HT_ 2 65 7 ?_
                        refine zp HT_ 3 66 15 ?_
                        refine zp HT_ 4 67 31 ?_
                        refine zp HT_ 6 69 95 ?_
                        refine zp HT_ 7 70 223 ?_
                        refine zp HT_ 8 71 479 ?_
                        refine zt HT_ HW_ hHeld 9 72 991 ?_
                        refine zp HT_ 10 73 2015 ?_
                        refine zo HT_ 5 68 2047 (fun K hK => ?_)
                        refine zg Try.func11 #[.pointer (some ⟨g337, 0, none⟩)] ?_
                        with_reducible refine (safe_Safe_On.calls g337 t359 t360 t361 t362 t363 t364 t365 t366 t367 w _ ?side1 ?side2 A28.out).mono ?_
                        (case side1 => exact nw41 HI337)
                        (case side2 => exact bw2 HB (IsS41.ge HI337.out) (IsS37.ge HI342.out))
                        rintro e w73 ⟨rfl, hi, hb, hk⟩
                        refine ⟨_, rfl, ?_⟩
                        have n0_ := Aside0.mk (show IsS37 w _ g342 t353 t354 t355 t356 from kb37 HI342 hk NS342_337.out)
                        have n1_ := Aside0.mk (hb)
                        have n2_ := Aside0.mk (hi)
                        clear HI342; clear HB; clear HI337; have HI342 := n0_; have HB := n1_; have HI337 := n2_; clear n0_ n1_ n2_; (try clear hb); (try clear hb2); (try clear hk); (try clear hi)
                        refine hK.out _ _ ⟨(blk_cell (Aside0.mk (And.left HI342.out)).out 0).trans rfl, (blk_cell (Aside0.mk (And.left HI342.out)).out 1).trans rfl, (blk_cell (Aside0.mk (And.left HI342.out)).out 2).trans rfl, (blk_cell (Aside0.mk (And.left HI342.out)).out 3).trans rfl⟩ (fun hHeld => ?_)
                        clear hK K
                        refine zn ?_
                        refine zp HT_ 11 74 4095 ?_
                        refine zp HT_ 12 75 8191 ?_
                        refine zp HT_ 13 76 16383 ?_
                        refine zp HT_ 14 77 32767 ?_
                        refine zp HT_ 15 78 65535 ?_
                        refine zp HT_ 16 79 131071 ?_
                        refine zp HT_ 17 80 262143 ?_
                        refine zt HT_ HW_ hHeld 18 81 524287 ?_
                        refine zp HT_ 19 82 1048575 ?_
                        refine zp HT_ 20 83 2097151 ?_
                        refine zp HT_ 21 84 4194303 ?_
                        refine zq HT_ 22 85 8388607 ?_
                        refine zq HT_ 23 86 16777215 ?_
                        refine zq HT_ 24 87 33554431 ?_
                        refine zq HT_ 25 88 67108863 ?_
                        refine zq HT_ 26 89 134217727 ?_
                        refine zq HT_ 27 90 268435455 ?_
                        refine zp HT_ 28 91 536870911 ?_
                        refine zp HT_ 29 92 1073741823 ?_
                        refine zq HT_ 30 93 2147483647 ?_
                        refine zq HT_ 31 94 4294967295 ?_
                        refine zq HT_ 32 95 8589934591 ?_
                        refine zq HT_ 33 96 17179869183 ?_
                        refine zq HT_ 34 97 34359738367 ?_
                        refine zp HT_ 35 98 68719476735 ?_
                        refine done_ (done_of HT_.out (by kernel_rfl)) ?_
                        try go_wp2
                        go_ret
                        exact ⟨by first | rfl | (simp [errW_none, errW_some] <;> rfl) | (simp [*, errW_none, errW_some] <;> rfl), by repeat (first | (with_reducible first | exact HB.out | apply below_alloc | apply pw_below_drewN | apply below_drew1 | refine below_set ?_ (IsS41.ge HI337.out) | refine below_set ?_ (IsS37.ge HI342.out)) | exact HB.out)⟩
                · rw [if_neg c17] at H
                  exact absurd H (by simp)
              · rw [if_neg c16] at H
                exact absurd H (by simp)
            · rw [if_neg c15] at H
              exact absurd H (by simp)
          · replace c14 := Bool.eq_false_iff.mpr c14
            subst c14
            have H1 : (some t332) = some r := by rw [if_neg (show ¬ (false = true) by decide)] at H; exact H
            clear H
            have H := H1
            clear H1
            obtain rfl := Option.some.inj H
            go_wp2
            go_ret
            exact ⟨by first | rfl | (simp [errW_none, errW_some] <;> rfl) | (simp [*, errW_none, errW_some] <;> rfl), by repeat (first | (with_reducible first | exact HB.out | apply below_alloc | apply pw_below_drewN | apply below_drew1 | refine below_set ?_ (IsS41.ge HI337.out) | refine below_set ?_ (IsS37.ge HI342.out)) | exact HB.out)⟩

/-- THE ONE PURE STATEMENT of tabulariumlaw21_SafePlays: yours. -/
def tabulariumlaw21_SafePlays.Pure : Prop := ∀ (a0 : Nat) (l1 : List Int) (l2 : List Int), (Lit.float .f64 a0).wf = true → l1.length ≤ maxLen → l1.length * 8 ≤ 140737488351232 → (∀ x ∈ l1, (Lit.int .i64 x).wf = true) → l2.length ≤ maxLen → l2.length * 8 ≤ 140737488351232 → (∀ x ∈ l2, (Lit.int .i64 x).wf = true) → ∃ k, tabulariumlaw21_SafePlays.f k a0 l1 l2 = some true
theorem tabulariumlaw21_SafePlays.walk (P : tabulariumlaw21_SafePlays.Pure) (a0 : Nat) (a1 : Option Addr) (len1 cap1 : Nat) (z1 : List Int) (a2 : Option Addr) (len2 cap2 : Nat) (z2 : List Int) (w : World) (w0 : (Lit.float .f64 a0).wf = true) (w1 : (a1 = none ∧ len1 = 0 ∧ cap1 = 0 ∧ z1 = []) ∨ ∃ x, a1 = some x ∧ len1 ≤ cap1 ∧ cap1 ≤ maxLen ∧ z1.length = cap1 ∧ (∀ i, i < z1.length → w.cell? (x.add i) = some (.int .i64 (z1.getD i 0))) ∧ ∀ n ∈ z1, (Lit.int .i64 n).wf = true) (y1 : len1 * 8 ≤ 140737488351232) (w2 : (a2 = none ∧ len2 = 0 ∧ cap2 = 0 ∧ z2 = []) ∨ ∃ x, a2 = some x ∧ len2 ≤ cap2 ∧ cap2 ≤ maxLen ∧ z2.length = cap2 ∧ (∀ i, i < z2.length → w.cell? (x.add i) = some (.int .i64 (z2.getD i 0))) ∧ ∀ n ∈ z2, (Lit.int .i64 n).wf = true) (y2 : len2 * 8 ≤ 140737488351232) :
    Calls Try.prog 6 #[.float .f64 a0, .slice a1 len1 cap1, .slice a2 len2 cap2] w fun e w' => e = .returned (.bool true) ∧ Below w.heap.size w w' := by
  obtain ⟨l1, rfl, hr1, hm1, hw1, hc1⟩ := ReadsInt.ofRowC w1
  obtain ⟨l2, rfl, hr2, hm2, hw2, hc2⟩ := ReadsInt.ofRowC w2
  obtain ⟨k, h⟩ := P a0 l1 l2 w0 hm1 y1 hw1 hm2 y2 hw2
  refine (tabulariumlaw21_SafePlays.calls k a0 _ _ l1 _ _ l2 true w (Kd.C_of_reads (d := (0 : Int)) (h1 := fun _ => rfl) hr1) hc1 (Kd.C_of_reads (d := (0 : Int)) (h1 := fun _ => rfl) hr2) hc2 h).mono ?_
  rintro e w' ⟨rfl, hd⟩
  exact ⟨rfl, hd⟩

end Go.Proofs.Ytabgoiacjfekpaa.P
