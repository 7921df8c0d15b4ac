/- The Go functions of this seat as plain Lean functions, and for each the proof that its call gives what the plain function gives. Printed by a program of this session. -/
import Derived.Test.YtecjdchjaoimfaaPz
import Derived.Test.YtecjdchjaoimfaaPx0
import Derived.Test.YtecjdchjaoimfaaPx2
import Derived.Test.YtecjdchjaoimfaaPx5
import Derived.Test.YtecjdchjaoimfaaPx8
import Derived.Test.YtecjdchjaoimfaaPx9
import Derived.Test.YtecjdchjaoimfaaPx10
import Derived.Test.YtecjdchjaoimfaaPx12
import Derived.Test.YtecjdchjaoimfaaPx15
import Derived.Test.YtecjdchjaoimfaaPx17
namespace Go.Proofs.Ytecjdchjaoimfaa.P
open Go.RowKit Go.Proofs.YtecjdchjaoimfaaW.PrintWords Go.Proofs.YtecjdchjaoimfaaW.PrintLast Go.Proofs.YtecjdchjaoimfaaW.PrintMore
attribute [local go_sem] max2_int min2_int max_two min_two max_three min_three max_four min_four   -- for this text's walks alone
set_option linter.unusedVariables false
set_option linter.unusedSimpArgs false

/-! ### tabulariumlaw10_EditBytes: function 3 -/
mutual
def tabulariumlaw10_EditBytes.l0 : Nat → ByteArray → Bool → ByteArray → Int → ByteArray → Bool → Bool → Int → Int → ByteArray → ByteArray → Int → Int → Int → List Int → Int → ByteArray → ByteArray → Int → Int → Int → List Int → Option (Bool)
 | 0, _, _, _, _, _, _, _, _, _, _, _, _, _, _, _, _, _, _, _, _, _, _ => none
 | k + 1, x1, x5, x6, x7, x8, x9, x11, x12, x215000, x215001, x215002, x215003, x215004, x215005, x215006, x231000, x231001, x231002, x231003, x231004, x231005, x231006 => if x12 < 2 then ((edit_Decode.f k x1).bind fun bt235 => ((tabulariumlaw10_same.f k bt235.1 bt235.2.1 bt235.2.2.1 bt235.2.2.2.1 bt235.2.2.2.2.1 bt235.2.2.2.2.2.1 bt235.2.2.2.2.2.2.1 x231000 x231001 x231002 x231003 x231004 x231005 x231006).bind fun t246 => (if t246 = true then (if (x11 != (bt235.2.2.2.2.2.2.2 == 0)) = true then (tabulariumlaw10_EditBytes.j1 k x1 x5 x6 x7 x8 x9 x11 x12 true x215000 x215001 x215002 x215003 x215004 x215005 x215006 x231000 x231001 x231002 x231003 x231004 x231005 x231006 bt235.1 bt235.2.1 bt235.2.2.1 bt235.2.2.2.1 bt235.2.2.2.2.1 bt235.2.2.2.2.2.1 bt235.2.2.2.2.2.2.1) else (if x11 = true then (tabulariumlaw10_EditBytes.j1 k x1 x5 x6 x7 x8 x9 x11 x12 false x215000 x215001 x215002 x215003 x215004 x215005 x215006 x231000 x231001 x231002 x231003 x231004 x231005 x231006 bt235.1 bt235.2.1 bt235.2.2.1 bt235.2.2.2.1 bt235.2.2.2.2.1 bt235.2.2.2.2.2.1 bt235.2.2.2.2.2.2.1) else (tabulariumlaw10_EditBytes.j1 k x1 x5 x6 x7 x8 x9 x11 x12 (bt235.2.2.2.2.2.2.2 != 2) x215000 x215001 x215002 x215003 x215004 x215005 x215006 x231000 x231001 x231002 x231003 x231004 x231005 x231006 bt235.1 bt235.2.1 bt235.2.2.1 bt235.2.2.2.1 bt235.2.2.2.2.1 bt235.2.2.2.2.2.1 bt235.2.2.2.2.2.2.1))) else (tabulariumlaw10_EditBytes.j1 k x1 x5 x6 x7 x8 x9 x11 x12 true x215000 x215001 x215002 x215003 x215004 x215005 x215006 x231000 x231001 x231002 x231003 x231004 x231005 x231006 bt235.1 bt235.2.1 bt235.2.2.1 bt235.2.2.2.1 bt235.2.2.2.2.1 bt235.2.2.2.2.2.1 bt235.2.2.2.2.2.2.1)))) else (if x5 = true then (if x6.toList = x8.toList then (if x9 = true then (if x7 = 0 then ((edit_Right.f x215000 x215001 x215002 x215003 x215004 x215005 x215006).bind fun t231 => ((tabulariumref10_Right.f k x215000 x215001 x215002 x215003 x215004 x215005 x215006).bind fun t232 => (some (t231 == t232)))) else (some false)) else (if x7 = 1 then ((edit_Right.f x215000 x215001 x215002 x215003 x215004 x215005 x215006).bind fun t233 => ((tabulariumref10_Right.f k x215000 x215001 x215002 x215003 x215004 x215005 x215006).bind fun t234 => (some (t233 == t234)))) else (some false))) else (some false)) else (some false))
def tabulariumlaw10_EditBytes.j1 : Nat → ByteArray → Bool → ByteArray → Int → ByteArray → Bool → Bool → Int → Bool → Int → ByteArray → ByteArray → Int → Int → Int → List Int → Int → ByteArray → ByteArray → Int → Int → Int → List Int → Int → ByteArray → ByteArray → Int → Int → Int → List Int → Option (Bool)
 | 0, _, _, _, _, _, _, _, _, _, _, _, _, _, _, _, _, _, _, _, _, _, _, _, _, _, _, _, _, _, _ => none
 | k + 1, x1, x5, x6, x7, x8, x9, x11, x12, x60, x215000, x215001, x215002, x215003, x215004, x215005, x215006, x231000, x231001, x231002, x231003, x231004, x231005, x231006, x246000, x246001, x246002, x246003, x246004, x246005, x246006 => if x60 = true then (some false) else (tabulariumlaw10_EditBytes.l1 k x1 x5 x6 x7 x8 x9 x11 x12 0 x215000 x215001 x215002 x215003 x215004 x215005 x215006 x231000 x231001 x231002 x231003 x231004 x231005 x231006 x246000 x246001 x246002 x246003 x246004 x246005 x246006)
def tabulariumlaw10_EditBytes.l1 : Nat → ByteArray → Bool → ByteArray → Int → ByteArray → Bool → Bool → Int → Int → Int → ByteArray → ByteArray → Int → Int → Int → List Int → Int → ByteArray → ByteArray → Int → Int → Int → List Int → Int → ByteArray → ByteArray → Int → Int → Int → List Int → Option (Bool)
 | 0, _, _, _, _, _, _, _, _, _, _, _, _, _, _, _, _, _, _, _, _, _, _, _, _, _, _, _, _, _, _ => none
 | k + 1, x1, x5, x6, x7, x8, x9, x11, x12, x16, x215000, x215001, x215002, x215003, x215004, x215005, x215006, x231000, x231001, x231002, x231003, x231004, x231005, x231006, x246000, x246001, x246002, x246003, x246004, x246005, x246006 => if x16 < (x246006.length : Int) then (if 0 ≤ x16 then (tabulariumlaw10_EditBytes.l1 k x1 x5 x6 x7 x8 x9 x11 x12 (wrap64 (x16 + 1)) x215000 x215001 x215002 x215003 x215004 x215005 x215006 x231000 x231001 x231002 x231003 x231004 x231005 x231006 x246000 x246001 x246002 x246003 x246004 x246005 (x246006.set (x16 : Int).toNat (-1))) else (none)) else (tabulariumlaw10_EditBytes.l0 k x1 x5 x6 x7 x8 x9 x11 (wrap64 (x12 + 1)) x215000 x215001 x215002 x215003 x215004 x215005 x215006 x231000 x231001 x231002 x231003 x231004 x231005 x231006)
end
def tabulariumlaw10_EditBytes.f (k : Nat) (a0_0 : Int) (a0_1 : ByteArray) (a0_2 : ByteArray) (a0_3 : Int) (a0_4 : Int) (a0_5 : Int) (l0_6 : List Int) (a1 : ByteArray) : Option (Bool) := (tabulariumlaw10_examples.f k).bind fun t215 => ((edit_Encode.f k a0_0 a0_1 a0_2 a0_3 a0_4 a0_5 l0_6).bind fun bt216 => ((tabulariumref10_Encode.f k a0_0 a0_1 a0_2 a0_3 a0_4 a0_5 l0_6).bind fun bt218 => ((tabulariumref10_Decode.f k a1).bind fun bt220 => (tabulariumlaw10_EditBytes.l0 k a1 t215 bt216.1 bt216.2 bt218.1 bt218.2 bt220.2.2.2.2.2.2.2 0 a0_0 a0_1 a0_2 a0_3 a0_4 a0_5 l0_6 bt220.1 bt220.2.1 bt220.2.2.1 bt220.2.2.2.1 bt220.2.2.2.2.1 bt220.2.2.2.2.2.1 bt220.2.2.2.2.2.2.1))))
theorem tabulariumlaw10_EditBytes.mono_l : ∀ k, (∀ y0 y1 y2 y3 y4 y5 y6 y7 y8 y9 y10 y11 y12 y13 y14 y15 y16 y17 y18 y19 y20 y21, LeO (tabulariumlaw10_EditBytes.l0 k y0 y1 y2 y3 y4 y5 y6 y7 y8 y9 y10 y11 y12 y13 y14 y15 y16 y17 y18 y19 y20 y21) (tabulariumlaw10_EditBytes.l0 (k + 1) y0 y1 y2 y3 y4 y5 y6 y7 y8 y9 y10 y11 y12 y13 y14 y15 y16 y17 y18 y19 y20 y21)) ∧ (∀ y0 y1 y2 y3 y4 y5 y6 y7 y8 y9 y10 y11 y12 y13 y14 y15 y16 y17 y18 y19 y20 y21 y22 y23 y24 y25 y26 y27 y28 y29, LeO (tabulariumlaw10_EditBytes.j1 k y0 y1 y2 y3 y4 y5 y6 y7 y8 y9 y10 y11 y12 y13 y14 y15 y16 y17 y18 y19 y20 y21 y22 y23 y24 y25 y26 y27 y28 y29) (tabulariumlaw10_EditBytes.j1 (k + 1) y0 y1 y2 y3 y4 y5 y6 y7 y8 y9 y10 y11 y12 y13 y14 y15 y16 y17 y18 y19 y20 y21 y22 y23 y24 y25 y26 y27 y28 y29)) ∧ (∀ y0 y1 y2 y3 y4 y5 y6 y7 y8 y9 y10 y11 y12 y13 y14 y15 y16 y17 y18 y19 y20 y21 y22 y23 y24 y25 y26 y27 y28 y29, LeO (tabulariumlaw10_EditBytes.l1 k y0 y1 y2 y3 y4 y5 y6 y7 y8 y9 y10 y11 y12 y13 y14 y15 y16 y17 y18 y19 y20 y21 y22 y23 y24 y25 y26 y27 y28 y29) (tabulariumlaw10_EditBytes.l1 (k + 1) y0 y1 y2 y3 y4 y5 y6 y7 y8 y9 y10 y11 y12 y13 y14 y15 y16 y17 y18 y19 y20 y21 y22 y23 y24 y25 y26 y27 y28 y29))
 | 0 => ⟨fun _ _ _ _ _ _ _ _ _ _ _ _ _ _ _ _ _ _ _ _ _ _ r h => by simp [tabulariumlaw10_EditBytes.l0] at h, fun _ _ _ _ _ _ _ _ _ _ _ _ _ _ _ _ _ _ _ _ _ _ _ _ _ _ _ _ _ _ r h => by simp [tabulariumlaw10_EditBytes.j1] at h, fun _ _ _ _ _ _ _ _ _ _ _ _ _ _ _ _ _ _ _ _ _ _ _ _ _ _ _ _ _ _ r h => by simp [tabulariumlaw10_EditBytes.l1] at h⟩
 | k + 1 => by
  obtain ⟨ih0, ih1, ih2⟩ := tabulariumlaw10_EditBytes.mono_l k
  refine ⟨?_, ?_, ?_⟩
  ·
   intro y0 y1 y2 y3 y4 y5 y6 y7 y8 y9 y10 y11 y12 y13 y14 y15 y16 y17 y18 y19 y20 y21
   unfold tabulariumlaw10_EditBytes.l0
   repeat' first
   | (with_reducible exact ih0 _ _ _ _ _ _ _ _ _ _ _ _ _ _ _ _ _ _ _ _ _ _)
   | (with_reducible exact ih1 _ _ _ _ _ _ _ _ _ _ _ _ _ _ _ _ _ _ _ _ _ _ _ _ _ _ _ _ _ _)
   | (with_reducible exact ih2 _ _ _ _ _ _ _ _ _ _ _ _ _ _ _ _ _ _ _ _ _ _ _ _ _ _ _ _ _ _)
   | (with_reducible exact edit_Decode.mono _ _)
   | (with_reducible exact edit_Encode.mono _ _ _ _ _ _ _ _)
   | (with_reducible exact tabulariumlaw10_examples.mono _)
   | (with_reducible exact tabulariumlaw10_same.mono _ _ _ _ _ _ _ _ _ _ _ _ _ _ _)
   | (with_reducible exact tabulariumref10_Decode.mono _ _)
   | (with_reducible exact tabulariumref10_Encode.mono _ _ _ _ _ _ _ _)
   | (with_reducible exact tabulariumref10_Right.mono _ _ _ _ _ _ _ _)
   | (with_reducible exact LeO.refl _)
   | (with_reducible exact LeO.none _)
   | (with_reducible refine LeO.ite ?_ ?_)
   | (with_reducible refine LeO.bind ?_ (fun _ => ?_))
   | exact ih0 _ _ _ _ _ _ _ _ _ _ _ _ _ _ _ _ _ _ _ _ _ _
   | exact ih1 _ _ _ _ _ _ _ _ _ _ _ _ _ _ _ _ _ _ _ _ _ _ _ _ _ _ _ _ _ _
   | exact ih2 _ _ _ _ _ _ _ _ _ _ _ _ _ _ _ _ _ _ _ _ _ _ _ _ _ _ _ _ _ _
   | exact edit_Decode.mono _ _
   | exact edit_Encode.mono _ _ _ _ _ _ _ _
   | exact tabulariumlaw10_examples.mono _
   | exact tabulariumlaw10_same.mono _ _ _ _ _ _ _ _ _ _ _ _ _ _ _
   | exact tabulariumref10_Decode.mono _ _
   | exact tabulariumref10_Encode.mono _ _ _ _ _ _ _ _
   | exact tabulariumref10_Right.mono _ _ _ _ _ _ _ _
   | exact LeO.none _
   | refine LeO.ite ?_ ?_
   | refine LeO.bind ?_ (fun _ => ?_)
  ·
   intro y0 y1 y2 y3 y4 y5 y6 y7 y8 y9 y10 y11 y12 y13 y14 y15 y16 y17 y18 y19 y20 y21 y22 y23 y24 y25 y26 y27 y28 y29
   unfold tabulariumlaw10_EditBytes.j1
   repeat' first
   | (with_reducible exact ih0 _ _ _ _ _ _ _ _ _ _ _ _ _ _ _ _ _ _ _ _ _ _)
   | (with_reducible exact ih1 _ _ _ _ _ _ _ _ _ _ _ _ _ _ _ _ _ _ _ _ _ _ _ _ _ _ _ _ _ _)
   | (with_reducible exact ih2 _ _ _ _ _ _ _ _ _ _ _ _ _ _ _ _ _ _ _ _ _ _ _ _ _ _ _ _ _ _)
   | (with_reducible exact edit_Decode.mono _ _)
   | (with_reducible exact edit_Encode.mono _ _ _ _ _ _ _ _)
   | (with_reducible exact tabulariumlaw10_examples.mono _)
   | (with_reducible exact tabulariumlaw10_same.mono _ _ _ _ _ _ _ _ _ _ _ _ _ _ _)
   | (with_reducible exact tabulariumref10_Decode.mono _ _)
   | (with_reducible exact tabulariumref10_Encode.mono _ _ _ _ _ _ _ _)
   | (with_reducible exact tabulariumref10_Right.mono _ _ _ _ _ _ _ _)
   | (with_reducible exact LeO.refl _)
   | (with_reducible exact LeO.none _)
   | (with_reducible refine LeO.ite ?_ ?_)
   | (with_reducible refine LeO.bind ?_ (fun _ => ?_))
   | exact ih0 _ _ _ _ _ _ _ _ _ _ _ _ _ _ _ _ _ _ _ _ _ _
   | exact ih1 _ _ _ _ _ _ _ _ _ _ _ _ _ _ _ _ _ _ _ _ _ _ _ _ _ _ _ _ _ _
   | exact ih2 _ _ _ _ _ _ _ _ _ _ _ _ _ _ _ _ _ _ _ _ _ _ _ _ _ _ _ _ _ _
   | exact edit_Decode.mono _ _
   | exact edit_Encode.mono _ _ _ _ _ _ _ _
   | exact tabulariumlaw10_examples.mono _
   | exact tabulariumlaw10_same.mono _ _ _ _ _ _ _ _ _ _ _ _ _ _ _
   | exact tabulariumref10_Decode.mono _ _
   | exact tabulariumref10_Encode.mono _ _ _ _ _ _ _ _
   | exact tabulariumref10_Right.mono _ _ _ _ _ _ _ _
   | exact LeO.none _
   | refine LeO.ite ?_ ?_
   | refine LeO.bind ?_ (fun _ => ?_)
  ·
   intro y0 y1 y2 y3 y4 y5 y6 y7 y8 y9 y10 y11 y12 y13 y14 y15 y16 y17 y18 y19 y20 y21 y22 y23 y24 y25 y26 y27 y28 y29
   unfold tabulariumlaw10_EditBytes.l1
   repeat' first
   | (with_reducible exact ih0 _ _ _ _ _ _ _ _ _ _ _ _ _ _ _ _ _ _ _ _ _ _)
   | (with_reducible exact ih1 _ _ _ _ _ _ _ _ _ _ _ _ _ _ _ _ _ _ _ _ _ _ _ _ _ _ _ _ _ _)
   | (with_reducible exact ih2 _ _ _ _ _ _ _ _ _ _ _ _ _ _ _ _ _ _ _ _ _ _ _ _ _ _ _ _ _ _)
   | (with_reducible exact edit_Decode.mono _ _)
   | (with_reducible exact edit_Encode.mono _ _ _ _ _ _ _ _)
   | (with_reducible exact tabulariumlaw10_examples.mono _)
   | (with_reducible exact tabulariumlaw10_same.mono _ _ _ _ _ _ _ _ _ _ _ _ _ _ _)
   | (with_reducible exact tabulariumref10_Decode.mono _ _)
   | (with_reducible exact tabulariumref10_Encode.mono _ _ _ _ _ _ _ _)
   | (with_reducible exact tabulariumref10_Right.mono _ _ _ _ _ _ _ _)
   | (with_reducible exact LeO.refl _)
   | (with_reducible exact LeO.none _)
   | (with_reducible refine LeO.ite ?_ ?_)
   | (with_reducible refine LeO.bind ?_ (fun _ => ?_))
   | exact ih0 _ _ _ _ _ _ _ _ _ _ _ _ _ _ _ _ _ _ _ _ _ _
   | exact ih1 _ _ _ _ _ _ _ _ _ _ _ _ _ _ _ _ _ _ _ _ _ _ _ _ _ _ _ _ _ _
   | exact ih2 _ _ _ _ _ _ _ _ _ _ _ _ _ _ _ _ _ _ _ _ _ _ _ _ _ _ _ _ _ _
   | exact edit_Decode.mono _ _
   | exact edit_Encode.mono _ _ _ _ _ _ _ _
   | exact tabulariumlaw10_examples.mono _
   | exact tabulariumlaw10_same.mono _ _ _ _ _ _ _ _ _ _ _ _ _ _ _
   | exact tabulariumref10_Decode.mono _ _
   | exact tabulariumref10_Encode.mono _ _ _ _ _ _ _ _
   | exact tabulariumref10_Right.mono _ _ _ _ _ _ _ _
   | exact LeO.none _
   | refine LeO.ite ?_ ?_
   | refine LeO.bind ?_ (fun _ => ?_)
theorem tabulariumlaw10_EditBytes.mono : ∀ a0 a1 a2 a3 a4 a5 a6 a7 k, LeO (tabulariumlaw10_EditBytes.f k a0 a1 a2 a3 a4 a5 a6 a7) (tabulariumlaw10_EditBytes.f (k + 1) a0 a1 a2 a3 a4 a5 a6 a7) := by
 intro a0 a1 a2 a3 a4 a5 a6 a7 k
 obtain ⟨ih0, ih1, ih2⟩ := tabulariumlaw10_EditBytes.mono_l k
 unfold tabulariumlaw10_EditBytes.f
 repeat' first
   | (with_reducible exact ih0 _ _ _ _ _ _ _ _ _ _ _ _ _ _ _ _ _ _ _ _ _ _)
   | (with_reducible exact ih1 _ _ _ _ _ _ _ _ _ _ _ _ _ _ _ _ _ _ _ _ _ _ _ _ _ _ _ _ _ _)
   | (with_reducible exact ih2 _ _ _ _ _ _ _ _ _ _ _ _ _ _ _ _ _ _ _ _ _ _ _ _ _ _ _ _ _ _)
   | (with_reducible exact edit_Decode.mono _ _)
   | (with_reducible exact edit_Encode.mono _ _ _ _ _ _ _ _)
   | (with_reducible exact tabulariumlaw10_examples.mono _)
   | (with_reducible exact tabulariumlaw10_same.mono _ _ _ _ _ _ _ _ _ _ _ _ _ _ _)
   | (with_reducible exact tabulariumref10_Decode.mono _ _)
   | (with_reducible exact tabulariumref10_Encode.mono _ _ _ _ _ _ _ _)
   | (with_reducible exact tabulariumref10_Right.mono _ _ _ _ _ _ _ _)
   | (with_reducible exact LeO.refl _)
   | (with_reducible exact LeO.none _)
   | (with_reducible refine LeO.ite ?_ ?_)
   | (with_reducible refine LeO.bind ?_ (fun _ => ?_))
   | exact ih0 _ _ _ _ _ _ _ _ _ _ _ _ _ _ _ _ _ _ _ _ _ _
   | exact ih1 _ _ _ _ _ _ _ _ _ _ _ _ _ _ _ _ _ _ _ _ _ _ _ _ _ _ _ _ _ _
   | exact ih2 _ _ _ _ _ _ _ _ _ _ _ _ _ _ _ _ _ _ _ _ _ _ _ _ _ _ _ _ _ _
   | exact edit_Decode.mono _ _
   | exact edit_Encode.mono _ _ _ _ _ _ _ _
   | exact tabulariumlaw10_examples.mono _
   | exact tabulariumlaw10_same.mono _ _ _ _ _ _ _ _ _ _ _ _ _ _ _
   | exact tabulariumref10_Decode.mono _ _
   | exact tabulariumref10_Encode.mono _ _ _ _ _ _ _ _
   | exact tabulariumref10_Right.mono _ _ _ _ _ _ _ _
   | exact LeO.none _
   | refine LeO.ite ?_ ?_
   | refine LeO.bind ?_ (fun _ => ?_)
def tabulariumlaw10_EditBytes.T16 : Bool × List (List Nat × List Nat) := (true, [([], []), ([0], [0]), ([1], [1]), ([1], [1]), ([2, 3, 1], [1, 2, 3]), ([1, 4], [1, 4]), ([5, 1], [5]), ([6], [6]), ([7, 6, 6], [6, 7]), ([8], [8]), ([9, 8], [8, 9]), ([8, 10, 6], [6, 8, 10]), ([11, 8, 6], [6, 11]), ([12], [12]), ([13, 12], [12, 13]), ([14, 12, 12], [12, 14]), ([15], [15]), ([16, 15], [15, 16]), ([15, 17, 12], [12, 15, 17]), ([12, 18, 6], [6, 12, 18]), ([6, 19], [6, 19]), ([20, 15], [20]), ([21], [21]), ([22, 21, 21], [21, 22]), ([21], [21]), ([24, 23, 21], [21, 24]), ([23, 25, 21], [21, 23, 25]), ([21, 26], [21, 26]), ([27, 25, 0, 1, 2, 3, 4, 5, 6, 7, 8, 9, 10, 11, 12, 13, 14, 15, 16, 17, 18, 19, 20, 21, 22, 23, 24, 25, 26, 27], [27])])
def tabulariumlaw10_EditBytes.B16 : List Nat := [0, 1, 3, 3, 15, 31, 63, 127, 255, 511, 1023, 2047, 4095, 8191, 16383, 32767, 65535, 131071, 262143, 524287, 1048575, 2097151, 4194303, 8388607, 4194303, 33554431, 67108863, 134217727, 268435455]
theorem tabulariumlaw10_EditBytes.tab16 : rtab .any (opsOf Try.f3 16) = tabulariumlaw10_EditBytes.T16 := by kernel_rfl
theorem tabulariumlaw10_EditBytes.bits16 : waitsOk tabulariumlaw10_EditBytes.T16.2 tabulariumlaw10_EditBytes.B16 = true := by kernel_rfl
set_option maxHeartbeats 8000000 in
set_option maxRecDepth 100000 in
theorem tabulariumlaw10_EditBytes.calls (k : Nat) (a0_0 : Int) (a0_1 : ByteArray) (a0_2 : ByteArray) (a0_3 : Int) (a0_4 : Int) (a0_5 : Int) (A0_6 : Option Addr) (c0_6 : Nat) (l0_6 : List Int) (a1 : ByteArray) (r : Bool) (w : World) (hr0_6 : Kd.C (Kd.int .i64) w A0_6 l0_6.length l0_6) (hc0_6 : l0_6.length ≤ c0_6) (h : tabulariumlaw10_EditBytes.f k a0_0 a0_1 a0_2 a0_3 a0_4 a0_5 l0_6 a1 = some r) :
  Calls Try.prog 3 #[.agg #[.int .i64 a0_0, .string a0_1, .string a0_2, .int .i64 a0_3, .int .i64 a0_4, .int .i64 a0_5, .slice A0_6 l0_6.length c0_6], .string a1] w fun e w' => e = .returned (.bool r) ∧ Below w.heap.size w w' := by
 have hu24 := Try.underlying24
 have HR0_6 := Aside0.mk hr0_6
 have HC0_6 := Aside0.mk hc0_6
 clear hr0_6 hc0_6
 have HB := Aside0.mk (Below.refl w.heap.size w)
 have H : ((tabulariumlaw10_examples.f k).bind fun t215 => ((edit_Encode.f k a0_0 a0_1 a0_2 a0_3 a0_4 a0_5 l0_6).bind fun bt216 => ((tabulariumref10_Encode.f k a0_0 a0_1 a0_2 a0_3 a0_4 a0_5 l0_6).bind fun bt218 => ((tabulariumref10_Decode.f k a1).bind fun bt220 => (tabulariumlaw10_EditBytes.l0 k a1 t215 bt216.1 bt216.2 bt218.1 bt218.2 bt220.2.2.2.2.2.2.2 0 a0_0 a0_1 a0_2 a0_3 a0_4 a0_5 l0_6 bt220.1 bt220.2.1 bt220.2.2.1 bt220.2.2.2.1 bt220.2.2.2.2.1 bt220.2.2.2.2.2.1 bt220.2.2.2.2.2.2.1))))) = some r := h
 clear h
 replace H := Option.bind_eq_some_iff.mp H
 obtain ⟨t215, A30, H⟩ := H
 replace H : ((edit_Encode.f k a0_0 a0_1 a0_2 a0_3 a0_4 a0_5 l0_6).bind fun bt216 => ((tabulariumref10_Encode.f k a0_0 a0_1 a0_2 a0_3 a0_4 a0_5 l0_6).bind fun bt218 => ((tabulariumref10_Decode.f k a1).bind fun bt220 => (tabulariumlaw10_EditBytes.l0 k a1 t215 bt216.1 bt216.2 bt218.1 bt218.2 bt220.2.2.2.2.2.2.2 0 a0_0 a0_1 a0_2 a0_3 a0_4 a0_5 l0_6 bt220.1 bt220.2.1 bt220.2.2.1 bt220.2.2.2.1 bt220.2.2.2.2.1 bt220.2.2.2.2.2.1 bt220.2.2.2.2.2.2.1)))) = some r := H
 have A3 := Aside0.mk A30
 clear A30
 replace H := Option.bind_eq_some_iff.mp H
 obtain ⟨⟨t216, t217⟩, A40, H⟩ := H
 replace H : ((tabulariumref10_Encode.f k a0_0 a0_1 a0_2 a0_3 a0_4 a0_5 l0_6).bind fun bt218 => ((tabulariumref10_Decode.f k a1).bind fun bt220 => (tabulariumlaw10_EditBytes.l0 k a1 t215 t216 t217 bt218.1 bt218.2 bt220.2.2.2.2.2.2.2 0 a0_0 a0_1 a0_2 a0_3 a0_4 a0_5 l0_6 bt220.1 bt220.2.1 bt220.2.2.1 bt220.2.2.2.1 bt220.2.2.2.2.1 bt220.2.2.2.2.2.1 bt220.2.2.2.2.2.2.1))) = some r := H
 have A4 := Aside0.mk A40
 clear A40
 replace H := Option.bind_eq_some_iff.mp H
 obtain ⟨⟨t218, t219⟩, A50, H⟩ := H
 replace H : ((tabulariumref10_Decode.f k a1).bind fun bt220 => (tabulariumlaw10_EditBytes.l0 k a1 t215 t216 t217 t218 t219 bt220.2.2.2.2.2.2.2 0 a0_0 a0_1 a0_2 a0_3 a0_4 a0_5 l0_6 bt220.1 bt220.2.1 bt220.2.2.1 bt220.2.2.2.1 bt220.2.2.2.2.1 bt220.2.2.2.2.2.1 bt220.2.2.2.2.2.2.1)) = some r := H
 have A5 := Aside0.mk A50
 clear A50
 replace H := Option.bind_eq_some_iff.mp H
 obtain ⟨⟨t220, t221, t222, t223, t224, t225, t226, t229⟩, A60, H⟩ := H
 replace H : (tabulariumlaw10_EditBytes.l0 k a1 t215 t216 t217 t218 t219 t229 0 a0_0 a0_1 a0_2 a0_3 a0_4 a0_5 l0_6 t220 t221 t222 t223 t224 t225 t226) = some r := H
 have A6 := Aside0.mk A60
 clear A60
 have H' := Aside0.mk H
 clear H
 go_enter Try.func3, Try.ntmps3
 go_wp2_with (first | ((with_reducible refine gate_dst (N := 2) rfl ?_); refine box_event ?hg (N := 2) ?hd (cs := #[.int .i64 a0_0, .string a0_1, .string a0_2, .int .i64 a0_3, .int .i64 a0_4, .int .i64 a0_5, .slice A0_6 l0_6.length c0_6]) (t := 24) ?hr ?_; (case hd => rfl); (case hg => rfl); (case hr => first | (go_simp; done) | (go_simp; rfl)); intro gb214 hg w7 hbox hb; have n0_ := Aside0.mk (below_step (by exact bw0 HB) hb); have n1_ := Aside0.mk (hbox); have n2_ := Aside0.mk ((by rw [hg]; exact (below_size (by exact bw0 HB)) : w.heap.size ≤ gb214)); have n3_ := Aside0.mk ((by rw [hg]; exact (below_size (by exact bw0 HB)) : w.heap.size ≤ gb214)); clear HB; have HB := n0_; have BK214 := n1_; have GW214 := n2_; have GE214 := n3_; clear n0_ n1_ n2_ n3_; clear hb hbox hg) | ((with_reducible refine gate_callee (f := 7) rfl ?_); refine goesL_ (some 17) rfl rfl Try.func7 (by kernel_rfl) rfl #[] rfl (by (try simp only [List.map_toArray, List.map_cons, List.map_nil]); first | done | rfl | (simp only [List.length_drop, List.length_take]; rfl)) ?_; (with_reducible refine (tabulariumlaw10_examples.calls k  t215 _ A3.out).mono ?_); rintro e w8 ⟨rfl, hb⟩; refine ⟨_, rfl, ?_⟩; have n0_ := Aside0.mk (blk_below (g := gb214) (o := .cells #[.int .i64 a0_0, .string a0_1, .string a0_2, .int .i64 a0_3, .int .i64 a0_4, .int .i64 a0_5, .slice A0_6 l0_6.length c0_6] 24 (0, 0)) (kx BK214) hb); have n1_ := Aside0.mk (below_step (by exact bw1 HB GE214.out) hb); clear BK214; clear HB; have BK214 := n0_; have HB := n1_; clear n0_ n1_; (try clear hb); (try clear hb2); (try clear hk); (try clear hi); have hcz9_0 : w8.cell? ⟨gb214, 0, none⟩ = some (.int .i64 a0_0) := (blk_cell BK214.out 0).trans rfl; have hcz9_1 : w8.cell? ⟨gb214, 1, none⟩ = some (.string a0_1) := (blk_cell BK214.out 1).trans rfl; have hcz9_2 : w8.cell? ⟨gb214, 2, none⟩ = some (.string a0_2) := (blk_cell BK214.out 2).trans rfl; have hcz9_3 : w8.cell? ⟨gb214, 3, none⟩ = some (.int .i64 a0_3) := (blk_cell BK214.out 3).trans rfl; have hcz9_4 : w8.cell? ⟨gb214, 4, none⟩ = some (.int .i64 a0_4) := (blk_cell BK214.out 4).trans rfl; have hcz9_5 : w8.cell? ⟨gb214, 5, none⟩ = some (.int .i64 a0_5) := (blk_cell BK214.out 5).trans rfl; have hcz9_6 : w8.cell? ⟨gb214, 6, none⟩ = some (.slice A0_6 l0_6.length c0_6) := (blk_cell BK214.out 6).trans rfl; have hfz9_0 := blk_frozen BK214.out 0; have hfz9_1 := blk_frozen BK214.out 1; have hfz9_2 := blk_frozen BK214.out 2; have hfz9_3 := blk_frozen BK214.out 3; have hfz9_4 := blk_frozen BK214.out 4; have hfz9_5 := blk_frozen BK214.out 5; have hfz9_6 := blk_frozen BK214.out 6) | ((with_reducible refine gate_callee (f := 8) rfl ?_); refine goesL_ (some 20) rfl rfl Try.func8 (by kernel_rfl) rfl #[.agg #[.int .i64 a0_0, .string a0_1, .string a0_2, .int .i64 a0_3, .int .i64 a0_4, .int .i64 a0_5, .slice A0_6 l0_6.length c0_6]] rfl (by (try simp only [List.map_toArray, List.map_cons, List.map_nil]); first | done | rfl | (simp only [List.length_drop, List.length_take]; rfl)) ?_; (with_reducible refine (edit_Encode.calls k a0_0 a0_1 a0_2 a0_3 a0_4 a0_5 _ _ l0_6 t216 t217 _ ?side1 ?side2 A4.out).mono ?_); (case side1 => repeat (first | exact (Kd.C_below HR0_6.out HB.out) | (with_reducible refine Kd.C_alloc ?_ _) | (with_reducible refine Kd.C_drewN ?_ _) | (with_reducible refine Kd.C_drew ?_))); (case side2 => exact HC0_6.out); rintro e w10 ⟨rfl, hb⟩; refine ⟨_, rfl, ?_⟩; have n0_ := Aside0.mk (blk_below (g := gb214) (o := .cells #[.int .i64 a0_0, .string a0_1, .string a0_2, .int .i64 a0_3, .int .i64 a0_4, .int .i64 a0_5, .slice A0_6 l0_6.length c0_6] 24 (0, 0)) (kx BK214) hb); have n1_ := Aside0.mk (below_step (by exact bw1 HB GE214.out) hb); clear BK214; clear HB; have BK214 := n0_; have HB := n1_; clear n0_ n1_; (try clear hb); (try clear hb2); (try clear hk); (try clear hi); have hcz11_0 : w10.cell? ⟨gb214, 0, none⟩ = some (.int .i64 a0_0) := (blk_cell BK214.out 0).trans rfl; have hcz11_1 : w10.cell? ⟨gb214, 1, none⟩ = some (.string a0_1) := (blk_cell BK214.out 1).trans rfl; have hcz11_2 : w10.cell? ⟨gb214, 2, none⟩ = some (.string a0_2) := (blk_cell BK214.out 2).trans rfl; have hcz11_3 : w10.cell? ⟨gb214, 3, none⟩ = some (.int .i64 a0_3) := (blk_cell BK214.out 3).trans rfl; have hcz11_4 : w10.cell? ⟨gb214, 4, none⟩ = some (.int .i64 a0_4) := (blk_cell BK214.out 4).trans rfl; have hcz11_5 : w10.cell? ⟨gb214, 5, none⟩ = some (.int .i64 a0_5) := (blk_cell BK214.out 5).trans rfl; have hcz11_6 : w10.cell? ⟨gb214, 6, none⟩ = some (.slice A0_6 l0_6.length c0_6) := (blk_cell BK214.out 6).trans rfl; have hfz11_0 := blk_frozen BK214.out 0; have hfz11_1 := blk_frozen BK214.out 1; have hfz11_2 := blk_frozen BK214.out 2; have hfz11_3 := blk_frozen BK214.out 3; have hfz11_4 := blk_frozen BK214.out 4; have hfz11_5 := blk_frozen BK214.out 5; have hfz11_6 := blk_frozen BK214.out 6) | ((with_reducible refine gate_callee (f := 9) rfl ?_); refine goesL_ (some 25) rfl rfl Try.func9 (by kernel_rfl) rfl #[.agg #[.int .i64 a0_0, .string a0_1, .string a0_2, .int .i64 a0_3, .int .i64 a0_4, .int .i64 a0_5, .slice A0_6 l0_6.length c0_6]] rfl (by (try simp only [List.map_toArray, List.map_cons, List.map_nil]); first | done | rfl | (simp only [List.length_drop, List.length_take]; rfl)) ?_; (with_reducible refine (tabulariumref10_Encode.calls k a0_0 a0_1 a0_2 a0_3 a0_4 a0_5 _ _ l0_6 t218 t219 _ ?side1 ?side2 A5.out).mono ?_); (case side1 => repeat (first | exact (Kd.C_below HR0_6.out HB.out) | (with_reducible refine Kd.C_alloc ?_ _) | (with_reducible refine Kd.C_drewN ?_ _) | (with_reducible refine Kd.C_drew ?_))); (case side2 => exact HC0_6.out); rintro e w12 ⟨rfl, hb⟩; refine ⟨_, rfl, ?_⟩; have n0_ := Aside0.mk (blk_below (g := gb214) (o := .cells #[.int .i64 a0_0, .string a0_1, .string a0_2, .int .i64 a0_3, .int .i64 a0_4, .int .i64 a0_5, .slice A0_6 l0_6.length c0_6] 24 (0, 0)) (kx BK214) hb); have n1_ := Aside0.mk (below_step (by exact bw1 HB GE214.out) hb); clear BK214; clear HB; have BK214 := n0_; have HB := n1_; clear n0_ n1_; (try clear hb); (try clear hb2); (try clear hk); (try clear hi)) | ((with_reducible refine gate_callee (f := 10) rfl ?_); refine goesL_ (some 30) rfl rfl Try.func10 (by kernel_rfl) rfl #[.string a1] rfl (by (try simp only [List.map_toArray, List.map_cons, List.map_nil]); first | done | rfl | (simp only [List.length_drop, List.length_take]; rfl)) ?_; (with_reducible refine (tabulariumref10_Decode.calls k a1 t220 t221 t222 t223 t224 t225 t226 t229 _ A6.out).mono ?_); rintro e w13 ⟨v227, rfl, ho0, hb⟩; refine ⟨_, rfl, ?_⟩; have n0_ := Aside0.mk (Kd.R_lower ho0 (below_size (by exact bw1 HB GE214.out))); have n1_ := Aside0.mk (blk_below (g := gb214) (o := .cells #[.int .i64 a0_0, .string a0_1, .string a0_2, .int .i64 a0_3, .int .i64 a0_4, .int .i64 a0_5, .slice A0_6 l0_6.length c0_6] 24 (0, 0)) (kx BK214) hb); have n2_ := Aside0.mk (below_step (by exact bw1 HB GE214.out) hb); clear BK214; clear HB; have HO228 := n0_; have BK214 := n1_; have HB := n2_; clear n0_ n1_ n2_; (try clear hb); (try clear hb2); (try clear hk); (try clear hi); (try clear ho0)) | ((with_reducible refine gate_dst (N := 10) rfl ?_); refine box_event ?hg (N := 10) ?hd (cs := #[.int .i64 0, .string (⟨#[]⟩ : ByteArray), .string (⟨#[]⟩ : ByteArray), .int .i64 0, .int .i64 0, .int .i64 0, .slice none 0 0]) (t := 24) ?hr ?_; (case hd => rfl); (case hg => rfl); (case hr => first | (go_simp; done) | (go_simp; rfl)); intro gb230 hg w14 hbox hb; have n0_ := Aside0.mk (Kd.R_below (by (with_reducible repeat (first | apply Kd.R_alloc | apply Kd.R_drewN | apply Kd.R_drew)); exact HO228.out) hb); have n1_ := Aside0.mk (blk_below (g := gb214) (o := .cells #[.int .i64 a0_0, .string a0_1, .string a0_2, .int .i64 a0_3, .int .i64 a0_4, .int .i64 a0_5, .slice A0_6 l0_6.length c0_6] 24 (0, 0)) (kx BK214) hb); have n2_ := Aside0.mk (below_step (by exact bw1 HB GE214.out) hb); have n3_ := Aside0.mk (hbox); have n4_ := Aside0.mk ((by rw [hg]; exact (below_size (by exact bw1 HB GE214.out)) : w.heap.size ≤ gb230)); have n5_ := Aside0.mk ((by rw [hg]; exact (below_size (by exact bw1 HB GE214.out)) : w.heap.size ≤ gb230)); have n6_ := Aside0.mk ((by rw [hg]; exact Nat.ne_of_lt (blk_lt (g := gb214) (o := .cells #[.int .i64 a0_0, .string a0_1, .string a0_2, .int .i64 a0_3, .int .i64 a0_4, .int .i64 a0_5, .slice A0_6 l0_6.length c0_6] 24 (0, 0)) (kx BK214)) : gb214 ≠ gb230)); have n7_ := Aside0.mk ((by rw [hg]; exact Nat.ne_of_gt (blk_lt (g := gb214) (o := .cells #[.int .i64 a0_0, .string a0_1, .string a0_2, .int .i64 a0_3, .int .i64 a0_4, .int .i64 a0_5, .slice A0_6 l0_6.length c0_6] 24 (0, 0)) (kx BK214)) : gb230 ≠ gb214)); clear HO228; clear BK214; clear HB; have HO228 := n0_; have BK214 := n1_; have HB := n2_; have BK230 := n3_; have GW230 := n4_; have GE230 := n5_; have NB214_230 := n6_; have NB230_214 := n7_; clear n0_ n1_ n2_ n3_ n4_ n5_ n6_ n7_; clear hb hbox hg; have hnb15 := NB230_214.out; have hnc15 := NB214_230.out; have hcz16_0 : w14.cell? ⟨gb230, 0, none⟩ = some (.int .i64 0) := (blk_cell BK230.out 0).trans rfl; have hcz16_1 : w14.cell? ⟨gb230, 1, none⟩ = some (.string (⟨#[]⟩ : ByteArray)) := (blk_cell BK230.out 1).trans rfl; have hcz16_2 : w14.cell? ⟨gb230, 2, none⟩ = some (.string (⟨#[]⟩ : ByteArray)) := (blk_cell BK230.out 2).trans rfl; have hcz16_3 : w14.cell? ⟨gb230, 3, none⟩ = some (.int .i64 0) := (blk_cell BK230.out 3).trans rfl; have hcz16_4 : w14.cell? ⟨gb230, 4, none⟩ = some (.int .i64 0) := (blk_cell BK230.out 4).trans rfl; have hcz16_5 : w14.cell? ⟨gb230, 5, none⟩ = some (.int .i64 0) := (blk_cell BK230.out 5).trans rfl; have hcz16_6 : w14.cell? ⟨gb230, 6, none⟩ = some (.slice none 0 0) := (blk_cell BK230.out 6).trans rfl; have hfz16_0 := blk_frozen BK230.out 0; have hfz16_1 := blk_frozen BK230.out 1; have hfz16_2 := blk_frozen BK230.out 2; have hfz16_3 := blk_frozen BK230.out 3; have hfz16_4 := blk_frozen BK230.out 4; have hfz16_5 := blk_frozen BK230.out 5; have hfz16_6 := blk_frozen BK230.out 6; obtain ⟨Ao17, co17, eo17⟩ := Kd.R_slice HO228.out; subst eo17))
 go_loopg [12] k (fun kq v12 w' => ∃ (x12_1 : Int) (x231006_1 : List Int) (u231006 : Value), v12 = .int .i64 x12_1 ∧ Aside0 (tabulariumlaw10_EditBytes.l0 kq a1 t215 t216 t217 t218 t219 t229 x12_1 a0_0 a0_1 a0_2 a0_3 a0_4 a0_5 l0_6 t220 t221 t222 t223 t224 t225 x231006_1 = some r) ∧ Aside0 (kq ≤ k) ∧ Aside0 (Kd.R (Kd.int .i64) 3 w' w.heap.size (fun _ => True) u231006 x231006_1) ∧ Aside0 (w'.heap[gb214]? = some (.cells #[.int .i64 a0_0, .string a0_1, .string a0_2, .int .i64 a0_3, .int .i64 a0_4, .int .i64 a0_5, (.slice A0_6 l0_6.length c0_6)] 24 (0, 0))) ∧ Aside0 (w'.heap[gb230]? = some (.cells #[.int .i64 t220, .string t221, .string t222, .int .i64 t223, .int .i64 t224, .int .i64 t225, u231006] 24 (0, 0))) ∧ Aside0 (Below w.heap.size w w'))
 case atStart => exact ⟨(0), (t226), (.slice Ao17 t226.length co17), (by first | rfl | (simp; done) | (simp [*]; done) | (simp; exact (fun (l_ : List UInt8) => by cases l_ <;> rfl : ∀ l_ : List UInt8, l_.isEmpty = !(l_ != [])) _)), H', ⟨Nat.le_refl _⟩, ⟨by (with_reducible repeat (first | apply Kd.R_alloc | apply Kd.R_drewN | apply Kd.R_drew)); exact Kd.R_mono (Kd.R_far (p := ⟨gb230, 6, none⟩) (Kd.R_far (p := ⟨gb230, 5, none⟩) (Kd.R_far (p := ⟨gb230, 4, none⟩) (Kd.R_far (p := ⟨gb230, 3, none⟩) (Kd.R_far (p := ⟨gb230, 2, none⟩) (Kd.R_far (p := ⟨gb230, 1, none⟩) (Kd.R_far (p := ⟨gb230, 0, none⟩) (Kd.R_types HO228.out BK230.out (by decide)) (fun _ hk => hk.2) (.int .i64 t220)) (fun _ hk => hk.2) (.string t221)) (fun _ hk => hk.2) (.string t222)) (fun _ hk => hk.2) (.int .i64 t223)) (fun _ hk => hk.2) (.int .i64 t224)) (fun _ hk => hk.2) (.int .i64 t225)) (fun _ hk => hk.2) (.slice Ao17 t226.length co17)) (fun _ hk => trivial)⟩, ⟨by (with_reducible repeat (first | refine blk_drewN ?_ _ | refine blk_drew ?_ | refine blk_alloc ?_ _)); refine blk_far ?_ NB214_230.out _; (with_reducible repeat (first | refine blk_drewN ?_ _ | refine blk_drew ?_ | refine blk_alloc ?_ _)); refine blk_far ?_ NB214_230.out _; (with_reducible repeat (first | refine blk_drewN ?_ _ | refine blk_drew ?_ | refine blk_alloc ?_ _)); refine blk_far ?_ NB214_230.out _; (with_reducible repeat (first | refine blk_drewN ?_ _ | refine blk_drew ?_ | refine blk_alloc ?_ _)); refine blk_far ?_ NB214_230.out _; (with_reducible repeat (first | refine blk_drewN ?_ _ | refine blk_drew ?_ | refine blk_alloc ?_ _)); refine blk_far ?_ NB214_230.out _; (with_reducible repeat (first | refine blk_drewN ?_ _ | refine blk_drew ?_ | refine blk_alloc ?_ _)); refine blk_far ?_ NB214_230.out _; (with_reducible repeat (first | refine blk_drewN ?_ _ | refine blk_drew ?_ | refine blk_alloc ?_ _)); refine blk_far ?_ NB214_230.out _; (with_reducible repeat (first | refine blk_drewN ?_ _ | refine blk_drew ?_ | refine blk_alloc ?_ _)); exact BK214.out⟩, ⟨by (with_reducible repeat (first | refine blk_drewN ?_ _ | refine blk_drew ?_ | refine blk_alloc ?_ _)); refine blk_put (cs := #[.int .i64 t220, .string t221, .string t222, .int .i64 t223, .int .i64 t224, .int .i64 t225, .slice none 0 0]) ?_ 6 _ rfl; (with_reducible repeat (first | refine blk_drewN ?_ _ | refine blk_drew ?_ | refine blk_alloc ?_ _)); refine blk_put (cs := #[.int .i64 t220, .string t221, .string t222, .int .i64 t223, .int .i64 t224, .int .i64 0, .slice none 0 0]) ?_ 5 _ rfl; (with_reducible repeat (first | refine blk_drewN ?_ _ | refine blk_drew ?_ | refine blk_alloc ?_ _)); refine blk_put (cs := #[.int .i64 t220, .string t221, .string t222, .int .i64 t223, .int .i64 0, .int .i64 0, .slice none 0 0]) ?_ 4 _ rfl; (with_reducible repeat (first | refine blk_drewN ?_ _ | refine blk_drew ?_ | refine blk_alloc ?_ _)); refine blk_put (cs := #[.int .i64 t220, .string t221, .string t222, .int .i64 0, .int .i64 0, .int .i64 0, .slice none 0 0]) ?_ 3 _ rfl; (with_reducible repeat (first | refine blk_drewN ?_ _ | refine blk_drew ?_ | refine blk_alloc ?_ _)); refine blk_put (cs := #[.int .i64 t220, .string t221, .string (⟨#[]⟩ : ByteArray), .int .i64 0, .int .i64 0, .int .i64 0, .slice none 0 0]) ?_ 2 _ rfl; (with_reducible repeat (first | refine blk_drewN ?_ _ | refine blk_drew ?_ | refine blk_alloc ?_ _)); refine blk_put (cs := #[.int .i64 t220, .string (⟨#[]⟩ : ByteArray), .string (⟨#[]⟩ : ByteArray), .int .i64 0, .int .i64 0, .int .i64 0, .slice none 0 0]) ?_ 1 _ rfl; (with_reducible repeat (first | refine blk_drewN ?_ _ | refine blk_drew ?_ | refine blk_alloc ?_ _)); refine blk_put (cs := #[.int .i64 0, .string (⟨#[]⟩ : ByteArray), .string (⟨#[]⟩ : ByteArray), .int .i64 0, .int .i64 0, .int .i64 0, .slice none 0 0]) ?_ 0 _ rfl; (with_reducible repeat (first | refine blk_drewN ?_ _ | refine blk_drew ?_ | refine blk_alloc ?_ _)); exact BK230.out⟩, ⟨by repeat (first | (with_reducible first | exact HB.out | apply below_alloc | apply pw_below_drewN | apply below_drew1 | refine below_set ?_ GE214.out | refine below_set ?_ GE230.out) | exact HB.out)⟩⟩
 case round =>
  clear H'
  try clear c1
  try clear p2
  try clear c3
  try clear c7
  try clear c8
  try clear c9
  try clear c10
  try clear c15
  try clear hcz11_0
  try clear hcz11_1
  try clear hcz11_2
  try clear hcz11_3
  try clear hcz11_4
  try clear hcz11_5
  try clear hcz11_6
  try clear hcz16_0
  try clear hcz16_1
  try clear hcz16_2
  try clear hcz16_3
  try clear hcz16_4
  try clear hcz16_5
  try clear hcz16_6
  try clear hcz9_0
  try clear hcz9_1
  try clear hcz9_2
  try clear hcz9_3
  try clear hcz9_4
  try clear hcz9_5
  try clear hcz9_6
  try clear hfz11_0
  try clear hfz11_1
  try clear hfz11_2
  try clear hfz11_3
  try clear hfz11_4
  try clear hfz11_5
  try clear hfz11_6
  try clear hfz16_0
  try clear hfz16_1
  try clear hfz16_2
  try clear hfz16_3
  try clear hfz16_4
  try clear hfz16_5
  try clear hfz16_6
  try clear hfz9_0
  try clear hfz9_1
  try clear hfz9_2
  try clear hfz9_3
  try clear hfz9_4
  try clear hfz9_5
  try clear hfz9_6
  obtain ⟨x12_1, x231006_1, u231006, rfl, HA, HK1, HO_231006, BK214, BK230, HB⟩ := hrel
  cases gk with
  | zero => exact absurd HA.out (by simp [tabulariumlaw10_EditBytes.l0])
  | succ k1 =>
   have H := HA.out
   clear HA
   simp only [tabulariumlaw10_EditBytes.l0] at H
   by_cases c18 : x12_1 < 2
   ·
    rw [if_pos c18] at H
    have c18b0 : decide (x12_1 < 2) = true := decide_eq_true c18
    clear c18
    replace H := Option.bind_eq_some_iff.mp H
    obtain ⟨⟨t235, t236, t237, t238, t239, t240, t241, t244⟩, A190, H⟩ := H
    replace H : ((tabulariumlaw10_same.f k1 t235 t236 t237 t238 t239 t240 t241 t220 t221 t222 t223 t224 t225 x231006_1).bind fun t246 => (if t246 = true then (if (t229 != (t244 == 0)) = true then (tabulariumlaw10_EditBytes.j1 k1 a1 t215 t216 t217 t218 t219 t229 x12_1 true a0_0 a0_1 a0_2 a0_3 a0_4 a0_5 l0_6 t220 t221 t222 t223 t224 t225 x231006_1 t235 t236 t237 t238 t239 t240 t241) else (if t229 = true then (tabulariumlaw10_EditBytes.j1 k1 a1 t215 t216 t217 t218 t219 t229 x12_1 false a0_0 a0_1 a0_2 a0_3 a0_4 a0_5 l0_6 t220 t221 t222 t223 t224 t225 x231006_1 t235 t236 t237 t238 t239 t240 t241) else (tabulariumlaw10_EditBytes.j1 k1 a1 t215 t216 t217 t218 t219 t229 x12_1 (t244 != 2) a0_0 a0_1 a0_2 a0_3 a0_4 a0_5 l0_6 t220 t221 t222 t223 t224 t225 x231006_1 t235 t236 t237 t238 t239 t240 t241))) else (tabulariumlaw10_EditBytes.j1 k1 a1 t215 t216 t217 t218 t219 t229 x12_1 true a0_0 a0_1 a0_2 a0_3 a0_4 a0_5 l0_6 t220 t221 t222 t223 t224 t225 x231006_1 t235 t236 t237 t238 t239 t240 t241))) = some r := H
    have A19 := Aside0.mk A190
    clear A190
    replace H := Option.bind_eq_some_iff.mp H
    obtain ⟨t246, A200, H⟩ := H
    replace H : (if t246 = true then (if (t229 != (t244 == 0)) = true then (tabulariumlaw10_EditBytes.j1 k1 a1 t215 t216 t217 t218 t219 t229 x12_1 true a0_0 a0_1 a0_2 a0_3 a0_4 a0_5 l0_6 t220 t221 t222 t223 t224 t225 x231006_1 t235 t236 t237 t238 t239 t240 t241) else (if t229 = true then (tabulariumlaw10_EditBytes.j1 k1 a1 t215 t216 t217 t218 t219 t229 x12_1 false a0_0 a0_1 a0_2 a0_3 a0_4 a0_5 l0_6 t220 t221 t222 t223 t224 t225 x231006_1 t235 t236 t237 t238 t239 t240 t241) else (tabulariumlaw10_EditBytes.j1 k1 a1 t215 t216 t217 t218 t219 t229 x12_1 (t244 != 2) a0_0 a0_1 a0_2 a0_3 a0_4 a0_5 l0_6 t220 t221 t222 t223 t224 t225 x231006_1 t235 t236 t237 t238 t239 t240 t241))) else (tabulariumlaw10_EditBytes.j1 k1 a1 t215 t216 t217 t218 t219 t229 x12_1 true a0_0 a0_1 a0_2 a0_3 a0_4 a0_5 l0_6 t220 t221 t222 t223 t224 t225 x231006_1 t235 t236 t237 t238 t239 t240 t241)) = some r := H
    have A20 := Aside0.mk A200
    clear A200
    have HC21 := Aside0.mk H
    clear H
    go_upto_region 10 with (first | ((with_reducible refine gate_callee (f := 11) rfl ?_); refine goesL_ (some 39) rfl rfl Try.func11 (by kernel_rfl) rfl #[.string a1] rfl (by (try simp only [List.map_toArray, List.map_cons, List.map_nil]); first | done | rfl | (simp only [List.length_drop, List.length_take]; rfl)) ?_; (with_reducible refine (edit_Decode.calls k1 a1 t235 t236 t237 t238 t239 t240 t241 t244 _ A19.out).mono ?_); rintro e w22 ⟨v242, rfl, ho0, hb⟩; refine ⟨_, rfl, ?_⟩; have n0_ := Aside0.mk (Kd.R_elder' (by (with_reducible repeat (first | apply Kd.R_alloc | apply Kd.R_drewN | apply Kd.R_drew)); exact HO_231006.out) (Kd.R_base ho0) hb); have n1_ := Aside0.mk (Kd.R_lower (Kd.R_new' ho0 (Kd.R_lt (by (with_reducible repeat (first | apply Kd.R_alloc | apply Kd.R_drewN | apply Kd.R_drew)); exact HO_231006.out))) (below_size (by exact bw2 HB GE214.out GE230.out))); have n2_ := Aside0.mk (blk_below (g := gb214) (o := .cells #[.int .i64 a0_0, .string a0_1, .string a0_2, .int .i64 a0_3, .int .i64 a0_4, .int .i64 a0_5, .slice A0_6 l0_6.length c0_6] 24 (0, 0)) (kx BK214) hb); have n3_ := Aside0.mk (blk_below (g := gb230) (o := .cells #[.int .i64 t220, .string t221, .string t222, .int .i64 t223, .int .i64 t224, .int .i64 t225, u231006] 24 (0, 0)) (kx BK230) hb); have n4_ := Aside0.mk (below_step (by exact bw2 HB GE214.out GE230.out) hb); clear HO_231006; clear BK214; clear BK230; clear HB; have HO_231006 := n0_; have HO243 := n1_; have BK214 := n2_; have BK230 := n3_; have HB := n4_; clear n0_ n1_ n2_ n3_ n4_; (try clear hb); (try clear hb2); (try clear hk); (try clear hi); (try clear ho0)) | ((with_reducible refine gate_dst (N := 13) rfl ?_); refine box_event ?hg (N := 13) ?hd (cs := #[.int .i64 0, .string (⟨#[]⟩ : ByteArray), .string (⟨#[]⟩ : ByteArray), .int .i64 0, .int .i64 0, .int .i64 0, .slice none 0 0]) (t := 24) ?hr ?_; (case hd => rfl); (case hg => rfl); (case hr => first | (go_simp; done) | (go_simp; rfl)); intro gb245 hg w23 hbox hb; have n0_ := Aside0.mk (Kd.R_below (by (with_reducible repeat (first | apply Kd.R_alloc | apply Kd.R_drewN | apply Kd.R_drew)); exact HO_231006.out) hb); have n1_ := Aside0.mk (Kd.R_below (by (with_reducible repeat (first | apply Kd.R_alloc | apply Kd.R_drewN | apply Kd.R_drew)); exact HO243.out) hb); have n2_ := Aside0.mk (blk_below (g := gb214) (o := .cells #[.int .i64 a0_0, .string a0_1, .string a0_2, .int .i64 a0_3, .int .i64 a0_4, .int .i64 a0_5, .slice A0_6 l0_6.length c0_6] 24 (0, 0)) (kx BK214) hb); have n3_ := Aside0.mk (blk_below (g := gb230) (o := .cells #[.int .i64 t220, .string t221, .string t222, .int .i64 t223, .int .i64 t224, .int .i64 t225, u231006] 24 (0, 0)) (kx BK230) hb); have n4_ := Aside0.mk (below_step (by exact bw2 HB GE214.out GE230.out) hb); have n5_ := Aside0.mk (hbox); have n6_ := Aside0.mk ((by rw [hg]; exact (below_size (by exact bw2 HB GE214.out GE230.out)) : w.heap.size ≤ gb245)); have n7_ := Aside0.mk ((by rw [hg]; exact (below_size (by exact bw2 HB GE214.out GE230.out)) : w.heap.size ≤ gb245)); have n8_ := Aside0.mk ((by rw [hg]; exact Nat.ne_of_lt (blk_lt (g := gb214) (o := .cells #[.int .i64 a0_0, .string a0_1, .string a0_2, .int .i64 a0_3, .int .i64 a0_4, .int .i64 a0_5, .slice A0_6 l0_6.length c0_6] 24 (0, 0)) (kx BK214)) : gb214 ≠ gb245)); have n9_ := Aside0.mk ((by rw [hg]; exact Nat.ne_of_gt (blk_lt (g := gb214) (o := .cells #[.int .i64 a0_0, .string a0_1, .string a0_2, .int .i64 a0_3, .int .i64 a0_4, .int .i64 a0_5, .slice A0_6 l0_6.length c0_6] 24 (0, 0)) (kx BK214)) : gb245 ≠ gb214)); have n10_ := Aside0.mk ((by rw [hg]; exact Nat.ne_of_lt (blk_lt (g := gb230) (o := .cells #[.int .i64 t220, .string t221, .string t222, .int .i64 t223, .int .i64 t224, .int .i64 t225, u231006] 24 (0, 0)) (kx BK230)) : gb230 ≠ gb245)); have n11_ := Aside0.mk ((by rw [hg]; exact Nat.ne_of_gt (blk_lt (g := gb230) (o := .cells #[.int .i64 t220, .string t221, .string t222, .int .i64 t223, .int .i64 t224, .int .i64 t225, u231006] 24 (0, 0)) (kx BK230)) : gb245 ≠ gb230)); clear HO_231006; clear HO243; clear BK214; clear BK230; clear HB; have HO_231006 := n0_; have HO243 := n1_; have BK214 := n2_; have BK230 := n3_; have HB := n4_; have BK245 := n5_; have GW245 := n6_; have GE245 := n7_; have NB214_245 := n8_; have NB245_214 := n9_; have NB230_245 := n10_; have NB245_230 := n11_; clear n0_ n1_ n2_ n3_ n4_ n5_ n6_ n7_ n8_ n9_ n10_ n11_; clear hb hbox hg; have hnb24 := NB245_214.out; have hnc24 := NB214_245.out; have hnb25 := NB245_230.out; have hnc25 := NB230_245.out; have hcz26_0 : w23.cell? ⟨gb245, 0, none⟩ = some (.int .i64 0) := (blk_cell BK245.out 0).trans rfl; have hcz26_1 : w23.cell? ⟨gb245, 1, none⟩ = some (.string (⟨#[]⟩ : ByteArray)) := (blk_cell BK245.out 1).trans rfl; have hcz26_2 : w23.cell? ⟨gb245, 2, none⟩ = some (.string (⟨#[]⟩ : ByteArray)) := (blk_cell BK245.out 2).trans rfl; have hcz26_3 : w23.cell? ⟨gb245, 3, none⟩ = some (.int .i64 0) := (blk_cell BK245.out 3).trans rfl; have hcz26_4 : w23.cell? ⟨gb245, 4, none⟩ = some (.int .i64 0) := (blk_cell BK245.out 4).trans rfl; have hcz26_5 : w23.cell? ⟨gb245, 5, none⟩ = some (.int .i64 0) := (blk_cell BK245.out 5).trans rfl; have hcz26_6 : w23.cell? ⟨gb245, 6, none⟩ = some (.slice none 0 0) := (blk_cell BK245.out 6).trans rfl; have hfz26_0 := blk_frozen BK245.out 0; have hfz26_1 := blk_frozen BK245.out 1; have hfz26_2 := blk_frozen BK245.out 2; have hfz26_3 := blk_frozen BK245.out 3; have hfz26_4 := blk_frozen BK245.out 4; have hfz26_5 := blk_frozen BK245.out 5; have hfz26_6 := blk_frozen BK245.out 6; obtain ⟨Ao27, co27, eo27⟩ := Kd.R_slice HO243.out; subst eo27; have hnb28 := NB230_214.out; have hnc28 := NB214_230.out; have hcz29_0 : w23.cell? ⟨gb230, 0, none⟩ = some (.int .i64 t220) := (blk_cell BK230.out 0).trans rfl; have hcz29_1 : w23.cell? ⟨gb230, 1, none⟩ = some (.string t221) := (blk_cell BK230.out 1).trans rfl; have hcz29_2 : w23.cell? ⟨gb230, 2, none⟩ = some (.string t222) := (blk_cell BK230.out 2).trans rfl; have hcz29_3 : w23.cell? ⟨gb230, 3, none⟩ = some (.int .i64 t223) := (blk_cell BK230.out 3).trans rfl; have hcz29_4 : w23.cell? ⟨gb230, 4, none⟩ = some (.int .i64 t224) := (blk_cell BK230.out 4).trans rfl; have hcz29_5 : w23.cell? ⟨gb230, 5, none⟩ = some (.int .i64 t225) := (blk_cell BK230.out 5).trans rfl; have hcz29_6 : w23.cell? ⟨gb230, 6, none⟩ = some (u231006) := (blk_cell BK230.out 6).trans rfl; have hfz29_0 := blk_frozen BK230.out 0; have hfz29_1 := blk_frozen BK230.out 1; have hfz29_2 := blk_frozen BK230.out 2; have hfz29_3 := blk_frozen BK230.out 3; have hfz29_4 := blk_frozen BK230.out 4; have hfz29_5 := blk_frozen BK230.out 5; have hfz29_6 := blk_frozen BK230.out 6; obtain ⟨Ao30, co30, eo30⟩ := Kd.R_slice HO_231006.out; subst eo30) | ((with_reducible refine gate_callee (f := 12) rfl ?_); refine goesL_ (some 44) rfl rfl Try.func12 (by kernel_rfl) rfl #[.agg #[.int .i64 t235, .string t236, .string t237, .int .i64 t238, .int .i64 t239, .int .i64 t240, .slice Ao27 t241.length co27], .agg #[.int .i64 t220, .string t221, .string t222, .int .i64 t223, .int .i64 t224, .int .i64 t225, .slice Ao30 x231006_1.length co30]] rfl (by (try simp only [List.map_toArray, List.map_cons, List.map_nil]); first | done | rfl | (simp only [List.length_drop, List.length_take]; rfl)) ?_; (with_reducible refine (tabulariumlaw10_same.calls k1 t235 t236 t237 t238 t239 t240 _ _ t241 t220 t221 t222 t223 t224 t225 _ _ x231006_1 t246 _ ?side1 ?side2 ?side3 ?side4 A20.out).mono ?_); (case side1 => refine (Kd.R_reads' (e := 3) (base := w.heap.size) (ok := fun k_ => (True ∧ some k_ ≠ (.slice Ao30 x231006_1.length co30 : Value).ownBlock)) (n := t241.length) (c := co27) ?_).2.2; exact (by (with_reducible repeat (first | apply Kd.R_alloc | apply Kd.R_drewN | apply Kd.R_drew)); exact (Kd.R_mono (Kd.R_far (p := ⟨gb245, 6, none⟩) (Kd.R_far (p := ⟨gb245, 5, none⟩) (Kd.R_far (p := ⟨gb245, 4, none⟩) (Kd.R_far (p := ⟨gb245, 3, none⟩) (Kd.R_far (p := ⟨gb245, 2, none⟩) (Kd.R_far (p := ⟨gb245, 1, none⟩) (Kd.R_far (p := ⟨gb245, 0, none⟩) (Kd.R_types HO243.out BK245.out (by decide)) (fun _ hk => hk.2) (.int .i64 t235)) (fun _ hk => hk.2) (.string t236)) (fun _ hk => hk.2) (.string t237)) (fun _ hk => hk.2) (.int .i64 t238)) (fun _ hk => hk.2) (.int .i64 t239)) (fun _ hk => hk.2) (.int .i64 t240)) (fun _ hk => hk.2) (.slice Ao27 t241.length co27)) (fun _ h_ => h_.1)))); (case side2 => exact (Kd.R_reads' HO243.out).2.1); (case side3 => refine (Kd.R_reads' (e := 3) (base := w.heap.size) (ok := fun k_ => (True ∧ some k_ ≠ (.slice Ao27 t241.length co27 : Value).ownBlock)) (n := x231006_1.length) (c := co30) ?_).2.2; exact (by (with_reducible repeat (first | apply Kd.R_alloc | apply Kd.R_drewN | apply Kd.R_drew)); exact (Kd.R_mono (Kd.R_far (p := ⟨gb245, 6, none⟩) (Kd.R_far (p := ⟨gb245, 5, none⟩) (Kd.R_far (p := ⟨gb245, 4, none⟩) (Kd.R_far (p := ⟨gb245, 3, none⟩) (Kd.R_far (p := ⟨gb245, 2, none⟩) (Kd.R_far (p := ⟨gb245, 1, none⟩) (Kd.R_far (p := ⟨gb245, 0, none⟩) (Kd.R_types HO_231006.out BK245.out (by decide)) (fun _ hk => hk.2) (.int .i64 t235)) (fun _ hk => hk.2) (.string t236)) (fun _ hk => hk.2) (.string t237)) (fun _ hk => hk.2) (.int .i64 t238)) (fun _ hk => hk.2) (.int .i64 t239)) (fun _ hk => hk.2) (.int .i64 t240)) (fun _ hk => hk.2) (.slice Ao27 t241.length co27)) (fun _ h_ => h_.1)))); (case side4 => exact (Kd.R_reads' HO_231006.out).2.1); rintro e w31 ⟨rfl, hb⟩; refine ⟨_, rfl, ?_⟩; have n0_ := Aside0.mk (Kd.R_below (by (with_reducible repeat (first | apply Kd.R_alloc | apply Kd.R_drewN | apply Kd.R_drew)); exact (Kd.R_mono (Kd.R_far (p := ⟨gb245, 6, none⟩) (Kd.R_far (p := ⟨gb245, 5, none⟩) (Kd.R_far (p := ⟨gb245, 4, none⟩) (Kd.R_far (p := ⟨gb245, 3, none⟩) (Kd.R_far (p := ⟨gb245, 2, none⟩) (Kd.R_far (p := ⟨gb245, 1, none⟩) (Kd.R_far (p := ⟨gb245, 0, none⟩) (Kd.R_types HO_231006.out BK245.out (by decide)) (fun _ hk => hk.2) (.int .i64 t235)) (fun _ hk => hk.2) (.string t236)) (fun _ hk => hk.2) (.string t237)) (fun _ hk => hk.2) (.int .i64 t238)) (fun _ hk => hk.2) (.int .i64 t239)) (fun _ hk => hk.2) (.int .i64 t240)) (fun _ hk => hk.2) (.slice Ao27 t241.length co27)) (fun _ h_ => h_.1))) hb); have n1_ := Aside0.mk (Kd.R_below (by (with_reducible repeat (first | apply Kd.R_alloc | apply Kd.R_drewN | apply Kd.R_drew)); exact (Kd.R_mono (Kd.R_far (p := ⟨gb245, 6, none⟩) (Kd.R_far (p := ⟨gb245, 5, none⟩) (Kd.R_far (p := ⟨gb245, 4, none⟩) (Kd.R_far (p := ⟨gb245, 3, none⟩) (Kd.R_far (p := ⟨gb245, 2, none⟩) (Kd.R_far (p := ⟨gb245, 1, none⟩) (Kd.R_far (p := ⟨gb245, 0, none⟩) (Kd.R_types HO243.out BK245.out (by decide)) (fun _ hk => hk.2) (.int .i64 t235)) (fun _ hk => hk.2) (.string t236)) (fun _ hk => hk.2) (.string t237)) (fun _ hk => hk.2) (.int .i64 t238)) (fun _ hk => hk.2) (.int .i64 t239)) (fun _ hk => hk.2) (.int .i64 t240)) (fun _ hk => hk.2) (.slice Ao27 t241.length co27)) (fun _ h_ => h_.1))) hb); have n2_ := Aside0.mk (blk_below (g := gb214) (o := .cells #[.int .i64 a0_0, .string a0_1, .string a0_2, .int .i64 a0_3, .int .i64 a0_4, .int .i64 a0_5, .slice A0_6 l0_6.length c0_6] 24 (0, 0)) (by (with_reducible repeat (first | refine blk_drewN ?_ _ | refine blk_drew ?_ | refine blk_alloc ?_ _)); refine blk_far ?_ NB214_245.out _; (with_reducible repeat (first | refine blk_drewN ?_ _ | refine blk_drew ?_ | refine blk_alloc ?_ _)); refine blk_far ?_ NB214_245.out _; (with_reducible repeat (first | refine blk_drewN ?_ _ | refine blk_drew ?_ | refine blk_alloc ?_ _)); refine blk_far ?_ NB214_245.out _; (with_reducible repeat (first | refine blk_drewN ?_ _ | refine blk_drew ?_ | refine blk_alloc ?_ _)); refine blk_far ?_ NB214_245.out _; (with_reducible repeat (first | refine blk_drewN ?_ _ | refine blk_drew ?_ | refine blk_alloc ?_ _)); refine blk_far ?_ NB214_245.out _; (with_reducible repeat (first | refine blk_drewN ?_ _ | refine blk_drew ?_ | refine blk_alloc ?_ _)); refine blk_far ?_ NB214_245.out _; (with_reducible repeat (first | refine blk_drewN ?_ _ | refine blk_drew ?_ | refine blk_alloc ?_ _)); refine blk_far ?_ NB214_245.out _; (with_reducible repeat (first | refine blk_drewN ?_ _ | refine blk_drew ?_ | refine blk_alloc ?_ _)); exact BK214.out) hb); have n3_ := Aside0.mk (blk_below (g := gb230) (o := .cells #[.int .i64 t220, .string t221, .string t222, .int .i64 t223, .int .i64 t224, .int .i64 t225, .slice Ao30 x231006_1.length co30] 24 (0, 0)) (by (with_reducible repeat (first | refine blk_drewN ?_ _ | refine blk_drew ?_ | refine blk_alloc ?_ _)); refine blk_far ?_ NB230_245.out _; (with_reducible repeat (first | refine blk_drewN ?_ _ | refine blk_drew ?_ | refine blk_alloc ?_ _)); refine blk_far ?_ NB230_245.out _; (with_reducible repeat (first | refine blk_drewN ?_ _ | refine blk_drew ?_ | refine blk_alloc ?_ _)); refine blk_far ?_ NB230_245.out _; (with_reducible repeat (first | refine blk_drewN ?_ _ | refine blk_drew ?_ | refine blk_alloc ?_ _)); refine blk_far ?_ NB230_245.out _; (with_reducible repeat (first | refine blk_drewN ?_ _ | refine blk_drew ?_ | refine blk_alloc ?_ _)); refine blk_far ?_ NB230_245.out _; (with_reducible repeat (first | refine blk_drewN ?_ _ | refine blk_drew ?_ | refine blk_alloc ?_ _)); refine blk_far ?_ NB230_245.out _; (with_reducible repeat (first | refine blk_drewN ?_ _ | refine blk_drew ?_ | refine blk_alloc ?_ _)); refine blk_far ?_ NB230_245.out _; (with_reducible repeat (first | refine blk_drewN ?_ _ | refine blk_drew ?_ | refine blk_alloc ?_ _)); exact BK230.out) hb); have n4_ := Aside0.mk (blk_below (g := gb245) (o := .cells #[.int .i64 t235, .string t236, .string t237, .int .i64 t238, .int .i64 t239, .int .i64 t240, .slice Ao27 t241.length co27] 24 (0, 0)) (by (with_reducible repeat (first | refine blk_drewN ?_ _ | refine blk_drew ?_ | refine blk_alloc ?_ _)); refine blk_put (cs := #[.int .i64 t235, .string t236, .string t237, .int .i64 t238, .int .i64 t239, .int .i64 t240, .slice none 0 0]) ?_ 6 _ rfl; (with_reducible repeat (first | refine blk_drewN ?_ _ | refine blk_drew ?_ | refine blk_alloc ?_ _)); refine blk_put (cs := #[.int .i64 t235, .string t236, .string t237, .int .i64 t238, .int .i64 t239, .int .i64 0, .slice none 0 0]) ?_ 5 _ rfl; (with_reducible repeat (first | refine blk_drewN ?_ _ | refine blk_drew ?_ | refine blk_alloc ?_ _)); refine blk_put (cs := #[.int .i64 t235, .string t236, .string t237, .int .i64 t238, .int .i64 0, .int .i64 0, .slice none 0 0]) ?_ 4 _ rfl; (with_reducible repeat (first | refine blk_drewN ?_ _ | refine blk_drew ?_ | refine blk_alloc ?_ _)); refine blk_put (cs := #[.int .i64 t235, .string t236, .string t237, .int .i64 0, .int .i64 0, .int .i64 0, .slice none 0 0]) ?_ 3 _ rfl; (with_reducible repeat (first | refine blk_drewN ?_ _ | refine blk_drew ?_ | refine blk_alloc ?_ _)); refine blk_put (cs := #[.int .i64 t235, .string t236, .string (⟨#[]⟩ : ByteArray), .int .i64 0, .int .i64 0, .int .i64 0, .slice none 0 0]) ?_ 2 _ rfl; (with_reducible repeat (first | refine blk_drewN ?_ _ | refine blk_drew ?_ | refine blk_alloc ?_ _)); refine blk_put (cs := #[.int .i64 t235, .string (⟨#[]⟩ : ByteArray), .string (⟨#[]⟩ : ByteArray), .int .i64 0, .int .i64 0, .int .i64 0, .slice none 0 0]) ?_ 1 _ rfl; (with_reducible repeat (first | refine blk_drewN ?_ _ | refine blk_drew ?_ | refine blk_alloc ?_ _)); refine blk_put (cs := #[.int .i64 0, .string (⟨#[]⟩ : ByteArray), .string (⟨#[]⟩ : ByteArray), .int .i64 0, .int .i64 0, .int .i64 0, .slice none 0 0]) ?_ 0 _ rfl; (with_reducible repeat (first | refine blk_drewN ?_ _ | refine blk_drew ?_ | refine blk_alloc ?_ _)); exact BK245.out) hb); have n5_ := Aside0.mk (below_step (by repeat (first | (with_reducible first | exact HB.out | apply below_alloc | apply pw_below_drewN | apply below_drew1 | refine below_set ?_ GE214.out | refine below_set ?_ GE230.out | refine below_set ?_ GE245.out) | exact HB.out)) hb); clear HO_231006; clear HO243; clear BK214; clear BK230; clear BK245; clear HB; have HO_231006 := n0_; have HO243 := n1_; have BK214 := n2_; have BK230 := n3_; have BK245 := n4_; have HB := n5_; clear n0_ n1_ n2_ n3_ n4_ n5_; (try clear hb); (try clear hb2); (try clear hk); (try clear hi)))
    (try simp only [Act.put, List.setIfInBounds_toArray, List.set_cons_zero, List.set_cons_succ])
    go_cut [60] (fun v60 wc => ∃ (kq : Nat) (x60_20 : Bool), v60 = .bool x60_20 ∧ Aside0 (tabulariumlaw10_EditBytes.j1 kq a1 t215 t216 t217 t218 t219 t229 x12_1 x60_20 a0_0 a0_1 a0_2 a0_3 a0_4 a0_5 l0_6 t220 t221 t222 t223 t224 t225 x231006_1 t235 t236 t237 t238 t239 t240 t241 = some r) ∧ Aside0 (kq ≤ k1) ∧ Aside0 (Kd.R (Kd.int .i64) 3 wc w.heap.size (fun k_ => some k_ ≠ ((.slice Ao27 t241.length co27) : Value).ownBlock) (.slice Ao30 x231006_1.length co30) x231006_1) ∧ Aside0 (Kd.R (Kd.int .i64) 3 wc w.heap.size (fun k_ => some k_ ≠ ((.slice Ao30 x231006_1.length co30) : Value).ownBlock) (.slice Ao27 t241.length co27) t241) ∧ Aside0 (wc.heap[gb214]? = some (.cells #[.int .i64 a0_0, .string a0_1, .string a0_2, .int .i64 a0_3, .int .i64 a0_4, .int .i64 a0_5, (.slice A0_6 l0_6.length c0_6)] 24 (0, 0))) ∧ Aside0 (wc.heap[gb230]? = some (.cells #[.int .i64 t220, .string t221, .string t222, .int .i64 t223, .int .i64 t224, .int .i64 t225, (.slice Ao30 x231006_1.length co30)] 24 (0, 0))) ∧ Aside0 (wc.heap[gb245]? = some (.cells #[.int .i64 t235, .string t236, .string t237, .int .i64 t238, .int .i64 t239, .int .i64 t240, (.slice Ao27 t241.length co27)] 24 (0, 0))) ∧ Aside0 (Below w.heap.size w wc))
    case first =>
     have H := HC21.out
     clear HC21
     by_cases c32 : t246 = true
     ·
      subst c32
      have H1 : (if (t229 != (t244 == 0)) = true then (tabulariumlaw10_EditBytes.j1 k1 a1 t215 t216 t217 t218 t219 t229 x12_1 true a0_0 a0_1 a0_2 a0_3 a0_4 a0_5 l0_6 t220 t221 t222 t223 t224 t225 x231006_1 t235 t236 t237 t238 t239 t240 t241) else (if t229 = true then (tabulariumlaw10_EditBytes.j1 k1 a1 t215 t216 t217 t218 t219 t229 x12_1 false a0_0 a0_1 a0_2 a0_3 a0_4 a0_5 l0_6 t220 t221 t222 t223 t224 t225 x231006_1 t235 t236 t237 t238 t239 t240 t241) else (tabulariumlaw10_EditBytes.j1 k1 a1 t215 t216 t217 t218 t219 t229 x12_1 (t244 != 2) a0_0 a0_1 a0_2 a0_3 a0_4 a0_5 l0_6 t220 t221 t222 t223 t224 t225 x231006_1 t235 t236 t237 t238 t239 t240 t241))) = some r := by rw [if_pos rfl] at H; exact H
      clear H
      have H := H1
      clear H1
      by_cases c33 : (t229 != (t244 == 0)) = true
      ·
       rw [if_pos c33] at H
       have c33b0 : (t229 != (t244 == 0)) = true := c33
       (try (have c33b1 : decide (t229 = (t244 == 0)) = false := by first | simpa using c33 | (revert c33; generalize t229 = x_; generalize (t244 == 0) = y_; revert x_ y_; decide)))
       (try (have c33b2 : (t229 == (t244 == 0)) = false := by first | simpa using c33 | (revert c33; generalize t229 = x_; generalize (t244 == 0) = y_; revert x_ y_; decide)))
       (try (have c33b3 : ¬ (t229 = (t244 == 0)) := by first | simpa using c33 | (revert c33; generalize t229 = x_; generalize (t244 == 0) = y_; revert x_ y_; decide)))
       clear c33
       (first | rw [c33b0] | (simp only [i64_w, i32_w]; rw [c33b0]) | skip)
       have H' := Aside0.mk H
       clear H
       go_wp2
       go_meet
       case rel => exact ⟨_, (true), (by first | rfl | (simp; done) | (simp [*]; done) | (simp; exact (fun (l_ : List UInt8) => by cases l_ <;> rfl : ∀ l_ : List UInt8, l_.isEmpty = !(l_ != [])) _)), H', ⟨by have := HK1.out; first | omega | exact Nat.le_refl _⟩, ⟨by (with_reducible repeat (first | apply Kd.R_alloc | apply Kd.R_drewN | apply Kd.R_drew)); exact Kd.R_mono HO_231006.out (fun _ hk => hk.2)⟩, ⟨by (with_reducible repeat (first | apply Kd.R_alloc | apply Kd.R_drewN | apply Kd.R_drew)); exact Kd.R_mono HO243.out (fun _ hk => hk.2)⟩, ⟨by (with_reducible repeat (first | refine blk_drewN ?_ _ | refine blk_drew ?_ | refine blk_alloc ?_ _)); exact BK214.out⟩, ⟨by (with_reducible repeat (first | refine blk_drewN ?_ _ | refine blk_drew ?_ | refine blk_alloc ?_ _)); exact BK230.out⟩, ⟨by (with_reducible repeat (first | refine blk_drewN ?_ _ | refine blk_drew ?_ | refine blk_alloc ?_ _)); exact BK245.out⟩, ⟨by repeat (first | (with_reducible first | exact HB.out | apply below_alloc | apply pw_below_drewN | apply below_drew1 | refine below_set ?_ GE214.out | refine below_set ?_ GE230.out | refine below_set ?_ GE245.out) | exact HB.out)⟩⟩
      ·
       rw [if_neg c33] at H
       have c33b0 : (t229 != (t244 == 0)) = false := by simpa using c33
       (try (have c33b1 : decide (t229 = (t244 == 0)) = true := by first | simpa using c33 | (revert c33; generalize t229 = x_; generalize (t244 == 0) = y_; revert x_ y_; decide)))
       (try (have c33b2 : (t229 == (t244 == 0)) = true := by first | simpa using c33 | (revert c33; generalize t229 = x_; generalize (t244 == 0) = y_; revert x_ y_; decide)))
       clear c33
       (first | rw [c33b0] | (simp only [i64_w, i32_w]; rw [c33b0]) | skip)
       by_cases c34 : t229 = true
       ·
        subst c34
        have H1 : (tabulariumlaw10_EditBytes.j1 k1 a1 t215 t216 t217 t218 t219 true x12_1 false a0_0 a0_1 a0_2 a0_3 a0_4 a0_5 l0_6 t220 t221 t222 t223 t224 t225 x231006_1 t235 t236 t237 t238 t239 t240 t241) = some r := by rw [if_pos rfl] at H; exact H
        clear H
        have H := H1
        clear H1
        have H' := Aside0.mk H
        clear H
        go_wp2
        go_meet
        case rel => exact ⟨_, (false), (by first | rfl | (simp; done) | (simp [*]; done) | (simp; exact (fun (l_ : List UInt8) => by cases l_ <;> rfl : ∀ l_ : List UInt8, l_.isEmpty = !(l_ != [])) _)), H', ⟨by have := HK1.out; first | omega | exact Nat.le_refl _⟩, ⟨by (with_reducible repeat (first | apply Kd.R_alloc | apply Kd.R_drewN | apply Kd.R_drew)); exact Kd.R_mono HO_231006.out (fun _ hk => hk.2)⟩, ⟨by (with_reducible repeat (first | apply Kd.R_alloc | apply Kd.R_drewN | apply Kd.R_drew)); exact Kd.R_mono HO243.out (fun _ hk => hk.2)⟩, ⟨by (with_reducible repeat (first | refine blk_drewN ?_ _ | refine blk_drew ?_ | refine blk_alloc ?_ _)); exact BK214.out⟩, ⟨by (with_reducible repeat (first | refine blk_drewN ?_ _ | refine blk_drew ?_ | refine blk_alloc ?_ _)); exact BK230.out⟩, ⟨by (with_reducible repeat (first | refine blk_drewN ?_ _ | refine blk_drew ?_ | refine blk_alloc ?_ _)); exact BK245.out⟩, ⟨by repeat (first | (with_reducible first | exact HB.out | apply below_alloc | apply pw_below_drewN | apply below_drew1 | refine below_set ?_ GE214.out | refine below_set ?_ GE230.out | refine below_set ?_ GE245.out) | exact HB.out)⟩⟩
       ·
        replace c34 := Bool.eq_false_iff.mpr c34
        subst c34
        have H1 : (tabulariumlaw10_EditBytes.j1 k1 a1 t215 t216 t217 t218 t219 false x12_1 (t244 != 2) a0_0 a0_1 a0_2 a0_3 a0_4 a0_5 l0_6 t220 t221 t222 t223 t224 t225 x231006_1 t235 t236 t237 t238 t239 t240 t241) = some r := by rw [if_neg (show ¬ (false = true) by decide)] at H; exact H
        clear H
        have H := H1
        clear H1
        have H' := Aside0.mk H
        clear H
        go_wp2
        go_meet
        case rel => exact ⟨_, ((t244 != 2)), (by first | rfl | (simp; done) | (simp [*]; done) | (simp; exact (fun (l_ : List UInt8) => by cases l_ <;> rfl : ∀ l_ : List UInt8, l_.isEmpty = !(l_ != [])) _)), H', ⟨by have := HK1.out; first | omega | exact Nat.le_refl _⟩, ⟨by (with_reducible repeat (first | apply Kd.R_alloc | apply Kd.R_drewN | apply Kd.R_drew)); exact Kd.R_mono HO_231006.out (fun _ hk => hk.2)⟩, ⟨by (with_reducible repeat (first | apply Kd.R_alloc | apply Kd.R_drewN | apply Kd.R_drew)); exact Kd.R_mono HO243.out (fun _ hk => hk.2)⟩, ⟨by (with_reducible repeat (first | refine blk_drewN ?_ _ | refine blk_drew ?_ | refine blk_alloc ?_ _)); exact BK214.out⟩, ⟨by (with_reducible repeat (first | refine blk_drewN ?_ _ | refine blk_drew ?_ | refine blk_alloc ?_ _)); exact BK230.out⟩, ⟨by (with_reducible repeat (first | refine blk_drewN ?_ _ | refine blk_drew ?_ | refine blk_alloc ?_ _)); exact BK245.out⟩, ⟨by repeat (first | (with_reducible first | exact HB.out | apply below_alloc | apply pw_below_drewN | apply below_drew1 | refine below_set ?_ GE214.out | refine below_set ?_ GE230.out | refine below_set ?_ GE245.out) | exact HB.out)⟩⟩
     ·
      replace c32 := Bool.eq_false_iff.mpr c32
      subst c32
      have H1 : (tabulariumlaw10_EditBytes.j1 k1 a1 t215 t216 t217 t218 t219 t229 x12_1 true a0_0 a0_1 a0_2 a0_3 a0_4 a0_5 l0_6 t220 t221 t222 t223 t224 t225 x231006_1 t235 t236 t237 t238 t239 t240 t241) = some r := by rw [if_neg (show ¬ (false = true) by decide)] at H; exact H
      clear H
      have H := H1
      clear H1
      have H' := Aside0.mk H
      clear H
      go_wp2
      go_meet
      case rel => exact ⟨_, (true), (by first | rfl | (simp; done) | (simp [*]; done) | (simp; exact (fun (l_ : List UInt8) => by cases l_ <;> rfl : ∀ l_ : List UInt8, l_.isEmpty = !(l_ != [])) _)), H', ⟨by have := HK1.out; first | omega | exact Nat.le_refl _⟩, ⟨by (with_reducible repeat (first | apply Kd.R_alloc | apply Kd.R_drewN | apply Kd.R_drew)); exact Kd.R_mono HO_231006.out (fun _ hk => hk.2)⟩, ⟨by (with_reducible repeat (first | apply Kd.R_alloc | apply Kd.R_drewN | apply Kd.R_drew)); exact Kd.R_mono HO243.out (fun _ hk => hk.2)⟩, ⟨by (with_reducible repeat (first | refine blk_drewN ?_ _ | refine blk_drew ?_ | refine blk_alloc ?_ _)); exact BK214.out⟩, ⟨by (with_reducible repeat (first | refine blk_drewN ?_ _ | refine blk_drew ?_ | refine blk_alloc ?_ _)); exact BK230.out⟩, ⟨by (with_reducible repeat (first | refine blk_drewN ?_ _ | refine blk_drew ?_ | refine blk_alloc ?_ _)); exact BK245.out⟩, ⟨by repeat (first | (with_reducible first | exact HB.out | apply below_alloc | apply pw_below_drewN | apply below_drew1 | refine below_set ?_ GE214.out | refine below_set ?_ GE230.out | refine below_set ?_ GE245.out) | exact HB.out)⟩⟩
    case rest =>
     clear HC21
     try clear c1
     try clear c2
     try clear p2
     try clear c3
     try clear c7
     try clear c8
     try clear c9
     try clear c10
     try clear c11
     try clear c12
     try clear c15
     try clear c18
     try clear c18b0
     try clear c24
     try clear c25
     try clear c28
     try clear c32
     try clear c33
     try clear c33b0
     try clear c33b1
     try clear c33b2
     try clear c34
     try clear hcz11_0
     try clear hcz11_1
     try clear hcz11_2
     try clear hcz11_3
     try clear hcz11_4
     try clear hcz11_5
     try clear hcz11_6
     try clear hcz16_0
     try clear hcz16_1
     try clear hcz16_2
     try clear hcz16_3
     try clear hcz16_4
     try clear hcz16_5
     try clear hcz16_6
     try clear hcz26_0
     try clear hcz26_1
     try clear hcz26_2
     try clear hcz26_3
     try clear hcz26_4
     try clear hcz26_5
     try clear hcz26_6
     try clear hcz29_0
     try clear hcz29_1
     try clear hcz29_2
     try clear hcz29_3
     try clear hcz29_4
     try clear hcz29_5
     try clear hcz29_6
     try clear hcz9_0
     try clear hcz9_1
     try clear hcz9_2
     try clear hcz9_3
     try clear hcz9_4
     try clear hcz9_5
     try clear hcz9_6
     try clear hfz11_0
     try clear hfz11_1
     try clear hfz11_2
     try clear hfz11_3
     try clear hfz11_4
     try clear hfz11_5
     try clear hfz11_6
     try clear hfz16_0
     try clear hfz16_1
     try clear hfz16_2
     try clear hfz16_3
     try clear hfz16_4
     try clear hfz16_5
     try clear hfz16_6
     try clear hfz26_0
     try clear hfz26_1
     try clear hfz26_2
     try clear hfz26_3
     try clear hfz26_4
     try clear hfz26_5
     try clear hfz26_6
     try clear hfz29_0
     try clear hfz29_1
     try clear hfz29_2
     try clear hfz29_3
     try clear hfz29_4
     try clear hfz29_5
     try clear hfz29_6
     try clear hfz9_0
     try clear hfz9_1
     try clear hfz9_2
     try clear hfz9_3
     try clear hfz9_4
     try clear hfz9_5
     try clear hfz9_6
     try clear p2
     obtain ⟨kq, x60_20, rfl, HA, HJ20, HO_231006, HO_246006, BK214, BK230, BK245, HB⟩ := hcut
     cases kq with
     | zero => exact absurd HA.out (by simp [tabulariumlaw10_EditBytes.j1])
     | succ kj20 =>
      have H := HA.out
      clear HA
      simp only [tabulariumlaw10_EditBytes.j1] at H
      by_cases c35 : x60_20 = true
      ·
       subst c35
       have H1 : (some false) = some r := by rw [if_pos rfl] at H; exact H
       clear H
       have H := H1
       clear H1
       obtain rfl := Option.some.inj H
       go_wp2
       go_ret
       exact ⟨by first | rfl | (simp [errW_none, errW_some] <;> rfl) | (simp [*, errW_none, errW_some] <;> rfl), by repeat (first | (with_reducible first | exact HB.out | apply below_alloc | apply pw_below_drewN | apply below_drew1 | refine below_set ?_ GE214.out | refine below_set ?_ GE230.out | refine below_set ?_ GE245.out) | exact HB.out)⟩
      ·
       replace c35 := Bool.eq_false_iff.mpr c35
       subst c35
       have H1 : (tabulariumlaw10_EditBytes.l1 kj20 a1 t215 t216 t217 t218 t219 t229 x12_1 0 a0_0 a0_1 a0_2 a0_3 a0_4 a0_5 l0_6 t220 t221 t222 t223 t224 t225 x231006_1 t235 t236 t237 t238 t239 t240 t241) = some r := by rw [if_neg (show ¬ (false = true) by decide)] at H; exact H
       clear H
       have H := H1
       clear H1
       have H' := Aside0.mk H
       clear H
       go_wp2
       go_loopg [16] kj20 (fun kq v16 w' => ∃ (x16_3 : Int) (x231006_3 : List Int) (x246006_3 : List Int) (u231006 : Value) (u246006 : Value), v16 = .int .i64 x16_3 ∧ Aside0 (tabulariumlaw10_EditBytes.l1 kq a1 t215 t216 t217 t218 t219 t229 x12_1 x16_3 a0_0 a0_1 a0_2 a0_3 a0_4 a0_5 l0_6 t220 t221 t222 t223 t224 t225 x231006_3 t235 t236 t237 t238 t239 t240 x246006_3 = some r) ∧ Aside0 (kq ≤ kj20) ∧ Aside0 (Kd.R (Kd.int .i64) 3 w' w.heap.size (fun k_ => some k_ ≠ (u246006 : Value).ownBlock) u231006 x231006_3) ∧ Aside0 (Kd.R (Kd.int .i64) 3 w' w.heap.size (fun k_ => some k_ ≠ (u231006 : Value).ownBlock) u246006 x246006_3) ∧ Aside0 (w'.heap[gb214]? = some (.cells #[.int .i64 a0_0, .string a0_1, .string a0_2, .int .i64 a0_3, .int .i64 a0_4, .int .i64 a0_5, (.slice A0_6 l0_6.length c0_6)] 24 (0, 0))) ∧ Aside0 (w'.heap[gb230]? = some (.cells #[.int .i64 t220, .string t221, .string t222, .int .i64 t223, .int .i64 t224, .int .i64 t225, u231006] 24 (0, 0))) ∧ Aside0 (w'.heap[gb245]? = some (.cells #[.int .i64 t235, .string t236, .string t237, .int .i64 t238, .int .i64 t239, .int .i64 t240, u246006] 24 (0, 0))) ∧ Aside0 (Below w.heap.size w w'))
       case atStart => exact ⟨(0), (x231006_1), (t241), (.slice Ao30 x231006_1.length co30), (.slice Ao27 t241.length co27), (by first | rfl | (simp; done) | (simp [*]; done) | (simp; exact (fun (l_ : List UInt8) => by cases l_ <;> rfl : ∀ l_ : List UInt8, l_.isEmpty = !(l_ != [])) _)), H', ⟨Nat.le_refl _⟩, ⟨by (with_reducible repeat (first | apply Kd.R_alloc | apply Kd.R_drewN | apply Kd.R_drew)); exact HO_231006.out⟩, ⟨by (with_reducible repeat (first | apply Kd.R_alloc | apply Kd.R_drewN | apply Kd.R_drew)); exact HO_246006.out⟩, ⟨by (with_reducible repeat (first | refine blk_drewN ?_ _ | refine blk_drew ?_ | refine blk_alloc ?_ _)); exact BK214.out⟩, ⟨by (with_reducible repeat (first | refine blk_drewN ?_ _ | refine blk_drew ?_ | refine blk_alloc ?_ _)); exact BK230.out⟩, ⟨by (with_reducible repeat (first | refine blk_drewN ?_ _ | refine blk_drew ?_ | refine blk_alloc ?_ _)); exact BK245.out⟩, ⟨by repeat (first | (with_reducible first | exact HB.out | apply below_alloc | apply pw_below_drewN | apply below_drew1 | refine below_set ?_ GE214.out | refine below_set ?_ GE230.out | refine below_set ?_ GE245.out) | exact HB.out)⟩⟩
       case round =>
        clear H'
        try clear c1
        try clear c2
        try clear p2
        try clear c3
        try clear c7
        try clear c8
        try clear c9
        try clear c10
        try clear c11
        try clear c12
        try clear c15
        try clear c18
        try clear c18b0
        try clear c24
        try clear c25
        try clear c28
        try clear c32
        try clear c33
        try clear c33b0
        try clear c33b1
        try clear c33b2
        try clear c34
        try clear c35
        try clear hcz11_0
        try clear hcz11_1
        try clear hcz11_2
        try clear hcz11_3
        try clear hcz11_4
        try clear hcz11_5
        try clear hcz11_6
        try clear hcz16_0
        try clear hcz16_1
        try clear hcz16_2
        try clear hcz16_3
        try clear hcz16_4
        try clear hcz16_5
        try clear hcz16_6
        try clear hcz26_0
        try clear hcz26_1
        try clear hcz26_2
        try clear hcz26_3
        try clear hcz26_4
        try clear hcz26_5
        try clear hcz26_6
        try clear hcz29_0
        try clear hcz29_1
        try clear hcz29_2
        try clear hcz29_3
        try clear hcz29_4
        try clear hcz29_5
        try clear hcz29_6
        try clear hcz9_0
        try clear hcz9_1
        try clear hcz9_2
        try clear hcz9_3
        try clear hcz9_4
        try clear hcz9_5
        try clear hcz9_6
        try clear hfz11_0
        try clear hfz11_1
        try clear hfz11_2
        try clear hfz11_3
        try clear hfz11_4
        try clear hfz11_5
        try clear hfz11_6
        try clear hfz16_0
        try clear hfz16_1
        try clear hfz16_2
        try clear hfz16_3
        try clear hfz16_4
        try clear hfz16_5
        try clear hfz16_6
        try clear hfz26_0
        try clear hfz26_1
        try clear hfz26_2
        try clear hfz26_3
        try clear hfz26_4
        try clear hfz26_5
        try clear hfz26_6
        try clear hfz29_0
        try clear hfz29_1
        try clear hfz29_2
        try clear hfz29_3
        try clear hfz29_4
        try clear hfz29_5
        try clear hfz29_6
        try clear hfz9_0
        try clear hfz9_1
        try clear hfz9_2
        try clear hfz9_3
        try clear hfz9_4
        try clear hfz9_5
        try clear hfz9_6
        try clear p2
        obtain ⟨x16_3, x231006_3, x246006_3, u231006, u246006, rfl, HA, HK3, HO_231006, HO_246006, BK214, BK230, BK245, HB⟩ := hrel
        cases gk with
        | zero => exact absurd HA.out (by simp [tabulariumlaw10_EditBytes.l1])
        | succ k3 =>
         have H := HA.out
         clear HA
         simp only [tabulariumlaw10_EditBytes.l1] at H
         by_cases c36 : x16_3 < (x246006_3.length : Int)
         ·
          rw [if_pos c36] at H
          have c36b0 : decide (x16_3 < (x246006_3.length : Int)) = true := decide_eq_true c36
          clear c36
          by_cases c37 : 0 ≤ x16_3
          ·
           rw [if_pos c37] at H
           have c37b0 : decide (0 ≤ x16_3) = true := decide_eq_true c37
           clear c37
           obtain ⟨y247, hy247⟩ : ∃ y_ : List Int, y_ = (x246006_3.set (x16_3 : Int).toNat (-1)) := ⟨_, rfl⟩
           replace H : (tabulariumlaw10_EditBytes.l1 k3 a1 t215 t216 t217 t218 t219 t229 x12_1 (wrap64 (x16_3 + 1)) a0_0 a0_1 a0_2 a0_3 a0_4 a0_5 l0_6 t220 t221 t222 t223 t224 t225 x231006_3 t235 t236 t237 t238 t239 t240 y247) = some r := by first | (rw [hy247]; with_reducible exact H) | (have H2_ := (Option.bind_some _ _).symm.trans H; rw [hy247]; with_reducible exact H2_) | (have H2_ := (Option.bind_some _ _).symm.trans H; with_reducible exact H2_) | with_reducible exact H | (rw [hy247]; exact H) | exact H
           have Ny247 := Aside0.mk hy247
           clear hy247
           have H' := Aside0.mk H
           clear H
           have hnb39 := NB245_214.out
           have hnc39 := NB214_245.out
           have hnb40 := NB245_230.out
           have hnc40 := NB230_245.out
           have hcz41_0 : wr.cell? ⟨gb245, 0, none⟩ = some (.int .i64 t235) := (blk_cell BK245.out 0).trans rfl
           have hcz41_1 : wr.cell? ⟨gb245, 1, none⟩ = some (.string t236) := (blk_cell BK245.out 1).trans rfl
           have hcz41_2 : wr.cell? ⟨gb245, 2, none⟩ = some (.string t237) := (blk_cell BK245.out 2).trans rfl
           have hcz41_3 : wr.cell? ⟨gb245, 3, none⟩ = some (.int .i64 t238) := (blk_cell BK245.out 3).trans rfl
           have hcz41_4 : wr.cell? ⟨gb245, 4, none⟩ = some (.int .i64 t239) := (blk_cell BK245.out 4).trans rfl
           have hcz41_5 : wr.cell? ⟨gb245, 5, none⟩ = some (.int .i64 t240) := (blk_cell BK245.out 5).trans rfl
           have hcz41_6 : wr.cell? ⟨gb245, 6, none⟩ = some (u246006) := (blk_cell BK245.out 6).trans rfl
           have hfz41_0 := blk_frozen BK245.out 0
           have hfz41_1 := blk_frozen BK245.out 1
           have hfz41_2 := blk_frozen BK245.out 2
           have hfz41_3 := blk_frozen BK245.out 3
           have hfz41_4 := blk_frozen BK245.out 4
           have hfz41_5 := blk_frozen BK245.out 5
           have hfz41_6 := blk_frozen BK245.out 6
           obtain ⟨Ao42, co42, eo42⟩ := Kd.R_slice HO_246006.out
           subst eo42
           have p38 : 0 ≤ (x16_3 : Int) := of_decide_eq_true (by first | (with_reducible assumption) | assumption)
           have q38 : (x16_3 : Int) < ((x246006_3.length : Int) : Int) := of_decide_eq_true (by first | (with_reducible assumption) | assumption)
           obtain ⟨go38, co38, eo38, gb38, gl38, cl38, HG38⟩ := Kd.R_form HO_246006.out (by omega)
           (first | cases eo38 | (injection eo38 with ea_ en_ ec_; (first | subst ea_ | (injection ea_ with ea_; subst ea_)); subst ec_; clear en_))
           have GB38 := Aside0.mk gb38
           have GG38 := Aside0.mk HG38
           clear gb38 gl38 HG38
           obtain ⟨hx38_0, hf38_0⟩ := Kd.R_celln 0 HO_246006.out (x16_3 : Int) p38 q38
           replace p38 := eq_true p38; replace q38 := eq_true q38
           have HP43 := Kd.R_putg HO_246006.out (x16_3 : Int) (-1)
           go_wp2_with (first | ((with_reducible refine gate_store (t := 3) (p := 71) rfl ?_); refine store_event (t := 3) (p := 71) (v := ?vo_w44) (w1 := (wr.setCell ⟨go38, (x16_3 : Int).toNat, none⟩ (.int .i64 (-1)))) ?hg ?ho ?hn ?hr ?_; (case ho => rfl); (case hg => rfl); (case hn => rfl); (case hr => first | (go_simp; done) | (go_simp; rfl)); intro w44 hw; have hg : wr.grownBy w44 (some go38) := (by rw [hw]; exact HP43.2); have hp_ : Kd.R (Kd.int .i64) 3 w44 w.heap.size (fun k_ => some k_ ≠ (u231006 : Value).ownBlock) (.slice (some ⟨go38, 0, none⟩) x246006_3.length co42) y247 := (by rw [hw, Ny247.out]; exact HP43.1); clear HP43; have n0_ := Aside0.mk (Kd.R_after (v := (.slice (some ⟨go38, 0, none⟩) x246006_3.length co42)) (v1 := (.slice (some ⟨go38, 0, none⟩) x246006_3.length co42)) (ok := (fun _ => True)) (by (with_reducible repeat (first | apply Kd.R_alloc | apply Kd.R_drewN | apply Kd.R_drew)); exact Kd.R_mono HO_231006.out (fun _ hk => ⟨trivial, hk⟩)) hg (.inl rfl)); have n1_ := Aside0.mk (hp_); have n2_ := Aside0.mk (blk_grown (g := gb214) (o := .cells #[.int .i64 a0_0, .string a0_1, .string a0_2, .int .i64 a0_3, .int .i64 a0_4, .int .i64 a0_5, .slice A0_6 l0_6.length c0_6] 24 (0, 0)) (kx BK214) hg (Kd.R_ne HO_246006.out BK214.out (by decide))); have n3_ := Aside0.mk (blk_grown (g := gb230) (o := .cells #[.int .i64 t220, .string t221, .string t222, .int .i64 t223, .int .i64 t224, .int .i64 t225, u231006] 24 (0, 0)) (kx BK230) hg (Kd.R_ne HO_246006.out BK230.out (by decide))); have n4_ := Aside0.mk (blk_grown (g := gb245) (o := .cells #[.int .i64 t235, .string t236, .string t237, .int .i64 t238, .int .i64 t239, .int .i64 t240, .slice (some ⟨go38, 0, none⟩) x246006_3.length co42] 24 (0, 0)) (kx BK245) hg (Kd.R_ne HO_246006.out BK245.out (by decide))); have n5_ := Aside0.mk ((by rw [hw]; exact below_set (HB.out) GB38.out : Below w.heap.size w w44)); clear HO_231006; clear HO_246006; clear BK214; clear BK230; clear BK245; clear HB; have HO_231006 := n0_; have HO_246006 := n1_; have BK214 := n2_; have BK230 := n3_; have BK245 := n4_; have HB := n5_; clear n0_ n1_ n2_ n3_ n4_ n5_; clear hg hw hp_))
           go_roundg k3
           case measure => have := HK1.out; have := HJ20.out; have := HK3.out; omega
           case rel => exact ⟨(wrap64 (x16_3 + 1)), (x231006_3), (y247), (u231006), (.slice (some ⟨go38, 0, none⟩) x246006_3.length co42), (by first | rfl | (simp; done) | (simp [*]; done) | (simp; exact (fun (l_ : List UInt8) => by cases l_ <;> rfl : ∀ l_ : List UInt8, l_.isEmpty = !(l_ != [])) _)), H', ⟨by have := HK1.out; have := HJ20.out; have := HK3.out; omega⟩, ⟨by (with_reducible repeat (first | apply Kd.R_alloc | apply Kd.R_drewN | apply Kd.R_drew)); exact Kd.R_mono HO_231006.out (fun _ hk => hk.2)⟩, ⟨by (with_reducible repeat (first | apply Kd.R_alloc | apply Kd.R_drewN | apply Kd.R_drew)); exact HO_246006.out⟩, ⟨by (with_reducible repeat (first | refine blk_drewN ?_ _ | refine blk_drew ?_ | refine blk_alloc ?_ _)); exact BK214.out⟩, ⟨by (with_reducible repeat (first | refine blk_drewN ?_ _ | refine blk_drew ?_ | refine blk_alloc ?_ _)); exact BK230.out⟩, ⟨by (with_reducible repeat (first | refine blk_drewN ?_ _ | refine blk_drew ?_ | refine blk_alloc ?_ _)); exact BK245.out⟩, ⟨by repeat (first | (with_reducible first | exact HB.out | apply below_alloc | apply pw_below_drewN | apply below_drew1 | refine below_set ?_ GE214.out | refine below_set ?_ GE230.out | refine below_set ?_ GE245.out) | exact HB.out)⟩⟩
          ·
           rw [if_neg c37] at H
           exact absurd H (by simp)
         ·
          rw [if_neg c36] at H
          have c36b0 : decide (x16_3 < (x246006_3.length : Int)) = false := decide_eq_false c36
          clear c36
          have H' := Aside0.mk H
          clear H
          have hnb45 := NB245_214.out
          have hnc45 := NB214_245.out
          have hnb46 := NB245_230.out
          have hnc46 := NB230_245.out
          have hcz47_0 : wr.cell? ⟨gb245, 0, none⟩ = some (.int .i64 t235) := (blk_cell BK245.out 0).trans rfl
          have hcz47_1 : wr.cell? ⟨gb245, 1, none⟩ = some (.string t236) := (blk_cell BK245.out 1).trans rfl
          have hcz47_2 : wr.cell? ⟨gb245, 2, none⟩ = some (.string t237) := (blk_cell BK245.out 2).trans rfl
          have hcz47_3 : wr.cell? ⟨gb245, 3, none⟩ = some (.int .i64 t238) := (blk_cell BK245.out 3).trans rfl
          have hcz47_4 : wr.cell? ⟨gb245, 4, none⟩ = some (.int .i64 t239) := (blk_cell BK245.out 4).trans rfl
          have hcz47_5 : wr.cell? ⟨gb245, 5, none⟩ = some (.int .i64 t240) := (blk_cell BK245.out 5).trans rfl
          have hcz47_6 : wr.cell? ⟨gb245, 6, none⟩ = some (u246006) := (blk_cell BK245.out 6).trans rfl
          have hfz47_0 := blk_frozen BK245.out 0
          have hfz47_1 := blk_frozen BK245.out 1
          have hfz47_2 := blk_frozen BK245.out 2
          have hfz47_3 := blk_frozen BK245.out 3
          have hfz47_4 := blk_frozen BK245.out 4
          have hfz47_5 := blk_frozen BK245.out 5
          have hfz47_6 := blk_frozen BK245.out 6
          obtain ⟨Ao48, co48, eo48⟩ := Kd.R_slice HO_246006.out
          subst eo48
          go_wp2
          go_roundg k3
          case measure => have := HK1.out; have := HJ20.out; have := HK3.out; omega
          case rel => exact ⟨(wrap64 (x12_1 + 1)), (x231006_3), (u231006), (by first | rfl | (simp; done) | (simp [*]; done) | (simp; exact (fun (l_ : List UInt8) => by cases l_ <;> rfl : ∀ l_ : List UInt8, l_.isEmpty = !(l_ != [])) _)), H', ⟨by have := HK1.out; have := HJ20.out; have := HK3.out; omega⟩, ⟨by (with_reducible repeat (first | apply Kd.R_alloc | apply Kd.R_drewN | apply Kd.R_drew)); exact Kd.R_mono HO_231006.out (fun _ hk => trivial)⟩, ⟨by (with_reducible repeat (first | refine blk_drewN ?_ _ | refine blk_drew ?_ | refine blk_alloc ?_ _)); exact BK214.out⟩, ⟨by (with_reducible repeat (first | refine blk_drewN ?_ _ | refine blk_drew ?_ | refine blk_alloc ?_ _)); exact BK230.out⟩, ⟨by repeat (first | (with_reducible first | exact HB.out | apply below_alloc | apply pw_below_drewN | apply below_drew1 | refine below_set ?_ GE214.out | refine below_set ?_ GE230.out | refine below_set ?_ GE245.out) | exact HB.out)⟩⟩
   ·
    rw [if_neg c18] at H
    have c18b0 : decide (x12_1 < 2) = false := decide_eq_false c18
    clear c18
    by_cases c49 : t215 = true
    ·
     subst c49
     have H1 : (if t216.toList = t218.toList then (if t219 = true then (if t217 = 0 then ((edit_Right.f a0_0 a0_1 a0_2 a0_3 a0_4 a0_5 l0_6).bind fun t231 => ((tabulariumref10_Right.f k1 a0_0 a0_1 a0_2 a0_3 a0_4 a0_5 l0_6).bind fun t232 => (some (t231 == t232)))) else (some false)) else (if t217 = 1 then ((edit_Right.f a0_0 a0_1 a0_2 a0_3 a0_4 a0_5 l0_6).bind fun t233 => ((tabulariumref10_Right.f k1 a0_0 a0_1 a0_2 a0_3 a0_4 a0_5 l0_6).bind fun t234 => (some (t233 == t234)))) else (some false))) else (some false)) = some r := by rw [if_pos rfl] at H; exact H
     clear H
     have H := H1
     clear H1
     by_cases c50 : t216.toList = t218.toList
     ·
      rw [if_pos c50] at H
      have c50b0 : (t216.toList == t218.toList) = true := beq_iff_eq.mpr c50
      have c50b1 : (t216.toList != t218.toList) = false := bne_eq_false_iff_eq.mpr c50
      clear c50
      by_cases c51 : t219 = true
      ·
       subst c51
       have H1 : (if t217 = 0 then ((edit_Right.f a0_0 a0_1 a0_2 a0_3 a0_4 a0_5 l0_6).bind fun t231 => ((tabulariumref10_Right.f k1 a0_0 a0_1 a0_2 a0_3 a0_4 a0_5 l0_6).bind fun t232 => (some (t231 == t232)))) else (some false)) = some r := by rw [if_pos rfl] at H; exact H
       clear H
       have H := H1
       clear H1
       by_cases c52 : t217 = 0
       ·
        rw [if_pos c52] at H
        have c52b0 : (t217 == 0) = true := beq_iff_eq.mpr c52
        have c52b1 : (t217 != 0) = false := bne_eq_false_iff_eq.mpr c52
        clear c52
        replace H := Option.bind_eq_some_iff.mp H
        obtain ⟨t231, A530, H⟩ := H
        replace H : ((tabulariumref10_Right.f k1 a0_0 a0_1 a0_2 a0_3 a0_4 a0_5 l0_6).bind fun t232 => (some (t231 == t232))) = some r := H
        have A53 := Aside0.mk A530
        clear A530
        replace H := Option.bind_eq_some_iff.mp H
        obtain ⟨t232, A540, H⟩ := H
        replace H : (some (t231 == t232)) = some r := H
        have A54 := Aside0.mk A540
        clear A540
        obtain rfl := Option.some.inj H
        try go_wp2
        have n0_ := Aside0.mk (Kd.R_drew HO_231006.out)
        have n1_ := Aside0.mk (blk_drew BK214.out)
        have n2_ := Aside0.mk (blk_drew BK230.out)
        have n3_ := Aside0.mk (below_drew1 HB.out)
        clear HO_231006; clear BK214; clear BK230; clear HB; have HO_231006 := n0_
        have BK214 := n1_
        have BK230 := n2_
        have HB := n3_; clear n0_ n1_ n2_ n3_
        refine start_ (n := 29) (S := fun w' => w'.cell? ⟨gb214, 0, none⟩ = some (.int .i64 a0_0) ∧ w'.cell? ⟨gb214, 1, none⟩ = some (.string a0_1) ∧ w'.cell? ⟨gb214, 2, none⟩ = some (.string a0_2) ∧ w'.cell? ⟨gb214, 3, none⟩ = some (.int .i64 a0_3) ∧ w'.cell? ⟨gb214, 4, none⟩ = some (.int .i64 a0_4) ∧ w'.cell? ⟨gb214, 5, none⟩ = some (.int .i64 a0_5) ∧ w'.cell? ⟨gb214, 6, none⟩ = some (.slice A0_6 l0_6.length c0_6)) (ds := []) (nz 29 0) (by kernel_rfl) rfl (by kernel_rfl) ⟨(blk_cell BK214.out 0).trans rfl, (blk_cell BK214.out 1).trans rfl, (blk_cell BK214.out 2).trans rfl, (blk_cell BK214.out 3).trans rfl, (blk_cell BK214.out 4).trans rfl, (blk_cell BK214.out 5).trans rfl, (blk_cell BK214.out 6).trans rfl⟩ (fun hHeld => ?_); refine with_tabW tabulariumlaw10_EditBytes.tab16 tabulariumlaw10_EditBytes.bits16 (fun HT_ HW_ => ?_)
        generalize wr.drew = w55 at HO_231006 BK214 BK230 HB hHeld ⊢
        refine zp HT_ 0 72 1 ?_
        refine zp HT_ 1 73 3 ?_
        refine zp HT_ 2 74 7 ?_
        refine zp HT_ 3 75 15 ?_
        refine zp HT_ 4 76 31 ?_
        refine zp HT_ 5 77 63 ?_
        refine zp HT_ 6 78 127 ?_
        refine zp HT_ 7 79 255 ?_
        refine zp HT_ 8 80 511 ?_
        refine zp HT_ 9 81 1023 ?_
        refine zp HT_ 10 82 2047 ?_
        refine zp HT_ 11 83 4095 ?_
        refine zp HT_ 12 84 8191 ?_
        refine zq HT_ 13 85 16383 ?_
        refine zq HT_ 14 86 32767 ?_
        refine zq HT_ 15 87 65535 ?_
        refine zq HT_ 16 88 131071 ?_
        refine zq HT_ 17 89 262143 ?_
        refine zq HT_ 18 90 524287 ?_
        refine zp HT_ 19 91 1048575 ?_
        refine zp HT_ 20 92 2097151 ?_
        refine zp HT_ 21 93 4194303 ?_
        refine zt HT_ HW_ hHeld 22 94 8388607 ?_
        refine zt HT_ HW_ hHeld 24 96 25165823 ?_
        refine zo HT_ 23 95 33554431 (fun K hK => ?_)
        refine zg Try.func13 #[.agg #[.int .i64 a0_0, .string a0_1, .string a0_2, .int .i64 a0_3, .int .i64 a0_4, .int .i64 a0_5, .slice A0_6 l0_6.length c0_6]] ?_
        with_reducible refine (edit_Right.calls a0_0 a0_1 a0_2 a0_3 a0_4 a0_5 _ _ l0_6 t231 _ ?side1 ?side2 A53.out).mono ?_
        (case side1 => repeat (first | exact (Kd.C_below HR0_6.out HB.out) | (with_reducible refine Kd.C_alloc ?_ _) | (with_reducible refine Kd.C_drewN ?_ _) | (with_reducible refine Kd.C_drew ?_)))
        (case side2 => exact HC0_6.out)
        rintro e w56 ⟨rfl, hb⟩
        refine ⟨_, rfl, ?_⟩
        have n0_ := Aside0.mk (Kd.R_below (by (with_reducible repeat (first | apply Kd.R_alloc | apply Kd.R_drewN | apply Kd.R_drew)); exact HO_231006.out) hb)
        have n1_ := Aside0.mk (blk_below (g := gb214) (o := .cells #[.int .i64 a0_0, .string a0_1, .string a0_2, .int .i64 a0_3, .int .i64 a0_4, .int .i64 a0_5, .slice A0_6 l0_6.length c0_6] 24 (0, 0)) (kx BK214) hb)
        have n2_ := Aside0.mk (blk_below (g := gb230) (o := .cells #[.int .i64 t220, .string t221, .string t222, .int .i64 t223, .int .i64 t224, .int .i64 t225, u231006] 24 (0, 0)) (kx BK230) hb)
        have n3_ := Aside0.mk (below_step (by exact bw2 HB GE214.out GE230.out) hb)
        clear HO_231006; clear BK214; clear BK230; clear HB; have HO_231006 := n0_
        have BK214 := n1_
        have BK230 := n2_
        have HB := n3_; clear n0_ n1_ n2_ n3_; (try clear hb); (try clear hb2); (try clear hk); (try clear hi)
        refine hK.out _ _ ⟨(blk_cell BK214.out 0).trans rfl, (blk_cell BK214.out 1).trans rfl, (blk_cell BK214.out 2).trans rfl, (blk_cell BK214.out 3).trans rfl, (blk_cell BK214.out 4).trans rfl, (blk_cell BK214.out 5).trans rfl, (blk_cell BK214.out 6).trans rfl⟩ (fun hHeld => ?_)
        clear hK K
        refine zn ?_
        refine zo HT_ 25 97 67108863 (fun K hK => ?_)
        refine zg Try.func14 #[.agg #[.int .i64 a0_0, .string a0_1, .string a0_2, .int .i64 a0_3, .int .i64 a0_4, .int .i64 a0_5, .slice A0_6 l0_6.length c0_6]] ?_
        with_reducible refine (tabulariumref10_Right.calls k1 a0_0 a0_1 a0_2 a0_3 a0_4 a0_5 _ _ l0_6 t232 _ ?side1 ?side2 A54.out).mono ?_
        (case side1 => repeat (first | exact (Kd.C_below HR0_6.out HB.out) | (with_reducible refine Kd.C_alloc ?_ _) | (with_reducible refine Kd.C_drewN ?_ _) | (with_reducible refine Kd.C_drew ?_)))
        (case side2 => exact HC0_6.out)
        rintro e w57 ⟨rfl, hb⟩
        refine ⟨_, rfl, ?_⟩
        have n0_ := Aside0.mk (Kd.R_below (by (with_reducible repeat (first | apply Kd.R_alloc | apply Kd.R_drewN | apply Kd.R_drew)); exact HO_231006.out) hb)
        have n1_ := Aside0.mk (blk_below (g := gb214) (o := .cells #[.int .i64 a0_0, .string a0_1, .string a0_2, .int .i64 a0_3, .int .i64 a0_4, .int .i64 a0_5, .slice A0_6 l0_6.length c0_6] 24 (0, 0)) (kx BK214) hb)
        have n2_ := Aside0.mk (blk_below (g := gb230) (o := .cells #[.int .i64 t220, .string t221, .string t222, .int .i64 t223, .int .i64 t224, .int .i64 t225, u231006] 24 (0, 0)) (kx BK230) hb)
        have n3_ := Aside0.mk (below_step (by exact bw2 HB GE214.out GE230.out) hb)
        clear HO_231006; clear BK214; clear BK230; clear HB; have HO_231006 := n0_
        have BK214 := n1_
        have BK230 := n2_
        have HB := n3_; clear n0_ n1_ n2_ n3_; (try clear hb); (try clear hb2); (try clear hk); (try clear hi)
        refine hK.out _ _ ⟨(blk_cell BK214.out 0).trans rfl, (blk_cell BK214.out 1).trans rfl, (blk_cell BK214.out 2).trans rfl, (blk_cell BK214.out 3).trans rfl, (blk_cell BK214.out 4).trans rfl, (blk_cell BK214.out 5).trans rfl, (blk_cell BK214.out 6).trans rfl⟩ (fun hHeld => ?_)
        clear hK K
        refine zn ?_
        refine zp HT_ 26 98 134217727 ?_
        refine zp HT_ 27 99 268435455 ?_
        refine zp HT_ 28 4 536870911 ?_
        refine done_ (done_of HT_.out (by kernel_rfl)) ?_
        try go_wp2
        go_ret
        exact ⟨by first | rfl | (simp [errW_none, errW_some] <;> rfl) | (simp [*, errW_none, errW_some] <;> rfl), by repeat (first | (with_reducible first | exact HB.out | apply below_alloc | apply pw_below_drewN | apply below_drew1 | refine below_set ?_ GE214.out | refine below_set ?_ GE230.out) | exact HB.out)⟩
       ·
        rw [if_neg c52] at H
        have c52b0 : (t217 == 0) = false := beq_eq_false_iff_ne.mpr c52
        have c52b1 : (t217 != 0) = true := bne_iff_ne.mpr c52
        obtain rfl := Option.some.inj H
        try go_wp2
        have n0_ := Aside0.mk (Kd.R_drew HO_231006.out)
        have n1_ := Aside0.mk (blk_drew BK214.out)
        have n2_ := Aside0.mk (blk_drew BK230.out)
        have n3_ := Aside0.mk (below_drew1 HB.out)
        clear HO_231006; clear BK214; clear BK230; clear HB; have HO_231006 := n0_
        have BK214 := n1_
        have BK230 := n2_
        have HB := n3_; clear n0_ n1_ n2_ n3_
        refine start_ (n := 29) (S := fun w' => True) (ds := []) (nz 29 0) (by kernel_rfl) rfl (by kernel_rfl) trivial (fun hHeld => ?_); refine with_tabW tabulariumlaw10_EditBytes.tab16 tabulariumlaw10_EditBytes.bits16 (fun HT_ HW_ => ?_)
        generalize wr.drew = w58 at HO_231006 BK214 BK230 HB hHeld ⊢
        refine zp HT_ 0 72 1 ?_
        refine zp HT_ 1 73 3 ?_
        refine zp HT_ 2 74 7 ?_
        refine zp HT_ 3 75 15 ?_
        refine zp HT_ 4 76 31 ?_
        refine zp HT_ 5 77 63 ?_
        refine zp HT_ 6 78 127 ?_
        refine zp HT_ 7 79 255 ?_
        refine zp HT_ 8 80 511 ?_
        refine zp HT_ 9 81 1023 ?_
        refine zp HT_ 10 82 2047 ?_
        refine zp HT_ 11 83 4095 ?_
        refine zp HT_ 12 84 8191 ?_
        refine zp HT_ 13 85 16383 ?_
        refine zp HT_ 14 86 32767 ?_
        refine zp HT_ 15 87 65535 ?_
        refine zq HT_ 16 88 131071 ?_
        refine zq HT_ 17 89 262143 ?_
        refine zp HT_ 18 90 524287 ?_
        refine zp HT_ 19 91 1048575 ?_
        refine zp HT_ 20 92 2097151 ?_
        refine zp HT_ 21 93 4194303 ?_
        refine zq HT_ 22 94 8388607 ?_
        refine zq HT_ 23 95 16777215 ?_
        refine zq HT_ 24 96 33554431 ?_
        refine zq HT_ 25 97 67108863 ?_
        refine zq HT_ 26 98 134217727 ?_
        refine zp HT_ 27 99 268435455 ?_
        refine zp HT_ 28 4 536870911 ?_
        refine done_ (done_of HT_.out (by kernel_rfl)) ?_
        try go_wp2
        go_ret
        exact ⟨by first | rfl | (simp [errW_none, errW_some] <;> rfl) | (simp [*, errW_none, errW_some] <;> rfl), by repeat (first | (with_reducible first | exact HB.out | apply below_alloc | apply pw_below_drewN | apply below_drew1 | refine below_set ?_ GE214.out | refine below_set ?_ GE230.out) | exact HB.out)⟩
      ·
       replace c51 := Bool.eq_false_iff.mpr c51
       subst c51
       have H1 : (if t217 = 1 then ((edit_Right.f a0_0 a0_1 a0_2 a0_3 a0_4 a0_5 l0_6).bind fun t233 => ((tabulariumref10_Right.f k1 a0_0 a0_1 a0_2 a0_3 a0_4 a0_5 l0_6).bind fun t234 => (some (t233 == t234)))) else (some false)) = some r := by rw [if_neg (show ¬ (false = true) by decide)] at H; exact H
       clear H
       have H := H1
       clear H1
       by_cases c59 : t217 = 1
       ·
        rw [if_pos c59] at H
        have c59b0 : (t217 == 1) = true := beq_iff_eq.mpr c59
        have c59b1 : (t217 != 1) = false := bne_eq_false_iff_eq.mpr c59
        clear c59
        replace H := Option.bind_eq_some_iff.mp H
        obtain ⟨t233, A600, H⟩ := H
        replace H : ((tabulariumref10_Right.f k1 a0_0 a0_1 a0_2 a0_3 a0_4 a0_5 l0_6).bind fun t234 => (some (t233 == t234))) = some r := H
        have A60 := Aside0.mk A600
        clear A600
        replace H := Option.bind_eq_some_iff.mp H
        obtain ⟨t234, A610, H⟩ := H
        replace H : (some (t233 == t234)) = some r := H
        have A61 := Aside0.mk A610
        clear A610
        obtain rfl := Option.some.inj H
        try go_wp2
        have n0_ := Aside0.mk (Kd.R_drew HO_231006.out)
        have n1_ := Aside0.mk (blk_drew BK214.out)
        have n2_ := Aside0.mk (blk_drew BK230.out)
        have n3_ := Aside0.mk (below_drew1 HB.out)
        clear HO_231006; clear BK214; clear BK230; clear HB; have HO_231006 := n0_
        have BK214 := n1_
        have BK230 := n2_
        have HB := n3_; clear n0_ n1_ n2_ n3_
        refine start_ (n := 29) (S := fun w' => w'.cell? ⟨gb214, 0, none⟩ = some (.int .i64 a0_0) ∧ w'.cell? ⟨gb214, 1, none⟩ = some (.string a0_1) ∧ w'.cell? ⟨gb214, 2, none⟩ = some (.string a0_2) ∧ w'.cell? ⟨gb214, 3, none⟩ = some (.int .i64 a0_3) ∧ w'.cell? ⟨gb214, 4, none⟩ = some (.int .i64 a0_4) ∧ w'.cell? ⟨gb214, 5, none⟩ = some (.int .i64 a0_5) ∧ w'.cell? ⟨gb214, 6, none⟩ = some (.slice A0_6 l0_6.length c0_6)) (ds := []) (nz 29 0) (by kernel_rfl) rfl (by kernel_rfl) ⟨(blk_cell BK214.out 0).trans rfl, (blk_cell BK214.out 1).trans rfl, (blk_cell BK214.out 2).trans rfl, (blk_cell BK214.out 3).trans rfl, (blk_cell BK214.out 4).trans rfl, (blk_cell BK214.out 5).trans rfl, (blk_cell BK214.out 6).trans rfl⟩ (fun hHeld => ?_); refine with_tabW tabulariumlaw10_EditBytes.tab16 tabulariumlaw10_EditBytes.bits16 (fun HT_ HW_ => ?_)
        generalize wr.drew = w62 at HO_231006 BK214 BK230 HB hHeld ⊢
        refine zp HT_ 0 72 1 ?_
        refine zp HT_ 1 73 3 ?_
        refine zp HT_ 2 74 7 ?_
        refine zp HT_ 3 75 15 ?_
        refine zp HT_ 4 76 31 ?_
        refine zp HT_ 5 77 63 ?_
        refine zp HT_ 6 78 127 ?_
        refine zp HT_ 7 79 255 ?_
        refine zp HT_ 8 80 511 ?_
        refine zq HT_ 9 81 1023 ?_
        refine zq HT_ 10 82 2047 ?_
        refine zp HT_ 11 83 4095 ?_
        refine zp HT_ 12 84 8191 ?_
        refine zp HT_ 13 85 16383 ?_
        refine zp HT_ 14 86 32767 ?_
        refine zp HT_ 15 87 65535 ?_
        refine zp HT_ 16 88 131071 ?_
        refine zp HT_ 17 89 262143 ?_
        refine zp HT_ 18 90 524287 ?_
        refine zp HT_ 19 91 1048575 ?_
        refine zp HT_ 20 92 2097151 ?_
        refine zp HT_ 21 93 4194303 ?_
        refine zt HT_ HW_ hHeld 22 94 8388607 ?_
        refine zt HT_ HW_ hHeld 24 96 25165823 ?_
        refine zo HT_ 23 95 33554431 (fun K hK => ?_)
        refine zg Try.func13 #[.agg #[.int .i64 a0_0, .string a0_1, .string a0_2, .int .i64 a0_3, .int .i64 a0_4, .int .i64 a0_5, .slice A0_6 l0_6.length c0_6]] ?_
        with_reducible refine (edit_Right.calls a0_0 a0_1 a0_2 a0_3 a0_4 a0_5 _ _ l0_6 t233 _ ?side1 ?side2 A60.out).mono ?_
        (case side1 => repeat (first | exact (Kd.C_below HR0_6.out HB.out) | (with_reducible refine Kd.C_alloc ?_ _) | (with_reducible refine Kd.C_drewN ?_ _) | (with_reducible refine Kd.C_drew ?_)))
        (case side2 => exact HC0_6.out)
        rintro e w63 ⟨rfl, hb⟩
        refine ⟨_, rfl, ?_⟩
        have n0_ := Aside0.mk (Kd.R_below (by (with_reducible repeat (first | apply Kd.R_alloc | apply Kd.R_drewN | apply Kd.R_drew)); exact HO_231006.out) hb)
        have n1_ := Aside0.mk (blk_below (g := gb214) (o := .cells #[.int .i64 a0_0, .string a0_1, .string a0_2, .int .i64 a0_3, .int .i64 a0_4, .int .i64 a0_5, .slice A0_6 l0_6.length c0_6] 24 (0, 0)) (kx BK214) hb)
        have n2_ := Aside0.mk (blk_below (g := gb230) (o := .cells #[.int .i64 t220, .string t221, .string t222, .int .i64 t223, .int .i64 t224, .int .i64 t225, u231006] 24 (0, 0)) (kx BK230) hb)
        have n3_ := Aside0.mk (below_step (by exact bw2 HB GE214.out GE230.out) hb)
        clear HO_231006; clear BK214; clear BK230; clear HB; have HO_231006 := n0_
        have BK214 := n1_
        have BK230 := n2_
        have HB := n3_; clear n0_ n1_ n2_ n3_; (try clear hb); (try clear hb2); (try clear hk); (try clear hi)
        refine hK.out _ _ ⟨(blk_cell BK214.out 0).trans rfl, (blk_cell BK214.out 1).trans rfl, (blk_cell BK214.out 2).trans rfl, (blk_cell BK214.out 3).trans rfl, (blk_cell BK214.out 4).trans rfl, (blk_cell BK214.out 5).trans rfl, (blk_cell BK214.out 6).trans rfl⟩ (fun hHeld => ?_)
        clear hK K
        refine zn ?_
        refine zo HT_ 25 97 67108863 (fun K hK => ?_)
        refine zg Try.func14 #[.agg #[.int .i64 a0_0, .string a0_1, .string a0_2, .int .i64 a0_3, .int .i64 a0_4, .int .i64 a0_5, .slice A0_6 l0_6.length c0_6]] ?_
        with_reducible refine (tabulariumref10_Right.calls k1 a0_0 a0_1 a0_2 a0_3 a0_4 a0_5 _ _ l0_6 t234 _ ?side1 ?side2 A61.out).mono ?_
        (case side1 => repeat (first | exact (Kd.C_below HR0_6.out HB.out) | (with_reducible refine Kd.C_alloc ?_ _) | (with_reducible refine Kd.C_drewN ?_ _) | (with_reducible refine Kd.C_drew ?_)))
        (case side2 => exact HC0_6.out)
        rintro e w64 ⟨rfl, hb⟩
        refine ⟨_, rfl, ?_⟩
        have n0_ := Aside0.mk (Kd.R_below (by (with_reducible repeat (first | apply Kd.R_alloc | apply Kd.R_drewN | apply Kd.R_drew)); exact HO_231006.out) hb)
        have n1_ := Aside0.mk (blk_below (g := gb214) (o := .cells #[.int .i64 a0_0, .string a0_1, .string a0_2, .int .i64 a0_3, .int .i64 a0_4, .int .i64 a0_5, .slice A0_6 l0_6.length c0_6] 24 (0, 0)) (kx BK214) hb)
        have n2_ := Aside0.mk (blk_below (g := gb230) (o := .cells #[.int .i64 t220, .string t221, .string t222, .int .i64 t223, .int .i64 t224, .int .i64 t225, u231006] 24 (0, 0)) (kx BK230) hb)
        have n3_ := Aside0.mk (below_step (by exact bw2 HB GE214.out GE230.out) hb)
        clear HO_231006; clear BK214; clear BK230; clear HB; have HO_231006 := n0_
        have BK214 := n1_
        have BK230 := n2_
        have HB := n3_; clear n0_ n1_ n2_ n3_; (try clear hb); (try clear hb2); (try clear hk); (try clear hi)
        refine hK.out _ _ ⟨(blk_cell BK214.out 0).trans rfl, (blk_cell BK214.out 1).trans rfl, (blk_cell BK214.out 2).trans rfl, (blk_cell BK214.out 3).trans rfl, (blk_cell BK214.out 4).trans rfl, (blk_cell BK214.out 5).trans rfl, (blk_cell BK214.out 6).trans rfl⟩ (fun hHeld => ?_)
        clear hK K
        refine zn ?_
        refine zp HT_ 26 98 134217727 ?_
        refine zp HT_ 27 99 268435455 ?_
        refine zp HT_ 28 4 536870911 ?_
        refine done_ (done_of HT_.out (by kernel_rfl)) ?_
        try go_wp2
        go_ret
        exact ⟨by first | rfl | (simp [errW_none, errW_some] <;> rfl) | (simp [*, errW_none, errW_some] <;> rfl), by repeat (first | (with_reducible first | exact HB.out | apply below_alloc | apply pw_below_drewN | apply below_drew1 | refine below_set ?_ GE214.out | refine below_set ?_ GE230.out) | exact HB.out)⟩
       ·
        rw [if_neg c59] at H
        have c59b0 : (t217 == 1) = false := beq_eq_false_iff_ne.mpr c59
        have c59b1 : (t217 != 1) = true := bne_iff_ne.mpr c59
        obtain rfl := Option.some.inj H
        try go_wp2
        have n0_ := Aside0.mk (Kd.R_drew HO_231006.out)
        have n1_ := Aside0.mk (blk_drew BK214.out)
        have n2_ := Aside0.mk (blk_drew BK230.out)
        have n3_ := Aside0.mk (below_drew1 HB.out)
        clear HO_231006; clear BK214; clear BK230; clear HB; have HO_231006 := n0_
        have BK214 := n1_
        have BK230 := n2_
        have HB := n3_; clear n0_ n1_ n2_ n3_
        refine start_ (n := 29) (S := fun w' => True) (ds := []) (nz 29 0) (by kernel_rfl) rfl (by kernel_rfl) trivial (fun hHeld => ?_); refine with_tabW tabulariumlaw10_EditBytes.tab16 tabulariumlaw10_EditBytes.bits16 (fun HT_ HW_ => ?_)
        generalize wr.drew = w65 at HO_231006 BK214 BK230 HB hHeld ⊢
        refine zp HT_ 0 72 1 ?_
        refine zp HT_ 1 73 3 ?_
        refine zp HT_ 2 74 7 ?_
        refine zp HT_ 3 75 15 ?_
        refine zp HT_ 4 76 31 ?_
        refine zp HT_ 5 77 63 ?_
        refine zp HT_ 6 78 127 ?_
        refine zp HT_ 7 79 255 ?_
        refine zp HT_ 8 80 511 ?_
        refine zq HT_ 9 81 1023 ?_
        refine zq HT_ 10 82 2047 ?_
        refine zp HT_ 11 83 4095 ?_
        refine zp HT_ 12 84 8191 ?_
        refine zp HT_ 13 85 16383 ?_
        refine zp HT_ 14 86 32767 ?_
        refine zp HT_ 15 87 65535 ?_
        refine zp HT_ 16 88 131071 ?_
        refine zp HT_ 17 89 262143 ?_
        refine zp HT_ 18 90 524287 ?_
        refine zp HT_ 19 91 1048575 ?_
        refine zp HT_ 20 92 2097151 ?_
        refine zp HT_ 21 93 4194303 ?_
        refine zq HT_ 22 94 8388607 ?_
        refine zq HT_ 23 95 16777215 ?_
        refine zq HT_ 24 96 33554431 ?_
        refine zq HT_ 25 97 67108863 ?_
        refine zq HT_ 26 98 134217727 ?_
        refine zp HT_ 27 99 268435455 ?_
        refine zp HT_ 28 4 536870911 ?_
        refine done_ (done_of HT_.out (by kernel_rfl)) ?_
        try go_wp2
        go_ret
        exact ⟨by first | rfl | (simp [errW_none, errW_some] <;> rfl) | (simp [*, errW_none, errW_some] <;> rfl), by repeat (first | (with_reducible first | exact HB.out | apply below_alloc | apply pw_below_drewN | apply below_drew1 | refine below_set ?_ GE214.out | refine below_set ?_ GE230.out) | exact HB.out)⟩
     ·
      rw [if_neg c50] at H
      have c50b0 : (t216.toList == t218.toList) = false := beq_eq_false_iff_ne.mpr c50
      have c50b1 : (t216.toList != t218.toList) = true := bne_iff_ne.mpr c50
      obtain rfl := Option.some.inj H
      try go_wp2
      have n0_ := Aside0.mk (Kd.R_drew HO_231006.out)
      have n1_ := Aside0.mk (blk_drew BK214.out)
      have n2_ := Aside0.mk (blk_drew BK230.out)
      have n3_ := Aside0.mk (below_drew1 HB.out)
      clear HO_231006; clear BK214; clear BK230; clear HB; have HO_231006 := n0_
      have BK214 := n1_
      have BK230 := n2_
      have HB := n3_; clear n0_ n1_ n2_ n3_
      refine start_ (n := 29) (S := fun w' => True) (ds := []) (nz 29 0) (by kernel_rfl) rfl (by kernel_rfl) trivial (fun hHeld => ?_); refine with_tabW tabulariumlaw10_EditBytes.tab16 tabulariumlaw10_EditBytes.bits16 (fun HT_ HW_ => ?_)
      generalize wr.drew = w66 at HO_231006 BK214 BK230 HB hHeld ⊢
      refine zp HT_ 0 72 1 ?_
      refine zp HT_ 1 73 3 ?_
      refine zp HT_ 2 74 7 ?_
      refine zp HT_ 3 75 15 ?_
      refine zp HT_ 4 76 31 ?_
      refine zp HT_ 5 77 63 ?_
      refine zp HT_ 6 78 127 ?_
      refine zq HT_ 7 79 255 ?_
      refine zq HT_ 8 80 511 ?_
      refine zq HT_ 9 81 1023 ?_
      refine zq HT_ 10 82 2047 ?_
      refine zq HT_ 11 83 4095 ?_
      refine zq HT_ 12 84 8191 ?_
      refine zq HT_ 13 85 16383 ?_
      refine zq HT_ 14 86 32767 ?_
      refine zq HT_ 15 87 65535 ?_
      refine zq HT_ 16 88 131071 ?_
      refine zq HT_ 17 89 262143 ?_
      refine zq HT_ 18 90 524287 ?_
      refine zq HT_ 19 91 1048575 ?_
      refine zp HT_ 20 92 2097151 ?_
      refine zp HT_ 21 93 4194303 ?_
      refine zq HT_ 22 94 8388607 ?_
      refine zq HT_ 23 95 16777215 ?_
      refine zq HT_ 24 96 33554431 ?_
      refine zq HT_ 25 97 67108863 ?_
      refine zq HT_ 26 98 134217727 ?_
      refine zp HT_ 27 99 268435455 ?_
      refine zp HT_ 28 4 536870911 ?_
      refine done_ (done_of HT_.out (by kernel_rfl)) ?_
      try go_wp2
      go_ret
      exact ⟨by first | rfl | (simp [errW_none, errW_some] <;> rfl) | (simp [*, errW_none, errW_some] <;> rfl), by repeat (first | (with_reducible first | exact HB.out | apply below_alloc | apply pw_below_drewN | apply below_drew1 | refine below_set ?_ GE214.out | refine below_set ?_ GE230.out) | exact HB.out)⟩
    ·
     replace c49 := Bool.eq_false_iff.mpr c49
     subst c49
     have H1 : (some false) = some r := by rw [if_neg (show ¬ (false = true) by decide)] at H; exact H
     clear H
     have H := H1
     clear H1
     obtain rfl := Option.some.inj H
     try go_wp2
     have n0_ := Aside0.mk (Kd.R_drew HO_231006.out)
     have n1_ := Aside0.mk (blk_drew BK214.out)
     have n2_ := Aside0.mk (blk_drew BK230.out)
     have n3_ := Aside0.mk (below_drew1 HB.out)
     clear HO_231006; clear BK214; clear BK230; clear HB; have HO_231006 := n0_
     have BK214 := n1_
     have BK230 := n2_
     have HB := n3_; clear n0_ n1_ n2_ n3_
     refine start_ (n := 29) (S := fun w' => True) (ds := []) (nz 29 0) (by kernel_rfl) rfl (by kernel_rfl) trivial (fun hHeld => ?_); refine with_tabW tabulariumlaw10_EditBytes.tab16 tabulariumlaw10_EditBytes.bits16 (fun HT_ HW_ => ?_)
     generalize wr.drew = w67 at HO_231006 BK214 BK230 HB hHeld ⊢
     refine zp HT_ 0 72 1 ?_
     refine zp HT_ 1 73 3 ?_
     refine zq HT_ 2 74 7 ?_
     refine zq HT_ 3 75 15 ?_
     refine zq HT_ 4 76 31 ?_
     refine zp HT_ 5 77 63 ?_
     refine zp HT_ 6 78 127 ?_
     refine zq HT_ 7 79 255 ?_
     refine zq HT_ 8 80 511 ?_
     refine zq HT_ 9 81 1023 ?_
     refine zq HT_ 10 82 2047 ?_
     refine zq HT_ 11 83 4095 ?_
     refine zq HT_ 12 84 8191 ?_
     refine zq HT_ 13 85 16383 ?_
     refine zq HT_ 14 86 32767 ?_
     refine zq HT_ 15 87 65535 ?_
     refine zq HT_ 16 88 131071 ?_
     refine zq HT_ 17 89 262143 ?_
     refine zq HT_ 18 90 524287 ?_
     refine zq HT_ 19 91 1048575 ?_
     refine zp HT_ 20 92 2097151 ?_
     refine zp HT_ 21 93 4194303 ?_
     refine zq HT_ 22 94 8388607 ?_
     refine zq HT_ 23 95 16777215 ?_
     refine zq HT_ 24 96 33554431 ?_
     refine zq HT_ 25 97 67108863 ?_
     refine zq HT_ 26 98 134217727 ?_
     refine zp HT_ 27 99 268435455 ?_
     refine zp HT_ 28 4 536870911 ?_
     refine done_ (done_of HT_.out (by kernel_rfl)) ?_
     try go_wp2
     go_ret
     exact ⟨by first | rfl | (simp [errW_none, errW_some] <;> rfl) | (simp [*, errW_none, errW_some] <;> rfl), by repeat (first | (with_reducible first | exact HB.out | apply below_alloc | apply pw_below_drewN | apply below_drew1 | refine below_set ?_ GE214.out | refine below_set ?_ GE230.out) | exact HB.out)⟩

/-- THE ONE PURE STATEMENT of tabulariumlaw10_EditBytes. -/
def tabulariumlaw10_EditBytes.Pure : Prop := ∀ (a0_0 : Int) (a0_1 : ByteArray) (a0_2 : ByteArray) (a0_3 : Int) (a0_4 : Int) (a0_5 : Int) (l0_6 : List Int) (a1 : ByteArray), ((Lit.int .i64 a0_0).wf = true) → (a0_1.size ≤ 140737488351232) → (a0_2.size ≤ 140737488351232) → ((Lit.int .i64 a0_3).wf = true) → ((Lit.int .i64 a0_4).wf = true) → ((Lit.int .i64 a0_5).wf = true) → (l0_6.length ≤ maxLen) → (l0_6.length * 8 ≤ 140737488351232) → (∀ y4_ ∈ l0_6, ((Lit.int .i64 y4_).wf = true)) → (a1.size ≤ 140737488351232) → ∃ k, tabulariumlaw10_EditBytes.f k a0_0 a0_1 a0_2 a0_3 a0_4 a0_5 l0_6 a1 = some true
theorem tabulariumlaw10_EditBytes.walk (P : tabulariumlaw10_EditBytes.Pure) (a0_0 : Int) (a0_1 : ByteArray) (a0_2 : ByteArray) (a0_3 : Int) (a0_4 : Int) (a0_5 : Int) (A0_6 : Option Addr) (c0_6 : Nat) (l0_6 : List Int) (a1 : ByteArray) (w : World) (hr0_6 : Kd.C (Kd.int .i64) w A0_6 l0_6.length l0_6) (hc0_6 : l0_6.length ≤ c0_6) (g0 : (Lit.int .i64 a0_0).wf = true) (g1 : a0_1.size ≤ 140737488351232) (g2 : a0_2.size ≤ 140737488351232) (g3 : (Lit.int .i64 a0_3).wf = true) (g4 : (Lit.int .i64 a0_4).wf = true) (g5 : (Lit.int .i64 a0_5).wf = true) (g6 : l0_6.length ≤ maxLen) (g7 : l0_6.length * 8 ≤ 140737488351232) (g8 : ∀ y4_ ∈ l0_6, ((Lit.int .i64 y4_).wf = true)) (g9 : a1.size ≤ 140737488351232) :
  Calls Try.prog 3 #[.agg #[.int .i64 a0_0, .string a0_1, .string a0_2, .int .i64 a0_3, .int .i64 a0_4, .int .i64 a0_5, .slice A0_6 l0_6.length c0_6], .string a1] w fun e w' => e = .returned (.bool true) ∧ Below w.heap.size w w' := by
 obtain ⟨k, h⟩ := P a0_0 a0_1 a0_2 a0_3 a0_4 a0_5 l0_6 a1 g0 g1 g2 g3 g4 g5 g6 g7 g8 g9
 refine (tabulariumlaw10_EditBytes.calls k a0_0 a0_1 a0_2 a0_3 a0_4 a0_5 A0_6 c0_6 l0_6 a1 true w hr0_6 hc0_6 h).mono ?_
 rintro e w' ⟨rfl, hd⟩
 exact ⟨rfl, hd⟩

end Go.Proofs.Ytecjdchjaoimfaa.P
