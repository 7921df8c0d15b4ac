/- The Go functions of this seat as plain Lean functions, and for each the proof that its call gives what the plain function gives. Printed by a program of this session. -/
import Derived.Test.YtecjdchjaoimfaaPz
import Derived.Test.YtecjdchjaoimfaaPx0
import Derived.Test.YtecjdchjaoimfaaPx10
import Derived.Test.YtecjdchjaoimfaaPx11
namespace Go.Proofs.Ytecjdchjaoimfaa.P
open Go.RowKit Go.Proofs.YtecjdchjaoimfaaW.PrintWords Go.Proofs.YtecjdchjaoimfaaW.PrintLast Go.Proofs.YtecjdchjaoimfaaW.PrintMore
attribute [local go_sem] max2_int min2_int max_two min_two max_three min_three max_four min_four   -- for this text's walks alone
set_option linter.unusedVariables false
set_option linter.unusedSimpArgs false

/-! ### tabulariumref10_Encode: function 9 -/
def tabulariumref10_Encode.l0 : Nat → ByteArray → Int → Int → ByteArray → ByteArray → Int → Int → Int → List Int → Option (ByteArray × Bool)
 | 0, _, _, _, _, _, _, _, _, _ => none
 | k + 1, x9, x10, x162000, x162001, x162002, x162003, x162004, x162005, x162006 => if x10 < (x162006.length : Int) then (if 0 ≤ x10 then ((tabulariumref01_Num.f k (rd x162006 x10)).bind fun t173 => (if x9.size + t173.size ≤ 9223372036854775807 then (tabulariumref10_Encode.l0 k (x9 ++ t173) (wrap64 (x10 + 1)) x162000 x162001 x162002 x162003 x162004 x162005 x162006) else (none))) else (none)) else (some (x9, true))
def tabulariumref10_Encode.f (k : Nat) (a0_0 : Int) (a0_1 : ByteArray) (a0_2 : ByteArray) (a0_3 : Int) (a0_4 : Int) (a0_5 : Int) (l0_6 : List Int) : Option (ByteArray × Bool) := (tabulariumref10_Right.f k a0_0 a0_1 a0_2 a0_3 a0_4 a0_5 l0_6).bind fun t162 => (if t162 = true then ((tabulariumref01_Text.f k a0_1).bind fun bt163 => ((tabulariumref01_Text.f k a0_2).bind fun bt165 => ((tabulariumref01_Num.f k a0_0).bind fun t167 => (if t167.size + bt163.1.size ≤ 9223372036854775807 then (if (t167 ++ bt163.1).size + bt165.1.size ≤ 9223372036854775807 then ((tabulariumref01_Num.f k a0_3).bind fun t168 => (if ((t167 ++ bt163.1) ++ bt165.1).size + t168.size ≤ 9223372036854775807 then ((tabulariumref01_Num.f k a0_4).bind fun t169 => (if (((t167 ++ bt163.1) ++ bt165.1) ++ t168).size + t169.size ≤ 9223372036854775807 then ((tabulariumref01_Num.f k a0_5).bind fun t170 => (if ((((t167 ++ bt163.1) ++ bt165.1) ++ t168) ++ t169).size + t170.size ≤ 9223372036854775807 then ((tabulariumref01_Num.f k (l0_6.length : Int)).bind fun t171 => (if (((((t167 ++ bt163.1) ++ bt165.1) ++ t168) ++ t169) ++ t170).size + t171.size ≤ 9223372036854775807 then (tabulariumref10_Encode.l0 k ((((((t167 ++ bt163.1) ++ bt165.1) ++ t168) ++ t169) ++ t170) ++ t171) 0 a0_0 a0_1 a0_2 a0_3 a0_4 a0_5 l0_6) else (none))) else (none))) else (none))) else (none))) else (none)) else (none))))) else (some ((⟨#[]⟩ : ByteArray), false)))
theorem tabulariumref10_Encode.mono_l : ∀ k, (∀ y0 y1 y2 y3 y4 y5 y6 y7 y8, LeO (tabulariumref10_Encode.l0 k y0 y1 y2 y3 y4 y5 y6 y7 y8) (tabulariumref10_Encode.l0 (k + 1) y0 y1 y2 y3 y4 y5 y6 y7 y8))
 | 0 => fun _ _ _ _ _ _ _ _ _ r h => by simp [tabulariumref10_Encode.l0] at h
 | k + 1 => by
  have ih0 := tabulariumref10_Encode.mono_l k
  ·
   intro y0 y1 y2 y3 y4 y5 y6 y7 y8
   unfold tabulariumref10_Encode.l0
   repeat' first
   | (with_reducible exact ih0 _ _ _ _ _ _ _ _ _)
   | (with_reducible exact tabulariumref01_Num.mono _ _)
   | (with_reducible exact tabulariumref01_Text.mono _ _)
   | (with_reducible exact tabulariumref10_Right.mono _ _ _ _ _ _ _ _)
   | (with_reducible exact LeO.refl _)
   | (with_reducible exact LeO.none _)
   | (with_reducible refine LeO.ite ?_ ?_)
   | (with_reducible refine LeO.bind ?_ (fun _ => ?_))
   | exact ih0 _ _ _ _ _ _ _ _ _
   | exact tabulariumref01_Num.mono _ _
   | exact tabulariumref01_Text.mono _ _
   | exact tabulariumref10_Right.mono _ _ _ _ _ _ _ _
   | exact LeO.none _
   | refine LeO.ite ?_ ?_
   | refine LeO.bind ?_ (fun _ => ?_)
theorem tabulariumref10_Encode.mono : ∀ a0 a1 a2 a3 a4 a5 a6 k, LeO (tabulariumref10_Encode.f k a0 a1 a2 a3 a4 a5 a6) (tabulariumref10_Encode.f (k + 1) a0 a1 a2 a3 a4 a5 a6) := by
 intro a0 a1 a2 a3 a4 a5 a6 k
 have ih0 := tabulariumref10_Encode.mono_l k
 unfold tabulariumref10_Encode.f
 repeat' first
   | (with_reducible exact ih0 _ _ _ _ _ _ _ _ _)
   | (with_reducible exact tabulariumref01_Num.mono _ _)
   | (with_reducible exact tabulariumref01_Text.mono _ _)
   | (with_reducible exact tabulariumref10_Right.mono _ _ _ _ _ _ _ _)
   | (with_reducible exact LeO.refl _)
   | (with_reducible exact LeO.none _)
   | (with_reducible refine LeO.ite ?_ ?_)
   | (with_reducible refine LeO.bind ?_ (fun _ => ?_))
   | exact ih0 _ _ _ _ _ _ _ _ _
   | exact tabulariumref01_Num.mono _ _
   | exact tabulariumref01_Text.mono _ _
   | exact tabulariumref10_Right.mono _ _ _ _ _ _ _ _
   | exact LeO.none _
   | refine LeO.ite ?_ ?_
   | refine LeO.bind ?_ (fun _ => ?_)
def tabulariumref10_Encode.T6 : Bool × List (List Nat × List Nat) := (true, [([], []), ([0], [0]), ([1], [1]), ([], []), ([2, 3], [2, 3]), ([], []), ([4, 5], [4, 5]), ([], []), ([7], [7]), ([8, 2], [8]), ([6, 9], [6, 9]), ([], []), ([11], [11]), ([12, 9], [12]), ([10, 13], [10, 13]), ([], []), ([15], [15]), ([16, 13], [16]), ([14, 17], [14, 17]), ([], []), ([19], [19]), ([20], [20]), ([21, 17], [21]), ([18, 22], [18, 22]), ([23, 22, 0, 1, 2, 3, 4, 5, 6, 7, 8, 9, 10, 11, 12, 13, 14, 15, 16, 17, 18, 19, 20, 21, 22, 23], [23])])
def tabulariumref10_Encode.B6 : List Nat := [0, 1, 3, 0, 15, 0, 63, 0, 128, 391, 1023, 0, 2048, 7047, 16383, 0, 32768, 113543, 262143, 0, 524288, 1572864, 3914631, 8388607, 16777215]
theorem tabulariumref10_Encode.tab6 : rtab .any (opsOf Try.f9 6) = tabulariumref10_Encode.T6 := by kernel_rfl
theorem tabulariumref10_Encode.bits6 : waitsOk tabulariumref10_Encode.T6.2 tabulariumref10_Encode.B6 = true := by kernel_rfl
set_option maxHeartbeats 8000000 in
set_option maxRecDepth 100000 in
theorem tabulariumref10_Encode.calls (k : Nat) (a0_0 : Int) (a0_1 : ByteArray) (a0_2 : ByteArray) (a0_3 : Int) (a0_4 : Int) (a0_5 : Int) (A0_6 : Option Addr) (c0_6 : Nat) (l0_6 : List Int) (r1 : ByteArray) (r2 : Bool) (w : World) (hr0_6 : Kd.C (Kd.int .i64) w A0_6 l0_6.length l0_6) (hc0_6 : l0_6.length ≤ c0_6) (h : tabulariumref10_Encode.f k a0_0 a0_1 a0_2 a0_3 a0_4 a0_5 l0_6 = some (r1, r2)) :
  Calls Try.prog 9 #[.agg #[.int .i64 a0_0, .string a0_1, .string a0_2, .int .i64 a0_3, .int .i64 a0_4, .int .i64 a0_5, .slice A0_6 l0_6.length c0_6]] w fun e w' => e = .returned (.tuple #[.string r1, .bool r2]) ∧ Below w.heap.size w w' := by
 have hu24 := Try.underlying24
 have HR0_6 := Aside0.mk hr0_6
 have HC0_6 := Aside0.mk hc0_6
 clear hr0_6 hc0_6
 have HB := Aside0.mk (Below.refl w.heap.size w)
 have H : ((tabulariumref10_Right.f k a0_0 a0_1 a0_2 a0_3 a0_4 a0_5 l0_6).bind fun t162 => (if t162 = true then ((tabulariumref01_Text.f k a0_1).bind fun bt163 => ((tabulariumref01_Text.f k a0_2).bind fun bt165 => ((tabulariumref01_Num.f k a0_0).bind fun t167 => (if t167.size + bt163.1.size ≤ 9223372036854775807 then (if (t167 ++ bt163.1).size + bt165.1.size ≤ 9223372036854775807 then ((tabulariumref01_Num.f k a0_3).bind fun t168 => (if ((t167 ++ bt163.1) ++ bt165.1).size + t168.size ≤ 9223372036854775807 then ((tabulariumref01_Num.f k a0_4).bind fun t169 => (if (((t167 ++ bt163.1) ++ bt165.1) ++ t168).size + t169.size ≤ 9223372036854775807 then ((tabulariumref01_Num.f k a0_5).bind fun t170 => (if ((((t167 ++ bt163.1) ++ bt165.1) ++ t168) ++ t169).size + t170.size ≤ 9223372036854775807 then ((tabulariumref01_Num.f k (l0_6.length : Int)).bind fun t171 => (if (((((t167 ++ bt163.1) ++ bt165.1) ++ t168) ++ t169) ++ t170).size + t171.size ≤ 9223372036854775807 then (tabulariumref10_Encode.l0 k ((((((t167 ++ bt163.1) ++ bt165.1) ++ t168) ++ t169) ++ t170) ++ t171) 0 a0_0 a0_1 a0_2 a0_3 a0_4 a0_5 l0_6) else (none))) else (none))) else (none))) else (none))) else (none)) else (none))))) else (some ((⟨#[]⟩ : ByteArray), false)))) = some (r1, r2) := h
 clear h
 replace H := Option.bind_eq_some_iff.mp H
 obtain ⟨t162, A20, H⟩ := H
 replace H : (if t162 = true then ((tabulariumref01_Text.f k a0_1).bind fun bt163 => ((tabulariumref01_Text.f k a0_2).bind fun bt165 => ((tabulariumref01_Num.f k a0_0).bind fun t167 => (if t167.size + bt163.1.size ≤ 9223372036854775807 then (if (t167 ++ bt163.1).size + bt165.1.size ≤ 9223372036854775807 then ((tabulariumref01_Num.f k a0_3).bind fun t168 => (if ((t167 ++ bt163.1) ++ bt165.1).size + t168.size ≤ 9223372036854775807 then ((tabulariumref01_Num.f k a0_4).bind fun t169 => (if (((t167 ++ bt163.1) ++ bt165.1) ++ t168).size + t169.size ≤ 9223372036854775807 then ((tabulariumref01_Num.f k a0_5).bind fun t170 => (if ((((t167 ++ bt163.1) ++ bt165.1) ++ t168) ++ t169).size + t170.size ≤ 9223372036854775807 then ((tabulariumref01_Num.f k (l0_6.length : Int)).bind fun t171 => (if (((((t167 ++ bt163.1) ++ bt165.1) ++ t168) ++ t169) ++ t170).size + t171.size ≤ 9223372036854775807 then (tabulariumref10_Encode.l0 k ((((((t167 ++ bt163.1) ++ bt165.1) ++ t168) ++ t169) ++ t170) ++ t171) 0 a0_0 a0_1 a0_2 a0_3 a0_4 a0_5 l0_6) else (none))) else (none))) else (none))) else (none))) else (none)) else (none))))) else (some ((⟨#[]⟩ : ByteArray), false))) = some (r1, r2) := H
 have A2 := Aside0.mk A20
 clear A20
 by_cases c3 : t162 = true
 ·
  subst c3
  have H1 : ((tabulariumref01_Text.f k a0_1).bind fun bt163 => ((tabulariumref01_Text.f k a0_2).bind fun bt165 => ((tabulariumref01_Num.f k a0_0).bind fun t167 => (if t167.size + bt163.1.size ≤ 9223372036854775807 then (if (t167 ++ bt163.1).size + bt165.1.size ≤ 9223372036854775807 then ((tabulariumref01_Num.f k a0_3).bind fun t168 => (if ((t167 ++ bt163.1) ++ bt165.1).size + t168.size ≤ 9223372036854775807 then ((tabulariumref01_Num.f k a0_4).bind fun t169 => (if (((t167 ++ bt163.1) ++ bt165.1) ++ t168).size + t169.size ≤ 9223372036854775807 then ((tabulariumref01_Num.f k a0_5).bind fun t170 => (if ((((t167 ++ bt163.1) ++ bt165.1) ++ t168) ++ t169).size + t170.size ≤ 9223372036854775807 then ((tabulariumref01_Num.f k (l0_6.length : Int)).bind fun t171 => (if (((((t167 ++ bt163.1) ++ bt165.1) ++ t168) ++ t169) ++ t170).size + t171.size ≤ 9223372036854775807 then (tabulariumref10_Encode.l0 k ((((((t167 ++ bt163.1) ++ bt165.1) ++ t168) ++ t169) ++ t170) ++ t171) 0 a0_0 a0_1 a0_2 a0_3 a0_4 a0_5 l0_6) else (none))) else (none))) else (none))) else (none))) else (none)) else (none))))) = some (r1, r2) := by rw [if_pos rfl] at H; exact H
  clear H
  have H := H1
  clear H1
  replace H := Option.bind_eq_some_iff.mp H
  obtain ⟨⟨t163, t164⟩, A40, H⟩ := H
  replace H : ((tabulariumref01_Text.f k a0_2).bind fun bt165 => ((tabulariumref01_Num.f k a0_0).bind fun t167 => (if t167.size + t163.size ≤ 9223372036854775807 then (if (t167 ++ t163).size + bt165.1.size ≤ 9223372036854775807 then ((tabulariumref01_Num.f k a0_3).bind fun t168 => (if ((t167 ++ t163) ++ bt165.1).size + t168.size ≤ 9223372036854775807 then ((tabulariumref01_Num.f k a0_4).bind fun t169 => (if (((t167 ++ t163) ++ bt165.1) ++ t168).size + t169.size ≤ 9223372036854775807 then ((tabulariumref01_Num.f k a0_5).bind fun t170 => (if ((((t167 ++ t163) ++ bt165.1) ++ t168) ++ t169).size + t170.size ≤ 9223372036854775807 then ((tabulariumref01_Num.f k (l0_6.length : Int)).bind fun t171 => (if (((((t167 ++ t163) ++ bt165.1) ++ t168) ++ t169) ++ t170).size + t171.size ≤ 9223372036854775807 then (tabulariumref10_Encode.l0 k ((((((t167 ++ t163) ++ bt165.1) ++ t168) ++ t169) ++ t170) ++ t171) 0 a0_0 a0_1 a0_2 a0_3 a0_4 a0_5 l0_6) else (none))) else (none))) else (none))) else (none))) else (none)) else (none)))) = some (r1, r2) := H
  have A4 := Aside0.mk A40
  clear A40
  replace H := Option.bind_eq_some_iff.mp H
  obtain ⟨⟨t165, t166⟩, A50, H⟩ := H
  replace H : ((tabulariumref01_Num.f k a0_0).bind fun t167 => (if t167.size + t163.size ≤ 9223372036854775807 then (if (t167 ++ t163).size + t165.size ≤ 9223372036854775807 then ((tabulariumref01_Num.f k a0_3).bind fun t168 => (if ((t167 ++ t163) ++ t165).size + t168.size ≤ 9223372036854775807 then ((tabulariumref01_Num.f k a0_4).bind fun t169 => (if (((t167 ++ t163) ++ t165) ++ t168).size + t169.size ≤ 9223372036854775807 then ((tabulariumref01_Num.f k a0_5).bind fun t170 => (if ((((t167 ++ t163) ++ t165) ++ t168) ++ t169).size + t170.size ≤ 9223372036854775807 then ((tabulariumref01_Num.f k (l0_6.length : Int)).bind fun t171 => (if (((((t167 ++ t163) ++ t165) ++ t168) ++ t169) ++ t170).size + t171.size ≤ 9223372036854775807 then (tabulariumref10_Encode.l0 k ((((((t167 ++ t163) ++ t165) ++ t168) ++ t169) ++ t170) ++ t171) 0 a0_0 a0_1 a0_2 a0_3 a0_4 a0_5 l0_6) else (none))) else (none))) else (none))) else (none))) else (none)) else (none))) = some (r1, r2) := H
  have A5 := Aside0.mk A50
  clear A50
  replace H := Option.bind_eq_some_iff.mp H
  obtain ⟨t167, A60, H⟩ := H
  replace H : (if t167.size + t163.size ≤ 9223372036854775807 then (if (t167 ++ t163).size + t165.size ≤ 9223372036854775807 then ((tabulariumref01_Num.f k a0_3).bind fun t168 => (if ((t167 ++ t163) ++ t165).size + t168.size ≤ 9223372036854775807 then ((tabulariumref01_Num.f k a0_4).bind fun t169 => (if (((t167 ++ t163) ++ t165) ++ t168).size + t169.size ≤ 9223372036854775807 then ((tabulariumref01_Num.f k a0_5).bind fun t170 => (if ((((t167 ++ t163) ++ t165) ++ t168) ++ t169).size + t170.size ≤ 9223372036854775807 then ((tabulariumref01_Num.f k (l0_6.length : Int)).bind fun t171 => (if (((((t167 ++ t163) ++ t165) ++ t168) ++ t169) ++ t170).size + t171.size ≤ 9223372036854775807 then (tabulariumref10_Encode.l0 k ((((((t167 ++ t163) ++ t165) ++ t168) ++ t169) ++ t170) ++ t171) 0 a0_0 a0_1 a0_2 a0_3 a0_4 a0_5 l0_6) else (none))) else (none))) else (none))) else (none))) else (none)) else (none)) = some (r1, r2) := H
  have A6 := Aside0.mk A60
  clear A60
  by_cases c7 : t167.size + t163.size ≤ 9223372036854775807
  ·
   rw [if_pos c7] at H
   have c7b0 := eq_true c7
   have c7b1 : decide (t167.size + t163.size ≤ 9223372036854775807) = true := decide_eq_true c7
   try have c7b2 : (9223372036854775807 < t167.size + t163.size) = False := eq_false (Nat.not_lt.2 c7)
   by_cases c8 : (t167 ++ t163).size + t165.size ≤ 9223372036854775807
   ·
    rw [if_pos c8] at H
    have c8b0 := eq_true c8
    have c8b1 : decide ((t167 ++ t163).size + t165.size ≤ 9223372036854775807) = true := decide_eq_true c8
    try have c8b2 : (9223372036854775807 < (t167 ++ t163).size + t165.size) = False := eq_false (Nat.not_lt.2 c8)
    (try (have c8b3 := c8b2; simp only [ByteArray.size_extract, ByteArray.size_append, Nat.min_self] at c8b3))
    replace H := Option.bind_eq_some_iff.mp H
    obtain ⟨t168, A90, H⟩ := H
    replace H : (if ((t167 ++ t163) ++ t165).size + t168.size ≤ 9223372036854775807 then ((tabulariumref01_Num.f k a0_4).bind fun t169 => (if (((t167 ++ t163) ++ t165) ++ t168).size + t169.size ≤ 9223372036854775807 then ((tabulariumref01_Num.f k a0_5).bind fun t170 => (if ((((t167 ++ t163) ++ t165) ++ t168) ++ t169).size + t170.size ≤ 9223372036854775807 then ((tabulariumref01_Num.f k (l0_6.length : Int)).bind fun t171 => (if (((((t167 ++ t163) ++ t165) ++ t168) ++ t169) ++ t170).size + t171.size ≤ 9223372036854775807 then (tabulariumref10_Encode.l0 k ((((((t167 ++ t163) ++ t165) ++ t168) ++ t169) ++ t170) ++ t171) 0 a0_0 a0_1 a0_2 a0_3 a0_4 a0_5 l0_6) else (none))) else (none))) else (none))) else (none)) = some (r1, r2) := H
    have A9 := Aside0.mk A90
    clear A90
    by_cases c10 : ((t167 ++ t163) ++ t165).size + t168.size ≤ 9223372036854775807
    ·
     rw [if_pos c10] at H
     have c10b0 := eq_true c10
     have c10b1 : decide (((t167 ++ t163) ++ t165).size + t168.size ≤ 9223372036854775807) = true := decide_eq_true c10
     try have c10b2 : (9223372036854775807 < ((t167 ++ t163) ++ t165).size + t168.size) = False := eq_false (Nat.not_lt.2 c10)
     (try (have c10b3 := c10b2; simp only [ByteArray.size_extract, ByteArray.size_append, Nat.min_self] at c10b3))
     replace H := Option.bind_eq_some_iff.mp H
     obtain ⟨t169, A110, H⟩ := H
     replace H : (if (((t167 ++ t163) ++ t165) ++ t168).size + t169.size ≤ 9223372036854775807 then ((tabulariumref01_Num.f k a0_5).bind fun t170 => (if ((((t167 ++ t163) ++ t165) ++ t168) ++ t169).size + t170.size ≤ 9223372036854775807 then ((tabulariumref01_Num.f k (l0_6.length : Int)).bind fun t171 => (if (((((t167 ++ t163) ++ t165) ++ t168) ++ t169) ++ t170).size + t171.size ≤ 9223372036854775807 then (tabulariumref10_Encode.l0 k ((((((t167 ++ t163) ++ t165) ++ t168) ++ t169) ++ t170) ++ t171) 0 a0_0 a0_1 a0_2 a0_3 a0_4 a0_5 l0_6) else (none))) else (none))) else (none)) = some (r1, r2) := H
     have A11 := Aside0.mk A110
     clear A110
     by_cases c12 : (((t167 ++ t163) ++ t165) ++ t168).size + t169.size ≤ 9223372036854775807
     ·
      rw [if_pos c12] at H
      have c12b0 := eq_true c12
      have c12b1 : decide ((((t167 ++ t163) ++ t165) ++ t168).size + t169.size ≤ 9223372036854775807) = true := decide_eq_true c12
      try have c12b2 : (9223372036854775807 < (((t167 ++ t163) ++ t165) ++ t168).size + t169.size) = False := eq_false (Nat.not_lt.2 c12)
      (try (have c12b3 := c12b2; simp only [ByteArray.size_extract, ByteArray.size_append, Nat.min_self] at c12b3))
      replace H := Option.bind_eq_some_iff.mp H
      obtain ⟨t170, A130, H⟩ := H
      replace H : (if ((((t167 ++ t163) ++ t165) ++ t168) ++ t169).size + t170.size ≤ 9223372036854775807 then ((tabulariumref01_Num.f k (l0_6.length : Int)).bind fun t171 => (if (((((t167 ++ t163) ++ t165) ++ t168) ++ t169) ++ t170).size + t171.size ≤ 9223372036854775807 then (tabulariumref10_Encode.l0 k ((((((t167 ++ t163) ++ t165) ++ t168) ++ t169) ++ t170) ++ t171) 0 a0_0 a0_1 a0_2 a0_3 a0_4 a0_5 l0_6) else (none))) else (none)) = some (r1, r2) := H
      have A13 := Aside0.mk A130
      clear A130
      by_cases c14 : ((((t167 ++ t163) ++ t165) ++ t168) ++ t169).size + t170.size ≤ 9223372036854775807
      ·
       rw [if_pos c14] at H
       have c14b0 := eq_true c14
       have c14b1 : decide (((((t167 ++ t163) ++ t165) ++ t168) ++ t169).size + t170.size ≤ 9223372036854775807) = true := decide_eq_true c14
       try have c14b2 : (9223372036854775807 < ((((t167 ++ t163) ++ t165) ++ t168) ++ t169).size + t170.size) = False := eq_false (Nat.not_lt.2 c14)
       (try (have c14b3 := c14b2; simp only [ByteArray.size_extract, ByteArray.size_append, Nat.min_self] at c14b3))
       replace H := Option.bind_eq_some_iff.mp H
       obtain ⟨t171, A150, H⟩ := H
       replace H : (if (((((t167 ++ t163) ++ t165) ++ t168) ++ t169) ++ t170).size + t171.size ≤ 9223372036854775807 then (tabulariumref10_Encode.l0 k ((((((t167 ++ t163) ++ t165) ++ t168) ++ t169) ++ t170) ++ t171) 0 a0_0 a0_1 a0_2 a0_3 a0_4 a0_5 l0_6) else (none)) = some (r1, r2) := H
       have A15 := Aside0.mk A150
       clear A150
       by_cases c16 : (((((t167 ++ t163) ++ t165) ++ t168) ++ t169) ++ t170).size + t171.size ≤ 9223372036854775807
       ·
        rw [if_pos c16] at H
        have c16b0 := eq_true c16
        have c16b1 : decide ((((((t167 ++ t163) ++ t165) ++ t168) ++ t169) ++ t170).size + t171.size ≤ 9223372036854775807) = true := decide_eq_true c16
        try have c16b2 : (9223372036854775807 < (((((t167 ++ t163) ++ t165) ++ t168) ++ t169) ++ t170).size + t171.size) = False := eq_false (Nat.not_lt.2 c16)
        (try (have c16b3 := c16b2; simp only [ByteArray.size_extract, ByteArray.size_append, Nat.min_self] at c16b3))
        have H' := Aside0.mk H
        clear H
        go_enter Try.func9, Try.ntmps9
        try go_wp2_with (first | ((with_reducible refine gate_dst (N := 1) rfl ?_); refine box_event ?hg (N := 1) ?hd (cs := #[.int .i64 a0_0, .string a0_1, .string a0_2, .int .i64 a0_3, .int .i64 a0_4, .int .i64 a0_5, .slice A0_6 l0_6.length c0_6]) (t := 24) ?hr ?_; (case hd => rfl); (case hg => rfl); (case hr => first | (go_simp; done) | (go_simp; rfl)); intro gb161 hg w17 hbox hb; have n0_ := Aside0.mk (below_step (by exact bw0 HB) hb); have n1_ := Aside0.mk (hbox); have n2_ := Aside0.mk ((by rw [hg]; exact (below_size (by exact bw0 HB)) : w.heap.size ≤ gb161)); have n3_ := Aside0.mk ((by rw [hg]; exact (below_size (by exact bw0 HB)) : w.heap.size ≤ gb161)); clear HB; have HB := n0_; have BK161 := n1_; have GW161 := n2_; have GE161 := n3_; clear n0_ n1_ n2_ n3_; clear hb hbox hg; have hcz18_0 : w17.cell? ⟨gb161, 0, none⟩ = some (.int .i64 a0_0) := (blk_cell BK161.out 0).trans rfl; have hcz18_1 : w17.cell? ⟨gb161, 1, none⟩ = some (.string a0_1) := (blk_cell BK161.out 1).trans rfl; have hcz18_2 : w17.cell? ⟨gb161, 2, none⟩ = some (.string a0_2) := (blk_cell BK161.out 2).trans rfl; have hcz18_3 : w17.cell? ⟨gb161, 3, none⟩ = some (.int .i64 a0_3) := (blk_cell BK161.out 3).trans rfl; have hcz18_4 : w17.cell? ⟨gb161, 4, none⟩ = some (.int .i64 a0_4) := (blk_cell BK161.out 4).trans rfl; have hcz18_5 : w17.cell? ⟨gb161, 5, none⟩ = some (.int .i64 a0_5) := (blk_cell BK161.out 5).trans rfl; have hcz18_6 : w17.cell? ⟨gb161, 6, none⟩ = some (.slice A0_6 l0_6.length c0_6) := (blk_cell BK161.out 6).trans rfl; have hfz18_0 := blk_frozen BK161.out 0; have hfz18_1 := blk_frozen BK161.out 1; have hfz18_2 := blk_frozen BK161.out 2; have hfz18_3 := blk_frozen BK161.out 3; have hfz18_4 := blk_frozen BK161.out 4; have hfz18_5 := blk_frozen BK161.out 5; have hfz18_6 := blk_frozen BK161.out 6) | ((with_reducible refine gate_callee (f := 14) rfl ?_); refine goesL_ (some 12) rfl rfl Try.func14 (by kernel_rfl) rfl #[.agg #[.int .i64 a0_0, .string a0_1, .string a0_2, .int .i64 a0_3, .int .i64 a0_4, .int .i64 a0_5, .slice A0_6 l0_6.length c0_6]] rfl (by (try simp only [List.map_toArray, List.map_cons, List.map_nil]); first | done | rfl | (simp only [List.length_drop, List.length_take]; rfl)) ?_; (with_reducible refine (tabulariumref10_Right.calls k a0_0 a0_1 a0_2 a0_3 a0_4 a0_5 _ _ l0_6 true _ ?side1 ?side2 A2.out).mono ?_); (case side1 => repeat (first | exact (Kd.C_below HR0_6.out HB.out) | (with_reducible refine Kd.C_alloc ?_ _) | (with_reducible refine Kd.C_drewN ?_ _) | (with_reducible refine Kd.C_drew ?_))); (case side2 => exact HC0_6.out); rintro e w19 ⟨rfl, hb⟩; refine ⟨_, rfl, ?_⟩; have n0_ := Aside0.mk (blk_below (g := gb161) (o := .cells #[.int .i64 a0_0, .string a0_1, .string a0_2, .int .i64 a0_3, .int .i64 a0_4, .int .i64 a0_5, .slice A0_6 l0_6.length c0_6] 24 (0, 0)) (kx BK161) hb); have n1_ := Aside0.mk (below_step (by exact bw1 HB GE161.out) hb); clear BK161; clear HB; have BK161 := n0_; have HB := n1_; clear n0_ n1_; (try clear hb); (try clear hb2); (try clear hk); (try clear hi); have hcz20_0 : w19.cell? ⟨gb161, 0, none⟩ = some (.int .i64 a0_0) := (blk_cell BK161.out 0).trans rfl; have hcz20_1 : w19.cell? ⟨gb161, 1, none⟩ = some (.string a0_1) := (blk_cell BK161.out 1).trans rfl; have hcz20_2 : w19.cell? ⟨gb161, 2, none⟩ = some (.string a0_2) := (blk_cell BK161.out 2).trans rfl; have hcz20_3 : w19.cell? ⟨gb161, 3, none⟩ = some (.int .i64 a0_3) := (blk_cell BK161.out 3).trans rfl; have hcz20_4 : w19.cell? ⟨gb161, 4, none⟩ = some (.int .i64 a0_4) := (blk_cell BK161.out 4).trans rfl; have hcz20_5 : w19.cell? ⟨gb161, 5, none⟩ = some (.int .i64 a0_5) := (blk_cell BK161.out 5).trans rfl; have hcz20_6 : w19.cell? ⟨gb161, 6, none⟩ = some (.slice A0_6 l0_6.length c0_6) := (blk_cell BK161.out 6).trans rfl; have hfz20_0 := blk_frozen BK161.out 0; have hfz20_1 := blk_frozen BK161.out 1; have hfz20_2 := blk_frozen BK161.out 2; have hfz20_3 := blk_frozen BK161.out 3; have hfz20_4 := blk_frozen BK161.out 4; have hfz20_5 := blk_frozen BK161.out 5; have hfz20_6 := blk_frozen BK161.out 6) | ((with_reducible refine gate_callee (f := 17) rfl ?_); refine goesL_ (some 18) rfl rfl Try.func17 (by kernel_rfl) rfl #[.string a0_1] rfl (by (try simp only [List.map_toArray, List.map_cons, List.map_nil]); first | done | rfl | (simp only [List.length_drop, List.length_take]; rfl)) ?_; (with_reducible refine (tabulariumref01_Text.calls k a0_1 t163 t164 _ A4.out).mono ?_); rintro e w21 ⟨rfl, hb⟩; refine ⟨_, rfl, ?_⟩; have n0_ := Aside0.mk (blk_below (g := gb161) (o := .cells #[.int .i64 a0_0, .string a0_1, .string a0_2, .int .i64 a0_3, .int .i64 a0_4, .int .i64 a0_5, .slice A0_6 l0_6.length c0_6] 24 (0, 0)) (kx BK161) hb); have n1_ := Aside0.mk (below_step (by exact bw1 HB GE161.out) hb); clear BK161; clear HB; have BK161 := n0_; have HB := n1_; clear n0_ n1_; (try clear hb); (try clear hb2); (try clear hk); (try clear hi); have hcz22_0 : w21.cell? ⟨gb161, 0, none⟩ = some (.int .i64 a0_0) := (blk_cell BK161.out 0).trans rfl; have hcz22_1 : w21.cell? ⟨gb161, 1, none⟩ = some (.string a0_1) := (blk_cell BK161.out 1).trans rfl; have hcz22_2 : w21.cell? ⟨gb161, 2, none⟩ = some (.string a0_2) := (blk_cell BK161.out 2).trans rfl; have hcz22_3 : w21.cell? ⟨gb161, 3, none⟩ = some (.int .i64 a0_3) := (blk_cell BK161.out 3).trans rfl; have hcz22_4 : w21.cell? ⟨gb161, 4, none⟩ = some (.int .i64 a0_4) := (blk_cell BK161.out 4).trans rfl; have hcz22_5 : w21.cell? ⟨gb161, 5, none⟩ = some (.int .i64 a0_5) := (blk_cell BK161.out 5).trans rfl; have hcz22_6 : w21.cell? ⟨gb161, 6, none⟩ = some (.slice A0_6 l0_6.length c0_6) := (blk_cell BK161.out 6).trans rfl; have hfz22_0 := blk_frozen BK161.out 0; have hfz22_1 := blk_frozen BK161.out 1; have hfz22_2 := blk_frozen BK161.out 2; have hfz22_3 := blk_frozen BK161.out 3; have hfz22_4 := blk_frozen BK161.out 4; have hfz22_5 := blk_frozen BK161.out 5; have hfz22_6 := blk_frozen BK161.out 6) | ((with_reducible refine gate_callee (f := 17) rfl ?_); refine goesL_ (some 24) rfl rfl Try.func17 (by kernel_rfl) rfl #[.string a0_2] rfl (by (try simp only [List.map_toArray, List.map_cons, List.map_nil]); first | done | rfl | (simp only [List.length_drop, List.length_take]; rfl)) ?_; (with_reducible refine (tabulariumref01_Text.calls k a0_2 t165 t166 _ A5.out).mono ?_); rintro e w23 ⟨rfl, hb⟩; refine ⟨_, rfl, ?_⟩; have n0_ := Aside0.mk (blk_below (g := gb161) (o := .cells #[.int .i64 a0_0, .string a0_1, .string a0_2, .int .i64 a0_3, .int .i64 a0_4, .int .i64 a0_5, .slice A0_6 l0_6.length c0_6] 24 (0, 0)) (kx BK161) hb); have n1_ := Aside0.mk (below_step (by exact bw1 HB GE161.out) hb); clear BK161; clear HB; have BK161 := n0_; have HB := n1_; clear n0_ n1_; (try clear hb); (try clear hb2); (try clear hk); (try clear hi)))
        have n0_ := Aside0.mk (blk_drew BK161.out)
        have n1_ := Aside0.mk (below_drew1 HB.out)
        clear BK161; clear HB
        have BK161 := n0_
        have HB := n1_; clear n0_ n1_
        refine start_ (n := 25) (S := fun w' => w'.cell? ⟨gb161, 0, none⟩ = some (.int .i64 a0_0) ∧ w'.cell? ⟨gb161, 1, none⟩ = some (.string a0_1) ∧ w'.cell? ⟨gb161, 2, none⟩ = some (.string a0_2) ∧ w'.cell? ⟨gb161, 3, none⟩ = some (.int .i64 a0_3) ∧ w'.cell? ⟨gb161, 4, none⟩ = some (.int .i64 a0_4) ∧ w'.cell? ⟨gb161, 5, none⟩ = some (.int .i64 a0_5) ∧ w'.cell? ⟨gb161, 6, none⟩ = some (.slice A0_6 l0_6.length c0_6)) (ds := []) (nz 25 0) (by kernel_rfl) rfl (by kernel_rfl) ⟨(blk_cell BK161.out 0).trans rfl, (blk_cell BK161.out 1).trans rfl, (blk_cell BK161.out 2).trans rfl, (blk_cell BK161.out 3).trans rfl, (blk_cell BK161.out 4).trans rfl, (blk_cell BK161.out 5).trans rfl, (blk_cell BK161.out 6).trans rfl⟩ (fun hHeld => ?_); refine with_tabW tabulariumref10_Encode.tab6 tabulariumref10_Encode.bits6 (fun HT_ HW_ => ?_)
        generalize w23.drew = w24 at BK161 HB hHeld ⊢
        refine zp HT_ 0 27 1 ?_
        refine zp HT_ 3 30 9 ?_
        refine zp HT_ 5 32 41 ?_
        refine zp HT_ 7 34 169 ?_
        refine zp HT_ 11 38 2217 ?_
        refine zp HT_ 15 42 34985 ?_
        refine zp HT_ 19 46 559273 ?_
        refine zt HT_ HW_ hHeld 1 28 559275 ?_
        refine zt HT_ HW_ hHeld 8 35 559531 ?_
        refine zt HT_ HW_ hHeld 12 39 563627 ?_
        refine zt HT_ HW_ hHeld 16 43 629163 ?_
        refine zt HT_ HW_ hHeld 20 47 1677739 ?_
        refine zp HT_ 21 48 3774891 ?_
        refine zo HT_ 2 29 3774895 (fun K hK => ?_)
        refine zg Try.func18 #[.int .i64 a0_0] ?_
        with_reducible refine (tabulariumref01_Num.calls k a0_0 t167 _ A6.out).mono ?_
        rintro e w25 ⟨rfl, hb⟩
        refine ⟨_, rfl, ?_⟩
        have n0_ := Aside0.mk (blk_below (g := gb161) (o := .cells #[.int .i64 a0_0, .string a0_1, .string a0_2, .int .i64 a0_3, .int .i64 a0_4, .int .i64 a0_5, .slice A0_6 l0_6.length c0_6] 24 (0, 0)) (kx BK161) hb)
        have n1_ := Aside0.mk (below_step (by exact bw1 HB GE161.out) hb)
        clear BK161; clear HB
        have BK161 := n0_
        have HB := n1_; clear n0_ n1_; (try clear hb); (try clear hb2); (try clear hk); (try clear hi)
        refine hK.out _ _ ⟨(blk_cell BK161.out 0).trans rfl, (blk_cell BK161.out 1).trans rfl, (blk_cell BK161.out 2).trans rfl, (blk_cell BK161.out 3).trans rfl, (blk_cell BK161.out 4).trans rfl, (blk_cell BK161.out 5).trans rfl, (blk_cell BK161.out 6).trans rfl⟩ (fun hHeld => ?_)
        clear hK K
        refine zn ?_
        refine zp HT_ 4 31 3774911 ?_
        refine zp HT_ 6 33 3774975 ?_
        refine zo HT_ 9 36 3775487 (fun K hK => ?_)
        refine zg Try.func18 #[.int .i64 a0_3] ?_
        with_reducible refine (tabulariumref01_Num.calls k a0_3 t168 _ A9.out).mono ?_
        rintro e w26 ⟨rfl, hb⟩
        refine ⟨_, rfl, ?_⟩
        have n0_ := Aside0.mk (blk_below (g := gb161) (o := .cells #[.int .i64 a0_0, .string a0_1, .string a0_2, .int .i64 a0_3, .int .i64 a0_4, .int .i64 a0_5, .slice A0_6 l0_6.length c0_6] 24 (0, 0)) (kx BK161) hb)
        have n1_ := Aside0.mk (below_step (by exact bw1 HB GE161.out) hb)
        clear BK161; clear HB
        have BK161 := n0_
        have HB := n1_; clear n0_ n1_; (try clear hb); (try clear hb2); (try clear hk); (try clear hi)
        refine hK.out _ _ ⟨(blk_cell BK161.out 0).trans rfl, (blk_cell BK161.out 1).trans rfl, (blk_cell BK161.out 2).trans rfl, (blk_cell BK161.out 3).trans rfl, (blk_cell BK161.out 4).trans rfl, (blk_cell BK161.out 5).trans rfl, (blk_cell BK161.out 6).trans rfl⟩ (fun hHeld => ?_)
        clear hK K
        refine zn ?_
        refine zp HT_ 10 37 3776511 ?_
        refine zo HT_ 13 40 3784703 (fun K hK => ?_)
        refine zg Try.func18 #[.int .i64 a0_4] ?_
        with_reducible refine (tabulariumref01_Num.calls k a0_4 t169 _ A11.out).mono ?_
        rintro e w27 ⟨rfl, hb⟩
        refine ⟨_, rfl, ?_⟩
        have n0_ := Aside0.mk (blk_below (g := gb161) (o := .cells #[.int .i64 a0_0, .string a0_1, .string a0_2, .int .i64 a0_3, .int .i64 a0_4, .int .i64 a0_5, .slice A0_6 l0_6.length c0_6] 24 (0, 0)) (kx BK161) hb)
        have n1_ := Aside0.mk (below_step (by exact bw1 HB GE161.out) hb)
        clear BK161; clear HB
        have BK161 := n0_
        have HB := n1_; clear n0_ n1_; (try clear hb); (try clear hb2); (try clear hk); (try clear hi)
        refine hK.out _ _ ⟨(blk_cell BK161.out 0).trans rfl, (blk_cell BK161.out 1).trans rfl, (blk_cell BK161.out 2).trans rfl, (blk_cell BK161.out 3).trans rfl, (blk_cell BK161.out 4).trans rfl, (blk_cell BK161.out 5).trans rfl, (blk_cell BK161.out 6).trans rfl⟩ (fun hHeld => ?_)
        clear hK K
        refine zn ?_
        refine zp HT_ 14 41 3801087 ?_
        refine zo HT_ 17 44 3932159 (fun K hK => ?_)
        refine zg Try.func18 #[.int .i64 a0_5] ?_
        with_reducible refine (tabulariumref01_Num.calls k a0_5 t170 _ A13.out).mono ?_
        rintro e w28 ⟨rfl, hb⟩
        refine ⟨_, rfl, ?_⟩
        have n0_ := Aside0.mk (blk_below (g := gb161) (o := .cells #[.int .i64 a0_0, .string a0_1, .string a0_2, .int .i64 a0_3, .int .i64 a0_4, .int .i64 a0_5, .slice A0_6 l0_6.length c0_6] 24 (0, 0)) (kx BK161) hb)
        have n1_ := Aside0.mk (below_step (by exact bw1 HB GE161.out) hb)
        clear BK161; clear HB
        have BK161 := n0_
        have HB := n1_; clear n0_ n1_; (try clear hb); (try clear hb2); (try clear hk); (try clear hi)
        refine hK.out _ _ ⟨(blk_cell BK161.out 0).trans rfl, (blk_cell BK161.out 1).trans rfl, (blk_cell BK161.out 2).trans rfl, (blk_cell BK161.out 3).trans rfl, (blk_cell BK161.out 4).trans rfl, (blk_cell BK161.out 5).trans rfl, (blk_cell BK161.out 6).trans rfl⟩ (fun hHeld => ?_)
        clear hK K
        refine zn ?_
        refine zp HT_ 18 45 4194303 ?_
        refine zo HT_ 22 49 8388607 (fun K hK => ?_)
        refine zg Try.func18 #[.int .i64 (l0_6.length : Int)] ?_
        with_reducible refine (tabulariumref01_Num.calls k (l0_6.length : Int) t171 _ A15.out).mono ?_
        rintro e w29 ⟨rfl, hb⟩
        refine ⟨_, rfl, ?_⟩
        have n0_ := Aside0.mk (blk_below (g := gb161) (o := .cells #[.int .i64 a0_0, .string a0_1, .string a0_2, .int .i64 a0_3, .int .i64 a0_4, .int .i64 a0_5, .slice A0_6 l0_6.length c0_6] 24 (0, 0)) (kx BK161) hb)
        have n1_ := Aside0.mk (below_step (by exact bw1 HB GE161.out) hb)
        clear BK161; clear HB
        have BK161 := n0_
        have HB := n1_; clear n0_ n1_; (try clear hb); (try clear hb2); (try clear hk); (try clear hi)
        refine hK.out _ _ ⟨(blk_cell BK161.out 0).trans rfl, (blk_cell BK161.out 1).trans rfl, (blk_cell BK161.out 2).trans rfl, (blk_cell BK161.out 3).trans rfl, (blk_cell BK161.out 4).trans rfl, (blk_cell BK161.out 5).trans rfl, (blk_cell BK161.out 6).trans rfl⟩ (fun hHeld => ?_)
        clear hK K
        refine zn ?_
        refine zp HT_ 23 50 16777215 ?_
        refine zp HT_ 24 9 33554431 ?_
        refine done_ (done_of HT_.out (by kernel_rfl)) ?_
        try go_wp2
        go_loopg [9, 10] k (fun kq v9 v10 w' => ∃ (x9_1 : ByteArray) (x10_1 : Int), v9 = .string x9_1 ∧ v10 = .int .i64 x10_1 ∧ Aside0 (tabulariumref10_Encode.l0 kq x9_1 x10_1 a0_0 a0_1 a0_2 a0_3 a0_4 a0_5 l0_6 = some (r1, r2)) ∧ Aside0 (kq ≤ k) ∧ Aside0 (w'.heap[gb161]? = some (.cells #[.int .i64 a0_0, .string a0_1, .string a0_2, .int .i64 a0_3, .int .i64 a0_4, .int .i64 a0_5, (.slice A0_6 l0_6.length c0_6)] 24 (0, 0))) ∧ Aside0 (Below w.heap.size w w'))
        case atStart => exact ⟨((((((t167 ++ t163) ++ t165) ++ t168) ++ t169) ++ t170) ++ t171), (0), (by first | rfl | (simp; done) | (simp [*]; done) | (simp; exact (fun (l_ : List UInt8) => by cases l_ <;> rfl : ∀ l_ : List UInt8, l_.isEmpty = !(l_ != [])) _)), (by first | rfl | (simp; done) | (simp [*]; done) | (simp; exact (fun (l_ : List UInt8) => by cases l_ <;> rfl : ∀ l_ : List UInt8, l_.isEmpty = !(l_ != [])) _)), H', ⟨Nat.le_refl _⟩, ⟨by (with_reducible repeat (first | refine blk_drewN ?_ _ | refine blk_drew ?_ | refine blk_alloc ?_ _)); exact BK161.out⟩, ⟨by repeat (first | (with_reducible first | exact HB.out | apply below_alloc | apply pw_below_drewN | apply below_drew1 | refine below_set ?_ GE161.out) | exact HB.out)⟩⟩
        case round =>
         clear H'
         try clear c1
         try clear p2
         try clear c3
         try clear c7
         try clear c7b0
         try clear c7b1
         try clear c7b2
         try clear c8
         try clear c8b0
         try clear c8b1
         try clear c8b2
         try clear c9
         try clear c10
         try clear c10b0
         try clear c10b1
         try clear c10b2
         try clear c12
         try clear c12b0
         try clear c12b1
         try clear c12b2
         try clear c14
         try clear c14b0
         try clear c14b1
         try clear c14b2
         try clear c16
         try clear c16b0
         try clear c16b1
         try clear c16b2
         try clear c17
         try clear c18
         try clear hcz18_0
         try clear hcz18_1
         try clear hcz18_2
         try clear hcz18_3
         try clear hcz18_4
         try clear hcz18_5
         try clear hcz18_6
         try clear hcz20_0
         try clear hcz20_1
         try clear hcz20_2
         try clear hcz20_3
         try clear hcz20_4
         try clear hcz20_5
         try clear hcz20_6
         try clear hcz22_0
         try clear hcz22_1
         try clear hcz22_2
         try clear hcz22_3
         try clear hcz22_4
         try clear hcz22_5
         try clear hcz22_6
         try clear hfz18_0
         try clear hfz18_1
         try clear hfz18_2
         try clear hfz18_3
         try clear hfz18_4
         try clear hfz18_5
         try clear hfz18_6
         try clear hfz20_0
         try clear hfz20_1
         try clear hfz20_2
         try clear hfz20_3
         try clear hfz20_4
         try clear hfz20_5
         try clear hfz20_6
         try clear hfz22_0
         try clear hfz22_1
         try clear hfz22_2
         try clear hfz22_3
         try clear hfz22_4
         try clear hfz22_5
         try clear hfz22_6
         obtain ⟨x9_1, x10_1, rfl, rfl, HA, HK1, BK161, HB⟩ := hrel
         cases gk with
         | zero => exact absurd HA.out (by simp [tabulariumref10_Encode.l0])
         | succ k1 =>
          have H := HA.out
          clear HA
          simp only [tabulariumref10_Encode.l0] at H
          by_cases c30 : x10_1 < (l0_6.length : Int)
          ·
           rw [if_pos c30] at H
           have c30b0 : decide (x10_1 < (l0_6.length : Int)) = true := decide_eq_true c30
           clear c30
           by_cases c31 : 0 ≤ x10_1
           ·
            rw [if_pos c31] at H
            have c31b0 : decide (0 ≤ x10_1) = true := decide_eq_true c31
            clear c31
            replace H := Option.bind_eq_some_iff.mp H
            obtain ⟨t173, A320, H⟩ := H
            replace H : (if x9_1.size + t173.size ≤ 9223372036854775807 then (tabulariumref10_Encode.l0 k1 (x9_1 ++ t173) (wrap64 (x10_1 + 1)) a0_0 a0_1 a0_2 a0_3 a0_4 a0_5 l0_6) else (none)) = some (r1, r2) := H
            have A32 := Aside0.mk A320
            clear A320
            by_cases c33 : x9_1.size + t173.size ≤ 9223372036854775807
            ·
             rw [if_pos c33] at H
             have c33b0 := eq_true c33
             have c33b1 : decide (x9_1.size + t173.size ≤ 9223372036854775807) = true := decide_eq_true c33
             try have c33b2 : (9223372036854775807 < x9_1.size + t173.size) = False := eq_false (Nat.not_lt.2 c33)
             have H' := Aside0.mk H
             clear H
             have hcz34_0 : wr.cell? ⟨gb161, 0, none⟩ = some (.int .i64 a0_0) := (blk_cell BK161.out 0).trans rfl
             have hcz34_1 : wr.cell? ⟨gb161, 1, none⟩ = some (.string a0_1) := (blk_cell BK161.out 1).trans rfl
             have hcz34_2 : wr.cell? ⟨gb161, 2, none⟩ = some (.string a0_2) := (blk_cell BK161.out 2).trans rfl
             have hcz34_3 : wr.cell? ⟨gb161, 3, none⟩ = some (.int .i64 a0_3) := (blk_cell BK161.out 3).trans rfl
             have hcz34_4 : wr.cell? ⟨gb161, 4, none⟩ = some (.int .i64 a0_4) := (blk_cell BK161.out 4).trans rfl
             have hcz34_5 : wr.cell? ⟨gb161, 5, none⟩ = some (.int .i64 a0_5) := (blk_cell BK161.out 5).trans rfl
             have hcz34_6 : wr.cell? ⟨gb161, 6, none⟩ = some (.slice A0_6 l0_6.length c0_6) := (blk_cell BK161.out 6).trans rfl
             have hfz34_0 := blk_frozen BK161.out 0
             have hfz34_1 := blk_frozen BK161.out 1
             have hfz34_2 := blk_frozen BK161.out 2
             have hfz34_3 := blk_frozen BK161.out 3
             have hfz34_4 := blk_frozen BK161.out 4
             have hfz34_5 := blk_frozen BK161.out 5
             have hfz34_6 := blk_frozen BK161.out 6
             have p172 : 0 ≤ (x10_1 : Int) := of_decide_eq_true (by first | (with_reducible assumption) | assumption)
             have q172 : x10_1 < (l0_6.length : Int) := of_decide_eq_true (by first | (with_reducible assumption) | assumption)
             obtain ⟨ad172, e172, hx172_0⟩ := Kd.at_int HR0_6.out x10_1 p172 q172
             cases e172
             replace hx172_0 := (HB.out.cell (World.block_lt_of_cell? w _ hx172_0)).trans hx172_0
             replace p172 := eq_true p172; replace q172 := eq_true q172
             go_wp2_with (first | ((with_reducible refine gate_callee (f := 18) rfl ?_); refine goesL_ (some 64) rfl rfl Try.func18 (by kernel_rfl) rfl #[.int .i64 (rd l0_6 x10_1)] rfl (by (try simp only [List.map_toArray, List.map_cons, List.map_nil]); first | done | rfl | (simp only [List.length_drop, List.length_take]; rfl)) ?_; (with_reducible refine (tabulariumref01_Num.calls k1 (rd l0_6 x10_1) t173 _ A32.out).mono ?_); rintro e w35 ⟨rfl, hb⟩; refine ⟨_, rfl, ?_⟩; have n0_ := Aside0.mk (blk_below (g := gb161) (o := .cells #[.int .i64 a0_0, .string a0_1, .string a0_2, .int .i64 a0_3, .int .i64 a0_4, .int .i64 a0_5, .slice (some ad172) l0_6.length c0_6] 24 (0, 0)) (kx BK161) hb); have n1_ := Aside0.mk (below_step (by exact bw1 HB GE161.out) hb); clear BK161; clear HB; have BK161 := n0_; have HB := n1_; clear n0_ n1_; (try clear hb); (try clear hb2); (try clear hk); (try clear hi)))
             go_roundg k1
             case measure => have := HK1.out; omega
             case rel => exact ⟨(x9_1 ++ t173), (wrap64 (x10_1 + 1)), (by first | rfl | (simp; done) | (simp [*]; done) | (simp; exact (fun (l_ : List UInt8) => by cases l_ <;> rfl : ∀ l_ : List UInt8, l_.isEmpty = !(l_ != [])) _)), (by first | rfl | (simp; done) | (simp [*]; done) | (simp; exact (fun (l_ : List UInt8) => by cases l_ <;> rfl : ∀ l_ : List UInt8, l_.isEmpty = !(l_ != [])) _)), H', ⟨by have := HK1.out; omega⟩, ⟨by (with_reducible repeat (first | refine blk_drewN ?_ _ | refine blk_drew ?_ | refine blk_alloc ?_ _)); exact BK161.out⟩, ⟨by repeat (first | (with_reducible first | exact HB.out | apply below_alloc | apply pw_below_drewN | apply below_drew1 | refine below_set ?_ GE161.out) | exact HB.out)⟩⟩
            ·
             rw [if_neg c33] at H
             exact absurd H (by simp)
           ·
            rw [if_neg c31] at H
            exact absurd H (by simp)
          ·
           rw [if_neg c30] at H
           have c30b0 : decide (x10_1 < (l0_6.length : Int)) = false := decide_eq_false c30
           clear c30
           simp only [Option.some.injEq, Prod.mk.injEq] at H
           obtain ⟨rfl, rfl⟩ := H
           have hcz36_0 : wr.cell? ⟨gb161, 0, none⟩ = some (.int .i64 a0_0) := (blk_cell BK161.out 0).trans rfl
           have hcz36_1 : wr.cell? ⟨gb161, 1, none⟩ = some (.string a0_1) := (blk_cell BK161.out 1).trans rfl
           have hcz36_2 : wr.cell? ⟨gb161, 2, none⟩ = some (.string a0_2) := (blk_cell BK161.out 2).trans rfl
           have hcz36_3 : wr.cell? ⟨gb161, 3, none⟩ = some (.int .i64 a0_3) := (blk_cell BK161.out 3).trans rfl
           have hcz36_4 : wr.cell? ⟨gb161, 4, none⟩ = some (.int .i64 a0_4) := (blk_cell BK161.out 4).trans rfl
           have hcz36_5 : wr.cell? ⟨gb161, 5, none⟩ = some (.int .i64 a0_5) := (blk_cell BK161.out 5).trans rfl
           have hcz36_6 : wr.cell? ⟨gb161, 6, none⟩ = some (.slice A0_6 l0_6.length c0_6) := (blk_cell BK161.out 6).trans rfl
           have hfz36_0 := blk_frozen BK161.out 0
           have hfz36_1 := blk_frozen BK161.out 1
           have hfz36_2 := blk_frozen BK161.out 2
           have hfz36_3 := blk_frozen BK161.out 3
           have hfz36_4 := blk_frozen BK161.out 4
           have hfz36_5 := blk_frozen BK161.out 5
           have hfz36_6 := blk_frozen BK161.out 6
           go_wp2
           go_ret2
           exact ⟨by first | rfl | (simp [errW_none, errW_some] <;> rfl) | (simp [*, errW_none, errW_some] <;> rfl), by repeat (first | (with_reducible first | exact HB.out | apply below_alloc | apply pw_below_drewN | apply below_drew1 | refine below_set ?_ GE161.out) | exact HB.out)⟩
       ·
        rw [if_neg c16] at H
        exact absurd H (by simp)
      ·
       rw [if_neg c14] at H
       exact absurd H (by simp)
     ·
      rw [if_neg c12] at H
      exact absurd H (by simp)
    ·
     rw [if_neg c10] at H
     exact absurd H (by simp)
   ·
    rw [if_neg c8] at H
    exact absurd H (by simp)
  ·
   rw [if_neg c7] at H
   exact absurd H (by simp)
 ·
  replace c3 := Bool.eq_false_iff.mpr c3
  subst c3
  have H1 : (some ((⟨#[]⟩ : ByteArray), false)) = some (r1, r2) := by rw [if_neg (show ¬ (false = true) by decide)] at H; exact H
  clear H
  have H := H1
  clear H1
  simp only [Option.some.injEq, Prod.mk.injEq] at H
  obtain ⟨rfl, rfl⟩ := H
  go_enter Try.func9, Try.ntmps9
  go_wp2_with (first | ((with_reducible refine gate_dst (N := 1) rfl ?_); refine box_event ?hg (N := 1) ?hd (cs := #[.int .i64 a0_0, .string a0_1, .string a0_2, .int .i64 a0_3, .int .i64 a0_4, .int .i64 a0_5, .slice A0_6 l0_6.length c0_6]) (t := 24) ?hr ?_; (case hd => rfl); (case hg => rfl); (case hr => first | (go_simp; done) | (go_simp; rfl)); intro gb161 hg w37 hbox hb; have n0_ := Aside0.mk (below_step (by exact bw0 HB) hb); have n1_ := Aside0.mk (hbox); have n2_ := Aside0.mk ((by rw [hg]; exact (below_size (by exact bw0 HB)) : w.heap.size ≤ gb161)); have n3_ := Aside0.mk ((by rw [hg]; exact (below_size (by exact bw0 HB)) : w.heap.size ≤ gb161)); clear HB; have HB := n0_; have BK161 := n1_; have GW161 := n2_; have GE161 := n3_; clear n0_ n1_ n2_ n3_; clear hb hbox hg; have hcz38_0 : w37.cell? ⟨gb161, 0, none⟩ = some (.int .i64 a0_0) := (blk_cell BK161.out 0).trans rfl; have hcz38_1 : w37.cell? ⟨gb161, 1, none⟩ = some (.string a0_1) := (blk_cell BK161.out 1).trans rfl; have hcz38_2 : w37.cell? ⟨gb161, 2, none⟩ = some (.string a0_2) := (blk_cell BK161.out 2).trans rfl; have hcz38_3 : w37.cell? ⟨gb161, 3, none⟩ = some (.int .i64 a0_3) := (blk_cell BK161.out 3).trans rfl; have hcz38_4 : w37.cell? ⟨gb161, 4, none⟩ = some (.int .i64 a0_4) := (blk_cell BK161.out 4).trans rfl; have hcz38_5 : w37.cell? ⟨gb161, 5, none⟩ = some (.int .i64 a0_5) := (blk_cell BK161.out 5).trans rfl; have hcz38_6 : w37.cell? ⟨gb161, 6, none⟩ = some (.slice A0_6 l0_6.length c0_6) := (blk_cell BK161.out 6).trans rfl; have hfz38_0 := blk_frozen BK161.out 0; have hfz38_1 := blk_frozen BK161.out 1; have hfz38_2 := blk_frozen BK161.out 2; have hfz38_3 := blk_frozen BK161.out 3; have hfz38_4 := blk_frozen BK161.out 4; have hfz38_5 := blk_frozen BK161.out 5; have hfz38_6 := blk_frozen BK161.out 6) | ((with_reducible refine gate_callee (f := 14) rfl ?_); refine goesL_ (some 12) rfl rfl Try.func14 (by kernel_rfl) rfl #[.agg #[.int .i64 a0_0, .string a0_1, .string a0_2, .int .i64 a0_3, .int .i64 a0_4, .int .i64 a0_5, .slice A0_6 l0_6.length c0_6]] rfl (by (try simp only [List.map_toArray, List.map_cons, List.map_nil]); first | done | rfl | (simp only [List.length_drop, List.length_take]; rfl)) ?_; (with_reducible refine (tabulariumref10_Right.calls k a0_0 a0_1 a0_2 a0_3 a0_4 a0_5 _ _ l0_6 false _ ?side1 ?side2 A2.out).mono ?_); (case side1 => repeat (first | exact (Kd.C_below HR0_6.out HB.out) | (with_reducible refine Kd.C_alloc ?_ _) | (with_reducible refine Kd.C_drewN ?_ _) | (with_reducible refine Kd.C_drew ?_))); (case side2 => exact HC0_6.out); rintro e w39 ⟨rfl, hb⟩; refine ⟨_, rfl, ?_⟩; have n0_ := Aside0.mk (blk_below (g := gb161) (o := .cells #[.int .i64 a0_0, .string a0_1, .string a0_2, .int .i64 a0_3, .int .i64 a0_4, .int .i64 a0_5, .slice A0_6 l0_6.length c0_6] 24 (0, 0)) (kx BK161) hb); have n1_ := Aside0.mk (below_step (by exact bw1 HB GE161.out) hb); clear BK161; clear HB; have BK161 := n0_; have HB := n1_; clear n0_ n1_; (try clear hb); (try clear hb2); (try clear hk); (try clear hi)))
  go_ret2
  exact ⟨by first | rfl | (simp [errW_none, errW_some] <;> rfl) | (simp [*, errW_none, errW_some] <;> rfl), by repeat (first | (with_reducible first | exact HB.out | apply below_alloc | apply pw_below_drewN | apply below_drew1 | refine below_set ?_ GE161.out) | exact HB.out)⟩

end Go.Proofs.Ytecjdchjaoimfaa.P
