/- The Go functions of this seat as plain Lean functions, and for each the proof that its call gives what the plain function gives. Printed by a program of this session. -/
import Derived.Test.YtoncmgkgflomlaaPx0
import Derived.Test.YtoncmgkgflomlaaPx1
namespace Go.Proofs.Ytoncmgkgflomlaa.P
open Go.RowKit Go.Proofs.YtoncmgkgflomlaaW.PrintWords Go.Proofs.YtoncmgkgflomlaaW.PrintLast Go.Proofs.YtoncmgkgflomlaaW.PrintMore
attribute [local go_sem] max2_int min2_int max_two min_two max_three min_three max_four min_four   -- for this text's walks alone
set_option linter.unusedVariables false
set_option linter.unusedSimpArgs false

/-! ### real_Share: function 15 -/
def real_Share.j0 : Nat → Nat → Nat → Bool → Option (Nat)
  | 0, _, _, _ => none
  | k + 1, x0, x1, x5 => if x5 = true then (some 4607182418800017408) else (if (FloatKind.f64.format.order x0 0 == some .lt || FloatKind.f64.format.order x0 0 == some .eq) = true then (some 0) else (if (FloatKind.f64.format.order x0 x1 == some .gt || FloatKind.f64.format.order x0 x1 == some .eq) = true then (some 4607182418800017408) else (if (FloatKind.f64.format.div x0 x1).isSome = true then (some ((FloatKind.f64.format.div x0 x1).getD 0)) else (none))))
def real_Share.f (k : Nat) (a0 : Nat) (a1 : Nat) : Option (Nat) := (math_IsNaN.f a0).bind fun t105 => (if t105 = true then (real_Share.j0 k a0 a1 t105) else ((math_IsNaN.f a1).bind fun t106 => (if t106 = true then (real_Share.j0 k a0 a1 t106) else (real_Share.j0 k a0 a1 (FloatKind.f64.format.order a1 0 == some .lt || FloatKind.f64.format.order a1 0 == some .eq)))))
theorem real_Share.mono_l : ∀ k, (∀ y0 y1 y2, LeO (real_Share.j0 k y0 y1 y2) (real_Share.j0 (k + 1) y0 y1 y2))
  | 0 => fun _ _ _ r h => by simp [real_Share.j0] at h
  | k + 1 => by
    have ih0 := real_Share.mono_l k
    · intro y0 y1 y2
      unfold real_Share.j0
      repeat' first
      | (with_reducible exact ih0 _ _ _)
      | (with_reducible exact LeO.refl _)
      | (with_reducible exact LeO.none _)
      | (with_reducible refine LeO.ite ?_ ?_)
      | (with_reducible refine LeO.bind ?_ (fun _ => ?_))
      | exact ih0 _ _ _
      | exact LeO.none _
      | refine LeO.ite ?_ ?_
      | refine LeO.bind ?_ (fun _ => ?_)
theorem real_Share.mono : ∀ a0 a1 k, LeO (real_Share.f k a0 a1) (real_Share.f (k + 1) a0 a1) := by
  intro a0 a1 k
  have ih0 := real_Share.mono_l k
  unfold real_Share.f
  repeat' first
      | (with_reducible exact ih0 _ _ _)
      | (with_reducible exact LeO.refl _)
      | (with_reducible exact LeO.none _)
      | (with_reducible refine LeO.ite ?_ ?_)
      | (with_reducible refine LeO.bind ?_ (fun _ => ?_))
      | exact ih0 _ _ _
      | exact LeO.none _
      | refine LeO.ite ?_ ?_
      | refine LeO.bind ?_ (fun _ => ?_)
set_option maxHeartbeats 8000000 in
set_option maxRecDepth 100000 in
theorem real_Share.calls (k : Nat) (a0 : Nat) (a1 : Nat) (r : Nat) (w : World) (h : real_Share.f k a0 a1 = some r) :
    Calls Try.prog 15 #[.float .f64 a0, .float .f64 a1] w fun e w' => e = .returned (.float .f64 r) ∧ Drawn0 w w' := by
  have H : ((math_IsNaN.f a0).bind fun t105 => (if t105 = true then (real_Share.j0 k a0 a1 t105) else ((math_IsNaN.f a1).bind fun t106 => (if t106 = true then (real_Share.j0 k a0 a1 t106) else (real_Share.j0 k a0 a1 (FloatKind.f64.format.order a1 0 == some .lt || FloatKind.f64.format.order a1 0 == some .eq)))))) = some r := h
  clear h
  replace H := Option.bind_eq_some_iff.mp H
  obtain ⟨t105, A30, H⟩ := H
  replace H : (if t105 = true then (real_Share.j0 k a0 a1 t105) else ((math_IsNaN.f a1).bind fun t106 => (if t106 = true then (real_Share.j0 k a0 a1 t106) else (real_Share.j0 k a0 a1 (FloatKind.f64.format.order a1 0 == some .lt || FloatKind.f64.format.order a1 0 == some .eq))))) = some r := H
  have A3 := Aside0.mk A30
  clear A30
  have HC4 := Aside0.mk H
  clear H
  go_enter Try.func15, Try.ntmps15
  go_upto_if 5 with (first | ((with_reducible refine gate_callee (f := 32) rfl ?_); refine goesL_ (some 7) rfl rfl Try.func32 (by kernel_rfl) rfl #[.float .f64 a0] rfl (by (try simp only [List.map_toArray, List.map_cons, List.map_nil]); first | done | rfl | (simp only [List.length_drop, List.length_take]; rfl)) ?_; (with_reducible refine (math_IsNaN.calls a0 t105 _ A3.out).mono ?_); rintro e w' ⟨rfl, ⟨nd, rfl⟩⟩; refine ⟨_, rfl, ?_⟩))
  (try simp only [Act.put, List.setIfInBounds_toArray, List.set_cons_zero, List.set_cons_succ])
  go_cut [5] (fun v5 wc => ∃ (kq : Nat) (x5_3 : Bool), v5 = .bool x5_3 ∧ Aside0 (real_Share.j0 kq a0 a1 x5_3 = some r) ∧ Aside0 (kq ≤ k) ∧ Drawn0 w wc)
  case first =>
    have H := HC4.out
    clear HC4
    by_cases c5 : t105 = true
    · subst c5
      have H1 : (real_Share.j0 k a0 a1 true) = some r := by rw [if_pos rfl] at H; exact H
      clear H
      have H := H1
      clear H1
      have H' := Aside0.mk H
      clear H
      go_wp2
      go_meet
      case rel => exact ⟨_, (true), (by first | rfl | (simp; done) | (simp [*]; done) | (simp; exact (fun (l_ : List UInt8) => by cases l_ <;> rfl : ∀ l_ : List UInt8, l_.isEmpty = !(l_ != [])) _)), H', ⟨by first | omega | exact Nat.le_refl _⟩, by repeat (first | exact Drawn0.refl _ | apply Drawn0.step)⟩
    · replace c5 := Bool.eq_false_iff.mpr c5
      subst c5
      have H1 : ((math_IsNaN.f a1).bind fun t106 => (if t106 = true then (real_Share.j0 k a0 a1 t106) else (real_Share.j0 k a0 a1 (FloatKind.f64.format.order a1 0 == some .lt || FloatKind.f64.format.order a1 0 == some .eq)))) = some r := by rw [if_neg (show ¬ (false = true) by decide)] at H; exact H
      clear H
      have H := H1
      clear H1
      replace H := Option.bind_eq_some_iff.mp H
      obtain ⟨t106, A60, H⟩ := H
      replace H : (if t106 = true then (real_Share.j0 k a0 a1 t106) else (real_Share.j0 k a0 a1 (FloatKind.f64.format.order a1 0 == some .lt || FloatKind.f64.format.order a1 0 == some .eq))) = some r := H
      have A6 := Aside0.mk A60
      clear A60
      by_cases c7 : t106 = true
      · subst c7
        have H1 : (real_Share.j0 k a0 a1 true) = some r := by rw [if_pos rfl] at H; exact H
        clear H
        have H := H1
        clear H1
        have H' := Aside0.mk H
        clear H
        go_wp2_with (first | ((with_reducible refine gate_callee (f := 32) rfl ?_); refine goesL_ (some 9) rfl rfl Try.func32 (by kernel_rfl) rfl #[.float .f64 a1] rfl (by (try simp only [List.map_toArray, List.map_cons, List.map_nil]); first | done | rfl | (simp only [List.length_drop, List.length_take]; rfl)) ?_; (with_reducible refine (math_IsNaN.calls a1 true _ A6.out).mono ?_); rintro e w' ⟨rfl, ⟨nd, rfl⟩⟩; refine ⟨_, rfl, ?_⟩))
        go_meet
        case rel => exact ⟨_, (true), (by first | rfl | (simp; done) | (simp [*]; done) | (simp; exact (fun (l_ : List UInt8) => by cases l_ <;> rfl : ∀ l_ : List UInt8, l_.isEmpty = !(l_ != [])) _)), H', ⟨by first | omega | exact Nat.le_refl _⟩, by repeat (first | exact Drawn0.refl _ | apply Drawn0.step)⟩
      · replace c7 := Bool.eq_false_iff.mpr c7
        subst c7
        have H1 : (real_Share.j0 k a0 a1 (FloatKind.f64.format.order a1 0 == some .lt || FloatKind.f64.format.order a1 0 == some .eq)) = some r := by rw [if_neg (show ¬ (false = true) by decide)] at H; exact H
        clear H
        have H := H1
        clear H1
        have H' := Aside0.mk H
        clear H
        go_wp2_with (first | ((with_reducible refine gate_callee (f := 32) rfl ?_); refine goesL_ (some 9) rfl rfl Try.func32 (by kernel_rfl) rfl #[.float .f64 a1] rfl (by (try simp only [List.map_toArray, List.map_cons, List.map_nil]); first | done | rfl | (simp only [List.length_drop, List.length_take]; rfl)) ?_; (with_reducible refine (math_IsNaN.calls a1 false _ A6.out).mono ?_); rintro e w' ⟨rfl, ⟨nd, rfl⟩⟩; refine ⟨_, rfl, ?_⟩))
        go_meet
        case rel => exact ⟨_, ((FloatKind.f64.format.order a1 0 == some .lt || FloatKind.f64.format.order a1 0 == some .eq)), (by first | rfl | (simp; done) | (simp [*]; done) | (simp; exact (fun (l_ : List UInt8) => by cases l_ <;> rfl : ∀ l_ : List UInt8, l_.isEmpty = !(l_ != [])) _)), H', ⟨by first | omega | exact Nat.le_refl _⟩, by repeat (first | exact Drawn0.refl _ | apply Drawn0.step)⟩
  case rest =>
    clear HC4
    try clear c1
    try clear p2
    try clear c3
    try clear c5
    try clear c7
    obtain ⟨kq, x5_3, rfl, HA, HJ3, ⟨mc3, rfl⟩⟩ := hcut
    cases kq with
    | zero => exact absurd HA.out (by simp [real_Share.j0])
    | succ kj3 =>
      have H := HA.out
      clear HA
      simp only [real_Share.j0] at H
      by_cases c8 : x5_3 = true
      · subst c8
        have H1 : (some 4607182418800017408) = some r := by rw [if_pos rfl] at H; exact H
        clear H
        have H := H1
        clear H1
        obtain rfl := Option.some.inj H
        go_wp2
        go_ret
        exact ⟨by first | rfl | (simp; done) | (simp [*]; done) | (simp; exact (fun (l_ : List UInt8) => by cases l_ <;> rfl : ∀ l_ : List UInt8, l_.isEmpty = !(l_ != [])) _), by repeat (first | exact Drawn0.refl _ | apply Drawn0.step)⟩
      · replace c8 := Bool.eq_false_iff.mpr c8
        subst c8
        have H1 : (if (FloatKind.f64.format.order a0 0 == some .lt || FloatKind.f64.format.order a0 0 == some .eq) = true then (some 0) else (if (FloatKind.f64.format.order a0 a1 == some .gt || FloatKind.f64.format.order a0 a1 == some .eq) = true then (some 4607182418800017408) else (if (FloatKind.f64.format.div a0 a1).isSome = true then (some ((FloatKind.f64.format.div a0 a1).getD 0)) else (none)))) = some r := by rw [if_neg (show ¬ (false = true) by decide)] at H; exact H
        clear H
        have H := H1
        clear H1
        by_cases c9 : (FloatKind.f64.format.order a0 0 == some .lt || FloatKind.f64.format.order a0 0 == some .eq) = true
        · rw [if_pos c9] at H
          have c9b0 : (FloatKind.f64.format.order a0 0 == some .lt || FloatKind.f64.format.order a0 0 == some .eq) = true := c9
          clear c9
          obtain rfl := Option.some.inj H
          go_wp2
          go_ret
          exact ⟨by first | rfl | (simp; done) | (simp [*]; done) | (simp; exact (fun (l_ : List UInt8) => by cases l_ <;> rfl : ∀ l_ : List UInt8, l_.isEmpty = !(l_ != [])) _), by repeat (first | exact Drawn0.refl _ | apply Drawn0.step)⟩
        · rw [if_neg c9] at H
          have c9b0 : (FloatKind.f64.format.order a0 0 == some .lt || FloatKind.f64.format.order a0 0 == some .eq) = false := Bool.eq_false_iff.mpr c9
          clear c9
          by_cases c10 : (FloatKind.f64.format.order a0 a1 == some .gt || FloatKind.f64.format.order a0 a1 == some .eq) = true
          · rw [if_pos c10] at H
            have c10b0 : (FloatKind.f64.format.order a0 a1 == some .gt || FloatKind.f64.format.order a0 a1 == some .eq) = true := c10
            clear c10
            obtain rfl := Option.some.inj H
            go_wp2
            go_ret
            exact ⟨by first | rfl | (simp; done) | (simp [*]; done) | (simp; exact (fun (l_ : List UInt8) => by cases l_ <;> rfl : ∀ l_ : List UInt8, l_.isEmpty = !(l_ != [])) _), by repeat (first | exact Drawn0.refl _ | apply Drawn0.step)⟩
          · rw [if_neg c10] at H
            have c10b0 : (FloatKind.f64.format.order a0 a1 == some .gt || FloatKind.f64.format.order a0 a1 == some .eq) = false := Bool.eq_false_iff.mpr c10
            clear c10
            by_cases c11 : (FloatKind.f64.format.div a0 a1).isSome = true
            · rw [if_pos c11] at H
              have c11b0 : ∀ (t_ : TypeId) (W_ : World), (binOp .quo t_ (.float .f64 a0) (.float .f64 a1)).run Try.prog W_ = .ok (.float .f64 ((FloatKind.f64.format.div a0 a1).getD 0)) W_ := fun t_ W_ => flt_div c11 t_ W_
              clear c11
              obtain rfl := Option.some.inj H
              go_wp2
              go_ret
              exact ⟨by first | rfl | (simp; done) | (simp [*]; done) | (simp; exact (fun (l_ : List UInt8) => by cases l_ <;> rfl : ∀ l_ : List UInt8, l_.isEmpty = !(l_ != [])) _), by repeat (first | exact Drawn0.refl _ | apply Drawn0.step)⟩
            · rw [if_neg c11] at H
              exact absurd H (by simp)

/-! ### real_Reached: function 16 -/
def real_Reached.f (a0 : Int) (a1 : Int) (a2 : Nat) : Option (Bool) := if a1 < 1 then (some true) else ((math_IsNaN.f a2).bind fun t107 => (if t107 = true then (some false) else (if (FloatKind.f64.format.mul a2 (floatOfInt .f64 a1)).isSome = true then (some (!(FloatKind.f64.format.order (floatOfInt .f64 (mx a0 0)) ((FloatKind.f64.format.mul a2 (floatOfInt .f64 a1)).getD 0) == some .lt))) else (none))))
set_option maxHeartbeats 8000000 in
set_option maxRecDepth 100000 in
theorem real_Reached.calls (a0 : Int) (a1 : Int) (a2 : Nat) (r : Bool) (w : World) (h : real_Reached.f a0 a1 a2 = some r) :
    Calls Try.prog 16 #[.int .i64 a0, .int .i64 a1, .float .f64 a2] w fun e w' => e = .returned (.bool r) ∧ Below w.heap.size w w' := by
  have HB := Aside0.mk (Below.refl w.heap.size w)
  have H : (if a1 < 1 then (some true) else ((math_IsNaN.f a2).bind fun t107 => (if t107 = true then (some false) else (if (FloatKind.f64.format.mul a2 (floatOfInt .f64 a1)).isSome = true then (some (!(FloatKind.f64.format.order (floatOfInt .f64 (mx a0 0)) ((FloatKind.f64.format.mul a2 (floatOfInt .f64 a1)).getD 0) == some .lt))) else (none))))) = some r := h
  clear h
  by_cases c4 : a1 < 1
  · rw [if_pos c4] at H
    have c4b0 : decide (a1 < 1) = true := decide_eq_true c4
    clear c4
    obtain rfl := Option.some.inj H
    go_enter Try.func16, Try.ntmps16
    go_wp2
    go_ret
    exact ⟨by first | rfl | (simp [errW_none, errW_some] <;> rfl) | (simp [*, errW_none, errW_some] <;> rfl), by repeat (first | (with_reducible first | exact HB.out | apply below_alloc | apply pw_below_drewN | apply below_drew1) | exact HB.out)⟩
  · rw [if_neg c4] at H
    have c4b0 : decide (a1 < 1) = false := decide_eq_false c4
    clear c4
    replace H := Option.bind_eq_some_iff.mp H
    obtain ⟨t107, A50, H⟩ := H
    replace H : (if t107 = true then (some false) else (if (FloatKind.f64.format.mul a2 (floatOfInt .f64 a1)).isSome = true then (some (!(FloatKind.f64.format.order (floatOfInt .f64 (mx a0 0)) ((FloatKind.f64.format.mul a2 (floatOfInt .f64 a1)).getD 0) == some .lt))) else (none))) = some r := H
    have A5 := Aside0.mk A50
    clear A50
    by_cases c6 : t107 = true
    · subst c6
      have H1 : (some false) = some r := by rw [if_pos rfl] at H; exact H
      clear H
      have H := H1
      clear H1
      obtain rfl := Option.some.inj H
      go_enter Try.func16, Try.ntmps16
      go_wp2_with (first | ((with_reducible refine gate_callee (f := 32) rfl ?_); refine goesL_ (some 10) rfl rfl Try.func32 (by kernel_rfl) rfl #[.float .f64 a2] rfl (by (try simp only [List.map_toArray, List.map_cons, List.map_nil]); first | done | rfl | (simp only [List.length_drop, List.length_take]; rfl)) ?_; (with_reducible refine (math_IsNaN.calls a2 true _ A5.out).mono ?_); rintro e w' ⟨rfl, ⟨nd, rfl⟩⟩; refine ⟨_, rfl, ?_⟩))
      go_ret
      exact ⟨by first | rfl | (simp [errW_none, errW_some] <;> rfl) | (simp [*, errW_none, errW_some] <;> rfl), by repeat (first | (with_reducible first | exact HB.out | apply below_alloc | apply pw_below_drewN | apply below_drew1) | exact HB.out)⟩
    · replace c6 := Bool.eq_false_iff.mpr c6
      subst c6
      have H1 : (if (FloatKind.f64.format.mul a2 (floatOfInt .f64 a1)).isSome = true then (some (!(FloatKind.f64.format.order (floatOfInt .f64 (mx a0 0)) ((FloatKind.f64.format.mul a2 (floatOfInt .f64 a1)).getD 0) == some .lt))) else (none)) = some r := by rw [if_neg (show ¬ (false = true) by decide)] at H; exact H
      clear H
      have H := H1
      clear H1
      obtain ⟨ji7, hji7⟩ : ∃ j_ : Int, (mx a0 0) = j_ := ⟨_, rfl⟩
      replace H : (if (FloatKind.f64.format.mul a2 (floatOfInt .f64 a1)).isSome = true then (some (!(FloatKind.f64.format.order (floatOfInt .f64 (ji7)) ((FloatKind.f64.format.mul a2 (floatOfInt .f64 a1)).getD 0) == some .lt))) else (none)) = some r := by first | (rw [hji7] at H; exact H) | (simp only [hji7] at H ⊢; exact H)
      (try rw [hji7] at A5)
      (try (have hji7l : 0 ≤ ji7 := by (rw [← hji7]; unfold mx; (repeat' split) <;> omega)))
      (try (have hji7m : 0 ≤ ji7 := by omega))
      have hji7_ : (if a0 < 0 then 0 else a0) = ji7 := hji7
      by_cases c8 : (FloatKind.f64.format.mul a2 (floatOfInt .f64 a1)).isSome = true
      · rw [if_pos c8] at H
        have c8b0 : ∀ (t_ : TypeId) (W_ : World), (binOp .mul t_ (.float .f64 a2) (.float .f64 (floatOfInt .f64 a1))).run Try.prog W_ = .ok (.float .f64 ((FloatKind.f64.format.mul a2 (floatOfInt .f64 a1)).getD 0)) W_ := fun t_ W_ => flt_mul c8 t_ W_
        clear c8
        obtain rfl := Option.some.inj H
        go_enter Try.func16, Try.ntmps16
        go_wp2_with (first | ((with_reducible refine gate_callee (f := 32) rfl ?_); refine goesL_ (some 10) rfl rfl Try.func32 (by kernel_rfl) rfl #[.float .f64 a2] rfl (by (try simp only [List.map_toArray, List.map_cons, List.map_nil]); first | done | rfl | (simp only [List.length_drop, List.length_take]; rfl)) ?_; (with_reducible refine (math_IsNaN.calls a2 false _ A5.out).mono ?_); rintro e w' ⟨rfl, ⟨nd, rfl⟩⟩; refine ⟨_, rfl, ?_⟩))
        go_ret
        exact ⟨by first | rfl | (simp [errW_none, errW_some] <;> rfl) | (simp only [← hji7]; first | rfl | (simp [errW_none, errW_some] <;> rfl)) | (simp [*, errW_none, errW_some] <;> rfl), by repeat (first | (with_reducible first | exact HB.out | apply below_alloc | apply pw_below_drewN | apply below_drew1) | exact HB.out)⟩
      · rw [if_neg c8] at H
        exact absurd H (by simp)

-- NOT PRINTED: function 34 (math_Float64frombits)

/-! ### math_NaN: function 24 -/
def math_NaN.f  : Option (Nat) := some ((9221120237041090561 : Int).toNat)
set_option maxHeartbeats 8000000 in
set_option maxRecDepth 100000 in
theorem math_NaN.calls  (r : Nat) (w : World) (h : math_NaN.f  = some r) :
    Calls Try.prog 24 #[] w fun e w' => e = .returned (.float .f64 r) ∧ Drawn0 w w' := by
  have hx34 := x34
  have H : (some ((9221120237041090561 : Int).toNat)) = some r := h
  clear h
  obtain rfl := Option.some.inj H
  go_enter Try.func24, Try.ntmps24
  go_wp2
  go_ret
  exact ⟨by first | rfl | (simp; done) | (simp [*]; done) | (simp; exact (fun (l_ : List UInt8) => by cases l_ <;> rfl : ∀ l_ : List UInt8, l_.isEmpty = !(l_ != [])) _), by repeat (first | exact Drawn0.refl _ | apply Drawn0.step)⟩

end Go.Proofs.Ytoncmgkgflomlaa.P
