/- The Go functions of this seat as plain Lean functions, and for each the proof that its call gives what the plain function gives. Printed by a program of this session. -/
import Derived.Test.YtoncmgkgflomlaaPx0
import Derived.Test.YtoncmgkgflomlaaPx7
namespace Go.Proofs.Ytoncmgkgflomlaa.P
open Go.RowKit Go.Proofs.YtoncmgkgflomlaaW.PrintWords Go.Proofs.YtoncmgkgflomlaaW.PrintLast Go.Proofs.YtoncmgkgflomlaaW.PrintMore
attribute [local go_sem] max2_int min2_int max_two min_two max_three min_three max_four min_four   -- for this text's walks alone
set_option linter.unusedVariables false
set_option linter.unusedSimpArgs false

/-! ### tabulariumref03_Order: function 29 -/
def tabulariumref03_Order.j0 : Nat → Nat → Int → Nat → Int → Bool → Option (Int)
  | 0, _, _, _, _, _ => none
  | k + 1, x6, x7, x9, x10, x31 => if x31 = true then ((tabulariumref03_sign.f (FloatKind.f64.format.order x6 x9 == some .lt)).bind fun t145 => (some t145)) else (if (FloatKind.f64.format.order x6 0 == some .eq) = true then (if x7 = x10 then (some 0) else ((tabulariumref03_sign.f (decide (x7 < x10))).bind fun t146 => (some t146))) else (some 0))
def tabulariumref03_Order.f (k : Nat) (a0 : Nat) (a1 : Nat) : Option (Int) := (tabulariumref03_key.f a0).bind fun bt139 => ((tabulariumref03_key.f a1).bind fun bt142 => (if bt139.1 = bt142.1 then (if (FloatKind.f64.format.order bt139.2.1 bt142.2.1 == some .lt) = true then (tabulariumref03_Order.j0 k bt139.2.1 bt139.2.2 bt142.2.1 bt142.2.2 true) else (tabulariumref03_Order.j0 k bt139.2.1 bt139.2.2 bt142.2.1 bt142.2.2 (FloatKind.f64.format.order bt139.2.1 bt142.2.1 == some .gt))) else ((tabulariumref03_sign.f (decide (bt139.1 < bt142.1))).bind fun t147 => (some t147))))
theorem tabulariumref03_Order.mono_l : ∀ k, (∀ y0 y1 y2 y3 y4, LeO (tabulariumref03_Order.j0 k y0 y1 y2 y3 y4) (tabulariumref03_Order.j0 (k + 1) y0 y1 y2 y3 y4))
  | 0 => fun _ _ _ _ _ r h => by simp [tabulariumref03_Order.j0] at h
  | k + 1 => by
    have ih0 := tabulariumref03_Order.mono_l k
    · intro y0 y1 y2 y3 y4
      unfold tabulariumref03_Order.j0
      repeat' first
      | (with_reducible exact ih0 _ _ _ _ _)
      | (with_reducible exact LeO.refl _)
      | (with_reducible exact LeO.none _)
      | (with_reducible refine LeO.ite ?_ ?_)
      | (with_reducible refine LeO.bind ?_ (fun _ => ?_))
      | exact ih0 _ _ _ _ _
      | exact LeO.none _
      | refine LeO.ite ?_ ?_
      | refine LeO.bind ?_ (fun _ => ?_)
theorem tabulariumref03_Order.mono : ∀ a0 a1 k, LeO (tabulariumref03_Order.f k a0 a1) (tabulariumref03_Order.f (k + 1) a0 a1) := by
  intro a0 a1 k
  have ih0 := tabulariumref03_Order.mono_l k
  unfold tabulariumref03_Order.f
  repeat' first
      | (with_reducible exact ih0 _ _ _ _ _)
      | (with_reducible exact LeO.refl _)
      | (with_reducible exact LeO.none _)
      | (with_reducible refine LeO.ite ?_ ?_)
      | (with_reducible refine LeO.bind ?_ (fun _ => ?_))
      | exact ih0 _ _ _ _ _
      | exact LeO.none _
      | refine LeO.ite ?_ ?_
      | refine LeO.bind ?_ (fun _ => ?_)
set_option maxHeartbeats 8000000 in
set_option maxRecDepth 100000 in
theorem tabulariumref03_Order.calls (k : Nat) (a0 : Nat) (a1 : Nat) (r : Int) (w : World) (h : tabulariumref03_Order.f k a0 a1 = some r) :
    Calls Try.prog 29 #[.float .f64 a0, .float .f64 a1] w fun e w' => e = .returned (.int .i64 r) ∧ Drawn0 w w' := by
  have H : ((tabulariumref03_key.f a0).bind fun bt139 => ((tabulariumref03_key.f a1).bind fun bt142 => (if bt139.1 = bt142.1 then (if (FloatKind.f64.format.order bt139.2.1 bt142.2.1 == some .lt) = true then (tabulariumref03_Order.j0 k bt139.2.1 bt139.2.2 bt142.2.1 bt142.2.2 true) else (tabulariumref03_Order.j0 k bt139.2.1 bt139.2.2 bt142.2.1 bt142.2.2 (FloatKind.f64.format.order bt139.2.1 bt142.2.1 == some .gt))) else ((tabulariumref03_sign.f (decide (bt139.1 < bt142.1))).bind fun t147 => (some t147))))) = some r := h
  clear h
  replace H := Option.bind_eq_some_iff.mp H
  obtain ⟨⟨t139, t140, t141⟩, A30, H⟩ := H
  replace H : ((tabulariumref03_key.f a1).bind fun bt142 => (if t139 = bt142.1 then (if (FloatKind.f64.format.order t140 bt142.2.1 == some .lt) = true then (tabulariumref03_Order.j0 k t140 t141 bt142.2.1 bt142.2.2 true) else (tabulariumref03_Order.j0 k t140 t141 bt142.2.1 bt142.2.2 (FloatKind.f64.format.order t140 bt142.2.1 == some .gt))) else ((tabulariumref03_sign.f (decide (t139 < bt142.1))).bind fun t147 => (some t147)))) = some r := H
  have A3 := Aside0.mk A30
  clear A30
  replace H := Option.bind_eq_some_iff.mp H
  obtain ⟨⟨t142, t143, t144⟩, A40, H⟩ := H
  replace H : (if t139 = t142 then (if (FloatKind.f64.format.order t140 t143 == some .lt) = true then (tabulariumref03_Order.j0 k t140 t141 t143 t144 true) else (tabulariumref03_Order.j0 k t140 t141 t143 t144 (FloatKind.f64.format.order t140 t143 == some .gt))) else ((tabulariumref03_sign.f (decide (t139 < t142))).bind fun t147 => (some t147))) = some r := H
  have A4 := Aside0.mk A40
  clear A40
  by_cases c5 : t139 = t142
  · rw [if_pos c5] at H
    have c5b0 : (t139 == t142) = true := beq_iff_eq.mpr c5
    have c5b1 : (t139 != t142) = false := bne_eq_false_iff_eq.mpr c5
    clear c5
    have HC6 := Aside0.mk H
    clear H
    go_enter Try.func29, Try.ntmps29
    go_upto_region 5 with (first | ((with_reducible refine gate_callee (f := 37) rfl ?_); refine goesL_ (some 13) rfl rfl Try.func37 (by kernel_rfl) rfl #[.float .f64 a0] rfl (by (try simp only [List.map_toArray, List.map_cons, List.map_nil]); first | done | rfl | (simp only [List.length_drop, List.length_take]; rfl)) ?_; (with_reducible refine (tabulariumref03_key.calls a0 t139 t140 t141 _ A3.out).mono ?_); rintro e w' ⟨rfl, ⟨nd, rfl⟩⟩; refine ⟨_, rfl, ?_⟩) | ((with_reducible refine gate_callee (f := 37) rfl ?_); refine goesL_ (some 19) rfl rfl Try.func37 (by kernel_rfl) rfl #[.float .f64 a1] rfl (by (try simp only [List.map_toArray, List.map_cons, List.map_nil]); first | done | rfl | (simp only [List.length_drop, List.length_take]; rfl)) ?_; (with_reducible refine (tabulariumref03_key.calls a1 t142 t143 t144 _ A4.out).mono ?_); rintro e w' ⟨rfl, ⟨nd, rfl⟩⟩; refine ⟨_, rfl, ?_⟩))
    (try simp only [Act.put, List.setIfInBounds_toArray, List.set_cons_zero, List.set_cons_succ])
    go_cut [31] (fun v31 wc => ∃ (kq : Nat) (x31_5 : Bool), v31 = .bool x31_5 ∧ Aside0 (tabulariumref03_Order.j0 kq t140 t141 t143 t144 x31_5 = some r) ∧ Aside0 (kq ≤ k) ∧ Drawn0 w wc)
    case first =>
      have H := HC6.out
      clear HC6
      by_cases c7 : (FloatKind.f64.format.order t140 t143 == some .lt) = true
      · rw [if_pos c7] at H
        have c7b0 : (FloatKind.f64.format.order t140 t143 == some .lt) = true := c7
        clear c7
        (first | rw [c7b0] | (simp only [i64_w, i32_w]; rw [c7b0]) | skip)
        have H' := Aside0.mk H
        clear H
        go_wp2
        go_meet
        case rel => exact ⟨_, (true), (by first | rfl | (simp; done) | (simp [*]; done) | (simp; exact (fun (l_ : List UInt8) => by cases l_ <;> rfl : ∀ l_ : List UInt8, l_.isEmpty = !(l_ != [])) _)), H', ⟨by first | omega | exact Nat.le_refl _⟩, by repeat (first | exact Drawn0.refl _ | apply Drawn0.step)⟩
      · rw [if_neg c7] at H
        have c7b0 : (FloatKind.f64.format.order t140 t143 == some .lt) = false := Bool.eq_false_iff.mpr c7
        clear c7
        (first | rw [c7b0] | (simp only [i64_w, i32_w]; rw [c7b0]) | skip)
        have H' := Aside0.mk H
        clear H
        go_wp2
        go_meet
        case rel => exact ⟨_, ((FloatKind.f64.format.order t140 t143 == some .gt)), (by first | rfl | (simp; done) | (simp [*]; done) | (simp; exact (fun (l_ : List UInt8) => by cases l_ <;> rfl : ∀ l_ : List UInt8, l_.isEmpty = !(l_ != [])) _)), H', ⟨by first | omega | exact Nat.le_refl _⟩, by repeat (first | exact Drawn0.refl _ | apply Drawn0.step)⟩
    case rest =>
      clear HC6
      try clear c2
      try clear p2
      try clear c3
      try clear c5
      try clear c5b0
      try clear c5b1
      try clear c7
      try clear c7b0
      obtain ⟨kq, x31_5, rfl, HA, HJ5, ⟨mc5, rfl⟩⟩ := hcut
      cases kq with
      | zero => exact absurd HA.out (by simp [tabulariumref03_Order.j0])
      | succ kj5 =>
        have H := HA.out
        clear HA
        simp only [tabulariumref03_Order.j0] at H
        by_cases c8 : x31_5 = true
        · subst c8
          have H1 : ((tabulariumref03_sign.f (FloatKind.f64.format.order t140 t143 == some .lt)).bind fun t145 => (some t145)) = some r := by rw [if_pos rfl] at H; exact H
          clear H
          have H := H1
          clear H1
          replace H := Option.bind_eq_some_iff.mp H
          obtain ⟨t145, A90, H⟩ := H
          replace H : (some t145) = some r := H
          have A9 := Aside0.mk A90
          clear A90
          obtain rfl := Option.some.inj H
          go_wp2_with (first | ((with_reducible refine gate_callee (f := 38) rfl ?_); refine goesL_ (some 43) rfl rfl Try.func38 (by kernel_rfl) rfl #[.bool (FloatKind.f64.format.order t140 t143 == some .lt)] rfl (by (try simp only [List.map_toArray, List.map_cons, List.map_nil]); first | done | rfl | (simp only [List.length_drop, List.length_take]; rfl)) ?_; (with_reducible refine (tabulariumref03_sign.calls (FloatKind.f64.format.order t140 t143 == some .lt) t145 _ A9.out).mono ?_); rintro e w' ⟨rfl, ⟨nd, rfl⟩⟩; refine ⟨_, rfl, ?_⟩))
          go_ret
          exact ⟨by first | rfl | (simp; done) | (simp [*]; done) | (simp; exact (fun (l_ : List UInt8) => by cases l_ <;> rfl : ∀ l_ : List UInt8, l_.isEmpty = !(l_ != [])) _), by repeat (first | exact Drawn0.refl _ | apply Drawn0.step)⟩
        · replace c8 := Bool.eq_false_iff.mpr c8
          subst c8
          have H1 : (if (FloatKind.f64.format.order t140 0 == some .eq) = true then (if t141 = t144 then (some 0) else ((tabulariumref03_sign.f (decide (t141 < t144))).bind fun t146 => (some t146))) else (some 0)) = some r := by rw [if_neg (show ¬ (false = true) by decide)] at H; exact H
          clear H
          have H := H1
          clear H1
          by_cases c10 : (FloatKind.f64.format.order t140 0 == some .eq) = true
          · rw [if_pos c10] at H
            have c10b0 : (FloatKind.f64.format.order t140 0 == some .eq) = true := c10
            clear c10
            by_cases c11 : t141 = t144
            · rw [if_pos c11] at H
              have c11b0 : (t141 == t144) = true := beq_iff_eq.mpr c11
              have c11b1 : (t141 != t144) = false := bne_eq_false_iff_eq.mpr c11
              clear c11
              obtain rfl := Option.some.inj H
              go_wp2
              go_ret
              exact ⟨by first | rfl | (simp; done) | (simp [*]; done) | (simp; exact (fun (l_ : List UInt8) => by cases l_ <;> rfl : ∀ l_ : List UInt8, l_.isEmpty = !(l_ != [])) _), by repeat (first | exact Drawn0.refl _ | apply Drawn0.step)⟩
            · rw [if_neg c11] at H
              have c11b0 : (t141 == t144) = false := beq_eq_false_iff_ne.mpr c11
              have c11b1 : (t141 != t144) = true := bne_iff_ne.mpr c11
              replace H := Option.bind_eq_some_iff.mp H
              obtain ⟨t146, A120, H⟩ := H
              replace H : (some t146) = some r := H
              have A12 := Aside0.mk A120
              clear A120
              obtain rfl := Option.some.inj H
              go_wp2_with (first | ((with_reducible refine gate_callee (f := 38) rfl ?_); refine goesL_ (some 55) rfl rfl Try.func38 (by kernel_rfl) rfl #[.bool (decide (t141 < t144))] rfl (by (try simp only [List.map_toArray, List.map_cons, List.map_nil]); first | done | rfl | (simp only [List.length_drop, List.length_take]; rfl)) ?_; (with_reducible refine (tabulariumref03_sign.calls (decide (t141 < t144)) t146 _ A12.out).mono ?_); rintro e w' ⟨rfl, ⟨nd, rfl⟩⟩; refine ⟨_, rfl, ?_⟩))
              go_ret
              exact ⟨by first | rfl | (simp; done) | (simp [*]; done) | (simp; exact (fun (l_ : List UInt8) => by cases l_ <;> rfl : ∀ l_ : List UInt8, l_.isEmpty = !(l_ != [])) _), by repeat (first | exact Drawn0.refl _ | apply Drawn0.step)⟩
          · rw [if_neg c10] at H
            have c10b0 : (FloatKind.f64.format.order t140 0 == some .eq) = false := Bool.eq_false_iff.mpr c10
            clear c10
            obtain rfl := Option.some.inj H
            go_wp2
            go_ret
            exact ⟨by first | rfl | (simp; done) | (simp [*]; done) | (simp; exact (fun (l_ : List UInt8) => by cases l_ <;> rfl : ∀ l_ : List UInt8, l_.isEmpty = !(l_ != [])) _), by repeat (first | exact Drawn0.refl _ | apply Drawn0.step)⟩
  · rw [if_neg c5] at H
    have c5b0 : (t139 == t142) = false := beq_eq_false_iff_ne.mpr c5
    have c5b1 : (t139 != t142) = true := bne_iff_ne.mpr c5
    replace H := Option.bind_eq_some_iff.mp H
    obtain ⟨t147, A130, H⟩ := H
    replace H : (some t147) = some r := H
    have A13 := Aside0.mk A130
    clear A130
    obtain rfl := Option.some.inj H
    go_enter Try.func29, Try.ntmps29
    go_wp2_with (first | ((with_reducible refine gate_callee (f := 37) rfl ?_); refine goesL_ (some 13) rfl rfl Try.func37 (by kernel_rfl) rfl #[.float .f64 a0] rfl (by (try simp only [List.map_toArray, List.map_cons, List.map_nil]); first | done | rfl | (simp only [List.length_drop, List.length_take]; rfl)) ?_; (with_reducible refine (tabulariumref03_key.calls a0 t139 t140 t141 _ A3.out).mono ?_); rintro e w' ⟨rfl, ⟨nd, rfl⟩⟩; refine ⟨_, rfl, ?_⟩) | ((with_reducible refine gate_callee (f := 37) rfl ?_); refine goesL_ (some 19) rfl rfl Try.func37 (by kernel_rfl) rfl #[.float .f64 a1] rfl (by (try simp only [List.map_toArray, List.map_cons, List.map_nil]); first | done | rfl | (simp only [List.length_drop, List.length_take]; rfl)) ?_; (with_reducible refine (tabulariumref03_key.calls a1 t142 t143 t144 _ A4.out).mono ?_); rintro e w' ⟨rfl, ⟨nd, rfl⟩⟩; refine ⟨_, rfl, ?_⟩) | ((with_reducible refine gate_callee (f := 38) rfl ?_); refine goesL_ (some 30) rfl rfl Try.func38 (by kernel_rfl) rfl #[.bool (decide (t139 < t142))] rfl (by (try simp only [List.map_toArray, List.map_cons, List.map_nil]); first | done | rfl | (simp only [List.length_drop, List.length_take]; rfl)) ?_; (with_reducible refine (tabulariumref03_sign.calls (decide (t139 < t142)) t147 _ A13.out).mono ?_); rintro e w' ⟨rfl, ⟨nd, rfl⟩⟩; refine ⟨_, rfl, ?_⟩))
    go_ret
    exact ⟨by first | rfl | (simp; done) | (simp [*]; done) | (simp; exact (fun (l_ : List UInt8) => by cases l_ <;> rfl : ∀ l_ : List UInt8, l_.isEmpty = !(l_ != [])) _), by repeat (first | exact Drawn0.refl _ | apply Drawn0.step)⟩

end Go.Proofs.Ytoncmgkgflomlaa.P
