/- The Go functions of this seat as plain Lean functions, and for each the proof that its call gives what the plain function gives. Printed by a program of this session. -/
import Derived.Test.YtnkihggdohigiaaPx0
import Derived.Test.YtnkihggdohigiaaPx12
namespace Go.Proofs.Ytnkihggdohigiaa.P
open Go.RowKit Go.Proofs.YtnkihggdohigiaaW.PrintWords Go.Proofs.YtnkihggdohigiaaW.PrintLast Go.Proofs.YtnkihggdohigiaaW.PrintMore
attribute [local go_sem] max2_int min2_int max_two min_two max_three min_three max_four min_four   -- for this text's walks alone
set_option linter.unusedVariables false
set_option linter.unusedSimpArgs false

/-! ### tabulariumref03_Order: function 28 -/
def tabulariumref03_Order.j0 : Nat → Nat → Int → Nat → Int → Bool → Option (Int)
  | 0, _, _, _, _, _ => none
  | k + 1, x6, x7, x9, x10, x31 => if x31 = true then ((tabulariumref03_sign.f (FloatKind.f64.format.order x6 x9 == some .lt)).bind fun t171 => (some t171)) else (if (FloatKind.f64.format.order x6 0 == some .eq) = true then (if x7 = x10 then (some 0) else ((tabulariumref03_sign.f (decide (x7 < x10))).bind fun t172 => (some t172))) else (some 0))
def tabulariumref03_Order.f (k : Nat) (a0 : Nat) (a1 : Nat) : Option (Int) := (tabulariumref03_key.f a0).bind fun bt165 => ((tabulariumref03_key.f a1).bind fun bt168 => (if bt165.1 = bt168.1 then (if (FloatKind.f64.format.order bt165.2.1 bt168.2.1 == some .lt) = true then (tabulariumref03_Order.j0 k bt165.2.1 bt165.2.2 bt168.2.1 bt168.2.2 true) else (tabulariumref03_Order.j0 k bt165.2.1 bt165.2.2 bt168.2.1 bt168.2.2 (FloatKind.f64.format.order bt165.2.1 bt168.2.1 == some .gt))) else ((tabulariumref03_sign.f (decide (bt165.1 < bt168.1))).bind fun t173 => (some t173))))
theorem tabulariumref03_Order.mono_l : ∀ k, (∀ y0 y1 y2 y3 y4, LeO (tabulariumref03_Order.j0 k y0 y1 y2 y3 y4) (tabulariumref03_Order.j0 (k + 1) y0 y1 y2 y3 y4))
  | 0 => fun _ _ _ _ _ r h => by simp [tabulariumref03_Order.j0] at h
  | k + 1 => by
    have ih0 := tabulariumref03_Order.mono_l k
    · intro y0 y1 y2 y3 y4
      unfold tabulariumref03_Order.j0
      repeat' first
      | (with_reducible exact ih0 _ _ _ _ _)
      | (with_reducible exact LeO.refl _)
      | (with_reducible exact LeO.none _)
      | (with_reducible refine LeO.ite ?_ ?_)
      | (with_reducible refine LeO.bind ?_ (fun _ => ?_))
      | exact ih0 _ _ _ _ _
      | exact LeO.none _
      | refine LeO.ite ?_ ?_
      | refine LeO.bind ?_ (fun _ => ?_)
theorem tabulariumref03_Order.mono : ∀ a0 a1 k, LeO (tabulariumref03_Order.f k a0 a1) (tabulariumref03_Order.f (k + 1) a0 a1) := by
  intro a0 a1 k
  have ih0 := tabulariumref03_Order.mono_l k
  unfold tabulariumref03_Order.f
  repeat' first
      | (with_reducible exact ih0 _ _ _ _ _)
      | (with_reducible exact LeO.refl _)
      | (with_reducible exact LeO.none _)
      | (with_reducible refine LeO.ite ?_ ?_)
      | (with_reducible refine LeO.bind ?_ (fun _ => ?_))
      | exact ih0 _ _ _ _ _
      | exact LeO.none _
      | refine LeO.ite ?_ ?_
      | refine LeO.bind ?_ (fun _ => ?_)
set_option maxHeartbeats 8000000 in
set_option maxRecDepth 100000 in
theorem tabulariumref03_Order.calls (k : Nat) (a0 : Nat) (a1 : Nat) (r : Int) (w : World) (h : tabulariumref03_Order.f k a0 a1 = some r) :
    Calls Try.prog 28 #[.float .f64 a0, .float .f64 a1] w fun e w' => e = .returned (.int .i64 r) ∧ Drawn0 w w' := by
  have H : ((tabulariumref03_key.f a0).bind fun bt165 => ((tabulariumref03_key.f a1).bind fun bt168 => (if bt165.1 = bt168.1 then (if (FloatKind.f64.format.order bt165.2.1 bt168.2.1 == some .lt) = true then (tabulariumref03_Order.j0 k bt165.2.1 bt165.2.2 bt168.2.1 bt168.2.2 true) else (tabulariumref03_Order.j0 k bt165.2.1 bt165.2.2 bt168.2.1 bt168.2.2 (FloatKind.f64.format.order bt165.2.1 bt168.2.1 == some .gt))) else ((tabulariumref03_sign.f (decide (bt165.1 < bt168.1))).bind fun t173 => (some t173))))) = some r := h
  clear h
  replace H := Option.bind_eq_some_iff.mp H
  obtain ⟨⟨t165, t166, t167⟩, A30, H⟩ := H
  replace H : ((tabulariumref03_key.f a1).bind fun bt168 => (if t165 = bt168.1 then (if (FloatKind.f64.format.order t166 bt168.2.1 == some .lt) = true then (tabulariumref03_Order.j0 k t166 t167 bt168.2.1 bt168.2.2 true) else (tabulariumref03_Order.j0 k t166 t167 bt168.2.1 bt168.2.2 (FloatKind.f64.format.order t166 bt168.2.1 == some .gt))) else ((tabulariumref03_sign.f (decide (t165 < bt168.1))).bind fun t173 => (some t173)))) = some r := H
  have A3 := Aside0.mk A30
  clear A30
  replace H := Option.bind_eq_some_iff.mp H
  obtain ⟨⟨t168, t169, t170⟩, A40, H⟩ := H
  replace H : (if t165 = t168 then (if (FloatKind.f64.format.order t166 t169 == some .lt) = true then (tabulariumref03_Order.j0 k t166 t167 t169 t170 true) else (tabulariumref03_Order.j0 k t166 t167 t169 t170 (FloatKind.f64.format.order t166 t169 == some .gt))) else ((tabulariumref03_sign.f (decide (t165 < t168))).bind fun t173 => (some t173))) = some r := H
  have A4 := Aside0.mk A40
  clear A40
  by_cases c5 : t165 = t168
  · rw [if_pos c5] at H
    have c5b0 : (t165 == t168) = true := beq_iff_eq.mpr c5
    have c5b1 : (t165 != t168) = false := bne_eq_false_iff_eq.mpr c5
    clear c5
    have HC6 := Aside0.mk H
    clear H
    go_enter Try.func28, Try.ntmps28
    go_upto_region 5 with (first | ((with_reducible refine gate_callee (f := 36) rfl ?_); refine goesL_ (some 13) rfl rfl Try.func36 (by kernel_rfl) rfl #[.float .f64 a0] rfl (by (try simp only [List.map_toArray, List.map_cons, List.map_nil]); first | done | rfl | (simp only [List.length_drop, List.length_take]; rfl)) ?_; (with_reducible refine (tabulariumref03_key.calls a0 t165 t166 t167 _ A3.out).mono ?_); rintro e w' ⟨rfl, ⟨nd, rfl⟩⟩; refine ⟨_, rfl, ?_⟩) | ((with_reducible refine gate_callee (f := 36) rfl ?_); refine goesL_ (some 19) rfl rfl Try.func36 (by kernel_rfl) rfl #[.float .f64 a1] rfl (by (try simp only [List.map_toArray, List.map_cons, List.map_nil]); first | done | rfl | (simp only [List.length_drop, List.length_take]; rfl)) ?_; (with_reducible refine (tabulariumref03_key.calls a1 t168 t169 t170 _ A4.out).mono ?_); rintro e w' ⟨rfl, ⟨nd, rfl⟩⟩; refine ⟨_, rfl, ?_⟩))
    (try simp only [Act.put, List.setIfInBounds_toArray, List.set_cons_zero, List.set_cons_succ])
    go_cut [31] (fun v31 wc => ∃ (kq : Nat) (x31_5 : Bool), v31 = .bool x31_5 ∧ Aside0 (tabulariumref03_Order.j0 kq t166 t167 t169 t170 x31_5 = some r) ∧ Aside0 (kq ≤ k) ∧ Drawn0 w wc)
    case first =>
      have H := HC6.out
      clear HC6
      by_cases c7 : (FloatKind.f64.format.order t166 t169 == some .lt) = true
      · rw [if_pos c7] at H
        have c7b0 : (FloatKind.f64.format.order t166 t169 == some .lt) = true := c7
        clear c7
        (first | rw [c7b0] | (simp only [i64_w, i32_w]; rw [c7b0]) | skip)
        have H' := Aside0.mk H
        clear H
        go_wp2
        go_meet
        case rel => exact ⟨_, (true), (by first | rfl | (simp; done) | (simp [*]; done) | (simp; exact (fun (l_ : List UInt8) => by cases l_ <;> rfl : ∀ l_ : List UInt8, l_.isEmpty = !(l_ != [])) _)), H', ⟨by first | omega | exact Nat.le_refl _⟩, by repeat (first | exact Drawn0.refl _ | apply Drawn0.step)⟩
      · rw [if_neg c7] at H
        have c7b0 : (FloatKind.f64.format.order t166 t169 == some .lt) = false := Bool.eq_false_iff.mpr c7
        clear c7
        (first | rw [c7b0] | (simp only [i64_w, i32_w]; rw [c7b0]) | skip)
        have H' := Aside0.mk H
        clear H
        go_wp2
        go_meet
        case rel => exact ⟨_, ((FloatKind.f64.format.order t166 t169 == some .gt)), (by first | rfl | (simp; done) | (simp [*]; done) | (simp; exact (fun (l_ : List UInt8) => by cases l_ <;> rfl : ∀ l_ : List UInt8, l_.isEmpty = !(l_ != [])) _)), H', ⟨by first | omega | exact Nat.le_refl _⟩, by repeat (first | exact Drawn0.refl _ | apply Drawn0.step)⟩
    case rest =>
      clear HC6
      try clear c2
      try clear p2
      try clear c3
      try clear c5
      try clear c5b0
      try clear c5b1
      try clear c7
      try clear c7b0
      obtain ⟨kq, x31_5, rfl, HA, HJ5, ⟨mc5, rfl⟩⟩ := hcut
      cases kq with
      | zero => exact absurd HA.out (by simp [tabulariumref03_Order.j0])
      | succ kj5 =>
        have H := HA.out
        clear HA
        simp only [tabulariumref03_Order.j0] at H
        by_cases c8 : x31_5 = true
        · subst c8
          have H1 : ((tabulariumref03_sign.f (FloatKind.f64.format.order t166 t169 == some .lt)).bind fun t171 => (some t171)) = some r := by rw [if_pos rfl] at H; exact H
          clear H
          have H := H1
          clear H1
          replace H := Option.bind_eq_some_iff.mp H
          obtain ⟨t171, A90, H⟩ := H
          replace H : (some t171) = some r := H
          have A9 := Aside0.mk A90
          clear A90
          obtain rfl := Option.some.inj H
          go_wp2_with (first | ((with_reducible refine gate_callee (f := 37) rfl ?_); refine goesL_ (some 43) rfl rfl Try.func37 (by kernel_rfl) rfl #[.bool (FloatKind.f64.format.order t166 t169 == some .lt)] rfl (by (try simp only [List.map_toArray, List.map_cons, List.map_nil]); first | done | rfl | (simp only [List.length_drop, List.length_take]; rfl)) ?_; (with_reducible refine (tabulariumref03_sign.calls (FloatKind.f64.format.order t166 t169 == some .lt) t171 _ A9.out).mono ?_); rintro e w' ⟨rfl, ⟨nd, rfl⟩⟩; refine ⟨_, rfl, ?_⟩))
          go_ret
          exact ⟨by first | rfl | (simp; done) | (simp [*]; done) | (simp; exact (fun (l_ : List UInt8) => by cases l_ <;> rfl : ∀ l_ : List UInt8, l_.isEmpty = !(l_ != [])) _), by repeat (first | exact Drawn0.refl _ | apply Drawn0.step)⟩
        · replace c8 := Bool.eq_false_iff.mpr c8
          subst c8
          have H1 : (if (FloatKind.f64.format.order t166 0 == some .eq) = true then (if t167 = t170 then (some 0) else ((tabulariumref03_sign.f (decide (t167 < t170))).bind fun t172 => (some t172))) else (some 0)) = some r := by rw [if_neg (show ¬ (false = true) by decide)] at H; exact H
          clear H
          have H := H1
          clear H1
          by_cases c10 : (FloatKind.f64.format.order t166 0 == some .eq) = true
          · rw [if_pos c10] at H
            have c10b0 : (FloatKind.f64.format.order t166 0 == some .eq) = true := c10
            clear c10
            by_cases c11 : t167 = t170
            · rw [if_pos c11] at H
              have c11b0 : (t167 == t170) = true := beq_iff_eq.mpr c11
              have c11b1 : (t167 != t170) = false := bne_eq_false_iff_eq.mpr c11
              clear c11
              obtain rfl := Option.some.inj H
              go_wp2
              go_ret
              exact ⟨by first | rfl | (simp; done) | (simp [*]; done) | (simp; exact (fun (l_ : List UInt8) => by cases l_ <;> rfl : ∀ l_ : List UInt8, l_.isEmpty = !(l_ != [])) _), by repeat (first | exact Drawn0.refl _ | apply Drawn0.step)⟩
            · rw [if_neg c11] at H
              have c11b0 : (t167 == t170) = false := beq_eq_false_iff_ne.mpr c11
              have c11b1 : (t167 != t170) = true := bne_iff_ne.mpr c11
              replace H := Option.bind_eq_some_iff.mp H
              obtain ⟨t172, A120, H⟩ := H
              replace H : (some t172) = some r := H
              have A12 := Aside0.mk A120
              clear A120
              obtain rfl := Option.some.inj H
              go_wp2_with (first | ((with_reducible refine gate_callee (f := 37) rfl ?_); refine goesL_ (some 55) rfl rfl Try.func37 (by kernel_rfl) rfl #[.bool (decide (t167 < t170))] rfl (by (try simp only [List.map_toArray, List.map_cons, List.map_nil]); first | done | rfl | (simp only [List.length_drop, List.length_take]; rfl)) ?_; (with_reducible refine (tabulariumref03_sign.calls (decide (t167 < t170)) t172 _ A12.out).mono ?_); rintro e w' ⟨rfl, ⟨nd, rfl⟩⟩; refine ⟨_, rfl, ?_⟩))
              go_ret
              exact ⟨by first | rfl | (simp; done) | (simp [*]; done) | (simp; exact (fun (l_ : List UInt8) => by cases l_ <;> rfl : ∀ l_ : List UInt8, l_.isEmpty = !(l_ != [])) _), by repeat (first | exact Drawn0.refl _ | apply Drawn0.step)⟩
          · rw [if_neg c10] at H
            have c10b0 : (FloatKind.f64.format.order t166 0 == some .eq) = false := Bool.eq_false_iff.mpr c10
            clear c10
            obtain rfl := Option.some.inj H
            go_wp2
            go_ret
            exact ⟨by first | rfl | (simp; done) | (simp [*]; done) | (simp; exact (fun (l_ : List UInt8) => by cases l_ <;> rfl : ∀ l_ : List UInt8, l_.isEmpty = !(l_ != [])) _), by repeat (first | exact Drawn0.refl _ | apply Drawn0.step)⟩
  · rw [if_neg c5] at H
    have c5b0 : (t165 == t168) = false := beq_eq_false_iff_ne.mpr c5
    have c5b1 : (t165 != t168) = true := bne_iff_ne.mpr c5
    replace H := Option.bind_eq_some_iff.mp H
    obtain ⟨t173, A130, H⟩ := H
    replace H : (some t173) = some r := H
    have A13 := Aside0.mk A130
    clear A130
    obtain rfl := Option.some.inj H
    go_enter Try.func28, Try.ntmps28
    go_wp2_with (first | ((with_reducible refine gate_callee (f := 36) rfl ?_); refine goesL_ (some 13) rfl rfl Try.func36 (by kernel_rfl) rfl #[.float .f64 a0] rfl (by (try simp only [List.map_toArray, List.map_cons, List.map_nil]); first | done | rfl | (simp only [List.length_drop, List.length_take]; rfl)) ?_; (with_reducible refine (tabulariumref03_key.calls a0 t165 t166 t167 _ A3.out).mono ?_); rintro e w' ⟨rfl, ⟨nd, rfl⟩⟩; refine ⟨_, rfl, ?_⟩) | ((with_reducible refine gate_callee (f := 36) rfl ?_); refine goesL_ (some 19) rfl rfl Try.func36 (by kernel_rfl) rfl #[.float .f64 a1] rfl (by (try simp only [List.map_toArray, List.map_cons, List.map_nil]); first | done | rfl | (simp only [List.length_drop, List.length_take]; rfl)) ?_; (with_reducible refine (tabulariumref03_key.calls a1 t168 t169 t170 _ A4.out).mono ?_); rintro e w' ⟨rfl, ⟨nd, rfl⟩⟩; refine ⟨_, rfl, ?_⟩) | ((with_reducible refine gate_callee (f := 37) rfl ?_); refine goesL_ (some 30) rfl rfl Try.func37 (by kernel_rfl) rfl #[.bool (decide (t165 < t168))] rfl (by (try simp only [List.map_toArray, List.map_cons, List.map_nil]); first | done | rfl | (simp only [List.length_drop, List.length_take]; rfl)) ?_; (with_reducible refine (tabulariumref03_sign.calls (decide (t165 < t168)) t173 _ A13.out).mono ?_); rintro e w' ⟨rfl, ⟨nd, rfl⟩⟩; refine ⟨_, rfl, ?_⟩))
    go_ret
    exact ⟨by first | rfl | (simp; done) | (simp [*]; done) | (simp; exact (fun (l_ : List UInt8) => by cases l_ <;> rfl : ∀ l_ : List UInt8, l_.isEmpty = !(l_ != [])) _), by repeat (first | exact Drawn0.refl _ | apply Drawn0.step)⟩

end Go.Proofs.Ytnkihggdohigiaa.P
