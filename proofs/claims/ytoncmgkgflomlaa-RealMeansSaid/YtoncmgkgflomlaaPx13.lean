/- The Go functions of this seat as plain Lean functions, and for each the proof that its call gives what the plain function gives. Printed by a program of this session. -/
import Derived.Test.YtoncmgkgflomlaaPx0
import Derived.Test.YtoncmgkgflomlaaPx11
namespace Go.Proofs.Ytoncmgkgflomlaa.P
open Go.RowKit Go.Proofs.YtoncmgkgflomlaaW.PrintWords Go.Proofs.YtoncmgkgflomlaaW.PrintLast Go.Proofs.YtoncmgkgflomlaaW.PrintMore
attribute [local go_sem] max2_int min2_int max_two min_two max_three min_three max_four min_four   -- for this text's walks alone
set_option linter.unusedVariables false
set_option linter.unusedSimpArgs false

/-! ### tabulariumref03_Mean: function 22 -/
def tabulariumref03_Mean.l0 : Nat → List Nat → Nat → Int → Int → Option (Nat)
  | 0, _, _, _, _ => none
  | k + 1, x0, x3, x4, x5 => if x5 < (x0.length : Int) then (if 0 ≤ x5 then (if (FloatKind.f64.format.order (rdOf (0 : Nat) x0 x5) (rdOf (0 : Nat) x0 x5) == some .eq) = true then ((math_IsInf.f (rdOf (0 : Nat) x0 x5) 0).bind fun t162 => (if t162 = true then (tabulariumref03_Mean.l0 k x0 x3 x4 (wrap64 (x5 + 1))) else (if (FloatKind.f64.format.add x3 (rdOf (0 : Nat) x0 x5)).isSome = true then (tabulariumref03_Mean.l0 k x0 ((FloatKind.f64.format.add x3 (rdOf (0 : Nat) x0 x5)).getD 0) (wrap64 (x4 + 1)) (wrap64 (x5 + 1))) else (none)))) else (tabulariumref03_Mean.l0 k x0 x3 x4 (wrap64 (x5 + 1)))) else (none)) else (if x4 = 0 then (some 0) else (if (FloatKind.f64.format.order x3 x3 != some .eq) = true then (some 0) else ((math_IsInf.f x3 1).bind fun t164 => (if t164 = true then (some 9218868437227405311) else ((math_IsInf.f x3 (-1)).bind fun t165 => (if t165 = true then (some 18442240474082181119) else (if (FloatKind.f64.format.div x3 (floatOfInt .f64 x4)).isSome = true then (some ((FloatKind.f64.format.div x3 (floatOfInt .f64 x4)).getD 0)) else (none))))))))
def tabulariumref03_Mean.f (k : Nat) (l0 : List Nat) : Option (Nat) := tabulariumref03_Mean.l0 k l0 0 0 0
theorem tabulariumref03_Mean.mono_l : ∀ k, (∀ y0 y1 y2 y3, LeO (tabulariumref03_Mean.l0 k y0 y1 y2 y3) (tabulariumref03_Mean.l0 (k + 1) y0 y1 y2 y3))
  | 0 => fun _ _ _ _ r h => by simp [tabulariumref03_Mean.l0] at h
  | k + 1 => by
    have ih0 := tabulariumref03_Mean.mono_l k
    · intro y0 y1 y2 y3
      unfold tabulariumref03_Mean.l0
      repeat' first
      | (with_reducible exact ih0 _ _ _ _)
      | (with_reducible exact LeO.refl _)
      | (with_reducible exact LeO.none _)
      | (with_reducible refine LeO.ite ?_ ?_)
      | (with_reducible refine LeO.bind ?_ (fun _ => ?_))
      | exact ih0 _ _ _ _
      | exact LeO.none _
      | refine LeO.ite ?_ ?_
      | refine LeO.bind ?_ (fun _ => ?_)
theorem tabulariumref03_Mean.mono : ∀ a0 k, LeO (tabulariumref03_Mean.f k a0) (tabulariumref03_Mean.f (k + 1) a0) := by
  intro a0 k
  have ih0 := tabulariumref03_Mean.mono_l k
  unfold tabulariumref03_Mean.f
  repeat' first
      | (with_reducible exact ih0 _ _ _ _)
      | (with_reducible exact LeO.refl _)
      | (with_reducible exact LeO.none _)
      | (with_reducible refine LeO.ite ?_ ?_)
      | (with_reducible refine LeO.bind ?_ (fun _ => ?_))
      | exact ih0 _ _ _ _
      | exact LeO.none _
      | refine LeO.ite ?_ ?_
      | refine LeO.bind ?_ (fun _ => ?_)
set_option maxHeartbeats 8000000 in
set_option maxRecDepth 100000 in
theorem tabulariumref03_Mean.calls (k : Nat) (A0 : Option Addr) (c0 : Nat) (l0 : List Nat) (r : Nat) (w : World) (hr0 : Kd.C Kd.f64 w A0 l0.length l0) (hc0 : l0.length ≤ c0) (h : tabulariumref03_Mean.f k l0 = some r) :
    Calls Try.prog 22 #[.slice A0 l0.length c0] w fun e w' => e = .returned (.float .f64 r) ∧ Drawn0 w w' := by
  have HR0 := Aside0.mk hr0
  have HC0 := Aside0.mk hc0
  clear hr0 hc0
  have H : (tabulariumref03_Mean.l0 k l0 0 0 0) = some r := h
  clear h
  have H' := Aside0.mk H
  clear H
  go_enter Try.func22, Try.ntmps22
  go_wp2
  repeat (go_quiet (fail); try go_wp2)
  go_loopg [3, 4, 5] k (fun kq v3 v4 v5 w' => ∃ (x3_1 : Nat) (x4_1 : Int) (x5_1 : Int), v3 = .float .f64 x3_1 ∧ v4 = .int .i64 x4_1 ∧ v5 = .int .i64 x5_1 ∧ Aside0 (tabulariumref03_Mean.l0 kq l0 x3_1 x4_1 x5_1 = some r) ∧ Aside0 (kq ≤ k) ∧ Drawn0 w w')
  case atStart => exact ⟨(0), (0), (0), (by first | rfl | (simp; done) | (simp [*]; done)), (by first | rfl | (simp; done) | (simp [*]; done)), (by first | rfl | (simp; done) | (simp [*]; done)), H', ⟨Nat.le_refl _⟩, by repeat (first | exact Drawn0.refl _ | apply Drawn0.step)⟩
  case round =>
    clear H'
    obtain ⟨x3_1, x4_1, x5_1, rfl, rfl, rfl, HA, HK1, ⟨m1, rfl⟩⟩ := hrel
    cases gk with
    | zero => exact absurd HA.out (by simp [tabulariumref03_Mean.l0])
    | succ k1 =>
      have H := HA.out
      clear HA
      simp only [tabulariumref03_Mean.l0] at H
      by_cases c2 : x5_1 < (l0.length : Int)
      · rw [if_pos c2] at H
        have c2b0 : decide (x5_1 < (l0.length : Int)) = true := decide_eq_true c2
        clear c2
        by_cases c3 : 0 ≤ x5_1
        · rw [if_pos c3] at H
          have c3b0 : decide (0 ≤ x5_1) = true := decide_eq_true c3
          clear c3
          by_cases c4 : (FloatKind.f64.format.order (rdOf (0 : Nat) l0 x5_1) (rdOf (0 : Nat) l0 x5_1) == some .eq) = true
          · rw [if_pos c4] at H
            have c4b0 : (FloatKind.f64.format.order (rdOf (0 : Nat) l0 x5_1) (rdOf (0 : Nat) l0 x5_1) == some .eq) = true := c4
            clear c4
            replace H := Option.bind_eq_some_iff.mp H
            obtain ⟨t162, A50, H⟩ := H
            replace H : (if t162 = true then (tabulariumref03_Mean.l0 k1 l0 x3_1 x4_1 (wrap64 (x5_1 + 1))) else (if (FloatKind.f64.format.add x3_1 (rdOf (0 : Nat) l0 x5_1)).isSome = true then (tabulariumref03_Mean.l0 k1 l0 ((FloatKind.f64.format.add x3_1 (rdOf (0 : Nat) l0 x5_1)).getD 0) (wrap64 (x4_1 + 1)) (wrap64 (x5_1 + 1))) else (none))) = some r := H
            have A5 := Aside0.mk A50
            clear A50
            by_cases c6 : t162 = true
            · subst c6
              have H1 : (tabulariumref03_Mean.l0 k1 l0 x3_1 x4_1 (wrap64 (x5_1 + 1))) = some r := by rw [if_pos rfl] at H; exact H
              clear H
              have H := H1
              clear H1
              have H' := Aside0.mk H
              clear H
              have p159 : 0 ≤ (x5_1 : Int) := of_decide_eq_true (by first | (with_reducible assumption) | assumption)
              have q159 : x5_1 < (l0.length : Int) := of_decide_eq_true (by first | (with_reducible assumption) | assumption)
              obtain ⟨ad159, e159, hx159_0⟩ := Kd.at_f64 HR0.out x5_1 p159 q159
              cases e159
              replace p159 := eq_true p159
              replace q159 := eq_true q159
              have p160 : 0 ≤ (x5_1 : Int) := of_decide_eq_true (by first | (with_reducible assumption) | assumption)
              have q160 : x5_1 < (l0.length : Int) := of_decide_eq_true (by first | (with_reducible assumption) | assumption)
              obtain ⟨ad160, e160, hx160_0⟩ := Kd.at_f64 HR0.out x5_1 p160 q160
              obtain rfl : ad159 = ad160 := (by injection e160)
              replace p160 := eq_true p160
              replace q160 := eq_true q160
              have p161 : 0 ≤ (x5_1 : Int) := of_decide_eq_true (by first | (with_reducible assumption) | assumption)
              have q161 : x5_1 < (l0.length : Int) := of_decide_eq_true (by first | (with_reducible assumption) | assumption)
              obtain ⟨ad161, e161, hx161_0⟩ := Kd.at_f64 HR0.out x5_1 p161 q161
              obtain rfl : ad159 = ad161 := (by injection e161)
              replace p161 := eq_true p161
              replace q161 := eq_true q161
              go_wp2_with (first | (go_at_call 33; (with_reducible refine (math_IsInf.calls (rdOf (0 : Nat) l0 x5_1) 0 true _ A5.out).mono ?_); rintro e w' ⟨rfl, ⟨nd, rfl⟩⟩; (try first | exact ⟨rfl, _, World.drewN_drewN _ _ _⟩ | exact ⟨rfl, _, Eq.trans (World.drewN_drewN _ _ _) (congrArg (World.drewN _) (Nat.add_assoc _ _ _))⟩)))
              repeat (go_quiet (first | (go_at_call 33; (with_reducible refine (math_IsInf.calls (rdOf (0 : Nat) l0 x5_1) 0 true _ A5.out).mono ?_); rintro e w' ⟨rfl, ⟨nd, rfl⟩⟩; (try first | exact ⟨rfl, _, World.drewN_drewN _ _ _⟩ | exact ⟨rfl, _, Eq.trans (World.drewN_drewN _ _ _) (congrArg (World.drewN _) (Nat.add_assoc _ _ _))⟩))); try go_wp2_with (first | (go_at_call 33; (with_reducible refine (math_IsInf.calls (rdOf (0 : Nat) l0 x5_1) 0 true _ A5.out).mono ?_); rintro e w' ⟨rfl, ⟨nd, rfl⟩⟩; (try first | exact ⟨rfl, _, World.drewN_drewN _ _ _⟩ | exact ⟨rfl, _, Eq.trans (World.drewN_drewN _ _ _) (congrArg (World.drewN _) (Nat.add_assoc _ _ _))⟩))))
              go_roundg k1
              case measure => have := HK1.out; omega
              case rel => exact ⟨(x3_1), (x4_1), (wrap64 (x5_1 + 1)), (by first | rfl | (simp; done) | (simp [*]; done)), (by first | rfl | (simp; done) | (simp [*]; done)), (by first | rfl | (simp; done) | (simp [*]; done)), H', ⟨by have := HK1.out; omega⟩, by repeat (first | exact Drawn0.refl _ | apply Drawn0.step)⟩
            · replace c6 := Bool.eq_false_iff.mpr c6
              subst c6
              have H1 : (if (FloatKind.f64.format.add x3_1 (rdOf (0 : Nat) l0 x5_1)).isSome = true then (tabulariumref03_Mean.l0 k1 l0 ((FloatKind.f64.format.add x3_1 (rdOf (0 : Nat) l0 x5_1)).getD 0) (wrap64 (x4_1 + 1)) (wrap64 (x5_1 + 1))) else (none)) = some r := by rw [if_neg (show ¬ (false = true) by decide)] at H; exact H
              clear H
              have H := H1
              clear H1
              by_cases c7 : (FloatKind.f64.format.add x3_1 (rdOf (0 : Nat) l0 x5_1)).isSome = true
              · rw [if_pos c7] at H
                have c7b0 : ∀ (t_ : TypeId) (W_ : World), (binOp .add t_ (.float .f64 x3_1) (.float .f64 (rdOf (0 : Nat) l0 x5_1))).run Try.prog W_ = .ok (.float .f64 ((FloatKind.f64.format.add x3_1 (rdOf (0 : Nat) l0 x5_1)).getD 0)) W_ := fun t_ W_ => flt_add c7 t_ W_
                clear c7
                have H' := Aside0.mk H
                clear H
                have p159 : 0 ≤ (x5_1 : Int) := of_decide_eq_true (by first | (with_reducible assumption) | assumption)
                have q159 : x5_1 < (l0.length : Int) := of_decide_eq_true (by first | (with_reducible assumption) | assumption)
                obtain ⟨ad159, e159, hx159_0⟩ := Kd.at_f64 HR0.out x5_1 p159 q159
                cases e159
                replace p159 := eq_true p159
                replace q159 := eq_true q159
                have p160 : 0 ≤ (x5_1 : Int) := of_decide_eq_true (by first | (with_reducible assumption) | assumption)
                have q160 : x5_1 < (l0.length : Int) := of_decide_eq_true (by first | (with_reducible assumption) | assumption)
                obtain ⟨ad160, e160, hx160_0⟩ := Kd.at_f64 HR0.out x5_1 p160 q160
                obtain rfl : ad159 = ad160 := (by injection e160)
                replace p160 := eq_true p160
                replace q160 := eq_true q160
                have p161 : 0 ≤ (x5_1 : Int) := of_decide_eq_true (by first | (with_reducible assumption) | assumption)
                have q161 : x5_1 < (l0.length : Int) := of_decide_eq_true (by first | (with_reducible assumption) | assumption)
                obtain ⟨ad161, e161, hx161_0⟩ := Kd.at_f64 HR0.out x5_1 p161 q161
                obtain rfl : ad159 = ad161 := (by injection e161)
                replace p161 := eq_true p161
                replace q161 := eq_true q161
                go_wp2_with (first | (go_at_call 33; (with_reducible refine (math_IsInf.calls (rdOf (0 : Nat) l0 x5_1) 0 false _ A5.out).mono ?_); rintro e w' ⟨rfl, ⟨nd, rfl⟩⟩; (try first | exact ⟨rfl, _, World.drewN_drewN _ _ _⟩ | exact ⟨rfl, _, Eq.trans (World.drewN_drewN _ _ _) (congrArg (World.drewN _) (Nat.add_assoc _ _ _))⟩); have p163 : 0 ≤ (x5_1 : Int) := of_decide_eq_true (by first | (with_reducible assumption) | assumption); have q163 : x5_1 < (l0.length : Int) := of_decide_eq_true (by first | (with_reducible assumption) | assumption); obtain ⟨ad163, e163, hx163_0⟩ := Kd.at_f64 HR0.out x5_1 p163 q163; obtain rfl : ad159 = ad163 := (by injection e163); replace p163 := eq_true p163; replace q163 := eq_true q163))
                repeat (go_quiet (first | (go_at_call 33; (with_reducible refine (math_IsInf.calls (rdOf (0 : Nat) l0 x5_1) 0 false _ A5.out).mono ?_); rintro e w' ⟨rfl, ⟨nd, rfl⟩⟩; (try first | exact ⟨rfl, _, World.drewN_drewN _ _ _⟩ | exact ⟨rfl, _, Eq.trans (World.drewN_drewN _ _ _) (congrArg (World.drewN _) (Nat.add_assoc _ _ _))⟩); have p163 : 0 ≤ (x5_1 : Int) := of_decide_eq_true (by first | (with_reducible assumption) | assumption); have q163 : x5_1 < (l0.length : Int) := of_decide_eq_true (by first | (with_reducible assumption) | assumption); obtain ⟨ad163, e163, hx163_0⟩ := Kd.at_f64 HR0.out x5_1 p163 q163; obtain rfl : ad159 = ad163 := (by injection e163); replace p163 := eq_true p163; replace q163 := eq_true q163)); try go_wp2_with (first | (go_at_call 33; (with_reducible refine (math_IsInf.calls (rdOf (0 : Nat) l0 x5_1) 0 false _ A5.out).mono ?_); rintro e w' ⟨rfl, ⟨nd, rfl⟩⟩; (try first | exact ⟨rfl, _, World.drewN_drewN _ _ _⟩ | exact ⟨rfl, _, Eq.trans (World.drewN_drewN _ _ _) (congrArg (World.drewN _) (Nat.add_assoc _ _ _))⟩); have p163 : 0 ≤ (x5_1 : Int) := of_decide_eq_true (by first | (with_reducible assumption) | assumption); have q163 : x5_1 < (l0.length : Int) := of_decide_eq_true (by first | (with_reducible assumption) | assumption); obtain ⟨ad163, e163, hx163_0⟩ := Kd.at_f64 HR0.out x5_1 p163 q163; obtain rfl : ad159 = ad163 := (by injection e163); replace p163 := eq_true p163; replace q163 := eq_true q163)))
                go_roundg k1
                case measure => have := HK1.out; omega
                case rel => exact ⟨((FloatKind.f64.format.add x3_1 (rdOf (0 : Nat) l0 x5_1)).getD 0), (wrap64 (x4_1 + 1)), (wrap64 (x5_1 + 1)), (by first | rfl | (simp; done) | (simp [*]; done)), (by first | rfl | (simp; done) | (simp [*]; done)), (by first | rfl | (simp; done) | (simp [*]; done)), H', ⟨by have := HK1.out; omega⟩, by repeat (first | exact Drawn0.refl _ | apply Drawn0.step)⟩
              · rw [if_neg c7] at H
                exact absurd H (by simp)
          · rw [if_neg c4] at H
            have c4b0 : (FloatKind.f64.format.order (rdOf (0 : Nat) l0 x5_1) (rdOf (0 : Nat) l0 x5_1) == some .eq) = false := Bool.eq_false_iff.mpr c4
            clear c4
            have H' := Aside0.mk H
            clear H
            have p159 : 0 ≤ (x5_1 : Int) := of_decide_eq_true (by first | (with_reducible assumption) | assumption)
            have q159 : x5_1 < (l0.length : Int) := of_decide_eq_true (by first | (with_reducible assumption) | assumption)
            obtain ⟨ad159, e159, hx159_0⟩ := Kd.at_f64 HR0.out x5_1 p159 q159
            cases e159
            replace p159 := eq_true p159
            replace q159 := eq_true q159
            have p160 : 0 ≤ (x5_1 : Int) := of_decide_eq_true (by first | (with_reducible assumption) | assumption)
            have q160 : x5_1 < (l0.length : Int) := of_decide_eq_true (by first | (with_reducible assumption) | assumption)
            obtain ⟨ad160, e160, hx160_0⟩ := Kd.at_f64 HR0.out x5_1 p160 q160
            obtain rfl : ad159 = ad160 := (by injection e160)
            replace p160 := eq_true p160
            replace q160 := eq_true q160
            go_wp2
            repeat (go_quiet (fail); try go_wp2)
            go_roundg k1
            case measure => have := HK1.out; omega
            case rel => exact ⟨(x3_1), (x4_1), (wrap64 (x5_1 + 1)), (by first | rfl | (simp; done) | (simp [*]; done)), (by first | rfl | (simp; done) | (simp [*]; done)), (by first | rfl | (simp; done) | (simp [*]; done)), H', ⟨by have := HK1.out; omega⟩, by repeat (first | exact Drawn0.refl _ | apply Drawn0.step)⟩
        · rw [if_neg c3] at H
          exact absurd H (by simp)
      · rw [if_neg c2] at H
        have c2b0 : decide (x5_1 < (l0.length : Int)) = false := decide_eq_false c2
        clear c2
        by_cases c8 : x4_1 = 0
        · rw [if_pos c8] at H
          have c8b0 : (x4_1 == 0) = true := beq_iff_eq.mpr c8
          have c8b1 : (x4_1 != 0) = false := bne_eq_false_iff_eq.mpr c8
          clear c8
          obtain rfl := Option.some.inj H
          go_wp2
          repeat (go_quiet (fail); try go_wp2)
          go_ret
          exact ⟨by first | rfl | (simp; done) | (simp [*]; done), by repeat (first | exact Drawn0.refl _ | apply Drawn0.step)⟩
        · rw [if_neg c8] at H
          have c8b0 : (x4_1 == 0) = false := beq_eq_false_iff_ne.mpr c8
          have c8b1 : (x4_1 != 0) = true := bne_iff_ne.mpr c8
          by_cases c9 : (FloatKind.f64.format.order x3_1 x3_1 != some .eq) = true
          · rw [if_pos c9] at H
            have c9b0 : (FloatKind.f64.format.order x3_1 x3_1 != some .eq) = true := c9
            clear c9
            obtain rfl := Option.some.inj H
            go_wp2
            repeat (go_quiet (fail); try go_wp2)
            go_ret
            exact ⟨by first | rfl | (simp; done) | (simp [*]; done), by repeat (first | exact Drawn0.refl _ | apply Drawn0.step)⟩
          · rw [if_neg c9] at H
            have c9b0 : (FloatKind.f64.format.order x3_1 x3_1 != some .eq) = false := Bool.eq_false_iff.mpr c9
            clear c9
            replace H := Option.bind_eq_some_iff.mp H
            obtain ⟨t164, A100, H⟩ := H
            replace H : (if t164 = true then (some 9218868437227405311) else ((math_IsInf.f x3_1 (-1)).bind fun t165 => (if t165 = true then (some 18442240474082181119) else (if (FloatKind.f64.format.div x3_1 (floatOfInt .f64 x4_1)).isSome = true then (some ((FloatKind.f64.format.div x3_1 (floatOfInt .f64 x4_1)).getD 0)) else (none))))) = some r := H
            have A10 := Aside0.mk A100
            clear A100
            by_cases c11 : t164 = true
            · subst c11
              have H1 : (some 9218868437227405311) = some r := by rw [if_pos rfl] at H; exact H
              clear H
              have H := H1
              clear H1
              obtain rfl := Option.some.inj H
              go_wp2_with (first | (go_at_call 33; (with_reducible refine (math_IsInf.calls x3_1 1 true _ A10.out).mono ?_); rintro e w' ⟨rfl, ⟨nd, rfl⟩⟩; (try first | exact ⟨rfl, _, World.drewN_drewN _ _ _⟩ | exact ⟨rfl, _, Eq.trans (World.drewN_drewN _ _ _) (congrArg (World.drewN _) (Nat.add_assoc _ _ _))⟩)))
              repeat (go_quiet (first | (go_at_call 33; (with_reducible refine (math_IsInf.calls x3_1 1 true _ A10.out).mono ?_); rintro e w' ⟨rfl, ⟨nd, rfl⟩⟩; (try first | exact ⟨rfl, _, World.drewN_drewN _ _ _⟩ | exact ⟨rfl, _, Eq.trans (World.drewN_drewN _ _ _) (congrArg (World.drewN _) (Nat.add_assoc _ _ _))⟩))); try go_wp2_with (first | (go_at_call 33; (with_reducible refine (math_IsInf.calls x3_1 1 true _ A10.out).mono ?_); rintro e w' ⟨rfl, ⟨nd, rfl⟩⟩; (try first | exact ⟨rfl, _, World.drewN_drewN _ _ _⟩ | exact ⟨rfl, _, Eq.trans (World.drewN_drewN _ _ _) (congrArg (World.drewN _) (Nat.add_assoc _ _ _))⟩))))
              go_ret
              exact ⟨by first | rfl | (simp; done) | (simp [*]; done), by repeat (first | exact Drawn0.refl _ | apply Drawn0.step)⟩
            · replace c11 := Bool.eq_false_iff.mpr c11
              subst c11
              have H1 : ((math_IsInf.f x3_1 (-1)).bind fun t165 => (if t165 = true then (some 18442240474082181119) else (if (FloatKind.f64.format.div x3_1 (floatOfInt .f64 x4_1)).isSome = true then (some ((FloatKind.f64.format.div x3_1 (floatOfInt .f64 x4_1)).getD 0)) else (none)))) = some r := by rw [if_neg (show ¬ (false = true) by decide)] at H; exact H
              clear H
              have H := H1
              clear H1
              replace H := Option.bind_eq_some_iff.mp H
              obtain ⟨t165, A120, H⟩ := H
              replace H : (if t165 = true then (some 18442240474082181119) else (if (FloatKind.f64.format.div x3_1 (floatOfInt .f64 x4_1)).isSome = true then (some ((FloatKind.f64.format.div x3_1 (floatOfInt .f64 x4_1)).getD 0)) else (none))) = some r := H
              have A12 := Aside0.mk A120
              clear A120
              by_cases c13 : t165 = true
              · subst c13
                have H1 : (some 18442240474082181119) = some r := by rw [if_pos rfl] at H; exact H
                clear H
                have H := H1
                clear H1
                obtain rfl := Option.some.inj H
                go_wp2_with (first | (go_at_call 33; (with_reducible refine (math_IsInf.calls x3_1 1 false _ A10.out).mono ?_); rintro e w' ⟨rfl, ⟨nd, rfl⟩⟩; (try first | exact ⟨rfl, _, World.drewN_drewN _ _ _⟩ | exact ⟨rfl, _, Eq.trans (World.drewN_drewN _ _ _) (congrArg (World.drewN _) (Nat.add_assoc _ _ _))⟩)) | (go_at_call 33; (with_reducible refine (math_IsInf.calls x3_1 (-1) true _ A12.out).mono ?_); rintro e w' ⟨rfl, ⟨nd, rfl⟩⟩; (try first | exact ⟨rfl, _, World.drewN_drewN _ _ _⟩ | exact ⟨rfl, _, Eq.trans (World.drewN_drewN _ _ _) (congrArg (World.drewN _) (Nat.add_assoc _ _ _))⟩)))
                repeat (go_quiet (first | (go_at_call 33; (with_reducible refine (math_IsInf.calls x3_1 1 false _ A10.out).mono ?_); rintro e w' ⟨rfl, ⟨nd, rfl⟩⟩; (try first | exact ⟨rfl, _, World.drewN_drewN _ _ _⟩ | exact ⟨rfl, _, Eq.trans (World.drewN_drewN _ _ _) (congrArg (World.drewN _) (Nat.add_assoc _ _ _))⟩)) | (go_at_call 33; (with_reducible refine (math_IsInf.calls x3_1 (-1) true _ A12.out).mono ?_); rintro e w' ⟨rfl, ⟨nd, rfl⟩⟩; (try first | exact ⟨rfl, _, World.drewN_drewN _ _ _⟩ | exact ⟨rfl, _, Eq.trans (World.drewN_drewN _ _ _) (congrArg (World.drewN _) (Nat.add_assoc _ _ _))⟩))); try go_wp2_with (first | (go_at_call 33; (with_reducible refine (math_IsInf.calls x3_1 1 false _ A10.out).mono ?_); rintro e w' ⟨rfl, ⟨nd, rfl⟩⟩; (try first | exact ⟨rfl, _, World.drewN_drewN _ _ _⟩ | exact ⟨rfl, _, Eq.trans (World.drewN_drewN _ _ _) (congrArg (World.drewN _) (Nat.add_assoc _ _ _))⟩)) | (go_at_call 33; (with_reducible refine (math_IsInf.calls x3_1 (-1) true _ A12.out).mono ?_); rintro e w' ⟨rfl, ⟨nd, rfl⟩⟩; (try first | exact ⟨rfl, _, World.drewN_drewN _ _ _⟩ | exact ⟨rfl, _, Eq.trans (World.drewN_drewN _ _ _) (congrArg (World.drewN _) (Nat.add_assoc _ _ _))⟩))))
                go_ret
                exact ⟨by first | rfl | (simp; done) | (simp [*]; done), by repeat (first | exact Drawn0.refl _ | apply Drawn0.step)⟩
              · replace c13 := Bool.eq_false_iff.mpr c13
                subst c13
                have H1 : (if (FloatKind.f64.format.div x3_1 (floatOfInt .f64 x4_1)).isSome = true then (some ((FloatKind.f64.format.div x3_1 (floatOfInt .f64 x4_1)).getD 0)) else (none)) = some r := by rw [if_neg (show ¬ (false = true) by decide)] at H; exact H
                clear H
                have H := H1
                clear H1
                by_cases c14 : (FloatKind.f64.format.div x3_1 (floatOfInt .f64 x4_1)).isSome = true
                · rw [if_pos c14] at H
                  have c14b0 : ∀ (t_ : TypeId) (W_ : World), (binOp .quo t_ (.float .f64 x3_1) (.float .f64 (floatOfInt .f64 x4_1))).run Try.prog W_ = .ok (.float .f64 ((FloatKind.f64.format.div x3_1 (floatOfInt .f64 x4_1)).getD 0)) W_ := fun t_ W_ => flt_div c14 t_ W_
                  clear c14
                  obtain rfl := Option.some.inj H
                  go_wp2_with (first | (go_at_call 33; (with_reducible refine (math_IsInf.calls x3_1 1 false _ A10.out).mono ?_); rintro e w' ⟨rfl, ⟨nd, rfl⟩⟩; (try first | exact ⟨rfl, _, World.drewN_drewN _ _ _⟩ | exact ⟨rfl, _, Eq.trans (World.drewN_drewN _ _ _) (congrArg (World.drewN _) (Nat.add_assoc _ _ _))⟩)) | (go_at_call 33; (with_reducible refine (math_IsInf.calls x3_1 (-1) false _ A12.out).mono ?_); rintro e w' ⟨rfl, ⟨nd, rfl⟩⟩; (try first | exact ⟨rfl, _, World.drewN_drewN _ _ _⟩ | exact ⟨rfl, _, Eq.trans (World.drewN_drewN _ _ _) (congrArg (World.drewN _) (Nat.add_assoc _ _ _))⟩)))
                  repeat (go_quiet (first | (go_at_call 33; (with_reducible refine (math_IsInf.calls x3_1 1 false _ A10.out).mono ?_); rintro e w' ⟨rfl, ⟨nd, rfl⟩⟩; (try first | exact ⟨rfl, _, World.drewN_drewN _ _ _⟩ | exact ⟨rfl, _, Eq.trans (World.drewN_drewN _ _ _) (congrArg (World.drewN _) (Nat.add_assoc _ _ _))⟩)) | (go_at_call 33; (with_reducible refine (math_IsInf.calls x3_1 (-1) false _ A12.out).mono ?_); rintro e w' ⟨rfl, ⟨nd, rfl⟩⟩; (try first | exact ⟨rfl, _, World.drewN_drewN _ _ _⟩ | exact ⟨rfl, _, Eq.trans (World.drewN_drewN _ _ _) (congrArg (World.drewN _) (Nat.add_assoc _ _ _))⟩))); try go_wp2_with (first | (go_at_call 33; (with_reducible refine (math_IsInf.calls x3_1 1 false _ A10.out).mono ?_); rintro e w' ⟨rfl, ⟨nd, rfl⟩⟩; (try first | exact ⟨rfl, _, World.drewN_drewN _ _ _⟩ | exact ⟨rfl, _, Eq.trans (World.drewN_drewN _ _ _) (congrArg (World.drewN _) (Nat.add_assoc _ _ _))⟩)) | (go_at_call 33; (with_reducible refine (math_IsInf.calls x3_1 (-1) false _ A12.out).mono ?_); rintro e w' ⟨rfl, ⟨nd, rfl⟩⟩; (try first | exact ⟨rfl, _, World.drewN_drewN _ _ _⟩ | exact ⟨rfl, _, Eq.trans (World.drewN_drewN _ _ _) (congrArg (World.drewN _) (Nat.add_assoc _ _ _))⟩))))
                  go_ret
                  exact ⟨by first | rfl | (simp; done) | (simp [*]; done), by repeat (first | exact Drawn0.refl _ | apply Drawn0.step)⟩
                · rw [if_neg c14] at H
                  exact absurd H (by simp)

end Go.Proofs.Ytoncmgkgflomlaa.P
