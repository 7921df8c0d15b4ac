/- The Go functions of this seat as plain Lean functions, and for each the proof that its call gives what the plain function gives. Printed by a program of this session. -/
import Derived.Test.YtoncmgkgflomlaaPx0
namespace Go.Proofs.Ytoncmgkgflomlaa.P
open Go.RowKit Go.Proofs.YtoncmgkgflomlaaW.PrintWords Go.Proofs.YtoncmgkgflomlaaW.PrintLast Go.Proofs.YtoncmgkgflomlaaW.PrintMore
attribute [local go_sem] max2_int min2_int max_two min_two max_three min_three max_four min_four   -- for this text's walks alone
set_option linter.unusedVariables false
set_option linter.unusedSimpArgs false

/-! ### tabulariumref03_Share: function 20 -/
def tabulariumref03_Share.j0 : Nat → Nat → Nat → Bool → Option (Nat)
  | 0, _, _, _ => none
  | k + 1, x0, x1, x5 => if x5 = true then (some 4607182418800017408) else (if (FloatKind.f64.format.order x0 0 == some .gt) = true then (if (FloatKind.f64.format.order x0 x1 == some .lt) = true then (if (FloatKind.f64.format.div x0 x1).isSome = true then (some ((FloatKind.f64.format.div x0 x1).getD 0)) else (none)) else (some 4607182418800017408)) else (some 0))
def tabulariumref03_Share.f (k : Nat) (a0 : Nat) (a1 : Nat) : Option (Nat) := if (FloatKind.f64.format.order a0 a0 != some .eq) = true then (tabulariumref03_Share.j0 k a0 a1 true) else (if (FloatKind.f64.format.order a1 a1 != some .eq) = true then (tabulariumref03_Share.j0 k a0 a1 true) else (tabulariumref03_Share.j0 k a0 a1 (!(FloatKind.f64.format.order a1 0 == some .gt))))
theorem tabulariumref03_Share.mono_l : ∀ k, (∀ y0 y1 y2, LeO (tabulariumref03_Share.j0 k y0 y1 y2) (tabulariumref03_Share.j0 (k + 1) y0 y1 y2))
  | 0 => fun _ _ _ r h => by simp [tabulariumref03_Share.j0] at h
  | k + 1 => by
    have ih0 := tabulariumref03_Share.mono_l k
    · intro y0 y1 y2
      unfold tabulariumref03_Share.j0
      repeat' first
      | (with_reducible exact ih0 _ _ _)
      | (with_reducible exact LeO.refl _)
      | (with_reducible exact LeO.none _)
      | (with_reducible refine LeO.ite ?_ ?_)
      | (with_reducible refine LeO.bind ?_ (fun _ => ?_))
      | exact ih0 _ _ _
      | exact LeO.none _
      | refine LeO.ite ?_ ?_
      | refine LeO.bind ?_ (fun _ => ?_)
theorem tabulariumref03_Share.mono : ∀ a0 a1 k, LeO (tabulariumref03_Share.f k a0 a1) (tabulariumref03_Share.f (k + 1) a0 a1) := by
  intro a0 a1 k
  have ih0 := tabulariumref03_Share.mono_l k
  unfold tabulariumref03_Share.f
  repeat' first
      | (with_reducible exact ih0 _ _ _)
      | (with_reducible exact LeO.refl _)
      | (with_reducible exact LeO.none _)
      | (with_reducible refine LeO.ite ?_ ?_)
      | (with_reducible refine LeO.bind ?_ (fun _ => ?_))
      | exact ih0 _ _ _
      | exact LeO.none _
      | refine LeO.ite ?_ ?_
      | refine LeO.bind ?_ (fun _ => ?_)
set_option maxHeartbeats 8000000 in
set_option maxRecDepth 100000 in
theorem tabulariumref03_Share.calls (k : Nat) (a0 : Nat) (a1 : Nat) (r : Nat) (w : World) (h : tabulariumref03_Share.f k a0 a1 = some r) :
    Calls Try.prog 20 #[.float .f64 a0, .float .f64 a1] w fun e w' => e = .returned (.float .f64 r) ∧ Drawn0 w w' := by
  have H : (if (FloatKind.f64.format.order a0 a0 != some .eq) = true then (tabulariumref03_Share.j0 k a0 a1 true) else (if (FloatKind.f64.format.order a1 a1 != some .eq) = true then (tabulariumref03_Share.j0 k a0 a1 true) else (tabulariumref03_Share.j0 k a0 a1 (!(FloatKind.f64.format.order a1 0 == some .gt))))) = some r := h
  clear h
  have HC3 := Aside0.mk H
  clear H
  go_enter Try.func20, Try.ntmps20
  go_upto_region 1 with (fail)
  go_cut [5] (fun v5 wc => ∃ (kq : Nat) (x5_2 : Bool), v5 = .bool x5_2 ∧ Aside0 (tabulariumref03_Share.j0 kq a0 a1 x5_2 = some r) ∧ Aside0 (kq ≤ k) ∧ Drawn0 w wc)
  case first =>
    have H := HC3.out
    clear HC3
    by_cases c4 : (FloatKind.f64.format.order a0 a0 != some .eq) = true
    · rw [if_pos c4] at H
      have c4b0 : (FloatKind.f64.format.order a0 a0 != some .eq) = true := c4
      clear c4
      (first | rw [c4b0] | (simp only [i64_w, i32_w]; rw [c4b0]) | skip)
      have H' := Aside0.mk H
      clear H
      go_wp2
      go_meet
      case rel => exact ⟨_, (true), (by first | rfl | (simp; done) | (simp [*]; done)), H', ⟨by first | omega | exact Nat.le_refl _⟩, by repeat (first | exact Drawn0.refl _ | apply Drawn0.step)⟩
    · rw [if_neg c4] at H
      have c4b0 : (FloatKind.f64.format.order a0 a0 != some .eq) = false := Bool.eq_false_iff.mpr c4
      clear c4
      (first | rw [c4b0] | (simp only [i64_w, i32_w]; rw [c4b0]) | skip)
      by_cases c5 : (FloatKind.f64.format.order a1 a1 != some .eq) = true
      · rw [if_pos c5] at H
        have c5b0 : (FloatKind.f64.format.order a1 a1 != some .eq) = true := c5
        clear c5
        have H' := Aside0.mk H
        clear H
        go_wp2
        go_meet
        case rel => exact ⟨_, (true), (by first | rfl | (simp; done) | (simp [*]; done)), H', ⟨by first | omega | exact Nat.le_refl _⟩, by repeat (first | exact Drawn0.refl _ | apply Drawn0.step)⟩
      · rw [if_neg c5] at H
        have c5b0 : (FloatKind.f64.format.order a1 a1 != some .eq) = false := Bool.eq_false_iff.mpr c5
        clear c5
        have H' := Aside0.mk H
        clear H
        go_wp2
        go_meet
        case rel => exact ⟨_, (!(FloatKind.f64.format.order a1 0 == some .gt)), (by first | rfl | (simp; done) | (simp [*]; done)), H', ⟨by first | omega | exact Nat.le_refl _⟩, by repeat (first | exact Drawn0.refl _ | apply Drawn0.step)⟩
  case rest =>
    clear HC3
    try clear c2
    try clear p2
    try clear c4
    try clear c4b0
    try clear c5
    try clear c5b0
    obtain ⟨kq, x5_2, rfl, HA, HJ2, ⟨mc2, rfl⟩⟩ := hcut
    cases kq with
    | zero => exact absurd HA.out (by simp [tabulariumref03_Share.j0])
    | succ kj2 =>
      have H := HA.out
      clear HA
      simp only [tabulariumref03_Share.j0] at H
      by_cases c6 : x5_2 = true
      · subst c6
        have H1 : (some 4607182418800017408) = some r := by rw [if_pos rfl] at H; exact H
        clear H
        have H := H1
        clear H1
        obtain rfl := Option.some.inj H
        go_wp2
        go_ret
        exact ⟨by first | rfl | (simp; done) | (simp [*]; done), by repeat (first | exact Drawn0.refl _ | apply Drawn0.step)⟩
      · replace c6 := Bool.eq_false_iff.mpr c6
        subst c6
        have H1 : (if (FloatKind.f64.format.order a0 0 == some .gt) = true then (if (FloatKind.f64.format.order a0 a1 == some .lt) = true then (if (FloatKind.f64.format.div a0 a1).isSome = true then (some ((FloatKind.f64.format.div a0 a1).getD 0)) else (none)) else (some 4607182418800017408)) else (some 0)) = some r := by rw [if_neg (show ¬ (false = true) by decide)] at H; exact H
        clear H
        have H := H1
        clear H1
        by_cases c7 : (FloatKind.f64.format.order a0 0 == some .gt) = true
        · rw [if_pos c7] at H
          have c7b0 : (FloatKind.f64.format.order a0 0 == some .gt) = true := c7
          clear c7
          by_cases c8 : (FloatKind.f64.format.order a0 a1 == some .lt) = true
          · rw [if_pos c8] at H
            have c8b0 : (FloatKind.f64.format.order a0 a1 == some .lt) = true := c8
            clear c8
            by_cases c9 : (FloatKind.f64.format.div a0 a1).isSome = true
            · rw [if_pos c9] at H
              have c9b0 : ∀ (t_ : TypeId) (W_ : World), (binOp .quo t_ (.float .f64 a0) (.float .f64 a1)).run Try.prog W_ = .ok (.float .f64 ((FloatKind.f64.format.div a0 a1).getD 0)) W_ := fun t_ W_ => flt_div c9 t_ W_
              clear c9
              obtain rfl := Option.some.inj H
              go_wp2
              go_ret
              exact ⟨by first | rfl | (simp; done) | (simp [*]; done), by repeat (first | exact Drawn0.refl _ | apply Drawn0.step)⟩
            · rw [if_neg c9] at H
              exact absurd H (by simp)
          · rw [if_neg c8] at H
            have c8b0 : (FloatKind.f64.format.order a0 a1 == some .lt) = false := Bool.eq_false_iff.mpr c8
            clear c8
            obtain rfl := Option.some.inj H
            go_wp2
            go_ret
            exact ⟨by first | rfl | (simp; done) | (simp [*]; done), by repeat (first | exact Drawn0.refl _ | apply Drawn0.step)⟩
        · rw [if_neg c7] at H
          have c7b0 : (FloatKind.f64.format.order a0 0 == some .gt) = false := Bool.eq_false_iff.mpr c7
          clear c7
          obtain rfl := Option.some.inj H
          go_wp2
          go_ret
          exact ⟨by first | rfl | (simp; done) | (simp [*]; done), by repeat (first | exact Drawn0.refl _ | apply Drawn0.step)⟩

end Go.Proofs.Ytoncmgkgflomlaa.P
