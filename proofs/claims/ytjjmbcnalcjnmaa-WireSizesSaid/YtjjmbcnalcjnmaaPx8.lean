/- The Go functions of this seat as plain Lean functions, and for each the proof that its call gives what the plain function gives. Printed by a program of this session. -/
import Derived.Test.YtjjmbcnalcjnmaaPx0
import Derived.Test.YtjjmbcnalcjnmaaPx2
import Derived.Test.YtjjmbcnalcjnmaaPx3
namespace Go.Proofs.Ytjjmbcnalcjnmaa.P
open Go.RowKit Go.Proofs.YtjjmbcnalcjnmaaW.PrintWords Go.Proofs.YtjjmbcnalcjnmaaW.PrintLast Go.Proofs.YtjjmbcnalcjnmaaW.PrintMore
attribute [local go_sem] max2_int min2_int max_two min_two max_three min_three max_four min_four   -- for this text's walks alone
set_option linter.unusedVariables false
set_option linter.unusedSimpArgs false

/-! ### tabulariumlaw01_WireSizes: function 5 -/
def tabulariumlaw01_WireSizes.j0 : Nat → Int → Int → Bool → Option (Bool)
  | 0, _, _, _ => none
  | k + 1, x0, x1, x5 => if 0 ≤ (wrap64 (6 + (wrap64 (7 * (Int.tmod x1 9))))) then (if x5 = true then ((wire_Num.f k x0).bind fun t141 => ((wire_Num.f k (wrap64 (-(wrap64 (x0 + 1))))).bind fun t142 => (if (t141.size : Int) = (t142.size : Int) then ((wire_Num.f k (wrap64 ((shl .i64 1 (wrap64 (6 + (wrap64 (7 * (Int.tmod x1 9)))))) - 1))).bind fun t143 => (if (t143.size : Int) = (wrap64 ((Int.tmod x1 9) + 1)) then ((wire_Num.f k (shl .i64 1 (wrap64 (6 + (wrap64 (7 * (Int.tmod x1 9))))))).bind fun t144 => (if (t144.size : Int) = (wrap64 ((Int.tmod x1 9) + 2)) then ((wire_Num.f k (wrap64 (-(shl .i64 1 (wrap64 (6 + (wrap64 (7 * (Int.tmod x1 9))))))))).bind fun t145 => (if (t145.size : Int) = (wrap64 ((Int.tmod x1 9) + 1)) then ((wire_Num.f k (wrap64 ((wrap64 (-(shl .i64 1 (wrap64 (6 + (wrap64 (7 * (Int.tmod x1 9)))))))) - 1))).bind fun t146 => (some ((t146.size : Int) == (wrap64 ((Int.tmod x1 9) + 2))))) else (some false))) else (some false))) else (some false))) else (some false)))) else (some false)) else (none)
def tabulariumlaw01_WireSizes.f (k : Nat) (a0 : Int) (a1 : Int) : Option (Bool) := (tabulariumlaw01_examples.f k).bind fun t140 => (if a1 < 0 then (tabulariumlaw01_WireSizes.j0 k a0 (wrap64 (-(wrap64 (a1 + 1)))) t140) else (tabulariumlaw01_WireSizes.j0 k a0 a1 t140))
theorem tabulariumlaw01_WireSizes.mono_l : ∀ k, (∀ y0 y1 y2, LeO (tabulariumlaw01_WireSizes.j0 k y0 y1 y2) (tabulariumlaw01_WireSizes.j0 (k + 1) y0 y1 y2))
  | 0 => fun _ _ _ r h => by simp [tabulariumlaw01_WireSizes.j0] at h
  | k + 1 => by
    have ih0 := tabulariumlaw01_WireSizes.mono_l k
    · intro y0 y1 y2
      unfold tabulariumlaw01_WireSizes.j0
      repeat' first
      | (with_reducible exact ih0 _ _ _)
      | (with_reducible exact tabulariumlaw01_examples.mono _)
      | (with_reducible exact wire_Num.mono _ _)
      | (with_reducible exact LeO.refl _)
      | (with_reducible exact LeO.none _)
      | (with_reducible refine LeO.ite ?_ ?_)
      | (with_reducible refine LeO.bind ?_ (fun _ => ?_))
      | exact ih0 _ _ _
      | exact tabulariumlaw01_examples.mono _
      | exact wire_Num.mono _ _
      | exact LeO.none _
      | refine LeO.ite ?_ ?_
      | refine LeO.bind ?_ (fun _ => ?_)
theorem tabulariumlaw01_WireSizes.mono : ∀ a0 a1 k, LeO (tabulariumlaw01_WireSizes.f k a0 a1) (tabulariumlaw01_WireSizes.f (k + 1) a0 a1) := by
  intro a0 a1 k
  have ih0 := tabulariumlaw01_WireSizes.mono_l k
  unfold tabulariumlaw01_WireSizes.f
  repeat' first
      | (with_reducible exact ih0 _ _ _)
      | (with_reducible exact tabulariumlaw01_examples.mono _)
      | (with_reducible exact wire_Num.mono _ _)
      | (with_reducible exact LeO.refl _)
      | (with_reducible exact LeO.none _)
      | (with_reducible refine LeO.ite ?_ ?_)
      | (with_reducible refine LeO.bind ?_ (fun _ => ?_))
      | exact ih0 _ _ _
      | exact tabulariumlaw01_examples.mono _
      | exact wire_Num.mono _ _
      | exact LeO.none _
      | refine LeO.ite ?_ ?_
      | refine LeO.bind ?_ (fun _ => ?_)
set_option maxHeartbeats 8000000 in
set_option maxRecDepth 100000 in
theorem tabulariumlaw01_WireSizes.calls (k : Nat) (a0 : Int) (a1 : Int) (r : Bool) (w : World) (h : tabulariumlaw01_WireSizes.f k a0 a1 = some r) :
    Calls Try.prog 5 #[.int .i64 a0, .int .i64 a1] w fun e w' => e = .returned (.bool r) ∧ Below w.heap.size w w' := by
  have HB := Aside0.mk (Below.refl w.heap.size w)
  have H : ((tabulariumlaw01_examples.f k).bind fun t140 => (if a1 < 0 then (tabulariumlaw01_WireSizes.j0 k a0 (wrap64 (-(wrap64 (a1 + 1)))) t140) else (tabulariumlaw01_WireSizes.j0 k a0 a1 t140))) = some r := h
  clear h
  replace H := Option.bind_eq_some_iff.mp H
  obtain ⟨t140, A30, H⟩ := H
  replace H : (if a1 < 0 then (tabulariumlaw01_WireSizes.j0 k a0 (wrap64 (-(wrap64 (a1 + 1)))) t140) else (tabulariumlaw01_WireSizes.j0 k a0 a1 t140)) = some r := H
  have A3 := Aside0.mk A30
  clear A30
  have HC4 := Aside0.mk H
  clear H
  go_enter Try.func5, Try.ntmps5
  go_upto_if 9 with (first | ((with_reducible refine gate_callee (f := 12) rfl ?_); refine goesL_ (some 7) rfl rfl Try.func12 (by kernel_rfl) rfl #[] rfl (by (try simp only [List.map_toArray, List.map_cons, List.map_nil]); first | done | rfl | (simp only [List.length_drop, List.length_take]; rfl)) ?_; (with_reducible refine (tabulariumlaw01_examples.calls k  t140 _ A3.out).mono ?_); rintro e w5 ⟨rfl, hb⟩; refine ⟨_, rfl, ?_⟩; have n0_ := Aside0.mk (below_step (by repeat (first | (with_reducible first | exact HB.out | apply below_alloc | apply pw_below_drewN | apply below_drew1) | exact HB.out)) hb); clear HB; have HB := n0_; clear n0_; (try clear hb); (try clear hb2); (try clear hk); (try clear hi)))
  (try simp only [Act.put, List.setIfInBounds_toArray, List.set_cons_zero, List.set_cons_succ])
  go_cut [1] (fun v1 wc => ∃ (kq : Nat) (x1_3 : Int), v1 = .int .i64 x1_3 ∧ Aside0 (tabulariumlaw01_WireSizes.j0 kq a0 x1_3 t140 = some r) ∧ Aside0 (kq ≤ k) ∧ Aside0 (Below w.heap.size w wc))
  case first =>
    have H := HC4.out
    clear HC4
    by_cases c6 : a1 < 0
    · rw [if_pos c6] at H
      have c6b0 : decide (a1 < 0) = true := decide_eq_true c6
      clear c6
      (first | rw [c6b0] | (simp only [i64_w, i32_w]; rw [c6b0]) | skip)
      have H' := Aside0.mk H
      clear H
      go_wp2
      go_meet
      case rel => exact ⟨_, (wrap64 (-(wrap64 (a1 + 1)))), (by first | rfl | (simp; done) | (simp [*]; done)), H', ⟨by first | omega | exact Nat.le_refl _⟩, ⟨by repeat (first | (with_reducible first | exact HB.out | apply below_alloc | apply pw_below_drewN | apply below_drew1) | exact HB.out)⟩⟩
    · rw [if_neg c6] at H
      have c6b0 : decide (a1 < 0) = false := decide_eq_false c6
      clear c6
      (first | rw [c6b0] | (simp only [i64_w, i32_w]; rw [c6b0]) | skip)
      have H' := Aside0.mk H
      clear H
      go_wp2
      go_meet
      case rel => exact ⟨_, (a1), (by first | rfl | (simp; done) | (simp [*]; done)), H', ⟨by first | omega | exact Nat.le_refl _⟩, ⟨by repeat (first | (with_reducible first | exact HB.out | apply below_alloc | apply pw_below_drewN | apply below_drew1) | exact HB.out)⟩⟩
  case rest =>
    clear HC4
    try clear c1
    try clear p2
    try clear c5
    try clear c6
    try clear c6b0
    try clear p6
    obtain ⟨kq, x1_3, rfl, HA, HJ3, HB⟩ := hcut
    cases kq with
    | zero => exact absurd HA.out (by simp [tabulariumlaw01_WireSizes.j0])
    | succ kj3 =>
      have H := HA.out
      clear HA
      simp only [tabulariumlaw01_WireSizes.j0] at H
      obtain ⟨ji7, hji7⟩ : ∃ j_ : Int, (wrap64 (6 + (wrap64 (7 * (Int.tmod x1_3 9))))) = j_ := ⟨_, rfl⟩
      replace H : (if 0 ≤ (ji7) then (if t140 = true then ((wire_Num.f kj3 a0).bind fun t141 => ((wire_Num.f kj3 (wrap64 (-(wrap64 (a0 + 1))))).bind fun t142 => (if (t141.size : Int) = (t142.size : Int) then ((wire_Num.f kj3 (wrap64 ((shl .i64 1 (ji7)) - 1))).bind fun t143 => (if (t143.size : Int) = (wrap64 ((Int.tmod x1_3 9) + 1)) then ((wire_Num.f kj3 (shl .i64 1 (ji7))).bind fun t144 => (if (t144.size : Int) = (wrap64 ((Int.tmod x1_3 9) + 2)) then ((wire_Num.f kj3 (wrap64 (-(shl .i64 1 (ji7))))).bind fun t145 => (if (t145.size : Int) = (wrap64 ((Int.tmod x1_3 9) + 1)) then ((wire_Num.f kj3 (wrap64 ((wrap64 (-(shl .i64 1 (ji7)))) - 1))).bind fun t146 => (some ((t146.size : Int) == (wrap64 ((Int.tmod x1_3 9) + 2))))) else (some false))) else (some false))) else (some false))) else (some false)))) else (some false)) else (none)) = some r := by first | (rw [hji7] at H; exact H) | (simp only [hji7] at H ⊢; exact H)
      have hji7w : (IntKind.i64.wrap (6 + (wrap64 (7 * (Int.tmod x1_3 9))))) = ji7 := (i64_w _).trans hji7
      by_cases c8 : 0 ≤ (ji7)
      · rw [if_pos c8] at H
        have c8b0 := eq_true c8
        have c8b1 : decide (0 ≤ (ji7)) = true := decide_eq_true c8
        clear c8
        obtain ⟨ji9, hji9⟩ : ∃ j_ : Int, (shl .i64 1 (ji7)) = j_ := ⟨_, rfl⟩
        replace H : (if t140 = true then ((wire_Num.f kj3 a0).bind fun t141 => ((wire_Num.f kj3 (wrap64 (-(wrap64 (a0 + 1))))).bind fun t142 => (if (t141.size : Int) = (t142.size : Int) then ((wire_Num.f kj3 (wrap64 ((ji9) - 1))).bind fun t143 => (if (t143.size : Int) = (wrap64 ((Int.tmod x1_3 9) + 1)) then ((wire_Num.f kj3 (ji9)).bind fun t144 => (if (t144.size : Int) = (wrap64 ((Int.tmod x1_3 9) + 2)) then ((wire_Num.f kj3 (wrap64 (-(ji9)))).bind fun t145 => (if (t145.size : Int) = (wrap64 ((Int.tmod x1_3 9) + 1)) then ((wire_Num.f kj3 (wrap64 ((wrap64 (-(ji9))) - 1))).bind fun t146 => (some ((t146.size : Int) == (wrap64 ((Int.tmod x1_3 9) + 2))))) else (some false))) else (some false))) else (some false))) else (some false)))) else (some false)) = some r := by first | (rw [hji9] at H; exact H) | (simp only [hji9] at H ⊢; exact H)
        have hji9_ : (IntKind.i64.wrap (1 * 2 ^ min (ji7).toNat 64)) = ji9 := hji9
        have hji9z : (ji7) ≤ 64 → (IntKind.i64.wrap (1 * 2 ^ (ji7).toNat)) = ji9 := shl_small hji9
        have hji9u : (IntKind.i64.wrap (2 ^ min (ji7).toNat 64)) = ji9 := by have h_ := hji9_; rw [Int.one_mul] at h_; exact h_
        have hji9v : (ji7) ≤ 64 → (IntKind.i64.wrap (2 ^ (ji7).toNat)) = ji9 := fun hle_ => by have h_ := hji9z hle_; rw [Int.one_mul] at h_; exact h_
        have hji9y : (wrap64 (1 * 2 ^ min (ji7).toNat 64)) = ji9 := (i64_w _).symm.trans hji9_
        have hji9x : (ji7) ≤ 64 → (wrap64 (1 * 2 ^ (ji7).toNat)) = ji9 := fun h_ => (i64_w _).symm.trans (hji9z h_)
        by_cases c10 : t140 = true
        · subst c10
          have H1 : ((wire_Num.f kj3 a0).bind fun t141 => ((wire_Num.f kj3 (wrap64 (-(wrap64 (a0 + 1))))).bind fun t142 => (if (t141.size : Int) = (t142.size : Int) then ((wire_Num.f kj3 (wrap64 ((ji9) - 1))).bind fun t143 => (if (t143.size : Int) = (wrap64 ((Int.tmod x1_3 9) + 1)) then ((wire_Num.f kj3 (ji9)).bind fun t144 => (if (t144.size : Int) = (wrap64 ((Int.tmod x1_3 9) + 2)) then ((wire_Num.f kj3 (wrap64 (-(ji9)))).bind fun t145 => (if (t145.size : Int) = (wrap64 ((Int.tmod x1_3 9) + 1)) then ((wire_Num.f kj3 (wrap64 ((wrap64 (-(ji9))) - 1))).bind fun t146 => (some ((t146.size : Int) == (wrap64 ((Int.tmod x1_3 9) + 2))))) else (some false))) else (some false))) else (some false))) else (some false)))) = some r := by rw [if_pos rfl] at H; exact H
          clear H
          have H := H1
          clear H1
          replace H := Option.bind_eq_some_iff.mp H
          obtain ⟨t141, A110, H⟩ := H
          replace H : ((wire_Num.f kj3 (wrap64 (-(wrap64 (a0 + 1))))).bind fun t142 => (if (t141.size : Int) = (t142.size : Int) then ((wire_Num.f kj3 (wrap64 ((ji9) - 1))).bind fun t143 => (if (t143.size : Int) = (wrap64 ((Int.tmod x1_3 9) + 1)) then ((wire_Num.f kj3 (ji9)).bind fun t144 => (if (t144.size : Int) = (wrap64 ((Int.tmod x1_3 9) + 2)) then ((wire_Num.f kj3 (wrap64 (-(ji9)))).bind fun t145 => (if (t145.size : Int) = (wrap64 ((Int.tmod x1_3 9) + 1)) then ((wire_Num.f kj3 (wrap64 ((wrap64 (-(ji9))) - 1))).bind fun t146 => (some ((t146.size : Int) == (wrap64 ((Int.tmod x1_3 9) + 2))))) else (some false))) else (some false))) else (some false))) else (some false))) = some r := H
          have A11 := Aside0.mk A110
          clear A110
          replace H := Option.bind_eq_some_iff.mp H
          obtain ⟨t142, A120, H⟩ := H
          replace H : (if (t141.size : Int) = (t142.size : Int) then ((wire_Num.f kj3 (wrap64 ((ji9) - 1))).bind fun t143 => (if (t143.size : Int) = (wrap64 ((Int.tmod x1_3 9) + 1)) then ((wire_Num.f kj3 (ji9)).bind fun t144 => (if (t144.size : Int) = (wrap64 ((Int.tmod x1_3 9) + 2)) then ((wire_Num.f kj3 (wrap64 (-(ji9)))).bind fun t145 => (if (t145.size : Int) = (wrap64 ((Int.tmod x1_3 9) + 1)) then ((wire_Num.f kj3 (wrap64 ((wrap64 (-(ji9))) - 1))).bind fun t146 => (some ((t146.size : Int) == (wrap64 ((Int.tmod x1_3 9) + 2))))) else (some false))) else (some false))) else (some false))) else (some false)) = some r := H
          have A12 := Aside0.mk A120
          clear A120
          by_cases c13 : (t141.size : Int) = (t142.size : Int)
          · rw [if_pos c13] at H
            have c13b0 : ((t141.size : Int) == (t142.size : Int)) = true := beq_iff_eq.mpr c13
            have c13b1 : ((t141.size : Int) != (t142.size : Int)) = false := bne_eq_false_iff_eq.mpr c13
            have c13b2 : (t141.size == t142.size) = true := by first | simpa using c13 | (simp at c13 ⊢; omega)
            clear c13
            replace H := Option.bind_eq_some_iff.mp H
            obtain ⟨t143, A140, H⟩ := H
            replace H : (if (t143.size : Int) = (wrap64 ((Int.tmod x1_3 9) + 1)) then ((wire_Num.f kj3 (ji9)).bind fun t144 => (if (t144.size : Int) = (wrap64 ((Int.tmod x1_3 9) + 2)) then ((wire_Num.f kj3 (wrap64 (-(ji9)))).bind fun t145 => (if (t145.size : Int) = (wrap64 ((Int.tmod x1_3 9) + 1)) then ((wire_Num.f kj3 (wrap64 ((wrap64 (-(ji9))) - 1))).bind fun t146 => (some ((t146.size : Int) == (wrap64 ((Int.tmod x1_3 9) + 2))))) else (some false))) else (some false))) else (some false)) = some r := H
            have A14 := Aside0.mk A140
            clear A140
            by_cases c15 : (t143.size : Int) = (wrap64 ((Int.tmod x1_3 9) + 1))
            · rw [if_pos c15] at H
              have c15b0 : ((t143.size : Int) == (wrap64 ((Int.tmod x1_3 9) + 1))) = true := beq_iff_eq.mpr c15
              have c15b1 : ((t143.size : Int) != (wrap64 ((Int.tmod x1_3 9) + 1))) = false := bne_eq_false_iff_eq.mpr c15
              clear c15
              replace H := Option.bind_eq_some_iff.mp H
              obtain ⟨t144, A160, H⟩ := H
              replace H : (if (t144.size : Int) = (wrap64 ((Int.tmod x1_3 9) + 2)) then ((wire_Num.f kj3 (wrap64 (-(ji9)))).bind fun t145 => (if (t145.size : Int) = (wrap64 ((Int.tmod x1_3 9) + 1)) then ((wire_Num.f kj3 (wrap64 ((wrap64 (-(ji9))) - 1))).bind fun t146 => (some ((t146.size : Int) == (wrap64 ((Int.tmod x1_3 9) + 2))))) else (some false))) else (some false)) = some r := H
              have A16 := Aside0.mk A160
              clear A160
              by_cases c17 : (t144.size : Int) = (wrap64 ((Int.tmod x1_3 9) + 2))
              · rw [if_pos c17] at H
                have c17b0 : ((t144.size : Int) == (wrap64 ((Int.tmod x1_3 9) + 2))) = true := beq_iff_eq.mpr c17
                have c17b1 : ((t144.size : Int) != (wrap64 ((Int.tmod x1_3 9) + 2))) = false := bne_eq_false_iff_eq.mpr c17
                clear c17
                replace H := Option.bind_eq_some_iff.mp H
                obtain ⟨t145, A180, H⟩ := H
                replace H : (if (t145.size : Int) = (wrap64 ((Int.tmod x1_3 9) + 1)) then ((wire_Num.f kj3 (wrap64 ((wrap64 (-(ji9))) - 1))).bind fun t146 => (some ((t146.size : Int) == (wrap64 ((Int.tmod x1_3 9) + 2))))) else (some false)) = some r := H
                have A18 := Aside0.mk A180
                clear A180
                by_cases c19 : (t145.size : Int) = (wrap64 ((Int.tmod x1_3 9) + 1))
                · rw [if_pos c19] at H
                  have c19b0 : ((t145.size : Int) == (wrap64 ((Int.tmod x1_3 9) + 1))) = true := beq_iff_eq.mpr c19
                  have c19b1 : ((t145.size : Int) != (wrap64 ((Int.tmod x1_3 9) + 1))) = false := bne_eq_false_iff_eq.mpr c19
                  clear c19
                  replace H := Option.bind_eq_some_iff.mp H
                  obtain ⟨t146, A200, H⟩ := H
                  replace H : (some ((t146.size : Int) == (wrap64 ((Int.tmod x1_3 9) + 2)))) = some r := H
                  have A20 := Aside0.mk A200
                  clear A200
                  obtain rfl := Option.some.inj H
                  go_wp2_with (first | (go_at_call 15; (with_reducible refine (wire_Num.calls kj3 a0 t141 _ A11.out).mono ?_); rintro e w21 ⟨rfl, hb⟩; have n0_ := Aside0.mk (below_step (by repeat (first | (with_reducible first | exact HB.out | apply below_alloc | apply pw_below_drewN | apply below_drew1) | exact HB.out)) hb); clear HB; have HB := n0_; clear n0_; (try clear hb); (try clear hb2); (try clear hk); (try clear hi)) | (go_at_call 15; (with_reducible refine (wire_Num.calls kj3 (wrap64 (-(wrap64 (a0 + 1)))) t142 _ A12.out).mono ?_); rintro e w22 ⟨rfl, hb⟩; have n0_ := Aside0.mk (below_step (by repeat (first | (with_reducible first | exact HB.out | apply below_alloc | apply pw_below_drewN | apply below_drew1) | exact HB.out)) hb); clear HB; have HB := n0_; clear n0_; (try clear hb); (try clear hb2); (try clear hk); (try clear hi)) | (go_at_call 15; (with_reducible refine (wire_Num.calls kj3 (wrap64 ((ji9) - 1)) t143 _ A14.out).mono ?_); rintro e w23 ⟨rfl, hb⟩; have n0_ := Aside0.mk (below_step (by repeat (first | (with_reducible first | exact HB.out | apply below_alloc | apply pw_below_drewN | apply below_drew1) | exact HB.out)) hb); clear HB; have HB := n0_; clear n0_; (try clear hb); (try clear hb2); (try clear hk); (try clear hi)) | (go_at_call 15; (with_reducible refine (wire_Num.calls kj3 ji9 t144 _ A16.out).mono ?_); rintro e w24 ⟨rfl, hb⟩; have n0_ := Aside0.mk (below_step (by repeat (first | (with_reducible first | exact HB.out | apply below_alloc | apply pw_below_drewN | apply below_drew1) | exact HB.out)) hb); clear HB; have HB := n0_; clear n0_; (try clear hb); (try clear hb2); (try clear hk); (try clear hi)) | (go_at_call 15; (with_reducible refine (wire_Num.calls kj3 (wrap64 (-(ji9))) t145 _ A18.out).mono ?_); rintro e w25 ⟨rfl, hb⟩; have n0_ := Aside0.mk (below_step (by repeat (first | (with_reducible first | exact HB.out | apply below_alloc | apply pw_below_drewN | apply below_drew1) | exact HB.out)) hb); clear HB; have HB := n0_; clear n0_; (try clear hb); (try clear hb2); (try clear hk); (try clear hi)) | (go_at_call 15; (with_reducible refine (wire_Num.calls kj3 (wrap64 ((wrap64 (-(ji9))) - 1)) t146 _ A20.out).mono ?_); rintro e w26 ⟨rfl, hb⟩; have n0_ := Aside0.mk (below_step (by repeat (first | (with_reducible first | exact HB.out | apply below_alloc | apply pw_below_drewN | apply below_drew1) | exact HB.out)) hb); clear HB; have HB := n0_; clear n0_; (try clear hb); (try clear hb2); (try clear hk); (try clear hi)))
                  go_ret
                  exact ⟨by first | rfl | (simp [errW_none, errW_some] <;> rfl) | (simp only [← hji7, ← hji9]; first | rfl | (simp [errW_none, errW_some] <;> rfl)) | (simp [*, errW_none, errW_some] <;> rfl), by repeat (first | (with_reducible first | exact HB.out | apply below_alloc | apply pw_below_drewN | apply below_drew1) | exact HB.out)⟩
                · rw [if_neg c19] at H
                  have c19b0 : ((t145.size : Int) == (wrap64 ((Int.tmod x1_3 9) + 1))) = false := beq_eq_false_iff_ne.mpr c19
                  have c19b1 : ((t145.size : Int) != (wrap64 ((Int.tmod x1_3 9) + 1))) = true := bne_iff_ne.mpr c19
                  obtain rfl := Option.some.inj H
                  go_wp2_with (first | (go_at_call 15; (with_reducible refine (wire_Num.calls kj3 a0 t141 _ A11.out).mono ?_); rintro e w27 ⟨rfl, hb⟩; have n0_ := Aside0.mk (below_step (by repeat (first | (with_reducible first | exact HB.out | apply below_alloc | apply pw_below_drewN | apply below_drew1) | exact HB.out)) hb); clear HB; have HB := n0_; clear n0_; (try clear hb); (try clear hb2); (try clear hk); (try clear hi)) | (go_at_call 15; (with_reducible refine (wire_Num.calls kj3 (wrap64 (-(wrap64 (a0 + 1)))) t142 _ A12.out).mono ?_); rintro e w28 ⟨rfl, hb⟩; have n0_ := Aside0.mk (below_step (by repeat (first | (with_reducible first | exact HB.out | apply below_alloc | apply pw_below_drewN | apply below_drew1) | exact HB.out)) hb); clear HB; have HB := n0_; clear n0_; (try clear hb); (try clear hb2); (try clear hk); (try clear hi)) | (go_at_call 15; (with_reducible refine (wire_Num.calls kj3 (wrap64 ((ji9) - 1)) t143 _ A14.out).mono ?_); rintro e w29 ⟨rfl, hb⟩; have n0_ := Aside0.mk (below_step (by repeat (first | (with_reducible first | exact HB.out | apply below_alloc | apply pw_below_drewN | apply below_drew1) | exact HB.out)) hb); clear HB; have HB := n0_; clear n0_; (try clear hb); (try clear hb2); (try clear hk); (try clear hi)) | (go_at_call 15; (with_reducible refine (wire_Num.calls kj3 ji9 t144 _ A16.out).mono ?_); rintro e w30 ⟨rfl, hb⟩; have n0_ := Aside0.mk (below_step (by repeat (first | (with_reducible first | exact HB.out | apply below_alloc | apply pw_below_drewN | apply below_drew1) | exact HB.out)) hb); clear HB; have HB := n0_; clear n0_; (try clear hb); (try clear hb2); (try clear hk); (try clear hi)) | (go_at_call 15; (with_reducible refine (wire_Num.calls kj3 (wrap64 (-(ji9))) t145 _ A18.out).mono ?_); rintro e w31 ⟨rfl, hb⟩; have n0_ := Aside0.mk (below_step (by repeat (first | (with_reducible first | exact HB.out | apply below_alloc | apply pw_below_drewN | apply below_drew1) | exact HB.out)) hb); clear HB; have HB := n0_; clear n0_; (try clear hb); (try clear hb2); (try clear hk); (try clear hi)))
                  go_ret
                  exact ⟨by first | rfl | (simp [errW_none, errW_some] <;> rfl) | (simp only [← hji7, ← hji9]; first | rfl | (simp [errW_none, errW_some] <;> rfl)) | (simp [*, errW_none, errW_some] <;> rfl), by repeat (first | (with_reducible first | exact HB.out | apply below_alloc | apply pw_below_drewN | apply below_drew1) | exact HB.out)⟩
              · rw [if_neg c17] at H
                have c17b0 : ((t144.size : Int) == (wrap64 ((Int.tmod x1_3 9) + 2))) = false := beq_eq_false_iff_ne.mpr c17
                have c17b1 : ((t144.size : Int) != (wrap64 ((Int.tmod x1_3 9) + 2))) = true := bne_iff_ne.mpr c17
                obtain rfl := Option.some.inj H
                go_wp2_with (first | (go_at_call 15; (with_reducible refine (wire_Num.calls kj3 a0 t141 _ A11.out).mono ?_); rintro e w32 ⟨rfl, hb⟩; have n0_ := Aside0.mk (below_step (by repeat (first | (with_reducible first | exact HB.out | apply below_alloc | apply pw_below_drewN | apply below_drew1) | exact HB.out)) hb); clear HB; have HB := n0_; clear n0_; (try clear hb); (try clear hb2); (try clear hk); (try clear hi)) | (go_at_call 15; (with_reducible refine (wire_Num.calls kj3 (wrap64 (-(wrap64 (a0 + 1)))) t142 _ A12.out).mono ?_); rintro e w33 ⟨rfl, hb⟩; have n0_ := Aside0.mk (below_step (by repeat (first | (with_reducible first | exact HB.out | apply below_alloc | apply pw_below_drewN | apply below_drew1) | exact HB.out)) hb); clear HB; have HB := n0_; clear n0_; (try clear hb); (try clear hb2); (try clear hk); (try clear hi)) | (go_at_call 15; (with_reducible refine (wire_Num.calls kj3 (wrap64 ((ji9) - 1)) t143 _ A14.out).mono ?_); rintro e w34 ⟨rfl, hb⟩; have n0_ := Aside0.mk (below_step (by repeat (first | (with_reducible first | exact HB.out | apply below_alloc | apply pw_below_drewN | apply below_drew1) | exact HB.out)) hb); clear HB; have HB := n0_; clear n0_; (try clear hb); (try clear hb2); (try clear hk); (try clear hi)) | (go_at_call 15; (with_reducible refine (wire_Num.calls kj3 ji9 t144 _ A16.out).mono ?_); rintro e w35 ⟨rfl, hb⟩; have n0_ := Aside0.mk (below_step (by repeat (first | (with_reducible first | exact HB.out | apply below_alloc | apply pw_below_drewN | apply below_drew1) | exact HB.out)) hb); clear HB; have HB := n0_; clear n0_; (try clear hb); (try clear hb2); (try clear hk); (try clear hi)))
                go_ret
                exact ⟨by first | rfl | (simp [errW_none, errW_some] <;> rfl) | (simp only [← hji7, ← hji9]; first | rfl | (simp [errW_none, errW_some] <;> rfl)) | (simp [*, errW_none, errW_some] <;> rfl), by repeat (first | (with_reducible first | exact HB.out | apply below_alloc | apply pw_below_drewN | apply below_drew1) | exact HB.out)⟩
            · rw [if_neg c15] at H
              have c15b0 : ((t143.size : Int) == (wrap64 ((Int.tmod x1_3 9) + 1))) = false := beq_eq_false_iff_ne.mpr c15
              have c15b1 : ((t143.size : Int) != (wrap64 ((Int.tmod x1_3 9) + 1))) = true := bne_iff_ne.mpr c15
              obtain rfl := Option.some.inj H
              go_wp2_with (first | (go_at_call 15; (with_reducible refine (wire_Num.calls kj3 a0 t141 _ A11.out).mono ?_); rintro e w36 ⟨rfl, hb⟩; have n0_ := Aside0.mk (below_step (by repeat (first | (with_reducible first | exact HB.out | apply below_alloc | apply pw_below_drewN | apply below_drew1) | exact HB.out)) hb); clear HB; have HB := n0_; clear n0_; (try clear hb); (try clear hb2); (try clear hk); (try clear hi)) | (go_at_call 15; (with_reducible refine (wire_Num.calls kj3 (wrap64 (-(wrap64 (a0 + 1)))) t142 _ A12.out).mono ?_); rintro e w37 ⟨rfl, hb⟩; have n0_ := Aside0.mk (below_step (by repeat (first | (with_reducible first | exact HB.out | apply below_alloc | apply pw_below_drewN | apply below_drew1) | exact HB.out)) hb); clear HB; have HB := n0_; clear n0_; (try clear hb); (try clear hb2); (try clear hk); (try clear hi)) | (go_at_call 15; (with_reducible refine (wire_Num.calls kj3 (wrap64 ((ji9) - 1)) t143 _ A14.out).mono ?_); rintro e w38 ⟨rfl, hb⟩; have n0_ := Aside0.mk (below_step (by repeat (first | (with_reducible first | exact HB.out | apply below_alloc | apply pw_below_drewN | apply below_drew1) | exact HB.out)) hb); clear HB; have HB := n0_; clear n0_; (try clear hb); (try clear hb2); (try clear hk); (try clear hi)))
              go_ret
              exact ⟨by first | rfl | (simp [errW_none, errW_some] <;> rfl) | (simp only [← hji7, ← hji9]; first | rfl | (simp [errW_none, errW_some] <;> rfl)) | (simp [*, errW_none, errW_some] <;> rfl), by repeat (first | (with_reducible first | exact HB.out | apply below_alloc | apply pw_below_drewN | apply below_drew1) | exact HB.out)⟩
          · rw [if_neg c13] at H
            have c13b0 : ((t141.size : Int) == (t142.size : Int)) = false := beq_eq_false_iff_ne.mpr c13
            have c13b1 : ((t141.size : Int) != (t142.size : Int)) = true := bne_iff_ne.mpr c13
            have c13b2 : (t141.size == t142.size) = false := by first | simpa using c13 | (simp at c13 ⊢; omega)
            obtain rfl := Option.some.inj H
            go_wp2_with (first | (go_at_call 15; (with_reducible refine (wire_Num.calls kj3 a0 t141 _ A11.out).mono ?_); rintro e w39 ⟨rfl, hb⟩; have n0_ := Aside0.mk (below_step (by repeat (first | (with_reducible first | exact HB.out | apply below_alloc | apply pw_below_drewN | apply below_drew1) | exact HB.out)) hb); clear HB; have HB := n0_; clear n0_; (try clear hb); (try clear hb2); (try clear hk); (try clear hi)) | (go_at_call 15; (with_reducible refine (wire_Num.calls kj3 (wrap64 (-(wrap64 (a0 + 1)))) t142 _ A12.out).mono ?_); rintro e w40 ⟨rfl, hb⟩; have n0_ := Aside0.mk (below_step (by repeat (first | (with_reducible first | exact HB.out | apply below_alloc | apply pw_below_drewN | apply below_drew1) | exact HB.out)) hb); clear HB; have HB := n0_; clear n0_; (try clear hb); (try clear hb2); (try clear hk); (try clear hi)))
            go_ret
            exact ⟨by first | rfl | (simp [errW_none, errW_some] <;> rfl) | (simp only [← hji7, ← hji9]; first | rfl | (simp [errW_none, errW_some] <;> rfl)) | (simp [*, errW_none, errW_some] <;> rfl), by repeat (first | (with_reducible first | exact HB.out | apply below_alloc | apply pw_below_drewN | apply below_drew1) | exact HB.out)⟩
        · replace c10 := Bool.eq_false_iff.mpr c10
          subst c10
          have H1 : (some false) = some r := by rw [if_neg (show ¬ (false = true) by decide)] at H; exact H
          clear H
          have H := H1
          clear H1
          obtain rfl := Option.some.inj H
          go_wp2
          go_ret
          exact ⟨by first | rfl | (simp [errW_none, errW_some] <;> rfl) | (simp only [← hji7, ← hji9]; first | rfl | (simp [errW_none, errW_some] <;> rfl)) | (simp [*, errW_none, errW_some] <;> rfl), by repeat (first | (with_reducible first | exact HB.out | apply below_alloc | apply pw_below_drewN | apply below_drew1) | exact HB.out)⟩
      · rw [if_neg c8] at H
        exact absurd H (by simp)

/-- THE ONE PURE STATEMENT of tabulariumlaw01_WireSizes: yours. -/
def tabulariumlaw01_WireSizes.Pure : Prop := ∀ (a0 : Int) (a1 : Int), (Lit.int .i64 a0).wf = true → (Lit.int .i64 a1).wf = true → ∃ k, tabulariumlaw01_WireSizes.f k a0 a1 = some true
theorem tabulariumlaw01_WireSizes.walk (P : tabulariumlaw01_WireSizes.Pure) (a0 : Int) (a1 : Int) (w : World) (w0 : (Lit.int .i64 a0).wf = true) (w1 : (Lit.int .i64 a1).wf = true) :
    Calls Try.prog 5 #[.int .i64 a0, .int .i64 a1] w fun e w' => e = .returned (.bool true) ∧ Below w.heap.size w w' := by
  obtain ⟨k, h⟩ := P a0 a1 w0 w1
  refine (tabulariumlaw01_WireSizes.calls k a0 a1 true w h).mono ?_
  rintro e w' ⟨rfl, hd⟩
  exact ⟨rfl, hd⟩

end Go.Proofs.Ytjjmbcnalcjnmaa.P
