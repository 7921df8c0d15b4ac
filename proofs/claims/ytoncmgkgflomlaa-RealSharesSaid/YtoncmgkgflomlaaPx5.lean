/- The Go functions of this seat as plain Lean functions, and for each the proof that its call gives what the plain function gives. Printed by a program of this session. -/
import Derived.Test.YtoncmgkgflomlaaPx0
import Derived.Test.YtoncmgkgflomlaaPx2
import Derived.Test.YtoncmgkgflomlaaPx3
namespace Go.Proofs.Ytoncmgkgflomlaa.P
open Go.RowKit Go.Proofs.YtoncmgkgflomlaaW.PrintWords Go.Proofs.YtoncmgkgflomlaaW.PrintLast Go.Proofs.YtoncmgkgflomlaaW.PrintMore
attribute [local go_sem] max2_int min2_int max_two min_two max_three min_three max_four min_four   -- for this text's walks alone
set_option linter.unusedVariables false
set_option linter.unusedSimpArgs false

/-! ### tabulariumlaw03_RealShares: function 4 -/
def tabulariumlaw03_RealShares.f (k : Nat) (a0 : Nat) (a1 : Nat) (a2 : Nat) : Option (Bool) := (tabulariumlaw03_examples.f k).bind fun t125 => ((real_Share.f k a0 a2).bind fun t126 => ((real_Share.f k a1 a2).bind fun t127 => (if (FloatKind.f64.format.order t126 0 == some .gt || FloatKind.f64.format.order t126 0 == some .eq) = true then (if (FloatKind.f64.format.order t126 4607182418800017408 == some .lt || FloatKind.f64.format.order t126 4607182418800017408 == some .eq) = true then (if t125 = true then (if (FloatKind.f64.format.order a0 a1 == some .lt || FloatKind.f64.format.order a0 a1 == some .eq) = true then (if (FloatKind.f64.format.order t126 t127 == some .lt || FloatKind.f64.format.order t126 t127 == some .eq) = true then (if (FloatKind.f64.format.order a2 0 == some .gt) = true then ((real_Share.f k 0 a2).bind fun t128 => (if (FloatKind.f64.format.order t128 0 == some .eq) = true then (some true) else (some false))) else (some (FloatKind.f64.format.order t126 4607182418800017408 == some .eq))) else (some false)) else (if (FloatKind.f64.format.order a2 0 == some .gt) = true then ((real_Share.f k 0 a2).bind fun t129 => (if (FloatKind.f64.format.order t129 0 == some .eq) = true then (some true) else (some false))) else (some (FloatKind.f64.format.order t126 4607182418800017408 == some .eq)))) else (some false)) else (some false)) else (some false))))
theorem tabulariumlaw03_RealShares.mono : ∀ a0 a1 a2 k, LeO (tabulariumlaw03_RealShares.f k a0 a1 a2) (tabulariumlaw03_RealShares.f (k + 1) a0 a1 a2) := by
  intro a0 a1 a2 k
  unfold tabulariumlaw03_RealShares.f
  repeat' first
      | (with_reducible exact real_Share.mono _ _ _)
      | (with_reducible exact tabulariumlaw03_examples.mono _)
      | (with_reducible exact LeO.refl _)
      | (with_reducible exact LeO.none _)
      | (with_reducible refine LeO.ite ?_ ?_)
      | (with_reducible refine LeO.bind ?_ (fun _ => ?_))
      | exact real_Share.mono _ _ _
      | exact tabulariumlaw03_examples.mono _
      | exact LeO.none _
      | refine LeO.ite ?_ ?_
      | refine LeO.bind ?_ (fun _ => ?_)
set_option maxHeartbeats 8000000 in
set_option maxRecDepth 100000 in
theorem tabulariumlaw03_RealShares.calls (k : Nat) (a0 : Nat) (a1 : Nat) (a2 : Nat) (r : Bool) (w : World) (h : tabulariumlaw03_RealShares.f k a0 a1 a2 = some r) :
    Calls Try.prog 4 #[.float .f64 a0, .float .f64 a1, .float .f64 a2] w fun e w' => e = .returned (.bool r) ∧ Below w.heap.size w w' := by
  have HB := Aside0.mk (Below.refl w.heap.size w)
  have H : ((tabulariumlaw03_examples.f k).bind fun t125 => ((real_Share.f k a0 a2).bind fun t126 => ((real_Share.f k a1 a2).bind fun t127 => (if (FloatKind.f64.format.order t126 0 == some .gt || FloatKind.f64.format.order t126 0 == some .eq) = true then (if (FloatKind.f64.format.order t126 4607182418800017408 == some .lt || FloatKind.f64.format.order t126 4607182418800017408 == some .eq) = true then (if t125 = true then (if (FloatKind.f64.format.order a0 a1 == some .lt || FloatKind.f64.format.order a0 a1 == some .eq) = true then (if (FloatKind.f64.format.order t126 t127 == some .lt || FloatKind.f64.format.order t126 t127 == some .eq) = true then (if (FloatKind.f64.format.order a2 0 == some .gt) = true then ((real_Share.f k 0 a2).bind fun t128 => (if (FloatKind.f64.format.order t128 0 == some .eq) = true then (some true) else (some false))) else (some (FloatKind.f64.format.order t126 4607182418800017408 == some .eq))) else (some false)) else (if (FloatKind.f64.format.order a2 0 == some .gt) = true then ((real_Share.f k 0 a2).bind fun t129 => (if (FloatKind.f64.format.order t129 0 == some .eq) = true then (some true) else (some false))) else (some (FloatKind.f64.format.order t126 4607182418800017408 == some .eq)))) else (some false)) else (some false)) else (some false))))) = some r := h
  clear h
  replace H := Option.bind_eq_some_iff.mp H
  obtain ⟨t125, A40, H⟩ := H
  replace H : ((real_Share.f k a0 a2).bind fun t126 => ((real_Share.f k a1 a2).bind fun t127 => (if (FloatKind.f64.format.order t126 0 == some .gt || FloatKind.f64.format.order t126 0 == some .eq) = true then (if (FloatKind.f64.format.order t126 4607182418800017408 == some .lt || FloatKind.f64.format.order t126 4607182418800017408 == some .eq) = true then (if t125 = true then (if (FloatKind.f64.format.order a0 a1 == some .lt || FloatKind.f64.format.order a0 a1 == some .eq) = true then (if (FloatKind.f64.format.order t126 t127 == some .lt || FloatKind.f64.format.order t126 t127 == some .eq) = true then (if (FloatKind.f64.format.order a2 0 == some .gt) = true then ((real_Share.f k 0 a2).bind fun t128 => (if (FloatKind.f64.format.order t128 0 == some .eq) = true then (some true) else (some false))) else (some (FloatKind.f64.format.order t126 4607182418800017408 == some .eq))) else (some false)) else (if (FloatKind.f64.format.order a2 0 == some .gt) = true then ((real_Share.f k 0 a2).bind fun t129 => (if (FloatKind.f64.format.order t129 0 == some .eq) = true then (some true) else (some false))) else (some (FloatKind.f64.format.order t126 4607182418800017408 == some .eq)))) else (some false)) else (some false)) else (some false)))) = some r := H
  have A4 := Aside0.mk A40
  clear A40
  replace H := Option.bind_eq_some_iff.mp H
  obtain ⟨t126, A50, H⟩ := H
  replace H : ((real_Share.f k a1 a2).bind fun t127 => (if (FloatKind.f64.format.order t126 0 == some .gt || FloatKind.f64.format.order t126 0 == some .eq) = true then (if (FloatKind.f64.format.order t126 4607182418800017408 == some .lt || FloatKind.f64.format.order t126 4607182418800017408 == some .eq) = true then (if t125 = true then (if (FloatKind.f64.format.order a0 a1 == some .lt || FloatKind.f64.format.order a0 a1 == some .eq) = true then (if (FloatKind.f64.format.order t126 t127 == some .lt || FloatKind.f64.format.order t126 t127 == some .eq) = true then (if (FloatKind.f64.format.order a2 0 == some .gt) = true then ((real_Share.f k 0 a2).bind fun t128 => (if (FloatKind.f64.format.order t128 0 == some .eq) = true then (some true) else (some false))) else (some (FloatKind.f64.format.order t126 4607182418800017408 == some .eq))) else (some false)) else (if (FloatKind.f64.format.order a2 0 == some .gt) = true then ((real_Share.f k 0 a2).bind fun t129 => (if (FloatKind.f64.format.order t129 0 == some .eq) = true then (some true) else (some false))) else (some (FloatKind.f64.format.order t126 4607182418800017408 == some .eq)))) else (some false)) else (some false)) else (some false))) = some r := H
  have A5 := Aside0.mk A50
  clear A50
  replace H := Option.bind_eq_some_iff.mp H
  obtain ⟨t127, A60, H⟩ := H
  replace H : (if (FloatKind.f64.format.order t126 0 == some .gt || FloatKind.f64.format.order t126 0 == some .eq) = true then (if (FloatKind.f64.format.order t126 4607182418800017408 == some .lt || FloatKind.f64.format.order t126 4607182418800017408 == some .eq) = true then (if t125 = true then (if (FloatKind.f64.format.order a0 a1 == some .lt || FloatKind.f64.format.order a0 a1 == some .eq) = true then (if (FloatKind.f64.format.order t126 t127 == some .lt || FloatKind.f64.format.order t126 t127 == some .eq) = true then (if (FloatKind.f64.format.order a2 0 == some .gt) = true then ((real_Share.f k 0 a2).bind fun t128 => (if (FloatKind.f64.format.order t128 0 == some .eq) = true then (some true) else (some false))) else (some (FloatKind.f64.format.order t126 4607182418800017408 == some .eq))) else (some false)) else (if (FloatKind.f64.format.order a2 0 == some .gt) = true then ((real_Share.f k 0 a2).bind fun t129 => (if (FloatKind.f64.format.order t129 0 == some .eq) = true then (some true) else (some false))) else (some (FloatKind.f64.format.order t126 4607182418800017408 == some .eq)))) else (some false)) else (some false)) else (some false)) = some r := H
  have A6 := Aside0.mk A60
  clear A60
  by_cases c7 : (FloatKind.f64.format.order t126 0 == some .gt || FloatKind.f64.format.order t126 0 == some .eq) = true
  · rw [if_pos c7] at H
    have c7b0 : (FloatKind.f64.format.order t126 0 == some .gt || FloatKind.f64.format.order t126 0 == some .eq) = true := c7
    clear c7
    by_cases c8 : (FloatKind.f64.format.order t126 4607182418800017408 == some .lt || FloatKind.f64.format.order t126 4607182418800017408 == some .eq) = true
    · rw [if_pos c8] at H
      have c8b0 : (FloatKind.f64.format.order t126 4607182418800017408 == some .lt || FloatKind.f64.format.order t126 4607182418800017408 == some .eq) = true := c8
      clear c8
      by_cases c9 : t125 = true
      · subst c9
        have H1 : (if (FloatKind.f64.format.order a0 a1 == some .lt || FloatKind.f64.format.order a0 a1 == some .eq) = true then (if (FloatKind.f64.format.order t126 t127 == some .lt || FloatKind.f64.format.order t126 t127 == some .eq) = true then (if (FloatKind.f64.format.order a2 0 == some .gt) = true then ((real_Share.f k 0 a2).bind fun t128 => (if (FloatKind.f64.format.order t128 0 == some .eq) = true then (some true) else (some false))) else (some (FloatKind.f64.format.order t126 4607182418800017408 == some .eq))) else (some false)) else (if (FloatKind.f64.format.order a2 0 == some .gt) = true then ((real_Share.f k 0 a2).bind fun t129 => (if (FloatKind.f64.format.order t129 0 == some .eq) = true then (some true) else (some false))) else (some (FloatKind.f64.format.order t126 4607182418800017408 == some .eq)))) = some r := by rw [if_pos rfl] at H; exact H
        clear H
        have H := H1
        clear H1
        by_cases c10 : (FloatKind.f64.format.order a0 a1 == some .lt || FloatKind.f64.format.order a0 a1 == some .eq) = true
        · rw [if_pos c10] at H
          have c10b0 : (FloatKind.f64.format.order a0 a1 == some .lt || FloatKind.f64.format.order a0 a1 == some .eq) = true := c10
          clear c10
          by_cases c11 : (FloatKind.f64.format.order t126 t127 == some .lt || FloatKind.f64.format.order t126 t127 == some .eq) = true
          · rw [if_pos c11] at H
            have c11b0 : (FloatKind.f64.format.order t126 t127 == some .lt || FloatKind.f64.format.order t126 t127 == some .eq) = true := c11
            clear c11
            by_cases c12 : (FloatKind.f64.format.order a2 0 == some .gt) = true
            · rw [if_pos c12] at H
              have c12b0 : (FloatKind.f64.format.order a2 0 == some .gt) = true := c12
              clear c12
              replace H := Option.bind_eq_some_iff.mp H
              obtain ⟨t128, A130, H⟩ := H
              replace H : (if (FloatKind.f64.format.order t128 0 == some .eq) = true then (some true) else (some false)) = some r := H
              have A13 := Aside0.mk A130
              clear A130
              by_cases c14 : (FloatKind.f64.format.order t128 0 == some .eq) = true
              · rw [if_pos c14] at H
                have c14b0 : (FloatKind.f64.format.order t128 0 == some .eq) = true := c14
                clear c14
                obtain rfl := Option.some.inj H
                go_enter Try.func4, Try.ntmps4
                go_wp2_with (first | ((with_reducible refine gate_callee (f := 12) rfl ?_); refine goesL_ (some 10) rfl rfl Try.func12 (by kernel_rfl) rfl #[] rfl (by (try simp only [List.map_toArray, List.map_cons, List.map_nil]); first | done | rfl | (simp only [List.length_drop, List.length_take]; rfl)) ?_; (with_reducible refine (tabulariumlaw03_examples.calls k  true _ A4.out).mono ?_); rintro e w15 ⟨rfl, hb⟩; refine ⟨_, rfl, ?_⟩; have n0_ := Aside0.mk (below_step (by repeat (first | (with_reducible first | exact HB.out | apply below_alloc | apply pw_below_drewN | apply below_drew1) | exact HB.out)) hb); clear HB; have HB := n0_; clear n0_; (try clear hb); (try clear hb2); (try clear hk); (try clear hi)) | ((with_reducible refine gate_callee (f := 15) rfl ?_); refine goesL_ (some 13) rfl rfl Try.func15 (by kernel_rfl) rfl #[.float .f64 a0, .float .f64 a2] rfl (by (try simp only [List.map_toArray, List.map_cons, List.map_nil]); first | done | rfl | (simp only [List.length_drop, List.length_take]; rfl)) ?_; (with_reducible refine (real_Share.calls k a0 a2 t126 _ A5.out).mono ?_); rintro e w' ⟨rfl, ⟨nd, rfl⟩⟩; refine ⟨_, rfl, ?_⟩) | ((with_reducible refine gate_callee (f := 15) rfl ?_); refine goesL_ (some 16) rfl rfl Try.func15 (by kernel_rfl) rfl #[.float .f64 a1, .float .f64 a2] rfl (by (try simp only [List.map_toArray, List.map_cons, List.map_nil]); first | done | rfl | (simp only [List.length_drop, List.length_take]; rfl)) ?_; (with_reducible refine (real_Share.calls k a1 a2 t127 _ A6.out).mono ?_); rintro e w' ⟨rfl, ⟨nd, rfl⟩⟩; refine ⟨_, rfl, ?_⟩) | (go_at_call 15; (with_reducible refine (real_Share.calls k 0 a2 t128 _ A13.out).mono ?_); rintro e w' ⟨rfl, ⟨nd, rfl⟩⟩))
                go_ret
                exact ⟨by first | rfl | (simp [errW_none, errW_some] <;> rfl) | (simp [*, errW_none, errW_some] <;> rfl), by repeat (first | (with_reducible first | exact HB.out | apply below_alloc | apply pw_below_drewN | apply below_drew1) | exact HB.out)⟩
              · rw [if_neg c14] at H
                have c14b0 : (FloatKind.f64.format.order t128 0 == some .eq) = false := Bool.eq_false_iff.mpr c14
                clear c14
                obtain rfl := Option.some.inj H
                go_enter Try.func4, Try.ntmps4
                go_wp2_with (first | ((with_reducible refine gate_callee (f := 12) rfl ?_); refine goesL_ (some 10) rfl rfl Try.func12 (by kernel_rfl) rfl #[] rfl (by (try simp only [List.map_toArray, List.map_cons, List.map_nil]); first | done | rfl | (simp only [List.length_drop, List.length_take]; rfl)) ?_; (with_reducible refine (tabulariumlaw03_examples.calls k  true _ A4.out).mono ?_); rintro e w16 ⟨rfl, hb⟩; refine ⟨_, rfl, ?_⟩; have n0_ := Aside0.mk (below_step (by repeat (first | (with_reducible first | exact HB.out | apply below_alloc | apply pw_below_drewN | apply below_drew1) | exact HB.out)) hb); clear HB; have HB := n0_; clear n0_; (try clear hb); (try clear hb2); (try clear hk); (try clear hi)) | ((with_reducible refine gate_callee (f := 15) rfl ?_); refine goesL_ (some 13) rfl rfl Try.func15 (by kernel_rfl) rfl #[.float .f64 a0, .float .f64 a2] rfl (by (try simp only [List.map_toArray, List.map_cons, List.map_nil]); first | done | rfl | (simp only [List.length_drop, List.length_take]; rfl)) ?_; (with_reducible refine (real_Share.calls k a0 a2 t126 _ A5.out).mono ?_); rintro e w' ⟨rfl, ⟨nd, rfl⟩⟩; refine ⟨_, rfl, ?_⟩) | ((with_reducible refine gate_callee (f := 15) rfl ?_); refine goesL_ (some 16) rfl rfl Try.func15 (by kernel_rfl) rfl #[.float .f64 a1, .float .f64 a2] rfl (by (try simp only [List.map_toArray, List.map_cons, List.map_nil]); first | done | rfl | (simp only [List.length_drop, List.length_take]; rfl)) ?_; (with_reducible refine (real_Share.calls k a1 a2 t127 _ A6.out).mono ?_); rintro e w' ⟨rfl, ⟨nd, rfl⟩⟩; refine ⟨_, rfl, ?_⟩) | (go_at_call 15; (with_reducible refine (real_Share.calls k 0 a2 t128 _ A13.out).mono ?_); rintro e w' ⟨rfl, ⟨nd, rfl⟩⟩))
                go_ret
                exact ⟨by first | rfl | (simp [errW_none, errW_some] <;> rfl) | (simp [*, errW_none, errW_some] <;> rfl), by repeat (first | (with_reducible first | exact HB.out | apply below_alloc | apply pw_below_drewN | apply below_drew1) | exact HB.out)⟩
            · rw [if_neg c12] at H
              have c12b0 : (FloatKind.f64.format.order a2 0 == some .gt) = false := Bool.eq_false_iff.mpr c12
              clear c12
              obtain rfl := Option.some.inj H
              go_enter Try.func4, Try.ntmps4
              go_wp2_with (first | ((with_reducible refine gate_callee (f := 12) rfl ?_); refine goesL_ (some 10) rfl rfl Try.func12 (by kernel_rfl) rfl #[] rfl (by (try simp only [List.map_toArray, List.map_cons, List.map_nil]); first | done | rfl | (simp only [List.length_drop, List.length_take]; rfl)) ?_; (with_reducible refine (tabulariumlaw03_examples.calls k  true _ A4.out).mono ?_); rintro e w17 ⟨rfl, hb⟩; refine ⟨_, rfl, ?_⟩; have n0_ := Aside0.mk (below_step (by repeat (first | (with_reducible first | exact HB.out | apply below_alloc | apply pw_below_drewN | apply below_drew1) | exact HB.out)) hb); clear HB; have HB := n0_; clear n0_; (try clear hb); (try clear hb2); (try clear hk); (try clear hi)) | ((with_reducible refine gate_callee (f := 15) rfl ?_); refine goesL_ (some 13) rfl rfl Try.func15 (by kernel_rfl) rfl #[.float .f64 a0, .float .f64 a2] rfl (by (try simp only [List.map_toArray, List.map_cons, List.map_nil]); first | done | rfl | (simp only [List.length_drop, List.length_take]; rfl)) ?_; (with_reducible refine (real_Share.calls k a0 a2 t126 _ A5.out).mono ?_); rintro e w' ⟨rfl, ⟨nd, rfl⟩⟩; refine ⟨_, rfl, ?_⟩) | ((with_reducible refine gate_callee (f := 15) rfl ?_); refine goesL_ (some 16) rfl rfl Try.func15 (by kernel_rfl) rfl #[.float .f64 a1, .float .f64 a2] rfl (by (try simp only [List.map_toArray, List.map_cons, List.map_nil]); first | done | rfl | (simp only [List.length_drop, List.length_take]; rfl)) ?_; (with_reducible refine (real_Share.calls k a1 a2 t127 _ A6.out).mono ?_); rintro e w' ⟨rfl, ⟨nd, rfl⟩⟩; refine ⟨_, rfl, ?_⟩))
              go_ret
              exact ⟨by first | rfl | (simp [errW_none, errW_some] <;> rfl) | (simp [*, errW_none, errW_some] <;> rfl), by repeat (first | (with_reducible first | exact HB.out | apply below_alloc | apply pw_below_drewN | apply below_drew1) | exact HB.out)⟩
          · rw [if_neg c11] at H
            have c11b0 : (FloatKind.f64.format.order t126 t127 == some .lt || FloatKind.f64.format.order t126 t127 == some .eq) = false := Bool.eq_false_iff.mpr c11
            clear c11
            obtain rfl := Option.some.inj H
            go_enter Try.func4, Try.ntmps4
            go_wp2_with (first | ((with_reducible refine gate_callee (f := 12) rfl ?_); refine goesL_ (some 10) rfl rfl Try.func12 (by kernel_rfl) rfl #[] rfl (by (try simp only [List.map_toArray, List.map_cons, List.map_nil]); first | done | rfl | (simp only [List.length_drop, List.length_take]; rfl)) ?_; (with_reducible refine (tabulariumlaw03_examples.calls k  true _ A4.out).mono ?_); rintro e w18 ⟨rfl, hb⟩; refine ⟨_, rfl, ?_⟩; have n0_ := Aside0.mk (below_step (by repeat (first | (with_reducible first | exact HB.out | apply below_alloc | apply pw_below_drewN | apply below_drew1) | exact HB.out)) hb); clear HB; have HB := n0_; clear n0_; (try clear hb); (try clear hb2); (try clear hk); (try clear hi)) | ((with_reducible refine gate_callee (f := 15) rfl ?_); refine goesL_ (some 13) rfl rfl Try.func15 (by kernel_rfl) rfl #[.float .f64 a0, .float .f64 a2] rfl (by (try simp only [List.map_toArray, List.map_cons, List.map_nil]); first | done | rfl | (simp only [List.length_drop, List.length_take]; rfl)) ?_; (with_reducible refine (real_Share.calls k a0 a2 t126 _ A5.out).mono ?_); rintro e w' ⟨rfl, ⟨nd, rfl⟩⟩; refine ⟨_, rfl, ?_⟩) | ((with_reducible refine gate_callee (f := 15) rfl ?_); refine goesL_ (some 16) rfl rfl Try.func15 (by kernel_rfl) rfl #[.float .f64 a1, .float .f64 a2] rfl (by (try simp only [List.map_toArray, List.map_cons, List.map_nil]); first | done | rfl | (simp only [List.length_drop, List.length_take]; rfl)) ?_; (with_reducible refine (real_Share.calls k a1 a2 t127 _ A6.out).mono ?_); rintro e w' ⟨rfl, ⟨nd, rfl⟩⟩; refine ⟨_, rfl, ?_⟩))
            go_ret
            exact ⟨by first | rfl | (simp [errW_none, errW_some] <;> rfl) | (simp [*, errW_none, errW_some] <;> rfl), by repeat (first | (with_reducible first | exact HB.out | apply below_alloc | apply pw_below_drewN | apply below_drew1) | exact HB.out)⟩
        · rw [if_neg c10] at H
          have c10b0 : (FloatKind.f64.format.order a0 a1 == some .lt || FloatKind.f64.format.order a0 a1 == some .eq) = false := Bool.eq_false_iff.mpr c10
          clear c10
          by_cases c19 : (FloatKind.f64.format.order a2 0 == some .gt) = true
          · rw [if_pos c19] at H
            have c19b0 : (FloatKind.f64.format.order a2 0 == some .gt) = true := c19
            clear c19
            replace H := Option.bind_eq_some_iff.mp H
            obtain ⟨t129, A200, H⟩ := H
            replace H : (if (FloatKind.f64.format.order t129 0 == some .eq) = true then (some true) else (some false)) = some r := H
            have A20 := Aside0.mk A200
            clear A200
            by_cases c21 : (FloatKind.f64.format.order t129 0 == some .eq) = true
            · rw [if_pos c21] at H
              have c21b0 : (FloatKind.f64.format.order t129 0 == some .eq) = true := c21
              clear c21
              obtain rfl := Option.some.inj H
              go_enter Try.func4, Try.ntmps4
              go_wp2_with (first | ((with_reducible refine gate_callee (f := 12) rfl ?_); refine goesL_ (some 10) rfl rfl Try.func12 (by kernel_rfl) rfl #[] rfl (by (try simp only [List.map_toArray, List.map_cons, List.map_nil]); first | done | rfl | (simp only [List.length_drop, List.length_take]; rfl)) ?_; (with_reducible refine (tabulariumlaw03_examples.calls k  true _ A4.out).mono ?_); rintro e w22 ⟨rfl, hb⟩; refine ⟨_, rfl, ?_⟩; have n0_ := Aside0.mk (below_step (by repeat (first | (with_reducible first | exact HB.out | apply below_alloc | apply pw_below_drewN | apply below_drew1) | exact HB.out)) hb); clear HB; have HB := n0_; clear n0_; (try clear hb); (try clear hb2); (try clear hk); (try clear hi)) | ((with_reducible refine gate_callee (f := 15) rfl ?_); refine goesL_ (some 13) rfl rfl Try.func15 (by kernel_rfl) rfl #[.float .f64 a0, .float .f64 a2] rfl (by (try simp only [List.map_toArray, List.map_cons, List.map_nil]); first | done | rfl | (simp only [List.length_drop, List.length_take]; rfl)) ?_; (with_reducible refine (real_Share.calls k a0 a2 t126 _ A5.out).mono ?_); rintro e w' ⟨rfl, ⟨nd, rfl⟩⟩; refine ⟨_, rfl, ?_⟩) | ((with_reducible refine gate_callee (f := 15) rfl ?_); refine goesL_ (some 16) rfl rfl Try.func15 (by kernel_rfl) rfl #[.float .f64 a1, .float .f64 a2] rfl (by (try simp only [List.map_toArray, List.map_cons, List.map_nil]); first | done | rfl | (simp only [List.length_drop, List.length_take]; rfl)) ?_; (with_reducible refine (real_Share.calls k a1 a2 t127 _ A6.out).mono ?_); rintro e w' ⟨rfl, ⟨nd, rfl⟩⟩; refine ⟨_, rfl, ?_⟩) | (go_at_call 15; (with_reducible refine (real_Share.calls k 0 a2 t129 _ A20.out).mono ?_); rintro e w' ⟨rfl, ⟨nd, rfl⟩⟩))
              go_ret
              exact ⟨by first | rfl | (simp [errW_none, errW_some] <;> rfl) | (simp [*, errW_none, errW_some] <;> rfl), by repeat (first | (with_reducible first | exact HB.out | apply below_alloc | apply pw_below_drewN | apply below_drew1) | exact HB.out)⟩
            · rw [if_neg c21] at H
              have c21b0 : (FloatKind.f64.format.order t129 0 == some .eq) = false := Bool.eq_false_iff.mpr c21
              clear c21
              obtain rfl := Option.some.inj H
              go_enter Try.func4, Try.ntmps4
              go_wp2_with (first | ((with_reducible refine gate_callee (f := 12) rfl ?_); refine goesL_ (some 10) rfl rfl Try.func12 (by kernel_rfl) rfl #[] rfl (by (try simp only [List.map_toArray, List.map_cons, List.map_nil]); first | done | rfl | (simp only [List.length_drop, List.length_take]; rfl)) ?_; (with_reducible refine (tabulariumlaw03_examples.calls k  true _ A4.out).mono ?_); rintro e w23 ⟨rfl, hb⟩; refine ⟨_, rfl, ?_⟩; have n0_ := Aside0.mk (below_step (by repeat (first | (with_reducible first | exact HB.out | apply below_alloc | apply pw_below_drewN | apply below_drew1) | exact HB.out)) hb); clear HB; have HB := n0_; clear n0_; (try clear hb); (try clear hb2); (try clear hk); (try clear hi)) | ((with_reducible refine gate_callee (f := 15) rfl ?_); refine goesL_ (some 13) rfl rfl Try.func15 (by kernel_rfl) rfl #[.float .f64 a0, .float .f64 a2] rfl (by (try simp only [List.map_toArray, List.map_cons, List.map_nil]); first | done | rfl | (simp only [List.length_drop, List.length_take]; rfl)) ?_; (with_reducible refine (real_Share.calls k a0 a2 t126 _ A5.out).mono ?_); rintro e w' ⟨rfl, ⟨nd, rfl⟩⟩; refine ⟨_, rfl, ?_⟩) | ((with_reducible refine gate_callee (f := 15) rfl ?_); refine goesL_ (some 16) rfl rfl Try.func15 (by kernel_rfl) rfl #[.float .f64 a1, .float .f64 a2] rfl (by (try simp only [List.map_toArray, List.map_cons, List.map_nil]); first | done | rfl | (simp only [List.length_drop, List.length_take]; rfl)) ?_; (with_reducible refine (real_Share.calls k a1 a2 t127 _ A6.out).mono ?_); rintro e w' ⟨rfl, ⟨nd, rfl⟩⟩; refine ⟨_, rfl, ?_⟩) | (go_at_call 15; (with_reducible refine (real_Share.calls k 0 a2 t129 _ A20.out).mono ?_); rintro e w' ⟨rfl, ⟨nd, rfl⟩⟩))
              go_ret
              exact ⟨by first | rfl | (simp [errW_none, errW_some] <;> rfl) | (simp [*, errW_none, errW_some] <;> rfl), by repeat (first | (with_reducible first | exact HB.out | apply below_alloc | apply pw_below_drewN | apply below_drew1) | exact HB.out)⟩
          · rw [if_neg c19] at H
            have c19b0 : (FloatKind.f64.format.order a2 0 == some .gt) = false := Bool.eq_false_iff.mpr c19
            clear c19
            obtain rfl := Option.some.inj H
            go_enter Try.func4, Try.ntmps4
            go_wp2_with (first | ((with_reducible refine gate_callee (f := 12) rfl ?_); refine goesL_ (some 10) rfl rfl Try.func12 (by kernel_rfl) rfl #[] rfl (by (try simp only [List.map_toArray, List.map_cons, List.map_nil]); first | done | rfl | (simp only [List.length_drop, List.length_take]; rfl)) ?_; (with_reducible refine (tabulariumlaw03_examples.calls k  true _ A4.out).mono ?_); rintro e w24 ⟨rfl, hb⟩; refine ⟨_, rfl, ?_⟩; have n0_ := Aside0.mk (below_step (by repeat (first | (with_reducible first | exact HB.out | apply below_alloc | apply pw_below_drewN | apply below_drew1) | exact HB.out)) hb); clear HB; have HB := n0_; clear n0_; (try clear hb); (try clear hb2); (try clear hk); (try clear hi)) | ((with_reducible refine gate_callee (f := 15) rfl ?_); refine goesL_ (some 13) rfl rfl Try.func15 (by kernel_rfl) rfl #[.float .f64 a0, .float .f64 a2] rfl (by (try simp only [List.map_toArray, List.map_cons, List.map_nil]); first | done | rfl | (simp only [List.length_drop, List.length_take]; rfl)) ?_; (with_reducible refine (real_Share.calls k a0 a2 t126 _ A5.out).mono ?_); rintro e w' ⟨rfl, ⟨nd, rfl⟩⟩; refine ⟨_, rfl, ?_⟩) | ((with_reducible refine gate_callee (f := 15) rfl ?_); refine goesL_ (some 16) rfl rfl Try.func15 (by kernel_rfl) rfl #[.float .f64 a1, .float .f64 a2] rfl (by (try simp only [List.map_toArray, List.map_cons, List.map_nil]); first | done | rfl | (simp only [List.length_drop, List.length_take]; rfl)) ?_; (with_reducible refine (real_Share.calls k a1 a2 t127 _ A6.out).mono ?_); rintro e w' ⟨rfl, ⟨nd, rfl⟩⟩; refine ⟨_, rfl, ?_⟩))
            go_ret
            exact ⟨by first | rfl | (simp [errW_none, errW_some] <;> rfl) | (simp [*, errW_none, errW_some] <;> rfl), by repeat (first | (with_reducible first | exact HB.out | apply below_alloc | apply pw_below_drewN | apply below_drew1) | exact HB.out)⟩
      · replace c9 := Bool.eq_false_iff.mpr c9
        subst c9
        have H1 : (some false) = some r := by rw [if_neg (show ¬ (false = true) by decide)] at H; exact H
        clear H
        have H := H1
        clear H1
        obtain rfl := Option.some.inj H
        go_enter Try.func4, Try.ntmps4
        go_wp2_with (first | ((with_reducible refine gate_callee (f := 12) rfl ?_); refine goesL_ (some 10) rfl rfl Try.func12 (by kernel_rfl) rfl #[] rfl (by (try simp only [List.map_toArray, List.map_cons, List.map_nil]); first | done | rfl | (simp only [List.length_drop, List.length_take]; rfl)) ?_; (with_reducible refine (tabulariumlaw03_examples.calls k  false _ A4.out).mono ?_); rintro e w25 ⟨rfl, hb⟩; refine ⟨_, rfl, ?_⟩; have n0_ := Aside0.mk (below_step (by repeat (first | (with_reducible first | exact HB.out | apply below_alloc | apply pw_below_drewN | apply below_drew1) | exact HB.out)) hb); clear HB; have HB := n0_; clear n0_; (try clear hb); (try clear hb2); (try clear hk); (try clear hi)) | ((with_reducible refine gate_callee (f := 15) rfl ?_); refine goesL_ (some 13) rfl rfl Try.func15 (by kernel_rfl) rfl #[.float .f64 a0, .float .f64 a2] rfl (by (try simp only [List.map_toArray, List.map_cons, List.map_nil]); first | done | rfl | (simp only [List.length_drop, List.length_take]; rfl)) ?_; (with_reducible refine (real_Share.calls k a0 a2 t126 _ A5.out).mono ?_); rintro e w' ⟨rfl, ⟨nd, rfl⟩⟩; refine ⟨_, rfl, ?_⟩) | ((with_reducible refine gate_callee (f := 15) rfl ?_); refine goesL_ (some 16) rfl rfl Try.func15 (by kernel_rfl) rfl #[.float .f64 a1, .float .f64 a2] rfl (by (try simp only [List.map_toArray, List.map_cons, List.map_nil]); first | done | rfl | (simp only [List.length_drop, List.length_take]; rfl)) ?_; (with_reducible refine (real_Share.calls k a1 a2 t127 _ A6.out).mono ?_); rintro e w' ⟨rfl, ⟨nd, rfl⟩⟩; refine ⟨_, rfl, ?_⟩))
        go_ret
        exact ⟨by first | rfl | (simp [errW_none, errW_some] <;> rfl) | (simp [*, errW_none, errW_some] <;> rfl), by repeat (first | (with_reducible first | exact HB.out | apply below_alloc | apply pw_below_drewN | apply below_drew1) | exact HB.out)⟩
    · rw [if_neg c8] at H
      have c8b0 : (FloatKind.f64.format.order t126 4607182418800017408 == some .lt || FloatKind.f64.format.order t126 4607182418800017408 == some .eq) = false := Bool.eq_false_iff.mpr c8
      clear c8
      obtain rfl := Option.some.inj H
      go_enter Try.func4, Try.ntmps4
      go_wp2_with (first | ((with_reducible refine gate_callee (f := 12) rfl ?_); refine goesL_ (some 10) rfl rfl Try.func12 (by kernel_rfl) rfl #[] rfl (by (try simp only [List.map_toArray, List.map_cons, List.map_nil]); first | done | rfl | (simp only [List.length_drop, List.length_take]; rfl)) ?_; (with_reducible refine (tabulariumlaw03_examples.calls k  t125 _ A4.out).mono ?_); rintro e w26 ⟨rfl, hb⟩; refine ⟨_, rfl, ?_⟩; have n0_ := Aside0.mk (below_step (by repeat (first | (with_reducible first | exact HB.out | apply below_alloc | apply pw_below_drewN | apply below_drew1) | exact HB.out)) hb); clear HB; have HB := n0_; clear n0_; (try clear hb); (try clear hb2); (try clear hk); (try clear hi)) | ((with_reducible refine gate_callee (f := 15) rfl ?_); refine goesL_ (some 13) rfl rfl Try.func15 (by kernel_rfl) rfl #[.float .f64 a0, .float .f64 a2] rfl (by (try simp only [List.map_toArray, List.map_cons, List.map_nil]); first | done | rfl | (simp only [List.length_drop, List.length_take]; rfl)) ?_; (with_reducible refine (real_Share.calls k a0 a2 t126 _ A5.out).mono ?_); rintro e w' ⟨rfl, ⟨nd, rfl⟩⟩; refine ⟨_, rfl, ?_⟩) | ((with_reducible refine gate_callee (f := 15) rfl ?_); refine goesL_ (some 16) rfl rfl Try.func15 (by kernel_rfl) rfl #[.float .f64 a1, .float .f64 a2] rfl (by (try simp only [List.map_toArray, List.map_cons, List.map_nil]); first | done | rfl | (simp only [List.length_drop, List.length_take]; rfl)) ?_; (with_reducible refine (real_Share.calls k a1 a2 t127 _ A6.out).mono ?_); rintro e w' ⟨rfl, ⟨nd, rfl⟩⟩; refine ⟨_, rfl, ?_⟩))
      go_ret
      exact ⟨by first | rfl | (simp [errW_none, errW_some] <;> rfl) | (simp [*, errW_none, errW_some] <;> rfl), by repeat (first | (with_reducible first | exact HB.out | apply below_alloc | apply pw_below_drewN | apply below_drew1) | exact HB.out)⟩
  · rw [if_neg c7] at H
    have c7b0 : (FloatKind.f64.format.order t126 0 == some .gt || FloatKind.f64.format.order t126 0 == some .eq) = false := Bool.eq_false_iff.mpr c7
    clear c7
    obtain rfl := Option.some.inj H
    go_enter Try.func4, Try.ntmps4
    go_wp2_with (first | ((with_reducible refine gate_callee (f := 12) rfl ?_); refine goesL_ (some 10) rfl rfl Try.func12 (by kernel_rfl) rfl #[] rfl (by (try simp only [List.map_toArray, List.map_cons, List.map_nil]); first | done | rfl | (simp only [List.length_drop, List.length_take]; rfl)) ?_; (with_reducible refine (tabulariumlaw03_examples.calls k  t125 _ A4.out).mono ?_); rintro e w27 ⟨rfl, hb⟩; refine ⟨_, rfl, ?_⟩; have n0_ := Aside0.mk (below_step (by repeat (first | (with_reducible first | exact HB.out | apply below_alloc | apply pw_below_drewN | apply below_drew1) | exact HB.out)) hb); clear HB; have HB := n0_; clear n0_; (try clear hb); (try clear hb2); (try clear hk); (try clear hi)) | ((with_reducible refine gate_callee (f := 15) rfl ?_); refine goesL_ (some 13) rfl rfl Try.func15 (by kernel_rfl) rfl #[.float .f64 a0, .float .f64 a2] rfl (by (try simp only [List.map_toArray, List.map_cons, List.map_nil]); first | done | rfl | (simp only [List.length_drop, List.length_take]; rfl)) ?_; (with_reducible refine (real_Share.calls k a0 a2 t126 _ A5.out).mono ?_); rintro e w' ⟨rfl, ⟨nd, rfl⟩⟩; refine ⟨_, rfl, ?_⟩) | ((with_reducible refine gate_callee (f := 15) rfl ?_); refine goesL_ (some 16) rfl rfl Try.func15 (by kernel_rfl) rfl #[.float .f64 a1, .float .f64 a2] rfl (by (try simp only [List.map_toArray, List.map_cons, List.map_nil]); first | done | rfl | (simp only [List.length_drop, List.length_take]; rfl)) ?_; (with_reducible refine (real_Share.calls k a1 a2 t127 _ A6.out).mono ?_); rintro e w' ⟨rfl, ⟨nd, rfl⟩⟩; refine ⟨_, rfl, ?_⟩))
    go_ret
    exact ⟨by first | rfl | (simp [errW_none, errW_some] <;> rfl) | (simp [*, errW_none, errW_some] <;> rfl), by repeat (first | (with_reducible first | exact HB.out | apply below_alloc | apply pw_below_drewN | apply below_drew1) | exact HB.out)⟩

/-- THE ONE PURE STATEMENT of tabulariumlaw03_RealShares: yours. -/
def tabulariumlaw03_RealShares.Pure : Prop := ∀ (a0 : Nat) (a1 : Nat) (a2 : Nat), (Lit.float .f64 a0).wf = true → (Lit.float .f64 a1).wf = true → (Lit.float .f64 a2).wf = true → ∃ k, tabulariumlaw03_RealShares.f k a0 a1 a2 = some true
theorem tabulariumlaw03_RealShares.walk (P : tabulariumlaw03_RealShares.Pure) (a0 : Nat) (a1 : Nat) (a2 : Nat) (w : World) (w0 : (Lit.float .f64 a0).wf = true) (w1 : (Lit.float .f64 a1).wf = true) (w2 : (Lit.float .f64 a2).wf = true) :
    Calls Try.prog 4 #[.float .f64 a0, .float .f64 a1, .float .f64 a2] w fun e w' => e = .returned (.bool true) ∧ Below w.heap.size w w' := by
  obtain ⟨k, h⟩ := P a0 a1 a2 w0 w1 w2
  refine (tabulariumlaw03_RealShares.calls k a0 a1 a2 true w h).mono ?_
  rintro e w' ⟨rfl, hd⟩
  exact ⟨rfl, hd⟩

end Go.Proofs.Ytoncmgkgflomlaa.P
