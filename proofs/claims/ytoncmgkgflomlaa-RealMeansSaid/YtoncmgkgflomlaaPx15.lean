/- The Go functions of this seat as plain Lean functions, and for each the proof that its call gives what the plain function gives. Printed by a program of this session. -/
import Derived.Test.YtoncmgkgflomlaaPx0
import Derived.Test.YtoncmgkgflomlaaPx2
import Derived.Test.YtoncmgkgflomlaaPx3
import Derived.Test.YtoncmgkgflomlaaPx12
namespace Go.Proofs.Ytoncmgkgflomlaa.P
open Go.RowKit Go.Proofs.YtoncmgkgflomlaaW.PrintWords Go.Proofs.YtoncmgkgflomlaaW.PrintLast Go.Proofs.YtoncmgkgflomlaaW.PrintMore
attribute [local go_sem] max2_int min2_int max_two min_two max_three min_three max_four min_four   -- for this text's walks alone
set_option linter.unusedVariables false
set_option linter.unusedSimpArgs false

/-! ### tabulariumlaw03_RealMeans: function 9 -/
mutual
def tabulariumlaw03_RealMeans.l0 : Nat → List Int → Nat → Bool → List Nat → List Nat → Nat → Nat → Int → Option (Bool)
  | 0, _, _, _, _, _, _, _, _ => none
  | k + 1, x0, x1, x5, x6, x7, x8, x9, x10 => if x10 < (x0.length : Int) then (tabulariumlaw03_RealMeans.j1 k x0 x1 x5 x6 x7 x8 x9 x10 (decide (x10 < 50))) else (tabulariumlaw03_RealMeans.j1 k x0 x1 x5 x6 x7 x8 x9 x10 false)
def tabulariumlaw03_RealMeans.j1 : Nat → List Int → Nat → Bool → List Nat → List Nat → Nat → Nat → Int → Bool → Option (Bool)
  | 0, _, _, _, _, _, _, _, _, _ => none
  | k + 1, x0, x1, x5, x6, x7, x8, x9, x10, x22 => if x22 = true then (if 0 ≤ x10 then (if x10 < (x0.length : Int) then (if (rd x0 x10) < 0 then (if (FloatKind.f64.format.order x8 (floatOfInt .f64 (wrap64 ((Int.tmod (wrap64 (-(wrap64 ((rd x0 x10) + 1)))) 2001) - 1000)))).isSome = true then (if (FloatKind.f64.format.order x9 (floatOfInt .f64 (wrap64 ((Int.tmod (wrap64 (-(wrap64 ((rd x0 x10) + 1)))) 2001) - 1000)))).isSome = true then (if x6.length < 17592186044416 then ((math_NaN.f).bind fun t178 => ((math_Inf.f 1).bind fun t179 => ((math_Inf.f (-1)).bind fun t180 => ((some (([floatOfInt .f64 (wrap64 ((Int.tmod (wrap64 (-(wrap64 ((rd x0 x10) + 1)))) 2001) - 1000)), t178, t179, t180] : List Nat) : List Nat)).bind fun y181 => (if x7.length + y181.length < 17592186044416 then (tabulariumlaw03_RealMeans.l0 k x0 x1 x5 (x6 ++ [floatOfInt .f64 (wrap64 ((Int.tmod (wrap64 (-(wrap64 ((rd x0 x10) + 1)))) 2001) - 1000))]) (x7 ++ y181) (fmn x8 (floatOfInt .f64 (wrap64 ((Int.tmod (wrap64 (-(wrap64 ((rd x0 x10) + 1)))) 2001) - 1000)))) (fmx x9 (floatOfInt .f64 (wrap64 ((Int.tmod (wrap64 (-(wrap64 ((rd x0 x10) + 1)))) 2001) - 1000)))) (wrap64 (x10 + 1))) else (none)))))) else (none)) else (none)) else (none)) else (if (FloatKind.f64.format.order x8 (floatOfInt .f64 (wrap64 ((Int.tmod (rd x0 x10) 2001) - 1000)))).isSome = true then (if (FloatKind.f64.format.order x9 (floatOfInt .f64 (wrap64 ((Int.tmod (rd x0 x10) 2001) - 1000)))).isSome = true then (if x6.length < 17592186044416 then ((math_NaN.f).bind fun t190 => ((math_Inf.f 1).bind fun t191 => ((math_Inf.f (-1)).bind fun t192 => ((some (([floatOfInt .f64 (wrap64 ((Int.tmod (rd x0 x10) 2001) - 1000)), t190, t191, t192] : List Nat) : List Nat)).bind fun y193 => (if x7.length + y193.length < 17592186044416 then (tabulariumlaw03_RealMeans.l0 k x0 x1 x5 (x6 ++ [floatOfInt .f64 (wrap64 ((Int.tmod (rd x0 x10) 2001) - 1000))]) (x7 ++ y193) (fmn x8 (floatOfInt .f64 (wrap64 ((Int.tmod (rd x0 x10) 2001) - 1000)))) (fmx x9 (floatOfInt .f64 (wrap64 ((Int.tmod (rd x0 x10) 2001) - 1000)))) (wrap64 (x10 + 1))) else (none)))))) else (none)) else (none)) else (none))) else (none)) else (none)) else ((real_Mean.f k x6).bind fun t199 => (if (x6.length : Int) = 0 then (if x5 = true then (if (FloatKind.f64.format.order t199 0 == some .eq) = true then (if (FloatKind.f64.format.order x1 x1 != some .eq) = true then ((real_Mean.f k (([x1] : List Nat))).bind fun t203 => (some (FloatKind.f64.format.order t203 0 == some .eq))) else (if (FloatKind.f64.format.sub x1 x1).isSome = true then (if (FloatKind.f64.format.order ((FloatKind.f64.format.sub x1 x1).getD 0) 0 != some .eq) = true then ((real_Mean.f k (([x1] : List Nat))).bind fun t207 => (some (FloatKind.f64.format.order t207 0 == some .eq))) else (some true)) else ((real_Mean.f k (([x1] : List Nat))).bind fun t211 => (some (FloatKind.f64.format.order t211 0 == some .eq))))) else (some false)) else (some false)) else (if x5 = true then (if (FloatKind.f64.format.order t199 x8 == some .gt || FloatKind.f64.format.order t199 x8 == some .eq) = true then (if (FloatKind.f64.format.order t199 x9 == some .lt || FloatKind.f64.format.order t199 x9 == some .eq) = true then ((real_Mean.f k x7).bind fun t212 => (some (FloatKind.f64.format.order t212 t199 == some .eq))) else (some false)) else (some false)) else (some false))))
end
def tabulariumlaw03_RealMeans.f (k : Nat) (l0 : List Int) (a1 : Nat) : Option (Bool) := (tabulariumlaw03_examples.f k).bind fun t173 => (tabulariumlaw03_RealMeans.l0 k l0 a1 t173 ([] : List Nat) ([] : List Nat) 4652007308841189376 13875379345695965184 0)
theorem tabulariumlaw03_RealMeans.mono_l : ∀ k, (∀ y0 y1 y2 y3 y4 y5 y6 y7, LeO (tabulariumlaw03_RealMeans.l0 k y0 y1 y2 y3 y4 y5 y6 y7) (tabulariumlaw03_RealMeans.l0 (k + 1) y0 y1 y2 y3 y4 y5 y6 y7)) ∧ (∀ y0 y1 y2 y3 y4 y5 y6 y7 y8, LeO (tabulariumlaw03_RealMeans.j1 k y0 y1 y2 y3 y4 y5 y6 y7 y8) (tabulariumlaw03_RealMeans.j1 (k + 1) y0 y1 y2 y3 y4 y5 y6 y7 y8))
  | 0 => ⟨fun _ _ _ _ _ _ _ _ r h => by simp [tabulariumlaw03_RealMeans.l0] at h, fun _ _ _ _ _ _ _ _ _ r h => by simp [tabulariumlaw03_RealMeans.j1] at h⟩
  | k + 1 => by
    obtain ⟨ih0, ih1⟩ := tabulariumlaw03_RealMeans.mono_l k
    refine ⟨?_, ?_⟩
    · intro y0 y1 y2 y3 y4 y5 y6 y7
      unfold tabulariumlaw03_RealMeans.l0
      repeat' first
      | (with_reducible exact ih0 _ _ _ _ _ _ _ _)
      | (with_reducible exact ih1 _ _ _ _ _ _ _ _ _)
      | (with_reducible exact real_Mean.mono _ _)
      | (with_reducible exact tabulariumlaw03_examples.mono _)
      | (with_reducible exact LeO.refl _)
      | (with_reducible exact LeO.none _)
      | (with_reducible refine LeO.ite ?_ ?_)
      | (with_reducible refine LeO.bind ?_ (fun _ => ?_))
      | exact ih0 _ _ _ _ _ _ _ _
      | exact ih1 _ _ _ _ _ _ _ _ _
      | exact real_Mean.mono _ _
      | exact tabulariumlaw03_examples.mono _
      | exact LeO.none _
      | refine LeO.ite ?_ ?_
      | refine LeO.bind ?_ (fun _ => ?_)
    · intro y0 y1 y2 y3 y4 y5 y6 y7 y8
      unfold tabulariumlaw03_RealMeans.j1
      repeat' first
      | (with_reducible exact ih0 _ _ _ _ _ _ _ _)
      | (with_reducible exact ih1 _ _ _ _ _ _ _ _ _)
      | (with_reducible exact real_Mean.mono _ _)
      | (with_reducible exact tabulariumlaw03_examples.mono _)
      | (with_reducible exact LeO.refl _)
      | (with_reducible exact LeO.none _)
      | (with_reducible refine LeO.ite ?_ ?_)
      | (with_reducible refine LeO.bind ?_ (fun _ => ?_))
      | exact ih0 _ _ _ _ _ _ _ _
      | exact ih1 _ _ _ _ _ _ _ _ _
      | exact real_Mean.mono _ _
      | exact tabulariumlaw03_examples.mono _
      | exact LeO.none _
      | refine LeO.ite ?_ ?_
      | refine LeO.bind ?_ (fun _ => ?_)
theorem tabulariumlaw03_RealMeans.mono : ∀ a0 a1 k, LeO (tabulariumlaw03_RealMeans.f k a0 a1) (tabulariumlaw03_RealMeans.f (k + 1) a0 a1) := by
  intro a0 a1 k
  obtain ⟨ih0, ih1⟩ := tabulariumlaw03_RealMeans.mono_l k
  unfold tabulariumlaw03_RealMeans.f
  repeat' first
      | (with_reducible exact ih0 _ _ _ _ _ _ _ _)
      | (with_reducible exact ih1 _ _ _ _ _ _ _ _ _)
      | (with_reducible exact real_Mean.mono _ _)
      | (with_reducible exact tabulariumlaw03_examples.mono _)
      | (with_reducible exact LeO.refl _)
      | (with_reducible exact LeO.none _)
      | (with_reducible refine LeO.ite ?_ ?_)
      | (with_reducible refine LeO.bind ?_ (fun _ => ?_))
      | exact ih0 _ _ _ _ _ _ _ _
      | exact ih1 _ _ _ _ _ _ _ _ _
      | exact real_Mean.mono _ _
      | exact tabulariumlaw03_examples.mono _
      | exact LeO.none _
      | refine LeO.ite ?_ ?_
      | refine LeO.bind ?_ (fun _ => ?_)
set_option maxHeartbeats 8000000 in
set_option maxRecDepth 100000 in
theorem tabulariumlaw03_RealMeans.calls (k : Nat) (A0 : Option Addr) (c0 : Nat) (l0 : List Int) (a1 : Nat) (r : Bool) (w : World) (hr0 : Kd.C (Kd.int .i64) w A0 l0.length l0) (hc0 : l0.length ≤ c0) (h : tabulariumlaw03_RealMeans.f k l0 a1 = some r) :
    Calls Try.prog 9 #[.slice A0 l0.length c0, .float .f64 a1] w fun e w' => e = .returned (.bool r) ∧ Below w.heap.size w w' := by
  have HR0 := Aside0.mk hr0
  have HC0 := Aside0.mk hc0
  clear hr0 hc0
  have HB := Aside0.mk (Below.refl w.heap.size w)
  have H : ((tabulariumlaw03_examples.f k).bind fun t173 => (tabulariumlaw03_RealMeans.l0 k l0 a1 t173 ([] : List Nat) ([] : List Nat) 4652007308841189376 13875379345695965184 0)) = some r := h
  clear h
  replace H := Option.bind_eq_some_iff.mp H
  obtain ⟨t173, A30, H⟩ := H
  replace H : (tabulariumlaw03_RealMeans.l0 k l0 a1 t173 ([] : List Nat) ([] : List Nat) 4652007308841189376 13875379345695965184 0) = some r := H
  have A3 := Aside0.mk A30
  clear A30
  have H' := Aside0.mk H
  clear H
  go_enter Try.func9, Try.ntmps9
  go_wp2_with (first | ((with_reducible refine gate_callee (f := 12) rfl ?_); refine goesL_ (some 14) rfl rfl Try.func12 (by kernel_rfl) rfl #[] rfl (by (try simp only [List.map_toArray, List.map_cons, List.map_nil]); first | done | rfl | (simp only [List.length_drop, List.length_take]; rfl)) ?_; (with_reducible refine (tabulariumlaw03_examples.calls k  t173 _ A3.out).mono ?_); rintro e w4 ⟨rfl, hb⟩; refine ⟨_, rfl, ?_⟩; have n0_ := Aside0.mk (below_step (by repeat (first | (with_reducible first | exact HB.out | apply below_alloc | apply pw_below_drewN | apply below_drew1) | exact HB.out)) hb); clear HB; have HB := n0_; clear n0_; (try clear hb); (try clear hb2); (try clear hk); (try clear hi)))
  go_loopg [6, 7, 8, 9, 10] k (fun kq v6 v7 v8 v9 v10 w' => ∃ (x6_1 : List Nat) (x7_1 : List Nat) (x8_1 : Nat) (x9_1 : Nat) (x10_1 : Int), v8 = .float .f64 x8_1 ∧ v9 = .float .f64 x9_1 ∧ v10 = .int .i64 x10_1 ∧ Aside0 (tabulariumlaw03_RealMeans.l0 kq l0 a1 t173 x6_1 x7_1 x8_1 x9_1 x10_1 = some r) ∧ Aside0 (kq ≤ k) ∧ Aside0 (Kd.R Kd.f64 22 w' w.heap.size (fun k_ => some k_ ≠ (v7 : Value).ownBlock) v6 x6_1) ∧ Aside0 (Kd.R Kd.f64 22 w' w.heap.size (fun k_ => some k_ ≠ (v6 : Value).ownBlock) v7 x7_1) ∧ Aside0 (Below w.heap.size w w'))
  case atStart => exact ⟨(([] : List Nat)), (([] : List Nat)), (4652007308841189376), (13875379345695965184), (0), (by first | rfl | (simp; done) | (simp [*]; done)), (by first | rfl | (simp; done) | (simp [*]; done)), (by first | rfl | (simp; done) | (simp [*]; done)), H', ⟨Nat.le_refl _⟩, ⟨by first | exact Kd.R_nil _ _ _ _ _ | exact Kd.N_nil _ _ _ _ _ | exact Kd.V_nil _ _ _ _ _ | exact Kd.Q_nil _ _ _ _ _ | exact Kd.S_nil _ _ _ _ _⟩, ⟨by first | exact Kd.R_nil _ _ _ _ _ | exact Kd.N_nil _ _ _ _ _ | exact Kd.V_nil _ _ _ _ _ | exact Kd.Q_nil _ _ _ _ _ | exact Kd.S_nil _ _ _ _ _⟩, ⟨by repeat (first | (with_reducible first | exact HB.out | apply below_alloc | apply pw_below_drewN | apply below_drew1) | exact HB.out)⟩⟩
  case round =>
    clear H'
    try clear c1
    try clear p2
    obtain ⟨x6_1, x7_1, x8_1, x9_1, x10_1, rfl, rfl, rfl, HA, HK1, HO_6, HO_7, HB⟩ := hrel
    cases gk with
    | zero => exact absurd HA.out (by simp [tabulariumlaw03_RealMeans.l0])
    | succ k1 =>
      have H := HA.out
      clear HA
      simp only [tabulariumlaw03_RealMeans.l0] at H
      have HC5 := Aside0.mk H
      clear H
      go_upto_region 7 with (fail)
      go_cut [22] (fun v22 wc => ∃ (kq : Nat) (x22_4 : Bool), v22 = .bool x22_4 ∧ Aside0 (tabulariumlaw03_RealMeans.j1 kq l0 a1 t173 x6_1 x7_1 x8_1 x9_1 x10_1 x22_4 = some r) ∧ Aside0 (kq ≤ k1) ∧ Aside0 (Kd.R Kd.f64 22 wc w.heap.size (fun k_ => some k_ ≠ (u7 : Value).ownBlock) u6 x6_1) ∧ Aside0 (Kd.R Kd.f64 22 wc w.heap.size (fun k_ => some k_ ≠ (u6 : Value).ownBlock) u7 x7_1) ∧ Aside0 (Below w.heap.size w wc))
      case first =>
        have H := HC5.out
        clear HC5
        by_cases c6 : x10_1 < (l0.length : Int)
        · rw [if_pos c6] at H
          have c6b0 : decide (x10_1 < (l0.length : Int)) = true := decide_eq_true c6
          clear c6
          (first | rw [c6b0] | (simp only [i64_w, i32_w]; rw [c6b0]) | skip)
          have H' := Aside0.mk H
          clear H
          go_wp2
          go_meet
          case rel => exact ⟨_, (decide (x10_1 < 50)), (by first | rfl | (simp; done) | (simp [*]; done)), H', ⟨by have := HK1.out; first | omega | exact Nat.le_refl _⟩, ⟨by (with_reducible repeat (first | apply Kd.R_alloc | apply Kd.R_drewN | apply Kd.R_drew)); exact HO_6.out⟩, ⟨by (with_reducible repeat (first | apply Kd.R_alloc | apply Kd.R_drewN | apply Kd.R_drew)); exact HO_7.out⟩, ⟨by repeat (first | (with_reducible first | exact HB.out | apply below_alloc | apply pw_below_drewN | apply below_drew1) | exact HB.out)⟩⟩
        · rw [if_neg c6] at H
          have c6b0 : decide (x10_1 < (l0.length : Int)) = false := decide_eq_false c6
          clear c6
          (first | rw [c6b0] | (simp only [i64_w, i32_w]; rw [c6b0]) | skip)
          have H' := Aside0.mk H
          clear H
          go_wp2
          go_meet
          case rel => exact ⟨_, (false), (by first | rfl | (simp; done) | (simp [*]; done)), H', ⟨by have := HK1.out; first | omega | exact Nat.le_refl _⟩, ⟨by (with_reducible repeat (first | apply Kd.R_alloc | apply Kd.R_drewN | apply Kd.R_drew)); exact HO_6.out⟩, ⟨by (with_reducible repeat (first | apply Kd.R_alloc | apply Kd.R_drewN | apply Kd.R_drew)); exact HO_7.out⟩, ⟨by repeat (first | (with_reducible first | exact HB.out | apply below_alloc | apply pw_below_drewN | apply below_drew1) | exact HB.out)⟩⟩
      case rest =>
        clear HC5
        try clear c1
        try clear p2
        try clear c6
        try clear c6b0
        try clear p2
        obtain ⟨kq, x22_4, rfl, HA, HJ4, HO_6, HO_7, HB⟩ := hcut
        cases kq with
        | zero => exact absurd HA.out (by simp [tabulariumlaw03_RealMeans.j1])
        | succ kj4 =>
          have H := HA.out
          clear HA
          simp only [tabulariumlaw03_RealMeans.j1] at H
          by_cases c7 : x22_4 = true
          · subst c7
            have H1 : (if 0 ≤ x10_1 then (if x10_1 < (l0.length : Int) then (if (rd l0 x10_1) < 0 then (if (FloatKind.f64.format.order x8_1 (floatOfInt .f64 (wrap64 ((Int.tmod (wrap64 (-(wrap64 ((rd l0 x10_1) + 1)))) 2001) - 1000)))).isSome = true then (if (FloatKind.f64.format.order x9_1 (floatOfInt .f64 (wrap64 ((Int.tmod (wrap64 (-(wrap64 ((rd l0 x10_1) + 1)))) 2001) - 1000)))).isSome = true then (if x6_1.length < 17592186044416 then ((math_NaN.f).bind fun t178 => ((math_Inf.f 1).bind fun t179 => ((math_Inf.f (-1)).bind fun t180 => ((some (([floatOfInt .f64 (wrap64 ((Int.tmod (wrap64 (-(wrap64 ((rd l0 x10_1) + 1)))) 2001) - 1000)), t178, t179, t180] : List Nat) : List Nat)).bind fun y181 => (if x7_1.length + y181.length < 17592186044416 then (tabulariumlaw03_RealMeans.l0 kj4 l0 a1 t173 (x6_1 ++ [floatOfInt .f64 (wrap64 ((Int.tmod (wrap64 (-(wrap64 ((rd l0 x10_1) + 1)))) 2001) - 1000))]) (x7_1 ++ y181) (fmn x8_1 (floatOfInt .f64 (wrap64 ((Int.tmod (wrap64 (-(wrap64 ((rd l0 x10_1) + 1)))) 2001) - 1000)))) (fmx x9_1 (floatOfInt .f64 (wrap64 ((Int.tmod (wrap64 (-(wrap64 ((rd l0 x10_1) + 1)))) 2001) - 1000)))) (wrap64 (x10_1 + 1))) else (none)))))) else (none)) else (none)) else (none)) else (if (FloatKind.f64.format.order x8_1 (floatOfInt .f64 (wrap64 ((Int.tmod (rd l0 x10_1) 2001) - 1000)))).isSome = true then (if (FloatKind.f64.format.order x9_1 (floatOfInt .f64 (wrap64 ((Int.tmod (rd l0 x10_1) 2001) - 1000)))).isSome = true then (if x6_1.length < 17592186044416 then ((math_NaN.f).bind fun t190 => ((math_Inf.f 1).bind fun t191 => ((math_Inf.f (-1)).bind fun t192 => ((some (([floatOfInt .f64 (wrap64 ((Int.tmod (rd l0 x10_1) 2001) - 1000)), t190, t191, t192] : List Nat) : List Nat)).bind fun y193 => (if x7_1.length + y193.length < 17592186044416 then (tabulariumlaw03_RealMeans.l0 kj4 l0 a1 t173 (x6_1 ++ [floatOfInt .f64 (wrap64 ((Int.tmod (rd l0 x10_1) 2001) - 1000))]) (x7_1 ++ y193) (fmn x8_1 (floatOfInt .f64 (wrap64 ((Int.tmod (rd l0 x10_1) 2001) - 1000)))) (fmx x9_1 (floatOfInt .f64 (wrap64 ((Int.tmod (rd l0 x10_1) 2001) - 1000)))) (wrap64 (x10_1 + 1))) else (none)))))) else (none)) else (none)) else (none))) else (none)) else (none)) = some r := by rw [if_pos rfl] at H; exact H
            clear H
            have H := H1
            clear H1
            by_cases c8 : 0 ≤ x10_1
            · rw [if_pos c8] at H
              have c8b0 : decide (0 ≤ x10_1) = true := decide_eq_true c8
              clear c8
              by_cases c9 : x10_1 < (l0.length : Int)
              · rw [if_pos c9] at H
                have c9b0 : decide (x10_1 < (l0.length : Int)) = true := decide_eq_true c9
                clear c9
                by_cases c10 : (rd l0 x10_1) < 0
                · rw [if_pos c10] at H
                  have c10b0 : decide ((rd l0 x10_1) < 0) = true := decide_eq_true c10
                  clear c10
                  by_cases c11 : (FloatKind.f64.format.order x8_1 (floatOfInt .f64 (wrap64 ((Int.tmod (wrap64 (-(wrap64 ((rd l0 x10_1) + 1)))) 2001) - 1000)))).isSome = true
                  · rw [if_pos c11] at H
                    have c11b0 : (FloatKind.f64.format.order x8_1 (floatOfInt .f64 (wrap64 ((Int.tmod (wrap64 (-(wrap64 ((rd l0 x10_1) + 1)))) 2001) - 1000)))).isSome = true := c11
                    have c11b1 : Builtin.min2 (.float .f64 x8_1) (.float .f64 (floatOfInt .f64 (wrap64 ((Int.tmod (wrap64 (-(wrap64 ((rd l0 x10_1) + 1)))) 2001) - 1000)))) = pure (.float .f64 (fmn x8_1 (floatOfInt .f64 (wrap64 ((Int.tmod (wrap64 (-(wrap64 ((rd l0 x10_1) + 1)))) 2001) - 1000))))) := flt_min2 c11
                    have c11b2 : Builtin.max2 (.float .f64 x8_1) (.float .f64 (floatOfInt .f64 (wrap64 ((Int.tmod (wrap64 (-(wrap64 ((rd l0 x10_1) + 1)))) 2001) - 1000)))) = pure (.float .f64 (fmx x8_1 (floatOfInt .f64 (wrap64 ((Int.tmod (wrap64 (-(wrap64 ((rd l0 x10_1) + 1)))) 2001) - 1000))))) := flt_max2 c11
                    clear c11
                    by_cases c12 : (FloatKind.f64.format.order x9_1 (floatOfInt .f64 (wrap64 ((Int.tmod (wrap64 (-(wrap64 ((rd l0 x10_1) + 1)))) 2001) - 1000)))).isSome = true
                    · rw [if_pos c12] at H
                      have c12b0 : (FloatKind.f64.format.order x9_1 (floatOfInt .f64 (wrap64 ((Int.tmod (wrap64 (-(wrap64 ((rd l0 x10_1) + 1)))) 2001) - 1000)))).isSome = true := c12
                      have c12b1 : Builtin.min2 (.float .f64 x9_1) (.float .f64 (floatOfInt .f64 (wrap64 ((Int.tmod (wrap64 (-(wrap64 ((rd l0 x10_1) + 1)))) 2001) - 1000)))) = pure (.float .f64 (fmn x9_1 (floatOfInt .f64 (wrap64 ((Int.tmod (wrap64 (-(wrap64 ((rd l0 x10_1) + 1)))) 2001) - 1000))))) := flt_min2 c12
                      have c12b2 : Builtin.max2 (.float .f64 x9_1) (.float .f64 (floatOfInt .f64 (wrap64 ((Int.tmod (wrap64 (-(wrap64 ((rd l0 x10_1) + 1)))) 2001) - 1000)))) = pure (.float .f64 (fmx x9_1 (floatOfInt .f64 (wrap64 ((Int.tmod (wrap64 (-(wrap64 ((rd l0 x10_1) + 1)))) 2001) - 1000))))) := flt_max2 c12
                      clear c12
                      by_cases c13 : x6_1.length < 17592186044416
                      · rw [if_pos c13] at H
                        have LMc13 := Aside0.mk c13
                        clear c13
                        obtain ⟨y175, hy175⟩ : ∃ y_ : List Nat, y_ = (x6_1 ++ [floatOfInt .f64 (wrap64 ((Int.tmod (wrap64 (-(wrap64 ((rd l0 x10_1) + 1)))) 2001) - 1000))]) := ⟨_, rfl⟩
                        replace H : ((math_NaN.f).bind fun t178 => ((math_Inf.f 1).bind fun t179 => ((math_Inf.f (-1)).bind fun t180 => ((some (([floatOfInt .f64 (wrap64 ((Int.tmod (wrap64 (-(wrap64 ((rd l0 x10_1) + 1)))) 2001) - 1000)), t178, t179, t180] : List Nat) : List Nat)).bind fun y181 => (if x7_1.length + y181.length < 17592186044416 then (tabulariumlaw03_RealMeans.l0 kj4 l0 a1 t173 y175 (x7_1 ++ y181) (fmn x8_1 (floatOfInt .f64 (wrap64 ((Int.tmod (wrap64 (-(wrap64 ((rd l0 x10_1) + 1)))) 2001) - 1000)))) (fmx x9_1 (floatOfInt .f64 (wrap64 ((Int.tmod (wrap64 (-(wrap64 ((rd l0 x10_1) + 1)))) 2001) - 1000)))) (wrap64 (x10_1 + 1))) else (none)))))) = some r := by first | (rw [hy175]; with_reducible exact H) | (have H2_ := (Option.bind_some _ _).symm.trans H; rw [hy175]; with_reducible exact H2_) | (have H2_ := (Option.bind_some _ _).symm.trans H; with_reducible exact H2_) | with_reducible exact H | (rw [hy175]; exact H) | exact H
                        have Ny175 := Aside0.mk hy175
                        clear hy175
                        replace H := Option.bind_eq_some_iff.mp H
                        obtain ⟨t178, A140, H⟩ := H
                        replace H : ((math_Inf.f 1).bind fun t179 => ((math_Inf.f (-1)).bind fun t180 => ((some (([floatOfInt .f64 (wrap64 ((Int.tmod (wrap64 (-(wrap64 ((rd l0 x10_1) + 1)))) 2001) - 1000)), t178, t179, t180] : List Nat) : List Nat)).bind fun y181 => (if x7_1.length + y181.length < 17592186044416 then (tabulariumlaw03_RealMeans.l0 kj4 l0 a1 t173 y175 (x7_1 ++ y181) (fmn x8_1 (floatOfInt .f64 (wrap64 ((Int.tmod (wrap64 (-(wrap64 ((rd l0 x10_1) + 1)))) 2001) - 1000)))) (fmx x9_1 (floatOfInt .f64 (wrap64 ((Int.tmod (wrap64 (-(wrap64 ((rd l0 x10_1) + 1)))) 2001) - 1000)))) (wrap64 (x10_1 + 1))) else (none))))) = some r := H
                        have A14 := Aside0.mk A140
                        clear A140
                        replace H := Option.bind_eq_some_iff.mp H
                        obtain ⟨t179, A150, H⟩ := H
                        replace H : ((math_Inf.f (-1)).bind fun t180 => ((some (([floatOfInt .f64 (wrap64 ((Int.tmod (wrap64 (-(wrap64 ((rd l0 x10_1) + 1)))) 2001) - 1000)), t178, t179, t180] : List Nat) : List Nat)).bind fun y181 => (if x7_1.length + y181.length < 17592186044416 then (tabulariumlaw03_RealMeans.l0 kj4 l0 a1 t173 y175 (x7_1 ++ y181) (fmn x8_1 (floatOfInt .f64 (wrap64 ((Int.tmod (wrap64 (-(wrap64 ((rd l0 x10_1) + 1)))) 2001) - 1000)))) (fmx x9_1 (floatOfInt .f64 (wrap64 ((Int.tmod (wrap64 (-(wrap64 ((rd l0 x10_1) + 1)))) 2001) - 1000)))) (wrap64 (x10_1 + 1))) else (none)))) = some r := H
                        have A15 := Aside0.mk A150
                        clear A150
                        replace H := Option.bind_eq_some_iff.mp H
                        obtain ⟨t180, A160, H⟩ := H
                        replace H : ((some (([floatOfInt .f64 (wrap64 ((Int.tmod (wrap64 (-(wrap64 ((rd l0 x10_1) + 1)))) 2001) - 1000)), t178, t179, t180] : List Nat) : List Nat)).bind fun y181 => (if x7_1.length + y181.length < 17592186044416 then (tabulariumlaw03_RealMeans.l0 kj4 l0 a1 t173 y175 (x7_1 ++ y181) (fmn x8_1 (floatOfInt .f64 (wrap64 ((Int.tmod (wrap64 (-(wrap64 ((rd l0 x10_1) + 1)))) 2001) - 1000)))) (fmx x9_1 (floatOfInt .f64 (wrap64 ((Int.tmod (wrap64 (-(wrap64 ((rd l0 x10_1) + 1)))) 2001) - 1000)))) (wrap64 (x10_1 + 1))) else (none))) = some r := H
                        have A16 := Aside0.mk A160
                        clear A160
                        obtain ⟨y181, hy181⟩ : ∃ y_ : List Nat, y_ = (([floatOfInt .f64 (wrap64 ((Int.tmod (wrap64 (-(wrap64 ((rd l0 x10_1) + 1)))) 2001) - 1000)), t178, t179, t180] : List Nat)) := ⟨_, rfl⟩
                        replace H : (if x7_1.length + y181.length < 17592186044416 then (tabulariumlaw03_RealMeans.l0 kj4 l0 a1 t173 y175 (x7_1 ++ y181) (fmn x8_1 (floatOfInt .f64 (wrap64 ((Int.tmod (wrap64 (-(wrap64 ((rd l0 x10_1) + 1)))) 2001) - 1000)))) (fmx x9_1 (floatOfInt .f64 (wrap64 ((Int.tmod (wrap64 (-(wrap64 ((rd l0 x10_1) + 1)))) 2001) - 1000)))) (wrap64 (x10_1 + 1))) else (none)) = some r := by first | (rw [hy181]; with_reducible exact H) | (have H2_ := (Option.bind_some _ _).symm.trans H; rw [hy181]; with_reducible exact H2_) | (have H2_ := (Option.bind_some _ _).symm.trans H; with_reducible exact H2_) | with_reducible exact H | (rw [hy181]; exact H) | exact H
                        have Ny181 := Aside0.mk hy181
                        clear hy181
                        by_cases c17 : x7_1.length + y181.length < 17592186044416
                        · rw [if_pos c17] at H
                          have LMc17 := Aside0.mk c17
                          clear c17
                          obtain ⟨y184, hy184⟩ : ∃ y_ : List Nat, y_ = (x7_1 ++ y181) := ⟨_, rfl⟩
                          replace H : (tabulariumlaw03_RealMeans.l0 kj4 l0 a1 t173 y175 y184 (fmn x8_1 (floatOfInt .f64 (wrap64 ((Int.tmod (wrap64 (-(wrap64 ((rd l0 x10_1) + 1)))) 2001) - 1000)))) (fmx x9_1 (floatOfInt .f64 (wrap64 ((Int.tmod (wrap64 (-(wrap64 ((rd l0 x10_1) + 1)))) 2001) - 1000)))) (wrap64 (x10_1 + 1))) = some r := by first | (rw [hy184]; with_reducible exact H) | (have H2_ := (Option.bind_some _ _).symm.trans H; rw [hy184]; with_reducible exact H2_) | (have H2_ := (Option.bind_some _ _).symm.trans H; with_reducible exact H2_) | with_reducible exact H | (rw [hy184]; exact H) | exact H
                          have Ny184 := Aside0.mk hy184
                          clear hy184
                          have H' := Aside0.mk H
                          clear H
                          have p174 : 0 ≤ (x10_1 : Int) := of_decide_eq_true (by first | (with_reducible assumption) | assumption)
                          have q174 : x10_1 < (l0.length : Int) := of_decide_eq_true (by first | (with_reducible assumption) | assumption)
                          obtain ⟨ad174, e174, hx174_0⟩ := Kd.at_int HR0.out x10_1 p174 q174
                          cases e174
                          replace hx174_0 := (HB.out.cell (World.block_lt_of_cell? w _ hx174_0)).trans hx174_0
                          replace p174 := eq_true p174
                          replace q174 := eq_true q174
                          go_wp2_with (first | ((with_reducible refine gate_builtin (b := .append) (xs := #[.tmp 44, .tmp 46]) rfl ?_); (try (refine gate_guard (by rfl) ?_; dsimp only)); at_builtin; refine Kd.R_append Kd.f64 (w0 := w) w.heap.size rfl (.tmp 44) (.tmp 46) 33 22 (.float .f64 0) 8 rfl Try.underlying33 info22 rfl (by decide) (by omega) u6 x6_1 (floatOfInt .f64 (wrap64 ((Int.tmod (wrap64 (-(wrap64 ((rd l0 x10_1) + 1)))) 2001) - 1000))) [.float .f64 (floatOfInt .f64 (wrap64 ((Int.tmod (wrap64 (-(wrap64 ((rd l0 x10_1) + 1)))) 2001) - 1000)))] (fun k_ => some k_ ≠ (u7 : Value).ownBlock) (fun _ => False) rfl rfl ?aP (fun _ hk => hk.elim) ?aF ?aO ?aB ?aS ?aL ?_; (case aP => exact rfl); (case aB => exact (by repeat (first | (with_reducible first | exact HB.out | apply below_alloc | apply pw_below_drewN | apply below_drew1) | exact HB.out))); (case aF => exact (fun k_ hk => Kd.fresh' (Kd.R_lt (by (with_reducible repeat (first | apply Kd.R_alloc | apply Kd.R_drewN | apply Kd.R_drew)); exact HO_7.out)) k_ hk)); (case aO => exact (by (with_reducible repeat (first | apply Kd.R_alloc | apply Kd.R_drewN | apply Kd.R_drew)); exact HO_6.out)); (case aS => exact (below_size (by repeat (first | (with_reducible first | exact HB.out | apply below_alloc | apply pw_below_drewN | apply below_drew1) | exact HB.out)))); (case aL => have := LMc13.out; omega); intro v176 w18 ho hb hg hat; rw [← Ny175.out] at ho; have n0_ := Aside0.mk (Kd.R_after (ok := (fun _ => True)) (by (with_reducible repeat (first | apply Kd.R_alloc | apply Kd.R_drewN | apply Kd.R_drew)); exact Kd.R_mono HO_7.out (fun _ hk => ⟨trivial, hk⟩)) hg hat); have n1_ := Aside0.mk (hb); have n2_ := Aside0.mk (ho); clear HO_7; clear HB; clear HO_6; have HO_7 := n0_; have HB := n1_; have HO177 := n2_; clear n0_ n1_ n2_; clear ho hb hg hat) | ((with_reducible refine gate_callee (f := 24) rfl ?_); refine goesL_ (some 50) rfl rfl Try.func24 (by kernel_rfl) rfl #[] rfl (by (try simp only [List.map_toArray, List.map_cons, List.map_nil]); first | done | rfl | (simp only [List.length_drop, List.length_take]; rfl)) ?_; (with_reducible refine (math_NaN.calls  t178 _ A14.out).mono ?_); rintro e w' ⟨rfl, ⟨nd, rfl⟩⟩; refine ⟨_, rfl, ?_⟩) | ((with_reducible refine gate_callee (f := 25) rfl ?_); refine goesL_ (some 51) rfl rfl Try.func25 (by kernel_rfl) rfl #[.int .i64 1] rfl (by (try simp only [List.map_toArray, List.map_cons, List.map_nil]); first | done | rfl | (simp only [List.length_drop, List.length_take]; rfl)) ?_; (with_reducible refine (math_Inf.calls 1 t179 _ A15.out).mono ?_); rintro e w' ⟨rfl, ⟨nd, rfl⟩⟩; refine ⟨_, rfl, ?_⟩) | ((with_reducible refine gate_callee (f := 25) rfl ?_); refine goesL_ (some 52) rfl rfl Try.func25 (by kernel_rfl) rfl #[.int .i64 (-1)] rfl (by (try simp only [List.map_toArray, List.map_cons, List.map_nil]); first | done | rfl | (simp only [List.length_drop, List.length_take]; rfl)) ?_; (with_reducible refine (math_Inf.calls (-1) t180 _ A16.out).mono ?_); rintro e w' ⟨rfl, ⟨nd, rfl⟩⟩; refine ⟨_, rfl, ?_⟩) | ((with_reducible refine gate_dst (N := 53) rfl ?_); (try (refine gate_guard (by rfl) ?_; dsimp only)); refine Kd.R_lit Kd.f64 _ 22 ?hg (N := 53) ?hd (xs := ([floatOfInt .f64 (wrap64 ((Int.tmod (wrap64 (-(wrap64 ((rd l0 x10_1) + 1)))) 2001) - 1000)), t178, t179, t180] : List Nat)) (inner := [.float .f64 (floatOfInt .f64 (wrap64 ((Int.tmod (wrap64 (-(wrap64 ((rd l0 x10_1) + 1)))) 2001) - 1000))), .float .f64 t178, .float .f64 t179, .float .f64 t180]) (ok := fun _ => True) (okp := fun _ => True) ?hr ?hp (fun _ hk => hk) trivial (Below.refl _ _) (Nat.le_refl _) (by simp) ?_; (case hd => rfl); (case hg => rfl); (case hr => first | (go_simp; done) | (go_simp; rfl)); (case hp => exact (Reps.one (show Kd.M Kd.f64 _ _ _ (floatOfInt .f64 (wrap64 ((Int.tmod (wrap64 (-(wrap64 ((rd l0 x10_1) + 1)))) 2001) - 1000))) [.float .f64 (floatOfInt .f64 (wrap64 ((Int.tmod (wrap64 (-(wrap64 ((rd l0 x10_1) + 1)))) 2001) - 1000)))] from rfl) (Reps.one (show Kd.M Kd.f64 _ _ _ t178 [.float .f64 t178] from rfl) (Reps.one (show Kd.M Kd.f64 _ _ _ t179 [.float .f64 t179] from rfl) (Reps.one (show Kd.M Kd.f64 _ _ _ t180 [.float .f64 t180] from rfl) (Reps.none _ _)))))); intro v182 w19 ho20 hb hg_ hnew_; clear hg_ hnew_; (first | rw [← Ny181.out] at ho20 | (simp only [Int.reduceToNat] at ho20; rw [← Ny181.out] at ho20)); have n0_ := Aside0.mk (Kd.R_elder' (by (with_reducible repeat (first | apply Kd.R_alloc | apply Kd.R_drewN | apply Kd.R_drew)); exact HO_7.out) (Kd.R_base ho20) hb); have n1_ := Aside0.mk (Kd.R_elder' (by (with_reducible repeat (first | apply Kd.R_alloc | apply Kd.R_drewN | apply Kd.R_drew)); exact HO177.out) (Kd.R_base ho20) hb); have n2_ := Aside0.mk (Kd.R_lower (Kd.R_new' (Kd.R_new' ho20 (Kd.R_lt (by (with_reducible repeat (first | apply Kd.R_alloc | apply Kd.R_drewN | apply Kd.R_drew)); exact HO_7.out))) (Kd.R_lt (by (with_reducible repeat (first | apply Kd.R_alloc | apply Kd.R_drewN | apply Kd.R_drew)); exact HO177.out))) (below_size (by repeat (first | (with_reducible first | exact HB.out | apply below_alloc | apply pw_below_drewN | apply below_drew1) | exact HB.out)))); have n3_ := Aside0.mk (below_step (by repeat (first | (with_reducible first | exact HB.out | apply below_alloc | apply pw_below_drewN | apply below_drew1) | exact HB.out)) hb); clear HO_7; clear HO177; clear HB; have HO_7 := n0_; have HO177 := n1_; have HO183 := n2_; have HB := n3_; clear n0_ n1_ n2_ n3_; clear hb ho20; obtain ⟨Ao22, co22, eo22⟩ := Kd.R_slice HO183.out; subst eo22) | ((with_reducible refine gate_builtin (b := .append) (xs := #[.tmp 48, .tmp 53]) rfl ?_); (try (refine gate_guard (by rfl) ?_; dsimp only)); at_builtin; refine Kd.R_append_rows Kd.f64 (w0 := w) w.heap.size rfl (.tmp 48) (.tmp 53) 33 22 (.float .f64 0) 8 rfl Try.underlying33 info22 rfl (by decide) (by omega) u7 x7_1 y181 _ _ _ (fun k_ => some k_ ≠ (v176 : Value).ownBlock ∧ some k_ ≠ (.slice Ao22 y181.length co22 : Value).ownBlock) (fun _ => False) rfl rfl ?aO ?aR (fun _ _ h => h) (fun _ h => h.elim) ?aF ?aB ?aS ?aL ?_; (case aR => repeat (first | exact (Kd.R_reads' HO183.out).2.2 | (with_reducible refine Kd.C_alloc ?_ _) | (with_reducible refine Kd.C_drewN ?_ _) | (with_reducible refine Kd.C_drew ?_))); (case aB => exact (by repeat (first | (with_reducible first | exact HB.out | apply below_alloc | apply pw_below_drewN | apply below_drew1) | exact HB.out))); (case aF => exact (fun k_ hk => ⟨Kd.fresh' (Kd.R_lt (by (with_reducible repeat (first | apply Kd.R_alloc | apply Kd.R_drewN | apply Kd.R_drew)); exact HO177.out)) k_ hk, Kd.fresh' (Kd.R_lt (by (with_reducible repeat (first | apply Kd.R_alloc | apply Kd.R_drewN | apply Kd.R_drew)); exact HO183.out)) k_ hk⟩)); (case aO => exact (by (with_reducible repeat (first | apply Kd.R_alloc | apply Kd.R_drewN | apply Kd.R_drew)); exact Kd.R_mono HO_7.out (fun _ hk => ⟨hk.1.2, hk.2⟩))); (case aS => exact (below_size (by repeat (first | (with_reducible first | exact HB.out | apply below_alloc | apply pw_below_drewN | apply below_drew1) | exact HB.out)))); (case aL => have := LMc17.out; omega); intro v185 w21 ho hb hg hat; rw [← Ny184.out] at ho; have n0_ := Aside0.mk (Kd.R_after (ok := (fun k_ => some k_ ≠ (.slice Ao22 y181.length co22 : Value).ownBlock)) (by (with_reducible repeat (first | apply Kd.R_alloc | apply Kd.R_drewN | apply Kd.R_drew)); exact Kd.R_mono HO177.out (fun _ hk => ⟨hk.2, hk.1⟩)) hg hat); have n1_ := Aside0.mk (Kd.R_after (ok := (fun k_ => some k_ ≠ (v176 : Value).ownBlock)) (by (with_reducible repeat (first | apply Kd.R_alloc | apply Kd.R_drewN | apply Kd.R_drew)); exact Kd.R_mono HO183.out (fun _ hk => ⟨hk.2, hk.1.2⟩)) hg hat); have n2_ := Aside0.mk (hb); have n3_ := Aside0.mk (ho); clear HO177; clear HO183; clear HB; clear HO_7; have HO177 := n0_; have HO183 := n1_; have HB := n2_; have HO186 := n3_; clear n0_ n1_ n2_ n3_; clear ho hb hg hat))
                          go_roundg kj4
                          case measure => have := HK1.out; have := HJ4.out; omega
                          case rel => exact ⟨(y175), (y184), (fmn x8_1 (floatOfInt .f64 (wrap64 ((Int.tmod (wrap64 (-(wrap64 ((rd l0 x10_1) + 1)))) 2001) - 1000)))), (fmx x9_1 (floatOfInt .f64 (wrap64 ((Int.tmod (wrap64 (-(wrap64 ((rd l0 x10_1) + 1)))) 2001) - 1000)))), (wrap64 (x10_1 + 1)), (by first | rfl | (simp; done) | (simp [*]; done)), (by first | rfl | (simp; done) | (simp [*]; done)), (by first | rfl | (simp; done) | (simp [*]; done)), H', ⟨by have := HK1.out; have := HJ4.out; omega⟩, ⟨by (with_reducible repeat (first | apply Kd.R_alloc | apply Kd.R_drewN | apply Kd.R_drew)); exact Kd.R_mono HO177.out (fun _ hk => hk.2)⟩, ⟨by (with_reducible repeat (first | apply Kd.R_alloc | apply Kd.R_drewN | apply Kd.R_drew)); exact Kd.R_mono HO186.out (fun _ hk => hk.1)⟩, ⟨by repeat (first | (with_reducible first | exact HB.out | apply below_alloc | apply pw_below_drewN | apply below_drew1) | exact HB.out)⟩⟩
                        · rw [if_neg c17] at H
                          exact absurd H (by simp)
                      · rw [if_neg c13] at H
                        exact absurd H (by simp)
                    · rw [if_neg c12] at H
                      exact absurd H (by simp)
                  · rw [if_neg c11] at H
                    exact absurd H (by simp)
                · rw [if_neg c10] at H
                  have c10b0 : decide ((rd l0 x10_1) < 0) = false := decide_eq_false c10
                  clear c10
                  by_cases c23 : (FloatKind.f64.format.order x8_1 (floatOfInt .f64 (wrap64 ((Int.tmod (rd l0 x10_1) 2001) - 1000)))).isSome = true
                  · rw [if_pos c23] at H
                    have c23b0 : (FloatKind.f64.format.order x8_1 (floatOfInt .f64 (wrap64 ((Int.tmod (rd l0 x10_1) 2001) - 1000)))).isSome = true := c23
                    have c23b1 : Builtin.min2 (.float .f64 x8_1) (.float .f64 (floatOfInt .f64 (wrap64 ((Int.tmod (rd l0 x10_1) 2001) - 1000)))) = pure (.float .f64 (fmn x8_1 (floatOfInt .f64 (wrap64 ((Int.tmod (rd l0 x10_1) 2001) - 1000))))) := flt_min2 c23
                    have c23b2 : Builtin.max2 (.float .f64 x8_1) (.float .f64 (floatOfInt .f64 (wrap64 ((Int.tmod (rd l0 x10_1) 2001) - 1000)))) = pure (.float .f64 (fmx x8_1 (floatOfInt .f64 (wrap64 ((Int.tmod (rd l0 x10_1) 2001) - 1000))))) := flt_max2 c23
                    clear c23
                    by_cases c24 : (FloatKind.f64.format.order x9_1 (floatOfInt .f64 (wrap64 ((Int.tmod (rd l0 x10_1) 2001) - 1000)))).isSome = true
                    · rw [if_pos c24] at H
                      have c24b0 : (FloatKind.f64.format.order x9_1 (floatOfInt .f64 (wrap64 ((Int.tmod (rd l0 x10_1) 2001) - 1000)))).isSome = true := c24
                      have c24b1 : Builtin.min2 (.float .f64 x9_1) (.float .f64 (floatOfInt .f64 (wrap64 ((Int.tmod (rd l0 x10_1) 2001) - 1000)))) = pure (.float .f64 (fmn x9_1 (floatOfInt .f64 (wrap64 ((Int.tmod (rd l0 x10_1) 2001) - 1000))))) := flt_min2 c24
                      have c24b2 : Builtin.max2 (.float .f64 x9_1) (.float .f64 (floatOfInt .f64 (wrap64 ((Int.tmod (rd l0 x10_1) 2001) - 1000)))) = pure (.float .f64 (fmx x9_1 (floatOfInt .f64 (wrap64 ((Int.tmod (rd l0 x10_1) 2001) - 1000))))) := flt_max2 c24
                      clear c24
                      by_cases c25 : x6_1.length < 17592186044416
                      · rw [if_pos c25] at H
                        have LMc25 := Aside0.mk c25
                        clear c25
                        obtain ⟨y187, hy187⟩ : ∃ y_ : List Nat, y_ = (x6_1 ++ [floatOfInt .f64 (wrap64 ((Int.tmod (rd l0 x10_1) 2001) - 1000))]) := ⟨_, rfl⟩
                        replace H : ((math_NaN.f).bind fun t190 => ((math_Inf.f 1).bind fun t191 => ((math_Inf.f (-1)).bind fun t192 => ((some (([floatOfInt .f64 (wrap64 ((Int.tmod (rd l0 x10_1) 2001) - 1000)), t190, t191, t192] : List Nat) : List Nat)).bind fun y193 => (if x7_1.length + y193.length < 17592186044416 then (tabulariumlaw03_RealMeans.l0 kj4 l0 a1 t173 y187 (x7_1 ++ y193) (fmn x8_1 (floatOfInt .f64 (wrap64 ((Int.tmod (rd l0 x10_1) 2001) - 1000)))) (fmx x9_1 (floatOfInt .f64 (wrap64 ((Int.tmod (rd l0 x10_1) 2001) - 1000)))) (wrap64 (x10_1 + 1))) else (none)))))) = some r := by first | (rw [hy187]; with_reducible exact H) | (have H2_ := (Option.bind_some _ _).symm.trans H; rw [hy187]; with_reducible exact H2_) | (have H2_ := (Option.bind_some _ _).symm.trans H; with_reducible exact H2_) | with_reducible exact H | (rw [hy187]; exact H) | exact H
                        have Ny187 := Aside0.mk hy187
                        clear hy187
                        replace H := Option.bind_eq_some_iff.mp H
                        obtain ⟨t190, A260, H⟩ := H
                        replace H : ((math_Inf.f 1).bind fun t191 => ((math_Inf.f (-1)).bind fun t192 => ((some (([floatOfInt .f64 (wrap64 ((Int.tmod (rd l0 x10_1) 2001) - 1000)), t190, t191, t192] : List Nat) : List Nat)).bind fun y193 => (if x7_1.length + y193.length < 17592186044416 then (tabulariumlaw03_RealMeans.l0 kj4 l0 a1 t173 y187 (x7_1 ++ y193) (fmn x8_1 (floatOfInt .f64 (wrap64 ((Int.tmod (rd l0 x10_1) 2001) - 1000)))) (fmx x9_1 (floatOfInt .f64 (wrap64 ((Int.tmod (rd l0 x10_1) 2001) - 1000)))) (wrap64 (x10_1 + 1))) else (none))))) = some r := H
                        have A26 := Aside0.mk A260
                        clear A260
                        replace H := Option.bind_eq_some_iff.mp H
                        obtain ⟨t191, A270, H⟩ := H
                        replace H : ((math_Inf.f (-1)).bind fun t192 => ((some (([floatOfInt .f64 (wrap64 ((Int.tmod (rd l0 x10_1) 2001) - 1000)), t190, t191, t192] : List Nat) : List Nat)).bind fun y193 => (if x7_1.length + y193.length < 17592186044416 then (tabulariumlaw03_RealMeans.l0 kj4 l0 a1 t173 y187 (x7_1 ++ y193) (fmn x8_1 (floatOfInt .f64 (wrap64 ((Int.tmod (rd l0 x10_1) 2001) - 1000)))) (fmx x9_1 (floatOfInt .f64 (wrap64 ((Int.tmod (rd l0 x10_1) 2001) - 1000)))) (wrap64 (x10_1 + 1))) else (none)))) = some r := H
                        have A27 := Aside0.mk A270
                        clear A270
                        replace H := Option.bind_eq_some_iff.mp H
                        obtain ⟨t192, A280, H⟩ := H
                        replace H : ((some (([floatOfInt .f64 (wrap64 ((Int.tmod (rd l0 x10_1) 2001) - 1000)), t190, t191, t192] : List Nat) : List Nat)).bind fun y193 => (if x7_1.length + y193.length < 17592186044416 then (tabulariumlaw03_RealMeans.l0 kj4 l0 a1 t173 y187 (x7_1 ++ y193) (fmn x8_1 (floatOfInt .f64 (wrap64 ((Int.tmod (rd l0 x10_1) 2001) - 1000)))) (fmx x9_1 (floatOfInt .f64 (wrap64 ((Int.tmod (rd l0 x10_1) 2001) - 1000)))) (wrap64 (x10_1 + 1))) else (none))) = some r := H
                        have A28 := Aside0.mk A280
                        clear A280
                        obtain ⟨y193, hy193⟩ : ∃ y_ : List Nat, y_ = (([floatOfInt .f64 (wrap64 ((Int.tmod (rd l0 x10_1) 2001) - 1000)), t190, t191, t192] : List Nat)) := ⟨_, rfl⟩
                        replace H : (if x7_1.length + y193.length < 17592186044416 then (tabulariumlaw03_RealMeans.l0 kj4 l0 a1 t173 y187 (x7_1 ++ y193) (fmn x8_1 (floatOfInt .f64 (wrap64 ((Int.tmod (rd l0 x10_1) 2001) - 1000)))) (fmx x9_1 (floatOfInt .f64 (wrap64 ((Int.tmod (rd l0 x10_1) 2001) - 1000)))) (wrap64 (x10_1 + 1))) else (none)) = some r := by first | (rw [hy193]; with_reducible exact H) | (have H2_ := (Option.bind_some _ _).symm.trans H; rw [hy193]; with_reducible exact H2_) | (have H2_ := (Option.bind_some _ _).symm.trans H; with_reducible exact H2_) | with_reducible exact H | (rw [hy193]; exact H) | exact H
                        have Ny193 := Aside0.mk hy193
                        clear hy193
                        by_cases c29 : x7_1.length + y193.length < 17592186044416
                        · rw [if_pos c29] at H
                          have LMc29 := Aside0.mk c29
                          clear c29
                          obtain ⟨y196, hy196⟩ : ∃ y_ : List Nat, y_ = (x7_1 ++ y193) := ⟨_, rfl⟩
                          replace H : (tabulariumlaw03_RealMeans.l0 kj4 l0 a1 t173 y187 y196 (fmn x8_1 (floatOfInt .f64 (wrap64 ((Int.tmod (rd l0 x10_1) 2001) - 1000)))) (fmx x9_1 (floatOfInt .f64 (wrap64 ((Int.tmod (rd l0 x10_1) 2001) - 1000)))) (wrap64 (x10_1 + 1))) = some r := by first | (rw [hy196]; with_reducible exact H) | (have H2_ := (Option.bind_some _ _).symm.trans H; rw [hy196]; with_reducible exact H2_) | (have H2_ := (Option.bind_some _ _).symm.trans H; with_reducible exact H2_) | with_reducible exact H | (rw [hy196]; exact H) | exact H
                          have Ny196 := Aside0.mk hy196
                          clear hy196
                          have H' := Aside0.mk H
                          clear H
                          have p174 : 0 ≤ (x10_1 : Int) := of_decide_eq_true (by first | (with_reducible assumption) | assumption)
                          have q174 : x10_1 < (l0.length : Int) := of_decide_eq_true (by first | (with_reducible assumption) | assumption)
                          obtain ⟨ad174, e174, hx174_0⟩ := Kd.at_int HR0.out x10_1 p174 q174
                          cases e174
                          replace hx174_0 := (HB.out.cell (World.block_lt_of_cell? w _ hx174_0)).trans hx174_0
                          replace p174 := eq_true p174
                          replace q174 := eq_true q174
                          go_wp2_with (first | ((with_reducible refine gate_builtin (b := .append) (xs := #[.tmp 44, .tmp 46]) rfl ?_); (try (refine gate_guard (by rfl) ?_; dsimp only)); at_builtin; refine Kd.R_append Kd.f64 (w0 := w) w.heap.size rfl (.tmp 44) (.tmp 46) 33 22 (.float .f64 0) 8 rfl Try.underlying33 info22 rfl (by decide) (by omega) u6 x6_1 (floatOfInt .f64 (wrap64 ((Int.tmod (rd l0 x10_1) 2001) - 1000))) [.float .f64 (floatOfInt .f64 (wrap64 ((Int.tmod (rd l0 x10_1) 2001) - 1000)))] (fun k_ => some k_ ≠ (u7 : Value).ownBlock) (fun _ => False) rfl rfl ?aP (fun _ hk => hk.elim) ?aF ?aO ?aB ?aS ?aL ?_; (case aP => exact rfl); (case aB => exact (by repeat (first | (with_reducible first | exact HB.out | apply below_alloc | apply pw_below_drewN | apply below_drew1) | exact HB.out))); (case aF => exact (fun k_ hk => Kd.fresh' (Kd.R_lt (by (with_reducible repeat (first | apply Kd.R_alloc | apply Kd.R_drewN | apply Kd.R_drew)); exact HO_7.out)) k_ hk)); (case aO => exact (by (with_reducible repeat (first | apply Kd.R_alloc | apply Kd.R_drewN | apply Kd.R_drew)); exact HO_6.out)); (case aS => exact (below_size (by repeat (first | (with_reducible first | exact HB.out | apply below_alloc | apply pw_below_drewN | apply below_drew1) | exact HB.out)))); (case aL => have := LMc25.out; omega); intro v188 w30 ho hb hg hat; rw [← Ny187.out] at ho; have n0_ := Aside0.mk (Kd.R_after (ok := (fun _ => True)) (by (with_reducible repeat (first | apply Kd.R_alloc | apply Kd.R_drewN | apply Kd.R_drew)); exact Kd.R_mono HO_7.out (fun _ hk => ⟨trivial, hk⟩)) hg hat); have n1_ := Aside0.mk (hb); have n2_ := Aside0.mk (ho); clear HO_7; clear HB; clear HO_6; have HO_7 := n0_; have HB := n1_; have HO189 := n2_; clear n0_ n1_ n2_; clear ho hb hg hat) | ((with_reducible refine gate_callee (f := 24) rfl ?_); refine goesL_ (some 50) rfl rfl Try.func24 (by kernel_rfl) rfl #[] rfl (by (try simp only [List.map_toArray, List.map_cons, List.map_nil]); first | done | rfl | (simp only [List.length_drop, List.length_take]; rfl)) ?_; (with_reducible refine (math_NaN.calls  t190 _ A26.out).mono ?_); rintro e w' ⟨rfl, ⟨nd, rfl⟩⟩; refine ⟨_, rfl, ?_⟩) | ((with_reducible refine gate_callee (f := 25) rfl ?_); refine goesL_ (some 51) rfl rfl Try.func25 (by kernel_rfl) rfl #[.int .i64 1] rfl (by (try simp only [List.map_toArray, List.map_cons, List.map_nil]); first | done | rfl | (simp only [List.length_drop, List.length_take]; rfl)) ?_; (with_reducible refine (math_Inf.calls 1 t191 _ A27.out).mono ?_); rintro e w' ⟨rfl, ⟨nd, rfl⟩⟩; refine ⟨_, rfl, ?_⟩) | ((with_reducible refine gate_callee (f := 25) rfl ?_); refine goesL_ (some 52) rfl rfl Try.func25 (by kernel_rfl) rfl #[.int .i64 (-1)] rfl (by (try simp only [List.map_toArray, List.map_cons, List.map_nil]); first | done | rfl | (simp only [List.length_drop, List.length_take]; rfl)) ?_; (with_reducible refine (math_Inf.calls (-1) t192 _ A28.out).mono ?_); rintro e w' ⟨rfl, ⟨nd, rfl⟩⟩; refine ⟨_, rfl, ?_⟩) | ((with_reducible refine gate_dst (N := 53) rfl ?_); (try (refine gate_guard (by rfl) ?_; dsimp only)); refine Kd.R_lit Kd.f64 _ 22 ?hg (N := 53) ?hd (xs := ([floatOfInt .f64 (wrap64 ((Int.tmod (rd l0 x10_1) 2001) - 1000)), t190, t191, t192] : List Nat)) (inner := [.float .f64 (floatOfInt .f64 (wrap64 ((Int.tmod (rd l0 x10_1) 2001) - 1000))), .float .f64 t190, .float .f64 t191, .float .f64 t192]) (ok := fun _ => True) (okp := fun _ => True) ?hr ?hp (fun _ hk => hk) trivial (Below.refl _ _) (Nat.le_refl _) (by simp) ?_; (case hd => rfl); (case hg => rfl); (case hr => first | (go_simp; done) | (go_simp; rfl)); (case hp => exact (Reps.one (show Kd.M Kd.f64 _ _ _ (floatOfInt .f64 (wrap64 ((Int.tmod (rd l0 x10_1) 2001) - 1000))) [.float .f64 (floatOfInt .f64 (wrap64 ((Int.tmod (rd l0 x10_1) 2001) - 1000)))] from rfl) (Reps.one (show Kd.M Kd.f64 _ _ _ t190 [.float .f64 t190] from rfl) (Reps.one (show Kd.M Kd.f64 _ _ _ t191 [.float .f64 t191] from rfl) (Reps.one (show Kd.M Kd.f64 _ _ _ t192 [.float .f64 t192] from rfl) (Reps.none _ _)))))); intro v194 w31 ho32 hb hg_ hnew_; clear hg_ hnew_; (first | rw [← Ny193.out] at ho32 | (simp only [Int.reduceToNat] at ho32; rw [← Ny193.out] at ho32)); have n0_ := Aside0.mk (Kd.R_elder' (by (with_reducible repeat (first | apply Kd.R_alloc | apply Kd.R_drewN | apply Kd.R_drew)); exact HO_7.out) (Kd.R_base ho32) hb); have n1_ := Aside0.mk (Kd.R_elder' (by (with_reducible repeat (first | apply Kd.R_alloc | apply Kd.R_drewN | apply Kd.R_drew)); exact HO189.out) (Kd.R_base ho32) hb); have n2_ := Aside0.mk (Kd.R_lower (Kd.R_new' (Kd.R_new' ho32 (Kd.R_lt (by (with_reducible repeat (first | apply Kd.R_alloc | apply Kd.R_drewN | apply Kd.R_drew)); exact HO_7.out))) (Kd.R_lt (by (with_reducible repeat (first | apply Kd.R_alloc | apply Kd.R_drewN | apply Kd.R_drew)); exact HO189.out))) (below_size (by repeat (first | (with_reducible first | exact HB.out | apply below_alloc | apply pw_below_drewN | apply below_drew1) | exact HB.out)))); have n3_ := Aside0.mk (below_step (by repeat (first | (with_reducible first | exact HB.out | apply below_alloc | apply pw_below_drewN | apply below_drew1) | exact HB.out)) hb); clear HO_7; clear HO189; clear HB; have HO_7 := n0_; have HO189 := n1_; have HO195 := n2_; have HB := n3_; clear n0_ n1_ n2_ n3_; clear hb ho32; obtain ⟨Ao34, co34, eo34⟩ := Kd.R_slice HO195.out; subst eo34) | ((with_reducible refine gate_builtin (b := .append) (xs := #[.tmp 48, .tmp 53]) rfl ?_); (try (refine gate_guard (by rfl) ?_; dsimp only)); at_builtin; refine Kd.R_append_rows Kd.f64 (w0 := w) w.heap.size rfl (.tmp 48) (.tmp 53) 33 22 (.float .f64 0) 8 rfl Try.underlying33 info22 rfl (by decide) (by omega) u7 x7_1 y193 _ _ _ (fun k_ => some k_ ≠ (v188 : Value).ownBlock ∧ some k_ ≠ (.slice Ao34 y193.length co34 : Value).ownBlock) (fun _ => False) rfl rfl ?aO ?aR (fun _ _ h => h) (fun _ h => h.elim) ?aF ?aB ?aS ?aL ?_; (case aR => repeat (first | exact (Kd.R_reads' HO195.out).2.2 | (with_reducible refine Kd.C_alloc ?_ _) | (with_reducible refine Kd.C_drewN ?_ _) | (with_reducible refine Kd.C_drew ?_))); (case aB => exact (by repeat (first | (with_reducible first | exact HB.out | apply below_alloc | apply pw_below_drewN | apply below_drew1) | exact HB.out))); (case aF => exact (fun k_ hk => ⟨Kd.fresh' (Kd.R_lt (by (with_reducible repeat (first | apply Kd.R_alloc | apply Kd.R_drewN | apply Kd.R_drew)); exact HO189.out)) k_ hk, Kd.fresh' (Kd.R_lt (by (with_reducible repeat (first | apply Kd.R_alloc | apply Kd.R_drewN | apply Kd.R_drew)); exact HO195.out)) k_ hk⟩)); (case aO => exact (by (with_reducible repeat (first | apply Kd.R_alloc | apply Kd.R_drewN | apply Kd.R_drew)); exact Kd.R_mono HO_7.out (fun _ hk => ⟨hk.1.2, hk.2⟩))); (case aS => exact (below_size (by repeat (first | (with_reducible first | exact HB.out | apply below_alloc | apply pw_below_drewN | apply below_drew1) | exact HB.out)))); (case aL => have := LMc29.out; omega); intro v197 w33 ho hb hg hat; rw [← Ny196.out] at ho; have n0_ := Aside0.mk (Kd.R_after (ok := (fun k_ => some k_ ≠ (.slice Ao34 y193.length co34 : Value).ownBlock)) (by (with_reducible repeat (first | apply Kd.R_alloc | apply Kd.R_drewN | apply Kd.R_drew)); exact Kd.R_mono HO189.out (fun _ hk => ⟨hk.2, hk.1⟩)) hg hat); have n1_ := Aside0.mk (Kd.R_after (ok := (fun k_ => some k_ ≠ (v188 : Value).ownBlock)) (by (with_reducible repeat (first | apply Kd.R_alloc | apply Kd.R_drewN | apply Kd.R_drew)); exact Kd.R_mono HO195.out (fun _ hk => ⟨hk.2, hk.1.2⟩)) hg hat); have n2_ := Aside0.mk (hb); have n3_ := Aside0.mk (ho); clear HO189; clear HO195; clear HB; clear HO_7; have HO189 := n0_; have HO195 := n1_; have HB := n2_; have HO198 := n3_; clear n0_ n1_ n2_ n3_; clear ho hb hg hat))
                          go_roundg kj4
                          case measure => have := HK1.out; have := HJ4.out; omega
                          case rel => exact ⟨(y187), (y196), (fmn x8_1 (floatOfInt .f64 (wrap64 ((Int.tmod (rd l0 x10_1) 2001) - 1000)))), (fmx x9_1 (floatOfInt .f64 (wrap64 ((Int.tmod (rd l0 x10_1) 2001) - 1000)))), (wrap64 (x10_1 + 1)), (by first | rfl | (simp; done) | (simp [*]; done)), (by first | rfl | (simp; done) | (simp [*]; done)), (by first | rfl | (simp; done) | (simp [*]; done)), H', ⟨by have := HK1.out; have := HJ4.out; omega⟩, ⟨by (with_reducible repeat (first | apply Kd.R_alloc | apply Kd.R_drewN | apply Kd.R_drew)); exact Kd.R_mono HO189.out (fun _ hk => hk.2)⟩, ⟨by (with_reducible repeat (first | apply Kd.R_alloc | apply Kd.R_drewN | apply Kd.R_drew)); exact Kd.R_mono HO198.out (fun _ hk => hk.1)⟩, ⟨by repeat (first | (with_reducible first | exact HB.out | apply below_alloc | apply pw_below_drewN | apply below_drew1) | exact HB.out)⟩⟩
                        · rw [if_neg c29] at H
                          exact absurd H (by simp)
                      · rw [if_neg c25] at H
                        exact absurd H (by simp)
                    · rw [if_neg c24] at H
                      exact absurd H (by simp)
                  · rw [if_neg c23] at H
                    exact absurd H (by simp)
              · rw [if_neg c9] at H
                exact absurd H (by simp)
            · rw [if_neg c8] at H
              exact absurd H (by simp)
          · replace c7 := Bool.eq_false_iff.mpr c7
            subst c7
            have H1 : ((real_Mean.f kj4 x6_1).bind fun t199 => (if (x6_1.length : Int) = 0 then (if t173 = true then (if (FloatKind.f64.format.order t199 0 == some .eq) = true then (if (FloatKind.f64.format.order a1 a1 != some .eq) = true then ((real_Mean.f kj4 (([a1] : List Nat))).bind fun t203 => (some (FloatKind.f64.format.order t203 0 == some .eq))) else (if (FloatKind.f64.format.sub a1 a1).isSome = true then (if (FloatKind.f64.format.order ((FloatKind.f64.format.sub a1 a1).getD 0) 0 != some .eq) = true then ((real_Mean.f kj4 (([a1] : List Nat))).bind fun t207 => (some (FloatKind.f64.format.order t207 0 == some .eq))) else (some true)) else ((real_Mean.f kj4 (([a1] : List Nat))).bind fun t211 => (some (FloatKind.f64.format.order t211 0 == some .eq))))) else (some false)) else (some false)) else (if t173 = true then (if (FloatKind.f64.format.order t199 x8_1 == some .gt || FloatKind.f64.format.order t199 x8_1 == some .eq) = true then (if (FloatKind.f64.format.order t199 x9_1 == some .lt || FloatKind.f64.format.order t199 x9_1 == some .eq) = true then ((real_Mean.f kj4 x7_1).bind fun t212 => (some (FloatKind.f64.format.order t212 t199 == some .eq))) else (some false)) else (some false)) else (some false)))) = some r := by rw [if_neg (show ¬ (false = true) by decide)] at H; exact H
            clear H
            have H := H1
            clear H1
            replace H := Option.bind_eq_some_iff.mp H
            obtain ⟨t199, A350, H⟩ := H
            replace H : (if (x6_1.length : Int) = 0 then (if t173 = true then (if (FloatKind.f64.format.order t199 0 == some .eq) = true then (if (FloatKind.f64.format.order a1 a1 != some .eq) = true then ((real_Mean.f kj4 (([a1] : List Nat))).bind fun t203 => (some (FloatKind.f64.format.order t203 0 == some .eq))) else (if (FloatKind.f64.format.sub a1 a1).isSome = true then (if (FloatKind.f64.format.order ((FloatKind.f64.format.sub a1 a1).getD 0) 0 != some .eq) = true then ((real_Mean.f kj4 (([a1] : List Nat))).bind fun t207 => (some (FloatKind.f64.format.order t207 0 == some .eq))) else (some true)) else ((real_Mean.f kj4 (([a1] : List Nat))).bind fun t211 => (some (FloatKind.f64.format.order t211 0 == some .eq))))) else (some false)) else (some false)) else (if t173 = true then (if (FloatKind.f64.format.order t199 x8_1 == some .gt || FloatKind.f64.format.order t199 x8_1 == some .eq) = true then (if (FloatKind.f64.format.order t199 x9_1 == some .lt || FloatKind.f64.format.order t199 x9_1 == some .eq) = true then ((real_Mean.f kj4 x7_1).bind fun t212 => (some (FloatKind.f64.format.order t212 t199 == some .eq))) else (some false)) else (some false)) else (some false))) = some r := H
            have A35 := Aside0.mk A350
            clear A350
            by_cases c36 : (x6_1.length : Int) = 0
            · rw [if_pos c36] at H
              have c36b0 : ((x6_1.length : Int) == 0) = true := beq_iff_eq.mpr c36
              have c36b1 : ((x6_1.length : Int) != 0) = false := bne_eq_false_iff_eq.mpr c36
              clear c36
              by_cases c37 : t173 = true
              · subst c37
                have H1 : (if (FloatKind.f64.format.order t199 0 == some .eq) = true then (if (FloatKind.f64.format.order a1 a1 != some .eq) = true then ((real_Mean.f kj4 (([a1] : List Nat))).bind fun t203 => (some (FloatKind.f64.format.order t203 0 == some .eq))) else (if (FloatKind.f64.format.sub a1 a1).isSome = true then (if (FloatKind.f64.format.order ((FloatKind.f64.format.sub a1 a1).getD 0) 0 != some .eq) = true then ((real_Mean.f kj4 (([a1] : List Nat))).bind fun t207 => (some (FloatKind.f64.format.order t207 0 == some .eq))) else (some true)) else ((real_Mean.f kj4 (([a1] : List Nat))).bind fun t211 => (some (FloatKind.f64.format.order t211 0 == some .eq))))) else (some false)) = some r := by rw [if_pos rfl] at H; exact H
                clear H
                have H := H1
                clear H1
                by_cases c38 : (FloatKind.f64.format.order t199 0 == some .eq) = true
                · rw [if_pos c38] at H
                  have c38b0 : (FloatKind.f64.format.order t199 0 == some .eq) = true := c38
                  clear c38
                  by_cases c39 : (FloatKind.f64.format.order a1 a1 != some .eq) = true
                  · rw [if_pos c39] at H
                    have c39b0 : (FloatKind.f64.format.order a1 a1 != some .eq) = true := c39
                    clear c39
                    obtain ⟨y200, hy200⟩ : ∃ y_ : List Nat, y_ = (([a1] : List Nat)) := ⟨_, rfl⟩
                    replace H : ((real_Mean.f kj4 y200).bind fun t203 => (some (FloatKind.f64.format.order t203 0 == some .eq))) = some r := by first | (rw [hy200]; with_reducible exact H) | (have H2_ := (Option.bind_some _ _).symm.trans H; rw [hy200]; with_reducible exact H2_) | (have H2_ := (Option.bind_some _ _).symm.trans H; with_reducible exact H2_) | with_reducible exact H | (rw [hy200]; exact H) | exact H
                    have Ny200 := Aside0.mk hy200
                    clear hy200
                    replace H := Option.bind_eq_some_iff.mp H
                    obtain ⟨t203, A400, H⟩ := H
                    replace H : (some (FloatKind.f64.format.order t203 0 == some .eq)) = some r := H
                    have A40 := Aside0.mk A400
                    clear A400
                    obtain rfl := Option.some.inj H
                    obtain ⟨Ao41, co41, eo41⟩ := Kd.R_slice HO_6.out
                    subst eo41
                    go_wp2_with (first | ((with_reducible refine gate_callee (f := 21) rfl ?_); refine goesL_ (some 56) rfl rfl Try.func21 (by kernel_rfl) rfl #[.slice Ao41 x6_1.length co41] rfl (by (try simp only [List.map_toArray, List.map_cons, List.map_nil]); first | done | rfl | (simp only [List.length_drop, List.length_take]; rfl)) ?_; (with_reducible refine (real_Mean.calls kj4 _ _ x6_1 t199 _ ?side1 ?side2 A35.out).mono ?_); (case side1 => repeat (first | exact (Kd.R_reads' HO_6.out).2.2 | (with_reducible refine Kd.C_alloc ?_ _) | (with_reducible refine Kd.C_drewN ?_ _) | (with_reducible refine Kd.C_drew ?_))); (case side2 => exact (Kd.R_reads' HO_6.out).2.1); rintro e w' ⟨rfl, ⟨nd, rfl⟩⟩; refine ⟨_, rfl, ?_⟩) | ((with_reducible refine gate_dst (N := 78) rfl ?_); (try (refine gate_guard (by rfl) ?_; dsimp only)); refine Kd.R_lit Kd.f64 _ 22 ?hg (N := 78) ?hd (xs := ([a1] : List Nat)) (inner := [.float .f64 a1]) (ok := fun _ => True) (okp := fun _ => True) ?hr ?hp (fun _ hk => hk) trivial (Below.refl _ _) (Nat.le_refl _) (by simp) ?_; (case hd => rfl); (case hg => rfl); (case hr => first | (go_simp; done) | (go_simp; rfl)); (case hp => exact (Reps.one (show Kd.M Kd.f64 _ _ _ a1 [.float .f64 a1] from rfl) (Reps.none _ _))); intro v201 w42 ho43 hb hg_ hnew_; clear hg_ hnew_; (first | rw [← Ny200.out] at ho43 | (simp only [Int.reduceToNat] at ho43; rw [← Ny200.out] at ho43)); have n0_ := Aside0.mk (Kd.R_elder' (by (with_reducible repeat (first | apply Kd.R_alloc | apply Kd.R_drewN | apply Kd.R_drew)); exact HO_6.out) (Kd.R_base ho43) hb); have n1_ := Aside0.mk (Kd.R_elder' (by (with_reducible repeat (first | apply Kd.R_alloc | apply Kd.R_drewN | apply Kd.R_drew)); exact HO_7.out) (Kd.R_base ho43) hb); have n2_ := Aside0.mk (Kd.R_lower (Kd.R_new' (Kd.R_new' ho43 (Kd.R_lt (by (with_reducible repeat (first | apply Kd.R_alloc | apply Kd.R_drewN | apply Kd.R_drew)); exact HO_6.out))) (Kd.R_lt (by (with_reducible repeat (first | apply Kd.R_alloc | apply Kd.R_drewN | apply Kd.R_drew)); exact HO_7.out))) (below_size (by repeat (first | (with_reducible first | exact HB.out | apply below_alloc | apply pw_below_drewN | apply below_drew1) | exact HB.out)))); have n3_ := Aside0.mk (below_step (by repeat (first | (with_reducible first | exact HB.out | apply below_alloc | apply pw_below_drewN | apply below_drew1) | exact HB.out)) hb); clear HO_6; clear HO_7; clear HB; have HO_6 := n0_; have HO_7 := n1_; have HO202 := n2_; have HB := n3_; clear n0_ n1_ n2_ n3_; clear hb ho43; obtain ⟨Ao44, co44, eo44⟩ := Kd.R_slice HO202.out; subst eo44) | (go_at_call 21; (with_reducible refine (real_Mean.calls kj4 _ _ y200 t203 _ ?side1 ?side2 A40.out).mono ?_); (case side1 => repeat (first | exact (Kd.R_reads' HO202.out).2.2 | (with_reducible refine Kd.C_alloc ?_ _) | (with_reducible refine Kd.C_drewN ?_ _) | (with_reducible refine Kd.C_drew ?_))); (case side2 => exact (Kd.R_reads' HO202.out).2.1); rintro e w' ⟨rfl, ⟨nd, rfl⟩⟩))
                    go_ret
                    exact ⟨by first | rfl | (simp [errW_none, errW_some] <;> rfl) | (simp [*, errW_none, errW_some] <;> rfl), by repeat (first | (with_reducible first | exact HB.out | apply below_alloc | apply pw_below_drewN | apply below_drew1) | exact HB.out)⟩
                  · rw [if_neg c39] at H
                    have c39b0 : (FloatKind.f64.format.order a1 a1 != some .eq) = false := Bool.eq_false_iff.mpr c39
                    clear c39
                    by_cases c45 : (FloatKind.f64.format.sub a1 a1).isSome = true
                    · rw [if_pos c45] at H
                      have c45b0 : ∀ (t_ : TypeId) (W_ : World), (binOp .sub t_ (.float .f64 a1) (.float .f64 a1)).run Try.prog W_ = .ok (.float .f64 ((FloatKind.f64.format.sub a1 a1).getD 0)) W_ := fun t_ W_ => flt_sub c45 t_ W_
                      clear c45
                      by_cases c46 : (FloatKind.f64.format.order ((FloatKind.f64.format.sub a1 a1).getD 0) 0 != some .eq) = true
                      · rw [if_pos c46] at H
                        have c46b0 : (FloatKind.f64.format.order ((FloatKind.f64.format.sub a1 a1).getD 0) 0 != some .eq) = true := c46
                        clear c46
                        obtain ⟨y204, hy204⟩ : ∃ y_ : List Nat, y_ = (([a1] : List Nat)) := ⟨_, rfl⟩
                        replace H : ((real_Mean.f kj4 y204).bind fun t207 => (some (FloatKind.f64.format.order t207 0 == some .eq))) = some r := by first | (rw [hy204]; with_reducible exact H) | (have H2_ := (Option.bind_some _ _).symm.trans H; rw [hy204]; with_reducible exact H2_) | (have H2_ := (Option.bind_some _ _).symm.trans H; with_reducible exact H2_) | with_reducible exact H | (rw [hy204]; exact H) | exact H
                        have Ny204 := Aside0.mk hy204
                        clear hy204
                        replace H := Option.bind_eq_some_iff.mp H
                        obtain ⟨t207, A470, H⟩ := H
                        replace H : (some (FloatKind.f64.format.order t207 0 == some .eq)) = some r := H
                        have A47 := Aside0.mk A470
                        clear A470
                        obtain rfl := Option.some.inj H
                        obtain ⟨Ao48, co48, eo48⟩ := Kd.R_slice HO_6.out
                        subst eo48
                        go_wp2_with (first | ((with_reducible refine gate_callee (f := 21) rfl ?_); refine goesL_ (some 56) rfl rfl Try.func21 (by kernel_rfl) rfl #[.slice Ao48 x6_1.length co48] rfl (by (try simp only [List.map_toArray, List.map_cons, List.map_nil]); first | done | rfl | (simp only [List.length_drop, List.length_take]; rfl)) ?_; (with_reducible refine (real_Mean.calls kj4 _ _ x6_1 t199 _ ?side1 ?side2 A35.out).mono ?_); (case side1 => repeat (first | exact (Kd.R_reads' HO_6.out).2.2 | (with_reducible refine Kd.C_alloc ?_ _) | (with_reducible refine Kd.C_drewN ?_ _) | (with_reducible refine Kd.C_drew ?_))); (case side2 => exact (Kd.R_reads' HO_6.out).2.1); rintro e w' ⟨rfl, ⟨nd, rfl⟩⟩; refine ⟨_, rfl, ?_⟩) | ((with_reducible refine gate_dst (N := 78) rfl ?_); (try (refine gate_guard (by rfl) ?_; dsimp only)); refine Kd.R_lit Kd.f64 _ 22 ?hg (N := 78) ?hd (xs := ([a1] : List Nat)) (inner := [.float .f64 a1]) (ok := fun _ => True) (okp := fun _ => True) ?hr ?hp (fun _ hk => hk) trivial (Below.refl _ _) (Nat.le_refl _) (by simp) ?_; (case hd => rfl); (case hg => rfl); (case hr => first | (go_simp; done) | (go_simp; rfl)); (case hp => exact (Reps.one (show Kd.M Kd.f64 _ _ _ a1 [.float .f64 a1] from rfl) (Reps.none _ _))); intro v205 w49 ho50 hb hg_ hnew_; clear hg_ hnew_; (first | rw [← Ny204.out] at ho50 | (simp only [Int.reduceToNat] at ho50; rw [← Ny204.out] at ho50)); have n0_ := Aside0.mk (Kd.R_elder' (by (with_reducible repeat (first | apply Kd.R_alloc | apply Kd.R_drewN | apply Kd.R_drew)); exact HO_6.out) (Kd.R_base ho50) hb); have n1_ := Aside0.mk (Kd.R_elder' (by (with_reducible repeat (first | apply Kd.R_alloc | apply Kd.R_drewN | apply Kd.R_drew)); exact HO_7.out) (Kd.R_base ho50) hb); have n2_ := Aside0.mk (Kd.R_lower (Kd.R_new' (Kd.R_new' ho50 (Kd.R_lt (by (with_reducible repeat (first | apply Kd.R_alloc | apply Kd.R_drewN | apply Kd.R_drew)); exact HO_6.out))) (Kd.R_lt (by (with_reducible repeat (first | apply Kd.R_alloc | apply Kd.R_drewN | apply Kd.R_drew)); exact HO_7.out))) (below_size (by repeat (first | (with_reducible first | exact HB.out | apply below_alloc | apply pw_below_drewN | apply below_drew1) | exact HB.out)))); have n3_ := Aside0.mk (below_step (by repeat (first | (with_reducible first | exact HB.out | apply below_alloc | apply pw_below_drewN | apply below_drew1) | exact HB.out)) hb); clear HO_6; clear HO_7; clear HB; have HO_6 := n0_; have HO_7 := n1_; have HO206 := n2_; have HB := n3_; clear n0_ n1_ n2_ n3_; clear hb ho50; obtain ⟨Ao51, co51, eo51⟩ := Kd.R_slice HO206.out; subst eo51) | (go_at_call 21; (with_reducible refine (real_Mean.calls kj4 _ _ y204 t207 _ ?side1 ?side2 A47.out).mono ?_); (case side1 => repeat (first | exact (Kd.R_reads' HO206.out).2.2 | (with_reducible refine Kd.C_alloc ?_ _) | (with_reducible refine Kd.C_drewN ?_ _) | (with_reducible refine Kd.C_drew ?_))); (case side2 => exact (Kd.R_reads' HO206.out).2.1); rintro e w' ⟨rfl, ⟨nd, rfl⟩⟩))
                        go_ret
                        exact ⟨by first | rfl | (simp [errW_none, errW_some] <;> rfl) | (simp [*, errW_none, errW_some] <;> rfl), by repeat (first | (with_reducible first | exact HB.out | apply below_alloc | apply pw_below_drewN | apply below_drew1) | exact HB.out)⟩
                      · rw [if_neg c46] at H
                        have c46b0 : (FloatKind.f64.format.order ((FloatKind.f64.format.sub a1 a1).getD 0) 0 != some .eq) = false := Bool.eq_false_iff.mpr c46
                        clear c46
                        obtain rfl := Option.some.inj H
                        obtain ⟨Ao52, co52, eo52⟩ := Kd.R_slice HO_6.out
                        subst eo52
                        go_wp2_with (first | ((with_reducible refine gate_callee (f := 21) rfl ?_); refine goesL_ (some 56) rfl rfl Try.func21 (by kernel_rfl) rfl #[.slice Ao52 x6_1.length co52] rfl (by (try simp only [List.map_toArray, List.map_cons, List.map_nil]); first | done | rfl | (simp only [List.length_drop, List.length_take]; rfl)) ?_; (with_reducible refine (real_Mean.calls kj4 _ _ x6_1 t199 _ ?side1 ?side2 A35.out).mono ?_); (case side1 => repeat (first | exact (Kd.R_reads' HO_6.out).2.2 | (with_reducible refine Kd.C_alloc ?_ _) | (with_reducible refine Kd.C_drewN ?_ _) | (with_reducible refine Kd.C_drew ?_))); (case side2 => exact (Kd.R_reads' HO_6.out).2.1); rintro e w' ⟨rfl, ⟨nd, rfl⟩⟩; refine ⟨_, rfl, ?_⟩))
                        go_ret
                        exact ⟨by first | rfl | (simp [errW_none, errW_some] <;> rfl) | (simp [*, errW_none, errW_some] <;> rfl), by repeat (first | (with_reducible first | exact HB.out | apply below_alloc | apply pw_below_drewN | apply below_drew1) | exact HB.out)⟩
                    · rw [if_neg c45] at H
                      have c45b0 : ∀ (t_ : TypeId) (W_ : World), (binOp .sub t_ (.float .f64 a1) (.float .f64 a1)).run Try.prog W_ = .ok (.float .f64 (nanv W_ a1 a1)) W_.drew := fun t_ W_ => flt_sub_nan c45 t_ W_
                      have c45b1 : ∀ (W_ : World) (z_ : Nat), (FloatKind.f64.format.order (nanv W_ a1 a1) z_ != some .eq) = true := fun W_ z_ => nanv_ne W_ _ _ z_
                      have c45b2 : ∀ (W_ : World) (z_ : Nat), (FloatKind.f64.format.order (nanv W_ a1 a1) z_ == some .eq) = false := fun W_ z_ => nanv_eq W_ _ _ z_
                      clear c45
                      obtain ⟨y208, hy208⟩ : ∃ y_ : List Nat, y_ = (([a1] : List Nat)) := ⟨_, rfl⟩
                      replace H : ((real_Mean.f kj4 y208).bind fun t211 => (some (FloatKind.f64.format.order t211 0 == some .eq))) = some r := by first | (rw [hy208]; with_reducible exact H) | (have H2_ := (Option.bind_some _ _).symm.trans H; rw [hy208]; with_reducible exact H2_) | (have H2_ := (Option.bind_some _ _).symm.trans H; with_reducible exact H2_) | with_reducible exact H | (rw [hy208]; exact H) | exact H
                      have Ny208 := Aside0.mk hy208
                      clear hy208
                      replace H := Option.bind_eq_some_iff.mp H
                      obtain ⟨t211, A530, H⟩ := H
                      replace H : (some (FloatKind.f64.format.order t211 0 == some .eq)) = some r := H
                      have A53 := Aside0.mk A530
                      clear A530
                      obtain rfl := Option.some.inj H
                      obtain ⟨Ao54, co54, eo54⟩ := Kd.R_slice HO_6.out
                      subst eo54
                      go_wp2_with (first | ((with_reducible refine gate_callee (f := 21) rfl ?_); refine goesL_ (some 56) rfl rfl Try.func21 (by kernel_rfl) rfl #[.slice Ao54 x6_1.length co54] rfl (by (try simp only [List.map_toArray, List.map_cons, List.map_nil]); first | done | rfl | (simp only [List.length_drop, List.length_take]; rfl)) ?_; (with_reducible refine (real_Mean.calls kj4 _ _ x6_1 t199 _ ?side1 ?side2 A35.out).mono ?_); (case side1 => repeat (first | exact (Kd.R_reads' HO_6.out).2.2 | (with_reducible refine Kd.C_alloc ?_ _) | (with_reducible refine Kd.C_drewN ?_ _) | (with_reducible refine Kd.C_drew ?_))); (case side2 => exact (Kd.R_reads' HO_6.out).2.1); rintro e w' ⟨rfl, ⟨nd, rfl⟩⟩; refine ⟨_, rfl, ?_⟩) | ((with_reducible refine gate_dst (N := 78) rfl ?_); (try (refine gate_guard (by rfl) ?_; dsimp only)); refine Kd.R_lit Kd.f64 _ 22 ?hg (N := 78) ?hd (xs := ([a1] : List Nat)) (inner := [.float .f64 a1]) (ok := fun _ => True) (okp := fun _ => True) ?hr ?hp (fun _ hk => hk) trivial (Below.refl _ _) (Nat.le_refl _) (by simp) ?_; (case hd => rfl); (case hg => rfl); (case hr => first | (go_simp; done) | (go_simp; rfl)); (case hp => exact (Reps.one (show Kd.M Kd.f64 _ _ _ a1 [.float .f64 a1] from rfl) (Reps.none _ _))); intro v209 w55 ho56 hb hg_ hnew_; clear hg_ hnew_; (first | rw [← Ny208.out] at ho56 | (simp only [Int.reduceToNat] at ho56; rw [← Ny208.out] at ho56)); have n0_ := Aside0.mk (Kd.R_elder' (by (with_reducible repeat (first | apply Kd.R_alloc | apply Kd.R_drewN | apply Kd.R_drew)); exact HO_6.out) (Kd.R_base ho56) hb); have n1_ := Aside0.mk (Kd.R_elder' (by (with_reducible repeat (first | apply Kd.R_alloc | apply Kd.R_drewN | apply Kd.R_drew)); exact HO_7.out) (Kd.R_base ho56) hb); have n2_ := Aside0.mk (Kd.R_lower (Kd.R_new' (Kd.R_new' ho56 (Kd.R_lt (by (with_reducible repeat (first | apply Kd.R_alloc | apply Kd.R_drewN | apply Kd.R_drew)); exact HO_6.out))) (Kd.R_lt (by (with_reducible repeat (first | apply Kd.R_alloc | apply Kd.R_drewN | apply Kd.R_drew)); exact HO_7.out))) (below_size (by repeat (first | (with_reducible first | exact HB.out | apply below_alloc | apply pw_below_drewN | apply below_drew1) | exact HB.out)))); have n3_ := Aside0.mk (below_step (by repeat (first | (with_reducible first | exact HB.out | apply below_alloc | apply pw_below_drewN | apply below_drew1) | exact HB.out)) hb); clear HO_6; clear HO_7; clear HB; have HO_6 := n0_; have HO_7 := n1_; have HO210 := n2_; have HB := n3_; clear n0_ n1_ n2_ n3_; clear hb ho56; obtain ⟨Ao57, co57, eo57⟩ := Kd.R_slice HO210.out; subst eo57) | (go_at_call 21; (with_reducible refine (real_Mean.calls kj4 _ _ y208 t211 _ ?side1 ?side2 A53.out).mono ?_); (case side1 => repeat (first | exact (Kd.R_reads' HO210.out).2.2 | (with_reducible refine Kd.C_alloc ?_ _) | (with_reducible refine Kd.C_drewN ?_ _) | (with_reducible refine Kd.C_drew ?_))); (case side2 => exact (Kd.R_reads' HO210.out).2.1); rintro e w' ⟨rfl, ⟨nd, rfl⟩⟩))
                      go_ret
                      exact ⟨by first | rfl | (simp [errW_none, errW_some] <;> rfl) | (simp [*, errW_none, errW_some] <;> rfl), by repeat (first | (with_reducible first | exact HB.out | apply below_alloc | apply pw_below_drewN | apply below_drew1) | exact HB.out)⟩
                · rw [if_neg c38] at H
                  have c38b0 : (FloatKind.f64.format.order t199 0 == some .eq) = false := Bool.eq_false_iff.mpr c38
                  clear c38
                  obtain rfl := Option.some.inj H
                  obtain ⟨Ao58, co58, eo58⟩ := Kd.R_slice HO_6.out
                  subst eo58
                  go_wp2_with (first | ((with_reducible refine gate_callee (f := 21) rfl ?_); refine goesL_ (some 56) rfl rfl Try.func21 (by kernel_rfl) rfl #[.slice Ao58 x6_1.length co58] rfl (by (try simp only [List.map_toArray, List.map_cons, List.map_nil]); first | done | rfl | (simp only [List.length_drop, List.length_take]; rfl)) ?_; (with_reducible refine (real_Mean.calls kj4 _ _ x6_1 t199 _ ?side1 ?side2 A35.out).mono ?_); (case side1 => repeat (first | exact (Kd.R_reads' HO_6.out).2.2 | (with_reducible refine Kd.C_alloc ?_ _) | (with_reducible refine Kd.C_drewN ?_ _) | (with_reducible refine Kd.C_drew ?_))); (case side2 => exact (Kd.R_reads' HO_6.out).2.1); rintro e w' ⟨rfl, ⟨nd, rfl⟩⟩; refine ⟨_, rfl, ?_⟩))
                  go_ret
                  exact ⟨by first | rfl | (simp [errW_none, errW_some] <;> rfl) | (simp [*, errW_none, errW_some] <;> rfl), by repeat (first | (with_reducible first | exact HB.out | apply below_alloc | apply pw_below_drewN | apply below_drew1) | exact HB.out)⟩
              · replace c37 := Bool.eq_false_iff.mpr c37
                subst c37
                have H1 : (some false) = some r := by rw [if_neg (show ¬ (false = true) by decide)] at H; exact H
                clear H
                have H := H1
                clear H1
                obtain rfl := Option.some.inj H
                obtain ⟨Ao59, co59, eo59⟩ := Kd.R_slice HO_6.out
                subst eo59
                go_wp2_with (first | ((with_reducible refine gate_callee (f := 21) rfl ?_); refine goesL_ (some 56) rfl rfl Try.func21 (by kernel_rfl) rfl #[.slice Ao59 x6_1.length co59] rfl (by (try simp only [List.map_toArray, List.map_cons, List.map_nil]); first | done | rfl | (simp only [List.length_drop, List.length_take]; rfl)) ?_; (with_reducible refine (real_Mean.calls kj4 _ _ x6_1 t199 _ ?side1 ?side2 A35.out).mono ?_); (case side1 => repeat (first | exact (Kd.R_reads' HO_6.out).2.2 | (with_reducible refine Kd.C_alloc ?_ _) | (with_reducible refine Kd.C_drewN ?_ _) | (with_reducible refine Kd.C_drew ?_))); (case side2 => exact (Kd.R_reads' HO_6.out).2.1); rintro e w' ⟨rfl, ⟨nd, rfl⟩⟩; refine ⟨_, rfl, ?_⟩))
                go_ret
                exact ⟨by first | rfl | (simp [errW_none, errW_some] <;> rfl) | (simp [*, errW_none, errW_some] <;> rfl), by repeat (first | (with_reducible first | exact HB.out | apply below_alloc | apply pw_below_drewN | apply below_drew1) | exact HB.out)⟩
            · rw [if_neg c36] at H
              have c36b0 : ((x6_1.length : Int) == 0) = false := beq_eq_false_iff_ne.mpr c36
              have c36b1 : ((x6_1.length : Int) != 0) = true := bne_iff_ne.mpr c36
              have c36b2 : ¬ (x6_1 = []) := fun h_ => c36 (by rw [h_]; rfl)
              by_cases c60 : t173 = true
              · subst c60
                have H1 : (if (FloatKind.f64.format.order t199 x8_1 == some .gt || FloatKind.f64.format.order t199 x8_1 == some .eq) = true then (if (FloatKind.f64.format.order t199 x9_1 == some .lt || FloatKind.f64.format.order t199 x9_1 == some .eq) = true then ((real_Mean.f kj4 x7_1).bind fun t212 => (some (FloatKind.f64.format.order t212 t199 == some .eq))) else (some false)) else (some false)) = some r := by rw [if_pos rfl] at H; exact H
                clear H
                have H := H1
                clear H1
                by_cases c61 : (FloatKind.f64.format.order t199 x8_1 == some .gt || FloatKind.f64.format.order t199 x8_1 == some .eq) = true
                · rw [if_pos c61] at H
                  have c61b0 : (FloatKind.f64.format.order t199 x8_1 == some .gt || FloatKind.f64.format.order t199 x8_1 == some .eq) = true := c61
                  clear c61
                  by_cases c62 : (FloatKind.f64.format.order t199 x9_1 == some .lt || FloatKind.f64.format.order t199 x9_1 == some .eq) = true
                  · rw [if_pos c62] at H
                    have c62b0 : (FloatKind.f64.format.order t199 x9_1 == some .lt || FloatKind.f64.format.order t199 x9_1 == some .eq) = true := c62
                    clear c62
                    replace H := Option.bind_eq_some_iff.mp H
                    obtain ⟨t212, A630, H⟩ := H
                    replace H : (some (FloatKind.f64.format.order t212 t199 == some .eq)) = some r := H
                    have A63 := Aside0.mk A630
                    clear A630
                    obtain rfl := Option.some.inj H
                    obtain ⟨Ao64, co64, eo64⟩ := Kd.R_slice HO_6.out
                    subst eo64
                    go_wp2_with (first | ((with_reducible refine gate_callee (f := 21) rfl ?_); refine goesL_ (some 56) rfl rfl Try.func21 (by kernel_rfl) rfl #[.slice Ao64 x6_1.length co64] rfl (by (try simp only [List.map_toArray, List.map_cons, List.map_nil]); first | done | rfl | (simp only [List.length_drop, List.length_take]; rfl)) ?_; (with_reducible refine (real_Mean.calls kj4 _ _ x6_1 t199 _ ?side1 ?side2 A35.out).mono ?_); (case side1 => repeat (first | exact (Kd.R_reads' HO_6.out).2.2 | (with_reducible refine Kd.C_alloc ?_ _) | (with_reducible refine Kd.C_drewN ?_ _) | (with_reducible refine Kd.C_drew ?_))); (case side2 => exact (Kd.R_reads' HO_6.out).2.1); rintro e w' ⟨rfl, ⟨nd, rfl⟩⟩; refine ⟨_, rfl, ?_⟩; obtain ⟨Ao65, co65, eo65⟩ := Kd.R_slice HO_7.out; subst eo65) | (go_at_call 21; (with_reducible refine (real_Mean.calls kj4 _ _ x7_1 t212 _ ?side1 ?side2 A63.out).mono ?_); (case side1 => repeat (first | exact (Kd.R_reads' HO_7.out).2.2 | (with_reducible refine Kd.C_alloc ?_ _) | (with_reducible refine Kd.C_drewN ?_ _) | (with_reducible refine Kd.C_drew ?_))); (case side2 => exact (Kd.R_reads' HO_7.out).2.1); rintro e w' ⟨rfl, ⟨nd, rfl⟩⟩))
                    go_ret
                    exact ⟨by first | rfl | (simp [errW_none, errW_some] <;> rfl) | (simp [*, errW_none, errW_some] <;> rfl), by repeat (first | (with_reducible first | exact HB.out | apply below_alloc | apply pw_below_drewN | apply below_drew1) | exact HB.out)⟩
                  · rw [if_neg c62] at H
                    have c62b0 : (FloatKind.f64.format.order t199 x9_1 == some .lt || FloatKind.f64.format.order t199 x9_1 == some .eq) = false := Bool.eq_false_iff.mpr c62
                    clear c62
                    obtain rfl := Option.some.inj H
                    obtain ⟨Ao66, co66, eo66⟩ := Kd.R_slice HO_6.out
                    subst eo66
                    go_wp2_with (first | ((with_reducible refine gate_callee (f := 21) rfl ?_); refine goesL_ (some 56) rfl rfl Try.func21 (by kernel_rfl) rfl #[.slice Ao66 x6_1.length co66] rfl (by (try simp only [List.map_toArray, List.map_cons, List.map_nil]); first | done | rfl | (simp only [List.length_drop, List.length_take]; rfl)) ?_; (with_reducible refine (real_Mean.calls kj4 _ _ x6_1 t199 _ ?side1 ?side2 A35.out).mono ?_); (case side1 => repeat (first | exact (Kd.R_reads' HO_6.out).2.2 | (with_reducible refine Kd.C_alloc ?_ _) | (with_reducible refine Kd.C_drewN ?_ _) | (with_reducible refine Kd.C_drew ?_))); (case side2 => exact (Kd.R_reads' HO_6.out).2.1); rintro e w' ⟨rfl, ⟨nd, rfl⟩⟩; refine ⟨_, rfl, ?_⟩))
                    go_ret
                    exact ⟨by first | rfl | (simp [errW_none, errW_some] <;> rfl) | (simp [*, errW_none, errW_some] <;> rfl), by repeat (first | (with_reducible first | exact HB.out | apply below_alloc | apply pw_below_drewN | apply below_drew1) | exact HB.out)⟩
                · rw [if_neg c61] at H
                  have c61b0 : (FloatKind.f64.format.order t199 x8_1 == some .gt || FloatKind.f64.format.order t199 x8_1 == some .eq) = false := Bool.eq_false_iff.mpr c61
                  clear c61
                  obtain rfl := Option.some.inj H
                  obtain ⟨Ao67, co67, eo67⟩ := Kd.R_slice HO_6.out
                  subst eo67
                  go_wp2_with (first | ((with_reducible refine gate_callee (f := 21) rfl ?_); refine goesL_ (some 56) rfl rfl Try.func21 (by kernel_rfl) rfl #[.slice Ao67 x6_1.length co67] rfl (by (try simp only [List.map_toArray, List.map_cons, List.map_nil]); first | done | rfl | (simp only [List.length_drop, List.length_take]; rfl)) ?_; (with_reducible refine (real_Mean.calls kj4 _ _ x6_1 t199 _ ?side1 ?side2 A35.out).mono ?_); (case side1 => repeat (first | exact (Kd.R_reads' HO_6.out).2.2 | (with_reducible refine Kd.C_alloc ?_ _) | (with_reducible refine Kd.C_drewN ?_ _) | (with_reducible refine Kd.C_drew ?_))); (case side2 => exact (Kd.R_reads' HO_6.out).2.1); rintro e w' ⟨rfl, ⟨nd, rfl⟩⟩; refine ⟨_, rfl, ?_⟩))
                  go_ret
                  exact ⟨by first | rfl | (simp [errW_none, errW_some] <;> rfl) | (simp [*, errW_none, errW_some] <;> rfl), by repeat (first | (with_reducible first | exact HB.out | apply below_alloc | apply pw_below_drewN | apply below_drew1) | exact HB.out)⟩
              · replace c60 := Bool.eq_false_iff.mpr c60
                subst c60
                have H1 : (some false) = some r := by rw [if_neg (show ¬ (false = true) by decide)] at H; exact H
                clear H
                have H := H1
                clear H1
                obtain rfl := Option.some.inj H
                obtain ⟨Ao68, co68, eo68⟩ := Kd.R_slice HO_6.out
                subst eo68
                go_wp2_with (first | ((with_reducible refine gate_callee (f := 21) rfl ?_); refine goesL_ (some 56) rfl rfl Try.func21 (by kernel_rfl) rfl #[.slice Ao68 x6_1.length co68] rfl (by (try simp only [List.map_toArray, List.map_cons, List.map_nil]); first | done | rfl | (simp only [List.length_drop, List.length_take]; rfl)) ?_; (with_reducible refine (real_Mean.calls kj4 _ _ x6_1 t199 _ ?side1 ?side2 A35.out).mono ?_); (case side1 => repeat (first | exact (Kd.R_reads' HO_6.out).2.2 | (with_reducible refine Kd.C_alloc ?_ _) | (with_reducible refine Kd.C_drewN ?_ _) | (with_reducible refine Kd.C_drew ?_))); (case side2 => exact (Kd.R_reads' HO_6.out).2.1); rintro e w' ⟨rfl, ⟨nd, rfl⟩⟩; refine ⟨_, rfl, ?_⟩))
                go_ret
                exact ⟨by first | rfl | (simp [errW_none, errW_some] <;> rfl) | (simp [*, errW_none, errW_some] <;> rfl), by repeat (first | (with_reducible first | exact HB.out | apply below_alloc | apply pw_below_drewN | apply below_drew1) | exact HB.out)⟩

/-- THE ONE PURE STATEMENT of tabulariumlaw03_RealMeans: yours. -/
def tabulariumlaw03_RealMeans.Pure : Prop := ∀ (l0 : List Int) (a1 : Nat), l0.length ≤ maxLen → l0.length * 8 ≤ 140737488351232 → (∀ x ∈ l0, (Lit.int .i64 x).wf = true) → (Lit.float .f64 a1).wf = true → ∃ k, tabulariumlaw03_RealMeans.f k l0 a1 = some true
theorem tabulariumlaw03_RealMeans.walk (P : tabulariumlaw03_RealMeans.Pure) (a0 : Option Addr) (len0 cap0 : Nat) (z0 : List Int) (a1 : Nat) (w : World) (w0 : (a0 = none ∧ len0 = 0 ∧ cap0 = 0 ∧ z0 = []) ∨ ∃ x, a0 = some x ∧ len0 ≤ cap0 ∧ cap0 ≤ maxLen ∧ z0.length = cap0 ∧ (∀ i, i < z0.length → w.cell? (x.add i) = some (.int .i64 (z0.getD i 0))) ∧ ∀ n ∈ z0, (Lit.int .i64 n).wf = true) (y0 : len0 * 8 ≤ 140737488351232) (w1 : (Lit.float .f64 a1).wf = true) :
    Calls Try.prog 9 #[.slice a0 len0 cap0, .float .f64 a1] w fun e w' => e = .returned (.bool true) ∧ Below w.heap.size w w' := by
  obtain ⟨l0, rfl, hr0, hm0, hw0, hc0⟩ := ReadsInt.ofRowC w0
  obtain ⟨k, h⟩ := P l0 a1 hm0 y0 hw0 w1
  refine (tabulariumlaw03_RealMeans.calls k _ _ l0 a1 true w (Kd.C_of_reads (d := (0 : Int)) (h1 := fun _ => rfl) hr0) hc0 h).mono ?_
  rintro e w' ⟨rfl, hd⟩
  exact ⟨rfl, hd⟩

end Go.Proofs.Ytoncmgkgflomlaa.P
