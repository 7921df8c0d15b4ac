/- The Go functions of this seat as plain Lean functions, and for each the proof that its call gives what the plain function gives. Printed by a program of this session. -/
import Derived.Test.YtljllecpmllefaaPx0
import Derived.Test.YtljllecpmllefaaPx11
namespace Go.Proofs.Ytljllecpmllefaa.P
open Go.RowKit Go.Proofs.YtljllecpmllefaaW.PrintWords Go.Proofs.YtljllecpmllefaaW.PrintLast Go.Proofs.YtljllecpmllefaaW.PrintMore
attribute [local go_sem] max2_int min2_int max_two min_two max_three min_three max_four min_four   -- for this text's walks alone
set_option linter.unusedVariables false
set_option linter.unusedSimpArgs false

/-! ### tabulariumlaw18_ChunkCuts: function 5 -/
def tabulariumlaw18_ChunkCuts.j0 : Nat → ByteArray → Int → Int → Int → Bool → ByteArray → Int → Bool → Option (Bool)
  | 0, _, _, _, _, _, _, _, _ => none
  | k + 1, x0, x1, x2, x3, x9, x10, x11, x37 => if x37 = true then (if x9 = true then (if x11 = 1 then (some (x10.toList == ([] : List UInt8))) else (some false)) else (some false)) else (if x3 < 0 then ((chunk_Cut.f x0 (wrap64 (x1 + (mn x2 (wrap64 ((x0.size : Int) - x1))))) (wrap64 (-(wrap64 (x3 + 1))))).bind fun bt153 => ((chunk_Cut.f x0 x1 (wrap64 ((mn x2 (wrap64 ((x0.size : Int) - x1))) + (Int.tmod (wrap64 (-(wrap64 (x3 + 1)))) 1000000)))).bind fun bt155 => ((chunk_Cut.f x0 (wrap64 (x1 + (mn x2 (wrap64 ((x0.size : Int) - x1))))) (Int.tmod (wrap64 (-(wrap64 (x3 + 1)))) 1000000)).bind fun bt157 => (if x9 = true then (if x11 = 0 then (if bt153.2 = 0 then (if bt155.2 = 0 then (if bt157.2 = 0 then (if (x10.size : Int) = (mn x2 (wrap64 ((x0.size : Int) - x1))) then (if x10.size + bt157.1.size ≤ 9223372036854775807 then (if (x10 ++ bt157.1).toList = bt155.1.toList then (if (bt153.1.size : Int) ≤ (wrap64 ((wrap64 ((x0.size : Int) - x1)) - (mn x2 (wrap64 ((x0.size : Int) - x1))))) then (if 0 ≤ x1 then (if x1 ≤ (wrap64 (x1 + (mn x2 (wrap64 ((x0.size : Int) - x1))))) then (if (wrap64 (x1 + (mn x2 (wrap64 ((x0.size : Int) - x1))))) ≤ (x0.size : Int) then (some ((x0.extract (x1 : Int).toNat ((wrap64 (x1 + (mn x2 (wrap64 ((x0.size : Int) - x1))))) : Int).toNat).toList == x10.toList)) else (none)) else (none)) else (none)) else (some false)) else (some false)) else (none)) else (some false)) else (some false)) else (some false)) else (some false)) else (some false)) else (some false))))) else ((chunk_Cut.f x0 (wrap64 (x1 + (mn x2 (wrap64 ((x0.size : Int) - x1))))) x3).bind fun bt159 => ((chunk_Cut.f x0 x1 (wrap64 ((mn x2 (wrap64 ((x0.size : Int) - x1))) + (Int.tmod x3 1000000)))).bind fun bt161 => ((chunk_Cut.f x0 (wrap64 (x1 + (mn x2 (wrap64 ((x0.size : Int) - x1))))) (Int.tmod x3 1000000)).bind fun bt163 => (if x9 = true then (if x11 = 0 then (if bt159.2 = 0 then (if bt161.2 = 0 then (if bt163.2 = 0 then (if (x10.size : Int) = (mn x2 (wrap64 ((x0.size : Int) - x1))) then (if x10.size + bt163.1.size ≤ 9223372036854775807 then (if (x10 ++ bt163.1).toList = bt161.1.toList then (if (bt159.1.size : Int) ≤ (wrap64 ((wrap64 ((x0.size : Int) - x1)) - (mn x2 (wrap64 ((x0.size : Int) - x1))))) then (if 0 ≤ x1 then (if x1 ≤ (wrap64 (x1 + (mn x2 (wrap64 ((x0.size : Int) - x1))))) then (if (wrap64 (x1 + (mn x2 (wrap64 ((x0.size : Int) - x1))))) ≤ (x0.size : Int) then (some ((x0.extract (x1 : Int).toNat ((wrap64 (x1 + (mn x2 (wrap64 ((x0.size : Int) - x1))))) : Int).toNat).toList == x10.toList)) else (none)) else (none)) else (none)) else (some false)) else (some false)) else (none)) else (some false)) else (some false)) else (some false)) else (some false)) else (some false)) else (some false))))))
def tabulariumlaw18_ChunkCuts.f (k : Nat) (a0 : ByteArray) (a1 : Int) (a2 : Int) (a3 : Int) : Option (Bool) := (tabulariumlaw18_examples.f k).bind fun t150 => ((chunk_Cut.f a0 a1 a2).bind fun bt151 => (if a1 < 0 then (tabulariumlaw18_ChunkCuts.j0 k a0 a1 a2 a3 t150 bt151.1 bt151.2 true) else (if a2 < 0 then (tabulariumlaw18_ChunkCuts.j0 k a0 a1 a2 a3 t150 bt151.1 bt151.2 true) else (tabulariumlaw18_ChunkCuts.j0 k a0 a1 a2 a3 t150 bt151.1 bt151.2 (decide (a1 > (a0.size : Int)))))))
theorem tabulariumlaw18_ChunkCuts.mono_l : ∀ k, (∀ y0 y1 y2 y3 y4 y5 y6 y7, LeO (tabulariumlaw18_ChunkCuts.j0 k y0 y1 y2 y3 y4 y5 y6 y7) (tabulariumlaw18_ChunkCuts.j0 (k + 1) y0 y1 y2 y3 y4 y5 y6 y7))
  | 0 => fun _ _ _ _ _ _ _ _ r h => by simp [tabulariumlaw18_ChunkCuts.j0] at h
  | k + 1 => by
    have ih0 := tabulariumlaw18_ChunkCuts.mono_l k
    · intro y0 y1 y2 y3 y4 y5 y6 y7
      unfold tabulariumlaw18_ChunkCuts.j0
      repeat' first
      | (with_reducible exact ih0 _ _ _ _ _ _ _ _)
      | (with_reducible exact tabulariumlaw18_examples.mono _)
      | (with_reducible exact LeO.refl _)
      | (with_reducible exact LeO.none _)
      | (with_reducible refine LeO.ite ?_ ?_)
      | (with_reducible refine LeO.bind ?_ (fun _ => ?_))
      | exact ih0 _ _ _ _ _ _ _ _
      | exact tabulariumlaw18_examples.mono _
      | exact LeO.none _
      | refine LeO.ite ?_ ?_
      | refine LeO.bind ?_ (fun _ => ?_)
theorem tabulariumlaw18_ChunkCuts.mono : ∀ a0 a1 a2 a3 k, LeO (tabulariumlaw18_ChunkCuts.f k a0 a1 a2 a3) (tabulariumlaw18_ChunkCuts.f (k + 1) a0 a1 a2 a3) := by
  intro a0 a1 a2 a3 k
  have ih0 := tabulariumlaw18_ChunkCuts.mono_l k
  unfold tabulariumlaw18_ChunkCuts.f
  repeat' first
      | (with_reducible exact ih0 _ _ _ _ _ _ _ _)
      | (with_reducible exact tabulariumlaw18_examples.mono _)
      | (with_reducible exact LeO.refl _)
      | (with_reducible exact LeO.none _)
      | (with_reducible refine LeO.ite ?_ ?_)
      | (with_reducible refine LeO.bind ?_ (fun _ => ?_))
      | exact ih0 _ _ _ _ _ _ _ _
      | exact tabulariumlaw18_examples.mono _
      | exact LeO.none _
      | refine LeO.ite ?_ ?_
      | refine LeO.bind ?_ (fun _ => ?_)
set_option maxHeartbeats 8000000 in
set_option maxRecDepth 100000 in
theorem tabulariumlaw18_ChunkCuts.calls (k : Nat) (a0 : ByteArray) (a1 : Int) (a2 : Int) (a3 : Int) (r : Bool) (w : World) (h : tabulariumlaw18_ChunkCuts.f k a0 a1 a2 a3 = some r) :
    Calls Try.prog 5 #[.string a0, .int .i64 a1, .int .i64 a2, .int .i64 a3] w fun e w' => e = .returned (.bool r) ∧ Below w.heap.size w w' := by
  have HB := Aside0.mk (Below.refl w.heap.size w)
  have H : ((tabulariumlaw18_examples.f k).bind fun t150 => ((chunk_Cut.f a0 a1 a2).bind fun bt151 => (if a1 < 0 then (tabulariumlaw18_ChunkCuts.j0 k a0 a1 a2 a3 t150 bt151.1 bt151.2 true) else (if a2 < 0 then (tabulariumlaw18_ChunkCuts.j0 k a0 a1 a2 a3 t150 bt151.1 bt151.2 true) else (tabulariumlaw18_ChunkCuts.j0 k a0 a1 a2 a3 t150 bt151.1 bt151.2 (decide (a1 > (a0.size : Int)))))))) = some r := h
  clear h
  replace H := Option.bind_eq_some_iff.mp H
  obtain ⟨t150, A50, H⟩ := H
  replace H : ((chunk_Cut.f a0 a1 a2).bind fun bt151 => (if a1 < 0 then (tabulariumlaw18_ChunkCuts.j0 k a0 a1 a2 a3 t150 bt151.1 bt151.2 true) else (if a2 < 0 then (tabulariumlaw18_ChunkCuts.j0 k a0 a1 a2 a3 t150 bt151.1 bt151.2 true) else (tabulariumlaw18_ChunkCuts.j0 k a0 a1 a2 a3 t150 bt151.1 bt151.2 (decide (a1 > (a0.size : Int))))))) = some r := H
  have A5 := Aside0.mk A50
  clear A50
  replace H := Option.bind_eq_some_iff.mp H
  obtain ⟨⟨t151, t152⟩, A60, H⟩ := H
  replace H : (if a1 < 0 then (tabulariumlaw18_ChunkCuts.j0 k a0 a1 a2 a3 t150 t151 t152 true) else (if a2 < 0 then (tabulariumlaw18_ChunkCuts.j0 k a0 a1 a2 a3 t150 t151 t152 true) else (tabulariumlaw18_ChunkCuts.j0 k a0 a1 a2 a3 t150 t151 t152 (decide (a1 > (a0.size : Int)))))) = some r := H
  have A6 := Aside0.mk A60
  clear A60
  have HC7 := Aside0.mk H
  clear H
  go_enter Try.func5, Try.ntmps5
  go_upto_region 3 with (first | ((with_reducible refine gate_callee (f := 8) rfl ?_); refine goesL_ (some 18) rfl rfl Try.func8 (by kernel_rfl) rfl #[] rfl (by (try simp only [List.map_toArray, List.map_cons, List.map_nil]); first | done | rfl | (simp only [List.length_drop, List.length_take]; rfl)) ?_; (with_reducible refine (tabulariumlaw18_examples.calls k  t150 _ A5.out).mono ?_); rintro e w8 ⟨rfl, hb⟩; refine ⟨_, rfl, ?_⟩; have n0_ := Aside0.mk (below_step (by repeat (first | (with_reducible first | exact HB.out | apply below_alloc | apply pw_below_drewN | apply below_drew1) | exact HB.out)) hb); clear HB; have HB := n0_; clear n0_; (try clear hb); (try clear hb2); (try clear hk); (try clear hi)) | ((with_reducible refine gate_callee (f := 13) rfl ?_); refine goesL_ (some 23) rfl rfl Try.func13 (by kernel_rfl) rfl #[.string a0, .int .i64 a1, .int .i64 a2] rfl (by (try simp only [List.map_toArray, List.map_cons, List.map_nil]); first | done | rfl | (simp only [List.length_drop, List.length_take]; rfl)) ?_; (with_reducible refine (chunk_Cut.calls a0 a1 a2 t151 t152 _ A6.out).mono ?_); rintro e w9 ⟨rfl, hb⟩; refine ⟨_, rfl, ?_⟩; have n0_ := Aside0.mk (below_step (by repeat (first | (with_reducible first | exact HB.out | apply below_alloc | apply pw_below_drewN | apply below_drew1) | exact HB.out)) hb); clear HB; have HB := n0_; clear n0_; (try clear hb); (try clear hb2); (try clear hk); (try clear hi)))
  (try simp only [Act.put, List.setIfInBounds_toArray, List.set_cons_zero, List.set_cons_succ])
  go_cut [37] (fun v37 wc => ∃ (kq : Nat) (x37_6 : Bool), v37 = .bool x37_6 ∧ Aside0 (tabulariumlaw18_ChunkCuts.j0 kq a0 a1 a2 a3 t150 t151 t152 x37_6 = some r) ∧ Aside0 (kq ≤ k) ∧ Aside0 (Below w.heap.size w wc))
  case first =>
    have H := HC7.out
    clear HC7
    by_cases c10 : a1 < 0
    · rw [if_pos c10] at H
      have c10b0 : decide (a1 < 0) = true := decide_eq_true c10
      clear c10
      (first | rw [c10b0] | (simp only [i64_w, i32_w]; rw [c10b0]) | skip)
      have H' := Aside0.mk H
      clear H
      go_wp2
      go_meet
      case rel => exact ⟨_, (true), (by first | rfl | (simp; done) | (simp [*]; done) | (simp; exact (fun (l_ : List UInt8) => by cases l_ <;> rfl : ∀ l_ : List UInt8, l_.isEmpty = !(l_ != [])) _)), H', ⟨by first | omega | exact Nat.le_refl _⟩, ⟨by repeat (first | (with_reducible first | exact HB.out | apply below_alloc | apply pw_below_drewN | apply below_drew1) | exact HB.out)⟩⟩
    · rw [if_neg c10] at H
      have c10b0 : decide (a1 < 0) = false := decide_eq_false c10
      clear c10
      (first | rw [c10b0] | (simp only [i64_w, i32_w]; rw [c10b0]) | skip)
      by_cases c11 : a2 < 0
      · rw [if_pos c11] at H
        have c11b0 : decide (a2 < 0) = true := decide_eq_true c11
        clear c11
        have H' := Aside0.mk H
        clear H
        go_wp2
        go_meet
        case rel => exact ⟨_, (true), (by first | rfl | (simp; done) | (simp [*]; done) | (simp; exact (fun (l_ : List UInt8) => by cases l_ <;> rfl : ∀ l_ : List UInt8, l_.isEmpty = !(l_ != [])) _)), H', ⟨by first | omega | exact Nat.le_refl _⟩, ⟨by repeat (first | (with_reducible first | exact HB.out | apply below_alloc | apply pw_below_drewN | apply below_drew1) | exact HB.out)⟩⟩
      · rw [if_neg c11] at H
        have c11b0 : decide (a2 < 0) = false := decide_eq_false c11
        clear c11
        have H' := Aside0.mk H
        clear H
        go_wp2
        go_meet
        case rel => exact ⟨_, (decide (a1 > (a0.size : Int))), (by first | rfl | (simp; done) | (simp [*]; done) | (simp; exact (fun (l_ : List UInt8) => by cases l_ <;> rfl : ∀ l_ : List UInt8, l_.isEmpty = !(l_ != [])) _)), H', ⟨by first | omega | exact Nat.le_refl _⟩, ⟨by repeat (first | (with_reducible first | exact HB.out | apply below_alloc | apply pw_below_drewN | apply below_drew1) | exact HB.out)⟩⟩
  case rest =>
    clear HC7
    try clear c1
    try clear p2
    try clear c5
    try clear c8
    try clear c10
    try clear c10b0
    try clear c11
    try clear c11b0
    obtain ⟨kq, x37_6, rfl, HA, HJ6, HB⟩ := hcut
    cases kq with
    | zero => exact absurd HA.out (by simp [tabulariumlaw18_ChunkCuts.j0])
    | succ kj6 =>
      have H := HA.out
      clear HA
      simp only [tabulariumlaw18_ChunkCuts.j0] at H
      by_cases c12 : x37_6 = true
      · subst c12
        have H1 : (if t150 = true then (if t152 = 1 then (some (t151.toList == ([] : List UInt8))) else (some false)) else (some false)) = some r := by rw [if_pos rfl] at H; exact H
        clear H
        have H := H1
        clear H1
        by_cases c13 : t150 = true
        · subst c13
          have H1 : (if t152 = 1 then (some (t151.toList == ([] : List UInt8))) else (some false)) = some r := by rw [if_pos rfl] at H; exact H
          clear H
          have H := H1
          clear H1
          by_cases c14 : t152 = 1
          · rw [if_pos c14] at H
            have c14b0 : (t152 == 1) = true := beq_iff_eq.mpr c14
            have c14b1 : (t152 != 1) = false := bne_eq_false_iff_eq.mpr c14
            clear c14
            obtain rfl := Option.some.inj H
            go_wp2
            go_ret
            exact ⟨by first | rfl | (simp [errW_none, errW_some] <;> rfl) | (simp [*, errW_none, errW_some] <;> rfl), by repeat (first | (with_reducible first | exact HB.out | apply below_alloc | apply pw_below_drewN | apply below_drew1) | exact HB.out)⟩
          · rw [if_neg c14] at H
            have c14b0 : (t152 == 1) = false := beq_eq_false_iff_ne.mpr c14
            have c14b1 : (t152 != 1) = true := bne_iff_ne.mpr c14
            obtain rfl := Option.some.inj H
            go_wp2
            go_ret
            exact ⟨by first | rfl | (simp [errW_none, errW_some] <;> rfl) | (simp [*, errW_none, errW_some] <;> rfl), by repeat (first | (with_reducible first | exact HB.out | apply below_alloc | apply pw_below_drewN | apply below_drew1) | exact HB.out)⟩
        · replace c13 := Bool.eq_false_iff.mpr c13
          subst c13
          have H1 : (some false) = some r := by rw [if_neg (show ¬ (false = true) by decide)] at H; exact H
          clear H
          have H := H1
          clear H1
          obtain rfl := Option.some.inj H
          go_wp2
          go_ret
          exact ⟨by first | rfl | (simp [errW_none, errW_some] <;> rfl) | (simp [*, errW_none, errW_some] <;> rfl), by repeat (first | (with_reducible first | exact HB.out | apply below_alloc | apply pw_below_drewN | apply below_drew1) | exact HB.out)⟩
      · replace c12 := Bool.eq_false_iff.mpr c12
        subst c12
        have H1 : (if a3 < 0 then ((chunk_Cut.f a0 (wrap64 (a1 + (mn a2 (wrap64 ((a0.size : Int) - a1))))) (wrap64 (-(wrap64 (a3 + 1))))).bind fun bt153 => ((chunk_Cut.f a0 a1 (wrap64 ((mn a2 (wrap64 ((a0.size : Int) - a1))) + (Int.tmod (wrap64 (-(wrap64 (a3 + 1)))) 1000000)))).bind fun bt155 => ((chunk_Cut.f a0 (wrap64 (a1 + (mn a2 (wrap64 ((a0.size : Int) - a1))))) (Int.tmod (wrap64 (-(wrap64 (a3 + 1)))) 1000000)).bind fun bt157 => (if t150 = true then (if t152 = 0 then (if bt153.2 = 0 then (if bt155.2 = 0 then (if bt157.2 = 0 then (if (t151.size : Int) = (mn a2 (wrap64 ((a0.size : Int) - a1))) then (if t151.size + bt157.1.size ≤ 9223372036854775807 then (if (t151 ++ bt157.1).toList = bt155.1.toList then (if (bt153.1.size : Int) ≤ (wrap64 ((wrap64 ((a0.size : Int) - a1)) - (mn a2 (wrap64 ((a0.size : Int) - a1))))) then (if 0 ≤ a1 then (if a1 ≤ (wrap64 (a1 + (mn a2 (wrap64 ((a0.size : Int) - a1))))) then (if (wrap64 (a1 + (mn a2 (wrap64 ((a0.size : Int) - a1))))) ≤ (a0.size : Int) then (some ((a0.extract (a1 : Int).toNat ((wrap64 (a1 + (mn a2 (wrap64 ((a0.size : Int) - a1))))) : Int).toNat).toList == t151.toList)) else (none)) else (none)) else (none)) else (some false)) else (some false)) else (none)) else (some false)) else (some false)) else (some false)) else (some false)) else (some false)) else (some false))))) else ((chunk_Cut.f a0 (wrap64 (a1 + (mn a2 (wrap64 ((a0.size : Int) - a1))))) a3).bind fun bt159 => ((chunk_Cut.f a0 a1 (wrap64 ((mn a2 (wrap64 ((a0.size : Int) - a1))) + (Int.tmod a3 1000000)))).bind fun bt161 => ((chunk_Cut.f a0 (wrap64 (a1 + (mn a2 (wrap64 ((a0.size : Int) - a1))))) (Int.tmod a3 1000000)).bind fun bt163 => (if t150 = true then (if t152 = 0 then (if bt159.2 = 0 then (if bt161.2 = 0 then (if bt163.2 = 0 then (if (t151.size : Int) = (mn a2 (wrap64 ((a0.size : Int) - a1))) then (if t151.size + bt163.1.size ≤ 9223372036854775807 then (if (t151 ++ bt163.1).toList = bt161.1.toList then (if (bt159.1.size : Int) ≤ (wrap64 ((wrap64 ((a0.size : Int) - a1)) - (mn a2 (wrap64 ((a0.size : Int) - a1))))) then (if 0 ≤ a1 then (if a1 ≤ (wrap64 (a1 + (mn a2 (wrap64 ((a0.size : Int) - a1))))) then (if (wrap64 (a1 + (mn a2 (wrap64 ((a0.size : Int) - a1))))) ≤ (a0.size : Int) then (some ((a0.extract (a1 : Int).toNat ((wrap64 (a1 + (mn a2 (wrap64 ((a0.size : Int) - a1))))) : Int).toNat).toList == t151.toList)) else (none)) else (none)) else (none)) else (some false)) else (some false)) else (none)) else (some false)) else (some false)) else (some false)) else (some false)) else (some false)) else (some false)))))) = some r := by rw [if_neg (show ¬ (false = true) by decide)] at H; exact H
        clear H
        have H := H1
        clear H1
        by_cases c15 : a3 < 0
        · rw [if_pos c15] at H
          have c15b0 : decide (a3 < 0) = true := decide_eq_true c15
          clear c15
          obtain ⟨ji16, hji16⟩ : ∃ j_ : Int, (mn a2 (wrap64 ((a0.size : Int) - a1))) = j_ := ⟨_, rfl⟩
          replace H : ((chunk_Cut.f a0 (wrap64 (a1 + (ji16))) (wrap64 (-(wrap64 (a3 + 1))))).bind fun bt153 => ((chunk_Cut.f a0 a1 (wrap64 ((ji16) + (Int.tmod (wrap64 (-(wrap64 (a3 + 1)))) 1000000)))).bind fun bt155 => ((chunk_Cut.f a0 (wrap64 (a1 + (ji16))) (Int.tmod (wrap64 (-(wrap64 (a3 + 1)))) 1000000)).bind fun bt157 => (if t150 = true then (if t152 = 0 then (if bt153.2 = 0 then (if bt155.2 = 0 then (if bt157.2 = 0 then (if (t151.size : Int) = (ji16) then (if t151.size + bt157.1.size ≤ 9223372036854775807 then (if (t151 ++ bt157.1).toList = bt155.1.toList then (if (bt153.1.size : Int) ≤ (wrap64 ((wrap64 ((a0.size : Int) - a1)) - (ji16))) then (if 0 ≤ a1 then (if a1 ≤ (wrap64 (a1 + (ji16))) then (if (wrap64 (a1 + (ji16))) ≤ (a0.size : Int) then (some ((a0.extract (a1 : Int).toNat ((wrap64 (a1 + (ji16))) : Int).toNat).toList == t151.toList)) else (none)) else (none)) else (none)) else (some false)) else (some false)) else (none)) else (some false)) else (some false)) else (some false)) else (some false)) else (some false)) else (some false))))) = some r := by first | (rw [hji16] at H; exact H) | (simp only [hji16] at H ⊢; exact H)
          have hji16_ : (if (wrap64 ((a0.size : Int) - a1)) < a2 then (wrap64 ((a0.size : Int) - a1)) else a2) = ji16 := hji16
          replace H := Option.bind_eq_some_iff.mp H
          obtain ⟨⟨t153, t154⟩, A170, H⟩ := H
          replace H : ((chunk_Cut.f a0 a1 (wrap64 ((ji16) + (Int.tmod (wrap64 (-(wrap64 (a3 + 1)))) 1000000)))).bind fun bt155 => ((chunk_Cut.f a0 (wrap64 (a1 + (ji16))) (Int.tmod (wrap64 (-(wrap64 (a3 + 1)))) 1000000)).bind fun bt157 => (if t150 = true then (if t152 = 0 then (if t154 = 0 then (if bt155.2 = 0 then (if bt157.2 = 0 then (if (t151.size : Int) = (ji16) then (if t151.size + bt157.1.size ≤ 9223372036854775807 then (if (t151 ++ bt157.1).toList = bt155.1.toList then (if (t153.size : Int) ≤ (wrap64 ((wrap64 ((a0.size : Int) - a1)) - (ji16))) then (if 0 ≤ a1 then (if a1 ≤ (wrap64 (a1 + (ji16))) then (if (wrap64 (a1 + (ji16))) ≤ (a0.size : Int) then (some ((a0.extract (a1 : Int).toNat ((wrap64 (a1 + (ji16))) : Int).toNat).toList == t151.toList)) else (none)) else (none)) else (none)) else (some false)) else (some false)) else (none)) else (some false)) else (some false)) else (some false)) else (some false)) else (some false)) else (some false)))) = some r := H
          have A17 := Aside0.mk A170
          clear A170
          replace H := Option.bind_eq_some_iff.mp H
          obtain ⟨⟨t155, t156⟩, A180, H⟩ := H
          replace H : ((chunk_Cut.f a0 (wrap64 (a1 + (ji16))) (Int.tmod (wrap64 (-(wrap64 (a3 + 1)))) 1000000)).bind fun bt157 => (if t150 = true then (if t152 = 0 then (if t154 = 0 then (if t156 = 0 then (if bt157.2 = 0 then (if (t151.size : Int) = (ji16) then (if t151.size + bt157.1.size ≤ 9223372036854775807 then (if (t151 ++ bt157.1).toList = t155.toList then (if (t153.size : Int) ≤ (wrap64 ((wrap64 ((a0.size : Int) - a1)) - (ji16))) then (if 0 ≤ a1 then (if a1 ≤ (wrap64 (a1 + (ji16))) then (if (wrap64 (a1 + (ji16))) ≤ (a0.size : Int) then (some ((a0.extract (a1 : Int).toNat ((wrap64 (a1 + (ji16))) : Int).toNat).toList == t151.toList)) else (none)) else (none)) else (none)) else (some false)) else (some false)) else (none)) else (some false)) else (some false)) else (some false)) else (some false)) else (some false)) else (some false))) = some r := H
          have A18 := Aside0.mk A180
          clear A180
          replace H := Option.bind_eq_some_iff.mp H
          obtain ⟨⟨t157, t158⟩, A190, H⟩ := H
          replace H : (if t150 = true then (if t152 = 0 then (if t154 = 0 then (if t156 = 0 then (if t158 = 0 then (if (t151.size : Int) = (ji16) then (if t151.size + t157.size ≤ 9223372036854775807 then (if (t151 ++ t157).toList = t155.toList then (if (t153.size : Int) ≤ (wrap64 ((wrap64 ((a0.size : Int) - a1)) - (ji16))) then (if 0 ≤ a1 then (if a1 ≤ (wrap64 (a1 + (ji16))) then (if (wrap64 (a1 + (ji16))) ≤ (a0.size : Int) then (some ((a0.extract (a1 : Int).toNat ((wrap64 (a1 + (ji16))) : Int).toNat).toList == t151.toList)) else (none)) else (none)) else (none)) else (some false)) else (some false)) else (none)) else (some false)) else (some false)) else (some false)) else (some false)) else (some false)) else (some false)) = some r := H
          have A19 := Aside0.mk A190
          clear A190
          by_cases c20 : t150 = true
          · subst c20
            have H1 : (if t152 = 0 then (if t154 = 0 then (if t156 = 0 then (if t158 = 0 then (if (t151.size : Int) = (ji16) then (if t151.size + t157.size ≤ 9223372036854775807 then (if (t151 ++ t157).toList = t155.toList then (if (t153.size : Int) ≤ (wrap64 ((wrap64 ((a0.size : Int) - a1)) - (ji16))) then (if 0 ≤ a1 then (if a1 ≤ (wrap64 (a1 + (ji16))) then (if (wrap64 (a1 + (ji16))) ≤ (a0.size : Int) then (some ((a0.extract (a1 : Int).toNat ((wrap64 (a1 + (ji16))) : Int).toNat).toList == t151.toList)) else (none)) else (none)) else (none)) else (some false)) else (some false)) else (none)) else (some false)) else (some false)) else (some false)) else (some false)) else (some false)) = some r := by rw [if_pos rfl] at H; exact H
            clear H
            have H := H1
            clear H1
            by_cases c21 : t152 = 0
            · rw [if_pos c21] at H
              have c21b0 : (t152 == 0) = true := beq_iff_eq.mpr c21
              have c21b1 : (t152 != 0) = false := bne_eq_false_iff_eq.mpr c21
              clear c21
              by_cases c22 : t154 = 0
              · rw [if_pos c22] at H
                have c22b0 : (t154 == 0) = true := beq_iff_eq.mpr c22
                have c22b1 : (t154 != 0) = false := bne_eq_false_iff_eq.mpr c22
                clear c22
                by_cases c23 : t156 = 0
                · rw [if_pos c23] at H
                  have c23b0 : (t156 == 0) = true := beq_iff_eq.mpr c23
                  have c23b1 : (t156 != 0) = false := bne_eq_false_iff_eq.mpr c23
                  clear c23
                  by_cases c24 : t158 = 0
                  · rw [if_pos c24] at H
                    have c24b0 : (t158 == 0) = true := beq_iff_eq.mpr c24
                    have c24b1 : (t158 != 0) = false := bne_eq_false_iff_eq.mpr c24
                    clear c24
                    by_cases c25 : (t151.size : Int) = (ji16)
                    · rw [if_pos c25] at H
                      have c25b0 : ((t151.size : Int) == (ji16)) = true := beq_iff_eq.mpr c25
                      have c25b1 : ((t151.size : Int) != (ji16)) = false := bne_eq_false_iff_eq.mpr c25
                      clear c25
                      by_cases c26 : t151.size + t157.size ≤ 9223372036854775807
                      · rw [if_pos c26] at H
                        have c26b0 := eq_true c26
                        have c26b1 : decide (t151.size + t157.size ≤ 9223372036854775807) = true := decide_eq_true c26
                        try have c26b2 : (9223372036854775807 < t151.size + t157.size) = False := eq_false (Nat.not_lt.2 c26)
                        by_cases c27 : (t151 ++ t157).toList = t155.toList
                        · rw [if_pos c27] at H
                          have c27b0 : ((t151 ++ t157).toList == t155.toList) = true := beq_iff_eq.mpr c27
                          have c27b1 : ((t151 ++ t157).toList != t155.toList) = false := bne_eq_false_iff_eq.mpr c27
                          clear c27
                          by_cases c28 : (t153.size : Int) ≤ (wrap64 ((wrap64 ((a0.size : Int) - a1)) - (ji16)))
                          · rw [if_pos c28] at H
                            have c28b0 : decide ((t153.size : Int) ≤ (wrap64 ((wrap64 ((a0.size : Int) - a1)) - (ji16)))) = true := decide_eq_true c28
                            clear c28
                            by_cases c29 : 0 ≤ a1
                            · rw [if_pos c29] at H
                              have c29b0 := eq_true c29
                              have c29b1 : decide (0 ≤ a1) = true := decide_eq_true c29
                              clear c29
                              by_cases c30 : a1 ≤ (wrap64 (a1 + (ji16)))
                              · rw [if_pos c30] at H
                                have c30b0 := eq_true c30
                                have c30b1 : decide (a1 ≤ (wrap64 (a1 + (ji16)))) = true := decide_eq_true c30
                                by_cases c31 : (wrap64 (a1 + (ji16))) ≤ (a0.size : Int)
                                · rw [if_pos c31] at H
                                  have c31b0 := eq_true c31
                                  have c31b1 : decide ((wrap64 (a1 + (ji16))) ≤ (a0.size : Int)) = true := decide_eq_true c31
                                  obtain rfl := Option.some.inj H
                                  go_wp2_with (first | ((with_reducible refine gate_callee (f := 13) rfl ?_); refine goesL_ (some 64) rfl rfl Try.func13 (by kernel_rfl) rfl #[.string a0, .int .i64 (wrap64 (a1 + (ji16))), .int .i64 (wrap64 (-(wrap64 (a3 + 1))))] rfl (by (try simp only [List.map_toArray, List.map_cons, List.map_nil]); first | done | (simp only [hji16]; rfl) | rfl | (simp only [List.length_drop, List.length_take]; rfl)) ?_; (with_reducible refine (chunk_Cut.calls a0 (wrap64 (a1 + (ji16))) (wrap64 (-(wrap64 (a3 + 1)))) t153 t154 _ A17.out).mono ?_); rintro e w32 ⟨rfl, hb⟩; refine ⟨_, rfl, ?_⟩; have n0_ := Aside0.mk (below_step (by repeat (first | (with_reducible first | exact HB.out | apply below_alloc | apply pw_below_drewN | apply below_drew1) | exact HB.out)) hb); clear HB; have HB := n0_; clear n0_; (try clear hb); (try clear hb2); (try clear hk); (try clear hi)) | ((with_reducible refine gate_callee (f := 13) rfl ?_); refine goesL_ (some 74) rfl rfl Try.func13 (by kernel_rfl) rfl #[.string a0, .int .i64 a1, .int .i64 (wrap64 ((ji16) + (Int.tmod (wrap64 (-(wrap64 (a3 + 1)))) 1000000)))] rfl (by (try simp only [List.map_toArray, List.map_cons, List.map_nil]); first | done | (simp only [hji16]; rfl) | rfl | (simp only [List.length_drop, List.length_take]; rfl)) ?_; (with_reducible refine (chunk_Cut.calls a0 a1 (wrap64 ((ji16) + (Int.tmod (wrap64 (-(wrap64 (a3 + 1)))) 1000000))) t155 t156 _ A18.out).mono ?_); rintro e w33 ⟨rfl, hb⟩; refine ⟨_, rfl, ?_⟩; have n0_ := Aside0.mk (below_step (by repeat (first | (with_reducible first | exact HB.out | apply below_alloc | apply pw_below_drewN | apply below_drew1) | exact HB.out)) hb); clear HB; have HB := n0_; clear n0_; (try clear hb); (try clear hb2); (try clear hk); (try clear hi)) | ((with_reducible refine gate_callee (f := 13) rfl ?_); refine goesL_ (some 84) rfl rfl Try.func13 (by kernel_rfl) rfl #[.string a0, .int .i64 (wrap64 (a1 + (ji16))), .int .i64 (Int.tmod (wrap64 (-(wrap64 (a3 + 1)))) 1000000)] rfl (by (try simp only [List.map_toArray, List.map_cons, List.map_nil]); first | done | (simp only [hji16]; rfl) | rfl | (simp only [List.length_drop, List.length_take]; rfl)) ?_; (with_reducible refine (chunk_Cut.calls a0 (wrap64 (a1 + (ji16))) (Int.tmod (wrap64 (-(wrap64 (a3 + 1)))) 1000000) t157 t158 _ A19.out).mono ?_); rintro e w34 ⟨rfl, hb⟩; refine ⟨_, rfl, ?_⟩; have n0_ := Aside0.mk (below_step (by repeat (first | (with_reducible first | exact HB.out | apply below_alloc | apply pw_below_drewN | apply below_drew1) | exact HB.out)) hb); clear HB; have HB := n0_; clear n0_; (try clear hb); (try clear hb2); (try clear hk); (try clear hi)))
                                  go_ret
                                  exact ⟨by first | rfl | (simp [errW_none, errW_some] <;> rfl) | (simp only [← hji16]; first | rfl | (simp [errW_none, errW_some] <;> rfl)) | (simp [*, errW_none, errW_some] <;> rfl), by repeat (first | (with_reducible first | exact HB.out | apply below_alloc | apply pw_below_drewN | apply below_drew1) | exact HB.out)⟩
                                · rw [if_neg c31] at H
                                  exact absurd H (by simp)
                              · rw [if_neg c30] at H
                                exact absurd H (by simp)
                            · rw [if_neg c29] at H
                              exact absurd H (by simp)
                          · rw [if_neg c28] at H
                            have c28b0 : decide ((t153.size : Int) ≤ (wrap64 ((wrap64 ((a0.size : Int) - a1)) - (ji16)))) = false := decide_eq_false c28
                            clear c28
                            obtain rfl := Option.some.inj H
                            go_wp2_with (first | ((with_reducible refine gate_callee (f := 13) rfl ?_); refine goesL_ (some 64) rfl rfl Try.func13 (by kernel_rfl) rfl #[.string a0, .int .i64 (wrap64 (a1 + (ji16))), .int .i64 (wrap64 (-(wrap64 (a3 + 1))))] rfl (by (try simp only [List.map_toArray, List.map_cons, List.map_nil]); first | done | (simp only [hji16]; rfl) | rfl | (simp only [List.length_drop, List.length_take]; rfl)) ?_; (with_reducible refine (chunk_Cut.calls a0 (wrap64 (a1 + (ji16))) (wrap64 (-(wrap64 (a3 + 1)))) t153 t154 _ A17.out).mono ?_); rintro e w35 ⟨rfl, hb⟩; refine ⟨_, rfl, ?_⟩; have n0_ := Aside0.mk (below_step (by repeat (first | (with_reducible first | exact HB.out | apply below_alloc | apply pw_below_drewN | apply below_drew1) | exact HB.out)) hb); clear HB; have HB := n0_; clear n0_; (try clear hb); (try clear hb2); (try clear hk); (try clear hi)) | ((with_reducible refine gate_callee (f := 13) rfl ?_); refine goesL_ (some 74) rfl rfl Try.func13 (by kernel_rfl) rfl #[.string a0, .int .i64 a1, .int .i64 (wrap64 ((ji16) + (Int.tmod (wrap64 (-(wrap64 (a3 + 1)))) 1000000)))] rfl (by (try simp only [List.map_toArray, List.map_cons, List.map_nil]); first | done | (simp only [hji16]; rfl) | rfl | (simp only [List.length_drop, List.length_take]; rfl)) ?_; (with_reducible refine (chunk_Cut.calls a0 a1 (wrap64 ((ji16) + (Int.tmod (wrap64 (-(wrap64 (a3 + 1)))) 1000000))) t155 t156 _ A18.out).mono ?_); rintro e w36 ⟨rfl, hb⟩; refine ⟨_, rfl, ?_⟩; have n0_ := Aside0.mk (below_step (by repeat (first | (with_reducible first | exact HB.out | apply below_alloc | apply pw_below_drewN | apply below_drew1) | exact HB.out)) hb); clear HB; have HB := n0_; clear n0_; (try clear hb); (try clear hb2); (try clear hk); (try clear hi)) | ((with_reducible refine gate_callee (f := 13) rfl ?_); refine goesL_ (some 84) rfl rfl Try.func13 (by kernel_rfl) rfl #[.string a0, .int .i64 (wrap64 (a1 + (ji16))), .int .i64 (Int.tmod (wrap64 (-(wrap64 (a3 + 1)))) 1000000)] rfl (by (try simp only [List.map_toArray, List.map_cons, List.map_nil]); first | done | (simp only [hji16]; rfl) | rfl | (simp only [List.length_drop, List.length_take]; rfl)) ?_; (with_reducible refine (chunk_Cut.calls a0 (wrap64 (a1 + (ji16))) (Int.tmod (wrap64 (-(wrap64 (a3 + 1)))) 1000000) t157 t158 _ A19.out).mono ?_); rintro e w37 ⟨rfl, hb⟩; refine ⟨_, rfl, ?_⟩; have n0_ := Aside0.mk (below_step (by repeat (first | (with_reducible first | exact HB.out | apply below_alloc | apply pw_below_drewN | apply below_drew1) | exact HB.out)) hb); clear HB; have HB := n0_; clear n0_; (try clear hb); (try clear hb2); (try clear hk); (try clear hi)))
                            go_ret
                            exact ⟨by first | rfl | (simp [errW_none, errW_some] <;> rfl) | (simp only [← hji16]; first | rfl | (simp [errW_none, errW_some] <;> rfl)) | (simp [*, errW_none, errW_some] <;> rfl), by repeat (first | (with_reducible first | exact HB.out | apply below_alloc | apply pw_below_drewN | apply below_drew1) | exact HB.out)⟩
                        · rw [if_neg c27] at H
                          have c27b0 : ((t151 ++ t157).toList == t155.toList) = false := beq_eq_false_iff_ne.mpr c27
                          have c27b1 : ((t151 ++ t157).toList != t155.toList) = true := bne_iff_ne.mpr c27
                          obtain rfl := Option.some.inj H
                          go_wp2_with (first | ((with_reducible refine gate_callee (f := 13) rfl ?_); refine goesL_ (some 64) rfl rfl Try.func13 (by kernel_rfl) rfl #[.string a0, .int .i64 (wrap64 (a1 + (ji16))), .int .i64 (wrap64 (-(wrap64 (a3 + 1))))] rfl (by (try simp only [List.map_toArray, List.map_cons, List.map_nil]); first | done | (simp only [hji16]; rfl) | rfl | (simp only [List.length_drop, List.length_take]; rfl)) ?_; (with_reducible refine (chunk_Cut.calls a0 (wrap64 (a1 + (ji16))) (wrap64 (-(wrap64 (a3 + 1)))) t153 t154 _ A17.out).mono ?_); rintro e w38 ⟨rfl, hb⟩; refine ⟨_, rfl, ?_⟩; have n0_ := Aside0.mk (below_step (by repeat (first | (with_reducible first | exact HB.out | apply below_alloc | apply pw_below_drewN | apply below_drew1) | exact HB.out)) hb); clear HB; have HB := n0_; clear n0_; (try clear hb); (try clear hb2); (try clear hk); (try clear hi)) | ((with_reducible refine gate_callee (f := 13) rfl ?_); refine goesL_ (some 74) rfl rfl Try.func13 (by kernel_rfl) rfl #[.string a0, .int .i64 a1, .int .i64 (wrap64 ((ji16) + (Int.tmod (wrap64 (-(wrap64 (a3 + 1)))) 1000000)))] rfl (by (try simp only [List.map_toArray, List.map_cons, List.map_nil]); first | done | (simp only [hji16]; rfl) | rfl | (simp only [List.length_drop, List.length_take]; rfl)) ?_; (with_reducible refine (chunk_Cut.calls a0 a1 (wrap64 ((ji16) + (Int.tmod (wrap64 (-(wrap64 (a3 + 1)))) 1000000))) t155 t156 _ A18.out).mono ?_); rintro e w39 ⟨rfl, hb⟩; refine ⟨_, rfl, ?_⟩; have n0_ := Aside0.mk (below_step (by repeat (first | (with_reducible first | exact HB.out | apply below_alloc | apply pw_below_drewN | apply below_drew1) | exact HB.out)) hb); clear HB; have HB := n0_; clear n0_; (try clear hb); (try clear hb2); (try clear hk); (try clear hi)) | ((with_reducible refine gate_callee (f := 13) rfl ?_); refine goesL_ (some 84) rfl rfl Try.func13 (by kernel_rfl) rfl #[.string a0, .int .i64 (wrap64 (a1 + (ji16))), .int .i64 (Int.tmod (wrap64 (-(wrap64 (a3 + 1)))) 1000000)] rfl (by (try simp only [List.map_toArray, List.map_cons, List.map_nil]); first | done | (simp only [hji16]; rfl) | rfl | (simp only [List.length_drop, List.length_take]; rfl)) ?_; (with_reducible refine (chunk_Cut.calls a0 (wrap64 (a1 + (ji16))) (Int.tmod (wrap64 (-(wrap64 (a3 + 1)))) 1000000) t157 t158 _ A19.out).mono ?_); rintro e w40 ⟨rfl, hb⟩; refine ⟨_, rfl, ?_⟩; have n0_ := Aside0.mk (below_step (by repeat (first | (with_reducible first | exact HB.out | apply below_alloc | apply pw_below_drewN | apply below_drew1) | exact HB.out)) hb); clear HB; have HB := n0_; clear n0_; (try clear hb); (try clear hb2); (try clear hk); (try clear hi)))
                          go_ret
                          exact ⟨by first | rfl | (simp [errW_none, errW_some] <;> rfl) | (simp only [← hji16]; first | rfl | (simp [errW_none, errW_some] <;> rfl)) | (simp [*, errW_none, errW_some] <;> rfl), by repeat (first | (with_reducible first | exact HB.out | apply below_alloc | apply pw_below_drewN | apply below_drew1) | exact HB.out)⟩
                      · rw [if_neg c26] at H
                        exact absurd H (by simp)
                    · rw [if_neg c25] at H
                      have c25b0 : ((t151.size : Int) == (ji16)) = false := beq_eq_false_iff_ne.mpr c25
                      have c25b1 : ((t151.size : Int) != (ji16)) = true := bne_iff_ne.mpr c25
                      obtain rfl := Option.some.inj H
                      go_wp2_with (first | ((with_reducible refine gate_callee (f := 13) rfl ?_); refine goesL_ (some 64) rfl rfl Try.func13 (by kernel_rfl) rfl #[.string a0, .int .i64 (wrap64 (a1 + (ji16))), .int .i64 (wrap64 (-(wrap64 (a3 + 1))))] rfl (by (try simp only [List.map_toArray, List.map_cons, List.map_nil]); first | done | (simp only [hji16]; rfl) | rfl | (simp only [List.length_drop, List.length_take]; rfl)) ?_; (with_reducible refine (chunk_Cut.calls a0 (wrap64 (a1 + (ji16))) (wrap64 (-(wrap64 (a3 + 1)))) t153 t154 _ A17.out).mono ?_); rintro e w41 ⟨rfl, hb⟩; refine ⟨_, rfl, ?_⟩; have n0_ := Aside0.mk (below_step (by repeat (first | (with_reducible first | exact HB.out | apply below_alloc | apply pw_below_drewN | apply below_drew1) | exact HB.out)) hb); clear HB; have HB := n0_; clear n0_; (try clear hb); (try clear hb2); (try clear hk); (try clear hi)) | ((with_reducible refine gate_callee (f := 13) rfl ?_); refine goesL_ (some 74) rfl rfl Try.func13 (by kernel_rfl) rfl #[.string a0, .int .i64 a1, .int .i64 (wrap64 ((ji16) + (Int.tmod (wrap64 (-(wrap64 (a3 + 1)))) 1000000)))] rfl (by (try simp only [List.map_toArray, List.map_cons, List.map_nil]); first | done | (simp only [hji16]; rfl) | rfl | (simp only [List.length_drop, List.length_take]; rfl)) ?_; (with_reducible refine (chunk_Cut.calls a0 a1 (wrap64 ((ji16) + (Int.tmod (wrap64 (-(wrap64 (a3 + 1)))) 1000000))) t155 t156 _ A18.out).mono ?_); rintro e w42 ⟨rfl, hb⟩; refine ⟨_, rfl, ?_⟩; have n0_ := Aside0.mk (below_step (by repeat (first | (with_reducible first | exact HB.out | apply below_alloc | apply pw_below_drewN | apply below_drew1) | exact HB.out)) hb); clear HB; have HB := n0_; clear n0_; (try clear hb); (try clear hb2); (try clear hk); (try clear hi)) | ((with_reducible refine gate_callee (f := 13) rfl ?_); refine goesL_ (some 84) rfl rfl Try.func13 (by kernel_rfl) rfl #[.string a0, .int .i64 (wrap64 (a1 + (ji16))), .int .i64 (Int.tmod (wrap64 (-(wrap64 (a3 + 1)))) 1000000)] rfl (by (try simp only [List.map_toArray, List.map_cons, List.map_nil]); first | done | (simp only [hji16]; rfl) | rfl | (simp only [List.length_drop, List.length_take]; rfl)) ?_; (with_reducible refine (chunk_Cut.calls a0 (wrap64 (a1 + (ji16))) (Int.tmod (wrap64 (-(wrap64 (a3 + 1)))) 1000000) t157 t158 _ A19.out).mono ?_); rintro e w43 ⟨rfl, hb⟩; refine ⟨_, rfl, ?_⟩; have n0_ := Aside0.mk (below_step (by repeat (first | (with_reducible first | exact HB.out | apply below_alloc | apply pw_below_drewN | apply below_drew1) | exact HB.out)) hb); clear HB; have HB := n0_; clear n0_; (try clear hb); (try clear hb2); (try clear hk); (try clear hi)))
                      go_ret
                      exact ⟨by first | rfl | (simp [errW_none, errW_some] <;> rfl) | (simp only [← hji16]; first | rfl | (simp [errW_none, errW_some] <;> rfl)) | (simp [*, errW_none, errW_some] <;> rfl), by repeat (first | (with_reducible first | exact HB.out | apply below_alloc | apply pw_below_drewN | apply below_drew1) | exact HB.out)⟩
                  · rw [if_neg c24] at H
                    have c24b0 : (t158 == 0) = false := beq_eq_false_iff_ne.mpr c24
                    have c24b1 : (t158 != 0) = true := bne_iff_ne.mpr c24
                    obtain rfl := Option.some.inj H
                    go_wp2_with (first | ((with_reducible refine gate_callee (f := 13) rfl ?_); refine goesL_ (some 64) rfl rfl Try.func13 (by kernel_rfl) rfl #[.string a0, .int .i64 (wrap64 (a1 + (ji16))), .int .i64 (wrap64 (-(wrap64 (a3 + 1))))] rfl (by (try simp only [List.map_toArray, List.map_cons, List.map_nil]); first | done | (simp only [hji16]; rfl) | rfl | (simp only [List.length_drop, List.length_take]; rfl)) ?_; (with_reducible refine (chunk_Cut.calls a0 (wrap64 (a1 + (ji16))) (wrap64 (-(wrap64 (a3 + 1)))) t153 t154 _ A17.out).mono ?_); rintro e w44 ⟨rfl, hb⟩; refine ⟨_, rfl, ?_⟩; have n0_ := Aside0.mk (below_step (by repeat (first | (with_reducible first | exact HB.out | apply below_alloc | apply pw_below_drewN | apply below_drew1) | exact HB.out)) hb); clear HB; have HB := n0_; clear n0_; (try clear hb); (try clear hb2); (try clear hk); (try clear hi)) | ((with_reducible refine gate_callee (f := 13) rfl ?_); refine goesL_ (some 74) rfl rfl Try.func13 (by kernel_rfl) rfl #[.string a0, .int .i64 a1, .int .i64 (wrap64 ((ji16) + (Int.tmod (wrap64 (-(wrap64 (a3 + 1)))) 1000000)))] rfl (by (try simp only [List.map_toArray, List.map_cons, List.map_nil]); first | done | (simp only [hji16]; rfl) | rfl | (simp only [List.length_drop, List.length_take]; rfl)) ?_; (with_reducible refine (chunk_Cut.calls a0 a1 (wrap64 ((ji16) + (Int.tmod (wrap64 (-(wrap64 (a3 + 1)))) 1000000))) t155 t156 _ A18.out).mono ?_); rintro e w45 ⟨rfl, hb⟩; refine ⟨_, rfl, ?_⟩; have n0_ := Aside0.mk (below_step (by repeat (first | (with_reducible first | exact HB.out | apply below_alloc | apply pw_below_drewN | apply below_drew1) | exact HB.out)) hb); clear HB; have HB := n0_; clear n0_; (try clear hb); (try clear hb2); (try clear hk); (try clear hi)) | ((with_reducible refine gate_callee (f := 13) rfl ?_); refine goesL_ (some 84) rfl rfl Try.func13 (by kernel_rfl) rfl #[.string a0, .int .i64 (wrap64 (a1 + (ji16))), .int .i64 (Int.tmod (wrap64 (-(wrap64 (a3 + 1)))) 1000000)] rfl (by (try simp only [List.map_toArray, List.map_cons, List.map_nil]); first | done | (simp only [hji16]; rfl) | rfl | (simp only [List.length_drop, List.length_take]; rfl)) ?_; (with_reducible refine (chunk_Cut.calls a0 (wrap64 (a1 + (ji16))) (Int.tmod (wrap64 (-(wrap64 (a3 + 1)))) 1000000) t157 t158 _ A19.out).mono ?_); rintro e w46 ⟨rfl, hb⟩; refine ⟨_, rfl, ?_⟩; have n0_ := Aside0.mk (below_step (by repeat (first | (with_reducible first | exact HB.out | apply below_alloc | apply pw_below_drewN | apply below_drew1) | exact HB.out)) hb); clear HB; have HB := n0_; clear n0_; (try clear hb); (try clear hb2); (try clear hk); (try clear hi)))
                    go_ret
                    exact ⟨by first | rfl | (simp [errW_none, errW_some] <;> rfl) | (simp only [← hji16]; first | rfl | (simp [errW_none, errW_some] <;> rfl)) | (simp [*, errW_none, errW_some] <;> rfl), by repeat (first | (with_reducible first | exact HB.out | apply below_alloc | apply pw_below_drewN | apply below_drew1) | exact HB.out)⟩
                · rw [if_neg c23] at H
                  have c23b0 : (t156 == 0) = false := beq_eq_false_iff_ne.mpr c23
                  have c23b1 : (t156 != 0) = true := bne_iff_ne.mpr c23
                  obtain rfl := Option.some.inj H
                  go_wp2_with (first | ((with_reducible refine gate_callee (f := 13) rfl ?_); refine goesL_ (some 64) rfl rfl Try.func13 (by kernel_rfl) rfl #[.string a0, .int .i64 (wrap64 (a1 + (ji16))), .int .i64 (wrap64 (-(wrap64 (a3 + 1))))] rfl (by (try simp only [List.map_toArray, List.map_cons, List.map_nil]); first | done | (simp only [hji16]; rfl) | rfl | (simp only [List.length_drop, List.length_take]; rfl)) ?_; (with_reducible refine (chunk_Cut.calls a0 (wrap64 (a1 + (ji16))) (wrap64 (-(wrap64 (a3 + 1)))) t153 t154 _ A17.out).mono ?_); rintro e w47 ⟨rfl, hb⟩; refine ⟨_, rfl, ?_⟩; have n0_ := Aside0.mk (below_step (by repeat (first | (with_reducible first | exact HB.out | apply below_alloc | apply pw_below_drewN | apply below_drew1) | exact HB.out)) hb); clear HB; have HB := n0_; clear n0_; (try clear hb); (try clear hb2); (try clear hk); (try clear hi)) | ((with_reducible refine gate_callee (f := 13) rfl ?_); refine goesL_ (some 74) rfl rfl Try.func13 (by kernel_rfl) rfl #[.string a0, .int .i64 a1, .int .i64 (wrap64 ((ji16) + (Int.tmod (wrap64 (-(wrap64 (a3 + 1)))) 1000000)))] rfl (by (try simp only [List.map_toArray, List.map_cons, List.map_nil]); first | done | (simp only [hji16]; rfl) | rfl | (simp only [List.length_drop, List.length_take]; rfl)) ?_; (with_reducible refine (chunk_Cut.calls a0 a1 (wrap64 ((ji16) + (Int.tmod (wrap64 (-(wrap64 (a3 + 1)))) 1000000))) t155 t156 _ A18.out).mono ?_); rintro e w48 ⟨rfl, hb⟩; refine ⟨_, rfl, ?_⟩; have n0_ := Aside0.mk (below_step (by repeat (first | (with_reducible first | exact HB.out | apply below_alloc | apply pw_below_drewN | apply below_drew1) | exact HB.out)) hb); clear HB; have HB := n0_; clear n0_; (try clear hb); (try clear hb2); (try clear hk); (try clear hi)) | ((with_reducible refine gate_callee (f := 13) rfl ?_); refine goesL_ (some 84) rfl rfl Try.func13 (by kernel_rfl) rfl #[.string a0, .int .i64 (wrap64 (a1 + (ji16))), .int .i64 (Int.tmod (wrap64 (-(wrap64 (a3 + 1)))) 1000000)] rfl (by (try simp only [List.map_toArray, List.map_cons, List.map_nil]); first | done | (simp only [hji16]; rfl) | rfl | (simp only [List.length_drop, List.length_take]; rfl)) ?_; (with_reducible refine (chunk_Cut.calls a0 (wrap64 (a1 + (ji16))) (Int.tmod (wrap64 (-(wrap64 (a3 + 1)))) 1000000) t157 t158 _ A19.out).mono ?_); rintro e w49 ⟨rfl, hb⟩; refine ⟨_, rfl, ?_⟩; have n0_ := Aside0.mk (below_step (by repeat (first | (with_reducible first | exact HB.out | apply below_alloc | apply pw_below_drewN | apply below_drew1) | exact HB.out)) hb); clear HB; have HB := n0_; clear n0_; (try clear hb); (try clear hb2); (try clear hk); (try clear hi)))
                  go_ret
                  exact ⟨by first | rfl | (simp [errW_none, errW_some] <;> rfl) | (simp only [← hji16]; first | rfl | (simp [errW_none, errW_some] <;> rfl)) | (simp [*, errW_none, errW_some] <;> rfl), by repeat (first | (with_reducible first | exact HB.out | apply below_alloc | apply pw_below_drewN | apply below_drew1) | exact HB.out)⟩
              · rw [if_neg c22] at H
                have c22b0 : (t154 == 0) = false := beq_eq_false_iff_ne.mpr c22
                have c22b1 : (t154 != 0) = true := bne_iff_ne.mpr c22
                obtain rfl := Option.some.inj H
                go_wp2_with (first | ((with_reducible refine gate_callee (f := 13) rfl ?_); refine goesL_ (some 64) rfl rfl Try.func13 (by kernel_rfl) rfl #[.string a0, .int .i64 (wrap64 (a1 + (ji16))), .int .i64 (wrap64 (-(wrap64 (a3 + 1))))] rfl (by (try simp only [List.map_toArray, List.map_cons, List.map_nil]); first | done | (simp only [hji16]; rfl) | rfl | (simp only [List.length_drop, List.length_take]; rfl)) ?_; (with_reducible refine (chunk_Cut.calls a0 (wrap64 (a1 + (ji16))) (wrap64 (-(wrap64 (a3 + 1)))) t153 t154 _ A17.out).mono ?_); rintro e w50 ⟨rfl, hb⟩; refine ⟨_, rfl, ?_⟩; have n0_ := Aside0.mk (below_step (by repeat (first | (with_reducible first | exact HB.out | apply below_alloc | apply pw_below_drewN | apply below_drew1) | exact HB.out)) hb); clear HB; have HB := n0_; clear n0_; (try clear hb); (try clear hb2); (try clear hk); (try clear hi)) | ((with_reducible refine gate_callee (f := 13) rfl ?_); refine goesL_ (some 74) rfl rfl Try.func13 (by kernel_rfl) rfl #[.string a0, .int .i64 a1, .int .i64 (wrap64 ((ji16) + (Int.tmod (wrap64 (-(wrap64 (a3 + 1)))) 1000000)))] rfl (by (try simp only [List.map_toArray, List.map_cons, List.map_nil]); first | done | (simp only [hji16]; rfl) | rfl | (simp only [List.length_drop, List.length_take]; rfl)) ?_; (with_reducible refine (chunk_Cut.calls a0 a1 (wrap64 ((ji16) + (Int.tmod (wrap64 (-(wrap64 (a3 + 1)))) 1000000))) t155 t156 _ A18.out).mono ?_); rintro e w51 ⟨rfl, hb⟩; refine ⟨_, rfl, ?_⟩; have n0_ := Aside0.mk (below_step (by repeat (first | (with_reducible first | exact HB.out | apply below_alloc | apply pw_below_drewN | apply below_drew1) | exact HB.out)) hb); clear HB; have HB := n0_; clear n0_; (try clear hb); (try clear hb2); (try clear hk); (try clear hi)) | ((with_reducible refine gate_callee (f := 13) rfl ?_); refine goesL_ (some 84) rfl rfl Try.func13 (by kernel_rfl) rfl #[.string a0, .int .i64 (wrap64 (a1 + (ji16))), .int .i64 (Int.tmod (wrap64 (-(wrap64 (a3 + 1)))) 1000000)] rfl (by (try simp only [List.map_toArray, List.map_cons, List.map_nil]); first | done | (simp only [hji16]; rfl) | rfl | (simp only [List.length_drop, List.length_take]; rfl)) ?_; (with_reducible refine (chunk_Cut.calls a0 (wrap64 (a1 + (ji16))) (Int.tmod (wrap64 (-(wrap64 (a3 + 1)))) 1000000) t157 t158 _ A19.out).mono ?_); rintro e w52 ⟨rfl, hb⟩; refine ⟨_, rfl, ?_⟩; have n0_ := Aside0.mk (below_step (by repeat (first | (with_reducible first | exact HB.out | apply below_alloc | apply pw_below_drewN | apply below_drew1) | exact HB.out)) hb); clear HB; have HB := n0_; clear n0_; (try clear hb); (try clear hb2); (try clear hk); (try clear hi)))
                go_ret
                exact ⟨by first | rfl | (simp [errW_none, errW_some] <;> rfl) | (simp only [← hji16]; first | rfl | (simp [errW_none, errW_some] <;> rfl)) | (simp [*, errW_none, errW_some] <;> rfl), by repeat (first | (with_reducible first | exact HB.out | apply below_alloc | apply pw_below_drewN | apply below_drew1) | exact HB.out)⟩
            · rw [if_neg c21] at H
              have c21b0 : (t152 == 0) = false := beq_eq_false_iff_ne.mpr c21
              have c21b1 : (t152 != 0) = true := bne_iff_ne.mpr c21
              obtain rfl := Option.some.inj H
              go_wp2_with (first | ((with_reducible refine gate_callee (f := 13) rfl ?_); refine goesL_ (some 64) rfl rfl Try.func13 (by kernel_rfl) rfl #[.string a0, .int .i64 (wrap64 (a1 + (ji16))), .int .i64 (wrap64 (-(wrap64 (a3 + 1))))] rfl (by (try simp only [List.map_toArray, List.map_cons, List.map_nil]); first | done | (simp only [hji16]; rfl) | rfl | (simp only [List.length_drop, List.length_take]; rfl)) ?_; (with_reducible refine (chunk_Cut.calls a0 (wrap64 (a1 + (ji16))) (wrap64 (-(wrap64 (a3 + 1)))) t153 t154 _ A17.out).mono ?_); rintro e w53 ⟨rfl, hb⟩; refine ⟨_, rfl, ?_⟩; have n0_ := Aside0.mk (below_step (by repeat (first | (with_reducible first | exact HB.out | apply below_alloc | apply pw_below_drewN | apply below_drew1) | exact HB.out)) hb); clear HB; have HB := n0_; clear n0_; (try clear hb); (try clear hb2); (try clear hk); (try clear hi)) | ((with_reducible refine gate_callee (f := 13) rfl ?_); refine goesL_ (some 74) rfl rfl Try.func13 (by kernel_rfl) rfl #[.string a0, .int .i64 a1, .int .i64 (wrap64 ((ji16) + (Int.tmod (wrap64 (-(wrap64 (a3 + 1)))) 1000000)))] rfl (by (try simp only [List.map_toArray, List.map_cons, List.map_nil]); first | done | (simp only [hji16]; rfl) | rfl | (simp only [List.length_drop, List.length_take]; rfl)) ?_; (with_reducible refine (chunk_Cut.calls a0 a1 (wrap64 ((ji16) + (Int.tmod (wrap64 (-(wrap64 (a3 + 1)))) 1000000))) t155 t156 _ A18.out).mono ?_); rintro e w54 ⟨rfl, hb⟩; refine ⟨_, rfl, ?_⟩; have n0_ := Aside0.mk (below_step (by repeat (first | (with_reducible first | exact HB.out | apply below_alloc | apply pw_below_drewN | apply below_drew1) | exact HB.out)) hb); clear HB; have HB := n0_; clear n0_; (try clear hb); (try clear hb2); (try clear hk); (try clear hi)) | ((with_reducible refine gate_callee (f := 13) rfl ?_); refine goesL_ (some 84) rfl rfl Try.func13 (by kernel_rfl) rfl #[.string a0, .int .i64 (wrap64 (a1 + (ji16))), .int .i64 (Int.tmod (wrap64 (-(wrap64 (a3 + 1)))) 1000000)] rfl (by (try simp only [List.map_toArray, List.map_cons, List.map_nil]); first | done | (simp only [hji16]; rfl) | rfl | (simp only [List.length_drop, List.length_take]; rfl)) ?_; (with_reducible refine (chunk_Cut.calls a0 (wrap64 (a1 + (ji16))) (Int.tmod (wrap64 (-(wrap64 (a3 + 1)))) 1000000) t157 t158 _ A19.out).mono ?_); rintro e w55 ⟨rfl, hb⟩; refine ⟨_, rfl, ?_⟩; have n0_ := Aside0.mk (below_step (by repeat (first | (with_reducible first | exact HB.out | apply below_alloc | apply pw_below_drewN | apply below_drew1) | exact HB.out)) hb); clear HB; have HB := n0_; clear n0_; (try clear hb); (try clear hb2); (try clear hk); (try clear hi)))
              go_ret
              exact ⟨by first | rfl | (simp [errW_none, errW_some] <;> rfl) | (simp only [← hji16]; first | rfl | (simp [errW_none, errW_some] <;> rfl)) | (simp [*, errW_none, errW_some] <;> rfl), by repeat (first | (with_reducible first | exact HB.out | apply below_alloc | apply pw_below_drewN | apply below_drew1) | exact HB.out)⟩
          · replace c20 := Bool.eq_false_iff.mpr c20
            subst c20
            have H1 : (some false) = some r := by rw [if_neg (show ¬ (false = true) by decide)] at H; exact H
            clear H
            have H := H1
            clear H1
            obtain rfl := Option.some.inj H
            go_wp2_with (first | ((with_reducible refine gate_callee (f := 13) rfl ?_); refine goesL_ (some 64) rfl rfl Try.func13 (by kernel_rfl) rfl #[.string a0, .int .i64 (wrap64 (a1 + (ji16))), .int .i64 (wrap64 (-(wrap64 (a3 + 1))))] rfl (by (try simp only [List.map_toArray, List.map_cons, List.map_nil]); first | done | (simp only [hji16]; rfl) | rfl | (simp only [List.length_drop, List.length_take]; rfl)) ?_; (with_reducible refine (chunk_Cut.calls a0 (wrap64 (a1 + (ji16))) (wrap64 (-(wrap64 (a3 + 1)))) t153 t154 _ A17.out).mono ?_); rintro e w56 ⟨rfl, hb⟩; refine ⟨_, rfl, ?_⟩; have n0_ := Aside0.mk (below_step (by repeat (first | (with_reducible first | exact HB.out | apply below_alloc | apply pw_below_drewN | apply below_drew1) | exact HB.out)) hb); clear HB; have HB := n0_; clear n0_; (try clear hb); (try clear hb2); (try clear hk); (try clear hi)) | ((with_reducible refine gate_callee (f := 13) rfl ?_); refine goesL_ (some 74) rfl rfl Try.func13 (by kernel_rfl) rfl #[.string a0, .int .i64 a1, .int .i64 (wrap64 ((ji16) + (Int.tmod (wrap64 (-(wrap64 (a3 + 1)))) 1000000)))] rfl (by (try simp only [List.map_toArray, List.map_cons, List.map_nil]); first | done | (simp only [hji16]; rfl) | rfl | (simp only [List.length_drop, List.length_take]; rfl)) ?_; (with_reducible refine (chunk_Cut.calls a0 a1 (wrap64 ((ji16) + (Int.tmod (wrap64 (-(wrap64 (a3 + 1)))) 1000000))) t155 t156 _ A18.out).mono ?_); rintro e w57 ⟨rfl, hb⟩; refine ⟨_, rfl, ?_⟩; have n0_ := Aside0.mk (below_step (by repeat (first | (with_reducible first | exact HB.out | apply below_alloc | apply pw_below_drewN | apply below_drew1) | exact HB.out)) hb); clear HB; have HB := n0_; clear n0_; (try clear hb); (try clear hb2); (try clear hk); (try clear hi)) | ((with_reducible refine gate_callee (f := 13) rfl ?_); refine goesL_ (some 84) rfl rfl Try.func13 (by kernel_rfl) rfl #[.string a0, .int .i64 (wrap64 (a1 + (ji16))), .int .i64 (Int.tmod (wrap64 (-(wrap64 (a3 + 1)))) 1000000)] rfl (by (try simp only [List.map_toArray, List.map_cons, List.map_nil]); first | done | (simp only [hji16]; rfl) | rfl | (simp only [List.length_drop, List.length_take]; rfl)) ?_; (with_reducible refine (chunk_Cut.calls a0 (wrap64 (a1 + (ji16))) (Int.tmod (wrap64 (-(wrap64 (a3 + 1)))) 1000000) t157 t158 _ A19.out).mono ?_); rintro e w58 ⟨rfl, hb⟩; refine ⟨_, rfl, ?_⟩; have n0_ := Aside0.mk (below_step (by repeat (first | (with_reducible first | exact HB.out | apply below_alloc | apply pw_below_drewN | apply below_drew1) | exact HB.out)) hb); clear HB; have HB := n0_; clear n0_; (try clear hb); (try clear hb2); (try clear hk); (try clear hi)))
            go_ret
            exact ⟨by first | rfl | (simp [errW_none, errW_some] <;> rfl) | (simp only [← hji16]; first | rfl | (simp [errW_none, errW_some] <;> rfl)) | (simp [*, errW_none, errW_some] <;> rfl), by repeat (first | (with_reducible first | exact HB.out | apply below_alloc | apply pw_below_drewN | apply below_drew1) | exact HB.out)⟩
        · rw [if_neg c15] at H
          have c15b0 : decide (a3 < 0) = false := decide_eq_false c15
          clear c15
          obtain ⟨ji59, hji59⟩ : ∃ j_ : Int, (mn a2 (wrap64 ((a0.size : Int) - a1))) = j_ := ⟨_, rfl⟩
          replace H : ((chunk_Cut.f a0 (wrap64 (a1 + (ji59))) a3).bind fun bt159 => ((chunk_Cut.f a0 a1 (wrap64 ((ji59) + (Int.tmod a3 1000000)))).bind fun bt161 => ((chunk_Cut.f a0 (wrap64 (a1 + (ji59))) (Int.tmod a3 1000000)).bind fun bt163 => (if t150 = true then (if t152 = 0 then (if bt159.2 = 0 then (if bt161.2 = 0 then (if bt163.2 = 0 then (if (t151.size : Int) = (ji59) then (if t151.size + bt163.1.size ≤ 9223372036854775807 then (if (t151 ++ bt163.1).toList = bt161.1.toList then (if (bt159.1.size : Int) ≤ (wrap64 ((wrap64 ((a0.size : Int) - a1)) - (ji59))) then (if 0 ≤ a1 then (if a1 ≤ (wrap64 (a1 + (ji59))) then (if (wrap64 (a1 + (ji59))) ≤ (a0.size : Int) then (some ((a0.extract (a1 : Int).toNat ((wrap64 (a1 + (ji59))) : Int).toNat).toList == t151.toList)) else (none)) else (none)) else (none)) else (some false)) else (some false)) else (none)) else (some false)) else (some false)) else (some false)) else (some false)) else (some false)) else (some false))))) = some r := by first | (rw [hji59] at H; exact H) | (simp only [hji59] at H ⊢; exact H)
          have hji59_ : (if (wrap64 ((a0.size : Int) - a1)) < a2 then (wrap64 ((a0.size : Int) - a1)) else a2) = ji59 := hji59
          replace H := Option.bind_eq_some_iff.mp H
          obtain ⟨⟨t159, t160⟩, A600, H⟩ := H
          replace H : ((chunk_Cut.f a0 a1 (wrap64 ((ji59) + (Int.tmod a3 1000000)))).bind fun bt161 => ((chunk_Cut.f a0 (wrap64 (a1 + (ji59))) (Int.tmod a3 1000000)).bind fun bt163 => (if t150 = true then (if t152 = 0 then (if t160 = 0 then (if bt161.2 = 0 then (if bt163.2 = 0 then (if (t151.size : Int) = (ji59) then (if t151.size + bt163.1.size ≤ 9223372036854775807 then (if (t151 ++ bt163.1).toList = bt161.1.toList then (if (t159.size : Int) ≤ (wrap64 ((wrap64 ((a0.size : Int) - a1)) - (ji59))) then (if 0 ≤ a1 then (if a1 ≤ (wrap64 (a1 + (ji59))) then (if (wrap64 (a1 + (ji59))) ≤ (a0.size : Int) then (some ((a0.extract (a1 : Int).toNat ((wrap64 (a1 + (ji59))) : Int).toNat).toList == t151.toList)) else (none)) else (none)) else (none)) else (some false)) else (some false)) else (none)) else (some false)) else (some false)) else (some false)) else (some false)) else (some false)) else (some false)))) = some r := H
          have A60 := Aside0.mk A600
          clear A600
          replace H := Option.bind_eq_some_iff.mp H
          obtain ⟨⟨t161, t162⟩, A610, H⟩ := H
          replace H : ((chunk_Cut.f a0 (wrap64 (a1 + (ji59))) (Int.tmod a3 1000000)).bind fun bt163 => (if t150 = true then (if t152 = 0 then (if t160 = 0 then (if t162 = 0 then (if bt163.2 = 0 then (if (t151.size : Int) = (ji59) then (if t151.size + bt163.1.size ≤ 9223372036854775807 then (if (t151 ++ bt163.1).toList = t161.toList then (if (t159.size : Int) ≤ (wrap64 ((wrap64 ((a0.size : Int) - a1)) - (ji59))) then (if 0 ≤ a1 then (if a1 ≤ (wrap64 (a1 + (ji59))) then (if (wrap64 (a1 + (ji59))) ≤ (a0.size : Int) then (some ((a0.extract (a1 : Int).toNat ((wrap64 (a1 + (ji59))) : Int).toNat).toList == t151.toList)) else (none)) else (none)) else (none)) else (some false)) else (some false)) else (none)) else (some false)) else (some false)) else (some false)) else (some false)) else (some false)) else (some false))) = some r := H
          have A61 := Aside0.mk A610
          clear A610
          replace H := Option.bind_eq_some_iff.mp H
          obtain ⟨⟨t163, t164⟩, A620, H⟩ := H
          replace H : (if t150 = true then (if t152 = 0 then (if t160 = 0 then (if t162 = 0 then (if t164 = 0 then (if (t151.size : Int) = (ji59) then (if t151.size + t163.size ≤ 9223372036854775807 then (if (t151 ++ t163).toList = t161.toList then (if (t159.size : Int) ≤ (wrap64 ((wrap64 ((a0.size : Int) - a1)) - (ji59))) then (if 0 ≤ a1 then (if a1 ≤ (wrap64 (a1 + (ji59))) then (if (wrap64 (a1 + (ji59))) ≤ (a0.size : Int) then (some ((a0.extract (a1 : Int).toNat ((wrap64 (a1 + (ji59))) : Int).toNat).toList == t151.toList)) else (none)) else (none)) else (none)) else (some false)) else (some false)) else (none)) else (some false)) else (some false)) else (some false)) else (some false)) else (some false)) else (some false)) = some r := H
          have A62 := Aside0.mk A620
          clear A620
          by_cases c63 : t150 = true
          · subst c63
            have H1 : (if t152 = 0 then (if t160 = 0 then (if t162 = 0 then (if t164 = 0 then (if (t151.size : Int) = (ji59) then (if t151.size + t163.size ≤ 9223372036854775807 then (if (t151 ++ t163).toList = t161.toList then (if (t159.size : Int) ≤ (wrap64 ((wrap64 ((a0.size : Int) - a1)) - (ji59))) then (if 0 ≤ a1 then (if a1 ≤ (wrap64 (a1 + (ji59))) then (if (wrap64 (a1 + (ji59))) ≤ (a0.size : Int) then (some ((a0.extract (a1 : Int).toNat ((wrap64 (a1 + (ji59))) : Int).toNat).toList == t151.toList)) else (none)) else (none)) else (none)) else (some false)) else (some false)) else (none)) else (some false)) else (some false)) else (some false)) else (some false)) else (some false)) = some r := by rw [if_pos rfl] at H; exact H
            clear H
            have H := H1
            clear H1
            by_cases c64 : t152 = 0
            · rw [if_pos c64] at H
              have c64b0 : (t152 == 0) = true := beq_iff_eq.mpr c64
              have c64b1 : (t152 != 0) = false := bne_eq_false_iff_eq.mpr c64
              clear c64
              by_cases c65 : t160 = 0
              · rw [if_pos c65] at H
                have c65b0 : (t160 == 0) = true := beq_iff_eq.mpr c65
                have c65b1 : (t160 != 0) = false := bne_eq_false_iff_eq.mpr c65
                clear c65
                by_cases c66 : t162 = 0
                · rw [if_pos c66] at H
                  have c66b0 : (t162 == 0) = true := beq_iff_eq.mpr c66
                  have c66b1 : (t162 != 0) = false := bne_eq_false_iff_eq.mpr c66
                  clear c66
                  by_cases c67 : t164 = 0
                  · rw [if_pos c67] at H
                    have c67b0 : (t164 == 0) = true := beq_iff_eq.mpr c67
                    have c67b1 : (t164 != 0) = false := bne_eq_false_iff_eq.mpr c67
                    clear c67
                    by_cases c68 : (t151.size : Int) = (ji59)
                    · rw [if_pos c68] at H
                      have c68b0 : ((t151.size : Int) == (ji59)) = true := beq_iff_eq.mpr c68
                      have c68b1 : ((t151.size : Int) != (ji59)) = false := bne_eq_false_iff_eq.mpr c68
                      clear c68
                      by_cases c69 : t151.size + t163.size ≤ 9223372036854775807
                      · rw [if_pos c69] at H
                        have c69b0 := eq_true c69
                        have c69b1 : decide (t151.size + t163.size ≤ 9223372036854775807) = true := decide_eq_true c69
                        try have c69b2 : (9223372036854775807 < t151.size + t163.size) = False := eq_false (Nat.not_lt.2 c69)
                        by_cases c70 : (t151 ++ t163).toList = t161.toList
                        · rw [if_pos c70] at H
                          have c70b0 : ((t151 ++ t163).toList == t161.toList) = true := beq_iff_eq.mpr c70
                          have c70b1 : ((t151 ++ t163).toList != t161.toList) = false := bne_eq_false_iff_eq.mpr c70
                          clear c70
                          by_cases c71 : (t159.size : Int) ≤ (wrap64 ((wrap64 ((a0.size : Int) - a1)) - (ji59)))
                          · rw [if_pos c71] at H
                            have c71b0 : decide ((t159.size : Int) ≤ (wrap64 ((wrap64 ((a0.size : Int) - a1)) - (ji59)))) = true := decide_eq_true c71
                            clear c71
                            by_cases c72 : 0 ≤ a1
                            · rw [if_pos c72] at H
                              have c72b0 := eq_true c72
                              have c72b1 : decide (0 ≤ a1) = true := decide_eq_true c72
                              clear c72
                              by_cases c73 : a1 ≤ (wrap64 (a1 + (ji59)))
                              · rw [if_pos c73] at H
                                have c73b0 := eq_true c73
                                have c73b1 : decide (a1 ≤ (wrap64 (a1 + (ji59)))) = true := decide_eq_true c73
                                by_cases c74 : (wrap64 (a1 + (ji59))) ≤ (a0.size : Int)
                                · rw [if_pos c74] at H
                                  have c74b0 := eq_true c74
                                  have c74b1 : decide ((wrap64 (a1 + (ji59))) ≤ (a0.size : Int)) = true := decide_eq_true c74
                                  obtain rfl := Option.some.inj H
                                  go_wp2_with (first | ((with_reducible refine gate_callee (f := 13) rfl ?_); refine goesL_ (some 64) rfl rfl Try.func13 (by kernel_rfl) rfl #[.string a0, .int .i64 (wrap64 (a1 + (ji59))), .int .i64 a3] rfl (by (try simp only [List.map_toArray, List.map_cons, List.map_nil]); first | done | (simp only [hji59]; rfl) | rfl | (simp only [List.length_drop, List.length_take]; rfl)) ?_; (with_reducible refine (chunk_Cut.calls a0 (wrap64 (a1 + (ji59))) a3 t159 t160 _ A60.out).mono ?_); rintro e w75 ⟨rfl, hb⟩; refine ⟨_, rfl, ?_⟩; have n0_ := Aside0.mk (below_step (by repeat (first | (with_reducible first | exact HB.out | apply below_alloc | apply pw_below_drewN | apply below_drew1) | exact HB.out)) hb); clear HB; have HB := n0_; clear n0_; (try clear hb); (try clear hb2); (try clear hk); (try clear hi)) | ((with_reducible refine gate_callee (f := 13) rfl ?_); refine goesL_ (some 74) rfl rfl Try.func13 (by kernel_rfl) rfl #[.string a0, .int .i64 a1, .int .i64 (wrap64 ((ji59) + (Int.tmod a3 1000000)))] rfl (by (try simp only [List.map_toArray, List.map_cons, List.map_nil]); first | done | (simp only [hji59]; rfl) | rfl | (simp only [List.length_drop, List.length_take]; rfl)) ?_; (with_reducible refine (chunk_Cut.calls a0 a1 (wrap64 ((ji59) + (Int.tmod a3 1000000))) t161 t162 _ A61.out).mono ?_); rintro e w76 ⟨rfl, hb⟩; refine ⟨_, rfl, ?_⟩; have n0_ := Aside0.mk (below_step (by repeat (first | (with_reducible first | exact HB.out | apply below_alloc | apply pw_below_drewN | apply below_drew1) | exact HB.out)) hb); clear HB; have HB := n0_; clear n0_; (try clear hb); (try clear hb2); (try clear hk); (try clear hi)) | ((with_reducible refine gate_callee (f := 13) rfl ?_); refine goesL_ (some 84) rfl rfl Try.func13 (by kernel_rfl) rfl #[.string a0, .int .i64 (wrap64 (a1 + (ji59))), .int .i64 (Int.tmod a3 1000000)] rfl (by (try simp only [List.map_toArray, List.map_cons, List.map_nil]); first | done | (simp only [hji59]; rfl) | rfl | (simp only [List.length_drop, List.length_take]; rfl)) ?_; (with_reducible refine (chunk_Cut.calls a0 (wrap64 (a1 + (ji59))) (Int.tmod a3 1000000) t163 t164 _ A62.out).mono ?_); rintro e w77 ⟨rfl, hb⟩; refine ⟨_, rfl, ?_⟩; have n0_ := Aside0.mk (below_step (by repeat (first | (with_reducible first | exact HB.out | apply below_alloc | apply pw_below_drewN | apply below_drew1) | exact HB.out)) hb); clear HB; have HB := n0_; clear n0_; (try clear hb); (try clear hb2); (try clear hk); (try clear hi)))
                                  go_ret
                                  exact ⟨by first | rfl | (simp [errW_none, errW_some] <;> rfl) | (simp only [← hji59]; first | rfl | (simp [errW_none, errW_some] <;> rfl)) | (simp [*, errW_none, errW_some] <;> rfl), by repeat (first | (with_reducible first | exact HB.out | apply below_alloc | apply pw_below_drewN | apply below_drew1) | exact HB.out)⟩
                                · rw [if_neg c74] at H
                                  exact absurd H (by simp)
                              · rw [if_neg c73] at H
                                exact absurd H (by simp)
                            · rw [if_neg c72] at H
                              exact absurd H (by simp)
                          · rw [if_neg c71] at H
                            have c71b0 : decide ((t159.size : Int) ≤ (wrap64 ((wrap64 ((a0.size : Int) - a1)) - (ji59)))) = false := decide_eq_false c71
                            clear c71
                            obtain rfl := Option.some.inj H
                            go_wp2_with (first | ((with_reducible refine gate_callee (f := 13) rfl ?_); refine goesL_ (some 64) rfl rfl Try.func13 (by kernel_rfl) rfl #[.string a0, .int .i64 (wrap64 (a1 + (ji59))), .int .i64 a3] rfl (by (try simp only [List.map_toArray, List.map_cons, List.map_nil]); first | done | (simp only [hji59]; rfl) | rfl | (simp only [List.length_drop, List.length_take]; rfl)) ?_; (with_reducible refine (chunk_Cut.calls a0 (wrap64 (a1 + (ji59))) a3 t159 t160 _ A60.out).mono ?_); rintro e w78 ⟨rfl, hb⟩; refine ⟨_, rfl, ?_⟩; have n0_ := Aside0.mk (below_step (by repeat (first | (with_reducible first | exact HB.out | apply below_alloc | apply pw_below_drewN | apply below_drew1) | exact HB.out)) hb); clear HB; have HB := n0_; clear n0_; (try clear hb); (try clear hb2); (try clear hk); (try clear hi)) | ((with_reducible refine gate_callee (f := 13) rfl ?_); refine goesL_ (some 74) rfl rfl Try.func13 (by kernel_rfl) rfl #[.string a0, .int .i64 a1, .int .i64 (wrap64 ((ji59) + (Int.tmod a3 1000000)))] rfl (by (try simp only [List.map_toArray, List.map_cons, List.map_nil]); first | done | (simp only [hji59]; rfl) | rfl | (simp only [List.length_drop, List.length_take]; rfl)) ?_; (with_reducible refine (chunk_Cut.calls a0 a1 (wrap64 ((ji59) + (Int.tmod a3 1000000))) t161 t162 _ A61.out).mono ?_); rintro e w79 ⟨rfl, hb⟩; refine ⟨_, rfl, ?_⟩; have n0_ := Aside0.mk (below_step (by repeat (first | (with_reducible first | exact HB.out | apply below_alloc | apply pw_below_drewN | apply below_drew1) | exact HB.out)) hb); clear HB; have HB := n0_; clear n0_; (try clear hb); (try clear hb2); (try clear hk); (try clear hi)) | ((with_reducible refine gate_callee (f := 13) rfl ?_); refine goesL_ (some 84) rfl rfl Try.func13 (by kernel_rfl) rfl #[.string a0, .int .i64 (wrap64 (a1 + (ji59))), .int .i64 (Int.tmod a3 1000000)] rfl (by (try simp only [List.map_toArray, List.map_cons, List.map_nil]); first | done | (simp only [hji59]; rfl) | rfl | (simp only [List.length_drop, List.length_take]; rfl)) ?_; (with_reducible refine (chunk_Cut.calls a0 (wrap64 (a1 + (ji59))) (Int.tmod a3 1000000) t163 t164 _ A62.out).mono ?_); rintro e w80 ⟨rfl, hb⟩; refine ⟨_, rfl, ?_⟩; have n0_ := Aside0.mk (below_step (by repeat (first | (with_reducible first | exact HB.out | apply below_alloc | apply pw_below_drewN | apply below_drew1) | exact HB.out)) hb); clear HB; have HB := n0_; clear n0_; (try clear hb); (try clear hb2); (try clear hk); (try clear hi)))
                            go_ret
                            exact ⟨by first | rfl | (simp [errW_none, errW_some] <;> rfl) | (simp only [← hji59]; first | rfl | (simp [errW_none, errW_some] <;> rfl)) | (simp [*, errW_none, errW_some] <;> rfl), by repeat (first | (with_reducible first | exact HB.out | apply below_alloc | apply pw_below_drewN | apply below_drew1) | exact HB.out)⟩
                        · rw [if_neg c70] at H
                          have c70b0 : ((t151 ++ t163).toList == t161.toList) = false := beq_eq_false_iff_ne.mpr c70
                          have c70b1 : ((t151 ++ t163).toList != t161.toList) = true := bne_iff_ne.mpr c70
                          obtain rfl := Option.some.inj H
                          go_wp2_with (first | ((with_reducible refine gate_callee (f := 13) rfl ?_); refine goesL_ (some 64) rfl rfl Try.func13 (by kernel_rfl) rfl #[.string a0, .int .i64 (wrap64 (a1 + (ji59))), .int .i64 a3] rfl (by (try simp only [List.map_toArray, List.map_cons, List.map_nil]); first | done | (simp only [hji59]; rfl) | rfl | (simp only [List.length_drop, List.length_take]; rfl)) ?_; (with_reducible refine (chunk_Cut.calls a0 (wrap64 (a1 + (ji59))) a3 t159 t160 _ A60.out).mono ?_); rintro e w81 ⟨rfl, hb⟩; refine ⟨_, rfl, ?_⟩; have n0_ := Aside0.mk (below_step (by repeat (first | (with_reducible first | exact HB.out | apply below_alloc | apply pw_below_drewN | apply below_drew1) | exact HB.out)) hb); clear HB; have HB := n0_; clear n0_; (try clear hb); (try clear hb2); (try clear hk); (try clear hi)) | ((with_reducible refine gate_callee (f := 13) rfl ?_); refine goesL_ (some 74) rfl rfl Try.func13 (by kernel_rfl) rfl #[.string a0, .int .i64 a1, .int .i64 (wrap64 ((ji59) + (Int.tmod a3 1000000)))] rfl (by (try simp only [List.map_toArray, List.map_cons, List.map_nil]); first | done | (simp only [hji59]; rfl) | rfl | (simp only [List.length_drop, List.length_take]; rfl)) ?_; (with_reducible refine (chunk_Cut.calls a0 a1 (wrap64 ((ji59) + (Int.tmod a3 1000000))) t161 t162 _ A61.out).mono ?_); rintro e w82 ⟨rfl, hb⟩; refine ⟨_, rfl, ?_⟩; have n0_ := Aside0.mk (below_step (by repeat (first | (with_reducible first | exact HB.out | apply below_alloc | apply pw_below_drewN | apply below_drew1) | exact HB.out)) hb); clear HB; have HB := n0_; clear n0_; (try clear hb); (try clear hb2); (try clear hk); (try clear hi)) | ((with_reducible refine gate_callee (f := 13) rfl ?_); refine goesL_ (some 84) rfl rfl Try.func13 (by kernel_rfl) rfl #[.string a0, .int .i64 (wrap64 (a1 + (ji59))), .int .i64 (Int.tmod a3 1000000)] rfl (by (try simp only [List.map_toArray, List.map_cons, List.map_nil]); first | done | (simp only [hji59]; rfl) | rfl | (simp only [List.length_drop, List.length_take]; rfl)) ?_; (with_reducible refine (chunk_Cut.calls a0 (wrap64 (a1 + (ji59))) (Int.tmod a3 1000000) t163 t164 _ A62.out).mono ?_); rintro e w83 ⟨rfl, hb⟩; refine ⟨_, rfl, ?_⟩; have n0_ := Aside0.mk (below_step (by repeat (first | (with_reducible first | exact HB.out | apply below_alloc | apply pw_below_drewN | apply below_drew1) | exact HB.out)) hb); clear HB; have HB := n0_; clear n0_; (try clear hb); (try clear hb2); (try clear hk); (try clear hi)))
                          go_ret
                          exact ⟨by first | rfl | (simp [errW_none, errW_some] <;> rfl) | (simp only [← hji59]; first | rfl | (simp [errW_none, errW_some] <;> rfl)) | (simp [*, errW_none, errW_some] <;> rfl), by repeat (first | (with_reducible first | exact HB.out | apply below_alloc | apply pw_below_drewN | apply below_drew1) | exact HB.out)⟩
                      · rw [if_neg c69] at H
                        exact absurd H (by simp)
                    · rw [if_neg c68] at H
                      have c68b0 : ((t151.size : Int) == (ji59)) = false := beq_eq_false_iff_ne.mpr c68
                      have c68b1 : ((t151.size : Int) != (ji59)) = true := bne_iff_ne.mpr c68
                      obtain rfl := Option.some.inj H
                      go_wp2_with (first | ((with_reducible refine gate_callee (f := 13) rfl ?_); refine goesL_ (some 64) rfl rfl Try.func13 (by kernel_rfl) rfl #[.string a0, .int .i64 (wrap64 (a1 + (ji59))), .int .i64 a3] rfl (by (try simp only [List.map_toArray, List.map_cons, List.map_nil]); first | done | (simp only [hji59]; rfl) | rfl | (simp only [List.length_drop, List.length_take]; rfl)) ?_; (with_reducible refine (chunk_Cut.calls a0 (wrap64 (a1 + (ji59))) a3 t159 t160 _ A60.out).mono ?_); rintro e w84 ⟨rfl, hb⟩; refine ⟨_, rfl, ?_⟩; have n0_ := Aside0.mk (below_step (by repeat (first | (with_reducible first | exact HB.out | apply below_alloc | apply pw_below_drewN | apply below_drew1) | exact HB.out)) hb); clear HB; have HB := n0_; clear n0_; (try clear hb); (try clear hb2); (try clear hk); (try clear hi)) | ((with_reducible refine gate_callee (f := 13) rfl ?_); refine goesL_ (some 74) rfl rfl Try.func13 (by kernel_rfl) rfl #[.string a0, .int .i64 a1, .int .i64 (wrap64 ((ji59) + (Int.tmod a3 1000000)))] rfl (by (try simp only [List.map_toArray, List.map_cons, List.map_nil]); first | done | (simp only [hji59]; rfl) | rfl | (simp only [List.length_drop, List.length_take]; rfl)) ?_; (with_reducible refine (chunk_Cut.calls a0 a1 (wrap64 ((ji59) + (Int.tmod a3 1000000))) t161 t162 _ A61.out).mono ?_); rintro e w85 ⟨rfl, hb⟩; refine ⟨_, rfl, ?_⟩; have n0_ := Aside0.mk (below_step (by repeat (first | (with_reducible first | exact HB.out | apply below_alloc | apply pw_below_drewN | apply below_drew1) | exact HB.out)) hb); clear HB; have HB := n0_; clear n0_; (try clear hb); (try clear hb2); (try clear hk); (try clear hi)) | ((with_reducible refine gate_callee (f := 13) rfl ?_); refine goesL_ (some 84) rfl rfl Try.func13 (by kernel_rfl) rfl #[.string a0, .int .i64 (wrap64 (a1 + (ji59))), .int .i64 (Int.tmod a3 1000000)] rfl (by (try simp only [List.map_toArray, List.map_cons, List.map_nil]); first | done | (simp only [hji59]; rfl) | rfl | (simp only [List.length_drop, List.length_take]; rfl)) ?_; (with_reducible refine (chunk_Cut.calls a0 (wrap64 (a1 + (ji59))) (Int.tmod a3 1000000) t163 t164 _ A62.out).mono ?_); rintro e w86 ⟨rfl, hb⟩; refine ⟨_, rfl, ?_⟩; have n0_ := Aside0.mk (below_step (by repeat (first | (with_reducible first | exact HB.out | apply below_alloc | apply pw_below_drewN | apply below_drew1) | exact HB.out)) hb); clear HB; have HB := n0_; clear n0_; (try clear hb); (try clear hb2); (try clear hk); (try clear hi)))
                      go_ret
                      exact ⟨by first | rfl | (simp [errW_none, errW_some] <;> rfl) | (simp only [← hji59]; first | rfl | (simp [errW_none, errW_some] <;> rfl)) | (simp [*, errW_none, errW_some] <;> rfl), by repeat (first | (with_reducible first | exact HB.out | apply below_alloc | apply pw_below_drewN | apply below_drew1) | exact HB.out)⟩
                  · rw [if_neg c67] at H
                    have c67b0 : (t164 == 0) = false := beq_eq_false_iff_ne.mpr c67
                    have c67b1 : (t164 != 0) = true := bne_iff_ne.mpr c67
                    obtain rfl := Option.some.inj H
                    go_wp2_with (first | ((with_reducible refine gate_callee (f := 13) rfl ?_); refine goesL_ (some 64) rfl rfl Try.func13 (by kernel_rfl) rfl #[.string a0, .int .i64 (wrap64 (a1 + (ji59))), .int .i64 a3] rfl (by (try simp only [List.map_toArray, List.map_cons, List.map_nil]); first | done | (simp only [hji59]; rfl) | rfl | (simp only [List.length_drop, List.length_take]; rfl)) ?_; (with_reducible refine (chunk_Cut.calls a0 (wrap64 (a1 + (ji59))) a3 t159 t160 _ A60.out).mono ?_); rintro e w87 ⟨rfl, hb⟩; refine ⟨_, rfl, ?_⟩; have n0_ := Aside0.mk (below_step (by repeat (first | (with_reducible first | exact HB.out | apply below_alloc | apply pw_below_drewN | apply below_drew1) | exact HB.out)) hb); clear HB; have HB := n0_; clear n0_; (try clear hb); (try clear hb2); (try clear hk); (try clear hi)) | ((with_reducible refine gate_callee (f := 13) rfl ?_); refine goesL_ (some 74) rfl rfl Try.func13 (by kernel_rfl) rfl #[.string a0, .int .i64 a1, .int .i64 (wrap64 ((ji59) + (Int.tmod a3 1000000)))] rfl (by (try simp only [List.map_toArray, List.map_cons, List.map_nil]); first | done | (simp only [hji59]; rfl) | rfl | (simp only [List.length_drop, List.length_take]; rfl)) ?_; (with_reducible refine (chunk_Cut.calls a0 a1 (wrap64 ((ji59) + (Int.tmod a3 1000000))) t161 t162 _ A61.out).mono ?_); rintro e w88 ⟨rfl, hb⟩; refine ⟨_, rfl, ?_⟩; have n0_ := Aside0.mk (below_step (by repeat (first | (with_reducible first | exact HB.out | apply below_alloc | apply pw_below_drewN | apply below_drew1) | exact HB.out)) hb); clear HB; have HB := n0_; clear n0_; (try clear hb); (try clear hb2); (try clear hk); (try clear hi)) | ((with_reducible refine gate_callee (f := 13) rfl ?_); refine goesL_ (some 84) rfl rfl Try.func13 (by kernel_rfl) rfl #[.string a0, .int .i64 (wrap64 (a1 + (ji59))), .int .i64 (Int.tmod a3 1000000)] rfl (by (try simp only [List.map_toArray, List.map_cons, List.map_nil]); first | done | (simp only [hji59]; rfl) | rfl | (simp only [List.length_drop, List.length_take]; rfl)) ?_; (with_reducible refine (chunk_Cut.calls a0 (wrap64 (a1 + (ji59))) (Int.tmod a3 1000000) t163 t164 _ A62.out).mono ?_); rintro e w89 ⟨rfl, hb⟩; refine ⟨_, rfl, ?_⟩; have n0_ := Aside0.mk (below_step (by repeat (first | (with_reducible first | exact HB.out | apply below_alloc | apply pw_below_drewN | apply below_drew1) | exact HB.out)) hb); clear HB; have HB := n0_; clear n0_; (try clear hb); (try clear hb2); (try clear hk); (try clear hi)))
                    go_ret
                    exact ⟨by first | rfl | (simp [errW_none, errW_some] <;> rfl) | (simp only [← hji59]; first | rfl | (simp [errW_none, errW_some] <;> rfl)) | (simp [*, errW_none, errW_some] <;> rfl), by repeat (first | (with_reducible first | exact HB.out | apply below_alloc | apply pw_below_drewN | apply below_drew1) | exact HB.out)⟩
                · rw [if_neg c66] at H
                  have c66b0 : (t162 == 0) = false := beq_eq_false_iff_ne.mpr c66
                  have c66b1 : (t162 != 0) = true := bne_iff_ne.mpr c66
                  obtain rfl := Option.some.inj H
                  go_wp2_with (first | ((with_reducible refine gate_callee (f := 13) rfl ?_); refine goesL_ (some 64) rfl rfl Try.func13 (by kernel_rfl) rfl #[.string a0, .int .i64 (wrap64 (a1 + (ji59))), .int .i64 a3] rfl (by (try simp only [List.map_toArray, List.map_cons, List.map_nil]); first | done | (simp only [hji59]; rfl) | rfl | (simp only [List.length_drop, List.length_take]; rfl)) ?_; (with_reducible refine (chunk_Cut.calls a0 (wrap64 (a1 + (ji59))) a3 t159 t160 _ A60.out).mono ?_); rintro e w90 ⟨rfl, hb⟩; refine ⟨_, rfl, ?_⟩; have n0_ := Aside0.mk (below_step (by repeat (first | (with_reducible first | exact HB.out | apply below_alloc | apply pw_below_drewN | apply below_drew1) | exact HB.out)) hb); clear HB; have HB := n0_; clear n0_; (try clear hb); (try clear hb2); (try clear hk); (try clear hi)) | ((with_reducible refine gate_callee (f := 13) rfl ?_); refine goesL_ (some 74) rfl rfl Try.func13 (by kernel_rfl) rfl #[.string a0, .int .i64 a1, .int .i64 (wrap64 ((ji59) + (Int.tmod a3 1000000)))] rfl (by (try simp only [List.map_toArray, List.map_cons, List.map_nil]); first | done | (simp only [hji59]; rfl) | rfl | (simp only [List.length_drop, List.length_take]; rfl)) ?_; (with_reducible refine (chunk_Cut.calls a0 a1 (wrap64 ((ji59) + (Int.tmod a3 1000000))) t161 t162 _ A61.out).mono ?_); rintro e w91 ⟨rfl, hb⟩; refine ⟨_, rfl, ?_⟩; have n0_ := Aside0.mk (below_step (by repeat (first | (with_reducible first | exact HB.out | apply below_alloc | apply pw_below_drewN | apply below_drew1) | exact HB.out)) hb); clear HB; have HB := n0_; clear n0_; (try clear hb); (try clear hb2); (try clear hk); (try clear hi)) | ((with_reducible refine gate_callee (f := 13) rfl ?_); refine goesL_ (some 84) rfl rfl Try.func13 (by kernel_rfl) rfl #[.string a0, .int .i64 (wrap64 (a1 + (ji59))), .int .i64 (Int.tmod a3 1000000)] rfl (by (try simp only [List.map_toArray, List.map_cons, List.map_nil]); first | done | (simp only [hji59]; rfl) | rfl | (simp only [List.length_drop, List.length_take]; rfl)) ?_; (with_reducible refine (chunk_Cut.calls a0 (wrap64 (a1 + (ji59))) (Int.tmod a3 1000000) t163 t164 _ A62.out).mono ?_); rintro e w92 ⟨rfl, hb⟩; refine ⟨_, rfl, ?_⟩; have n0_ := Aside0.mk (below_step (by repeat (first | (with_reducible first | exact HB.out | apply below_alloc | apply pw_below_drewN | apply below_drew1) | exact HB.out)) hb); clear HB; have HB := n0_; clear n0_; (try clear hb); (try clear hb2); (try clear hk); (try clear hi)))
                  go_ret
                  exact ⟨by first | rfl | (simp [errW_none, errW_some] <;> rfl) | (simp only [← hji59]; first | rfl | (simp [errW_none, errW_some] <;> rfl)) | (simp [*, errW_none, errW_some] <;> rfl), by repeat (first | (with_reducible first | exact HB.out | apply below_alloc | apply pw_below_drewN | apply below_drew1) | exact HB.out)⟩
              · rw [if_neg c65] at H
                have c65b0 : (t160 == 0) = false := beq_eq_false_iff_ne.mpr c65
                have c65b1 : (t160 != 0) = true := bne_iff_ne.mpr c65
                obtain rfl := Option.some.inj H
                go_wp2_with (first | ((with_reducible refine gate_callee (f := 13) rfl ?_); refine goesL_ (some 64) rfl rfl Try.func13 (by kernel_rfl) rfl #[.string a0, .int .i64 (wrap64 (a1 + (ji59))), .int .i64 a3] rfl (by (try simp only [List.map_toArray, List.map_cons, List.map_nil]); first | done | (simp only [hji59]; rfl) | rfl | (simp only [List.length_drop, List.length_take]; rfl)) ?_; (with_reducible refine (chunk_Cut.calls a0 (wrap64 (a1 + (ji59))) a3 t159 t160 _ A60.out).mono ?_); rintro e w93 ⟨rfl, hb⟩; refine ⟨_, rfl, ?_⟩; have n0_ := Aside0.mk (below_step (by repeat (first | (with_reducible first | exact HB.out | apply below_alloc | apply pw_below_drewN | apply below_drew1) | exact HB.out)) hb); clear HB; have HB := n0_; clear n0_; (try clear hb); (try clear hb2); (try clear hk); (try clear hi)) | ((with_reducible refine gate_callee (f := 13) rfl ?_); refine goesL_ (some 74) rfl rfl Try.func13 (by kernel_rfl) rfl #[.string a0, .int .i64 a1, .int .i64 (wrap64 ((ji59) + (Int.tmod a3 1000000)))] rfl (by (try simp only [List.map_toArray, List.map_cons, List.map_nil]); first | done | (simp only [hji59]; rfl) | rfl | (simp only [List.length_drop, List.length_take]; rfl)) ?_; (with_reducible refine (chunk_Cut.calls a0 a1 (wrap64 ((ji59) + (Int.tmod a3 1000000))) t161 t162 _ A61.out).mono ?_); rintro e w94 ⟨rfl, hb⟩; refine ⟨_, rfl, ?_⟩; have n0_ := Aside0.mk (below_step (by repeat (first | (with_reducible first | exact HB.out | apply below_alloc | apply pw_below_drewN | apply below_drew1) | exact HB.out)) hb); clear HB; have HB := n0_; clear n0_; (try clear hb); (try clear hb2); (try clear hk); (try clear hi)) | ((with_reducible refine gate_callee (f := 13) rfl ?_); refine goesL_ (some 84) rfl rfl Try.func13 (by kernel_rfl) rfl #[.string a0, .int .i64 (wrap64 (a1 + (ji59))), .int .i64 (Int.tmod a3 1000000)] rfl (by (try simp only [List.map_toArray, List.map_cons, List.map_nil]); first | done | (simp only [hji59]; rfl) | rfl | (simp only [List.length_drop, List.length_take]; rfl)) ?_; (with_reducible refine (chunk_Cut.calls a0 (wrap64 (a1 + (ji59))) (Int.tmod a3 1000000) t163 t164 _ A62.out).mono ?_); rintro e w95 ⟨rfl, hb⟩; refine ⟨_, rfl, ?_⟩; have n0_ := Aside0.mk (below_step (by repeat (first | (with_reducible first | exact HB.out | apply below_alloc | apply pw_below_drewN | apply below_drew1) | exact HB.out)) hb); clear HB; have HB := n0_; clear n0_; (try clear hb); (try clear hb2); (try clear hk); (try clear hi)))
                go_ret
                exact ⟨by first | rfl | (simp [errW_none, errW_some] <;> rfl) | (simp only [← hji59]; first | rfl | (simp [errW_none, errW_some] <;> rfl)) | (simp [*, errW_none, errW_some] <;> rfl), by repeat (first | (with_reducible first | exact HB.out | apply below_alloc | apply pw_below_drewN | apply below_drew1) | exact HB.out)⟩
            · rw [if_neg c64] at H
              have c64b0 : (t152 == 0) = false := beq_eq_false_iff_ne.mpr c64
              have c64b1 : (t152 != 0) = true := bne_iff_ne.mpr c64
              obtain rfl := Option.some.inj H
              go_wp2_with (first | ((with_reducible refine gate_callee (f := 13) rfl ?_); refine goesL_ (some 64) rfl rfl Try.func13 (by kernel_rfl) rfl #[.string a0, .int .i64 (wrap64 (a1 + (ji59))), .int .i64 a3] rfl (by (try simp only [List.map_toArray, List.map_cons, List.map_nil]); first | done | (simp only [hji59]; rfl) | rfl | (simp only [List.length_drop, List.length_take]; rfl)) ?_; (with_reducible refine (chunk_Cut.calls a0 (wrap64 (a1 + (ji59))) a3 t159 t160 _ A60.out).mono ?_); rintro e w96 ⟨rfl, hb⟩; refine ⟨_, rfl, ?_⟩; have n0_ := Aside0.mk (below_step (by repeat (first | (with_reducible first | exact HB.out | apply below_alloc | apply pw_below_drewN | apply below_drew1) | exact HB.out)) hb); clear HB; have HB := n0_; clear n0_; (try clear hb); (try clear hb2); (try clear hk); (try clear hi)) | ((with_reducible refine gate_callee (f := 13) rfl ?_); refine goesL_ (some 74) rfl rfl Try.func13 (by kernel_rfl) rfl #[.string a0, .int .i64 a1, .int .i64 (wrap64 ((ji59) + (Int.tmod a3 1000000)))] rfl (by (try simp only [List.map_toArray, List.map_cons, List.map_nil]); first | done | (simp only [hji59]; rfl) | rfl | (simp only [List.length_drop, List.length_take]; rfl)) ?_; (with_reducible refine (chunk_Cut.calls a0 a1 (wrap64 ((ji59) + (Int.tmod a3 1000000))) t161 t162 _ A61.out).mono ?_); rintro e w97 ⟨rfl, hb⟩; refine ⟨_, rfl, ?_⟩; have n0_ := Aside0.mk (below_step (by repeat (first | (with_reducible first | exact HB.out | apply below_alloc | apply pw_below_drewN | apply below_drew1) | exact HB.out)) hb); clear HB; have HB := n0_; clear n0_; (try clear hb); (try clear hb2); (try clear hk); (try clear hi)) | ((with_reducible refine gate_callee (f := 13) rfl ?_); refine goesL_ (some 84) rfl rfl Try.func13 (by kernel_rfl) rfl #[.string a0, .int .i64 (wrap64 (a1 + (ji59))), .int .i64 (Int.tmod a3 1000000)] rfl (by (try simp only [List.map_toArray, List.map_cons, List.map_nil]); first | done | (simp only [hji59]; rfl) | rfl | (simp only [List.length_drop, List.length_take]; rfl)) ?_; (with_reducible refine (chunk_Cut.calls a0 (wrap64 (a1 + (ji59))) (Int.tmod a3 1000000) t163 t164 _ A62.out).mono ?_); rintro e w98 ⟨rfl, hb⟩; refine ⟨_, rfl, ?_⟩; have n0_ := Aside0.mk (below_step (by repeat (first | (with_reducible first | exact HB.out | apply below_alloc | apply pw_below_drewN | apply below_drew1) | exact HB.out)) hb); clear HB; have HB := n0_; clear n0_; (try clear hb); (try clear hb2); (try clear hk); (try clear hi)))
              go_ret
              exact ⟨by first | rfl | (simp [errW_none, errW_some] <;> rfl) | (simp only [← hji59]; first | rfl | (simp [errW_none, errW_some] <;> rfl)) | (simp [*, errW_none, errW_some] <;> rfl), by repeat (first | (with_reducible first | exact HB.out | apply below_alloc | apply pw_below_drewN | apply below_drew1) | exact HB.out)⟩
          · replace c63 := Bool.eq_false_iff.mpr c63
            subst c63
            have H1 : (some false) = some r := by rw [if_neg (show ¬ (false = true) by decide)] at H; exact H
            clear H
            have H := H1
            clear H1
            obtain rfl := Option.some.inj H
            go_wp2_with (first | ((with_reducible refine gate_callee (f := 13) rfl ?_); refine goesL_ (some 64) rfl rfl Try.func13 (by kernel_rfl) rfl #[.string a0, .int .i64 (wrap64 (a1 + (ji59))), .int .i64 a3] rfl (by (try simp only [List.map_toArray, List.map_cons, List.map_nil]); first | done | (simp only [hji59]; rfl) | rfl | (simp only [List.length_drop, List.length_take]; rfl)) ?_; (with_reducible refine (chunk_Cut.calls a0 (wrap64 (a1 + (ji59))) a3 t159 t160 _ A60.out).mono ?_); rintro e w99 ⟨rfl, hb⟩; refine ⟨_, rfl, ?_⟩; have n0_ := Aside0.mk (below_step (by repeat (first | (with_reducible first | exact HB.out | apply below_alloc | apply pw_below_drewN | apply below_drew1) | exact HB.out)) hb); clear HB; have HB := n0_; clear n0_; (try clear hb); (try clear hb2); (try clear hk); (try clear hi)) | ((with_reducible refine gate_callee (f := 13) rfl ?_); refine goesL_ (some 74) rfl rfl Try.func13 (by kernel_rfl) rfl #[.string a0, .int .i64 a1, .int .i64 (wrap64 ((ji59) + (Int.tmod a3 1000000)))] rfl (by (try simp only [List.map_toArray, List.map_cons, List.map_nil]); first | done | (simp only [hji59]; rfl) | rfl | (simp only [List.length_drop, List.length_take]; rfl)) ?_; (with_reducible refine (chunk_Cut.calls a0 a1 (wrap64 ((ji59) + (Int.tmod a3 1000000))) t161 t162 _ A61.out).mono ?_); rintro e w100 ⟨rfl, hb⟩; refine ⟨_, rfl, ?_⟩; have n0_ := Aside0.mk (below_step (by repeat (first | (with_reducible first | exact HB.out | apply below_alloc | apply pw_below_drewN | apply below_drew1) | exact HB.out)) hb); clear HB; have HB := n0_; clear n0_; (try clear hb); (try clear hb2); (try clear hk); (try clear hi)) | ((with_reducible refine gate_callee (f := 13) rfl ?_); refine goesL_ (some 84) rfl rfl Try.func13 (by kernel_rfl) rfl #[.string a0, .int .i64 (wrap64 (a1 + (ji59))), .int .i64 (Int.tmod a3 1000000)] rfl (by (try simp only [List.map_toArray, List.map_cons, List.map_nil]); first | done | (simp only [hji59]; rfl) | rfl | (simp only [List.length_drop, List.length_take]; rfl)) ?_; (with_reducible refine (chunk_Cut.calls a0 (wrap64 (a1 + (ji59))) (Int.tmod a3 1000000) t163 t164 _ A62.out).mono ?_); rintro e w101 ⟨rfl, hb⟩; refine ⟨_, rfl, ?_⟩; have n0_ := Aside0.mk (below_step (by repeat (first | (with_reducible first | exact HB.out | apply below_alloc | apply pw_below_drewN | apply below_drew1) | exact HB.out)) hb); clear HB; have HB := n0_; clear n0_; (try clear hb); (try clear hb2); (try clear hk); (try clear hi)))
            go_ret
            exact ⟨by first | rfl | (simp [errW_none, errW_some] <;> rfl) | (simp only [← hji59]; first | rfl | (simp [errW_none, errW_some] <;> rfl)) | (simp [*, errW_none, errW_some] <;> rfl), by repeat (first | (with_reducible first | exact HB.out | apply below_alloc | apply pw_below_drewN | apply below_drew1) | exact HB.out)⟩

/-- THE ONE PURE STATEMENT of tabulariumlaw18_ChunkCuts: yours. -/
def tabulariumlaw18_ChunkCuts.Pure : Prop := ∀ (a0 : ByteArray) (a1 : Int) (a2 : Int) (a3 : Int), a0.size ≤ 140737488351232 → (Lit.int .i64 a1).wf = true → (Lit.int .i64 a2).wf = true → (Lit.int .i64 a3).wf = true → ∃ k, tabulariumlaw18_ChunkCuts.f k a0 a1 a2 a3 = some true
theorem tabulariumlaw18_ChunkCuts.walk (P : tabulariumlaw18_ChunkCuts.Pure) (a0 : ByteArray) (a1 : Int) (a2 : Int) (a3 : Int) (w : World) (w0 : a0.size ≤ 140737488351232) (w1 : (Lit.int .i64 a1).wf = true) (w2 : (Lit.int .i64 a2).wf = true) (w3 : (Lit.int .i64 a3).wf = true) :
    Calls Try.prog 5 #[.string a0, .int .i64 a1, .int .i64 a2, .int .i64 a3] w fun e w' => e = .returned (.bool true) ∧ Below w.heap.size w w' := by
  obtain ⟨k, h⟩ := P a0 a1 a2 a3 w0 w1 w2 w3
  refine (tabulariumlaw18_ChunkCuts.calls k a0 a1 a2 a3 true w h).mono ?_
  rintro e w' ⟨rfl, hd⟩
  exact ⟨rfl, hd⟩

end Go.Proofs.Ytljllecpmllefaa.P
