/- The Go functions of this seat as plain Lean functions, and for each the proof that its call gives what the plain function gives. Printed by a program of this session. -/
import Derived.Test.YtjjmbcnalcjnmaaPx0
import Derived.Test.YtjjmbcnalcjnmaaPx1
import Derived.Test.YtjjmbcnalcjnmaaPx2
import Derived.Test.YtjjmbcnalcjnmaaPx3
import Derived.Test.YtjjmbcnalcjnmaaPx9
import Derived.Test.YtjjmbcnalcjnmaaPx12
import Derived.Test.YtjjmbcnalcjnmaaPx15
import Derived.Test.YtjjmbcnalcjnmaaPx17
import Derived.Test.YtjjmbcnalcjnmaaPx20
import Derived.Test.YtjjmbcnalcjnmaaPx21
namespace Go.Proofs.Ytjjmbcnalcjnmaa.P
open Go.RowKit Go.Proofs.YtjjmbcnalcjnmaaW.PrintWords Go.Proofs.YtjjmbcnalcjnmaaW.PrintLast Go.Proofs.YtjjmbcnalcjnmaaW.PrintMore
attribute [local go_sem] max2_int min2_int max_two min_two max_three min_three max_four min_four   -- for this text's walks alone
set_option linter.unusedVariables false
set_option linter.unusedSimpArgs false

/-! ### tabulariumlaw01_WireBack: function 10 -/
mutual
def tabulariumlaw01_WireBack.j0 : Nat → Nat → ByteArray → List ByteArray → ByteArray → Bool → Bool → Option (Bool)
  | 0, _, _, _, _, _, _ => none
  | k + 1, x1, x2, x3, x4, x11, x46 => if x46 = true then (some false) else ((wire_Real.f x1).bind fun t231 => (if t231.size + x4.size ≤ 9223372036854775807 then ((wire_TakeReal.f (t231 ++ x4)).bind fun bt232 => (if bt232.2.1.toList = x4.toList then (if bt232.2.2 = 0 then ((wire_Real.f bt232.1).bind fun t235 => ((wire_Real.f x1).bind fun t236 => (if t235.toList = t236.toList then (if (FloatKind.f64.format.order bt232.1 x1 != some .eq) = true then (if (FloatKind.f64.format.order bt232.1 bt232.1 == some .eq) = true then (tabulariumlaw01_WireBack.j1 k x2 x3 x4 x11 true) else (tabulariumlaw01_WireBack.j1 k x2 x3 x4 x11 (FloatKind.f64.format.order x1 x1 == some .eq))) else (tabulariumlaw01_WireBack.j1 k x2 x3 x4 x11 false)) else (tabulariumlaw01_WireBack.j1 k x2 x3 x4 x11 true)))) else (tabulariumlaw01_WireBack.j1 k x2 x3 x4 x11 true)) else (tabulariumlaw01_WireBack.j1 k x2 x3 x4 x11 true))) else (none)))
def tabulariumlaw01_WireBack.j1 : Nat → ByteArray → List ByteArray → ByteArray → Bool → Bool → Option (Bool)
  | 0, _, _, _, _, _ => none
  | k + 1, x2, x3, x4, x11, x84 => if x84 = true then (some false) else ((wire_Text.f k x2).bind fun bt237 => (if bt237.2 = 0 then (if bt237.1.size + x4.size ≤ 9223372036854775807 then ((wire_TakeText.f k (bt237.1 ++ x4)).bind fun bt239 => (if bt239.1.toList = x2.toList then (if bt239.2.1.toList = x4.toList then (if bt239.2.2 = 0 then (tabulariumlaw01_WireBack.j2 k x3 x11) else (some false)) else (some false)) else (some false))) else (none)) else (tabulariumlaw01_WireBack.j2 k x3 x11)))
def tabulariumlaw01_WireBack.j2 : Nat → List ByteArray → Bool → Option (Bool)
  | 0, _, _ => none
  | k + 1, x3, x11 => (wire_Join.f k x3).bind fun bt242 => (if bt242.2 = 0 then ((wire_Split.f k bt242.1).bind fun bt244 => ((tabulariumlaw01_texts.f k bt244.1 x3).bind fun t248 => (if x11 = true then (if t248 = true then (some (bt244.2 == 0)) else (some false)) else (some false)))) else (if x11 = true then (some (bt242.1.toList == ([] : List UInt8))) else (some false)))
end
def tabulariumlaw01_WireBack.f (k : Nat) (a0 : Int) (a1 : Nat) (a2 : ByteArray) (l3 : List ByteArray) (a4 : ByteArray) : Option (Bool) := (tabulariumlaw01_examples.f k).bind fun t226 => ((wire_Num.f k a0).bind fun t227 => (if t227.size + a4.size ≤ 9223372036854775807 then ((wire_TakeNum.f k (t227 ++ a4)).bind fun bt228 => (if bt228.1 = a0 then (if bt228.2.1.toList = a4.toList then (tabulariumlaw01_WireBack.j0 k a1 a2 l3 a4 t226 (bt228.2.2 != 0)) else (tabulariumlaw01_WireBack.j0 k a1 a2 l3 a4 t226 true)) else (tabulariumlaw01_WireBack.j0 k a1 a2 l3 a4 t226 true))) else (none)))
theorem tabulariumlaw01_WireBack.mono_l : ∀ k, (∀ y0 y1 y2 y3 y4 y5, LeO (tabulariumlaw01_WireBack.j0 k y0 y1 y2 y3 y4 y5) (tabulariumlaw01_WireBack.j0 (k + 1) y0 y1 y2 y3 y4 y5)) ∧ (∀ y0 y1 y2 y3 y4, LeO (tabulariumlaw01_WireBack.j1 k y0 y1 y2 y3 y4) (tabulariumlaw01_WireBack.j1 (k + 1) y0 y1 y2 y3 y4)) ∧ (∀ y0 y1, LeO (tabulariumlaw01_WireBack.j2 k y0 y1) (tabulariumlaw01_WireBack.j2 (k + 1) y0 y1))
  | 0 => ⟨fun _ _ _ _ _ _ r h => by simp [tabulariumlaw01_WireBack.j0] at h, fun _ _ _ _ _ r h => by simp [tabulariumlaw01_WireBack.j1] at h, fun _ _ r h => by simp [tabulariumlaw01_WireBack.j2] at h⟩
  | k + 1 => by
    obtain ⟨ih0, ih1, ih2⟩ := tabulariumlaw01_WireBack.mono_l k
    refine ⟨?_, ?_, ?_⟩
    · intro y0 y1 y2 y3 y4 y5
      unfold tabulariumlaw01_WireBack.j0
      repeat' first
      | (with_reducible exact ih0 _ _ _ _ _ _)
      | (with_reducible exact ih1 _ _ _ _ _)
      | (with_reducible exact ih2 _ _)
      | (with_reducible exact tabulariumlaw01_examples.mono _)
      | (with_reducible exact tabulariumlaw01_texts.mono _ _ _)
      | (with_reducible exact wire_Join.mono _ _)
      | (with_reducible exact wire_Num.mono _ _)
      | (with_reducible exact wire_Split.mono _ _)
      | (with_reducible exact wire_TakeNum.mono _ _)
      | (with_reducible exact wire_TakeText.mono _ _)
      | (with_reducible exact wire_Text.mono _ _)
      | (with_reducible exact LeO.refl _)
      | (with_reducible exact LeO.none _)
      | (with_reducible refine LeO.ite ?_ ?_)
      | (with_reducible refine LeO.bind ?_ (fun _ => ?_))
      | exact ih0 _ _ _ _ _ _
      | exact ih1 _ _ _ _ _
      | exact ih2 _ _
      | exact tabulariumlaw01_examples.mono _
      | exact tabulariumlaw01_texts.mono _ _ _
      | exact wire_Join.mono _ _
      | exact wire_Num.mono _ _
      | exact wire_Split.mono _ _
      | exact wire_TakeNum.mono _ _
      | exact wire_TakeText.mono _ _
      | exact wire_Text.mono _ _
      | exact LeO.none _
      | refine LeO.ite ?_ ?_
      | refine LeO.bind ?_ (fun _ => ?_)
    · intro y0 y1 y2 y3 y4
      unfold tabulariumlaw01_WireBack.j1
      repeat' first
      | (with_reducible exact ih0 _ _ _ _ _ _)
      | (with_reducible exact ih1 _ _ _ _ _)
      | (with_reducible exact ih2 _ _)
      | (with_reducible exact tabulariumlaw01_examples.mono _)
      | (with_reducible exact tabulariumlaw01_texts.mono _ _ _)
      | (with_reducible exact wire_Join.mono _ _)
      | (with_reducible exact wire_Num.mono _ _)
      | (with_reducible exact wire_Split.mono _ _)
      | (with_reducible exact wire_TakeNum.mono _ _)
      | (with_reducible exact wire_TakeText.mono _ _)
      | (with_reducible exact wire_Text.mono _ _)
      | (with_reducible exact LeO.refl _)
      | (with_reducible exact LeO.none _)
      | (with_reducible refine LeO.ite ?_ ?_)
      | (with_reducible refine LeO.bind ?_ (fun _ => ?_))
      | exact ih0 _ _ _ _ _ _
      | exact ih1 _ _ _ _ _
      | exact ih2 _ _
      | exact tabulariumlaw01_examples.mono _
      | exact tabulariumlaw01_texts.mono _ _ _
      | exact wire_Join.mono _ _
      | exact wire_Num.mono _ _
      | exact wire_Split.mono _ _
      | exact wire_TakeNum.mono _ _
      | exact wire_TakeText.mono _ _
      | exact wire_Text.mono _ _
      | exact LeO.none _
      | refine LeO.ite ?_ ?_
      | refine LeO.bind ?_ (fun _ => ?_)
    · intro y0 y1
      unfold tabulariumlaw01_WireBack.j2
      repeat' first
      | (with_reducible exact ih0 _ _ _ _ _ _)
      | (with_reducible exact ih1 _ _ _ _ _)
      | (with_reducible exact ih2 _ _)
      | (with_reducible exact tabulariumlaw01_examples.mono _)
      | (with_reducible exact tabulariumlaw01_texts.mono _ _ _)
      | (with_reducible exact wire_Join.mono _ _)
      | (with_reducible exact wire_Num.mono _ _)
      | (with_reducible exact wire_Split.mono _ _)
      | (with_reducible exact wire_TakeNum.mono _ _)
      | (with_reducible exact wire_TakeText.mono _ _)
      | (with_reducible exact wire_Text.mono _ _)
      | (with_reducible exact LeO.refl _)
      | (with_reducible exact LeO.none _)
      | (with_reducible refine LeO.ite ?_ ?_)
      | (with_reducible refine LeO.bind ?_ (fun _ => ?_))
      | exact ih0 _ _ _ _ _ _
      | exact ih1 _ _ _ _ _
      | exact ih2 _ _
      | exact tabulariumlaw01_examples.mono _
      | exact tabulariumlaw01_texts.mono _ _ _
      | exact wire_Join.mono _ _
      | exact wire_Num.mono _ _
      | exact wire_Split.mono _ _
      | exact wire_TakeNum.mono _ _
      | exact wire_TakeText.mono _ _
      | exact wire_Text.mono _ _
      | exact LeO.none _
      | refine LeO.ite ?_ ?_
      | refine LeO.bind ?_ (fun _ => ?_)
theorem tabulariumlaw01_WireBack.mono : ∀ a0 a1 a2 a3 a4 k, LeO (tabulariumlaw01_WireBack.f k a0 a1 a2 a3 a4) (tabulariumlaw01_WireBack.f (k + 1) a0 a1 a2 a3 a4) := by
  intro a0 a1 a2 a3 a4 k
  obtain ⟨ih0, ih1, ih2⟩ := tabulariumlaw01_WireBack.mono_l k
  unfold tabulariumlaw01_WireBack.f
  repeat' first
      | (with_reducible exact ih0 _ _ _ _ _ _)
      | (with_reducible exact ih1 _ _ _ _ _)
      | (with_reducible exact ih2 _ _)
      | (with_reducible exact tabulariumlaw01_examples.mono _)
      | (with_reducible exact tabulariumlaw01_texts.mono _ _ _)
      | (with_reducible exact wire_Join.mono _ _)
      | (with_reducible exact wire_Num.mono _ _)
      | (with_reducible exact wire_Split.mono _ _)
      | (with_reducible exact wire_TakeNum.mono _ _)
      | (with_reducible exact wire_TakeText.mono _ _)
      | (with_reducible exact wire_Text.mono _ _)
      | (with_reducible exact LeO.refl _)
      | (with_reducible exact LeO.none _)
      | (with_reducible refine LeO.ite ?_ ?_)
      | (with_reducible refine LeO.bind ?_ (fun _ => ?_))
      | exact ih0 _ _ _ _ _ _
      | exact ih1 _ _ _ _ _
      | exact ih2 _ _
      | exact tabulariumlaw01_examples.mono _
      | exact tabulariumlaw01_texts.mono _ _ _
      | exact wire_Join.mono _ _
      | exact wire_Num.mono _ _
      | exact wire_Split.mono _ _
      | exact wire_TakeNum.mono _ _
      | exact wire_TakeText.mono _ _
      | exact wire_Text.mono _ _
      | exact LeO.none _
      | refine LeO.ite ?_ ?_
      | refine LeO.bind ?_ (fun _ => ?_)
set_option maxHeartbeats 8000000 in
set_option maxRecDepth 100000 in
theorem tabulariumlaw01_WireBack.calls (k : Nat) (a0 : Int) (a1 : Nat) (a2 : ByteArray) (A3 : Option Addr) (c3 : Nat) (l3 : List ByteArray) (a4 : ByteArray) (r : Bool) (w : World) (hr3 : Kd.C Kd.string w A3 l3.length l3) (hc3 : l3.length ≤ c3) (h : tabulariumlaw01_WireBack.f k a0 a1 a2 l3 a4 = some r) :
    Calls Try.prog 10 #[.int .i64 a0, .float .f64 a1, .string a2, .slice A3 l3.length c3, .string a4] w fun e w' => e = .returned (.bool r) ∧ Below w.heap.size w w' := by
  have HR3 := Aside0.mk hr3
  have HC3 := Aside0.mk hc3
  clear hr3 hc3
  have HB := Aside0.mk (Below.refl w.heap.size w)
  have H : ((tabulariumlaw01_examples.f k).bind fun t226 => ((wire_Num.f k a0).bind fun t227 => (if t227.size + a4.size ≤ 9223372036854775807 then ((wire_TakeNum.f k (t227 ++ a4)).bind fun bt228 => (if bt228.1 = a0 then (if bt228.2.1.toList = a4.toList then (tabulariumlaw01_WireBack.j0 k a1 a2 l3 a4 t226 (bt228.2.2 != 0)) else (tabulariumlaw01_WireBack.j0 k a1 a2 l3 a4 t226 true)) else (tabulariumlaw01_WireBack.j0 k a1 a2 l3 a4 t226 true))) else (none)))) = some r := h
  clear h
  replace H := Option.bind_eq_some_iff.mp H
  obtain ⟨t226, A60, H⟩ := H
  replace H : ((wire_Num.f k a0).bind fun t227 => (if t227.size + a4.size ≤ 9223372036854775807 then ((wire_TakeNum.f k (t227 ++ a4)).bind fun bt228 => (if bt228.1 = a0 then (if bt228.2.1.toList = a4.toList then (tabulariumlaw01_WireBack.j0 k a1 a2 l3 a4 t226 (bt228.2.2 != 0)) else (tabulariumlaw01_WireBack.j0 k a1 a2 l3 a4 t226 true)) else (tabulariumlaw01_WireBack.j0 k a1 a2 l3 a4 t226 true))) else (none))) = some r := H
  have A6 := Aside0.mk A60
  clear A60
  replace H := Option.bind_eq_some_iff.mp H
  obtain ⟨t227, A70, H⟩ := H
  replace H : (if t227.size + a4.size ≤ 9223372036854775807 then ((wire_TakeNum.f k (t227 ++ a4)).bind fun bt228 => (if bt228.1 = a0 then (if bt228.2.1.toList = a4.toList then (tabulariumlaw01_WireBack.j0 k a1 a2 l3 a4 t226 (bt228.2.2 != 0)) else (tabulariumlaw01_WireBack.j0 k a1 a2 l3 a4 t226 true)) else (tabulariumlaw01_WireBack.j0 k a1 a2 l3 a4 t226 true))) else (none)) = some r := H
  have A7 := Aside0.mk A70
  clear A70
  by_cases c8 : t227.size + a4.size ≤ 9223372036854775807
  · rw [if_pos c8] at H
    have c8b0 := eq_true c8
    have c8b1 : decide (t227.size + a4.size ≤ 9223372036854775807) = true := decide_eq_true c8
    try have c8b2 : (9223372036854775807 < t227.size + a4.size) = False := eq_false (Nat.not_lt.2 c8)
    replace H := Option.bind_eq_some_iff.mp H
    obtain ⟨⟨t228, t229, t230⟩, A90, H⟩ := H
    replace H : (if t228 = a0 then (if t229.toList = a4.toList then (tabulariumlaw01_WireBack.j0 k a1 a2 l3 a4 t226 (t230 != 0)) else (tabulariumlaw01_WireBack.j0 k a1 a2 l3 a4 t226 true)) else (tabulariumlaw01_WireBack.j0 k a1 a2 l3 a4 t226 true)) = some r := H
    have A9 := Aside0.mk A90
    clear A90
    have HC10 := Aside0.mk H
    clear H
    go_enter Try.func10, Try.ntmps10
    go_upto_region 3 with (first | ((with_reducible refine gate_callee (f := 12) rfl ?_); refine goesL_ (some 25) rfl rfl Try.func12 (by kernel_rfl) rfl #[] rfl (by (try simp only [List.map_toArray, List.map_cons, List.map_nil]); first | done | rfl | (simp only [List.length_drop, List.length_take]; rfl)) ?_; (with_reducible refine (tabulariumlaw01_examples.calls k  t226 _ A6.out).mono ?_); rintro e w11 ⟨rfl, hb⟩; refine ⟨_, rfl, ?_⟩; have n0_ := Aside0.mk (below_step (by repeat (first | (with_reducible first | exact HB.out | apply below_alloc | apply pw_below_drewN | apply below_drew1) | exact HB.out)) hb); clear HB; have HB := n0_; clear n0_; (try clear hb); (try clear hb2); (try clear hk); (try clear hi)) | ((with_reducible refine gate_callee (f := 15) rfl ?_); refine goesL_ (some 28) rfl rfl Try.func15 (by kernel_rfl) rfl #[.int .i64 a0] rfl (by (try simp only [List.map_toArray, List.map_cons, List.map_nil]); first | done | rfl | (simp only [List.length_drop, List.length_take]; rfl)) ?_; (with_reducible refine (wire_Num.calls k a0 t227 _ A7.out).mono ?_); rintro e w12 ⟨rfl, hb⟩; refine ⟨_, rfl, ?_⟩; have n0_ := Aside0.mk (below_step (by repeat (first | (with_reducible first | exact HB.out | apply below_alloc | apply pw_below_drewN | apply below_drew1) | exact HB.out)) hb); clear HB; have HB := n0_; clear n0_; (try clear hb); (try clear hb2); (try clear hk); (try clear hi)) | ((with_reducible refine gate_callee (f := 13) rfl ?_); refine goesL_ (some 31) rfl rfl Try.func13 (by kernel_rfl) rfl #[.string (t227 ++ a4)] rfl (by (try simp only [List.map_toArray, List.map_cons, List.map_nil]); first | done | rfl | (simp only [List.length_drop, List.length_take]; rfl)) ?_; (with_reducible refine (wire_TakeNum.calls k (t227 ++ a4) t228 t229 t230 _ A9.out).mono ?_); rintro e w13 ⟨rfl, hb⟩; refine ⟨_, rfl, ?_⟩; have n0_ := Aside0.mk (below_step (by repeat (first | (with_reducible first | exact HB.out | apply below_alloc | apply pw_below_drewN | apply below_drew1) | exact HB.out)) hb); clear HB; have HB := n0_; clear n0_; (try clear hb); (try clear hb2); (try clear hk); (try clear hi)))
    (try simp only [Act.put, List.setIfInBounds_toArray, List.set_cons_zero, List.set_cons_succ])
    go_cut [46] (fun v46 wc => ∃ (kq : Nat) (x46_9 : Bool), v46 = .bool x46_9 ∧ Aside0 (tabulariumlaw01_WireBack.j0 kq a1 a2 l3 a4 t226 x46_9 = some r) ∧ Aside0 (kq ≤ k) ∧ Aside0 (Below w.heap.size w wc))
    case first =>
      have H := HC10.out
      clear HC10
      by_cases c14 : t228 = a0
      · rw [if_pos c14] at H
        have c14b0 : (t228 == a0) = true := beq_iff_eq.mpr c14
        have c14b1 : (t228 != a0) = false := bne_eq_false_iff_eq.mpr c14
        clear c14
        (first | rw [c14b0] | (simp only [i64_w, i32_w]; rw [c14b0]) | skip)
        by_cases c15 : t229.toList = a4.toList
        · rw [if_pos c15] at H
          have c15b0 : (t229.toList == a4.toList) = true := beq_iff_eq.mpr c15
          have c15b1 : (t229.toList != a4.toList) = false := bne_eq_false_iff_eq.mpr c15
          clear c15
          have H' := Aside0.mk H
          clear H
          go_wp2
          go_meet
          case rel => exact ⟨_, ((t230 != 0)), (by first | rfl | (simp; done) | (simp [*]; done)), H', ⟨by first | omega | exact Nat.le_refl _⟩, ⟨by repeat (first | (with_reducible first | exact HB.out | apply below_alloc | apply pw_below_drewN | apply below_drew1) | exact HB.out)⟩⟩
        · rw [if_neg c15] at H
          have c15b0 : (t229.toList == a4.toList) = false := beq_eq_false_iff_ne.mpr c15
          have c15b1 : (t229.toList != a4.toList) = true := bne_iff_ne.mpr c15
          have H' := Aside0.mk H
          clear H
          go_wp2
          go_meet
          case rel => exact ⟨_, (true), (by first | rfl | (simp; done) | (simp [*]; done)), H', ⟨by first | omega | exact Nat.le_refl _⟩, ⟨by repeat (first | (with_reducible first | exact HB.out | apply below_alloc | apply pw_below_drewN | apply below_drew1) | exact HB.out)⟩⟩
      · rw [if_neg c14] at H
        have c14b0 : (t228 == a0) = false := beq_eq_false_iff_ne.mpr c14
        have c14b1 : (t228 != a0) = true := bne_iff_ne.mpr c14
        (first | rw [c14b0] | (simp only [i64_w, i32_w]; rw [c14b0]) | skip)
        have H' := Aside0.mk H
        clear H
        go_wp2
        go_meet
        case rel => exact ⟨_, (true), (by first | rfl | (simp; done) | (simp [*]; done)), H', ⟨by first | omega | exact Nat.le_refl _⟩, ⟨by repeat (first | (with_reducible first | exact HB.out | apply below_alloc | apply pw_below_drewN | apply below_drew1) | exact HB.out)⟩⟩
    case rest =>
      clear HC10
      try clear c1
      try clear p2
      try clear c3
      try clear c8
      try clear c8b0
      try clear c8b1
      try clear c8b2
      try clear c10
      try clear c12
      try clear c13
      try clear c14
      try clear c14b0
      try clear c14b1
      try clear c15
      try clear c15b0
      try clear c15b1
      obtain ⟨kq, x46_9, rfl, HA, HJ9, HB⟩ := hcut
      cases kq with
      | zero => exact absurd HA.out (by simp [tabulariumlaw01_WireBack.j0])
      | succ kj9 =>
        have H := HA.out
        clear HA
        simp only [tabulariumlaw01_WireBack.j0] at H
        by_cases c16 : x46_9 = true
        · subst c16
          have H1 : (some false) = some r := by rw [if_pos rfl] at H; exact H
          clear H
          have H := H1
          clear H1
          obtain rfl := Option.some.inj H
          go_wp2
          go_ret
          exact ⟨by first | rfl | (simp [errW_none, errW_some] <;> rfl) | (simp [*, errW_none, errW_some] <;> rfl), by repeat (first | (with_reducible first | exact HB.out | apply below_alloc | apply pw_below_drewN | apply below_drew1) | exact HB.out)⟩
        · replace c16 := Bool.eq_false_iff.mpr c16
          subst c16
          have H1 : ((wire_Real.f a1).bind fun t231 => (if t231.size + a4.size ≤ 9223372036854775807 then ((wire_TakeReal.f (t231 ++ a4)).bind fun bt232 => (if bt232.2.1.toList = a4.toList then (if bt232.2.2 = 0 then ((wire_Real.f bt232.1).bind fun t235 => ((wire_Real.f a1).bind fun t236 => (if t235.toList = t236.toList then (if (FloatKind.f64.format.order bt232.1 a1 != some .eq) = true then (if (FloatKind.f64.format.order bt232.1 bt232.1 == some .eq) = true then (tabulariumlaw01_WireBack.j1 kj9 a2 l3 a4 t226 true) else (tabulariumlaw01_WireBack.j1 kj9 a2 l3 a4 t226 (FloatKind.f64.format.order a1 a1 == some .eq))) else (tabulariumlaw01_WireBack.j1 kj9 a2 l3 a4 t226 false)) else (tabulariumlaw01_WireBack.j1 kj9 a2 l3 a4 t226 true)))) else (tabulariumlaw01_WireBack.j1 kj9 a2 l3 a4 t226 true)) else (tabulariumlaw01_WireBack.j1 kj9 a2 l3 a4 t226 true))) else (none))) = some r := by rw [if_neg (show ¬ (false = true) by decide)] at H; exact H
          clear H
          have H := H1
          clear H1
          replace H := Option.bind_eq_some_iff.mp H
          obtain ⟨t231, A170, H⟩ := H
          replace H : (if t231.size + a4.size ≤ 9223372036854775807 then ((wire_TakeReal.f (t231 ++ a4)).bind fun bt232 => (if bt232.2.1.toList = a4.toList then (if bt232.2.2 = 0 then ((wire_Real.f bt232.1).bind fun t235 => ((wire_Real.f a1).bind fun t236 => (if t235.toList = t236.toList then (if (FloatKind.f64.format.order bt232.1 a1 != some .eq) = true then (if (FloatKind.f64.format.order bt232.1 bt232.1 == some .eq) = true then (tabulariumlaw01_WireBack.j1 kj9 a2 l3 a4 t226 true) else (tabulariumlaw01_WireBack.j1 kj9 a2 l3 a4 t226 (FloatKind.f64.format.order a1 a1 == some .eq))) else (tabulariumlaw01_WireBack.j1 kj9 a2 l3 a4 t226 false)) else (tabulariumlaw01_WireBack.j1 kj9 a2 l3 a4 t226 true)))) else (tabulariumlaw01_WireBack.j1 kj9 a2 l3 a4 t226 true)) else (tabulariumlaw01_WireBack.j1 kj9 a2 l3 a4 t226 true))) else (none)) = some r := H
          have A17 := Aside0.mk A170
          clear A170
          by_cases c18 : t231.size + a4.size ≤ 9223372036854775807
          · rw [if_pos c18] at H
            have c18b0 := eq_true c18
            have c18b1 : decide (t231.size + a4.size ≤ 9223372036854775807) = true := decide_eq_true c18
            try have c18b2 : (9223372036854775807 < t231.size + a4.size) = False := eq_false (Nat.not_lt.2 c18)
            replace H := Option.bind_eq_some_iff.mp H
            obtain ⟨⟨t232, t233, t234⟩, A190, H⟩ := H
            replace H : (if t233.toList = a4.toList then (if t234 = 0 then ((wire_Real.f t232).bind fun t235 => ((wire_Real.f a1).bind fun t236 => (if t235.toList = t236.toList then (if (FloatKind.f64.format.order t232 a1 != some .eq) = true then (if (FloatKind.f64.format.order t232 t232 == some .eq) = true then (tabulariumlaw01_WireBack.j1 kj9 a2 l3 a4 t226 true) else (tabulariumlaw01_WireBack.j1 kj9 a2 l3 a4 t226 (FloatKind.f64.format.order a1 a1 == some .eq))) else (tabulariumlaw01_WireBack.j1 kj9 a2 l3 a4 t226 false)) else (tabulariumlaw01_WireBack.j1 kj9 a2 l3 a4 t226 true)))) else (tabulariumlaw01_WireBack.j1 kj9 a2 l3 a4 t226 true)) else (tabulariumlaw01_WireBack.j1 kj9 a2 l3 a4 t226 true)) = some r := H
            have A19 := Aside0.mk A190
            clear A190
            have HC20 := Aside0.mk H
            clear H
            go_upto_region 6 with (first | ((with_reducible refine gate_callee (f := 24) rfl ?_); refine goesL_ (some 49) rfl rfl Try.func24 (by kernel_rfl) rfl #[.float .f64 a1] rfl (by (try simp only [List.map_toArray, List.map_cons, List.map_nil]); first | done | rfl | (simp only [List.length_drop, List.length_take]; rfl)) ?_; (with_reducible refine (wire_Real.calls a1 t231 _ A17.out).mono ?_); rintro e w21 ⟨rfl, hb⟩; refine ⟨_, rfl, ?_⟩; have n0_ := Aside0.mk (below_step (by repeat (first | (with_reducible first | exact HB.out | apply below_alloc | apply pw_below_drewN | apply below_drew1) | exact HB.out)) hb); clear HB; have HB := n0_; clear n0_; (try clear hb); (try clear hb2); (try clear hk); (try clear hi)) | ((with_reducible refine gate_callee (f := 21) rfl ?_); refine goesL_ (some 52) rfl rfl Try.func21 (by kernel_rfl) rfl #[.string (t231 ++ a4)] rfl (by (try simp only [List.map_toArray, List.map_cons, List.map_nil]); first | done | rfl | (simp only [List.length_drop, List.length_take]; rfl)) ?_; (with_reducible refine (wire_TakeReal.calls (t231 ++ a4) t232 t233 t234 _ A19.out).mono ?_); rintro e w22 ⟨rfl, hb⟩; refine ⟨_, rfl, ?_⟩; have n0_ := Aside0.mk (below_step (by repeat (first | (with_reducible first | exact HB.out | apply below_alloc | apply pw_below_drewN | apply below_drew1) | exact HB.out)) hb); clear HB; have HB := n0_; clear n0_; (try clear hb); (try clear hb2); (try clear hk); (try clear hi)))
            (try simp only [Act.put, List.setIfInBounds_toArray, List.set_cons_zero, List.set_cons_succ])
            go_cut [84] (fun v84 wc => ∃ (kq : Nat) (x84_19 : Bool), v84 = .bool x84_19 ∧ Aside0 (tabulariumlaw01_WireBack.j1 kq a2 l3 a4 t226 x84_19 = some r) ∧ Aside0 (kq ≤ kj9) ∧ Aside0 (Below w.heap.size w wc))
            case first =>
              have H := HC20.out
              clear HC20
              by_cases c23 : t233.toList = a4.toList
              · rw [if_pos c23] at H
                have c23b0 : (t233.toList == a4.toList) = true := beq_iff_eq.mpr c23
                have c23b1 : (t233.toList != a4.toList) = false := bne_eq_false_iff_eq.mpr c23
                clear c23
                (first | rw [c23b0] | (simp only [i64_w, i32_w]; rw [c23b0]) | skip)
                by_cases c24 : t234 = 0
                · rw [if_pos c24] at H
                  have c24b0 : (t234 == 0) = true := beq_iff_eq.mpr c24
                  have c24b1 : (t234 != 0) = false := bne_eq_false_iff_eq.mpr c24
                  clear c24
                  replace H := Option.bind_eq_some_iff.mp H
                  obtain ⟨t235, A250, H⟩ := H
                  replace H : ((wire_Real.f a1).bind fun t236 => (if t235.toList = t236.toList then (if (FloatKind.f64.format.order t232 a1 != some .eq) = true then (if (FloatKind.f64.format.order t232 t232 == some .eq) = true then (tabulariumlaw01_WireBack.j1 kj9 a2 l3 a4 t226 true) else (tabulariumlaw01_WireBack.j1 kj9 a2 l3 a4 t226 (FloatKind.f64.format.order a1 a1 == some .eq))) else (tabulariumlaw01_WireBack.j1 kj9 a2 l3 a4 t226 false)) else (tabulariumlaw01_WireBack.j1 kj9 a2 l3 a4 t226 true))) = some r := H
                  have A25 := Aside0.mk A250
                  clear A250
                  replace H := Option.bind_eq_some_iff.mp H
                  obtain ⟨t236, A260, H⟩ := H
                  replace H : (if t235.toList = t236.toList then (if (FloatKind.f64.format.order t232 a1 != some .eq) = true then (if (FloatKind.f64.format.order t232 t232 == some .eq) = true then (tabulariumlaw01_WireBack.j1 kj9 a2 l3 a4 t226 true) else (tabulariumlaw01_WireBack.j1 kj9 a2 l3 a4 t226 (FloatKind.f64.format.order a1 a1 == some .eq))) else (tabulariumlaw01_WireBack.j1 kj9 a2 l3 a4 t226 false)) else (tabulariumlaw01_WireBack.j1 kj9 a2 l3 a4 t226 true)) = some r := H
                  have A26 := Aside0.mk A260
                  clear A260
                  by_cases c27 : t235.toList = t236.toList
                  · rw [if_pos c27] at H
                    have c27b0 : (t235.toList == t236.toList) = true := beq_iff_eq.mpr c27
                    have c27b1 : (t235.toList != t236.toList) = false := bne_eq_false_iff_eq.mpr c27
                    clear c27
                    by_cases c28 : (FloatKind.f64.format.order t232 a1 != some .eq) = true
                    · rw [if_pos c28] at H
                      have c28b0 : (FloatKind.f64.format.order t232 a1 != some .eq) = true := c28
                      clear c28
                      by_cases c29 : (FloatKind.f64.format.order t232 t232 == some .eq) = true
                      · rw [if_pos c29] at H
                        have c29b0 : (FloatKind.f64.format.order t232 t232 == some .eq) = true := c29
                        clear c29
                        have H' := Aside0.mk H
                        clear H
                        go_wp2_with (first | (go_at_call 24; (with_reducible refine (wire_Real.calls t232 t235 _ A25.out).mono ?_); rintro e w30 ⟨rfl, hb⟩; have n0_ := Aside0.mk (below_step (by repeat (first | (with_reducible first | exact HB.out | apply below_alloc | apply pw_below_drewN | apply below_drew1) | exact HB.out)) hb); clear HB; have HB := n0_; clear n0_; (try clear hb); (try clear hb2); (try clear hk); (try clear hi)) | (go_at_call 24; (with_reducible refine (wire_Real.calls a1 t236 _ A26.out).mono ?_); rintro e w31 ⟨rfl, hb⟩; have n0_ := Aside0.mk (below_step (by repeat (first | (with_reducible first | exact HB.out | apply below_alloc | apply pw_below_drewN | apply below_drew1) | exact HB.out)) hb); clear HB; have HB := n0_; clear n0_; (try clear hb); (try clear hb2); (try clear hk); (try clear hi)))
                        go_meet
                        case rel => exact ⟨_, (true), (by first | rfl | (simp; done) | (simp [*]; done)), H', ⟨by have := HJ9.out; first | omega | exact Nat.le_refl _⟩, ⟨by repeat (first | (with_reducible first | exact HB.out | apply below_alloc | apply pw_below_drewN | apply below_drew1) | exact HB.out)⟩⟩
                      · rw [if_neg c29] at H
                        have c29b0 : (FloatKind.f64.format.order t232 t232 == some .eq) = false := Bool.eq_false_iff.mpr c29
                        clear c29
                        have H' := Aside0.mk H
                        clear H
                        go_wp2_with (first | (go_at_call 24; (with_reducible refine (wire_Real.calls t232 t235 _ A25.out).mono ?_); rintro e w32 ⟨rfl, hb⟩; have n0_ := Aside0.mk (below_step (by repeat (first | (with_reducible first | exact HB.out | apply below_alloc | apply pw_below_drewN | apply below_drew1) | exact HB.out)) hb); clear HB; have HB := n0_; clear n0_; (try clear hb); (try clear hb2); (try clear hk); (try clear hi)) | (go_at_call 24; (with_reducible refine (wire_Real.calls a1 t236 _ A26.out).mono ?_); rintro e w33 ⟨rfl, hb⟩; have n0_ := Aside0.mk (below_step (by repeat (first | (with_reducible first | exact HB.out | apply below_alloc | apply pw_below_drewN | apply below_drew1) | exact HB.out)) hb); clear HB; have HB := n0_; clear n0_; (try clear hb); (try clear hb2); (try clear hk); (try clear hi)))
                        go_meet
                        case rel => exact ⟨_, ((FloatKind.f64.format.order a1 a1 == some .eq)), (by first | rfl | (simp; done) | (simp [*]; done)), H', ⟨by have := HJ9.out; first | omega | exact Nat.le_refl _⟩, ⟨by repeat (first | (with_reducible first | exact HB.out | apply below_alloc | apply pw_below_drewN | apply below_drew1) | exact HB.out)⟩⟩
                    · rw [if_neg c28] at H
                      have c28b0 : (FloatKind.f64.format.order t232 a1 != some .eq) = false := Bool.eq_false_iff.mpr c28
                      clear c28
                      have H' := Aside0.mk H
                      clear H
                      go_wp2_with (first | (go_at_call 24; (with_reducible refine (wire_Real.calls t232 t235 _ A25.out).mono ?_); rintro e w34 ⟨rfl, hb⟩; have n0_ := Aside0.mk (below_step (by repeat (first | (with_reducible first | exact HB.out | apply below_alloc | apply pw_below_drewN | apply below_drew1) | exact HB.out)) hb); clear HB; have HB := n0_; clear n0_; (try clear hb); (try clear hb2); (try clear hk); (try clear hi)) | (go_at_call 24; (with_reducible refine (wire_Real.calls a1 t236 _ A26.out).mono ?_); rintro e w35 ⟨rfl, hb⟩; have n0_ := Aside0.mk (below_step (by repeat (first | (with_reducible first | exact HB.out | apply below_alloc | apply pw_below_drewN | apply below_drew1) | exact HB.out)) hb); clear HB; have HB := n0_; clear n0_; (try clear hb); (try clear hb2); (try clear hk); (try clear hi)))
                      go_meet
                      case rel => exact ⟨_, (false), (by first | rfl | (simp; done) | (simp [*]; done)), H', ⟨by have := HJ9.out; first | omega | exact Nat.le_refl _⟩, ⟨by repeat (first | (with_reducible first | exact HB.out | apply below_alloc | apply pw_below_drewN | apply below_drew1) | exact HB.out)⟩⟩
                  · rw [if_neg c27] at H
                    have c27b0 : (t235.toList == t236.toList) = false := beq_eq_false_iff_ne.mpr c27
                    have c27b1 : (t235.toList != t236.toList) = true := bne_iff_ne.mpr c27
                    have H' := Aside0.mk H
                    clear H
                    go_wp2_with (first | (go_at_call 24; (with_reducible refine (wire_Real.calls t232 t235 _ A25.out).mono ?_); rintro e w36 ⟨rfl, hb⟩; have n0_ := Aside0.mk (below_step (by repeat (first | (with_reducible first | exact HB.out | apply below_alloc | apply pw_below_drewN | apply below_drew1) | exact HB.out)) hb); clear HB; have HB := n0_; clear n0_; (try clear hb); (try clear hb2); (try clear hk); (try clear hi)) | (go_at_call 24; (with_reducible refine (wire_Real.calls a1 t236 _ A26.out).mono ?_); rintro e w37 ⟨rfl, hb⟩; have n0_ := Aside0.mk (below_step (by repeat (first | (with_reducible first | exact HB.out | apply below_alloc | apply pw_below_drewN | apply below_drew1) | exact HB.out)) hb); clear HB; have HB := n0_; clear n0_; (try clear hb); (try clear hb2); (try clear hk); (try clear hi)))
                    go_meet
                    case rel => exact ⟨_, (true), (by first | rfl | (simp; done) | (simp [*]; done)), H', ⟨by have := HJ9.out; first | omega | exact Nat.le_refl _⟩, ⟨by repeat (first | (with_reducible first | exact HB.out | apply below_alloc | apply pw_below_drewN | apply below_drew1) | exact HB.out)⟩⟩
                · rw [if_neg c24] at H
                  have c24b0 : (t234 == 0) = false := beq_eq_false_iff_ne.mpr c24
                  have c24b1 : (t234 != 0) = true := bne_iff_ne.mpr c24
                  have H' := Aside0.mk H
                  clear H
                  go_wp2
                  go_meet
                  case rel => exact ⟨_, (true), (by first | rfl | (simp; done) | (simp [*]; done)), H', ⟨by have := HJ9.out; first | omega | exact Nat.le_refl _⟩, ⟨by repeat (first | (with_reducible first | exact HB.out | apply below_alloc | apply pw_below_drewN | apply below_drew1) | exact HB.out)⟩⟩
              · rw [if_neg c23] at H
                have c23b0 : (t233.toList == a4.toList) = false := beq_eq_false_iff_ne.mpr c23
                have c23b1 : (t233.toList != a4.toList) = true := bne_iff_ne.mpr c23
                (first | rw [c23b0] | (simp only [i64_w, i32_w]; rw [c23b0]) | skip)
                have H' := Aside0.mk H
                clear H
                go_wp2
                go_meet
                case rel => exact ⟨_, (true), (by first | rfl | (simp; done) | (simp [*]; done)), H', ⟨by have := HJ9.out; first | omega | exact Nat.le_refl _⟩, ⟨by repeat (first | (with_reducible first | exact HB.out | apply below_alloc | apply pw_below_drewN | apply below_drew1) | exact HB.out)⟩⟩
            case rest =>
              clear HC20
              try clear c1
              try clear c2
              try clear p2
              try clear c3
              try clear c8
              try clear c8b0
              try clear c8b1
              try clear c8b2
              try clear c10
              try clear c12
              try clear c13
              try clear c14
              try clear c14b0
              try clear c14b1
              try clear c15
              try clear c15b0
              try clear c15b1
              try clear c16
              try clear c18
              try clear c18b0
              try clear c18b1
              try clear c18b2
              try clear c21
              try clear c23
              try clear c23b0
              try clear c23b1
              try clear c24
              try clear c24b0
              try clear c24b1
              try clear c27
              try clear c27b0
              try clear c27b1
              try clear c28
              try clear c28b0
              try clear c29
              try clear c29b0
              try clear p2
              obtain ⟨kq, x84_19, rfl, HA, HJ19, HB⟩ := hcut
              cases kq with
              | zero => exact absurd HA.out (by simp [tabulariumlaw01_WireBack.j1])
              | succ kj19 =>
                have H := HA.out
                clear HA
                simp only [tabulariumlaw01_WireBack.j1] at H
                by_cases c38 : x84_19 = true
                · subst c38
                  have H1 : (some false) = some r := by rw [if_pos rfl] at H; exact H
                  clear H
                  have H := H1
                  clear H1
                  obtain rfl := Option.some.inj H
                  go_wp2
                  go_ret
                  exact ⟨by first | rfl | (simp [errW_none, errW_some] <;> rfl) | (simp [*, errW_none, errW_some] <;> rfl), by repeat (first | (with_reducible first | exact HB.out | apply below_alloc | apply pw_below_drewN | apply below_drew1) | exact HB.out)⟩
                · replace c38 := Bool.eq_false_iff.mpr c38
                  subst c38
                  have H1 : ((wire_Text.f kj19 a2).bind fun bt237 => (if bt237.2 = 0 then (if bt237.1.size + a4.size ≤ 9223372036854775807 then ((wire_TakeText.f kj19 (bt237.1 ++ a4)).bind fun bt239 => (if bt239.1.toList = a2.toList then (if bt239.2.1.toList = a4.toList then (if bt239.2.2 = 0 then (tabulariumlaw01_WireBack.j2 kj19 l3 t226) else (some false)) else (some false)) else (some false))) else (none)) else (tabulariumlaw01_WireBack.j2 kj19 l3 t226))) = some r := by rw [if_neg (show ¬ (false = true) by decide)] at H; exact H
                  clear H
                  have H := H1
                  clear H1
                  replace H := Option.bind_eq_some_iff.mp H
                  obtain ⟨⟨t237, t238⟩, A390, H⟩ := H
                  replace H : (if t238 = 0 then (if t237.size + a4.size ≤ 9223372036854775807 then ((wire_TakeText.f kj19 (t237 ++ a4)).bind fun bt239 => (if bt239.1.toList = a2.toList then (if bt239.2.1.toList = a4.toList then (if bt239.2.2 = 0 then (tabulariumlaw01_WireBack.j2 kj19 l3 t226) else (some false)) else (some false)) else (some false))) else (none)) else (tabulariumlaw01_WireBack.j2 kj19 l3 t226)) = some r := H
                  have A39 := Aside0.mk A390
                  clear A390
                  have HC40 := Aside0.mk H
                  clear H
                  go_upto_if 91 with (first | ((with_reducible refine gate_callee (f := 17) rfl ?_); refine goesL_ (some 87) rfl rfl Try.func17 (by kernel_rfl) rfl #[.string a2] rfl (by (try simp only [List.map_toArray, List.map_cons, List.map_nil]); first | done | rfl | (simp only [List.length_drop, List.length_take]; rfl)) ?_; (with_reducible refine (wire_Text.calls kj19 a2 t237 t238 _ A39.out).mono ?_); rintro e w41 ⟨rfl, hb⟩; refine ⟨_, rfl, ?_⟩; have n0_ := Aside0.mk (below_step (by repeat (first | (with_reducible first | exact HB.out | apply below_alloc | apply pw_below_drewN | apply below_drew1) | exact HB.out)) hb); clear HB; have HB := n0_; clear n0_; (try clear hb); (try clear hb2); (try clear hk); (try clear hi)))
                  (try simp only [Act.put, List.setIfInBounds_toArray, List.set_cons_zero, List.set_cons_succ])
                  go_cut [] (fun wc => ∃ (kq : Nat), Aside0 (tabulariumlaw01_WireBack.j2 kq l3 t226 = some r) ∧ Aside0 (kq ≤ kj19) ∧ Aside0 (Below w.heap.size w wc))
                  case first =>
                    have H := HC40.out
                    clear HC40
                    by_cases c42 : t238 = 0
                    · rw [if_pos c42] at H
                      have c42b0 : (t238 == 0) = true := beq_iff_eq.mpr c42
                      have c42b1 : (t238 != 0) = false := bne_eq_false_iff_eq.mpr c42
                      clear c42
                      (first | rw [c42b0] | (simp only [i64_w, i32_w]; rw [c42b0]) | skip)
                      by_cases c43 : t237.size + a4.size ≤ 9223372036854775807
                      · rw [if_pos c43] at H
                        have c43b0 := eq_true c43
                        have c43b1 : decide (t237.size + a4.size ≤ 9223372036854775807) = true := decide_eq_true c43
                        try have c43b2 : (9223372036854775807 < t237.size + a4.size) = False := eq_false (Nat.not_lt.2 c43)
                        replace H := Option.bind_eq_some_iff.mp H
                        obtain ⟨⟨t239, t240, t241⟩, A440, H⟩ := H
                        replace H : (if t239.toList = a2.toList then (if t240.toList = a4.toList then (if t241 = 0 then (tabulariumlaw01_WireBack.j2 kj19 l3 t226) else (some false)) else (some false)) else (some false)) = some r := H
                        have A44 := Aside0.mk A440
                        clear A440
                        by_cases c45 : t239.toList = a2.toList
                        · rw [if_pos c45] at H
                          have c45b0 : (t239.toList == a2.toList) = true := beq_iff_eq.mpr c45
                          have c45b1 : (t239.toList != a2.toList) = false := bne_eq_false_iff_eq.mpr c45
                          clear c45
                          by_cases c46 : t240.toList = a4.toList
                          · rw [if_pos c46] at H
                            have c46b0 : (t240.toList == a4.toList) = true := beq_iff_eq.mpr c46
                            have c46b1 : (t240.toList != a4.toList) = false := bne_eq_false_iff_eq.mpr c46
                            clear c46
                            by_cases c47 : t241 = 0
                            · rw [if_pos c47] at H
                              have c47b0 : (t241 == 0) = true := beq_iff_eq.mpr c47
                              have c47b1 : (t241 != 0) = false := bne_eq_false_iff_eq.mpr c47
                              clear c47
                              have H' := Aside0.mk H
                              clear H
                              go_wp2_with (first | ((with_reducible refine gate_callee (f := 19) rfl ?_); refine goesL_ (some 96) rfl rfl Try.func19 (by kernel_rfl) rfl #[.string (t237 ++ a4)] rfl (by (try simp only [List.map_toArray, List.map_cons, List.map_nil]); first | done | rfl | (simp only [List.length_drop, List.length_take]; rfl)) ?_; (with_reducible refine (wire_TakeText.calls kj19 (t237 ++ a4) t239 t240 t241 _ A44.out).mono ?_); rintro e w48 ⟨rfl, hb⟩; refine ⟨_, rfl, ?_⟩; have n0_ := Aside0.mk (below_step (by repeat (first | (with_reducible first | exact HB.out | apply below_alloc | apply pw_below_drewN | apply below_drew1) | exact HB.out)) hb); clear HB; have HB := n0_; clear n0_; (try clear hb); (try clear hb2); (try clear hk); (try clear hi)))
                              go_meet
                              case rel => exact ⟨_, H', ⟨by have := HJ9.out; have := HJ19.out; first | omega | exact Nat.le_refl _⟩, ⟨by repeat (first | (with_reducible first | exact HB.out | apply below_alloc | apply pw_below_drewN | apply below_drew1) | exact HB.out)⟩⟩
                            · rw [if_neg c47] at H
                              have c47b0 : (t241 == 0) = false := beq_eq_false_iff_ne.mpr c47
                              have c47b1 : (t241 != 0) = true := bne_iff_ne.mpr c47
                              obtain rfl := Option.some.inj H
                              go_wp2_with (first | ((with_reducible refine gate_callee (f := 19) rfl ?_); refine goesL_ (some 96) rfl rfl Try.func19 (by kernel_rfl) rfl #[.string (t237 ++ a4)] rfl (by (try simp only [List.map_toArray, List.map_cons, List.map_nil]); first | done | rfl | (simp only [List.length_drop, List.length_take]; rfl)) ?_; (with_reducible refine (wire_TakeText.calls kj19 (t237 ++ a4) t239 t240 t241 _ A44.out).mono ?_); rintro e w49 ⟨rfl, hb⟩; refine ⟨_, rfl, ?_⟩; have n0_ := Aside0.mk (below_step (by repeat (first | (with_reducible first | exact HB.out | apply below_alloc | apply pw_below_drewN | apply below_drew1) | exact HB.out)) hb); clear HB; have HB := n0_; clear n0_; (try clear hb); (try clear hb2); (try clear hk); (try clear hi)))
                              go_ret
                              exact ⟨by first | rfl | (simp [errW_none, errW_some] <;> rfl) | (simp [*, errW_none, errW_some] <;> rfl), by repeat (first | (with_reducible first | exact HB.out | apply below_alloc | apply pw_below_drewN | apply below_drew1) | exact HB.out)⟩
                          · rw [if_neg c46] at H
                            have c46b0 : (t240.toList == a4.toList) = false := beq_eq_false_iff_ne.mpr c46
                            have c46b1 : (t240.toList != a4.toList) = true := bne_iff_ne.mpr c46
                            obtain rfl := Option.some.inj H
                            go_wp2_with (first | ((with_reducible refine gate_callee (f := 19) rfl ?_); refine goesL_ (some 96) rfl rfl Try.func19 (by kernel_rfl) rfl #[.string (t237 ++ a4)] rfl (by (try simp only [List.map_toArray, List.map_cons, List.map_nil]); first | done | rfl | (simp only [List.length_drop, List.length_take]; rfl)) ?_; (with_reducible refine (wire_TakeText.calls kj19 (t237 ++ a4) t239 t240 t241 _ A44.out).mono ?_); rintro e w50 ⟨rfl, hb⟩; refine ⟨_, rfl, ?_⟩; have n0_ := Aside0.mk (below_step (by repeat (first | (with_reducible first | exact HB.out | apply below_alloc | apply pw_below_drewN | apply below_drew1) | exact HB.out)) hb); clear HB; have HB := n0_; clear n0_; (try clear hb); (try clear hb2); (try clear hk); (try clear hi)))
                            go_ret
                            exact ⟨by first | rfl | (simp [errW_none, errW_some] <;> rfl) | (simp [*, errW_none, errW_some] <;> rfl), by repeat (first | (with_reducible first | exact HB.out | apply below_alloc | apply pw_below_drewN | apply below_drew1) | exact HB.out)⟩
                        · rw [if_neg c45] at H
                          have c45b0 : (t239.toList == a2.toList) = false := beq_eq_false_iff_ne.mpr c45
                          have c45b1 : (t239.toList != a2.toList) = true := bne_iff_ne.mpr c45
                          obtain rfl := Option.some.inj H
                          go_wp2_with (first | ((with_reducible refine gate_callee (f := 19) rfl ?_); refine goesL_ (some 96) rfl rfl Try.func19 (by kernel_rfl) rfl #[.string (t237 ++ a4)] rfl (by (try simp only [List.map_toArray, List.map_cons, List.map_nil]); first | done | rfl | (simp only [List.length_drop, List.length_take]; rfl)) ?_; (with_reducible refine (wire_TakeText.calls kj19 (t237 ++ a4) t239 t240 t241 _ A44.out).mono ?_); rintro e w51 ⟨rfl, hb⟩; refine ⟨_, rfl, ?_⟩; have n0_ := Aside0.mk (below_step (by repeat (first | (with_reducible first | exact HB.out | apply below_alloc | apply pw_below_drewN | apply below_drew1) | exact HB.out)) hb); clear HB; have HB := n0_; clear n0_; (try clear hb); (try clear hb2); (try clear hk); (try clear hi)))
                          go_ret
                          exact ⟨by first | rfl | (simp [errW_none, errW_some] <;> rfl) | (simp [*, errW_none, errW_some] <;> rfl), by repeat (first | (with_reducible first | exact HB.out | apply below_alloc | apply pw_below_drewN | apply below_drew1) | exact HB.out)⟩
                      · rw [if_neg c43] at H
                        exact absurd H (by simp)
                    · rw [if_neg c42] at H
                      have c42b0 : (t238 == 0) = false := beq_eq_false_iff_ne.mpr c42
                      have c42b1 : (t238 != 0) = true := bne_iff_ne.mpr c42
                      (first | rw [c42b0] | (simp only [i64_w, i32_w]; rw [c42b0]) | skip)
                      have H' := Aside0.mk H
                      clear H
                      go_wp2
                      go_meet
                      case rel => exact ⟨_, H', ⟨by have := HJ9.out; have := HJ19.out; first | omega | exact Nat.le_refl _⟩, ⟨by repeat (first | (with_reducible first | exact HB.out | apply below_alloc | apply pw_below_drewN | apply below_drew1) | exact HB.out)⟩⟩
                  case rest =>
                    clear HC40
                    try clear c1
                    try clear c2
                    try clear p2
                    try clear c3
                    try clear c4
                    try clear c8
                    try clear c8b0
                    try clear c8b1
                    try clear c8b2
                    try clear c10
                    try clear c12
                    try clear c13
                    try clear c14
                    try clear c14b0
                    try clear c14b1
                    try clear c15
                    try clear c15b0
                    try clear c15b1
                    try clear c16
                    try clear c17
                    try clear c18
                    try clear c18b0
                    try clear c18b1
                    try clear c18b2
                    try clear c19
                    try clear c21
                    try clear c23
                    try clear c23b0
                    try clear c23b1
                    try clear c24
                    try clear c24b0
                    try clear c24b1
                    try clear c27
                    try clear c27b0
                    try clear c27b1
                    try clear c28
                    try clear c28b0
                    try clear c29
                    try clear c29b0
                    try clear c38
                    try clear c42
                    try clear c42b0
                    try clear c42b1
                    try clear c43
                    try clear c43b0
                    try clear c43b1
                    try clear c43b2
                    try clear c45
                    try clear c45b0
                    try clear c45b1
                    try clear c46
                    try clear c46b0
                    try clear c46b1
                    try clear c47
                    try clear c47b0
                    try clear c47b1
                    try clear p2
                    obtain ⟨kq, HA, HJ39, HB⟩ := hcut
                    cases kq with
                    | zero => exact absurd HA.out (by simp [tabulariumlaw01_WireBack.j2])
                    | succ kj39 =>
                      have H := HA.out
                      clear HA
                      simp only [tabulariumlaw01_WireBack.j2] at H
                      replace H := Option.bind_eq_some_iff.mp H
                      obtain ⟨⟨t242, t243⟩, A520, H⟩ := H
                      replace H : (if t243 = 0 then ((wire_Split.f kj39 t242).bind fun bt244 => ((tabulariumlaw01_texts.f kj39 bt244.1 l3).bind fun t248 => (if t226 = true then (if t248 = true then (some (bt244.2 == 0)) else (some false)) else (some false)))) else (if t226 = true then (some (t242.toList == ([] : List UInt8))) else (some false))) = some r := H
                      have A52 := Aside0.mk A520
                      clear A520
                      by_cases c53 : t243 = 0
                      · rw [if_pos c53] at H
                        have c53b0 : (t243 == 0) = true := beq_iff_eq.mpr c53
                        have c53b1 : (t243 != 0) = false := bne_eq_false_iff_eq.mpr c53
                        clear c53
                        replace H := Option.bind_eq_some_iff.mp H
                        obtain ⟨⟨t244, t245⟩, A540, H⟩ := H
                        replace H : ((tabulariumlaw01_texts.f kj39 t244 l3).bind fun t248 => (if t226 = true then (if t248 = true then (some (t245 == 0)) else (some false)) else (some false))) = some r := H
                        have A54 := Aside0.mk A540
                        clear A540
                        replace H := Option.bind_eq_some_iff.mp H
                        obtain ⟨t248, A550, H⟩ := H
                        replace H : (if t226 = true then (if t248 = true then (some (t245 == 0)) else (some false)) else (some false)) = some r := H
                        have A55 := Aside0.mk A550
                        clear A550
                        by_cases c56 : t226 = true
                        · subst c56
                          have H1 : (if t248 = true then (some (t245 == 0)) else (some false)) = some r := by rw [if_pos rfl] at H; exact H
                          clear H
                          have H := H1
                          clear H1
                          by_cases c57 : t248 = true
                          · subst c57
                            have H1 : (some (t245 == 0)) = some r := by rw [if_pos rfl] at H; exact H
                            clear H
                            have H := H1
                            clear H1
                            obtain rfl := Option.some.inj H
                            go_wp2_with (first | ((with_reducible refine gate_callee (f := 26) rfl ?_); refine goesL_ (some 114) rfl rfl Try.func26 (by kernel_rfl) rfl #[.slice A3 l3.length c3] rfl (by (try simp only [List.map_toArray, List.map_cons, List.map_nil]); first | done | rfl | (simp only [List.length_drop, List.length_take]; rfl)) ?_; (with_reducible refine (wire_Join.calls kj39 _ _ l3 t242 t243 _ ?side1 ?side2 A52.out).mono ?_); (case side1 => repeat (first | exact (Kd.C_below HR3.out HB.out) | (with_reducible refine Kd.C_alloc ?_ _) | (with_reducible refine Kd.C_drewN ?_ _) | (with_reducible refine Kd.C_drew ?_))); (case side2 => exact HC3.out); rintro e w58 ⟨rfl, hb⟩; refine ⟨_, rfl, ?_⟩; have n0_ := Aside0.mk (below_step (by repeat (first | (with_reducible first | exact HB.out | apply below_alloc | apply pw_below_drewN | apply below_drew1) | exact HB.out)) hb); clear HB; have HB := n0_; clear n0_; (try clear hb); (try clear hb2); (try clear hk); (try clear hi)) | ((with_reducible refine gate_callee (f := 29) rfl ?_); refine goesL_ (some 126) rfl rfl Try.func29 (by kernel_rfl) rfl #[.string t242] rfl (by (try simp only [List.map_toArray, List.map_cons, List.map_nil]); first | done | rfl | (simp only [List.length_drop, List.length_take]; rfl)) ?_; (with_reducible refine (wire_Split.calls kj39 t242 t244 t245 _ A54.out).mono ?_); rintro e w59 ⟨v246, rfl, ho0, hb⟩; refine ⟨_, rfl, ?_⟩; have n0_ := Aside0.mk (Kd.R_lower ho0 (below_size (by repeat (first | (with_reducible first | exact HB.out | apply below_alloc | apply pw_below_drewN | apply below_drew1) | exact HB.out)))); have n1_ := Aside0.mk (below_step (by repeat (first | (with_reducible first | exact HB.out | apply below_alloc | apply pw_below_drewN | apply below_drew1) | exact HB.out)) hb); clear HB; have HO247 := n0_; have HB := n1_; clear n0_ n1_; (try clear hb); (try clear hb2); (try clear hk); (try clear hi); (try clear ho0); obtain ⟨Ao60, co60, eo60⟩ := Kd.R_slice HO247.out; subst eo60) | ((with_reducible refine gate_callee (f := 30) rfl ?_); refine goesL_ (some 131) rfl rfl Try.func30 (by kernel_rfl) rfl #[.slice Ao60 t244.length co60, .slice A3 l3.length c3] rfl (by (try simp only [List.map_toArray, List.map_cons, List.map_nil]); first | done | rfl | (simp only [List.length_drop, List.length_take]; rfl)) ?_; (with_reducible refine (tabulariumlaw01_texts.calls kj39 _ _ t244 _ _ l3 true _ ?side1 ?side2 ?side3 ?side4 A55.out).mono ?_); (case side1 => repeat (first | exact (Kd.R_reads' HO247.out).2.2 | (with_reducible refine Kd.C_alloc ?_ _) | (with_reducible refine Kd.C_drewN ?_ _) | (with_reducible refine Kd.C_drew ?_))); (case side2 => exact (Kd.R_reads' HO247.out).2.1); (case side3 => repeat (first | exact (Kd.C_below HR3.out HB.out) | (with_reducible refine Kd.C_alloc ?_ _) | (with_reducible refine Kd.C_drewN ?_ _) | (with_reducible refine Kd.C_drew ?_))); (case side4 => exact HC3.out); rintro e w' ⟨rfl, ⟨nd, rfl⟩⟩; refine ⟨_, rfl, ?_⟩))
                            go_ret
                            exact ⟨by first | rfl | (simp [errW_none, errW_some] <;> rfl) | (simp [*, errW_none, errW_some] <;> rfl), by repeat (first | (with_reducible first | exact HB.out | apply below_alloc | apply pw_below_drewN | apply below_drew1) | exact HB.out)⟩
                          · replace c57 := Bool.eq_false_iff.mpr c57
                            subst c57
                            have H1 : (some false) = some r := by rw [if_neg (show ¬ (false = true) by decide)] at H; exact H
                            clear H
                            have H := H1
                            clear H1
                            obtain rfl := Option.some.inj H
                            go_wp2_with (first | ((with_reducible refine gate_callee (f := 26) rfl ?_); refine goesL_ (some 114) rfl rfl Try.func26 (by kernel_rfl) rfl #[.slice A3 l3.length c3] rfl (by (try simp only [List.map_toArray, List.map_cons, List.map_nil]); first | done | rfl | (simp only [List.length_drop, List.length_take]; rfl)) ?_; (with_reducible refine (wire_Join.calls kj39 _ _ l3 t242 t243 _ ?side1 ?side2 A52.out).mono ?_); (case side1 => repeat (first | exact (Kd.C_below HR3.out HB.out) | (with_reducible refine Kd.C_alloc ?_ _) | (with_reducible refine Kd.C_drewN ?_ _) | (with_reducible refine Kd.C_drew ?_))); (case side2 => exact HC3.out); rintro e w61 ⟨rfl, hb⟩; refine ⟨_, rfl, ?_⟩; have n0_ := Aside0.mk (below_step (by repeat (first | (with_reducible first | exact HB.out | apply below_alloc | apply pw_below_drewN | apply below_drew1) | exact HB.out)) hb); clear HB; have HB := n0_; clear n0_; (try clear hb); (try clear hb2); (try clear hk); (try clear hi)) | ((with_reducible refine gate_callee (f := 29) rfl ?_); refine goesL_ (some 126) rfl rfl Try.func29 (by kernel_rfl) rfl #[.string t242] rfl (by (try simp only [List.map_toArray, List.map_cons, List.map_nil]); first | done | rfl | (simp only [List.length_drop, List.length_take]; rfl)) ?_; (with_reducible refine (wire_Split.calls kj39 t242 t244 t245 _ A54.out).mono ?_); rintro e w62 ⟨v246, rfl, ho0, hb⟩; refine ⟨_, rfl, ?_⟩; have n0_ := Aside0.mk (Kd.R_lower ho0 (below_size (by repeat (first | (with_reducible first | exact HB.out | apply below_alloc | apply pw_below_drewN | apply below_drew1) | exact HB.out)))); have n1_ := Aside0.mk (below_step (by repeat (first | (with_reducible first | exact HB.out | apply below_alloc | apply pw_below_drewN | apply below_drew1) | exact HB.out)) hb); clear HB; have HO247 := n0_; have HB := n1_; clear n0_ n1_; (try clear hb); (try clear hb2); (try clear hk); (try clear hi); (try clear ho0); obtain ⟨Ao63, co63, eo63⟩ := Kd.R_slice HO247.out; subst eo63) | ((with_reducible refine gate_callee (f := 30) rfl ?_); refine goesL_ (some 131) rfl rfl Try.func30 (by kernel_rfl) rfl #[.slice Ao63 t244.length co63, .slice A3 l3.length c3] rfl (by (try simp only [List.map_toArray, List.map_cons, List.map_nil]); first | done | rfl | (simp only [List.length_drop, List.length_take]; rfl)) ?_; (with_reducible refine (tabulariumlaw01_texts.calls kj39 _ _ t244 _ _ l3 false _ ?side1 ?side2 ?side3 ?side4 A55.out).mono ?_); (case side1 => repeat (first | exact (Kd.R_reads' HO247.out).2.2 | (with_reducible refine Kd.C_alloc ?_ _) | (with_reducible refine Kd.C_drewN ?_ _) | (with_reducible refine Kd.C_drew ?_))); (case side2 => exact (Kd.R_reads' HO247.out).2.1); (case side3 => repeat (first | exact (Kd.C_below HR3.out HB.out) | (with_reducible refine Kd.C_alloc ?_ _) | (with_reducible refine Kd.C_drewN ?_ _) | (with_reducible refine Kd.C_drew ?_))); (case side4 => exact HC3.out); rintro e w' ⟨rfl, ⟨nd, rfl⟩⟩; refine ⟨_, rfl, ?_⟩))
                            go_ret
                            exact ⟨by first | rfl | (simp [errW_none, errW_some] <;> rfl) | (simp [*, errW_none, errW_some] <;> rfl), by repeat (first | (with_reducible first | exact HB.out | apply below_alloc | apply pw_below_drewN | apply below_drew1) | exact HB.out)⟩
                        · replace c56 := Bool.eq_false_iff.mpr c56
                          subst c56
                          have H1 : (some false) = some r := by rw [if_neg (show ¬ (false = true) by decide)] at H; exact H
                          clear H
                          have H := H1
                          clear H1
                          obtain rfl := Option.some.inj H
                          go_wp2_with (first | ((with_reducible refine gate_callee (f := 26) rfl ?_); refine goesL_ (some 114) rfl rfl Try.func26 (by kernel_rfl) rfl #[.slice A3 l3.length c3] rfl (by (try simp only [List.map_toArray, List.map_cons, List.map_nil]); first | done | rfl | (simp only [List.length_drop, List.length_take]; rfl)) ?_; (with_reducible refine (wire_Join.calls kj39 _ _ l3 t242 t243 _ ?side1 ?side2 A52.out).mono ?_); (case side1 => repeat (first | exact (Kd.C_below HR3.out HB.out) | (with_reducible refine Kd.C_alloc ?_ _) | (with_reducible refine Kd.C_drewN ?_ _) | (with_reducible refine Kd.C_drew ?_))); (case side2 => exact HC3.out); rintro e w64 ⟨rfl, hb⟩; refine ⟨_, rfl, ?_⟩; have n0_ := Aside0.mk (below_step (by repeat (first | (with_reducible first | exact HB.out | apply below_alloc | apply pw_below_drewN | apply below_drew1) | exact HB.out)) hb); clear HB; have HB := n0_; clear n0_; (try clear hb); (try clear hb2); (try clear hk); (try clear hi)) | ((with_reducible refine gate_callee (f := 29) rfl ?_); refine goesL_ (some 126) rfl rfl Try.func29 (by kernel_rfl) rfl #[.string t242] rfl (by (try simp only [List.map_toArray, List.map_cons, List.map_nil]); first | done | rfl | (simp only [List.length_drop, List.length_take]; rfl)) ?_; (with_reducible refine (wire_Split.calls kj39 t242 t244 t245 _ A54.out).mono ?_); rintro e w65 ⟨v246, rfl, ho0, hb⟩; refine ⟨_, rfl, ?_⟩; have n0_ := Aside0.mk (Kd.R_lower ho0 (below_size (by repeat (first | (with_reducible first | exact HB.out | apply below_alloc | apply pw_below_drewN | apply below_drew1) | exact HB.out)))); have n1_ := Aside0.mk (below_step (by repeat (first | (with_reducible first | exact HB.out | apply below_alloc | apply pw_below_drewN | apply below_drew1) | exact HB.out)) hb); clear HB; have HO247 := n0_; have HB := n1_; clear n0_ n1_; (try clear hb); (try clear hb2); (try clear hk); (try clear hi); (try clear ho0); obtain ⟨Ao66, co66, eo66⟩ := Kd.R_slice HO247.out; subst eo66) | ((with_reducible refine gate_callee (f := 30) rfl ?_); refine goesL_ (some 131) rfl rfl Try.func30 (by kernel_rfl) rfl #[.slice Ao66 t244.length co66, .slice A3 l3.length c3] rfl (by (try simp only [List.map_toArray, List.map_cons, List.map_nil]); first | done | rfl | (simp only [List.length_drop, List.length_take]; rfl)) ?_; (with_reducible refine (tabulariumlaw01_texts.calls kj39 _ _ t244 _ _ l3 t248 _ ?side1 ?side2 ?side3 ?side4 A55.out).mono ?_); (case side1 => repeat (first | exact (Kd.R_reads' HO247.out).2.2 | (with_reducible refine Kd.C_alloc ?_ _) | (with_reducible refine Kd.C_drewN ?_ _) | (with_reducible refine Kd.C_drew ?_))); (case side2 => exact (Kd.R_reads' HO247.out).2.1); (case side3 => repeat (first | exact (Kd.C_below HR3.out HB.out) | (with_reducible refine Kd.C_alloc ?_ _) | (with_reducible refine Kd.C_drewN ?_ _) | (with_reducible refine Kd.C_drew ?_))); (case side4 => exact HC3.out); rintro e w' ⟨rfl, ⟨nd, rfl⟩⟩; refine ⟨_, rfl, ?_⟩))
                          go_ret
                          exact ⟨by first | rfl | (simp [errW_none, errW_some] <;> rfl) | (simp [*, errW_none, errW_some] <;> rfl), by repeat (first | (with_reducible first | exact HB.out | apply below_alloc | apply pw_below_drewN | apply below_drew1) | exact HB.out)⟩
                      · rw [if_neg c53] at H
                        have c53b0 : (t243 == 0) = false := beq_eq_false_iff_ne.mpr c53
                        have c53b1 : (t243 != 0) = true := bne_iff_ne.mpr c53
                        by_cases c67 : t226 = true
                        · subst c67
                          have H1 : (some (t242.toList == ([] : List UInt8))) = some r := by rw [if_pos rfl] at H; exact H
                          clear H
                          have H := H1
                          clear H1
                          obtain rfl := Option.some.inj H
                          go_wp2_with (first | ((with_reducible refine gate_callee (f := 26) rfl ?_); refine goesL_ (some 114) rfl rfl Try.func26 (by kernel_rfl) rfl #[.slice A3 l3.length c3] rfl (by (try simp only [List.map_toArray, List.map_cons, List.map_nil]); first | done | rfl | (simp only [List.length_drop, List.length_take]; rfl)) ?_; (with_reducible refine (wire_Join.calls kj39 _ _ l3 t242 t243 _ ?side1 ?side2 A52.out).mono ?_); (case side1 => repeat (first | exact (Kd.C_below HR3.out HB.out) | (with_reducible refine Kd.C_alloc ?_ _) | (with_reducible refine Kd.C_drewN ?_ _) | (with_reducible refine Kd.C_drew ?_))); (case side2 => exact HC3.out); rintro e w68 ⟨rfl, hb⟩; refine ⟨_, rfl, ?_⟩; have n0_ := Aside0.mk (below_step (by repeat (first | (with_reducible first | exact HB.out | apply below_alloc | apply pw_below_drewN | apply below_drew1) | exact HB.out)) hb); clear HB; have HB := n0_; clear n0_; (try clear hb); (try clear hb2); (try clear hk); (try clear hi)))
                          go_ret
                          exact ⟨by first | rfl | (simp [errW_none, errW_some] <;> rfl) | (simp [*, errW_none, errW_some] <;> rfl), by repeat (first | (with_reducible first | exact HB.out | apply below_alloc | apply pw_below_drewN | apply below_drew1) | exact HB.out)⟩
                        · replace c67 := Bool.eq_false_iff.mpr c67
                          subst c67
                          have H1 : (some false) = some r := by rw [if_neg (show ¬ (false = true) by decide)] at H; exact H
                          clear H
                          have H := H1
                          clear H1
                          obtain rfl := Option.some.inj H
                          go_wp2_with (first | ((with_reducible refine gate_callee (f := 26) rfl ?_); refine goesL_ (some 114) rfl rfl Try.func26 (by kernel_rfl) rfl #[.slice A3 l3.length c3] rfl (by (try simp only [List.map_toArray, List.map_cons, List.map_nil]); first | done | rfl | (simp only [List.length_drop, List.length_take]; rfl)) ?_; (with_reducible refine (wire_Join.calls kj39 _ _ l3 t242 t243 _ ?side1 ?side2 A52.out).mono ?_); (case side1 => repeat (first | exact (Kd.C_below HR3.out HB.out) | (with_reducible refine Kd.C_alloc ?_ _) | (with_reducible refine Kd.C_drewN ?_ _) | (with_reducible refine Kd.C_drew ?_))); (case side2 => exact HC3.out); rintro e w69 ⟨rfl, hb⟩; refine ⟨_, rfl, ?_⟩; have n0_ := Aside0.mk (below_step (by repeat (first | (with_reducible first | exact HB.out | apply below_alloc | apply pw_below_drewN | apply below_drew1) | exact HB.out)) hb); clear HB; have HB := n0_; clear n0_; (try clear hb); (try clear hb2); (try clear hk); (try clear hi)))
                          go_ret
                          exact ⟨by first | rfl | (simp [errW_none, errW_some] <;> rfl) | (simp [*, errW_none, errW_some] <;> rfl), by repeat (first | (with_reducible first | exact HB.out | apply below_alloc | apply pw_below_drewN | apply below_drew1) | exact HB.out)⟩
          · rw [if_neg c18] at H
            exact absurd H (by simp)
  · rw [if_neg c8] at H
    exact absurd H (by simp)

/-- THE ONE PURE STATEMENT of tabulariumlaw01_WireBack. -/
def tabulariumlaw01_WireBack.Pure : Prop := ∀ (a0 : Int) (a1 : Nat) (a2 : ByteArray) (l3 : List ByteArray) (a4 : ByteArray), ((Lit.int .i64 a0).wf = true) → ((Lit.float .f64 a1).wf = true) → (a2.size ≤ 140737488351232) → (l3.length ≤ maxLen) → (l3.length * 16 ≤ 140737488351232) → (∀ y2_ ∈ l3, (y2_.size ≤ 140737488351232)) → (a4.size ≤ 140737488351232) → ∃ k, tabulariumlaw01_WireBack.f k a0 a1 a2 l3 a4 = some true
theorem tabulariumlaw01_WireBack.walk (P : tabulariumlaw01_WireBack.Pure) (a0 : Int) (a1 : Nat) (a2 : ByteArray) (A3 : Option Addr) (c3 : Nat) (l3 : List ByteArray) (a4 : ByteArray) (w : World) (hr3 : Kd.C Kd.string w A3 l3.length l3) (hc3 : l3.length ≤ c3) (g0 : (Lit.int .i64 a0).wf = true) (g1 : (Lit.float .f64 a1).wf = true) (g2 : a2.size ≤ 140737488351232) (g3 : l3.length ≤ maxLen) (g4 : l3.length * 16 ≤ 140737488351232) (g5 : ∀ y2_ ∈ l3, (y2_.size ≤ 140737488351232)) (g6 : a4.size ≤ 140737488351232) :
    Calls Try.prog 10 #[.int .i64 a0, .float .f64 a1, .string a2, .slice A3 l3.length c3, .string a4] w fun e w' => e = .returned (.bool true) ∧ Below w.heap.size w w' := by
  obtain ⟨k, h⟩ := P a0 a1 a2 l3 a4 g0 g1 g2 g3 g4 g5 g6
  refine (tabulariumlaw01_WireBack.calls k a0 a1 a2 A3 c3 l3 a4 true w hr3 hc3 h).mono ?_
  rintro e w' ⟨rfl, hd⟩
  exact ⟨rfl, hd⟩

end Go.Proofs.Ytjjmbcnalcjnmaa.P
