/- The Go functions of this seat as plain Lean functions, and for each the proof that its call gives what the plain function gives. Printed by a program of this session. -/
import Derived.Test.YtoncmgkgflomlaaPx0
import Derived.Test.YtoncmgkgflomlaaPx1
import Derived.Test.YtoncmgkgflomlaaPx2
namespace Go.Proofs.Ytoncmgkgflomlaa.P
open Go.RowKit Go.Proofs.YtoncmgkgflomlaaW.PrintWords Go.Proofs.YtoncmgkgflomlaaW.PrintLast Go.Proofs.YtoncmgkgflomlaaW.PrintMore
attribute [local go_sem] max2_int min2_int max_two min_two max_three min_three max_four min_four   -- for this text's walks alone
set_option linter.unusedVariables false
set_option linter.unusedSimpArgs false

/-! ### math_Inf: function 25 -/
def math_Inf.f (a0 : Int) : Option (Nat) := if a0 ≥ 0 then (some ((9218868437227405312 : Int).toNat)) else (some ((18442240474082181120 : Int).toNat))
set_option maxHeartbeats 8000000 in
set_option maxRecDepth 100000 in
theorem math_Inf.calls (a0 : Int) (r : Nat) (w : World) (h : math_Inf.f a0 = some r) :
    Calls Try.prog 25 #[.int .i64 a0] w fun e w' => e = .returned (.float .f64 r) ∧ Drawn0 w w' := by
  have hx34 := x34
  have H : (if a0 ≥ 0 then (some ((9218868437227405312 : Int).toNat)) else (some ((18442240474082181120 : Int).toNat))) = some r := h
  clear h
  by_cases c2 : a0 ≥ 0
  · rw [if_pos c2] at H
    have c2b0 : decide (0 ≤ a0) = true := decide_eq_true c2
    clear c2
    obtain rfl := Option.some.inj H
    go_enter Try.func25, Try.ntmps25
    go_wp2
    go_ret
    exact ⟨by first | rfl | (simp; done) | (simp [*]; done) | (simp; exact (fun (l_ : List UInt8) => by cases l_ <;> rfl : ∀ l_ : List UInt8, l_.isEmpty = !(l_ != [])) _), by repeat (first | exact Drawn0.refl _ | apply Drawn0.step)⟩
  · rw [if_neg c2] at H
    have c2b0 : decide (0 ≤ a0) = false := decide_eq_false c2
    clear c2
    obtain rfl := Option.some.inj H
    go_enter Try.func25, Try.ntmps25
    go_wp2
    go_ret
    exact ⟨by first | rfl | (simp; done) | (simp [*]; done) | (simp; exact (fun (l_ : List UInt8) => by cases l_ <;> rfl : ∀ l_ : List UInt8, l_.isEmpty = !(l_ != [])) _), by repeat (first | exact Drawn0.refl _ | apply Drawn0.step)⟩

/-! ### math_Copysign: function 30 -/
def math_Copysign.f (a0 : Nat) (a1 : Nat) : Option (Nat) := some (((Go.bits .or .u64 (Go.bits .andNot .u64 ((a0 : Nat) : Int) 9223372036854775808) (Go.bits .and .u64 ((a1 : Nat) : Int) 9223372036854775808)) : Int).toNat)
set_option maxHeartbeats 8000000 in
set_option maxRecDepth 100000 in
theorem math_Copysign.calls (a0 : Nat) (a1 : Nat) (r : Nat) (w : World) (h : math_Copysign.f a0 a1 = some r) :
    Calls Try.prog 30 #[.float .f64 a0, .float .f64 a1] w fun e w' => e = .returned (.float .f64 r) ∧ Drawn0 w w' := by
  have hx14 := x14
  have hx34 := x34
  have H : (some (((Go.bits .or .u64 (Go.bits .andNot .u64 ((a0 : Nat) : Int) 9223372036854775808) (Go.bits .and .u64 ((a1 : Nat) : Int) 9223372036854775808)) : Int).toNat)) = some r := h
  clear h
  obtain rfl := Option.some.inj H
  go_enter Try.func30, Try.ntmps30
  go_wp2
  go_ret
  exact ⟨by first | rfl | (simp; done) | (simp [*]; done) | (simp; exact (fun (l_ : List UInt8) => by cases l_ <;> rfl : ∀ l_ : List UInt8, l_.isEmpty = !(l_ != [])) _), by repeat (first | exact Drawn0.refl _ | apply Drawn0.step)⟩

/-! ### tabulariumlaw03_examples: function 12 -/
def tabulariumlaw03_examples.f (k : Nat)  : Option (Bool) := (math_Copysign.f 0 13830554455654793216).bind fun t108 => ((real_Order.f t108 0).bind fun t109 => (if t109 = (-1) then ((math_NaN.f).bind fun t110 => ((math_Inf.f 1).bind fun t111 => ((real_Order.f t110 t111).bind fun t112 => (if t112 = 1 then ((real_Share.f k 4607182418800017408 0).bind fun t113 => (if (FloatKind.f64.format.order t113 4607182418800017408 == some .eq) = true then ((real_Share.f k t111 t111).bind fun t114 => (if (FloatKind.f64.format.order t114 4607182418800017408 == some .eq) = true then ((real_Share.f k 4613937818241073152 4616189618054758400).bind fun t115 => (if (FloatKind.f64.format.order t115 4604930618986332160 == some .eq) = true then ((real_Reached.f 999 1000 4607173411600762667).bind fun t116 => (if t116 = true then ((real_Reached.f 0 0 4611686018427387904).bind fun t117 => (some t117)) else (some false))) else (some false))) else (some false))) else (some false))) else (some false))))) else (some false)))
theorem tabulariumlaw03_examples.mono : ∀ k, LeO (tabulariumlaw03_examples.f k ) (tabulariumlaw03_examples.f (k + 1) ) := by
  intro  k
  unfold tabulariumlaw03_examples.f
  repeat' first
      | (with_reducible exact real_Share.mono _ _ _)
      | (with_reducible exact LeO.refl _)
      | (with_reducible exact LeO.none _)
      | (with_reducible refine LeO.ite ?_ ?_)
      | (with_reducible refine LeO.bind ?_ (fun _ => ?_))
      | exact real_Share.mono _ _ _
      | exact LeO.none _
      | refine LeO.ite ?_ ?_
      | refine LeO.bind ?_ (fun _ => ?_)
set_option maxHeartbeats 8000000 in
set_option maxRecDepth 100000 in
theorem tabulariumlaw03_examples.calls (k : Nat)  (r : Bool) (w : World) (h : tabulariumlaw03_examples.f k  = some r) :
    Calls Try.prog 12 #[] w fun e w' => e = .returned (.bool r) ∧ Below w.heap.size w w' := by
  have HB := Aside0.mk (Below.refl w.heap.size w)
  have H : ((math_Copysign.f 0 13830554455654793216).bind fun t108 => ((real_Order.f t108 0).bind fun t109 => (if t109 = (-1) then ((math_NaN.f).bind fun t110 => ((math_Inf.f 1).bind fun t111 => ((real_Order.f t110 t111).bind fun t112 => (if t112 = 1 then ((real_Share.f k 4607182418800017408 0).bind fun t113 => (if (FloatKind.f64.format.order t113 4607182418800017408 == some .eq) = true then ((real_Share.f k t111 t111).bind fun t114 => (if (FloatKind.f64.format.order t114 4607182418800017408 == some .eq) = true then ((real_Share.f k 4613937818241073152 4616189618054758400).bind fun t115 => (if (FloatKind.f64.format.order t115 4604930618986332160 == some .eq) = true then ((real_Reached.f 999 1000 4607173411600762667).bind fun t116 => (if t116 = true then ((real_Reached.f 0 0 4611686018427387904).bind fun t117 => (some t117)) else (some false))) else (some false))) else (some false))) else (some false))) else (some false))))) else (some false)))) = some r := h
  clear h
  replace H := Option.bind_eq_some_iff.mp H
  obtain ⟨t108, A10, H⟩ := H
  replace H : ((real_Order.f t108 0).bind fun t109 => (if t109 = (-1) then ((math_NaN.f).bind fun t110 => ((math_Inf.f 1).bind fun t111 => ((real_Order.f t110 t111).bind fun t112 => (if t112 = 1 then ((real_Share.f k 4607182418800017408 0).bind fun t113 => (if (FloatKind.f64.format.order t113 4607182418800017408 == some .eq) = true then ((real_Share.f k t111 t111).bind fun t114 => (if (FloatKind.f64.format.order t114 4607182418800017408 == some .eq) = true then ((real_Share.f k 4613937818241073152 4616189618054758400).bind fun t115 => (if (FloatKind.f64.format.order t115 4604930618986332160 == some .eq) = true then ((real_Reached.f 999 1000 4607173411600762667).bind fun t116 => (if t116 = true then ((real_Reached.f 0 0 4611686018427387904).bind fun t117 => (some t117)) else (some false))) else (some false))) else (some false))) else (some false))) else (some false))))) else (some false))) = some r := H
  have A1 := Aside0.mk A10
  clear A10
  replace H := Option.bind_eq_some_iff.mp H
  obtain ⟨t109, A20, H⟩ := H
  replace H : (if t109 = (-1) then ((math_NaN.f).bind fun t110 => ((math_Inf.f 1).bind fun t111 => ((real_Order.f t110 t111).bind fun t112 => (if t112 = 1 then ((real_Share.f k 4607182418800017408 0).bind fun t113 => (if (FloatKind.f64.format.order t113 4607182418800017408 == some .eq) = true then ((real_Share.f k t111 t111).bind fun t114 => (if (FloatKind.f64.format.order t114 4607182418800017408 == some .eq) = true then ((real_Share.f k 4613937818241073152 4616189618054758400).bind fun t115 => (if (FloatKind.f64.format.order t115 4604930618986332160 == some .eq) = true then ((real_Reached.f 999 1000 4607173411600762667).bind fun t116 => (if t116 = true then ((real_Reached.f 0 0 4611686018427387904).bind fun t117 => (some t117)) else (some false))) else (some false))) else (some false))) else (some false))) else (some false))))) else (some false)) = some r := H
  have A2 := Aside0.mk A20
  clear A20
  by_cases c3 : t109 = (-1)
  · rw [if_pos c3] at H
    have c3b0 : (t109 == (-1)) = true := beq_iff_eq.mpr c3
    have c3b1 : (t109 != (-1)) = false := bne_eq_false_iff_eq.mpr c3
    clear c3
    replace H := Option.bind_eq_some_iff.mp H
    obtain ⟨t110, A40, H⟩ := H
    replace H : ((math_Inf.f 1).bind fun t111 => ((real_Order.f t110 t111).bind fun t112 => (if t112 = 1 then ((real_Share.f k 4607182418800017408 0).bind fun t113 => (if (FloatKind.f64.format.order t113 4607182418800017408 == some .eq) = true then ((real_Share.f k t111 t111).bind fun t114 => (if (FloatKind.f64.format.order t114 4607182418800017408 == some .eq) = true then ((real_Share.f k 4613937818241073152 4616189618054758400).bind fun t115 => (if (FloatKind.f64.format.order t115 4604930618986332160 == some .eq) = true then ((real_Reached.f 999 1000 4607173411600762667).bind fun t116 => (if t116 = true then ((real_Reached.f 0 0 4611686018427387904).bind fun t117 => (some t117)) else (some false))) else (some false))) else (some false))) else (some false))) else (some false)))) = some r := H
    have A4 := Aside0.mk A40
    clear A40
    replace H := Option.bind_eq_some_iff.mp H
    obtain ⟨t111, A50, H⟩ := H
    replace H : ((real_Order.f t110 t111).bind fun t112 => (if t112 = 1 then ((real_Share.f k 4607182418800017408 0).bind fun t113 => (if (FloatKind.f64.format.order t113 4607182418800017408 == some .eq) = true then ((real_Share.f k t111 t111).bind fun t114 => (if (FloatKind.f64.format.order t114 4607182418800017408 == some .eq) = true then ((real_Share.f k 4613937818241073152 4616189618054758400).bind fun t115 => (if (FloatKind.f64.format.order t115 4604930618986332160 == some .eq) = true then ((real_Reached.f 999 1000 4607173411600762667).bind fun t116 => (if t116 = true then ((real_Reached.f 0 0 4611686018427387904).bind fun t117 => (some t117)) else (some false))) else (some false))) else (some false))) else (some false))) else (some false))) = some r := H
    have A5 := Aside0.mk A50
    clear A50
    replace H := Option.bind_eq_some_iff.mp H
    obtain ⟨t112, A60, H⟩ := H
    replace H : (if t112 = 1 then ((real_Share.f k 4607182418800017408 0).bind fun t113 => (if (FloatKind.f64.format.order t113 4607182418800017408 == some .eq) = true then ((real_Share.f k t111 t111).bind fun t114 => (if (FloatKind.f64.format.order t114 4607182418800017408 == some .eq) = true then ((real_Share.f k 4613937818241073152 4616189618054758400).bind fun t115 => (if (FloatKind.f64.format.order t115 4604930618986332160 == some .eq) = true then ((real_Reached.f 999 1000 4607173411600762667).bind fun t116 => (if t116 = true then ((real_Reached.f 0 0 4611686018427387904).bind fun t117 => (some t117)) else (some false))) else (some false))) else (some false))) else (some false))) else (some false)) = some r := H
    have A6 := Aside0.mk A60
    clear A60
    by_cases c7 : t112 = 1
    · rw [if_pos c7] at H
      have c7b0 : (t112 == 1) = true := beq_iff_eq.mpr c7
      have c7b1 : (t112 != 1) = false := bne_eq_false_iff_eq.mpr c7
      clear c7
      replace H := Option.bind_eq_some_iff.mp H
      obtain ⟨t113, A80, H⟩ := H
      replace H : (if (FloatKind.f64.format.order t113 4607182418800017408 == some .eq) = true then ((real_Share.f k t111 t111).bind fun t114 => (if (FloatKind.f64.format.order t114 4607182418800017408 == some .eq) = true then ((real_Share.f k 4613937818241073152 4616189618054758400).bind fun t115 => (if (FloatKind.f64.format.order t115 4604930618986332160 == some .eq) = true then ((real_Reached.f 999 1000 4607173411600762667).bind fun t116 => (if t116 = true then ((real_Reached.f 0 0 4611686018427387904).bind fun t117 => (some t117)) else (some false))) else (some false))) else (some false))) else (some false)) = some r := H
      have A8 := Aside0.mk A80
      clear A80
      by_cases c9 : (FloatKind.f64.format.order t113 4607182418800017408 == some .eq) = true
      · rw [if_pos c9] at H
        have c9b0 : (FloatKind.f64.format.order t113 4607182418800017408 == some .eq) = true := c9
        clear c9
        replace H := Option.bind_eq_some_iff.mp H
        obtain ⟨t114, A100, H⟩ := H
        replace H : (if (FloatKind.f64.format.order t114 4607182418800017408 == some .eq) = true then ((real_Share.f k 4613937818241073152 4616189618054758400).bind fun t115 => (if (FloatKind.f64.format.order t115 4604930618986332160 == some .eq) = true then ((real_Reached.f 999 1000 4607173411600762667).bind fun t116 => (if t116 = true then ((real_Reached.f 0 0 4611686018427387904).bind fun t117 => (some t117)) else (some false))) else (some false))) else (some false)) = some r := H
        have A10 := Aside0.mk A100
        clear A100
        by_cases c11 : (FloatKind.f64.format.order t114 4607182418800017408 == some .eq) = true
        · rw [if_pos c11] at H
          have c11b0 : (FloatKind.f64.format.order t114 4607182418800017408 == some .eq) = true := c11
          clear c11
          replace H := Option.bind_eq_some_iff.mp H
          obtain ⟨t115, A120, H⟩ := H
          replace H : (if (FloatKind.f64.format.order t115 4604930618986332160 == some .eq) = true then ((real_Reached.f 999 1000 4607173411600762667).bind fun t116 => (if t116 = true then ((real_Reached.f 0 0 4611686018427387904).bind fun t117 => (some t117)) else (some false))) else (some false)) = some r := H
          have A12 := Aside0.mk A120
          clear A120
          by_cases c13 : (FloatKind.f64.format.order t115 4604930618986332160 == some .eq) = true
          · rw [if_pos c13] at H
            have c13b0 : (FloatKind.f64.format.order t115 4604930618986332160 == some .eq) = true := c13
            clear c13
            replace H := Option.bind_eq_some_iff.mp H
            obtain ⟨t116, A140, H⟩ := H
            replace H : (if t116 = true then ((real_Reached.f 0 0 4611686018427387904).bind fun t117 => (some t117)) else (some false)) = some r := H
            have A14 := Aside0.mk A140
            clear A140
            by_cases c15 : t116 = true
            · subst c15
              have H1 : ((real_Reached.f 0 0 4611686018427387904).bind fun t117 => (some t117)) = some r := by rw [if_pos rfl] at H; exact H
              clear H
              have H := H1
              clear H1
              replace H := Option.bind_eq_some_iff.mp H
              obtain ⟨t117, A160, H⟩ := H
              replace H : (some t117) = some r := H
              have A16 := Aside0.mk A160
              clear A160
              obtain rfl := Option.some.inj H
              go_enter Try.func12, Try.ntmps12
              go_wp2_with (first | ((with_reducible refine gate_callee (f := 30) rfl ?_); refine goesL_ (some 2) rfl rfl Try.func30 (by kernel_rfl) rfl #[.float .f64 0, .float .f64 13830554455654793216] rfl (by (try simp only [List.map_toArray, List.map_cons, List.map_nil]); first | done | rfl | (simp only [List.length_drop, List.length_take]; rfl)) ?_; (with_reducible refine (math_Copysign.calls 0 13830554455654793216 t108 _ A1.out).mono ?_); rintro e w' ⟨rfl, ⟨nd, rfl⟩⟩; refine ⟨_, rfl, ?_⟩) | ((with_reducible refine gate_callee (f := 13) rfl ?_); refine goesL_ (some 4) rfl rfl Try.func13 (by kernel_rfl) rfl #[.float .f64 t108, .float .f64 0] rfl (by (try simp only [List.map_toArray, List.map_cons, List.map_nil]); first | done | rfl | (simp only [List.length_drop, List.length_take]; rfl)) ?_; (with_reducible refine (real_Order.calls t108 0 t109 _ A2.out).mono ?_); rintro e w' ⟨rfl, ⟨nd, rfl⟩⟩; refine ⟨_, rfl, ?_⟩) | (go_at_call 24; (with_reducible refine (math_NaN.calls  t110 _ A4.out).mono ?_); rintro e w' ⟨rfl, ⟨nd, rfl⟩⟩) | (go_at_call 25; (with_reducible refine (math_Inf.calls 1 t111 _ A5.out).mono ?_); rintro e w' ⟨rfl, ⟨nd, rfl⟩⟩) | (go_at_call 13; (with_reducible refine (real_Order.calls t110 t111 t112 _ A6.out).mono ?_); rintro e w' ⟨rfl, ⟨nd, rfl⟩⟩) | (go_at_call 15; (with_reducible refine (real_Share.calls k 4607182418800017408 0 t113 _ A8.out).mono ?_); rintro e w' ⟨rfl, ⟨nd, rfl⟩⟩) | (go_at_call 15; (with_reducible refine (real_Share.calls k t111 t111 t114 _ A10.out).mono ?_); rintro e w' ⟨rfl, ⟨nd, rfl⟩⟩) | (go_at_call 15; (with_reducible refine (real_Share.calls k 4613937818241073152 4616189618054758400 t115 _ A12.out).mono ?_); rintro e w' ⟨rfl, ⟨nd, rfl⟩⟩) | (go_at_call 16; (with_reducible refine (real_Reached.calls 999 1000 4607173411600762667 true _ A14.out).mono ?_); rintro e w17 ⟨rfl, hb⟩; have n0_ := Aside0.mk (below_step (by repeat (first | (with_reducible first | exact HB.out | apply below_alloc | apply pw_below_drewN | apply below_drew1) | exact HB.out)) hb); clear HB; have HB := n0_; clear n0_; (try clear hb); (try clear hb2); (try clear hk); (try clear hi)) | (go_at_call 16; (with_reducible refine (real_Reached.calls 0 0 4611686018427387904 t117 _ A16.out).mono ?_); rintro e w18 ⟨rfl, hb⟩; have n0_ := Aside0.mk (below_step (by repeat (first | (with_reducible first | exact HB.out | apply below_alloc | apply pw_below_drewN | apply below_drew1) | exact HB.out)) hb); clear HB; have HB := n0_; clear n0_; (try clear hb); (try clear hb2); (try clear hk); (try clear hi)))
              go_ret
              exact ⟨by first | rfl | (simp [errW_none, errW_some] <;> rfl) | (simp [*, errW_none, errW_some] <;> rfl), by repeat (first | (with_reducible first | exact HB.out | apply below_alloc | apply pw_below_drewN | apply below_drew1) | exact HB.out)⟩
            · replace c15 := Bool.eq_false_iff.mpr c15
              subst c15
              have H1 : (some false) = some r := by rw [if_neg (show ¬ (false = true) by decide)] at H; exact H
              clear H
              have H := H1
              clear H1
              obtain rfl := Option.some.inj H
              go_enter Try.func12, Try.ntmps12
              go_wp2_with (first | ((with_reducible refine gate_callee (f := 30) rfl ?_); refine goesL_ (some 2) rfl rfl Try.func30 (by kernel_rfl) rfl #[.float .f64 0, .float .f64 13830554455654793216] rfl (by (try simp only [List.map_toArray, List.map_cons, List.map_nil]); first | done | rfl | (simp only [List.length_drop, List.length_take]; rfl)) ?_; (with_reducible refine (math_Copysign.calls 0 13830554455654793216 t108 _ A1.out).mono ?_); rintro e w' ⟨rfl, ⟨nd, rfl⟩⟩; refine ⟨_, rfl, ?_⟩) | ((with_reducible refine gate_callee (f := 13) rfl ?_); refine goesL_ (some 4) rfl rfl Try.func13 (by kernel_rfl) rfl #[.float .f64 t108, .float .f64 0] rfl (by (try simp only [List.map_toArray, List.map_cons, List.map_nil]); first | done | rfl | (simp only [List.length_drop, List.length_take]; rfl)) ?_; (with_reducible refine (real_Order.calls t108 0 t109 _ A2.out).mono ?_); rintro e w' ⟨rfl, ⟨nd, rfl⟩⟩; refine ⟨_, rfl, ?_⟩) | (go_at_call 24; (with_reducible refine (math_NaN.calls  t110 _ A4.out).mono ?_); rintro e w' ⟨rfl, ⟨nd, rfl⟩⟩) | (go_at_call 25; (with_reducible refine (math_Inf.calls 1 t111 _ A5.out).mono ?_); rintro e w' ⟨rfl, ⟨nd, rfl⟩⟩) | (go_at_call 13; (with_reducible refine (real_Order.calls t110 t111 t112 _ A6.out).mono ?_); rintro e w' ⟨rfl, ⟨nd, rfl⟩⟩) | (go_at_call 15; (with_reducible refine (real_Share.calls k 4607182418800017408 0 t113 _ A8.out).mono ?_); rintro e w' ⟨rfl, ⟨nd, rfl⟩⟩) | (go_at_call 15; (with_reducible refine (real_Share.calls k t111 t111 t114 _ A10.out).mono ?_); rintro e w' ⟨rfl, ⟨nd, rfl⟩⟩) | (go_at_call 15; (with_reducible refine (real_Share.calls k 4613937818241073152 4616189618054758400 t115 _ A12.out).mono ?_); rintro e w' ⟨rfl, ⟨nd, rfl⟩⟩) | (go_at_call 16; (with_reducible refine (real_Reached.calls 999 1000 4607173411600762667 false _ A14.out).mono ?_); rintro e w19 ⟨rfl, hb⟩; have n0_ := Aside0.mk (below_step (by repeat (first | (with_reducible first | exact HB.out | apply below_alloc | apply pw_below_drewN | apply below_drew1) | exact HB.out)) hb); clear HB; have HB := n0_; clear n0_; (try clear hb); (try clear hb2); (try clear hk); (try clear hi)))
              go_ret
              exact ⟨by first | rfl | (simp [errW_none, errW_some] <;> rfl) | (simp [*, errW_none, errW_some] <;> rfl), by repeat (first | (with_reducible first | exact HB.out | apply below_alloc | apply pw_below_drewN | apply below_drew1) | exact HB.out)⟩
          · rw [if_neg c13] at H
            have c13b0 : (FloatKind.f64.format.order t115 4604930618986332160 == some .eq) = false := Bool.eq_false_iff.mpr c13
            clear c13
            obtain rfl := Option.some.inj H
            go_enter Try.func12, Try.ntmps12
            go_wp2_with (first | ((with_reducible refine gate_callee (f := 30) rfl ?_); refine goesL_ (some 2) rfl rfl Try.func30 (by kernel_rfl) rfl #[.float .f64 0, .float .f64 13830554455654793216] rfl (by (try simp only [List.map_toArray, List.map_cons, List.map_nil]); first | done | rfl | (simp only [List.length_drop, List.length_take]; rfl)) ?_; (with_reducible refine (math_Copysign.calls 0 13830554455654793216 t108 _ A1.out).mono ?_); rintro e w' ⟨rfl, ⟨nd, rfl⟩⟩; refine ⟨_, rfl, ?_⟩) | ((with_reducible refine gate_callee (f := 13) rfl ?_); refine goesL_ (some 4) rfl rfl Try.func13 (by kernel_rfl) rfl #[.float .f64 t108, .float .f64 0] rfl (by (try simp only [List.map_toArray, List.map_cons, List.map_nil]); first | done | rfl | (simp only [List.length_drop, List.length_take]; rfl)) ?_; (with_reducible refine (real_Order.calls t108 0 t109 _ A2.out).mono ?_); rintro e w' ⟨rfl, ⟨nd, rfl⟩⟩; refine ⟨_, rfl, ?_⟩) | (go_at_call 24; (with_reducible refine (math_NaN.calls  t110 _ A4.out).mono ?_); rintro e w' ⟨rfl, ⟨nd, rfl⟩⟩) | (go_at_call 25; (with_reducible refine (math_Inf.calls 1 t111 _ A5.out).mono ?_); rintro e w' ⟨rfl, ⟨nd, rfl⟩⟩) | (go_at_call 13; (with_reducible refine (real_Order.calls t110 t111 t112 _ A6.out).mono ?_); rintro e w' ⟨rfl, ⟨nd, rfl⟩⟩) | (go_at_call 15; (with_reducible refine (real_Share.calls k 4607182418800017408 0 t113 _ A8.out).mono ?_); rintro e w' ⟨rfl, ⟨nd, rfl⟩⟩) | (go_at_call 15; (with_reducible refine (real_Share.calls k t111 t111 t114 _ A10.out).mono ?_); rintro e w' ⟨rfl, ⟨nd, rfl⟩⟩) | (go_at_call 15; (with_reducible refine (real_Share.calls k 4613937818241073152 4616189618054758400 t115 _ A12.out).mono ?_); rintro e w' ⟨rfl, ⟨nd, rfl⟩⟩))
            go_ret
            exact ⟨by first | rfl | (simp [errW_none, errW_some] <;> rfl) | (simp [*, errW_none, errW_some] <;> rfl), by repeat (first | (with_reducible first | exact HB.out | apply below_alloc | apply pw_below_drewN | apply below_drew1) | exact HB.out)⟩
        · rw [if_neg c11] at H
          have c11b0 : (FloatKind.f64.format.order t114 4607182418800017408 == some .eq) = false := Bool.eq_false_iff.mpr c11
          clear c11
          obtain rfl := Option.some.inj H
          go_enter Try.func12, Try.ntmps12
          go_wp2_with (first | ((with_reducible refine gate_callee (f := 30) rfl ?_); refine goesL_ (some 2) rfl rfl Try.func30 (by kernel_rfl) rfl #[.float .f64 0, .float .f64 13830554455654793216] rfl (by (try simp only [List.map_toArray, List.map_cons, List.map_nil]); first | done | rfl | (simp only [List.length_drop, List.length_take]; rfl)) ?_; (with_reducible refine (math_Copysign.calls 0 13830554455654793216 t108 _ A1.out).mono ?_); rintro e w' ⟨rfl, ⟨nd, rfl⟩⟩; refine ⟨_, rfl, ?_⟩) | ((with_reducible refine gate_callee (f := 13) rfl ?_); refine goesL_ (some 4) rfl rfl Try.func13 (by kernel_rfl) rfl #[.float .f64 t108, .float .f64 0] rfl (by (try simp only [List.map_toArray, List.map_cons, List.map_nil]); first | done | rfl | (simp only [List.length_drop, List.length_take]; rfl)) ?_; (with_reducible refine (real_Order.calls t108 0 t109 _ A2.out).mono ?_); rintro e w' ⟨rfl, ⟨nd, rfl⟩⟩; refine ⟨_, rfl, ?_⟩) | (go_at_call 24; (with_reducible refine (math_NaN.calls  t110 _ A4.out).mono ?_); rintro e w' ⟨rfl, ⟨nd, rfl⟩⟩) | (go_at_call 25; (with_reducible refine (math_Inf.calls 1 t111 _ A5.out).mono ?_); rintro e w' ⟨rfl, ⟨nd, rfl⟩⟩) | (go_at_call 13; (with_reducible refine (real_Order.calls t110 t111 t112 _ A6.out).mono ?_); rintro e w' ⟨rfl, ⟨nd, rfl⟩⟩) | (go_at_call 15; (with_reducible refine (real_Share.calls k 4607182418800017408 0 t113 _ A8.out).mono ?_); rintro e w' ⟨rfl, ⟨nd, rfl⟩⟩) | (go_at_call 15; (with_reducible refine (real_Share.calls k t111 t111 t114 _ A10.out).mono ?_); rintro e w' ⟨rfl, ⟨nd, rfl⟩⟩))
          go_ret
          exact ⟨by first | rfl | (simp [errW_none, errW_some] <;> rfl) | (simp [*, errW_none, errW_some] <;> rfl), by repeat (first | (with_reducible first | exact HB.out | apply below_alloc | apply pw_below_drewN | apply below_drew1) | exact HB.out)⟩
      · rw [if_neg c9] at H
        have c9b0 : (FloatKind.f64.format.order t113 4607182418800017408 == some .eq) = false := Bool.eq_false_iff.mpr c9
        clear c9
        obtain rfl := Option.some.inj H
        go_enter Try.func12, Try.ntmps12
        go_wp2_with (first | ((with_reducible refine gate_callee (f := 30) rfl ?_); refine goesL_ (some 2) rfl rfl Try.func30 (by kernel_rfl) rfl #[.float .f64 0, .float .f64 13830554455654793216] rfl (by (try simp only [List.map_toArray, List.map_cons, List.map_nil]); first | done | rfl | (simp only [List.length_drop, List.length_take]; rfl)) ?_; (with_reducible refine (math_Copysign.calls 0 13830554455654793216 t108 _ A1.out).mono ?_); rintro e w' ⟨rfl, ⟨nd, rfl⟩⟩; refine ⟨_, rfl, ?_⟩) | ((with_reducible refine gate_callee (f := 13) rfl ?_); refine goesL_ (some 4) rfl rfl Try.func13 (by kernel_rfl) rfl #[.float .f64 t108, .float .f64 0] rfl (by (try simp only [List.map_toArray, List.map_cons, List.map_nil]); first | done | rfl | (simp only [List.length_drop, List.length_take]; rfl)) ?_; (with_reducible refine (real_Order.calls t108 0 t109 _ A2.out).mono ?_); rintro e w' ⟨rfl, ⟨nd, rfl⟩⟩; refine ⟨_, rfl, ?_⟩) | (go_at_call 24; (with_reducible refine (math_NaN.calls  t110 _ A4.out).mono ?_); rintro e w' ⟨rfl, ⟨nd, rfl⟩⟩) | (go_at_call 25; (with_reducible refine (math_Inf.calls 1 t111 _ A5.out).mono ?_); rintro e w' ⟨rfl, ⟨nd, rfl⟩⟩) | (go_at_call 13; (with_reducible refine (real_Order.calls t110 t111 t112 _ A6.out).mono ?_); rintro e w' ⟨rfl, ⟨nd, rfl⟩⟩) | (go_at_call 15; (with_reducible refine (real_Share.calls k 4607182418800017408 0 t113 _ A8.out).mono ?_); rintro e w' ⟨rfl, ⟨nd, rfl⟩⟩))
        go_ret
        exact ⟨by first | rfl | (simp [errW_none, errW_some] <;> rfl) | (simp [*, errW_none, errW_some] <;> rfl), by repeat (first | (with_reducible first | exact HB.out | apply below_alloc | apply pw_below_drewN | apply below_drew1) | exact HB.out)⟩
    · rw [if_neg c7] at H
      have c7b0 : (t112 == 1) = false := beq_eq_false_iff_ne.mpr c7
      have c7b1 : (t112 != 1) = true := bne_iff_ne.mpr c7
      obtain rfl := Option.some.inj H
      go_enter Try.func12, Try.ntmps12
      go_wp2_with (first | ((with_reducible refine gate_callee (f := 30) rfl ?_); refine goesL_ (some 2) rfl rfl Try.func30 (by kernel_rfl) rfl #[.float .f64 0, .float .f64 13830554455654793216] rfl (by (try simp only [List.map_toArray, List.map_cons, List.map_nil]); first | done | rfl | (simp only [List.length_drop, List.length_take]; rfl)) ?_; (with_reducible refine (math_Copysign.calls 0 13830554455654793216 t108 _ A1.out).mono ?_); rintro e w' ⟨rfl, ⟨nd, rfl⟩⟩; refine ⟨_, rfl, ?_⟩) | ((with_reducible refine gate_callee (f := 13) rfl ?_); refine goesL_ (some 4) rfl rfl Try.func13 (by kernel_rfl) rfl #[.float .f64 t108, .float .f64 0] rfl (by (try simp only [List.map_toArray, List.map_cons, List.map_nil]); first | done | rfl | (simp only [List.length_drop, List.length_take]; rfl)) ?_; (with_reducible refine (real_Order.calls t108 0 t109 _ A2.out).mono ?_); rintro e w' ⟨rfl, ⟨nd, rfl⟩⟩; refine ⟨_, rfl, ?_⟩) | (go_at_call 24; (with_reducible refine (math_NaN.calls  t110 _ A4.out).mono ?_); rintro e w' ⟨rfl, ⟨nd, rfl⟩⟩) | (go_at_call 25; (with_reducible refine (math_Inf.calls 1 t111 _ A5.out).mono ?_); rintro e w' ⟨rfl, ⟨nd, rfl⟩⟩) | (go_at_call 13; (with_reducible refine (real_Order.calls t110 t111 t112 _ A6.out).mono ?_); rintro e w' ⟨rfl, ⟨nd, rfl⟩⟩))
      go_ret
      exact ⟨by first | rfl | (simp [errW_none, errW_some] <;> rfl) | (simp [*, errW_none, errW_some] <;> rfl), by repeat (first | (with_reducible first | exact HB.out | apply below_alloc | apply pw_below_drewN | apply below_drew1) | exact HB.out)⟩
  · rw [if_neg c3] at H
    have c3b0 : (t109 == (-1)) = false := beq_eq_false_iff_ne.mpr c3
    have c3b1 : (t109 != (-1)) = true := bne_iff_ne.mpr c3
    obtain rfl := Option.some.inj H
    go_enter Try.func12, Try.ntmps12
    go_wp2_with (first | ((with_reducible refine gate_callee (f := 30) rfl ?_); refine goesL_ (some 2) rfl rfl Try.func30 (by kernel_rfl) rfl #[.float .f64 0, .float .f64 13830554455654793216] rfl (by (try simp only [List.map_toArray, List.map_cons, List.map_nil]); first | done | rfl | (simp only [List.length_drop, List.length_take]; rfl)) ?_; (with_reducible refine (math_Copysign.calls 0 13830554455654793216 t108 _ A1.out).mono ?_); rintro e w' ⟨rfl, ⟨nd, rfl⟩⟩; refine ⟨_, rfl, ?_⟩) | ((with_reducible refine gate_callee (f := 13) rfl ?_); refine goesL_ (some 4) rfl rfl Try.func13 (by kernel_rfl) rfl #[.float .f64 t108, .float .f64 0] rfl (by (try simp only [List.map_toArray, List.map_cons, List.map_nil]); first | done | rfl | (simp only [List.length_drop, List.length_take]; rfl)) ?_; (with_reducible refine (real_Order.calls t108 0 t109 _ A2.out).mono ?_); rintro e w' ⟨rfl, ⟨nd, rfl⟩⟩; refine ⟨_, rfl, ?_⟩))
    go_ret
    exact ⟨by first | rfl | (simp [errW_none, errW_some] <;> rfl) | (simp [*, errW_none, errW_some] <;> rfl), by repeat (first | (with_reducible first | exact HB.out | apply below_alloc | apply pw_below_drewN | apply below_drew1) | exact HB.out)⟩

-- NOT PRINTED: function 35 (slices_Clone_float64_float64)

-- NOT PRINTED: function 42 (slices_insertionSortCmpFunc_float64)

-- NOT PRINTED: function 45 (slices_swapRangeCmpFunc_float64)

-- NOT PRINTED: function 44 (slices_rotateCmpFunc_float64)

-- NOT PRINTED: function 43 (slices_symMergeCmpFunc_float64)

-- NOT PRINTED: function 41 (slices_stableCmpFunc_float64)

-- NOT PRINTED: function 36 (slices_SortStableFunc_float64_float64)

end Go.Proofs.Ytoncmgkgflomlaa.P
