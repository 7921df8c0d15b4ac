/- The Go functions of this seat as plain Lean functions, and for each the proof that its call gives what the plain function gives. Printed by a program of this session. -/
import Derived.Test.YtoncmgkgflomlaaPx0
import Derived.Test.YtoncmgkgflomlaaPx1
import Derived.Test.YtoncmgkgflomlaaPx3
import Derived.Test.YtoncmgkgflomlaaPx4
import Derived.Test.YtoncmgkgflomlaaPx6
import Derived.Test.YtoncmgkgflomlaaPx8
import Derived.Test.YtoncmgkgflomlaaPx9
namespace Go.Proofs.Ytoncmgkgflomlaa.P
open Go.RowKit Go.Proofs.YtoncmgkgflomlaaW.PrintWords Go.Proofs.YtoncmgkgflomlaaW.PrintLast Go.Proofs.YtoncmgkgflomlaaW.PrintMore
attribute [local go_sem] max2_int min2_int max_two min_two max_three min_three max_four min_four   -- for this text's walks alone
set_option linter.unusedVariables false
set_option linter.unusedSimpArgs false

/-! ### tabulariumlaw03_RealOrders: function 10 -/
def tabulariumlaw03_RealOrders.l0 : Nat → Nat → Nat → List Nat → Bool → List Nat → List Nat → Bool → Int → Option (Bool)
  | 0, _, _, _, _, _, _, _, _ => none
  | k + 1, x0, x1, x2, x7, x8, x9, x10, x11 => if x11 < (x9.length : Int) then (if 0 ≤ x11 then (tabulariumlaw03_RealOrders.l0 k x0 x1 x2 x7 x8 (x9.set (x11 : Int).toNat 4619567317775286272) x10 (wrap64 (x11 + 1))) else (none)) else ((tabulariumlaw03_reals.f k x8 x2).bind fun t200 => (if x7 = true then (if x10 = true then (if t200 = true then ((real_Order.f x0 x1).bind fun t201 => ((tabulariumref03_Order.f k x0 x1).bind fun t202 => (some (t201 == t202)))) else (some false)) else (some false)) else (some false)))
def tabulariumlaw03_RealOrders.f (k : Nat) (a0 : Nat) (a1 : Nat) (l2 : List Nat) : Option (Bool) := (tabulariumlaw03_examples.f k).bind fun t187 => (if 0 ≤ (mn (l2.length : Int) 100) then (if (mn (l2.length : Int) 100) ≤ (l2.length : Int) then (if ([] : List Nat).length + (l2.take ((mn (l2.length : Int) 100) : Int).toNat).length < 17592186044416 then ((some (([] : List Nat) ++ (l2.take ((mn (l2.length : Int) 100) : Int).toNat) : List Nat)).bind fun y189 => ((real_Sort.f y189).bind fun t192 => ((tabulariumref03_Sort.f k (l2.take ((mn (l2.length : Int) 100) : Int).toNat)).bind fun t195 => ((tabulariumlaw03_reals.f k t192 t195).bind fun t198 => (tabulariumlaw03_RealOrders.l0 k a0 a1 (l2.take ((mn (l2.length : Int) 100) : Int).toNat) t187 y189 t192 t198 0))))) else (none)) else (none)) else (none))
theorem tabulariumlaw03_RealOrders.mono_l : ∀ k, (∀ y0 y1 y2 y3 y4 y5 y6 y7, LeO (tabulariumlaw03_RealOrders.l0 k y0 y1 y2 y3 y4 y5 y6 y7) (tabulariumlaw03_RealOrders.l0 (k + 1) y0 y1 y2 y3 y4 y5 y6 y7))
  | 0 => fun _ _ _ _ _ _ _ _ r h => by simp [tabulariumlaw03_RealOrders.l0] at h
  | k + 1 => by
    have ih0 := tabulariumlaw03_RealOrders.mono_l k
    · intro y0 y1 y2 y3 y4 y5 y6 y7
      unfold tabulariumlaw03_RealOrders.l0
      repeat' first
      | (with_reducible exact ih0 _ _ _ _ _ _ _ _)
      | (with_reducible exact tabulariumlaw03_examples.mono _)
      | (with_reducible exact tabulariumlaw03_reals.mono _ _ _)
      | (with_reducible exact tabulariumref03_Order.mono _ _ _)
      | (with_reducible exact tabulariumref03_Sort.mono _ _)
      | (with_reducible exact LeO.refl _)
      | (with_reducible exact LeO.none _)
      | (with_reducible refine LeO.ite ?_ ?_)
      | (with_reducible refine LeO.bind ?_ (fun _ => ?_))
      | exact ih0 _ _ _ _ _ _ _ _
      | exact tabulariumlaw03_examples.mono _
      | exact tabulariumlaw03_reals.mono _ _ _
      | exact tabulariumref03_Order.mono _ _ _
      | exact tabulariumref03_Sort.mono _ _
      | exact LeO.none _
      | refine LeO.ite ?_ ?_
      | refine LeO.bind ?_ (fun _ => ?_)
theorem tabulariumlaw03_RealOrders.mono : ∀ a0 a1 a2 k, LeO (tabulariumlaw03_RealOrders.f k a0 a1 a2) (tabulariumlaw03_RealOrders.f (k + 1) a0 a1 a2) := by
  intro a0 a1 a2 k
  have ih0 := tabulariumlaw03_RealOrders.mono_l k
  unfold tabulariumlaw03_RealOrders.f
  repeat' first
      | (with_reducible exact ih0 _ _ _ _ _ _ _ _)
      | (with_reducible exact tabulariumlaw03_examples.mono _)
      | (with_reducible exact tabulariumlaw03_reals.mono _ _ _)
      | (with_reducible exact tabulariumref03_Order.mono _ _ _)
      | (with_reducible exact tabulariumref03_Sort.mono _ _)
      | (with_reducible exact LeO.refl _)
      | (with_reducible exact LeO.none _)
      | (with_reducible refine LeO.ite ?_ ?_)
      | (with_reducible refine LeO.bind ?_ (fun _ => ?_))
      | exact ih0 _ _ _ _ _ _ _ _
      | exact tabulariumlaw03_examples.mono _
      | exact tabulariumlaw03_reals.mono _ _ _
      | exact tabulariumref03_Order.mono _ _ _
      | exact tabulariumref03_Sort.mono _ _
      | exact LeO.none _
      | refine LeO.ite ?_ ?_
      | refine LeO.bind ?_ (fun _ => ?_)
set_option maxHeartbeats 8000000 in
set_option maxRecDepth 100000 in
theorem tabulariumlaw03_RealOrders.calls (k : Nat) (a0 : Nat) (a1 : Nat) (A2 : Option Addr) (c2 : Nat) (l2 : List Nat) (r : Bool) (w : World) (hr2 : Kd.C Kd.f64 w A2 l2.length l2) (hc2 : l2.length ≤ c2) (h : tabulariumlaw03_RealOrders.f k a0 a1 l2 = some r) :
    Calls Try.prog 10 #[.float .f64 a0, .float .f64 a1, .slice A2 l2.length c2] w fun e w' => e = .returned (.bool r) ∧ Below w.heap.size w w' := by
  have HR2 := Aside0.mk hr2
  have HC2 := Aside0.mk hc2
  clear hr2 hc2
  have HB := Aside0.mk (Below.refl w.heap.size w)
  have H : ((tabulariumlaw03_examples.f k).bind fun t187 => (if 0 ≤ (mn (l2.length : Int) 100) then (if (mn (l2.length : Int) 100) ≤ (l2.length : Int) then (if ([] : List Nat).length + (l2.take ((mn (l2.length : Int) 100) : Int).toNat).length < 17592186044416 then ((some (([] : List Nat) ++ (l2.take ((mn (l2.length : Int) 100) : Int).toNat) : List Nat)).bind fun y189 => ((real_Sort.f y189).bind fun t192 => ((tabulariumref03_Sort.f k (l2.take ((mn (l2.length : Int) 100) : Int).toNat)).bind fun t195 => ((tabulariumlaw03_reals.f k t192 t195).bind fun t198 => (tabulariumlaw03_RealOrders.l0 k a0 a1 (l2.take ((mn (l2.length : Int) 100) : Int).toNat) t187 y189 t192 t198 0))))) else (none)) else (none)) else (none))) = some r := h
  clear h
  replace H := Option.bind_eq_some_iff.mp H
  obtain ⟨t187, A40, H⟩ := H
  replace H : (if 0 ≤ (mn (l2.length : Int) 100) then (if (mn (l2.length : Int) 100) ≤ (l2.length : Int) then (if ([] : List Nat).length + (l2.take ((mn (l2.length : Int) 100) : Int).toNat).length < 17592186044416 then ((some (([] : List Nat) ++ (l2.take ((mn (l2.length : Int) 100) : Int).toNat) : List Nat)).bind fun y189 => ((real_Sort.f y189).bind fun t192 => ((tabulariumref03_Sort.f k (l2.take ((mn (l2.length : Int) 100) : Int).toNat)).bind fun t195 => ((tabulariumlaw03_reals.f k t192 t195).bind fun t198 => (tabulariumlaw03_RealOrders.l0 k a0 a1 (l2.take ((mn (l2.length : Int) 100) : Int).toNat) t187 y189 t192 t198 0))))) else (none)) else (none)) else (none)) = some r := H
  have A4 := Aside0.mk A40
  clear A40
  obtain ⟨ji5, hji5⟩ : ∃ j_ : Int, (mn (l2.length : Int) 100) = j_ := ⟨_, rfl⟩
  replace H : (if 0 ≤ (ji5) then (if (ji5) ≤ (l2.length : Int) then (if ([] : List Nat).length + (l2.take ((ji5) : Int).toNat).length < 17592186044416 then ((some (([] : List Nat) ++ (l2.take ((ji5) : Int).toNat) : List Nat)).bind fun y189 => ((real_Sort.f y189).bind fun t192 => ((tabulariumref03_Sort.f k (l2.take ((ji5) : Int).toNat)).bind fun t195 => ((tabulariumlaw03_reals.f k t192 t195).bind fun t198 => (tabulariumlaw03_RealOrders.l0 k a0 a1 (l2.take ((ji5) : Int).toNat) t187 y189 t192 t198 0))))) else (none)) else (none)) else (none)) = some r := by first | (rw [hji5] at H; exact H) | (simp only [hji5] at H ⊢; exact H)
  (try rw [hji5] at A4)
  (try (have hji5h : ji5 ≤ 100 := by (rw [← hji5]; unfold mn; (repeat' split) <;> omega)))
  (try (have hji5g : ji5 ≤ 64 := by omega))
  (try (have hji5l : 0 ≤ ji5 := by (rw [← hji5]; unfold mn; (repeat' split) <;> omega)))
  (try (have hji5m : 0 ≤ ji5 := by omega))
  have hji5_ : (if 100 < (l2.length : Int) then 100 else (l2.length : Int)) = ji5 := hji5
  by_cases c6 : 0 ≤ (ji5)
  · rw [if_pos c6] at H
    have c6b0 := eq_true c6
    have c6b1 : decide (0 ≤ (ji5)) = true := decide_eq_true c6
    clear c6
    by_cases c7 : (ji5) ≤ (l2.length : Int)
    · rw [if_pos c7] at H
      have c7b0 := eq_true c7
      have c7b1 : decide ((ji5) ≤ (l2.length : Int)) = true := decide_eq_true c7
      clear c7
      by_cases c8 : ([] : List Nat).length + (l2.take ((ji5) : Int).toNat).length < 17592186044416
      · rw [if_pos c8] at H
        have LMc8 := Aside0.mk c8
        clear c8
        obtain ⟨y189, hy189⟩ : ∃ y_ : List Nat, y_ = (([] : List Nat) ++ (l2.take ((ji5) : Int).toNat)) := ⟨_, rfl⟩
        replace H : ((real_Sort.f y189).bind fun t192 => ((tabulariumref03_Sort.f k (l2.take ((ji5) : Int).toNat)).bind fun t195 => ((tabulariumlaw03_reals.f k t192 t195).bind fun t198 => (tabulariumlaw03_RealOrders.l0 k a0 a1 (l2.take ((ji5) : Int).toNat) t187 y189 t192 t198 0)))) = some r := by first | (rw [hy189]; with_reducible exact H) | (have H2_ := (Option.bind_some _ _).symm.trans H; rw [hy189]; with_reducible exact H2_) | (have H2_ := (Option.bind_some _ _).symm.trans H; with_reducible exact H2_) | with_reducible exact H | (rw [hy189]; exact H) | exact H
        have Ny189 := Aside0.mk hy189
        clear hy189
        replace H := Option.bind_eq_some_iff.mp H
        obtain ⟨t192, A90, H⟩ := H
        replace H : ((tabulariumref03_Sort.f k (l2.take ((ji5) : Int).toNat)).bind fun t195 => ((tabulariumlaw03_reals.f k t192 t195).bind fun t198 => (tabulariumlaw03_RealOrders.l0 k a0 a1 (l2.take ((ji5) : Int).toNat) t187 y189 t192 t198 0))) = some r := H
        have A9 := Aside0.mk A90
        clear A90
        replace H := Option.bind_eq_some_iff.mp H
        obtain ⟨t195, A100, H⟩ := H
        replace H : ((tabulariumlaw03_reals.f k t192 t195).bind fun t198 => (tabulariumlaw03_RealOrders.l0 k a0 a1 (l2.take ((ji5) : Int).toNat) t187 y189 t192 t198 0)) = some r := H
        have A10 := Aside0.mk A100
        clear A100
        replace H := Option.bind_eq_some_iff.mp H
        obtain ⟨t198, A110, H⟩ := H
        replace H : (tabulariumlaw03_RealOrders.l0 k a0 a1 (l2.take ((ji5) : Int).toNat) t187 y189 t192 t198 0) = some r := H
        have A11 := Aside0.mk A110
        clear A110
        have H' := Aside0.mk H
        clear H
        go_enter Try.func10, Try.ntmps10
        go_wp2_with (first | ((with_reducible refine gate_callee (f := 12) rfl ?_); refine goesL_ (some 13) rfl rfl Try.func12 (by kernel_rfl) rfl #[] rfl (by (try simp only [List.map_toArray, List.map_cons, List.map_nil]); first | done | rfl | (simp only [List.length_drop, List.length_take]; rfl)) ?_; (with_reducible refine (tabulariumlaw03_examples.calls k  t187 _ A4.out).mono ?_); rintro e w12 ⟨rfl, hb⟩; refine ⟨_, rfl, ?_⟩; have n0_ := Aside0.mk (below_step (by repeat (first | (with_reducible first | exact HB.out | apply below_alloc | apply pw_below_drewN | apply below_drew1) | exact HB.out)) hb); clear HB; have HB := n0_; clear n0_; (try clear hb); (try clear hb2); (try clear hk); (try clear hi); obtain ⟨i013, hi013, _, hsz13, _⟩ := info_parts info22; obtain ⟨hcut13, hA13, hC13⟩ := print_take_of (P := Try.prog) (Value.float .f64) (0 : Nat) 33 22 .i64 Try.underlying33 hi013 hsz13 A2 c2 l2 (ji5) (of_decide_eq_true (by first | (with_reducible assumption) | assumption)) (of_decide_eq_true (by first | (with_reducible assumption) | assumption)) HC2.out; have HR188 := Aside0.mk (Kd.C_of_reads (h1 := fun _ => rfl) (hA13 _ (Kd.reads_of_C HR2.out))); have HC188 := Aside0.mk hC13; clear hA13 hC13 hi013 hsz13) | ((with_reducible refine gate_builtin (b := .append) (xs := #[.const (.slice none 0 0), .tmp 19]) rfl ?_); at_builtin; refine Kd.R_append_rows Kd.f64 (w0 := w) w.heap.size rfl (.const (.slice none 0 0)) (.tmp 19) 33 22 (.float .f64 0) 8 rfl Try.underlying33 info22 rfl (by decide) (by omega) (.slice none 0 0) ([] : List Nat) (l2.take ((ji5) : Int).toNat) _ _ _ (fun _ => True) (fun _ => False) rfl rfl ?aO ?aR (fun _ _ h => h) (fun _ h => h.elim) ?aF ?aB ?aS ?aL ?_; (case aR => first | (generalize hq_ : (l2.take ((ji5) : Int).toNat) = L_; rw [← show L_.length = (ji5).toNat from (by rw [← hq_]; exact (by rw [List.length_take]; have h_ : ((ji5) : Int) ≤ (l2.length : Int) := (by first | exact of_decide_eq_true (by first | (with_reducible assumption) | assumption) | (have hq_ := hji5; unfold mn at hq_; split at hq_ <;> omega)); omega))]; subst hq_; repeat (first | exact (Kd.C_below HR188.out HB.out) | (with_reducible refine Kd.C_alloc ?_ _) | (with_reducible refine Kd.C_drewN ?_ _) | (with_reducible refine Kd.C_drew ?_)); done) | (rw [← show (l2.take ((ji5) : Int).toNat).length = (ji5).toNat from (by rw [List.length_take]; have h_ : ((ji5) : Int) ≤ (l2.length : Int) := (by first | exact of_decide_eq_true (by first | (with_reducible assumption) | assumption) | (have hq_ := hji5; unfold mn at hq_; split at hq_ <;> omega)); omega)]; repeat (first | exact (Kd.C_below HR188.out HB.out) | (with_reducible refine Kd.C_alloc ?_ _) | (with_reducible refine Kd.C_drewN ?_ _) | (with_reducible refine Kd.C_drew ?_)); done) | (repeat (first | exact (Kd.C_below HR188.out HB.out) | (with_reducible refine Kd.C_alloc ?_ _) | (with_reducible refine Kd.C_drewN ?_ _) | (with_reducible refine Kd.C_drew ?_)))); (case aB => exact (by repeat (first | (with_reducible first | exact HB.out | apply below_alloc | apply pw_below_drewN | apply below_drew1) | exact HB.out))); (case aF => exact (fun _ _ => trivial)); (case aO => exact ((Kd.R_nil _ _ _ _ (fun _ => True)))); (case aS => exact (below_size (by repeat (first | (with_reducible first | exact HB.out | apply below_alloc | apply pw_below_drewN | apply below_drew1) | exact HB.out)))); (case aL => have := LMc8.out; have hlx_ := (show (l2.take ((ji5) : Int).toNat).length = (ji5).toNat from (by rw [List.length_take]; have h_ : ((ji5) : Int) ≤ (l2.length : Int) := (by first | exact of_decide_eq_true (by first | (with_reducible assumption) | assumption) | (have hq_ := hji5; unfold mn at hq_; split at hq_ <;> omega)); omega)); omega); intro v190 w14 ho hb hg hat; rw [← Ny189.out] at ho; have n0_ := Aside0.mk (hb); have n1_ := Aside0.mk (ho); clear HB; have HB := n0_; have HO191 := n1_; clear n0_ n1_; clear ho hb hg hat; obtain ⟨Ao15, co15, eo15⟩ := Kd.R_slice HO191.out; subst eo15) | ((with_reducible refine gate_callee (f := 26) rfl ?_); refine goesL_ (some 22) rfl rfl Try.func26 (by kernel_rfl) rfl #[.slice Ao15 y189.length co15] rfl (by (try simp only [List.map_toArray, List.map_cons, List.map_nil]); first | done | rfl | (simp only [List.length_drop, List.length_take]; rfl)) ?_; (with_reducible refine (real_Sort.calls _ _ y189 t192 _ ?side1 ?side2 A9.out).mono ?_); (case side1 => repeat (first | exact (Kd.R_reads' HO191.out).2.2 | (with_reducible refine Kd.C_alloc ?_ _) | (with_reducible refine Kd.C_drewN ?_ _) | (with_reducible refine Kd.C_drew ?_))); (case side2 => exact (Kd.R_reads' HO191.out).2.1); rintro e w16 ⟨v193, rfl, ho0, hb⟩; refine ⟨_, rfl, ?_⟩; have n0_ := Aside0.mk (Kd.R_elder' (by (with_reducible repeat (first | apply Kd.R_alloc | apply Kd.R_drewN | apply Kd.R_drew)); exact HO191.out) (Kd.R_base ho0) hb); have n1_ := Aside0.mk (Kd.R_lower (Kd.R_new' ho0 (Kd.R_lt (by (with_reducible repeat (first | apply Kd.R_alloc | apply Kd.R_drewN | apply Kd.R_drew)); exact HO191.out))) (below_size (by repeat (first | (with_reducible first | exact HB.out | apply below_alloc | apply pw_below_drewN | apply below_drew1) | exact HB.out)))); have n2_ := Aside0.mk (below_step (by repeat (first | (with_reducible first | exact HB.out | apply below_alloc | apply pw_below_drewN | apply below_drew1) | exact HB.out)) hb); clear HO191; clear HB; have HO191 := n0_; have HO194 := n1_; have HB := n2_; clear n0_ n1_ n2_; (try clear hb); (try clear hb2); (try clear hk); (try clear hi); (try clear ho0)) | (go_at_call 28; refine calls_of_args (args' := #[.slice A2 (l2.take ((ji5) : Int).toNat).length c2]) (by first | rfl | (rw [show (l2.take ((ji5) : Int).toNat).length = (ji5).toNat from (by rw [List.length_take]; have h_ : ((ji5) : Int) ≤ (l2.length : Int) := (by first | exact of_decide_eq_true (by first | (with_reducible assumption) | assumption) | (have hq_ := hji5; unfold mn at hq_; split at hq_ <;> omega)); omega)] <;> rfl) | (simp only [hji5]; rfl) | (simp only [List.length_drop, List.length_take]; rfl)) ?_; (with_reducible refine (tabulariumref03_Sort.calls k _ _ (l2.take ((ji5) : Int).toNat) t195 _ ?side1 ?side2 A10.out).mono ?_); (case side1 => repeat (first | exact (Kd.C_below HR188.out HB.out) | (with_reducible refine Kd.C_alloc ?_ _) | (with_reducible refine Kd.C_drewN ?_ _) | (with_reducible refine Kd.C_drew ?_))); (case side2 => exact HC188.out); rintro e w17 ⟨v196, rfl, ho0, hb⟩; have n0_ := Aside0.mk (Kd.R_elder' (by (with_reducible repeat (first | apply Kd.R_alloc | apply Kd.R_drewN | apply Kd.R_drew)); exact HO191.out) (Kd.R_base ho0) hb); have n1_ := Aside0.mk (Kd.R_elder' (by (with_reducible repeat (first | apply Kd.R_alloc | apply Kd.R_drewN | apply Kd.R_drew)); exact HO194.out) (Kd.R_base ho0) hb); have n2_ := Aside0.mk (Kd.R_lower (Kd.R_new' (Kd.R_new' ho0 (Kd.R_lt (by (with_reducible repeat (first | apply Kd.R_alloc | apply Kd.R_drewN | apply Kd.R_drew)); exact HO191.out))) (Kd.R_lt (by (with_reducible repeat (first | apply Kd.R_alloc | apply Kd.R_drewN | apply Kd.R_drew)); exact HO194.out))) (below_size (by repeat (first | (with_reducible first | exact HB.out | apply below_alloc | apply pw_below_drewN | apply below_drew1) | exact HB.out)))); have n3_ := Aside0.mk (below_step (by repeat (first | (with_reducible first | exact HB.out | apply below_alloc | apply pw_below_drewN | apply below_drew1) | exact HB.out)) hb); clear HO191; clear HO194; clear HB; have HO191 := n0_; have HO194 := n1_; have HO197 := n2_; have HB := n3_; clear n0_ n1_ n2_ n3_; (try clear hb); (try clear hb2); (try clear hk); (try clear hi); (try clear ho0); obtain ⟨Ao18, co18, eo18⟩ := Kd.R_slice HO194.out; subst eo18; obtain ⟨Ao19, co19, eo19⟩ := Kd.R_slice HO197.out; subst eo19) | ((with_reducible refine gate_callee (f := 27) rfl ?_); refine goesL_ (some 26) rfl rfl Try.func27 (by kernel_rfl) rfl #[.slice Ao18 t192.length co18, .slice Ao19 t195.length co19] rfl (by (try simp only [List.map_toArray, List.map_cons, List.map_nil]); first | done | rfl | (simp only [List.length_drop, List.length_take]; rfl)) ?_; (with_reducible refine (tabulariumlaw03_reals.calls k _ _ t192 _ _ t195 t198 _ ?side1 ?side2 ?side3 ?side4 A11.out).mono ?_); (case side1 => repeat (first | exact (Kd.R_reads' HO194.out).2.2 | (with_reducible refine Kd.C_alloc ?_ _) | (with_reducible refine Kd.C_drewN ?_ _) | (with_reducible refine Kd.C_drew ?_))); (case side2 => exact (Kd.R_reads' HO194.out).2.1); (case side3 => repeat (first | exact (Kd.R_reads' HO197.out).2.2 | (with_reducible refine Kd.C_alloc ?_ _) | (with_reducible refine Kd.C_drewN ?_ _) | (with_reducible refine Kd.C_drew ?_))); (case side4 => exact (Kd.R_reads' HO197.out).2.1); rintro e w' ⟨rfl, ⟨nd, rfl⟩⟩; refine ⟨_, rfl, ?_⟩))
        go_loopg [11] k (fun kq v11 w' => ∃ (x9_1 : List Nat) (x11_1 : Int), v11 = .int .i64 x11_1 ∧ Aside0 (tabulariumlaw03_RealOrders.l0 kq a0 a1 (l2.take ((ji5) : Int).toNat) t187 y189 x9_1 t198 x11_1 = some r) ∧ Aside0 (kq ≤ k) ∧ Aside0 (Kd.R Kd.f64 22 w' w.heap.size (fun k_ => some k_ ≠ ((.slice Ao18 t192.length co18) : Value).ownBlock) (.slice Ao15 y189.length co15) y189) ∧ Aside0 (Kd.R Kd.f64 22 w' w.heap.size (fun k_ => some k_ ≠ ((.slice Ao15 y189.length co15) : Value).ownBlock) (.slice Ao18 t192.length co18) x9_1) ∧ Aside0 (Below w.heap.size w w'))
        case atStart => exact ⟨(t192), (0), (by first | rfl | (simp; done) | (simp [*]; done) | (simp; exact (fun (l_ : List UInt8) => by cases l_ <;> rfl : ∀ l_ : List UInt8, l_.isEmpty = !(l_ != [])) _)), H', ⟨Nat.le_refl _⟩, ⟨by (with_reducible repeat (first | apply Kd.R_alloc | apply Kd.R_drewN | apply Kd.R_drew)); exact Kd.R_mono HO191.out (fun _ hk => hk.1.2)⟩, ⟨by (with_reducible repeat (first | apply Kd.R_alloc | apply Kd.R_drewN | apply Kd.R_drew)); exact Kd.R_mono HO194.out (fun _ hk => hk.1.2)⟩, ⟨by repeat (first | (with_reducible first | exact HB.out | apply below_alloc | apply pw_below_drewN | apply below_drew1) | exact HB.out)⟩⟩
        case round =>
          clear H'
          try clear c1
          try clear c2
          try clear p2
          try clear c6
          try clear c6b0
          try clear c6b1
          try clear c7
          try clear c7b0
          try clear c7b1
          try clear c8
          try clear c10
          try clear c12
          obtain ⟨x9_1, x11_1, rfl, HA, HK1, HO_8, HO_9, HB⟩ := hrel
          have hl9_1 := (Kd.R_reads' HO_9.out).1
          rw [hl9_1] at HO_9
          (try simp only [hl9_1])
          (try simp only [hl9_1] at HO_8)
          cases gk with
          | zero => exact absurd HA.out (by simp [tabulariumlaw03_RealOrders.l0])
          | succ k1 =>
            have H := HA.out
            clear HA
            simp only [tabulariumlaw03_RealOrders.l0] at H
            by_cases c20 : x11_1 < (x9_1.length : Int)
            · rw [if_pos c20] at H
              have c20b0 : decide (x11_1 < (x9_1.length : Int)) = true := decide_eq_true c20
              clear c20
              by_cases c21 : 0 ≤ x11_1
              · rw [if_pos c21] at H
                have c21b0 : decide (0 ≤ x11_1) = true := decide_eq_true c21
                clear c21
                obtain ⟨y199, hy199⟩ : ∃ y_ : List Nat, y_ = (x9_1.set (x11_1 : Int).toNat 4619567317775286272) := ⟨_, rfl⟩
                replace H : (tabulariumlaw03_RealOrders.l0 k1 a0 a1 (l2.take ((ji5) : Int).toNat) t187 y189 y199 t198 (wrap64 (x11_1 + 1))) = some r := by first | (rw [hy199]; with_reducible exact H) | (have H2_ := (Option.bind_some _ _).symm.trans H; rw [hy199]; with_reducible exact H2_) | (have H2_ := (Option.bind_some _ _).symm.trans H; with_reducible exact H2_) | with_reducible exact H | (rw [hy199]; exact H) | exact H
                have Ny199 := Aside0.mk hy199
                clear hy199
                have H' := Aside0.mk H
                clear H
                have p22 : 0 ≤ (x11_1 : Int) := of_decide_eq_true (by first | (with_reducible assumption) | assumption)
                have q22 : (x11_1 : Int) < ((x9_1.length : Int) : Int) := of_decide_eq_true (by first | (with_reducible assumption) | assumption)
                obtain ⟨go22, co22, eo22, gb22, gl22, cl22, HG22⟩ := Kd.R_form HO_9.out (by omega)
                (first | cases eo22 | (injection eo22 with ea_ en_ ec_; (first | subst ea_ | (injection ea_ with ea_; subst ea_)); subst ec_; clear en_))
                have GB22 := Aside0.mk gb22
                have GG22 := Aside0.mk HG22
                clear gb22 gl22 HG22
                obtain ⟨hx22_0, hf22_0⟩ := Kd.R_celln (0 : Nat) HO_9.out (x11_1 : Int) p22 q22
                replace p22 := eq_true p22
                replace q22 := eq_true q22
                have HP23 := Kd.R_putg HO_9.out (x11_1 : Int) 4619567317775286272
                go_wp2_with (first | ((with_reducible refine gate_store (t := 22) (p := 35) rfl ?_); refine store_event (t := 22) (p := 35) (v := ?vo_w24) (w1 := (wr.setCell ⟨go22, (x11_1 : Int).toNat, none⟩ (.float .f64 4619567317775286272))) ?hg ?ho ?hn ?hr ?_; (case ho => rfl); (case hg => rfl); (case hn => rfl); (case hr => first | (go_simp; done) | (go_simp; rfl)); intro w24 hw; have hg : wr.grownBy w24 (some go22) := (by rw [hw]; exact HP23.2); have hp_ : Kd.R Kd.f64 22 w24 w.heap.size (fun k_ => some k_ ≠ (.slice Ao15 y189.length co15 : Value).ownBlock) (.slice (some ⟨go22, 0, none⟩) x9_1.length co18) y199 := (by rw [hw, Ny199.out]; exact HP23.1); clear HP23; have n0_ := Aside0.mk (Kd.R_after (v := (.slice (some ⟨go22, 0, none⟩) x9_1.length co18)) (v1 := (.slice (some ⟨go22, 0, none⟩) x9_1.length co18)) (ok := (fun _ => True)) (by (with_reducible repeat (first | apply Kd.R_alloc | apply Kd.R_drewN | apply Kd.R_drew)); exact Kd.R_mono HO_8.out (fun _ hk => ⟨trivial, hk⟩)) hg (.inl rfl)); have n1_ := Aside0.mk (hp_); have n2_ := Aside0.mk ((by rw [hw]; exact below_set (HB.out) GB22.out : Below w.heap.size w w24)); clear HO_8; clear HO_9; clear HB; have HO_8 := n0_; have HO_9 := n1_; have HB := n2_; clear n0_ n1_ n2_; clear hg hw hp_))
                (try simp only [← hl9_1])
                go_roundg k1
                case measure => have := HK1.out; omega
                case rel => exact ⟨(y199), (wrap64 (x11_1 + 1)), (by first | rfl | (simp; done) | (simp [*]; done) | (simp; exact (fun (l_ : List UInt8) => by cases l_ <;> rfl : ∀ l_ : List UInt8, l_.isEmpty = !(l_ != [])) _)), H', ⟨by have := HK1.out; omega⟩, ⟨by (try simp only [hl9_1]); (with_reducible repeat (first | apply Kd.R_alloc | apply Kd.R_drewN | apply Kd.R_drew)); exact Kd.R_mono HO_8.out (fun _ hk => hk.2)⟩, ⟨by (try simp only [hl9_1]); (with_reducible repeat (first | apply Kd.R_alloc | apply Kd.R_drewN | apply Kd.R_drew)); exact HO_9.out⟩, ⟨by repeat (first | (with_reducible first | exact HB.out | apply below_alloc | apply pw_below_drewN | apply below_drew1) | exact HB.out)⟩⟩
              · rw [if_neg c21] at H
                exact absurd H (by simp)
            · rw [if_neg c20] at H
              have c20b0 : decide (x11_1 < (x9_1.length : Int)) = false := decide_eq_false c20
              clear c20
              replace H := Option.bind_eq_some_iff.mp H
              obtain ⟨t200, A250, H⟩ := H
              replace H : (if t187 = true then (if t198 = true then (if t200 = true then ((real_Order.f a0 a1).bind fun t201 => ((tabulariumref03_Order.f k1 a0 a1).bind fun t202 => (some (t201 == t202)))) else (some false)) else (some false)) else (some false)) = some r := H
              have A25 := Aside0.mk A250
              clear A250
              by_cases c26 : t187 = true
              · subst c26
                have H1 : (if t198 = true then (if t200 = true then ((real_Order.f a0 a1).bind fun t201 => ((tabulariumref03_Order.f k1 a0 a1).bind fun t202 => (some (t201 == t202)))) else (some false)) else (some false)) = some r := by rw [if_pos rfl] at H; exact H
                clear H
                have H := H1
                clear H1
                by_cases c27 : t198 = true
                · subst c27
                  have H1 : (if t200 = true then ((real_Order.f a0 a1).bind fun t201 => ((tabulariumref03_Order.f k1 a0 a1).bind fun t202 => (some (t201 == t202)))) else (some false)) = some r := by rw [if_pos rfl] at H; exact H
                  clear H
                  have H := H1
                  clear H1
                  by_cases c28 : t200 = true
                  · subst c28
                    have H1 : ((real_Order.f a0 a1).bind fun t201 => ((tabulariumref03_Order.f k1 a0 a1).bind fun t202 => (some (t201 == t202)))) = some r := by rw [if_pos rfl] at H; exact H
                    clear H
                    have H := H1
                    clear H1
                    replace H := Option.bind_eq_some_iff.mp H
                    obtain ⟨t201, A290, H⟩ := H
                    replace H : ((tabulariumref03_Order.f k1 a0 a1).bind fun t202 => (some (t201 == t202))) = some r := H
                    have A29 := Aside0.mk A290
                    clear A290
                    replace H := Option.bind_eq_some_iff.mp H
                    obtain ⟨t202, A300, H⟩ := H
                    replace H : (some (t201 == t202)) = some r := H
                    have A30 := Aside0.mk A300
                    clear A300
                    obtain rfl := Option.some.inj H
                    go_wp2_with (first | (go_at_call 27; refine calls_of_args (args' := #[.slice Ao15 y189.length co15, .slice A2 (l2.take ((ji5) : Int).toNat).length c2]) (by first | rfl | (rw [show (l2.take ((ji5) : Int).toNat).length = (ji5).toNat from (by rw [List.length_take]; have h_ : ((ji5) : Int) ≤ (l2.length : Int) := (by first | exact of_decide_eq_true (by first | (with_reducible assumption) | assumption) | (have hq_ := hji5; unfold mn at hq_; split at hq_ <;> omega)); omega)] <;> rfl) | (simp only [hji5]; rfl) | (simp only [List.length_drop, List.length_take]; rfl)) ?_; (with_reducible refine (tabulariumlaw03_reals.calls k1 _ _ y189 _ _ (l2.take ((ji5) : Int).toNat) true _ ?side1 ?side2 ?side3 ?side4 A25.out).mono ?_); (case side1 => repeat (first | exact (Kd.R_reads' HO_8.out).2.2 | (with_reducible refine Kd.C_alloc ?_ _) | (with_reducible refine Kd.C_drewN ?_ _) | (with_reducible refine Kd.C_drew ?_))); (case side2 => exact (Kd.R_reads' HO_8.out).2.1); (case side3 => repeat (first | exact (Kd.C_below HR188.out HB.out) | (with_reducible refine Kd.C_alloc ?_ _) | (with_reducible refine Kd.C_drewN ?_ _) | (with_reducible refine Kd.C_drew ?_))); (case side4 => exact HC188.out); rintro e w' ⟨rfl, ⟨nd, rfl⟩⟩) | (go_at_call 13; (with_reducible refine (real_Order.calls a0 a1 t201 _ A29.out).mono ?_); rintro e w' ⟨rfl, ⟨nd, rfl⟩⟩) | (go_at_call 29; (with_reducible refine (tabulariumref03_Order.calls k1 a0 a1 t202 _ A30.out).mono ?_); rintro e w' ⟨rfl, ⟨nd, rfl⟩⟩))
                    go_ret
                    exact ⟨by first | rfl | (simp [errW_none, errW_some] <;> rfl) | (simp only [← hji5]; first | rfl | (simp [errW_none, errW_some] <;> rfl)) | (simp [*, errW_none, errW_some] <;> rfl), by repeat (first | (with_reducible first | exact HB.out | apply below_alloc | apply pw_below_drewN | apply below_drew1) | exact HB.out)⟩
                  · replace c28 := Bool.eq_false_iff.mpr c28
                    subst c28
                    have H1 : (some false) = some r := by rw [if_neg (show ¬ (false = true) by decide)] at H; exact H
                    clear H
                    have H := H1
                    clear H1
                    obtain rfl := Option.some.inj H
                    go_wp2_with (first | (go_at_call 27; refine calls_of_args (args' := #[.slice Ao15 y189.length co15, .slice A2 (l2.take ((ji5) : Int).toNat).length c2]) (by first | rfl | (rw [show (l2.take ((ji5) : Int).toNat).length = (ji5).toNat from (by rw [List.length_take]; have h_ : ((ji5) : Int) ≤ (l2.length : Int) := (by first | exact of_decide_eq_true (by first | (with_reducible assumption) | assumption) | (have hq_ := hji5; unfold mn at hq_; split at hq_ <;> omega)); omega)] <;> rfl) | (simp only [hji5]; rfl) | (simp only [List.length_drop, List.length_take]; rfl)) ?_; (with_reducible refine (tabulariumlaw03_reals.calls k1 _ _ y189 _ _ (l2.take ((ji5) : Int).toNat) false _ ?side1 ?side2 ?side3 ?side4 A25.out).mono ?_); (case side1 => repeat (first | exact (Kd.R_reads' HO_8.out).2.2 | (with_reducible refine Kd.C_alloc ?_ _) | (with_reducible refine Kd.C_drewN ?_ _) | (with_reducible refine Kd.C_drew ?_))); (case side2 => exact (Kd.R_reads' HO_8.out).2.1); (case side3 => repeat (first | exact (Kd.C_below HR188.out HB.out) | (with_reducible refine Kd.C_alloc ?_ _) | (with_reducible refine Kd.C_drewN ?_ _) | (with_reducible refine Kd.C_drew ?_))); (case side4 => exact HC188.out); rintro e w' ⟨rfl, ⟨nd, rfl⟩⟩))
                    go_ret
                    exact ⟨by first | rfl | (simp [errW_none, errW_some] <;> rfl) | (simp only [← hji5]; first | rfl | (simp [errW_none, errW_some] <;> rfl)) | (simp [*, errW_none, errW_some] <;> rfl), by repeat (first | (with_reducible first | exact HB.out | apply below_alloc | apply pw_below_drewN | apply below_drew1) | exact HB.out)⟩
                · replace c27 := Bool.eq_false_iff.mpr c27
                  subst c27
                  have H1 : (some false) = some r := by rw [if_neg (show ¬ (false = true) by decide)] at H; exact H
                  clear H
                  have H := H1
                  clear H1
                  obtain rfl := Option.some.inj H
                  go_wp2_with (first | (go_at_call 27; refine calls_of_args (args' := #[.slice Ao15 y189.length co15, .slice A2 (l2.take ((ji5) : Int).toNat).length c2]) (by first | rfl | (rw [show (l2.take ((ji5) : Int).toNat).length = (ji5).toNat from (by rw [List.length_take]; have h_ : ((ji5) : Int) ≤ (l2.length : Int) := (by first | exact of_decide_eq_true (by first | (with_reducible assumption) | assumption) | (have hq_ := hji5; unfold mn at hq_; split at hq_ <;> omega)); omega)] <;> rfl) | (simp only [hji5]; rfl) | (simp only [List.length_drop, List.length_take]; rfl)) ?_; (with_reducible refine (tabulariumlaw03_reals.calls k1 _ _ y189 _ _ (l2.take ((ji5) : Int).toNat) t200 _ ?side1 ?side2 ?side3 ?side4 A25.out).mono ?_); (case side1 => repeat (first | exact (Kd.R_reads' HO_8.out).2.2 | (with_reducible refine Kd.C_alloc ?_ _) | (with_reducible refine Kd.C_drewN ?_ _) | (with_reducible refine Kd.C_drew ?_))); (case side2 => exact (Kd.R_reads' HO_8.out).2.1); (case side3 => repeat (first | exact (Kd.C_below HR188.out HB.out) | (with_reducible refine Kd.C_alloc ?_ _) | (with_reducible refine Kd.C_drewN ?_ _) | (with_reducible refine Kd.C_drew ?_))); (case side4 => exact HC188.out); rintro e w' ⟨rfl, ⟨nd, rfl⟩⟩))
                  go_ret
                  exact ⟨by first | rfl | (simp [errW_none, errW_some] <;> rfl) | (simp only [← hji5]; first | rfl | (simp [errW_none, errW_some] <;> rfl)) | (simp [*, errW_none, errW_some] <;> rfl), by repeat (first | (with_reducible first | exact HB.out | apply below_alloc | apply pw_below_drewN | apply below_drew1) | exact HB.out)⟩
              · replace c26 := Bool.eq_false_iff.mpr c26
                subst c26
                have H1 : (some false) = some r := by rw [if_neg (show ¬ (false = true) by decide)] at H; exact H
                clear H
                have H := H1
                clear H1
                obtain rfl := Option.some.inj H
                go_wp2_with (first | (go_at_call 27; refine calls_of_args (args' := #[.slice Ao15 y189.length co15, .slice A2 (l2.take ((ji5) : Int).toNat).length c2]) (by first | rfl | (rw [show (l2.take ((ji5) : Int).toNat).length = (ji5).toNat from (by rw [List.length_take]; have h_ : ((ji5) : Int) ≤ (l2.length : Int) := (by first | exact of_decide_eq_true (by first | (with_reducible assumption) | assumption) | (have hq_ := hji5; unfold mn at hq_; split at hq_ <;> omega)); omega)] <;> rfl) | (simp only [hji5]; rfl) | (simp only [List.length_drop, List.length_take]; rfl)) ?_; (with_reducible refine (tabulariumlaw03_reals.calls k1 _ _ y189 _ _ (l2.take ((ji5) : Int).toNat) t200 _ ?side1 ?side2 ?side3 ?side4 A25.out).mono ?_); (case side1 => repeat (first | exact (Kd.R_reads' HO_8.out).2.2 | (with_reducible refine Kd.C_alloc ?_ _) | (with_reducible refine Kd.C_drewN ?_ _) | (with_reducible refine Kd.C_drew ?_))); (case side2 => exact (Kd.R_reads' HO_8.out).2.1); (case side3 => repeat (first | exact (Kd.C_below HR188.out HB.out) | (with_reducible refine Kd.C_alloc ?_ _) | (with_reducible refine Kd.C_drewN ?_ _) | (with_reducible refine Kd.C_drew ?_))); (case side4 => exact HC188.out); rintro e w' ⟨rfl, ⟨nd, rfl⟩⟩))
                go_ret
                exact ⟨by first | rfl | (simp [errW_none, errW_some] <;> rfl) | (simp only [← hji5]; first | rfl | (simp [errW_none, errW_some] <;> rfl)) | (simp [*, errW_none, errW_some] <;> rfl), by repeat (first | (with_reducible first | exact HB.out | apply below_alloc | apply pw_below_drewN | apply below_drew1) | exact HB.out)⟩
      · rw [if_neg c8] at H
        exact absurd H (by simp)
    · rw [if_neg c7] at H
      exact absurd H (by simp)
  · rw [if_neg c6] at H
    exact absurd H (by simp)

/-- THE ONE PURE STATEMENT of tabulariumlaw03_RealOrders. -/
def tabulariumlaw03_RealOrders.Pure : Prop := ∀ (a0 : Nat) (a1 : Nat) (l2 : List Nat), ((Lit.float .f64 a0).wf = true) → ((Lit.float .f64 a1).wf = true) → (l2.length ≤ maxLen) → (l2.length * 8 ≤ 140737488351232) → (∀ y2_ ∈ l2, ((Lit.float .f64 y2_).wf = true)) → ∃ k, tabulariumlaw03_RealOrders.f k a0 a1 l2 = some true
theorem tabulariumlaw03_RealOrders.walk (P : tabulariumlaw03_RealOrders.Pure) (a0 : Nat) (a1 : Nat) (A2 : Option Addr) (c2 : Nat) (l2 : List Nat) (w : World) (hr2 : Kd.C Kd.f64 w A2 l2.length l2) (hc2 : l2.length ≤ c2) (g0 : (Lit.float .f64 a0).wf = true) (g1 : (Lit.float .f64 a1).wf = true) (g2 : l2.length ≤ maxLen) (g3 : l2.length * 8 ≤ 140737488351232) (g4 : ∀ y2_ ∈ l2, ((Lit.float .f64 y2_).wf = true)) :
    Calls Try.prog 10 #[.float .f64 a0, .float .f64 a1, .slice A2 l2.length c2] w fun e w' => e = .returned (.bool true) ∧ Below w.heap.size w w' := by
  obtain ⟨k, h⟩ := P a0 a1 l2 g0 g1 g2 g3 g4
  refine (tabulariumlaw03_RealOrders.calls k a0 a1 A2 c2 l2 true w hr2 hc2 h).mono ?_
  rintro e w' ⟨rfl, hd⟩
  exact ⟨rfl, hd⟩

end Go.Proofs.Ytoncmgkgflomlaa.P
