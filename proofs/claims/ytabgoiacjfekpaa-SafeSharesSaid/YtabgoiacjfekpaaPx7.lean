/- The Go functions of this seat as plain Lean functions, and for each the proof that its call gives what the plain function gives. Printed by a program of this session. -/
import Derived.Test.YtabgoiacjfekpaaPx0
import Derived.Test.YtabgoiacjfekpaaPx2
import Derived.Test.YtabgoiacjfekpaaPx3
import Derived.Test.YtabgoiacjfekpaaPx5
namespace Go.Proofs.Ytabgoiacjfekpaa.P
open Go.RowKit Go.Proofs.YtabgoiacjfekpaaW.PrintWords Go.Proofs.YtabgoiacjfekpaaW.PrintLast Go.Proofs.YtabgoiacjfekpaaW.PrintMore
attribute [local go_sem] max2_int min2_int max_two min_two max_three min_three max_four min_four   -- for this text's walks alone
set_option linter.unusedVariables false
set_option linter.unusedSimpArgs false

/-! ### tabulariumlaw21_SafeShares: function 4 -/
def tabulariumlaw21_SafeShares.j0 : Nat → Nat → Int → Int → Bool → Bool → Nat → Bool → Int → Int → Option (Bool)
  | 0, _, _, _, _, _, _, _, _, _ => none
  | k + 1, x0, x1, x2, x7, x35, x207000, x207001, x207002, x207003 => if x35 = true then (some false) else (if (FloatKind.f64.format.order x0 x0 == some .eq) = true then (if (FloatKind.f64.format.order x0 4607182418800017408 == some .lt || FloatKind.f64.format.order x0 4607182418800017408 == some .eq) = true then (some x7) else (if x2 > 1000000 then (some x7) else (if x2 < 1 then (some x7) else (if x7 = true then ((safe_Safe_See.f x207000 x207001 x207002 x207003 x1 x2).bind fun bt217 => (some (bt217.1 == (decide (x1 < x2))))) else (some false))))) else (if x2 > 1000000 then (some x7) else (if x2 < 1 then (some x7) else (if x7 = true then ((safe_Safe_See.f x207000 x207001 x207002 x207003 x1 x2).bind fun bt222 => (some (bt222.1 == (decide (x1 < x2))))) else (some false)))))
def tabulariumlaw21_SafeShares.f (k : Nat) (a0 : Nat) (a1 : Int) (a2 : Int) : Option (Bool) := (tabulariumlaw21_examples.f k).bind fun t191 => ((safe_New.f k a0).bind fun bt192 => ((safe_New.f k 0).bind fun bt197 => ((safe_New.f k a0).bind fun bt202 => ((safe_Safe_See.f bt192.1 bt192.2.1 bt192.2.2.1 bt192.2.2.2 a1 0).bind fun bt207 => (if bt207.1 = true then (tabulariumlaw21_SafeShares.j0 k a0 a1 a2 t191 true bt202.1 bt202.2.1 bt202.2.2.1 bt202.2.2.2) else ((safe_Safe_See.f bt197.1 bt197.2.1 bt197.2.2.1 bt197.2.2.2 a1 a2).bind fun bt212 => (tabulariumlaw21_SafeShares.j0 k a0 a1 a2 t191 bt212.1 bt202.1 bt202.2.1 bt202.2.2.1 bt202.2.2.2)))))))
theorem tabulariumlaw21_SafeShares.mono_l : ∀ k, (∀ y0 y1 y2 y3 y4 y5 y6 y7 y8, LeO (tabulariumlaw21_SafeShares.j0 k y0 y1 y2 y3 y4 y5 y6 y7 y8) (tabulariumlaw21_SafeShares.j0 (k + 1) y0 y1 y2 y3 y4 y5 y6 y7 y8))
  | 0 => fun _ _ _ _ _ _ _ _ _ r h => by simp [tabulariumlaw21_SafeShares.j0] at h
  | k + 1 => by
    have ih0 := tabulariumlaw21_SafeShares.mono_l k
    · intro y0 y1 y2 y3 y4 y5 y6 y7 y8
      unfold tabulariumlaw21_SafeShares.j0
      repeat' first
      | (with_reducible exact ih0 _ _ _ _ _ _ _ _ _)
      | (with_reducible exact safe_New.mono _ _)
      | (with_reducible exact tabulariumlaw21_examples.mono _)
      | (with_reducible exact LeO.refl _)
      | (with_reducible exact LeO.none _)
      | (with_reducible refine LeO.ite ?_ ?_)
      | (with_reducible refine LeO.bind ?_ (fun _ => ?_))
      | exact ih0 _ _ _ _ _ _ _ _ _
      | exact safe_New.mono _ _
      | exact tabulariumlaw21_examples.mono _
      | exact LeO.none _
      | refine LeO.ite ?_ ?_
      | refine LeO.bind ?_ (fun _ => ?_)
theorem tabulariumlaw21_SafeShares.mono : ∀ a0 a1 a2 k, LeO (tabulariumlaw21_SafeShares.f k a0 a1 a2) (tabulariumlaw21_SafeShares.f (k + 1) a0 a1 a2) := by
  intro a0 a1 a2 k
  have ih0 := tabulariumlaw21_SafeShares.mono_l k
  unfold tabulariumlaw21_SafeShares.f
  repeat' first
      | (with_reducible exact ih0 _ _ _ _ _ _ _ _ _)
      | (with_reducible exact safe_New.mono _ _)
      | (with_reducible exact tabulariumlaw21_examples.mono _)
      | (with_reducible exact LeO.refl _)
      | (with_reducible exact LeO.none _)
      | (with_reducible refine LeO.ite ?_ ?_)
      | (with_reducible refine LeO.bind ?_ (fun _ => ?_))
      | exact ih0 _ _ _ _ _ _ _ _ _
      | exact safe_New.mono _ _
      | exact tabulariumlaw21_examples.mono _
      | exact LeO.none _
      | refine LeO.ite ?_ ?_
      | refine LeO.bind ?_ (fun _ => ?_)
set_option maxHeartbeats 8000000 in
set_option maxRecDepth 100000 in
theorem tabulariumlaw21_SafeShares.calls (k : Nat) (a0 : Nat) (a1 : Int) (a2 : Int) (r : Bool) (w : World) (h : tabulariumlaw21_SafeShares.f k a0 a1 a2 = some r) :
    Calls Try.prog 4 #[.float .f64 a0, .int .i64 a1, .int .i64 a2] w fun e w' => e = .returned (.bool r) ∧ Below w.heap.size w w' := by
  have HB := Aside0.mk (Below.refl w.heap.size w)
  have H : ((tabulariumlaw21_examples.f k).bind fun t191 => ((safe_New.f k a0).bind fun bt192 => ((safe_New.f k 0).bind fun bt197 => ((safe_New.f k a0).bind fun bt202 => ((safe_Safe_See.f bt192.1 bt192.2.1 bt192.2.2.1 bt192.2.2.2 a1 0).bind fun bt207 => (if bt207.1 = true then (tabulariumlaw21_SafeShares.j0 k a0 a1 a2 t191 true bt202.1 bt202.2.1 bt202.2.2.1 bt202.2.2.2) else ((safe_Safe_See.f bt197.1 bt197.2.1 bt197.2.2.1 bt197.2.2.2 a1 a2).bind fun bt212 => (tabulariumlaw21_SafeShares.j0 k a0 a1 a2 t191 bt212.1 bt202.1 bt202.2.1 bt202.2.2.1 bt202.2.2.2)))))))) = some r := h
  clear h
  replace H := Option.bind_eq_some_iff.mp H
  obtain ⟨t191, A40, H⟩ := H
  replace H : ((safe_New.f k a0).bind fun bt192 => ((safe_New.f k 0).bind fun bt197 => ((safe_New.f k a0).bind fun bt202 => ((safe_Safe_See.f bt192.1 bt192.2.1 bt192.2.2.1 bt192.2.2.2 a1 0).bind fun bt207 => (if bt207.1 = true then (tabulariumlaw21_SafeShares.j0 k a0 a1 a2 t191 true bt202.1 bt202.2.1 bt202.2.2.1 bt202.2.2.2) else ((safe_Safe_See.f bt197.1 bt197.2.1 bt197.2.2.1 bt197.2.2.2 a1 a2).bind fun bt212 => (tabulariumlaw21_SafeShares.j0 k a0 a1 a2 t191 bt212.1 bt202.1 bt202.2.1 bt202.2.2.1 bt202.2.2.2))))))) = some r := H
  have A4 := Aside0.mk A40
  clear A40
  replace H := Option.bind_eq_some_iff.mp H
  obtain ⟨⟨t192, t193, t194, t195⟩, A50, H⟩ := H
  replace H : ((safe_New.f k 0).bind fun bt197 => ((safe_New.f k a0).bind fun bt202 => ((safe_Safe_See.f t192 t193 t194 t195 a1 0).bind fun bt207 => (if bt207.1 = true then (tabulariumlaw21_SafeShares.j0 k a0 a1 a2 t191 true bt202.1 bt202.2.1 bt202.2.2.1 bt202.2.2.2) else ((safe_Safe_See.f bt197.1 bt197.2.1 bt197.2.2.1 bt197.2.2.2 a1 a2).bind fun bt212 => (tabulariumlaw21_SafeShares.j0 k a0 a1 a2 t191 bt212.1 bt202.1 bt202.2.1 bt202.2.2.1 bt202.2.2.2)))))) = some r := H
  have A5 := Aside0.mk A50
  clear A50
  replace H := Option.bind_eq_some_iff.mp H
  obtain ⟨⟨t197, t198, t199, t200⟩, A60, H⟩ := H
  replace H : ((safe_New.f k a0).bind fun bt202 => ((safe_Safe_See.f t192 t193 t194 t195 a1 0).bind fun bt207 => (if bt207.1 = true then (tabulariumlaw21_SafeShares.j0 k a0 a1 a2 t191 true bt202.1 bt202.2.1 bt202.2.2.1 bt202.2.2.2) else ((safe_Safe_See.f t197 t198 t199 t200 a1 a2).bind fun bt212 => (tabulariumlaw21_SafeShares.j0 k a0 a1 a2 t191 bt212.1 bt202.1 bt202.2.1 bt202.2.2.1 bt202.2.2.2))))) = some r := H
  have A6 := Aside0.mk A60
  clear A60
  replace H := Option.bind_eq_some_iff.mp H
  obtain ⟨⟨t202, t203, t204, t205⟩, A70, H⟩ := H
  replace H : ((safe_Safe_See.f t192 t193 t194 t195 a1 0).bind fun bt207 => (if bt207.1 = true then (tabulariumlaw21_SafeShares.j0 k a0 a1 a2 t191 true t202 t203 t204 t205) else ((safe_Safe_See.f t197 t198 t199 t200 a1 a2).bind fun bt212 => (tabulariumlaw21_SafeShares.j0 k a0 a1 a2 t191 bt212.1 t202 t203 t204 t205)))) = some r := H
  have A7 := Aside0.mk A70
  clear A70
  have HC8 := Aside0.mk H
  clear H
  go_enter Try.func4, Try.ntmps4
  go_upto_region 7 with (first | ((with_reducible refine gate_callee (f := 7) rfl ?_); refine goesL_ (some 11) rfl rfl Try.func7 (by kernel_rfl) rfl #[] rfl (by (try simp only [List.map_toArray, List.map_cons, List.map_nil]); first | done | rfl | (simp only [List.length_drop, List.length_take]; rfl)) ?_; (with_reducible refine (tabulariumlaw21_examples.calls k  t191 _ A4.out).mono ?_); rintro e w9 ⟨rfl, hb⟩; refine ⟨_, rfl, ?_⟩; have n0_ := Aside0.mk (below_step (by repeat (first | (with_reducible first | exact HB.out | apply below_alloc | apply pw_below_drewN | apply below_drew1) | exact HB.out)) hb); clear HB; have HB := n0_; clear n0_; (try clear hb); (try clear hb2); (try clear hk); (try clear hi)) | ((with_reducible refine gate_callee (f := 8) rfl ?_); refine goesL_ (some 13) rfl rfl Try.func8 (by kernel_rfl) rfl #[.float .f64 a0] rfl (by (try simp only [List.map_toArray, List.map_cons, List.map_nil]); first | done | rfl | (simp only [List.length_drop, List.length_take]; rfl)) ?_; (with_reducible refine (safe_New.calls k a0 t192 t193 t194 t195 w _ ?side1 A5.out).mono ?_); (case side1 => repeat (first | (with_reducible first | exact HB.out | apply below_alloc | apply pw_below_drewN | apply below_drew1) | exact HB.out)); rintro e w10 ⟨g196, rfl, hi, hb, hb2⟩; refine ⟨_, rfl, ?_⟩; have n0_ := Aside0.mk (hb); have n1_ := Aside0.mk (hi); clear HB; have HB := n0_; have HI196 := n1_; clear n0_ n1_; (try clear hb); (try clear hb2); (try clear hk); (try clear hi)) | ((with_reducible refine gate_callee (f := 8) rfl ?_); refine goesL_ (some 14) rfl rfl Try.func8 (by kernel_rfl) rfl #[.float .f64 0] rfl (by (try simp only [List.map_toArray, List.map_cons, List.map_nil]); first | done | rfl | (simp only [List.length_drop, List.length_take]; rfl)) ?_; (with_reducible refine (safe_New.calls k 0 t197 t198 t199 t200 ?wz11 _ ?side1 A6.out).mono ?_); (case side1 => exact Below.refl _ _); rintro e w12 ⟨g201, rfl, hi, hb, hb2⟩; refine ⟨_, rfl, ?_⟩; have n0_ := Aside0.mk (IsS41.below (by repeat (first | (with_reducible first | exact HI196.out | apply IsS41.alloc | apply IsS41.drewN | apply IsS41.drew | apply IsS41.set_0 | apply IsS41.set_1 | apply IsS41.set_2 | apply IsS41.set_3) | exact HI196.out)) hb2); have n1_ := Aside0.mk (below_step (by repeat (first | (with_reducible first | exact HB.out | apply below_alloc | apply pw_below_drewN | apply below_drew1 | refine below_set ?_ (IsS41.ge HI196.out)) | exact HB.out)) hb2); have n2_ := Aside0.mk ((show IsS41 w _ _ t197 t198 t199 t200 from ⟨hi.1, Nat.le_trans (below_size (by repeat (first | (with_reducible first | exact HB.out | apply below_alloc | apply pw_below_drewN | apply below_drew1 | refine below_set ?_ (IsS41.ge HI196.out)) | exact HB.out))) hi.2⟩)); have n3_ := Aside0.mk ((Nat.ne_of_lt (Nat.lt_of_lt_of_le (IsS41.lt (show IsS41 w _ g196 t192 t193 t194 t195 from by repeat (first | (with_reducible first | exact HI196.out | apply IsS41.alloc | apply IsS41.drewN | apply IsS41.drew | apply IsS41.set_0 | apply IsS41.set_1 | apply IsS41.set_2 | apply IsS41.set_3) | exact HI196.out))) hi.2) : g196 ≠ g201)); have n4_ := Aside0.mk ((Nat.ne_of_gt (Nat.lt_of_lt_of_le (IsS41.lt (show IsS41 w _ g196 t192 t193 t194 t195 from by repeat (first | (with_reducible first | exact HI196.out | apply IsS41.alloc | apply IsS41.drewN | apply IsS41.drew | apply IsS41.set_0 | apply IsS41.set_1 | apply IsS41.set_2 | apply IsS41.set_3) | exact HI196.out))) hi.2) : g201 ≠ g196)); clear HI196; clear HB; have HI196 := n0_; have HB := n1_; have HI201 := n2_; have NS196_201 := n3_; have NS201_196 := n4_; clear n0_ n1_ n2_ n3_ n4_; (try clear hb); (try clear hb2); (try clear hk); (try clear hi)) | ((with_reducible refine gate_callee (f := 8) rfl ?_); refine goesL_ (some 16) rfl rfl Try.func8 (by kernel_rfl) rfl #[.float .f64 a0] rfl (by (try simp only [List.map_toArray, List.map_cons, List.map_nil]); first | done | rfl | (simp only [List.length_drop, List.length_take]; rfl)) ?_; (with_reducible refine (safe_New.calls k a0 t202 t203 t204 t205 ?wz13 _ ?side1 A7.out).mono ?_); (case side1 => exact Below.refl _ _); rintro e w14 ⟨g206, rfl, hi, hb, hb2⟩; refine ⟨_, rfl, ?_⟩; have n0_ := Aside0.mk (IsS41.below (by repeat (first | (with_reducible first | exact HI196.out | apply IsS41.alloc | apply IsS41.drewN | apply IsS41.drew | apply IsS41.set_0 | apply IsS41.set_1 | apply IsS41.set_2 | apply IsS41.set_3) | exact HI196.out)) hb2); have n1_ := Aside0.mk (IsS41.below (by repeat (first | (with_reducible first | exact HI201.out | apply IsS41.alloc | apply IsS41.drewN | apply IsS41.drew | apply IsS41.set_0 | apply IsS41.set_1 | apply IsS41.set_2 | apply IsS41.set_3) | exact HI201.out)) hb2); have n2_ := Aside0.mk (below_step (by repeat (first | (with_reducible first | exact HB.out | apply below_alloc | apply pw_below_drewN | apply below_drew1 | refine below_set ?_ (IsS41.ge HI196.out) | refine below_set ?_ (IsS41.ge HI201.out)) | exact HB.out)) hb2); have n3_ := Aside0.mk ((show IsS41 w _ _ t202 t203 t204 t205 from ⟨hi.1, Nat.le_trans (below_size (by repeat (first | (with_reducible first | exact HB.out | apply below_alloc | apply pw_below_drewN | apply below_drew1 | refine below_set ?_ (IsS41.ge HI196.out) | refine below_set ?_ (IsS41.ge HI201.out)) | exact HB.out))) hi.2⟩)); have n4_ := Aside0.mk ((Nat.ne_of_lt (Nat.lt_of_lt_of_le (IsS41.lt (show IsS41 w _ g196 t192 t193 t194 t195 from by repeat (first | (with_reducible first | exact HI196.out | apply IsS41.alloc | apply IsS41.drewN | apply IsS41.drew | apply IsS41.set_0 | apply IsS41.set_1 | apply IsS41.set_2 | apply IsS41.set_3) | exact HI196.out))) hi.2) : g196 ≠ g206)); have n5_ := Aside0.mk ((Nat.ne_of_gt (Nat.lt_of_lt_of_le (IsS41.lt (show IsS41 w _ g196 t192 t193 t194 t195 from by repeat (first | (with_reducible first | exact HI196.out | apply IsS41.alloc | apply IsS41.drewN | apply IsS41.drew | apply IsS41.set_0 | apply IsS41.set_1 | apply IsS41.set_2 | apply IsS41.set_3) | exact HI196.out))) hi.2) : g206 ≠ g196)); have n6_ := Aside0.mk ((Nat.ne_of_lt (Nat.lt_of_lt_of_le (IsS41.lt (show IsS41 w _ g201 t197 t198 t199 t200 from by repeat (first | (with_reducible first | exact HI201.out | apply IsS41.alloc | apply IsS41.drewN | apply IsS41.drew | apply IsS41.set_0 | apply IsS41.set_1 | apply IsS41.set_2 | apply IsS41.set_3) | exact HI201.out))) hi.2) : g201 ≠ g206)); have n7_ := Aside0.mk ((Nat.ne_of_gt (Nat.lt_of_lt_of_le (IsS41.lt (show IsS41 w _ g201 t197 t198 t199 t200 from by repeat (first | (with_reducible first | exact HI201.out | apply IsS41.alloc | apply IsS41.drewN | apply IsS41.drew | apply IsS41.set_0 | apply IsS41.set_1 | apply IsS41.set_2 | apply IsS41.set_3) | exact HI201.out))) hi.2) : g206 ≠ g201)); clear HI196; clear HI201; clear HB; have HI196 := n0_; have HI201 := n1_; have HB := n2_; have HI206 := n3_; have NS196_206 := n4_; have NS206_196 := n5_; have NS201_206 := n6_; have NS206_201 := n7_; clear n0_ n1_ n2_ n3_ n4_ n5_ n6_ n7_; (try clear hb); (try clear hb2); (try clear hk); (try clear hi)))
  (try simp only [Act.put, List.setIfInBounds_toArray, List.set_cons_zero, List.set_cons_succ])
  go_cut [35] (fun v35 wc => ∃ (kq : Nat) (x35_7 : Bool), v35 = .bool x35_7 ∧ Aside0 (tabulariumlaw21_SafeShares.j0 kq a0 a1 a2 t191 x35_7 t202 t203 t204 t205 = some r) ∧ Aside0 (kq ≤ k) ∧ Aside0 (IsS41 w wc g206 t202 t203 t204 t205) ∧ Aside0 (Below w.heap.size w wc))
  case first =>
    have H := HC8.out
    clear HC8
    replace H := Option.bind_eq_some_iff.mp H
    obtain ⟨⟨t207, t208, t209, t210, t211⟩, A150, H⟩ := H
    replace H : (if t207 = true then (tabulariumlaw21_SafeShares.j0 k a0 a1 a2 t191 true t202 t203 t204 t205) else ((safe_Safe_See.f t197 t198 t199 t200 a1 a2).bind fun bt212 => (tabulariumlaw21_SafeShares.j0 k a0 a1 a2 t191 bt212.1 t202 t203 t204 t205))) = some r := H
    have A15 := Aside0.mk A150
    clear A150
    by_cases c16 : t207 = true
    · subst c16
      have H1 : (tabulariumlaw21_SafeShares.j0 k a0 a1 a2 t191 true t202 t203 t204 t205) = some r := by rw [if_pos rfl] at H; exact H
      clear H
      have H := H1
      clear H1
      have H' := Aside0.mk H
      clear H
      go_wp2_with (first | ((with_reducible refine gate_callee (f := 9) rfl ?_); refine goesL_ (some 29) rfl rfl Try.func9 (by kernel_rfl) rfl #[.pointer (some ⟨g196, 0, none⟩), .int .i64 a1, .int .i64 0] rfl (by (try simp only [List.map_toArray, List.map_cons, List.map_nil]); first | done | rfl | (simp only [List.length_drop, List.length_take]; rfl)) ?_; (with_reducible refine (safe_Safe_See.calls g196 t192 t193 t194 t195 a1 0 true t208 t209 t210 t211 w _ ?side1 ?side2 A15.out).mono ?_); (case side1 => repeat (first | (with_reducible first | exact HI196.out | apply IsS41.alloc | apply IsS41.drewN | apply IsS41.drew | apply IsS41.set_0 | apply IsS41.set_1 | apply IsS41.set_2 | apply IsS41.set_3) | exact HI196.out)); (case side2 => repeat (first | (with_reducible first | exact HB.out | apply below_alloc | apply pw_below_drewN | apply below_drew1 | refine below_set ?_ (IsS41.ge HI196.out) | refine below_set ?_ (IsS41.ge HI201.out) | refine below_set ?_ (IsS41.ge HI206.out)) | exact HB.out)); rintro e w17 ⟨rfl, hi, hb, hk⟩; refine ⟨_, rfl, ?_⟩; have n0_ := Aside0.mk ((show IsS41 w _ g201 t197 t198 t199 t200 from ⟨KeepBut.blk hk (And.left (show IsS41 w _ g201 t197 t198 t199 t200 from by repeat (first | (with_reducible first | exact HI201.out | apply IsS41.alloc | apply IsS41.drewN | apply IsS41.drew | apply IsS41.set_0 | apply IsS41.set_1 | apply IsS41.set_2 | apply IsS41.set_3) | exact HI201.out))) NS201_196.out (by simp), And.right (show IsS41 w _ g201 t197 t198 t199 t200 from by repeat (first | (with_reducible first | exact HI201.out | apply IsS41.alloc | apply IsS41.drewN | apply IsS41.drew | apply IsS41.set_0 | apply IsS41.set_1 | apply IsS41.set_2 | apply IsS41.set_3) | exact HI201.out))⟩)); have n1_ := Aside0.mk ((show IsS41 w _ g206 t202 t203 t204 t205 from ⟨KeepBut.blk hk (And.left (show IsS41 w _ g206 t202 t203 t204 t205 from by repeat (first | (with_reducible first | exact HI206.out | apply IsS41.alloc | apply IsS41.drewN | apply IsS41.drew | apply IsS41.set_0 | apply IsS41.set_1 | apply IsS41.set_2 | apply IsS41.set_3) | exact HI206.out))) NS206_196.out (by simp), And.right (show IsS41 w _ g206 t202 t203 t204 t205 from by repeat (first | (with_reducible first | exact HI206.out | apply IsS41.alloc | apply IsS41.drewN | apply IsS41.drew | apply IsS41.set_0 | apply IsS41.set_1 | apply IsS41.set_2 | apply IsS41.set_3) | exact HI206.out))⟩)); have n2_ := Aside0.mk (hb); have n3_ := Aside0.mk (hi); clear HI201; clear HI206; clear HB; clear HI196; have HI201 := n0_; have HI206 := n1_; have HB := n2_; have HI196 := n3_; clear n0_ n1_ n2_ n3_; (try clear hb); (try clear hb2); (try clear hk); (try clear hi)))
      go_meet
      case rel => exact ⟨_, (true), (by first | rfl | (simp; done) | (simp [*]; done)), H', ⟨by first | omega | exact Nat.le_refl _⟩, ⟨by repeat (first | (with_reducible first | exact HI206.out | apply IsS41.alloc | apply IsS41.drewN | apply IsS41.drew | apply IsS41.set_0 | apply IsS41.set_1 | apply IsS41.set_2 | apply IsS41.set_3) | exact HI206.out)⟩, ⟨by repeat (first | (with_reducible first | exact HB.out | apply below_alloc | apply pw_below_drewN | apply below_drew1 | refine below_set ?_ (IsS41.ge HI196.out) | refine below_set ?_ (IsS41.ge HI201.out) | refine below_set ?_ (IsS41.ge HI206.out)) | exact HB.out)⟩⟩
    · replace c16 := Bool.eq_false_iff.mpr c16
      subst c16
      have H1 : ((safe_Safe_See.f t197 t198 t199 t200 a1 a2).bind fun bt212 => (tabulariumlaw21_SafeShares.j0 k a0 a1 a2 t191 bt212.1 t202 t203 t204 t205)) = some r := by rw [if_neg (show ¬ (false = true) by decide)] at H; exact H
      clear H
      have H := H1
      clear H1
      replace H := Option.bind_eq_some_iff.mp H
      obtain ⟨⟨t212, t213, t214, t215, t216⟩, A180, H⟩ := H
      replace H : (tabulariumlaw21_SafeShares.j0 k a0 a1 a2 t191 t212 t202 t203 t204 t205) = some r := H
      have A18 := Aside0.mk A180
      clear A180
      have H' := Aside0.mk H
      clear H
      go_wp2_with (first | ((with_reducible refine gate_callee (f := 9) rfl ?_); refine goesL_ (some 29) rfl rfl Try.func9 (by kernel_rfl) rfl #[.pointer (some ⟨g196, 0, none⟩), .int .i64 a1, .int .i64 0] rfl (by (try simp only [List.map_toArray, List.map_cons, List.map_nil]); first | done | rfl | (simp only [List.length_drop, List.length_take]; rfl)) ?_; (with_reducible refine (safe_Safe_See.calls g196 t192 t193 t194 t195 a1 0 false t208 t209 t210 t211 w _ ?side1 ?side2 A15.out).mono ?_); (case side1 => repeat (first | (with_reducible first | exact HI196.out | apply IsS41.alloc | apply IsS41.drewN | apply IsS41.drew | apply IsS41.set_0 | apply IsS41.set_1 | apply IsS41.set_2 | apply IsS41.set_3) | exact HI196.out)); (case side2 => repeat (first | (with_reducible first | exact HB.out | apply below_alloc | apply pw_below_drewN | apply below_drew1 | refine below_set ?_ (IsS41.ge HI196.out) | refine below_set ?_ (IsS41.ge HI201.out) | refine below_set ?_ (IsS41.ge HI206.out)) | exact HB.out)); rintro e w19 ⟨rfl, hi, hb, hk⟩; refine ⟨_, rfl, ?_⟩; have n0_ := Aside0.mk ((show IsS41 w _ g201 t197 t198 t199 t200 from ⟨KeepBut.blk hk (And.left (show IsS41 w _ g201 t197 t198 t199 t200 from by repeat (first | (with_reducible first | exact HI201.out | apply IsS41.alloc | apply IsS41.drewN | apply IsS41.drew | apply IsS41.set_0 | apply IsS41.set_1 | apply IsS41.set_2 | apply IsS41.set_3) | exact HI201.out))) NS201_196.out (by simp), And.right (show IsS41 w _ g201 t197 t198 t199 t200 from by repeat (first | (with_reducible first | exact HI201.out | apply IsS41.alloc | apply IsS41.drewN | apply IsS41.drew | apply IsS41.set_0 | apply IsS41.set_1 | apply IsS41.set_2 | apply IsS41.set_3) | exact HI201.out))⟩)); have n1_ := Aside0.mk ((show IsS41 w _ g206 t202 t203 t204 t205 from ⟨KeepBut.blk hk (And.left (show IsS41 w _ g206 t202 t203 t204 t205 from by repeat (first | (with_reducible first | exact HI206.out | apply IsS41.alloc | apply IsS41.drewN | apply IsS41.drew | apply IsS41.set_0 | apply IsS41.set_1 | apply IsS41.set_2 | apply IsS41.set_3) | exact HI206.out))) NS206_196.out (by simp), And.right (show IsS41 w _ g206 t202 t203 t204 t205 from by repeat (first | (with_reducible first | exact HI206.out | apply IsS41.alloc | apply IsS41.drewN | apply IsS41.drew | apply IsS41.set_0 | apply IsS41.set_1 | apply IsS41.set_2 | apply IsS41.set_3) | exact HI206.out))⟩)); have n2_ := Aside0.mk (hb); have n3_ := Aside0.mk (hi); clear HI201; clear HI206; clear HB; clear HI196; have HI201 := n0_; have HI206 := n1_; have HB := n2_; have HI196 := n3_; clear n0_ n1_ n2_ n3_; (try clear hb); (try clear hb2); (try clear hk); (try clear hi)) | (go_at_call 9; (with_reducible refine (safe_Safe_See.calls g201 t197 t198 t199 t200 a1 a2 t212 t213 t214 t215 t216 w _ ?side1 ?side2 A18.out).mono ?_); (case side1 => repeat (first | (with_reducible first | exact HI201.out | apply IsS41.alloc | apply IsS41.drewN | apply IsS41.drew | apply IsS41.set_0 | apply IsS41.set_1 | apply IsS41.set_2 | apply IsS41.set_3) | exact HI201.out)); (case side2 => repeat (first | (with_reducible first | exact HB.out | apply below_alloc | apply pw_below_drewN | apply below_drew1 | refine below_set ?_ (IsS41.ge HI196.out) | refine below_set ?_ (IsS41.ge HI201.out) | refine below_set ?_ (IsS41.ge HI206.out)) | exact HB.out)); rintro e w20 ⟨rfl, hi, hb, hk⟩; have n0_ := Aside0.mk ((show IsS41 w _ g196 t208 t209 t210 t211 from ⟨KeepBut.blk hk (And.left (show IsS41 w _ g196 t208 t209 t210 t211 from by repeat (first | (with_reducible first | exact HI196.out | apply IsS41.alloc | apply IsS41.drewN | apply IsS41.drew | apply IsS41.set_0 | apply IsS41.set_1 | apply IsS41.set_2 | apply IsS41.set_3) | exact HI196.out))) NS196_201.out (by simp), And.right (show IsS41 w _ g196 t208 t209 t210 t211 from by repeat (first | (with_reducible first | exact HI196.out | apply IsS41.alloc | apply IsS41.drewN | apply IsS41.drew | apply IsS41.set_0 | apply IsS41.set_1 | apply IsS41.set_2 | apply IsS41.set_3) | exact HI196.out))⟩)); have n1_ := Aside0.mk ((show IsS41 w _ g206 t202 t203 t204 t205 from ⟨KeepBut.blk hk (And.left (show IsS41 w _ g206 t202 t203 t204 t205 from by repeat (first | (with_reducible first | exact HI206.out | apply IsS41.alloc | apply IsS41.drewN | apply IsS41.drew | apply IsS41.set_0 | apply IsS41.set_1 | apply IsS41.set_2 | apply IsS41.set_3) | exact HI206.out))) NS206_201.out (by simp), And.right (show IsS41 w _ g206 t202 t203 t204 t205 from by repeat (first | (with_reducible first | exact HI206.out | apply IsS41.alloc | apply IsS41.drewN | apply IsS41.drew | apply IsS41.set_0 | apply IsS41.set_1 | apply IsS41.set_2 | apply IsS41.set_3) | exact HI206.out))⟩)); have n2_ := Aside0.mk (hb); have n3_ := Aside0.mk (hi); clear HI196; clear HI206; clear HB; clear HI201; have HI196 := n0_; have HI206 := n1_; have HB := n2_; have HI201 := n3_; clear n0_ n1_ n2_ n3_; (try clear hb); (try clear hb2); (try clear hk); (try clear hi)))
      go_meet
      case rel => exact ⟨_, (t212), (by first | rfl | (simp; done) | (simp [*]; done)), H', ⟨by first | omega | exact Nat.le_refl _⟩, ⟨by repeat (first | (with_reducible first | exact HI206.out | apply IsS41.alloc | apply IsS41.drewN | apply IsS41.drew | apply IsS41.set_0 | apply IsS41.set_1 | apply IsS41.set_2 | apply IsS41.set_3) | exact HI206.out)⟩, ⟨by repeat (first | (with_reducible first | exact HB.out | apply below_alloc | apply pw_below_drewN | apply below_drew1 | refine below_set ?_ (IsS41.ge HI196.out) | refine below_set ?_ (IsS41.ge HI201.out) | refine below_set ?_ (IsS41.ge HI206.out)) | exact HB.out)⟩⟩
  case rest =>
    clear HC8
    try clear c1
    try clear p2
    try clear c4
    try clear c7
    try clear c8
    try clear c9
    try clear c16
    obtain ⟨kq, x35_7, rfl, HA, HJ7, HI206, HB⟩ := hcut
    cases kq with
    | zero => exact absurd HA.out (by simp [tabulariumlaw21_SafeShares.j0])
    | succ kj7 =>
      have H := HA.out
      clear HA
      simp only [tabulariumlaw21_SafeShares.j0] at H
      by_cases c21 : x35_7 = true
      · subst c21
        have H1 : (some false) = some r := by rw [if_pos rfl] at H; exact H
        clear H
        have H := H1
        clear H1
        obtain rfl := Option.some.inj H
        go_wp2
        go_ret
        exact ⟨by first | rfl | (simp [errW_none, errW_some] <;> rfl) | (simp [*, errW_none, errW_some] <;> rfl), by repeat (first | (with_reducible first | exact HB.out | apply below_alloc | apply pw_below_drewN | apply below_drew1 | refine below_set ?_ (IsS41.ge HI206.out)) | exact HB.out)⟩
      · replace c21 := Bool.eq_false_iff.mpr c21
        subst c21
        have H1 : (if (FloatKind.f64.format.order a0 a0 == some .eq) = true then (if (FloatKind.f64.format.order a0 4607182418800017408 == some .lt || FloatKind.f64.format.order a0 4607182418800017408 == some .eq) = true then (some t191) else (if a2 > 1000000 then (some t191) else (if a2 < 1 then (some t191) else (if t191 = true then ((safe_Safe_See.f t202 t203 t204 t205 a1 a2).bind fun bt217 => (some (bt217.1 == (decide (a1 < a2))))) else (some false))))) else (if a2 > 1000000 then (some t191) else (if a2 < 1 then (some t191) else (if t191 = true then ((safe_Safe_See.f t202 t203 t204 t205 a1 a2).bind fun bt222 => (some (bt222.1 == (decide (a1 < a2))))) else (some false))))) = some r := by rw [if_neg (show ¬ (false = true) by decide)] at H; exact H
        clear H
        have H := H1
        clear H1
        by_cases c22 : (FloatKind.f64.format.order a0 a0 == some .eq) = true
        · rw [if_pos c22] at H
          have c22b0 : (FloatKind.f64.format.order a0 a0 == some .eq) = true := c22
          clear c22
          by_cases c23 : (FloatKind.f64.format.order a0 4607182418800017408 == some .lt || FloatKind.f64.format.order a0 4607182418800017408 == some .eq) = true
          · rw [if_pos c23] at H
            have c23b0 : (FloatKind.f64.format.order a0 4607182418800017408 == some .lt || FloatKind.f64.format.order a0 4607182418800017408 == some .eq) = true := c23
            clear c23
            obtain rfl := Option.some.inj H
            go_wp2
            go_ret
            exact ⟨by first | rfl | (simp [errW_none, errW_some] <;> rfl) | (simp [*, errW_none, errW_some] <;> rfl), by repeat (first | (with_reducible first | exact HB.out | apply below_alloc | apply pw_below_drewN | apply below_drew1 | refine below_set ?_ (IsS41.ge HI206.out)) | exact HB.out)⟩
          · rw [if_neg c23] at H
            have c23b0 : (FloatKind.f64.format.order a0 4607182418800017408 == some .lt || FloatKind.f64.format.order a0 4607182418800017408 == some .eq) = false := Bool.eq_false_iff.mpr c23
            clear c23
            by_cases c24 : a2 > 1000000
            · rw [if_pos c24] at H
              have c24b0 : decide (1000000 < a2) = true := decide_eq_true c24
              clear c24
              obtain rfl := Option.some.inj H
              go_wp2
              go_ret
              exact ⟨by first | rfl | (simp [errW_none, errW_some] <;> rfl) | (simp [*, errW_none, errW_some] <;> rfl), by repeat (first | (with_reducible first | exact HB.out | apply below_alloc | apply pw_below_drewN | apply below_drew1 | refine below_set ?_ (IsS41.ge HI206.out)) | exact HB.out)⟩
            · rw [if_neg c24] at H
              have c24b0 : decide (1000000 < a2) = false := decide_eq_false c24
              clear c24
              by_cases c25 : a2 < 1
              · rw [if_pos c25] at H
                have c25b0 : decide (a2 < 1) = true := decide_eq_true c25
                clear c25
                obtain rfl := Option.some.inj H
                go_wp2
                go_ret
                exact ⟨by first | rfl | (simp [errW_none, errW_some] <;> rfl) | (simp [*, errW_none, errW_some] <;> rfl), by repeat (first | (with_reducible first | exact HB.out | apply below_alloc | apply pw_below_drewN | apply below_drew1 | refine below_set ?_ (IsS41.ge HI206.out)) | exact HB.out)⟩
              · rw [if_neg c25] at H
                have c25b0 : decide (a2 < 1) = false := decide_eq_false c25
                clear c25
                by_cases c26 : t191 = true
                · subst c26
                  have H1 : ((safe_Safe_See.f t202 t203 t204 t205 a1 a2).bind fun bt217 => (some (bt217.1 == (decide (a1 < a2))))) = some r := by rw [if_pos rfl] at H; exact H
                  clear H
                  have H := H1
                  clear H1
                  replace H := Option.bind_eq_some_iff.mp H
                  obtain ⟨⟨t217, t218, t219, t220, t221⟩, A270, H⟩ := H
                  replace H : (some (t217 == (decide (a1 < a2)))) = some r := H
                  have A27 := Aside0.mk A270
                  clear A270
                  obtain rfl := Option.some.inj H
                  go_wp2_with (first | (go_at_call 9; (with_reducible refine (safe_Safe_See.calls g206 t202 t203 t204 t205 a1 a2 t217 t218 t219 t220 t221 w _ ?side1 ?side2 A27.out).mono ?_); (case side1 => repeat (first | (with_reducible first | exact HI206.out | apply IsS41.alloc | apply IsS41.drewN | apply IsS41.drew | apply IsS41.set_0 | apply IsS41.set_1 | apply IsS41.set_2 | apply IsS41.set_3) | exact HI206.out)); (case side2 => repeat (first | (with_reducible first | exact HB.out | apply below_alloc | apply pw_below_drewN | apply below_drew1 | refine below_set ?_ (IsS41.ge HI206.out)) | exact HB.out)); rintro e w28 ⟨rfl, hi, hb, hk⟩; have n0_ := Aside0.mk (hb); have n1_ := Aside0.mk (hi); clear HB; clear HI206; have HB := n0_; have HI206 := n1_; clear n0_ n1_; (try clear hb); (try clear hb2); (try clear hk); (try clear hi)))
                  go_ret
                  exact ⟨by first | rfl | (simp [errW_none, errW_some] <;> rfl) | (simp [*, errW_none, errW_some] <;> rfl), by repeat (first | (with_reducible first | exact HB.out | apply below_alloc | apply pw_below_drewN | apply below_drew1 | refine below_set ?_ (IsS41.ge HI206.out)) | exact HB.out)⟩
                · replace c26 := Bool.eq_false_iff.mpr c26
                  subst c26
                  have H1 : (some false) = some r := by rw [if_neg (show ¬ (false = true) by decide)] at H; exact H
                  clear H
                  have H := H1
                  clear H1
                  obtain rfl := Option.some.inj H
                  go_wp2
                  go_ret
                  exact ⟨by first | rfl | (simp [errW_none, errW_some] <;> rfl) | (simp [*, errW_none, errW_some] <;> rfl), by repeat (first | (with_reducible first | exact HB.out | apply below_alloc | apply pw_below_drewN | apply below_drew1 | refine below_set ?_ (IsS41.ge HI206.out)) | exact HB.out)⟩
        · rw [if_neg c22] at H
          have c22b0 : (FloatKind.f64.format.order a0 a0 == some .eq) = false := Bool.eq_false_iff.mpr c22
          clear c22
          by_cases c29 : a2 > 1000000
          · rw [if_pos c29] at H
            have c29b0 : decide (1000000 < a2) = true := decide_eq_true c29
            clear c29
            obtain rfl := Option.some.inj H
            go_wp2
            go_ret
            exact ⟨by first | rfl | (simp [errW_none, errW_some] <;> rfl) | (simp [*, errW_none, errW_some] <;> rfl), by repeat (first | (with_reducible first | exact HB.out | apply below_alloc | apply pw_below_drewN | apply below_drew1 | refine below_set ?_ (IsS41.ge HI206.out)) | exact HB.out)⟩
          · rw [if_neg c29] at H
            have c29b0 : decide (1000000 < a2) = false := decide_eq_false c29
            clear c29
            by_cases c30 : a2 < 1
            · rw [if_pos c30] at H
              have c30b0 : decide (a2 < 1) = true := decide_eq_true c30
              clear c30
              obtain rfl := Option.some.inj H
              go_wp2
              go_ret
              exact ⟨by first | rfl | (simp [errW_none, errW_some] <;> rfl) | (simp [*, errW_none, errW_some] <;> rfl), by repeat (first | (with_reducible first | exact HB.out | apply below_alloc | apply pw_below_drewN | apply below_drew1 | refine below_set ?_ (IsS41.ge HI206.out)) | exact HB.out)⟩
            · rw [if_neg c30] at H
              have c30b0 : decide (a2 < 1) = false := decide_eq_false c30
              clear c30
              by_cases c31 : t191 = true
              · subst c31
                have H1 : ((safe_Safe_See.f t202 t203 t204 t205 a1 a2).bind fun bt222 => (some (bt222.1 == (decide (a1 < a2))))) = some r := by rw [if_pos rfl] at H; exact H
                clear H
                have H := H1
                clear H1
                replace H := Option.bind_eq_some_iff.mp H
                obtain ⟨⟨t222, t223, t224, t225, t226⟩, A320, H⟩ := H
                replace H : (some (t222 == (decide (a1 < a2)))) = some r := H
                have A32 := Aside0.mk A320
                clear A320
                obtain rfl := Option.some.inj H
                go_wp2_with (first | (go_at_call 9; (with_reducible refine (safe_Safe_See.calls g206 t202 t203 t204 t205 a1 a2 t222 t223 t224 t225 t226 w _ ?side1 ?side2 A32.out).mono ?_); (case side1 => repeat (first | (with_reducible first | exact HI206.out | apply IsS41.alloc | apply IsS41.drewN | apply IsS41.drew | apply IsS41.set_0 | apply IsS41.set_1 | apply IsS41.set_2 | apply IsS41.set_3) | exact HI206.out)); (case side2 => repeat (first | (with_reducible first | exact HB.out | apply below_alloc | apply pw_below_drewN | apply below_drew1 | refine below_set ?_ (IsS41.ge HI206.out)) | exact HB.out)); rintro e w33 ⟨rfl, hi, hb, hk⟩; have n0_ := Aside0.mk (hb); have n1_ := Aside0.mk (hi); clear HB; clear HI206; have HB := n0_; have HI206 := n1_; clear n0_ n1_; (try clear hb); (try clear hb2); (try clear hk); (try clear hi)))
                go_ret
                exact ⟨by first | rfl | (simp [errW_none, errW_some] <;> rfl) | (simp [*, errW_none, errW_some] <;> rfl), by repeat (first | (with_reducible first | exact HB.out | apply below_alloc | apply pw_below_drewN | apply below_drew1 | refine below_set ?_ (IsS41.ge HI206.out)) | exact HB.out)⟩
              · replace c31 := Bool.eq_false_iff.mpr c31
                subst c31
                have H1 : (some false) = some r := by rw [if_neg (show ¬ (false = true) by decide)] at H; exact H
                clear H
                have H := H1
                clear H1
                obtain rfl := Option.some.inj H
                go_wp2
                go_ret
                exact ⟨by first | rfl | (simp [errW_none, errW_some] <;> rfl) | (simp [*, errW_none, errW_some] <;> rfl), by repeat (first | (with_reducible first | exact HB.out | apply below_alloc | apply pw_below_drewN | apply below_drew1 | refine below_set ?_ (IsS41.ge HI206.out)) | exact HB.out)⟩

/-- THE ONE PURE STATEMENT of tabulariumlaw21_SafeShares: yours. -/
def tabulariumlaw21_SafeShares.Pure : Prop := ∀ (a0 : Nat) (a1 : Int) (a2 : Int), (Lit.float .f64 a0).wf = true → (Lit.int .i64 a1).wf = true → (Lit.int .i64 a2).wf = true → ∃ k, tabulariumlaw21_SafeShares.f k a0 a1 a2 = some true
theorem tabulariumlaw21_SafeShares.walk (P : tabulariumlaw21_SafeShares.Pure) (a0 : Nat) (a1 : Int) (a2 : Int) (w : World) (w0 : (Lit.float .f64 a0).wf = true) (w1 : (Lit.int .i64 a1).wf = true) (w2 : (Lit.int .i64 a2).wf = true) :
    Calls Try.prog 4 #[.float .f64 a0, .int .i64 a1, .int .i64 a2] w fun e w' => e = .returned (.bool true) ∧ Below w.heap.size w w' := by
  obtain ⟨k, h⟩ := P a0 a1 a2 w0 w1 w2
  refine (tabulariumlaw21_SafeShares.calls k a0 a1 a2 true w h).mono ?_
  rintro e w' ⟨rfl, hd⟩
  exact ⟨rfl, hd⟩

end Go.Proofs.Ytabgoiacjfekpaa.P
