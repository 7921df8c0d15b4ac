/- The Go functions of this seat as plain Lean functions, and for each the proof that its call gives what the plain function gives. Printed by a program of this session. -/
import Derived.Test.YtabgoiacjfekpaaPz
import Derived.Test.YtabgoiacjfekpaaPx0
import Derived.Test.YtabgoiacjfekpaaPx2
import Derived.Test.YtabgoiacjfekpaaPx3
import Derived.Test.YtabgoiacjfekpaaPx4
import Derived.Test.YtabgoiacjfekpaaPx5
namespace Go.Proofs.Ytabgoiacjfekpaa.P
open Go.RowKit Go.Proofs.YtabgoiacjfekpaaW.PrintWords Go.Proofs.YtabgoiacjfekpaaW.PrintLast Go.Proofs.YtabgoiacjfekpaaW.PrintMore
attribute [local go_sem] max2_int min2_int max_two min_two max_three min_three max_four min_four   -- for this text's walks alone
set_option linter.unusedVariables false
set_option linter.unusedSimpArgs false

theorem nw41 {w W W' : World} {g : Nat} {f0 : Nat} {f1 : Bool} {f2 : Int} {f3 : Int} {x0 : Nat} {x1 : Bool} {x2 : Int} {x3 : Int} (h : Aside0 (IsS41 w W g f0 f1 f2 f3)) (k : IsS41 w W g f0 f1 f2 f3 → IsS41 w W' g x0 x1 x2 x3 := by (intro h_; repeat (first | (with_reducible first | exact h_ | apply IsS41.alloc | apply IsS41.drewN | apply IsS41.drew | apply IsS41.set_0 | apply IsS41.set_1 | apply IsS41.set_2 | apply IsS41.set_3) | exact h_))) : IsS41 w W' g x0 x1 x2 x3 := k h.out
theorem hk41 {w V U W W1 : World} {g : Nat} {f0 : Nat} {f1 : Bool} {f2 : Int} {f3 : Int} {x0 : Nat} {x1 : Bool} {x2 : Int} {x3 : Int} {α : Type} {d : Kd α} {e : Nat} {base : Nat} {ok : Nat → Prop} {v : Value} {xs : List α} (h : Aside0 (IsS41 w V g f0 f1 f2 f3)) (ho : Aside0 (d.R e U base ok v xs)) (hk : KeepBut W W1 g none) (ht : ∀ q, q ∈ e :: d.E → q ≠ 41 := by decide) (k : IsS41 w V g f0 f1 f2 f3 → IsS41 w W g x0 x1 x2 x3 := by (intro h_; repeat (first | (with_reducible first | exact h_ | apply IsS41.alloc | apply IsS41.drewN | apply IsS41.drew | apply IsS41.set_0 | apply IsS41.set_1 | apply IsS41.set_2 | apply IsS41.set_3) | exact h_))) (kr : d.R e U base ok v xs → d.R e W base ok v xs := by (intro h_; (with_reducible repeat (first | exact h_ | apply Kd.R_alloc | apply Kd.R_drewN | apply Kd.R_drew)))) : d.R e W1 base ok v xs := Kd.R_mono (Kd.R_keep (IsS41.apart (k h.out) (kr ho.out) ht) hk (fun _ h => h.2)) (fun _ h => h.1)
theorem kb41 {w V W W1 : World} {g g' : Nat} {f0 : Nat} {f1 : Bool} {f2 : Int} {f3 : Int} {x0 : Nat} {x1 : Bool} {x2 : Int} {x3 : Int} (h : Aside0 (IsS41 w V g' f0 f1 f2 f3)) (hk : KeepBut W W1 g none) (hn : g' ≠ g) (k : IsS41 w V g' f0 f1 f2 f3 → IsS41 w W g' x0 x1 x2 x3 := by (intro h_; repeat (first | (with_reducible first | exact h_ | apply IsS41.alloc | apply IsS41.drewN | apply IsS41.drew | apply IsS41.set_0 | apply IsS41.set_1 | apply IsS41.set_2 | apply IsS41.set_3) | exact h_))) : IsS41 w W1 g' x0 x1 x2 x3 := ⟨KeepBut.blk hk (And.left (k h.out)) hn (by simp), And.right (k h.out)⟩

/-! ### tabulariumlaw21_SafeOrder: function 5 -/
def tabulariumlaw21_SafeOrder.l0 : Nat → Nat → Nat → Bool → List Int → Int → Nat → Bool → Int → Int → Nat → Bool → Int → Int → Nat → Bool → Int → Int → Option (Bool)
  | 0, _, _, _, _, _, _, _, _, _, _, _, _, _, _, _, _, _ => none
  | k + 1, x0, x1, x11, x15, x16, x233000, x233001, x233002, x233003, x238000, x238001, x238002, x238003, x243000, x243001, x243002, x243003 => if x16 < 3 then (if 0 ≤ x16 then (if x16 < (x15.length : Int) then (if (rd x15 x16) < 0 then ((some (x15.set (x16 : Int).toNat (wrap64 (-(wrap64 ((rd x15 x16) + 1)))) : List Int)).bind fun y248 => (tabulariumlaw21_SafeOrder.l0 k x0 x1 x11 (y248.set (x16 : Int).toNat (Int.tmod (rd y248 x16) 1000001)) (wrap64 (x16 + 1)) x233000 x233001 x233002 x233003 x238000 x238001 x238002 x238003 x243000 x243001 x243002 x243003)) else (tabulariumlaw21_SafeOrder.l0 k x0 x1 x11 (x15.set (x16 : Int).toNat (Int.tmod (rd x15 x16) 1000001)) (wrap64 (x16 + 1)) x233000 x233001 x233002 x233003 x238000 x238001 x238002 x238003 x243000 x243001 x243002 x243003)) else (none)) else (none)) else (if 0 < (x15.length : Int) then (if 2 < (x15.length : Int) then ((safe_Safe_See.f x233000 x233001 x233002 x233003 (rd x15 0) (rd x15 2)).bind fun bt255 => ((safe_Safe_See.f x238000 x238001 x238002 x238003 (rd x15 0) (rd x15 2)).bind fun bt262 => (if 1 < (x15.length : Int) then ((safe_Safe_See.f x243000 x243001 x243002 x243003 (wrap64 ((rd x15 0) + (rd x15 1))) (rd x15 2)).bind fun bt270 => (if x11 = true then (if (FloatKind.f64.format.order x1 x0 == some .lt || FloatKind.f64.format.order x1 x0 == some .eq) = true then ((safe_Safe_Missing.f k bt262.2.1 bt262.2.2.1 bt262.2.2.2.1 bt262.2.2.2.2).bind fun bt275 => ((safe_Safe_Missing.f k bt255.2.1 bt255.2.2.1 bt255.2.2.2.1 bt255.2.2.2.2).bind fun bt280 => (if bt275.1 ≤ bt280.1 then ((safe_Safe_Missing.f k bt270.2.1 bt270.2.2.1 bt270.2.2.2.1 bt270.2.2.2.2).bind fun bt285 => ((safe_Safe_Missing.f k bt280.2.1 bt280.2.2.1 bt280.2.2.2.1 bt280.2.2.2.2).bind fun bt290 => (if bt285.1 ≤ bt290.1 then ((safe_Safe_Missing.f k bt290.2.1 bt290.2.2.1 bt290.2.2.2.1 bt290.2.2.2.2).bind fun bt295 => (if bt295.1 ≥ 0 then ((safe_Safe_Missing.f k bt295.2.1 bt295.2.2.1 bt295.2.2.2.1 bt295.2.2.2.2).bind fun bt300 => (some (decide (bt300.1 ≤ (rd x15 2))))) else (some false))) else (some false)))) else (some false)))) else ((safe_Safe_Missing.f k bt270.2.1 bt270.2.2.1 bt270.2.2.2.1 bt270.2.2.2.2).bind fun bt306 => ((safe_Safe_Missing.f k bt255.2.1 bt255.2.2.1 bt255.2.2.2.1 bt255.2.2.2.2).bind fun bt311 => (if bt306.1 ≤ bt311.1 then ((safe_Safe_Missing.f k bt311.2.1 bt311.2.2.1 bt311.2.2.2.1 bt311.2.2.2.2).bind fun bt316 => (if bt316.1 ≥ 0 then ((safe_Safe_Missing.f k bt316.2.1 bt316.2.2.1 bt316.2.2.2.1 bt316.2.2.2.2).bind fun bt321 => (some (decide (bt321.1 ≤ (rd x15 2))))) else (some false))) else (some false))))) else (some false))) else (none)))) else (none)) else (none))
def tabulariumlaw21_SafeOrder.f (k : Nat) (a0 : Nat) (a1 : Nat) (a2 : Int) (a3 : Int) (a4 : Int) : Option (Bool) := (tabulariumlaw21_examples.f k).bind fun t227 => ((safe_New.f k a0).bind fun bt228 => ((safe_New.f k a1).bind fun bt233 => ((safe_New.f k a0).bind fun bt238 => (tabulariumlaw21_SafeOrder.l0 k a0 a1 t227 (([a2, a3, a4] : List Int)) 0 bt228.1 bt228.2.1 bt228.2.2.1 bt228.2.2.2 bt233.1 bt233.2.1 bt233.2.2.1 bt233.2.2.2 bt238.1 bt238.2.1 bt238.2.2.1 bt238.2.2.2))))
theorem tabulariumlaw21_SafeOrder.mono_l : ∀ k, (∀ y0 y1 y2 y3 y4 y5 y6 y7 y8 y9 y10 y11 y12 y13 y14 y15 y16, LeO (tabulariumlaw21_SafeOrder.l0 k y0 y1 y2 y3 y4 y5 y6 y7 y8 y9 y10 y11 y12 y13 y14 y15 y16) (tabulariumlaw21_SafeOrder.l0 (k + 1) y0 y1 y2 y3 y4 y5 y6 y7 y8 y9 y10 y11 y12 y13 y14 y15 y16))
  | 0 => fun _ _ _ _ _ _ _ _ _ _ _ _ _ _ _ _ _ r h => by simp [tabulariumlaw21_SafeOrder.l0] at h
  | k + 1 => by
    have ih0 := tabulariumlaw21_SafeOrder.mono_l k
    · intro y0 y1 y2 y3 y4 y5 y6 y7 y8 y9 y10 y11 y12 y13 y14 y15 y16
      unfold tabulariumlaw21_SafeOrder.l0
      repeat' first
      | (with_reducible exact ih0 _ _ _ _ _ _ _ _ _ _ _ _ _ _ _ _ _)
      | (with_reducible exact safe_New.mono _ _)
      | (with_reducible exact safe_Safe_Missing.mono _ _ _ _ _)
      | (with_reducible exact tabulariumlaw21_examples.mono _)
      | (with_reducible exact LeO.refl _)
      | (with_reducible exact LeO.none _)
      | (with_reducible refine LeO.ite ?_ ?_)
      | (with_reducible refine LeO.bind ?_ (fun _ => ?_))
      | exact ih0 _ _ _ _ _ _ _ _ _ _ _ _ _ _ _ _ _
      | exact safe_New.mono _ _
      | exact safe_Safe_Missing.mono _ _ _ _ _
      | exact tabulariumlaw21_examples.mono _
      | exact LeO.none _
      | refine LeO.ite ?_ ?_
      | refine LeO.bind ?_ (fun _ => ?_)
theorem tabulariumlaw21_SafeOrder.mono : ∀ a0 a1 a2 a3 a4 k, LeO (tabulariumlaw21_SafeOrder.f k a0 a1 a2 a3 a4) (tabulariumlaw21_SafeOrder.f (k + 1) a0 a1 a2 a3 a4) := by
  intro a0 a1 a2 a3 a4 k
  have ih0 := tabulariumlaw21_SafeOrder.mono_l k
  unfold tabulariumlaw21_SafeOrder.f
  repeat' first
      | (with_reducible exact ih0 _ _ _ _ _ _ _ _ _ _ _ _ _ _ _ _ _)
      | (with_reducible exact safe_New.mono _ _)
      | (with_reducible exact safe_Safe_Missing.mono _ _ _ _ _)
      | (with_reducible exact tabulariumlaw21_examples.mono _)
      | (with_reducible exact LeO.refl _)
      | (with_reducible exact LeO.none _)
      | (with_reducible refine LeO.ite ?_ ?_)
      | (with_reducible refine LeO.bind ?_ (fun _ => ?_))
      | exact ih0 _ _ _ _ _ _ _ _ _ _ _ _ _ _ _ _ _
      | exact safe_New.mono _ _
      | exact safe_Safe_Missing.mono _ _ _ _ _
      | exact tabulariumlaw21_examples.mono _
      | exact LeO.none _
      | refine LeO.ite ?_ ?_
      | refine LeO.bind ?_ (fun _ => ?_)
def tabulariumlaw21_SafeOrder.T14 : Bool × List (List Nat × List Nat) := (true, [([], []), ([], []), ([1], [1]), ([2], [2]), ([], []), ([4], [4]), ([5], [5]), ([0, 3, 6], [0, 3, 6])])
def tabulariumlaw21_SafeOrder.B14 : List Nat := [0, 0, 2, 6, 0, 16, 48, 127]
theorem tabulariumlaw21_SafeOrder.tab14 : rtab .any (opsOf Try.f5 14) = tabulariumlaw21_SafeOrder.T14 := by kernel_rfl
theorem tabulariumlaw21_SafeOrder.bits14 : waitsOk tabulariumlaw21_SafeOrder.T14.2 tabulariumlaw21_SafeOrder.B14 = true := by kernel_rfl
def tabulariumlaw21_SafeOrder.T15 : Bool × List (List Nat × List Nat) := (true, [([], []), ([], []), ([1], [1]), ([2], [2]), ([], []), ([4], [4]), ([5], [5]), ([0, 3, 6], [0, 3, 6])])
def tabulariumlaw21_SafeOrder.B15 : List Nat := [0, 0, 2, 6, 0, 16, 48, 127]
theorem tabulariumlaw21_SafeOrder.tab15 : rtab .any (opsOf Try.f5 15) = tabulariumlaw21_SafeOrder.T15 := by kernel_rfl
theorem tabulariumlaw21_SafeOrder.bits15 : waitsOk tabulariumlaw21_SafeOrder.T15.2 tabulariumlaw21_SafeOrder.B15 = true := by kernel_rfl
def tabulariumlaw21_SafeOrder.T16 : Bool × List (List Nat × List Nat) := (true, [([], []), ([], []), ([1], [1]), ([2], [2]), ([], []), ([4], [4]), ([5], [5]), ([3, 6], [3, 6]), ([], []), ([8], [8]), ([9], [9]), ([0, 7, 10], [0, 7, 10])])
def tabulariumlaw21_SafeOrder.B16 : List Nat := [0, 0, 2, 6, 0, 16, 48, 126, 0, 256, 768, 2047]
theorem tabulariumlaw21_SafeOrder.tab16 : rtab .any (opsOf Try.f5 16) = tabulariumlaw21_SafeOrder.T16 := by kernel_rfl
theorem tabulariumlaw21_SafeOrder.bits16 : waitsOk tabulariumlaw21_SafeOrder.T16.2 tabulariumlaw21_SafeOrder.B16 = true := by kernel_rfl
def tabulariumlaw21_SafeOrder.T17 : Bool × List (List Nat × List Nat) := (true, [([], []), ([0], [0]), ([1], [1]), ([1], [1]), ([2, 3, 1], [1, 2, 3]), ([4, 1], [1, 4]), ([5, 1, 1], [1, 5]), ([6], [6]), ([7, 6, 6], [6, 7]), ([6], [6]), ([9, 8, 6], [6, 9]), ([8, 10, 6], [6, 8, 10]), ([6, 11, 1], [1, 6, 11]), ([1, 12], [1, 12]), ([13, 10], [13]), ([14], [14]), ([15, 14, 14], [14, 15]), ([14], [14]), ([17, 16, 14], [14, 17]), ([16, 18, 14], [14, 16, 18]), ([14, 19], [14, 19]), ([20, 18], [20]), ([21], [21]), ([22, 21, 21], [21, 22]), ([23, 21], [21, 23]), ([21, 24], [21, 24]), ([25, 23], [25]), ([26], [26]), ([27, 26, 26], [26, 27]), ([26], [26]), ([29, 26], [26, 29]), ([30, 26], [26, 30]), ([28, 31, 26], [26, 28, 31]), ([26, 32], [26, 32]), ([33, 28, 0, 1, 2, 3, 4, 5, 6, 7, 8, 9, 10, 11, 12, 13, 14, 15, 16, 17, 18, 19, 20, 21, 22, 23, 24, 25, 26, 27, 28, 29, 30, 31, 32, 33], [33])])
def tabulariumlaw21_SafeOrder.B17 : List Nat := [0, 1, 3, 3, 15, 31, 63, 127, 255, 127, 1023, 2047, 4095, 8191, 16383, 32767, 65535, 32767, 262143, 524287, 1048575, 2097151, 4194303, 8388607, 16777215, 33554431, 67108863, 134217727, 268435455, 134217727, 671088639, 1744830463, 4294967295, 8589934591, 17179869183]
theorem tabulariumlaw21_SafeOrder.tab17 : rtab .any (opsOf Try.f5 17) = tabulariumlaw21_SafeOrder.T17 := by kernel_rfl
theorem tabulariumlaw21_SafeOrder.bits17 : waitsOk tabulariumlaw21_SafeOrder.T17.2 tabulariumlaw21_SafeOrder.B17 = true := by kernel_rfl
set_option maxHeartbeats 8000000 in
set_option maxRecDepth 100000 in
theorem tabulariumlaw21_SafeOrder.calls (k : Nat) (a0 : Nat) (a1 : Nat) (a2 : Int) (a3 : Int) (a4 : Int) (r : Bool) (w : World) (h : tabulariumlaw21_SafeOrder.f k a0 a1 a2 a3 a4 = some r) :
    Calls Try.prog 5 #[.float .f64 a0, .float .f64 a1, .int .i64 a2, .int .i64 a3, .int .i64 a4] w fun e w' => e = .returned (.bool r) ∧ Below w.heap.size w w' := by
  have HB := Aside0.mk (Below.refl w.heap.size w)
  have H : ((tabulariumlaw21_examples.f k).bind fun t227 => ((safe_New.f k a0).bind fun bt228 => ((safe_New.f k a1).bind fun bt233 => ((safe_New.f k a0).bind fun bt238 => (tabulariumlaw21_SafeOrder.l0 k a0 a1 t227 (([a2, a3, a4] : List Int)) 0 bt228.1 bt228.2.1 bt228.2.2.1 bt228.2.2.2 bt233.1 bt233.2.1 bt233.2.2.1 bt233.2.2.2 bt238.1 bt238.2.1 bt238.2.2.1 bt238.2.2.2))))) = some r := h
  clear h
  replace H := Option.bind_eq_some_iff.mp H
  obtain ⟨t227, A60, H⟩ := H
  replace H : ((safe_New.f k a0).bind fun bt228 => ((safe_New.f k a1).bind fun bt233 => ((safe_New.f k a0).bind fun bt238 => (tabulariumlaw21_SafeOrder.l0 k a0 a1 t227 (([a2, a3, a4] : List Int)) 0 bt228.1 bt228.2.1 bt228.2.2.1 bt228.2.2.2 bt233.1 bt233.2.1 bt233.2.2.1 bt233.2.2.2 bt238.1 bt238.2.1 bt238.2.2.1 bt238.2.2.2)))) = some r := H
  have A6 := Aside0.mk A60
  clear A60
  replace H := Option.bind_eq_some_iff.mp H
  obtain ⟨⟨t228, t229, t230, t231⟩, A70, H⟩ := H
  replace H : ((safe_New.f k a1).bind fun bt233 => ((safe_New.f k a0).bind fun bt238 => (tabulariumlaw21_SafeOrder.l0 k a0 a1 t227 (([a2, a3, a4] : List Int)) 0 t228 t229 t230 t231 bt233.1 bt233.2.1 bt233.2.2.1 bt233.2.2.2 bt238.1 bt238.2.1 bt238.2.2.1 bt238.2.2.2))) = some r := H
  have A7 := Aside0.mk A70
  clear A70
  replace H := Option.bind_eq_some_iff.mp H
  obtain ⟨⟨t233, t234, t235, t236⟩, A80, H⟩ := H
  replace H : ((safe_New.f k a0).bind fun bt238 => (tabulariumlaw21_SafeOrder.l0 k a0 a1 t227 (([a2, a3, a4] : List Int)) 0 t228 t229 t230 t231 t233 t234 t235 t236 bt238.1 bt238.2.1 bt238.2.2.1 bt238.2.2.2)) = some r := H
  have A8 := Aside0.mk A80
  clear A80
  replace H := Option.bind_eq_some_iff.mp H
  obtain ⟨⟨t238, t239, t240, t241⟩, A90, H⟩ := H
  replace H : (tabulariumlaw21_SafeOrder.l0 k a0 a1 t227 (([a2, a3, a4] : List Int)) 0 t228 t229 t230 t231 t233 t234 t235 t236 t238 t239 t240 t241) = some r := H
  have A9 := Aside0.mk A90
  clear A90
  obtain ⟨y243, hy243⟩ : ∃ y_ : List Int, y_ = (([a2, a3, a4] : List Int)) := ⟨_, rfl⟩
  replace H : (tabulariumlaw21_SafeOrder.l0 k a0 a1 t227 y243 0 t228 t229 t230 t231 t233 t234 t235 t236 t238 t239 t240 t241) = some r := by first | (rw [hy243]; with_reducible exact H) | (have H2_ := (Option.bind_some _ _).symm.trans H; rw [hy243]; with_reducible exact H2_) | (have H2_ := (Option.bind_some _ _).symm.trans H; with_reducible exact H2_) | with_reducible exact H | (rw [hy243]; exact H) | exact H
  have Ny243 := Aside0.mk hy243
  clear hy243
  have H' := Aside0.mk H
  clear H
  go_enter Try.func5, Try.ntmps5
  go_wp2_with (first | ((with_reducible refine gate_callee (f := 7) rfl ?_); refine goesL_ (some 17) rfl rfl Try.func7 (by kernel_rfl) rfl #[] rfl (by (try simp only [List.map_toArray, List.map_cons, List.map_nil]); first | done | rfl | (simp only [List.length_drop, List.length_take]; rfl)) ?_; (with_reducible refine (tabulariumlaw21_examples.calls k  t227 _ A6.out).mono ?_); rintro e w10 ⟨rfl, hb⟩; refine ⟨_, rfl, ?_⟩; have n0_ := Aside0.mk (below_step (by repeat (first | (with_reducible first | exact HB.out | apply below_alloc | apply pw_below_drewN | apply below_drew1) | exact HB.out)) hb); clear HB; have HB := n0_; clear n0_; (try clear hb); (try clear hb2); (try clear hk); (try clear hi)) | ((with_reducible refine gate_callee (f := 8) rfl ?_); refine goesL_ (some 19) rfl rfl Try.func8 (by kernel_rfl) rfl #[.float .f64 a0] rfl (by (try simp only [List.map_toArray, List.map_cons, List.map_nil]); first | done | rfl | (simp only [List.length_drop, List.length_take]; rfl)) ?_; (with_reducible refine (safe_New.calls k a0 t228 t229 t230 t231 w _ ?side1 A7.out).mono ?_); (case side1 => exact bw0 HB); rintro e w11 ⟨g232, rfl, hi, hb, hb2⟩; refine ⟨_, rfl, ?_⟩; have n0_ := Aside0.mk (hb); have n1_ := Aside0.mk (hi); clear HB; have HB := n0_; have HI232 := n1_; clear n0_ n1_; (try clear hb); (try clear hb2); (try clear hk); (try clear hi)) | ((with_reducible refine gate_callee (f := 8) rfl ?_); refine goesL_ (some 21) rfl rfl Try.func8 (by kernel_rfl) rfl #[.float .f64 a1] rfl (by (try simp only [List.map_toArray, List.map_cons, List.map_nil]); first | done | rfl | (simp only [List.length_drop, List.length_take]; rfl)) ?_; (with_reducible refine (safe_New.calls k a1 t233 t234 t235 t236 ?wz12 _ ?side1 A8.out).mono ?_); (case side1 => exact Below.refl _ _); rintro e w13 ⟨g237, rfl, hi, hb, hb2⟩; refine ⟨_, rfl, ?_⟩; have n0_ := Aside0.mk (IsS41.below (nw41 HI232) hb2); have n1_ := Aside0.mk (below_step (by repeat (first | (with_reducible first | exact HB.out | apply below_alloc | apply pw_below_drewN | apply below_drew1 | refine below_set ?_ (IsS41.ge HI232.out)) | exact HB.out)) hb2); have n2_ := Aside0.mk ((show IsS41 w _ _ t233 t234 t235 t236 from ⟨hi.1, Nat.le_trans (below_size (by repeat (first | (with_reducible first | exact HB.out | apply below_alloc | apply pw_below_drewN | apply below_drew1 | refine below_set ?_ (IsS41.ge HI232.out)) | exact HB.out))) hi.2⟩)); have n3_ := Aside0.mk ((Nat.ne_of_lt (Nat.lt_of_lt_of_le (IsS41.lt (show IsS41 w _ g232 t228 t229 t230 t231 from nw41 HI232)) hi.2) : g232 ≠ g237)); have n4_ := Aside0.mk ((Nat.ne_of_gt (Nat.lt_of_lt_of_le (IsS41.lt (show IsS41 w _ g232 t228 t229 t230 t231 from nw41 HI232)) hi.2) : g237 ≠ g232)); clear HI232; clear HB; have HI232 := n0_; have HB := n1_; have HI237 := n2_; have NS232_237 := n3_; have NS237_232 := n4_; clear n0_ n1_ n2_ n3_ n4_; (try clear hb); (try clear hb2); (try clear hk); (try clear hi)) | ((with_reducible refine gate_callee (f := 8) rfl ?_); refine goesL_ (some 23) rfl rfl Try.func8 (by kernel_rfl) rfl #[.float .f64 a0] rfl (by (try simp only [List.map_toArray, List.map_cons, List.map_nil]); first | done | rfl | (simp only [List.length_drop, List.length_take]; rfl)) ?_; (with_reducible refine (safe_New.calls k a0 t238 t239 t240 t241 ?wz14 _ ?side1 A9.out).mono ?_); (case side1 => exact Below.refl _ _); rintro e w15 ⟨g242, rfl, hi, hb, hb2⟩; refine ⟨_, rfl, ?_⟩; have n0_ := Aside0.mk (IsS41.below (nw41 HI232) hb2); have n1_ := Aside0.mk (IsS41.below (nw41 HI237) hb2); have n2_ := Aside0.mk (below_step (by repeat (first | (with_reducible first | exact HB.out | apply below_alloc | apply pw_below_drewN | apply below_drew1 | refine below_set ?_ (IsS41.ge HI232.out) | refine below_set ?_ (IsS41.ge HI237.out)) | exact HB.out)) hb2); have n3_ := Aside0.mk ((show IsS41 w _ _ t238 t239 t240 t241 from ⟨hi.1, Nat.le_trans (below_size (by repeat (first | (with_reducible first | exact HB.out | apply below_alloc | apply pw_below_drewN | apply below_drew1 | refine below_set ?_ (IsS41.ge HI232.out) | refine below_set ?_ (IsS41.ge HI237.out)) | exact HB.out))) hi.2⟩)); have n4_ := Aside0.mk ((Nat.ne_of_lt (Nat.lt_of_lt_of_le (IsS41.lt (show IsS41 w _ g232 t228 t229 t230 t231 from nw41 HI232)) hi.2) : g232 ≠ g242)); have n5_ := Aside0.mk ((Nat.ne_of_gt (Nat.lt_of_lt_of_le (IsS41.lt (show IsS41 w _ g232 t228 t229 t230 t231 from nw41 HI232)) hi.2) : g242 ≠ g232)); have n6_ := Aside0.mk ((Nat.ne_of_lt (Nat.lt_of_lt_of_le (IsS41.lt (show IsS41 w _ g237 t233 t234 t235 t236 from nw41 HI237)) hi.2) : g237 ≠ g242)); have n7_ := Aside0.mk ((Nat.ne_of_gt (Nat.lt_of_lt_of_le (IsS41.lt (show IsS41 w _ g237 t233 t234 t235 t236 from nw41 HI237)) hi.2) : g242 ≠ g237)); clear HI232; clear HI237; clear HB; have HI232 := n0_; have HI237 := n1_; have HB := n2_; have HI242 := n3_; have NS232_242 := n4_; have NS242_232 := n5_; have NS237_242 := n6_; have NS242_237 := n7_; clear n0_ n1_ n2_ n3_ n4_ n5_ n6_ n7_; (try clear hb); (try clear hb2); (try clear hk); (try clear hi)) | ((with_reducible refine gate_dst (N := 37) rfl ?_); refine Kd.R_lit (Kd.int .i64) _ 3 ?hg (N := 37) ?hd (xs := ([a2, a3, a4] : List Int)) (inner := [.int .i64 a2, .int .i64 a3, .int .i64 a4]) (ok := fun _ => True) (okp := fun _ => True) ?hr ?hp (fun _ hk => hk) trivial (Below.refl _ _) (Nat.le_refl _) (by simp) ?_; (case hd => rfl); (case hg => rfl); (case hr => first | (go_simp; done) | (go_simp; rfl)); (case hp => exact (Reps.one (show Kd.M (Kd.int .i64) _ _ _ a2 [.int .i64 a2] from rfl) (Reps.one (show Kd.M (Kd.int .i64) _ _ _ a3 [.int .i64 a3] from rfl) (Reps.one (show Kd.M (Kd.int .i64) _ _ _ a4 [.int .i64 a4] from rfl) (Reps.none _ _))))); intro v244 w16 ho17 hb hg_ hnew_; clear hg_ hnew_; (first | rw [← Ny243.out] at ho17 | (simp only [Int.reduceToNat] at ho17; rw [← Ny243.out] at ho17)); have n0_ := Aside0.mk (Kd.R_lower ho17 (below_size (by repeat (first | (with_reducible first | exact HB.out | apply below_alloc | apply pw_below_drewN | apply below_drew1 | refine below_set ?_ (IsS41.ge HI232.out) | refine below_set ?_ (IsS41.ge HI237.out) | refine below_set ?_ (IsS41.ge HI242.out)) | exact HB.out)))); have n1_ := Aside0.mk (IsS41.below (nw41 HI232) hb); have n2_ := Aside0.mk (IsS41.below (nw41 HI237) hb); have n3_ := Aside0.mk (IsS41.below (nw41 HI242) hb); have n4_ := Aside0.mk (below_step (by repeat (first | (with_reducible first | exact HB.out | apply below_alloc | apply pw_below_drewN | apply below_drew1 | refine below_set ?_ (IsS41.ge HI232.out) | refine below_set ?_ (IsS41.ge HI237.out) | refine below_set ?_ (IsS41.ge HI242.out)) | exact HB.out)) hb); clear HI232; clear HI237; clear HI242; clear HB; have HO245 := n0_; have HI232 := n1_; have HI237 := n2_; have HI242 := n3_; have HB := n4_; clear n0_ n1_ n2_ n3_ n4_; clear hb ho17))
  go_loopg [16] k (fun kq v16 w' => ∃ (x15_1 : List Int) (x16_1 : Int), v16 = .int .i64 x16_1 ∧ Aside0 (tabulariumlaw21_SafeOrder.l0 kq a0 a1 t227 x15_1 x16_1 t228 t229 t230 t231 t233 t234 t235 t236 t238 t239 t240 t241 = some r) ∧ Aside0 (kq ≤ k) ∧ Aside0 (Kd.R (Kd.int .i64) 3 w' w.heap.size (fun _ => True) v244 x15_1) ∧ Aside0 (IsS41 w w' g232 t228 t229 t230 t231) ∧ Aside0 (IsS41 w w' g237 t233 t234 t235 t236) ∧ Aside0 (IsS41 w w' g242 t238 t239 t240 t241) ∧ Aside0 (Below w.heap.size w w'))
  case atStart => exact ⟨(y243), (0), (by first | rfl | (simp; done) | (simp [*]; done)), H', ⟨Nat.le_refl _⟩, ⟨by (with_reducible repeat (first | apply Kd.R_alloc | apply Kd.R_drewN | apply Kd.R_drew)); exact HO245.out⟩, ⟨nw41 HI232⟩, ⟨nw41 HI237⟩, ⟨nw41 HI242⟩, ⟨by repeat (first | (with_reducible first | exact HB.out | apply below_alloc | apply pw_below_drewN | apply below_drew1 | refine below_set ?_ (IsS41.ge HI232.out) | refine below_set ?_ (IsS41.ge HI237.out) | refine below_set ?_ (IsS41.ge HI242.out)) | exact HB.out)⟩⟩
  case round =>
    clear H'
    try clear p2
    try clear c5
    try clear c7
    try clear c8
    obtain ⟨x15_1, x16_1, rfl, HA, HK1, HO_15, HI232, HI237, HI242, HB⟩ := hrel
    cases gk with
    | zero => exact absurd HA.out (by simp [tabulariumlaw21_SafeOrder.l0])
    | succ k1 =>
      have H := HA.out
      clear HA
      simp only [tabulariumlaw21_SafeOrder.l0] at H
      by_cases c18 : x16_1 < 3
      · rw [if_pos c18] at H
        have c18b0 : decide (x16_1 < 3) = true := decide_eq_true c18
        clear c18
        by_cases c19 : 0 ≤ x16_1
        · rw [if_pos c19] at H
          have c19b0 : decide (0 ≤ x16_1) = true := decide_eq_true c19
          clear c19
          by_cases c20 : x16_1 < (x15_1.length : Int)
          · rw [if_pos c20] at H
            have c20b0 : decide (x16_1 < (x15_1.length : Int)) = true := decide_eq_true c20
            clear c20
            by_cases c21 : (rd x15_1 x16_1) < 0
            · rw [if_pos c21] at H
              have c21b0 : decide ((rd x15_1 x16_1) < 0) = true := decide_eq_true c21
              clear c21
              obtain ⟨y248, hy248⟩ : ∃ y_ : List Int, y_ = (x15_1.set (x16_1 : Int).toNat (wrap64 (-(wrap64 ((rd x15_1 x16_1) + 1))))) := ⟨_, rfl⟩
              replace H : (tabulariumlaw21_SafeOrder.l0 k1 a0 a1 t227 (y248.set (x16_1 : Int).toNat (Int.tmod (rd y248 x16_1) 1000001)) (wrap64 (x16_1 + 1)) t228 t229 t230 t231 t233 t234 t235 t236 t238 t239 t240 t241) = some r := by first | (rw [hy248]; with_reducible exact H) | (have H2_ := (Option.bind_some _ _).symm.trans H; rw [hy248]; with_reducible exact H2_) | (have H2_ := (Option.bind_some _ _).symm.trans H; with_reducible exact H2_) | with_reducible exact H | (rw [hy248]; exact H) | exact H
              have Ny248 := Aside0.mk hy248
              clear hy248
              obtain ⟨y250, hy250⟩ : ∃ y_ : List Int, y_ = (y248.set (x16_1 : Int).toNat (Int.tmod (rd y248 x16_1) 1000001)) := ⟨_, rfl⟩
              replace H : (tabulariumlaw21_SafeOrder.l0 k1 a0 a1 t227 y250 (wrap64 (x16_1 + 1)) t228 t229 t230 t231 t233 t234 t235 t236 t238 t239 t240 t241) = some r := by first | (rw [hy250]; with_reducible exact H) | (have H2_ := (Option.bind_some _ _).symm.trans H; rw [hy250]; with_reducible exact H2_) | (have H2_ := (Option.bind_some _ _).symm.trans H; with_reducible exact H2_) | with_reducible exact H | (rw [hy250]; exact H) | exact H
              have Ny250 := Aside0.mk hy250
              clear hy250
              have H' := Aside0.mk H
              clear H
              obtain ⟨Ao24, co24, eo24⟩ := Kd.R_slice HO_15.out
              subst eo24
              have p246 : 0 ≤ (x16_1 : Int) := of_decide_eq_true (by first | (with_reducible assumption) | assumption)
              have q246 : x16_1 < (x15_1.length : Int) := of_decide_eq_true (by first | (with_reducible assumption) | assumption)
              obtain ⟨ad246, e246, hx246_0⟩ := Kd.at_int (Kd.R_reads' HO_15.out).2.2 x16_1 p246 q246
              cases e246
              replace p246 := eq_true p246; replace q246 := eq_true q246
              have p247 : 0 ≤ (x16_1 : Int) := of_decide_eq_true (by first | (with_reducible assumption) | assumption)
              have q247 : x16_1 < (x15_1.length : Int) := of_decide_eq_true (by first | (with_reducible assumption) | assumption)
              obtain ⟨ad247, e247, hx247_0⟩ := Kd.at_int (Kd.R_reads' HO_15.out).2.2 x16_1 p247 q247
              obtain rfl : ad246 = ad247 := (by injection e247)
              replace p247 := eq_true p247; replace q247 := eq_true q247
              have p22 : 0 ≤ (x16_1 : Int) := of_decide_eq_true (by first | (with_reducible assumption) | assumption)
              have q22 : (x16_1 : Int) < ((x15_1.length : Int) : Int) := of_decide_eq_true (by first | (with_reducible assumption) | assumption)
              obtain ⟨go22, co22, eo22, gb22, gl22, cl22, HG22⟩ := Kd.R_form HO_15.out (by omega)
              (first | cases eo22 | (injection eo22 with ea_ en_ ec_; (first | subst ea_ | (injection ea_ with ea_; subst ea_)); subst ec_; clear en_))
              have GB22 := Aside0.mk gb22
              have GG22 := Aside0.mk HG22
              clear gb22 gl22 HG22
              (first | simp only [add_plain] at hx246_0 | skip)
              (first | simp only [add_plain] at hx247_0 | skip)
              obtain ⟨hx22_0, hf22_0⟩ := Kd.R_celln 0 HO_15.out (x16_1 : Int) p22 q22
              replace p22 := eq_true p22; replace q22 := eq_true q22
              have HP25 := Kd.R_putg HO_15.out (x16_1 : Int) (wrap64 (-(wrap64 ((rd x15_1 x16_1) + 1))))
              go_wp2_with (first | ((with_reducible refine gate_store (t := 3) (p := 55) rfl ?_); refine store_event (t := 3) (p := 55) (v := ?vo_w26) (w1 := (wr.setCell ⟨go22, (x16_1 : Int).toNat, none⟩ (.int .i64 (wrap64 (-(wrap64 ((rd x15_1 x16_1) + 1))))))) ?hg ?ho ?hn ?hr ?_; (case ho => rfl); (case hg => rfl); (case hn => rfl); (case hr => first | (go_simp; done) | (go_simp; rfl)); intro w26 hw; have hg : wr.grownBy w26 (some go22) := (by rw [hw]; exact HP25.2); have hp_ : Kd.R (Kd.int .i64) 3 w26 w.heap.size (fun _ => True) (.slice (some ⟨go22, 0, none⟩) x15_1.length co24) y248 := (by rw [hw, Ny248.out]; exact HP25.1); clear HP25; have n0_ := Aside0.mk (hp_); have n1_ := Aside0.mk (IsS41.grown (nw41 HI232) hg (IsS41.own_ne HI232.out HO_15.out (by decide))); have n2_ := Aside0.mk (IsS41.grown (nw41 HI237) hg (IsS41.own_ne HI237.out HO_15.out (by decide))); have n3_ := Aside0.mk (IsS41.grown (nw41 HI242) hg (IsS41.own_ne HI242.out HO_15.out (by decide))); have n4_ := Aside0.mk ((by rw [hw]; exact below_set (HB.out) GB22.out : Below w.heap.size w w26)); clear HO_15; clear HI232; clear HI237; clear HI242; clear HB; have HO_15 := n0_; have HI232 := n1_; have HI237 := n2_; have HI242 := n3_; have HB := n4_; clear n0_ n1_ n2_ n3_ n4_; clear hg hw hp_; have p249 : 0 ≤ (x16_1 : Int) := of_decide_eq_true (by first | (with_reducible assumption) | assumption); have q249 : x16_1 < (y248.length : Int) := (by have h_ : (x16_1 : Int) < ((x15_1.length : Int) : Int) := of_decide_eq_true (by first | (with_reducible assumption) | assumption); first | (have e_ := (Kd.R_reads' HO_15.out).1; omega) | simpa only [Ny248.out, List.length_set] using h_); have ql249 : ((x16_1 : Int) < ((x15_1.length : Int) : Int)) = True := eq_true (of_decide_eq_true (by first | (with_reducible assumption) | assumption)); obtain ⟨ad249, e249, hx249_0⟩ := Kd.at_int (Kd.R_reads' HO_15.out).2.2 x16_1 p249 q249; obtain rfl : (⟨go22, 0, none⟩ : Addr) = ad249 := (by injection e249); (first | simp only [add_plain] at hx249_0 | simp only [add_at] at hx249_0 | simp only [Addr.add, Nat.zero_add] at hx249_0 | skip); replace p249 := eq_true p249; replace q249 := eq_true q249; have p23 : 0 ≤ (x16_1 : Int) := of_decide_eq_true (by first | (with_reducible assumption) | assumption); have q23 : (x16_1 : Int) < ((x15_1.length : Int) : Int) := of_decide_eq_true (by first | (with_reducible assumption) | assumption); obtain ⟨hx23_0, hf23_0⟩ := Kd.R_celln 0 HO_15.out (x16_1 : Int) p23 q23; replace p23 := eq_true p23; replace q23 := eq_true q23; obtain ⟨hy27_, hz27_⟩ := Kd.R_celln 0 HO_15.out (x16_1 : Int) (of_decide_eq_true (by first | (with_reducible assumption) | assumption)) (of_decide_eq_true (by first | (with_reducible assumption) | assumption)); have HP27 := Kd.R_putg HO_15.out (x16_1 : Int) (Int.tmod (rd y248 x16_1) 1000001)) | ((with_reducible refine gate_store (t := 3) (p := 63) rfl ?_); refine store_event (t := 3) (p := 63) (v := ?vo_w28) (w1 := (w26.setCell ⟨go22, (x16_1 : Int).toNat, none⟩ (.int .i64 (Int.tmod (rd y248 x16_1) 1000001)))) ?hg ?ho ?hn ?hr ?_; (case ho => rfl); (case hg => rfl); (case hn => rfl); (case hr => first | (go_simp; done) | (go_simp; rfl)); intro w28 hw; have hg : w26.grownBy w28 (some go22) := (by rw [hw]; exact HP27.2); have hp_ : Kd.R (Kd.int .i64) 3 w28 w.heap.size (fun _ => True) (.slice (some ⟨go22, 0, none⟩) x15_1.length co24) y250 := (by rw [hw, Ny250.out]; exact HP27.1); clear HP27; have n0_ := Aside0.mk (hp_); have n1_ := Aside0.mk (IsS41.grown (nw41 HI232) hg (IsS41.own_ne HI232.out HO_15.out (by decide))); have n2_ := Aside0.mk (IsS41.grown (nw41 HI237) hg (IsS41.own_ne HI237.out HO_15.out (by decide))); have n3_ := Aside0.mk (IsS41.grown (nw41 HI242) hg (IsS41.own_ne HI242.out HO_15.out (by decide))); have n4_ := Aside0.mk ((by rw [hw]; exact below_set (HB.out) GB22.out : Below w.heap.size w w28)); clear HO_15; clear HI232; clear HI237; clear HI242; clear HB; have HO_15 := n0_; have HI232 := n1_; have HI237 := n2_; have HI242 := n3_; have HB := n4_; clear n0_ n1_ n2_ n3_ n4_; clear hg hw hp_))
              go_roundg k1
              case measure => have := HK1.out; omega
              case rel => exact ⟨(y250), (wrap64 (x16_1 + 1)), (by first | rfl | (simp; done) | (simp [*]; done)), H', ⟨by have := HK1.out; omega⟩, ⟨by (with_reducible repeat (first | apply Kd.R_alloc | apply Kd.R_drewN | apply Kd.R_drew)); exact HO_15.out⟩, ⟨nw41 HI232⟩, ⟨nw41 HI237⟩, ⟨nw41 HI242⟩, ⟨by repeat (first | (with_reducible first | exact HB.out | apply below_alloc | apply pw_below_drewN | apply below_drew1 | refine below_set ?_ (IsS41.ge HI232.out) | refine below_set ?_ (IsS41.ge HI237.out) | refine below_set ?_ (IsS41.ge HI242.out)) | exact HB.out)⟩⟩
            · rw [if_neg c21] at H
              have c21b0 : decide ((rd x15_1 x16_1) < 0) = false := decide_eq_false c21
              clear c21
              obtain ⟨y252, hy252⟩ : ∃ y_ : List Int, y_ = (x15_1.set (x16_1 : Int).toNat (Int.tmod (rd x15_1 x16_1) 1000001)) := ⟨_, rfl⟩
              replace H : (tabulariumlaw21_SafeOrder.l0 k1 a0 a1 t227 y252 (wrap64 (x16_1 + 1)) t228 t229 t230 t231 t233 t234 t235 t236 t238 t239 t240 t241) = some r := by first | (rw [hy252]; with_reducible exact H) | (have H2_ := (Option.bind_some _ _).symm.trans H; rw [hy252]; with_reducible exact H2_) | (have H2_ := (Option.bind_some _ _).symm.trans H; with_reducible exact H2_) | with_reducible exact H | (rw [hy252]; exact H) | exact H
              have Ny252 := Aside0.mk hy252
              clear hy252
              have H' := Aside0.mk H
              clear H
              obtain ⟨Ao30, co30, eo30⟩ := Kd.R_slice HO_15.out
              subst eo30
              have p246 : 0 ≤ (x16_1 : Int) := of_decide_eq_true (by first | (with_reducible assumption) | assumption)
              have q246 : x16_1 < (x15_1.length : Int) := of_decide_eq_true (by first | (with_reducible assumption) | assumption)
              obtain ⟨ad246, e246, hx246_0⟩ := Kd.at_int (Kd.R_reads' HO_15.out).2.2 x16_1 p246 q246
              cases e246
              replace p246 := eq_true p246; replace q246 := eq_true q246
              have p251 : 0 ≤ (x16_1 : Int) := of_decide_eq_true (by first | (with_reducible assumption) | assumption)
              have q251 : x16_1 < (x15_1.length : Int) := of_decide_eq_true (by first | (with_reducible assumption) | assumption)
              obtain ⟨ad251, e251, hx251_0⟩ := Kd.at_int (Kd.R_reads' HO_15.out).2.2 x16_1 p251 q251
              obtain rfl : ad246 = ad251 := (by injection e251)
              replace p251 := eq_true p251; replace q251 := eq_true q251
              have p29 : 0 ≤ (x16_1 : Int) := of_decide_eq_true (by first | (with_reducible assumption) | assumption)
              have q29 : (x16_1 : Int) < ((x15_1.length : Int) : Int) := of_decide_eq_true (by first | (with_reducible assumption) | assumption)
              obtain ⟨go29, co29, eo29, gb29, gl29, cl29, HG29⟩ := Kd.R_form HO_15.out (by omega)
              (first | cases eo29 | (injection eo29 with ea_ en_ ec_; (first | subst ea_ | (injection ea_ with ea_; subst ea_)); subst ec_; clear en_))
              have GB29 := Aside0.mk gb29
              have GG29 := Aside0.mk HG29
              clear gb29 gl29 HG29
              (first | simp only [add_plain] at hx246_0 | skip)
              (first | simp only [add_plain] at hx251_0 | skip)
              obtain ⟨hx29_0, hf29_0⟩ := Kd.R_celln 0 HO_15.out (x16_1 : Int) p29 q29
              replace p29 := eq_true p29; replace q29 := eq_true q29
              have HP31 := Kd.R_putg HO_15.out (x16_1 : Int) (Int.tmod (rd x15_1 x16_1) 1000001)
              go_wp2_with (first | ((with_reducible refine gate_store (t := 3) (p := 63) rfl ?_); refine store_event (t := 3) (p := 63) (v := ?vo_w32) (w1 := (wr.setCell ⟨go29, (x16_1 : Int).toNat, none⟩ (.int .i64 (Int.tmod (rd x15_1 x16_1) 1000001)))) ?hg ?ho ?hn ?hr ?_; (case ho => rfl); (case hg => rfl); (case hn => rfl); (case hr => first | (go_simp; done) | (go_simp; rfl)); intro w32 hw; have hg : wr.grownBy w32 (some go29) := (by rw [hw]; exact HP31.2); have hp_ : Kd.R (Kd.int .i64) 3 w32 w.heap.size (fun _ => True) (.slice (some ⟨go29, 0, none⟩) x15_1.length co30) y252 := (by rw [hw, Ny252.out]; exact HP31.1); clear HP31; have n0_ := Aside0.mk (hp_); have n1_ := Aside0.mk (IsS41.grown (nw41 HI232) hg (IsS41.own_ne HI232.out HO_15.out (by decide))); have n2_ := Aside0.mk (IsS41.grown (nw41 HI237) hg (IsS41.own_ne HI237.out HO_15.out (by decide))); have n3_ := Aside0.mk (IsS41.grown (nw41 HI242) hg (IsS41.own_ne HI242.out HO_15.out (by decide))); have n4_ := Aside0.mk ((by rw [hw]; exact below_set (HB.out) GB29.out : Below w.heap.size w w32)); clear HO_15; clear HI232; clear HI237; clear HI242; clear HB; have HO_15 := n0_; have HI232 := n1_; have HI237 := n2_; have HI242 := n3_; have HB := n4_; clear n0_ n1_ n2_ n3_ n4_; clear hg hw hp_))
              go_roundg k1
              case measure => have := HK1.out; omega
              case rel => exact ⟨(y252), (wrap64 (x16_1 + 1)), (by first | rfl | (simp; done) | (simp [*]; done)), H', ⟨by have := HK1.out; omega⟩, ⟨by (with_reducible repeat (first | apply Kd.R_alloc | apply Kd.R_drewN | apply Kd.R_drew)); exact HO_15.out⟩, ⟨nw41 HI232⟩, ⟨nw41 HI237⟩, ⟨nw41 HI242⟩, ⟨by repeat (first | (with_reducible first | exact HB.out | apply below_alloc | apply pw_below_drewN | apply below_drew1 | refine below_set ?_ (IsS41.ge HI232.out) | refine below_set ?_ (IsS41.ge HI237.out) | refine below_set ?_ (IsS41.ge HI242.out)) | exact HB.out)⟩⟩
          · rw [if_neg c20] at H
            exact absurd H (by simp)
        · rw [if_neg c19] at H
          exact absurd H (by simp)
      · rw [if_neg c18] at H
        have c18b0 : decide (x16_1 < 3) = false := decide_eq_false c18
        clear c18
        by_cases c33 : 0 < (x15_1.length : Int)
        · rw [if_pos c33] at H
          have c33b0 : decide (0 < (x15_1.length : Int)) = true := decide_eq_true c33
          have c33b1 : decide (0 < x15_1.length) = true := decide_eq_true (by omega)
          clear c33
          by_cases c34 : 2 < (x15_1.length : Int)
          · rw [if_pos c34] at H
            have c34b0 : decide (2 < (x15_1.length : Int)) = true := decide_eq_true c34
            have c34b1 : decide (2 < x15_1.length) = true := decide_eq_true (by omega)
            clear c34
            replace H := Option.bind_eq_some_iff.mp H
            obtain ⟨⟨t255, t256, t257, t258, t259⟩, A350, H⟩ := H
            replace H : ((safe_Safe_See.f t233 t234 t235 t236 (rd x15_1 0) (rd x15_1 2)).bind fun bt262 => (if 1 < (x15_1.length : Int) then ((safe_Safe_See.f t238 t239 t240 t241 (wrap64 ((rd x15_1 0) + (rd x15_1 1))) (rd x15_1 2)).bind fun bt270 => (if t227 = true then (if (FloatKind.f64.format.order a1 a0 == some .lt || FloatKind.f64.format.order a1 a0 == some .eq) = true then ((safe_Safe_Missing.f k1 bt262.2.1 bt262.2.2.1 bt262.2.2.2.1 bt262.2.2.2.2).bind fun bt275 => ((safe_Safe_Missing.f k1 t256 t257 t258 t259).bind fun bt280 => (if bt275.1 ≤ bt280.1 then ((safe_Safe_Missing.f k1 bt270.2.1 bt270.2.2.1 bt270.2.2.2.1 bt270.2.2.2.2).bind fun bt285 => ((safe_Safe_Missing.f k1 bt280.2.1 bt280.2.2.1 bt280.2.2.2.1 bt280.2.2.2.2).bind fun bt290 => (if bt285.1 ≤ bt290.1 then ((safe_Safe_Missing.f k1 bt290.2.1 bt290.2.2.1 bt290.2.2.2.1 bt290.2.2.2.2).bind fun bt295 => (if bt295.1 ≥ 0 then ((safe_Safe_Missing.f k1 bt295.2.1 bt295.2.2.1 bt295.2.2.2.1 bt295.2.2.2.2).bind fun bt300 => (some (decide (bt300.1 ≤ (rd x15_1 2))))) else (some false))) else (some false)))) else (some false)))) else ((safe_Safe_Missing.f k1 bt270.2.1 bt270.2.2.1 bt270.2.2.2.1 bt270.2.2.2.2).bind fun bt306 => ((safe_Safe_Missing.f k1 t256 t257 t258 t259).bind fun bt311 => (if bt306.1 ≤ bt311.1 then ((safe_Safe_Missing.f k1 bt311.2.1 bt311.2.2.1 bt311.2.2.2.1 bt311.2.2.2.2).bind fun bt316 => (if bt316.1 ≥ 0 then ((safe_Safe_Missing.f k1 bt316.2.1 bt316.2.2.1 bt316.2.2.2.1 bt316.2.2.2.2).bind fun bt321 => (some (decide (bt321.1 ≤ (rd x15_1 2))))) else (some false))) else (some false))))) else (some false))) else (none))) = some r := H
            have A35 := Aside0.mk A350
            clear A350
            replace H := Option.bind_eq_some_iff.mp H
            obtain ⟨⟨t262, t263, t264, t265, t266⟩, A360, H⟩ := H
            replace H : (if 1 < (x15_1.length : Int) then ((safe_Safe_See.f t238 t239 t240 t241 (wrap64 ((rd x15_1 0) + (rd x15_1 1))) (rd x15_1 2)).bind fun bt270 => (if t227 = true then (if (FloatKind.f64.format.order a1 a0 == some .lt || FloatKind.f64.format.order a1 a0 == some .eq) = true then ((safe_Safe_Missing.f k1 t263 t264 t265 t266).bind fun bt275 => ((safe_Safe_Missing.f k1 t256 t257 t258 t259).bind fun bt280 => (if bt275.1 ≤ bt280.1 then ((safe_Safe_Missing.f k1 bt270.2.1 bt270.2.2.1 bt270.2.2.2.1 bt270.2.2.2.2).bind fun bt285 => ((safe_Safe_Missing.f k1 bt280.2.1 bt280.2.2.1 bt280.2.2.2.1 bt280.2.2.2.2).bind fun bt290 => (if bt285.1 ≤ bt290.1 then ((safe_Safe_Missing.f k1 bt290.2.1 bt290.2.2.1 bt290.2.2.2.1 bt290.2.2.2.2).bind fun bt295 => (if bt295.1 ≥ 0 then ((safe_Safe_Missing.f k1 bt295.2.1 bt295.2.2.1 bt295.2.2.2.1 bt295.2.2.2.2).bind fun bt300 => (some (decide (bt300.1 ≤ (rd x15_1 2))))) else (some false))) else (some false)))) else (some false)))) else ((safe_Safe_Missing.f k1 bt270.2.1 bt270.2.2.1 bt270.2.2.2.1 bt270.2.2.2.2).bind fun bt306 => ((safe_Safe_Missing.f k1 t256 t257 t258 t259).bind fun bt311 => (if bt306.1 ≤ bt311.1 then ((safe_Safe_Missing.f k1 bt311.2.1 bt311.2.2.1 bt311.2.2.2.1 bt311.2.2.2.2).bind fun bt316 => (if bt316.1 ≥ 0 then ((safe_Safe_Missing.f k1 bt316.2.1 bt316.2.2.1 bt316.2.2.2.1 bt316.2.2.2.2).bind fun bt321 => (some (decide (bt321.1 ≤ (rd x15_1 2))))) else (some false))) else (some false))))) else (some false))) else (none)) = some r := H
            have A36 := Aside0.mk A360
            clear A360
            by_cases c37 : 1 < (x15_1.length : Int)
            · rw [if_pos c37] at H
              have c37b0 : decide (1 < (x15_1.length : Int)) = true := decide_eq_true c37
              have c37b1 : decide (1 < x15_1.length) = true := decide_eq_true (by omega)
              clear c37
              replace H := Option.bind_eq_some_iff.mp H
              obtain ⟨⟨t270, t271, t272, t273, t274⟩, A380, H⟩ := H
              replace H : (if t227 = true then (if (FloatKind.f64.format.order a1 a0 == some .lt || FloatKind.f64.format.order a1 a0 == some .eq) = true then ((safe_Safe_Missing.f k1 t263 t264 t265 t266).bind fun bt275 => ((safe_Safe_Missing.f k1 t256 t257 t258 t259).bind fun bt280 => (if bt275.1 ≤ bt280.1 then ((safe_Safe_Missing.f k1 t271 t272 t273 t274).bind fun bt285 => ((safe_Safe_Missing.f k1 bt280.2.1 bt280.2.2.1 bt280.2.2.2.1 bt280.2.2.2.2).bind fun bt290 => (if bt285.1 ≤ bt290.1 then ((safe_Safe_Missing.f k1 bt290.2.1 bt290.2.2.1 bt290.2.2.2.1 bt290.2.2.2.2).bind fun bt295 => (if bt295.1 ≥ 0 then ((safe_Safe_Missing.f k1 bt295.2.1 bt295.2.2.1 bt295.2.2.2.1 bt295.2.2.2.2).bind fun bt300 => (some (decide (bt300.1 ≤ (rd x15_1 2))))) else (some false))) else (some false)))) else (some false)))) else ((safe_Safe_Missing.f k1 t271 t272 t273 t274).bind fun bt306 => ((safe_Safe_Missing.f k1 t256 t257 t258 t259).bind fun bt311 => (if bt306.1 ≤ bt311.1 then ((safe_Safe_Missing.f k1 bt311.2.1 bt311.2.2.1 bt311.2.2.2.1 bt311.2.2.2.2).bind fun bt316 => (if bt316.1 ≥ 0 then ((safe_Safe_Missing.f k1 bt316.2.1 bt316.2.2.1 bt316.2.2.2.1 bt316.2.2.2.2).bind fun bt321 => (some (decide (bt321.1 ≤ (rd x15_1 2))))) else (some false))) else (some false))))) else (some false)) = some r := H
              have A38 := Aside0.mk A380
              clear A380
              by_cases c39 : t227 = true
              · subst c39
                have H1 : (if (FloatKind.f64.format.order a1 a0 == some .lt || FloatKind.f64.format.order a1 a0 == some .eq) = true then ((safe_Safe_Missing.f k1 t263 t264 t265 t266).bind fun bt275 => ((safe_Safe_Missing.f k1 t256 t257 t258 t259).bind fun bt280 => (if bt275.1 ≤ bt280.1 then ((safe_Safe_Missing.f k1 t271 t272 t273 t274).bind fun bt285 => ((safe_Safe_Missing.f k1 bt280.2.1 bt280.2.2.1 bt280.2.2.2.1 bt280.2.2.2.2).bind fun bt290 => (if bt285.1 ≤ bt290.1 then ((safe_Safe_Missing.f k1 bt290.2.1 bt290.2.2.1 bt290.2.2.2.1 bt290.2.2.2.2).bind fun bt295 => (if bt295.1 ≥ 0 then ((safe_Safe_Missing.f k1 bt295.2.1 bt295.2.2.1 bt295.2.2.2.1 bt295.2.2.2.2).bind fun bt300 => (some (decide (bt300.1 ≤ (rd x15_1 2))))) else (some false))) else (some false)))) else (some false)))) else ((safe_Safe_Missing.f k1 t271 t272 t273 t274).bind fun bt306 => ((safe_Safe_Missing.f k1 t256 t257 t258 t259).bind fun bt311 => (if bt306.1 ≤ bt311.1 then ((safe_Safe_Missing.f k1 bt311.2.1 bt311.2.2.1 bt311.2.2.2.1 bt311.2.2.2.2).bind fun bt316 => (if bt316.1 ≥ 0 then ((safe_Safe_Missing.f k1 bt316.2.1 bt316.2.2.1 bt316.2.2.2.1 bt316.2.2.2.2).bind fun bt321 => (some (decide (bt321.1 ≤ (rd x15_1 2))))) else (some false))) else (some false))))) = some r := by rw [if_pos rfl] at H; exact H
                clear H
                have H := H1
                clear H1
                by_cases c40 : (FloatKind.f64.format.order a1 a0 == some .lt || FloatKind.f64.format.order a1 a0 == some .eq) = true
                · rw [if_pos c40] at H
                  have c40b0 : (FloatKind.f64.format.order a1 a0 == some .lt || FloatKind.f64.format.order a1 a0 == some .eq) = true := c40
                  clear c40
                  replace H := Option.bind_eq_some_iff.mp H
                  obtain ⟨⟨t275, t276, t277, t278, t279⟩, A410, H⟩ := H
                  replace H : ((safe_Safe_Missing.f k1 t256 t257 t258 t259).bind fun bt280 => (if t275 ≤ bt280.1 then ((safe_Safe_Missing.f k1 t271 t272 t273 t274).bind fun bt285 => ((safe_Safe_Missing.f k1 bt280.2.1 bt280.2.2.1 bt280.2.2.2.1 bt280.2.2.2.2).bind fun bt290 => (if bt285.1 ≤ bt290.1 then ((safe_Safe_Missing.f k1 bt290.2.1 bt290.2.2.1 bt290.2.2.2.1 bt290.2.2.2.2).bind fun bt295 => (if bt295.1 ≥ 0 then ((safe_Safe_Missing.f k1 bt295.2.1 bt295.2.2.1 bt295.2.2.2.1 bt295.2.2.2.2).bind fun bt300 => (some (decide (bt300.1 ≤ (rd x15_1 2))))) else (some false))) else (some false)))) else (some false))) = some r := H
                  have A41 := Aside0.mk A410
                  clear A410
                  replace H := Option.bind_eq_some_iff.mp H
                  obtain ⟨⟨t280, t281, t282, t283, t284⟩, A420, H⟩ := H
                  replace H : (if t275 ≤ t280 then ((safe_Safe_Missing.f k1 t271 t272 t273 t274).bind fun bt285 => ((safe_Safe_Missing.f k1 t281 t282 t283 t284).bind fun bt290 => (if bt285.1 ≤ bt290.1 then ((safe_Safe_Missing.f k1 bt290.2.1 bt290.2.2.1 bt290.2.2.2.1 bt290.2.2.2.2).bind fun bt295 => (if bt295.1 ≥ 0 then ((safe_Safe_Missing.f k1 bt295.2.1 bt295.2.2.1 bt295.2.2.2.1 bt295.2.2.2.2).bind fun bt300 => (some (decide (bt300.1 ≤ (rd x15_1 2))))) else (some false))) else (some false)))) else (some false)) = some r := H
                  have A42 := Aside0.mk A420
                  clear A420
                  by_cases c43 : t275 ≤ t280
                  · rw [if_pos c43] at H
                    have c43b0 : decide (t275 ≤ t280) = true := decide_eq_true c43
                    clear c43
                    replace H := Option.bind_eq_some_iff.mp H
                    obtain ⟨⟨t285, t286, t287, t288, t289⟩, A440, H⟩ := H
                    replace H : ((safe_Safe_Missing.f k1 t281 t282 t283 t284).bind fun bt290 => (if t285 ≤ bt290.1 then ((safe_Safe_Missing.f k1 bt290.2.1 bt290.2.2.1 bt290.2.2.2.1 bt290.2.2.2.2).bind fun bt295 => (if bt295.1 ≥ 0 then ((safe_Safe_Missing.f k1 bt295.2.1 bt295.2.2.1 bt295.2.2.2.1 bt295.2.2.2.2).bind fun bt300 => (some (decide (bt300.1 ≤ (rd x15_1 2))))) else (some false))) else (some false))) = some r := H
                    have A44 := Aside0.mk A440
                    clear A440
                    replace H := Option.bind_eq_some_iff.mp H
                    obtain ⟨⟨t290, t291, t292, t293, t294⟩, A450, H⟩ := H
                    replace H : (if t285 ≤ t290 then ((safe_Safe_Missing.f k1 t291 t292 t293 t294).bind fun bt295 => (if bt295.1 ≥ 0 then ((safe_Safe_Missing.f k1 bt295.2.1 bt295.2.2.1 bt295.2.2.2.1 bt295.2.2.2.2).bind fun bt300 => (some (decide (bt300.1 ≤ (rd x15_1 2))))) else (some false))) else (some false)) = some r := H
                    have A45 := Aside0.mk A450
                    clear A450
                    by_cases c46 : t285 ≤ t290
                    · rw [if_pos c46] at H
                      have c46b0 : decide (t285 ≤ t290) = true := decide_eq_true c46
                      clear c46
                      replace H := Option.bind_eq_some_iff.mp H
                      obtain ⟨⟨t295, t296, t297, t298, t299⟩, A470, H⟩ := H
                      replace H : (if t295 ≥ 0 then ((safe_Safe_Missing.f k1 t296 t297 t298 t299).bind fun bt300 => (some (decide (bt300.1 ≤ (rd x15_1 2))))) else (some false)) = some r := H
                      have A47 := Aside0.mk A470
                      clear A470
                      by_cases c48 : t295 ≥ 0
                      · rw [if_pos c48] at H
                        have c48b0 : decide (0 ≤ t295) = true := decide_eq_true c48
                        clear c48
                        replace H := Option.bind_eq_some_iff.mp H
                        obtain ⟨⟨t300, t301, t302, t303, t304⟩, A490, H⟩ := H
                        replace H : (some (decide (t300 ≤ (rd x15_1 2)))) = some r := H
                        have A49 := Aside0.mk A490
                        clear A490
                        obtain rfl := Option.some.inj H
                        try go_wp2
                        have n0_ := Aside0.mk (Kd.R_drew HO_15.out)
                        have n1_ := Aside0.mk (IsS41.drew HI232.out)
                        have n2_ := Aside0.mk (IsS41.drew HI237.out)
                        have n3_ := Aside0.mk (IsS41.drew HI242.out)
                        have n4_ := Aside0.mk (below_drew1 HB.out)
                        clear HO_15; clear HI232; clear HI237; clear HI242; clear HB; have HO_15 := n0_; have HI232 := n1_; have HI237 := n2_; have HI242 := n3_; have HB := n4_; clear n0_ n1_ n2_ n3_ n4_
                        obtain ⟨Ao51, co51, eo51⟩ := Kd.R_slice HO_15.out
                        (first | subst eo51 | (injection eo51 with f1_ f2_ f3_; have f4_ := f1_.symm; have f5_ := f3_.symm; clear f1_ f2_ f3_; subst f4_; subst f5_))
                        have p253 : 0 ≤ (0 : Int) := (by omega)
                        have q253 : 0 < (x15_1.length : Int) := of_decide_eq_true (by first | (with_reducible assumption) | assumption)
                        obtain ⟨ad253, e253, hx253_0⟩ := Kd.at_int (Kd.R_reads' HO_15.out).2.2 0 p253 q253
                        cases e253
                        have qi253 : (0 < x15_1.length) = True := eq_true (by omega)
                        (try rw [show ((0 : Int)).toNat = 0 from rfl] at hx253_0)
                        (try rw [Addr.add_zero'] at hx253_0)
                        replace p253 := eq_true p253; replace q253 := eq_true q253
                        have p254 : 0 ≤ (2 : Int) := (by omega)
                        have q254 : 2 < (x15_1.length : Int) := of_decide_eq_true (by first | (with_reducible assumption) | assumption)
                        obtain ⟨ad254, e254, hx254_0⟩ := Kd.at_int (Kd.R_reads' HO_15.out).2.2 2 p254 q254
                        obtain rfl : ad253 = ad254 := (by injection e254)
                        (try simp only [show (2 : Int).toNat = 2 from rfl, Nat.reduceMul, Nat.reduceEqDiff, Go.Addr.add, ↓reduceIte] at hx254_0)
                        have qi254 : (2 < x15_1.length) = True := eq_true (by omega)
                        (try rw [show ((2 : Int)).toNat = 2 from rfl] at hx254_0)
                        replace p254 := eq_true p254; replace q254 := eq_true q254
                        refine start_ (n := 8) (S := fun w' => w'.cell? ad253 = some (.int .i64 (rd x15_1 0)) ∧ w'.cell? ⟨ad253.block, ad253.off + 2, none⟩ = some (.int .i64 (rd x15_1 2))) (ds := []) (nz 8 0) (by kernel_rfl) rfl (by kernel_rfl) ⟨hx253_0, hx254_0⟩ (fun hHeld => ?_); refine with_tabW tabulariumlaw21_SafeOrder.tab14 tabulariumlaw21_SafeOrder.bits14 (fun HT_ HW_ => ?_)
                        generalize wr.drew = w50 at HO_15 HI232 HI237 HI242 HB hx253_0 hx254_0 hHeld ⊢
                        refine zp HT_ 0 64 1 ?_
                        refine zp HT_ 1 65 3 ?_
                        refine zp HT_ 2 66 7 ?_
                        refine zp HT_ 4 68 23 ?_
                        refine zp HT_ 5 69 55 ?_
                        refine zt HT_ HW_ hHeld 3 67 63 ?_
                        refine zt HT_ HW_ hHeld 6 70 127 ?_
                        refine zo HT_ 7 71 255 (fun K hK => ?_)
                        refine zg Try.func9 #[.pointer (some ⟨g232, 0, none⟩), .int .i64 (rd x15_1 0), .int .i64 (rd x15_1 2)] ?_
                        with_reducible refine (safe_Safe_See.calls g232 t228 t229 t230 t231 (rd x15_1 0) (rd x15_1 2) t255 t256 t257 t258 t259 w _ ?side1 ?side2 A35.out).mono ?_
                        (case side1 => exact nw41 HI232)
                        (case side2 => exact bw3 HB (IsS41.ge HI232.out) (IsS41.ge HI237.out) (IsS41.ge HI242.out))
                        rintro e w52 ⟨rfl, hi, hb, hk⟩
                        have HS0_ := kc hk hHeld.1 (IsS41.own_ne HI232.out HO_15.out (by decide))
                        have HS1_ := kc hk hHeld.2 (IsS41.own_ne HI232.out HO_15.out (by decide))
                        refine ⟨_, rfl, ?_⟩
                        have n0_ := Aside0.mk (hk41 HI232 HO_15 hk)
                        have n1_ := Aside0.mk (show IsS41 w _ g237 t233 t234 t235 t236 from kb41 HI237 hk NS237_232.out)
                        have n2_ := Aside0.mk (show IsS41 w _ g242 t238 t239 t240 t241 from kb41 HI242 hk NS242_232.out)
                        have n3_ := Aside0.mk (hb)
                        have n4_ := Aside0.mk (hi)
                        clear HO_15; clear HI237; clear HI242; clear HB; clear HI232; have HO_15 := n0_; have HI237 := n1_; have HI242 := n2_; have HB := n3_; have HI232 := n4_; clear n0_ n1_ n2_ n3_ n4_; (try clear hb); (try clear hb2); (try clear hk); (try clear hi)
                        refine hK.out _ _ ⟨HS0_, HS1_⟩ (fun hHeld => ?_)
                        clear hK K
                        refine zn ?_
                        refine done_ (done_of HT_.out (by kernel_rfl)) ?_
                        try go_wp2
                        have n0_ := Aside0.mk (Kd.R_drew HO_15.out)
                        have n1_ := Aside0.mk (IsS41.drew HI232.out)
                        have n2_ := Aside0.mk (IsS41.drew HI237.out)
                        have n3_ := Aside0.mk (IsS41.drew HI242.out)
                        have n4_ := Aside0.mk (below_drew1 HB.out)
                        clear HO_15; clear HI232; clear HI237; clear HI242; clear HB; have HO_15 := n0_; have HI232 := n1_; have HI237 := n2_; have HI242 := n3_; have HB := n4_; clear n0_ n1_ n2_ n3_ n4_
                        have p260 : 0 ≤ (0 : Int) := (by omega)
                        have q260 : 0 < (x15_1.length : Int) := of_decide_eq_true (by first | (with_reducible assumption) | assumption)
                        obtain ⟨ad260, e260, hx260_0⟩ := Kd.at_int (Kd.R_reads' HO_15.out).2.2 0 p260 q260
                        obtain rfl : ad253 = ad260 := (by injection e260)
                        have qi260 : (0 < x15_1.length) = True := eq_true (by omega)
                        (try rw [show ((0 : Int)).toNat = 0 from rfl] at hx260_0)
                        (try rw [Addr.add_zero'] at hx260_0)
                        replace p260 := eq_true p260; replace q260 := eq_true q260
                        have p261 : 0 ≤ (2 : Int) := (by omega)
                        have q261 : 2 < (x15_1.length : Int) := of_decide_eq_true (by first | (with_reducible assumption) | assumption)
                        obtain ⟨ad261, e261, hx261_0⟩ := Kd.at_int (Kd.R_reads' HO_15.out).2.2 2 p261 q261
                        obtain rfl : ad253 = ad261 := (by injection e261)
                        (try simp only [show (2 : Int).toNat = 2 from rfl, Nat.reduceMul, Nat.reduceEqDiff, Go.Addr.add, ↓reduceIte] at hx261_0)
                        have qi261 : (2 < x15_1.length) = True := eq_true (by omega)
                        (try rw [show ((2 : Int)).toNat = 2 from rfl] at hx261_0)
                        replace p261 := eq_true p261; replace q261 := eq_true q261
                        refine start_ (n := 8) (S := fun w' => w'.cell? ad253 = some (.int .i64 (rd x15_1 0)) ∧ w'.cell? ⟨ad253.block, ad253.off + 2, none⟩ = some (.int .i64 (rd x15_1 2))) (ds := []) (nz 8 0) (by kernel_rfl) rfl (by kernel_rfl) ⟨hx260_0, hx261_0⟩ (fun hHeld => ?_); refine with_tabW tabulariumlaw21_SafeOrder.tab15 tabulariumlaw21_SafeOrder.bits15 (fun HT_ HW_ => ?_)
                        generalize w52.drew = w53 at HO_15 HI232 HI237 HI242 HB hx260_0 hx261_0 hHeld ⊢
                        refine zp HT_ 0 72 1 ?_
                        refine zp HT_ 1 73 3 ?_
                        refine zp HT_ 2 74 7 ?_
                        refine zp HT_ 4 76 23 ?_
                        refine zp HT_ 5 77 55 ?_
                        refine zt HT_ HW_ hHeld 3 75 63 ?_
                        refine zt HT_ HW_ hHeld 6 78 127 ?_
                        refine zo HT_ 7 79 255 (fun K hK => ?_)
                        refine zg Try.func9 #[.pointer (some ⟨g237, 0, none⟩), .int .i64 (rd x15_1 0), .int .i64 (rd x15_1 2)] ?_
                        with_reducible refine (safe_Safe_See.calls g237 t233 t234 t235 t236 (rd x15_1 0) (rd x15_1 2) t262 t263 t264 t265 t266 w _ ?side1 ?side2 A36.out).mono ?_
                        (case side1 => exact nw41 HI237)
                        (case side2 => exact bw3 HB (IsS41.ge HI232.out) (IsS41.ge HI237.out) (IsS41.ge HI242.out))
                        rintro e w54 ⟨rfl, hi, hb, hk⟩
                        have HS0_ := kc hk hHeld.1 (IsS41.own_ne HI237.out HO_15.out (by decide))
                        have HS1_ := kc hk hHeld.2 (IsS41.own_ne HI237.out HO_15.out (by decide))
                        refine ⟨_, rfl, ?_⟩
                        have n0_ := Aside0.mk (hk41 HI237 HO_15 hk)
                        have n1_ := Aside0.mk (show IsS41 w _ g232 t256 t257 t258 t259 from kb41 HI232 hk NS232_237.out)
                        have n2_ := Aside0.mk (show IsS41 w _ g242 t238 t239 t240 t241 from kb41 HI242 hk NS242_237.out)
                        have n3_ := Aside0.mk (hb)
                        have n4_ := Aside0.mk (hi)
                        clear HO_15; clear HI232; clear HI242; clear HB; clear HI237; have HO_15 := n0_; have HI232 := n1_; have HI242 := n2_; have HB := n3_; have HI237 := n4_; clear n0_ n1_ n2_ n3_ n4_; (try clear hb); (try clear hb2); (try clear hk); (try clear hi)
                        refine hK.out _ _ ⟨HS0_, HS1_⟩ (fun hHeld => ?_)
                        clear hK K
                        refine zn ?_
                        refine done_ (done_of HT_.out (by kernel_rfl)) ?_
                        try go_wp2
                        have n0_ := Aside0.mk (Kd.R_drew HO_15.out)
                        have n1_ := Aside0.mk (IsS41.drew HI232.out)
                        have n2_ := Aside0.mk (IsS41.drew HI237.out)
                        have n3_ := Aside0.mk (IsS41.drew HI242.out)
                        have n4_ := Aside0.mk (below_drew1 HB.out)
                        clear HO_15; clear HI232; clear HI237; clear HI242; clear HB; have HO_15 := n0_; have HI232 := n1_; have HI237 := n2_; have HI242 := n3_; have HB := n4_; clear n0_ n1_ n2_ n3_ n4_
                        have p267 : 0 ≤ (0 : Int) := (by omega)
                        have q267 : 0 < (x15_1.length : Int) := of_decide_eq_true (by first | (with_reducible assumption) | assumption)
                        obtain ⟨ad267, e267, hx267_0⟩ := Kd.at_int (Kd.R_reads' HO_15.out).2.2 0 p267 q267
                        obtain rfl : ad253 = ad267 := (by injection e267)
                        have qi267 : (0 < x15_1.length) = True := eq_true (by omega)
                        (try rw [show ((0 : Int)).toNat = 0 from rfl] at hx267_0)
                        (try rw [Addr.add_zero'] at hx267_0)
                        replace p267 := eq_true p267; replace q267 := eq_true q267
                        have p268 : 0 ≤ (1 : Int) := (by omega)
                        have q268 : 1 < (x15_1.length : Int) := of_decide_eq_true (by first | (with_reducible assumption) | assumption)
                        obtain ⟨ad268, e268, hx268_0⟩ := Kd.at_int (Kd.R_reads' HO_15.out).2.2 1 p268 q268
                        obtain rfl : ad253 = ad268 := (by injection e268)
                        (try simp only [show (1 : Int).toNat = 1 from rfl, Nat.reduceMul, Nat.reduceEqDiff, Go.Addr.add, ↓reduceIte] at hx268_0)
                        have qi268 : (1 < x15_1.length) = True := eq_true (by omega)
                        (try rw [show ((1 : Int)).toNat = 1 from rfl] at hx268_0)
                        replace p268 := eq_true p268; replace q268 := eq_true q268
                        have p269 : 0 ≤ (2 : Int) := (by omega)
                        have q269 : 2 < (x15_1.length : Int) := of_decide_eq_true (by first | (with_reducible assumption) | assumption)
                        obtain ⟨ad269, e269, hx269_0⟩ := Kd.at_int (Kd.R_reads' HO_15.out).2.2 2 p269 q269
                        obtain rfl : ad253 = ad269 := (by injection e269)
                        (try simp only [show (2 : Int).toNat = 2 from rfl, Nat.reduceMul, Nat.reduceEqDiff, Go.Addr.add, ↓reduceIte] at hx269_0)
                        have qi269 : (2 < x15_1.length) = True := eq_true (by omega)
                        (try rw [show ((2 : Int)).toNat = 2 from rfl] at hx269_0)
                        replace p269 := eq_true p269; replace q269 := eq_true q269
                        refine start_ (n := 12) (S := fun w' => w'.cell? ad253 = some (.int .i64 (rd x15_1 0)) ∧ w'.cell? ⟨ad253.block, ad253.off + 1, none⟩ = some (.int .i64 (rd x15_1 1)) ∧ w'.cell? ⟨ad253.block, ad253.off + 2, none⟩ = some (.int .i64 (rd x15_1 2))) (ds := []) (nz 12 0) (by kernel_rfl) rfl (by kernel_rfl) ⟨hx267_0, hx268_0, hx269_0⟩ (fun hHeld => ?_); refine with_tabW tabulariumlaw21_SafeOrder.tab16 tabulariumlaw21_SafeOrder.bits16 (fun HT_ HW_ => ?_)
                        generalize w54.drew = w55 at HO_15 HI232 HI237 HI242 HB hx267_0 hx268_0 hx269_0 hHeld ⊢
                        refine zp HT_ 0 80 1 ?_
                        refine zp HT_ 1 81 3 ?_
                        refine zp HT_ 2 82 7 ?_
                        refine zp HT_ 4 84 23 ?_
                        refine zp HT_ 5 85 55 ?_
                        refine zp HT_ 8 88 311 ?_
                        refine zp HT_ 9 89 823 ?_
                        refine zt HT_ HW_ hHeld 3 83 831 ?_
                        refine zt HT_ HW_ hHeld 6 86 895 ?_
                        refine zp HT_ 7 87 1023 ?_
                        refine zt HT_ HW_ hHeld 10 90 2047 ?_
                        refine zo HT_ 11 91 4095 (fun K hK => ?_)
                        refine zg Try.func9 #[.pointer (some ⟨g242, 0, none⟩), .int .i64 (wrap64 ((rd x15_1 0) + (rd x15_1 1))), .int .i64 (rd x15_1 2)] ?_
                        with_reducible refine (safe_Safe_See.calls g242 t238 t239 t240 t241 (wrap64 ((rd x15_1 0) + (rd x15_1 1))) (rd x15_1 2) t270 t271 t272 t273 t274 w _ ?side1 ?side2 A38.out).mono ?_
                        (case side1 => exact nw41 HI242)
                        (case side2 => exact bw3 HB (IsS41.ge HI232.out) (IsS41.ge HI237.out) (IsS41.ge HI242.out))
                        rintro e w56 ⟨rfl, hi, hb, hk⟩
                        have HS0_ := kc hk hHeld.1 (IsS41.own_ne HI242.out HO_15.out (by decide))
                        have HS1_ := kc hk hHeld.2.1 (IsS41.own_ne HI242.out HO_15.out (by decide))
                        have HS2_ := kc hk hHeld.2.2 (IsS41.own_ne HI242.out HO_15.out (by decide))
                        refine ⟨_, rfl, ?_⟩
                        have n0_ := Aside0.mk (hk41 HI242 HO_15 hk)
                        have n1_ := Aside0.mk (show IsS41 w _ g232 t256 t257 t258 t259 from kb41 HI232 hk NS232_242.out)
                        have n2_ := Aside0.mk (show IsS41 w _ g237 t263 t264 t265 t266 from kb41 HI237 hk NS237_242.out)
                        have n3_ := Aside0.mk (hb)
                        have n4_ := Aside0.mk (hi)
                        clear HO_15; clear HI232; clear HI237; clear HB; clear HI242; have HO_15 := n0_; have HI232 := n1_; have HI237 := n2_; have HB := n3_; have HI242 := n4_; clear n0_ n1_ n2_ n3_ n4_; (try clear hb); (try clear hb2); (try clear hk); (try clear hi)
                        refine hK.out _ _ ⟨HS0_, HS1_, HS2_⟩ (fun hHeld => ?_)
                        clear hK K
                        refine zn ?_
                        refine done_ (done_of HT_.out (by kernel_rfl)) ?_
                        try go_wp2
                        have n0_ := Aside0.mk (Kd.R_drew HO_15.out)
                        have n1_ := Aside0.mk (IsS41.drew HI232.out)
                        have n2_ := Aside0.mk (IsS41.drew HI237.out)
                        have n3_ := Aside0.mk (IsS41.drew HI242.out)
                        have n4_ := Aside0.mk (below_drew1 HB.out)
                        clear HO_15; clear HI232; clear HI237; clear HI242; clear HB; have HO_15 := n0_; have HI232 := n1_; have HI237 := n2_; have HI242 := n3_; have HB := n4_; clear n0_ n1_ n2_ n3_ n4_
                        have p305 : 0 ≤ (2 : Int) := (by omega)
                        have q305 : 2 < (x15_1.length : Int) := of_decide_eq_true (by first | (with_reducible assumption) | assumption)
                        obtain ⟨ad305, e305, hx305_0⟩ := Kd.at_int (Kd.R_reads' HO_15.out).2.2 2 p305 q305
                        obtain rfl : ad253 = ad305 := (by injection e305)
                        (try simp only [show (2 : Int).toNat = 2 from rfl, Nat.reduceMul, Nat.reduceEqDiff, Go.Addr.add, ↓reduceIte] at hx305_0)
                        have qi305 : (2 < x15_1.length) = True := eq_true (by omega)
                        (try rw [show ((2 : Int)).toNat = 2 from rfl] at hx305_0)
                        replace p305 := eq_true p305; replace q305 := eq_true q305
                        refine start_ (n := 35) (S := fun w' => w'.cell? ⟨ad253.block, ad253.off + 2, none⟩ = some (.int .i64 (rd x15_1 2))) (ds := []) (nz 35 0) (by kernel_rfl) rfl (by kernel_rfl) (hx305_0) (fun hHeld => ?_); refine with_tabW tabulariumlaw21_SafeOrder.tab17 tabulariumlaw21_SafeOrder.bits17 (fun HT_ HW_ => ?_)
                        generalize w56.drew = w57 at HO_15 HI232 HI237 HI242 HB hx305_0 hHeld ⊢
                        refine zp HT_ 0 92 1 ?_
                        refine zp HT_ 1 93 3 ?_
                        refine zp HT_ 2 94 7 ?_
                        refine zp HT_ 3 95 15 ?_
                        refine zp HT_ 4 96 31 ?_
                        refine zp HT_ 5 97 63 ?_
                        refine zp HT_ 6 98 127 ?_
                        refine zp HT_ 7 99 255 ?_
                        refine zp HT_ 9 101 767 ?_
                        refine zo HT_ 8 100 1023 (fun K hK => ?_)
                        refine zg Try.func10 #[.pointer (some ⟨g237, 0, none⟩)] ?_
                        with_reducible refine (safe_Safe_Missing.calls k1 g237 t263 t264 t265 t266 t275 t276 t277 t278 t279 w _ ?side1 ?side2 A41.out).mono ?_
                        (case side1 => exact nw41 HI237)
                        (case side2 => exact bw3 HB (IsS41.ge HI232.out) (IsS41.ge HI237.out) (IsS41.ge HI242.out))
                        rintro e w58 ⟨rfl, hi, hb, hk⟩
                        have HS0_ := kc hk hHeld (IsS41.own_ne HI237.out HO_15.out (by decide))
                        refine ⟨_, rfl, ?_⟩
                        have n0_ := Aside0.mk (hk41 HI237 HO_15 hk)
                        have n1_ := Aside0.mk (show IsS41 w _ g232 t256 t257 t258 t259 from kb41 HI232 hk NS232_237.out)
                        have n2_ := Aside0.mk (show IsS41 w _ g242 t271 t272 t273 t274 from kb41 HI242 hk NS242_237.out)
                        have n3_ := Aside0.mk (hb)
                        have n4_ := Aside0.mk (hi)
                        clear HO_15; clear HI232; clear HI242; clear HB; clear HI237; have HO_15 := n0_; have HI232 := n1_; have HI242 := n2_; have HB := n3_; have HI237 := n4_; clear n0_ n1_ n2_ n3_ n4_; (try clear hb); (try clear hb2); (try clear hk); (try clear hi)
                        refine hK.out _ _ (HS0_) (fun hHeld => ?_)
                        clear hK K
                        refine zn ?_
                        refine zo HT_ 10 102 2047 (fun K hK => ?_)
                        refine zg Try.func10 #[.pointer (some ⟨g232, 0, none⟩)] ?_
                        with_reducible refine (safe_Safe_Missing.calls k1 g232 t256 t257 t258 t259 t280 t281 t282 t283 t284 w _ ?side1 ?side2 A42.out).mono ?_
                        (case side1 => exact nw41 HI232)
                        (case side2 => exact bw3 HB (IsS41.ge HI232.out) (IsS41.ge HI237.out) (IsS41.ge HI242.out))
                        rintro e w59 ⟨rfl, hi, hb, hk⟩
                        have HS0_ := kc hk hHeld (IsS41.own_ne HI232.out HO_15.out (by decide))
                        refine ⟨_, rfl, ?_⟩
                        have n0_ := Aside0.mk (hk41 HI232 HO_15 hk)
                        have n1_ := Aside0.mk (show IsS41 w _ g237 t276 t277 t278 t279 from kb41 HI237 hk NS237_232.out)
                        have n2_ := Aside0.mk (show IsS41 w _ g242 t271 t272 t273 t274 from kb41 HI242 hk NS242_232.out)
                        have n3_ := Aside0.mk (hb)
                        have n4_ := Aside0.mk (hi)
                        clear HO_15; clear HI237; clear HI242; clear HB; clear HI232; have HO_15 := n0_; have HI237 := n1_; have HI242 := n2_; have HB := n3_; have HI232 := n4_; clear n0_ n1_ n2_ n3_ n4_; (try clear hb); (try clear hb2); (try clear hk); (try clear hi)
                        refine hK.out _ _ (HS0_) (fun hHeld => ?_)
                        clear hK K
                        refine zn ?_
                        refine zp HT_ 11 103 4095 ?_
                        refine zp HT_ 12 104 8191 ?_
                        refine zp HT_ 13 105 16383 ?_
                        refine zp HT_ 14 106 32767 ?_
                        refine zp HT_ 15 107 65535 ?_
                        refine zp HT_ 17 109 196607 ?_
                        refine zo HT_ 16 108 262143 (fun K hK => ?_)
                        refine zg Try.func10 #[.pointer (some ⟨g242, 0, none⟩)] ?_
                        with_reducible refine (safe_Safe_Missing.calls k1 g242 t271 t272 t273 t274 t285 t286 t287 t288 t289 w _ ?side1 ?side2 A44.out).mono ?_
                        (case side1 => exact nw41 HI242)
                        (case side2 => exact bw3 HB (IsS41.ge HI232.out) (IsS41.ge HI237.out) (IsS41.ge HI242.out))
                        rintro e w60 ⟨rfl, hi, hb, hk⟩
                        have HS0_ := kc hk hHeld (IsS41.own_ne HI242.out HO_15.out (by decide))
                        refine ⟨_, rfl, ?_⟩
                        have n0_ := Aside0.mk (hk41 HI242 HO_15 hk)
                        have n1_ := Aside0.mk (show IsS41 w _ g232 t281 t282 t283 t284 from kb41 HI232 hk NS232_242.out)
                        have n2_ := Aside0.mk (show IsS41 w _ g237 t276 t277 t278 t279 from kb41 HI237 hk NS237_242.out)
                        have n3_ := Aside0.mk (hb)
                        have n4_ := Aside0.mk (hi)
                        clear HO_15; clear HI232; clear HI237; clear HB; clear HI242; have HO_15 := n0_; have HI232 := n1_; have HI237 := n2_; have HB := n3_; have HI242 := n4_; clear n0_ n1_ n2_ n3_ n4_; (try clear hb); (try clear hb2); (try clear hk); (try clear hi)
                        refine hK.out _ _ (HS0_) (fun hHeld => ?_)
                        clear hK K
                        refine zn ?_
                        refine zo HT_ 18 110 524287 (fun K hK => ?_)
                        refine zg Try.func10 #[.pointer (some ⟨g232, 0, none⟩)] ?_
                        with_reducible refine (safe_Safe_Missing.calls k1 g232 t281 t282 t283 t284 t290 t291 t292 t293 t294 w _ ?side1 ?side2 A45.out).mono ?_
                        (case side1 => exact nw41 HI232)
                        (case side2 => exact bw3 HB (IsS41.ge HI232.out) (IsS41.ge HI237.out) (IsS41.ge HI242.out))
                        rintro e w61 ⟨rfl, hi, hb, hk⟩
                        have HS0_ := kc hk hHeld (IsS41.own_ne HI232.out HO_15.out (by decide))
                        refine ⟨_, rfl, ?_⟩
                        have n0_ := Aside0.mk (hk41 HI232 HO_15 hk)
                        have n1_ := Aside0.mk (show IsS41 w _ g237 t276 t277 t278 t279 from kb41 HI237 hk NS237_232.out)
                        have n2_ := Aside0.mk (show IsS41 w _ g242 t286 t287 t288 t289 from kb41 HI242 hk NS242_232.out)
                        have n3_ := Aside0.mk (hb)
                        have n4_ := Aside0.mk (hi)
                        clear HO_15; clear HI237; clear HI242; clear HB; clear HI232; have HO_15 := n0_; have HI237 := n1_; have HI242 := n2_; have HB := n3_; have HI232 := n4_; clear n0_ n1_ n2_ n3_ n4_; (try clear hb); (try clear hb2); (try clear hk); (try clear hi)
                        refine hK.out _ _ (HS0_) (fun hHeld => ?_)
                        clear hK K
                        refine zn ?_
                        refine zp HT_ 19 111 1048575 ?_
                        refine zp HT_ 20 112 2097151 ?_
                        refine zp HT_ 21 113 4194303 ?_
                        refine zp HT_ 22 114 8388607 ?_
                        refine zo HT_ 23 115 16777215 (fun K hK => ?_)
                        refine zg Try.func10 #[.pointer (some ⟨g232, 0, none⟩)] ?_
                        with_reducible refine (safe_Safe_Missing.calls k1 g232 t291 t292 t293 t294 t295 t296 t297 t298 t299 w _ ?side1 ?side2 A47.out).mono ?_
                        (case side1 => exact nw41 HI232)
                        (case side2 => exact bw3 HB (IsS41.ge HI232.out) (IsS41.ge HI237.out) (IsS41.ge HI242.out))
                        rintro e w62 ⟨rfl, hi, hb, hk⟩
                        have HS0_ := kc hk hHeld (IsS41.own_ne HI232.out HO_15.out (by decide))
                        refine ⟨_, rfl, ?_⟩
                        have n0_ := Aside0.mk (hk41 HI232 HO_15 hk)
                        have n1_ := Aside0.mk (show IsS41 w _ g237 t276 t277 t278 t279 from kb41 HI237 hk NS237_232.out)
                        have n2_ := Aside0.mk (show IsS41 w _ g242 t286 t287 t288 t289 from kb41 HI242 hk NS242_232.out)
                        have n3_ := Aside0.mk (hb)
                        have n4_ := Aside0.mk (hi)
                        clear HO_15; clear HI237; clear HI242; clear HB; clear HI232; have HO_15 := n0_; have HI237 := n1_; have HI242 := n2_; have HB := n3_; have HI232 := n4_; clear n0_ n1_ n2_ n3_ n4_; (try clear hb); (try clear hb2); (try clear hk); (try clear hi)
                        refine hK.out _ _ (HS0_) (fun hHeld => ?_)
                        clear hK K
                        refine zn ?_
                        refine zp HT_ 24 116 33554431 ?_
                        refine zp HT_ 25 117 67108863 ?_
                        refine zp HT_ 26 118 134217727 ?_
                        refine zp HT_ 27 119 268435455 ?_
                        refine zp HT_ 29 121 805306367 ?_
                        refine zp HT_ 30 122 1879048191 ?_
                        refine zt HT_ HW_ hHeld 31 123 4026531839 ?_
                        refine zo HT_ 28 120 4294967295 (fun K hK => ?_)
                        refine zg Try.func10 #[.pointer (some ⟨g232, 0, none⟩)] ?_
                        with_reducible refine (safe_Safe_Missing.calls k1 g232 t296 t297 t298 t299 t300 t301 t302 t303 t304 w _ ?side1 ?side2 A49.out).mono ?_
                        (case side1 => exact nw41 HI232)
                        (case side2 => exact bw3 HB (IsS41.ge HI232.out) (IsS41.ge HI237.out) (IsS41.ge HI242.out))
                        rintro e w63 ⟨rfl, hi, hb, hk⟩
                        have HS0_ := kc hk hHeld (IsS41.own_ne HI232.out HO_15.out (by decide))
                        refine ⟨_, rfl, ?_⟩
                        have n0_ := Aside0.mk (hk41 HI232 HO_15 hk)
                        have n1_ := Aside0.mk (show IsS41 w _ g237 t276 t277 t278 t279 from kb41 HI237 hk NS237_232.out)
                        have n2_ := Aside0.mk (show IsS41 w _ g242 t286 t287 t288 t289 from kb41 HI242 hk NS242_232.out)
                        have n3_ := Aside0.mk (hb)
                        have n4_ := Aside0.mk (hi)
                        clear HO_15; clear HI237; clear HI242; clear HB; clear HI232; have HO_15 := n0_; have HI237 := n1_; have HI242 := n2_; have HB := n3_; have HI232 := n4_; clear n0_ n1_ n2_ n3_ n4_; (try clear hb); (try clear hb2); (try clear hk); (try clear hi)
                        refine hK.out _ _ (HS0_) (fun hHeld => ?_)
                        clear hK K
                        refine zn ?_
                        refine zp HT_ 32 124 8589934591 ?_
                        refine zp HT_ 33 125 17179869183 ?_
                        refine zp HT_ 34 10 34359738367 ?_
                        refine done_ (done_of HT_.out (by kernel_rfl)) ?_
                        try go_wp2
                        go_ret
                        exact ⟨by first | rfl | (simp [errW_none, errW_some] <;> rfl) | (simp [*, errW_none, errW_some] <;> rfl), by repeat (first | (with_reducible first | exact HB.out | apply below_alloc | apply pw_below_drewN | apply below_drew1 | refine below_set ?_ (IsS41.ge HI232.out) | refine below_set ?_ (IsS41.ge HI237.out) | refine below_set ?_ (IsS41.ge HI242.out)) | exact HB.out)⟩
                      · rw [if_neg c48] at H
                        have c48b0 : decide (0 ≤ t295) = false := decide_eq_false c48
                        clear c48
                        obtain rfl := Option.some.inj H
                        try go_wp2
                        have n0_ := Aside0.mk (Kd.R_drew HO_15.out)
                        have n1_ := Aside0.mk (IsS41.drew HI232.out)
                        have n2_ := Aside0.mk (IsS41.drew HI237.out)
                        have n3_ := Aside0.mk (IsS41.drew HI242.out)
                        have n4_ := Aside0.mk (below_drew1 HB.out)
                        clear HO_15; clear HI232; clear HI237; clear HI242; clear HB; have HO_15 := n0_; have HI232 := n1_; have HI237 := n2_; have HI242 := n3_; have HB := n4_; clear n0_ n1_ n2_ n3_ n4_
                        obtain ⟨Ao65, co65, eo65⟩ := Kd.R_slice HO_15.out
                        (first | subst eo65 | (injection eo65 with f1_ f2_ f3_; have f4_ := f1_.symm; have f5_ := f3_.symm; clear f1_ f2_ f3_; subst f4_; subst f5_))
                        have p253 : 0 ≤ (0 : Int) := (by omega)
                        have q253 : 0 < (x15_1.length : Int) := of_decide_eq_true (by first | (with_reducible assumption) | assumption)
                        obtain ⟨ad253, e253, hx253_0⟩ := Kd.at_int (Kd.R_reads' HO_15.out).2.2 0 p253 q253
                        cases e253
                        have qi253 : (0 < x15_1.length) = True := eq_true (by omega)
                        (try rw [show ((0 : Int)).toNat = 0 from rfl] at hx253_0)
                        (try rw [Addr.add_zero'] at hx253_0)
                        replace p253 := eq_true p253; replace q253 := eq_true q253
                        have p254 : 0 ≤ (2 : Int) := (by omega)
                        have q254 : 2 < (x15_1.length : Int) := of_decide_eq_true (by first | (with_reducible assumption) | assumption)
                        obtain ⟨ad254, e254, hx254_0⟩ := Kd.at_int (Kd.R_reads' HO_15.out).2.2 2 p254 q254
                        obtain rfl : ad253 = ad254 := (by injection e254)
                        (try simp only [show (2 : Int).toNat = 2 from rfl, Nat.reduceMul, Nat.reduceEqDiff, Go.Addr.add, ↓reduceIte] at hx254_0)
                        have qi254 : (2 < x15_1.length) = True := eq_true (by omega)
                        (try rw [show ((2 : Int)).toNat = 2 from rfl] at hx254_0)
                        replace p254 := eq_true p254; replace q254 := eq_true q254
                        refine start_ (n := 8) (S := fun w' => w'.cell? ad253 = some (.int .i64 (rd x15_1 0)) ∧ w'.cell? ⟨ad253.block, ad253.off + 2, none⟩ = some (.int .i64 (rd x15_1 2))) (ds := []) (nz 8 0) (by kernel_rfl) rfl (by kernel_rfl) ⟨hx253_0, hx254_0⟩ (fun hHeld => ?_); refine with_tabW tabulariumlaw21_SafeOrder.tab14 tabulariumlaw21_SafeOrder.bits14 (fun HT_ HW_ => ?_)
                        generalize wr.drew = w64 at HO_15 HI232 HI237 HI242 HB hx253_0 hx254_0 hHeld ⊢
                        refine zp HT_ 0 64 1 ?_
                        refine zp HT_ 1 65 3 ?_
                        refine zp HT_ 2 66 7 ?_
                        refine zp HT_ 4 68 23 ?_
                        refine zp HT_ 5 69 55 ?_
                        refine zt HT_ HW_ hHeld 3 67 63 ?_
                        refine zt HT_ HW_ hHeld 6 70 127 ?_
                        refine zo HT_ 7 71 255 (fun K hK => ?_)
                        refine zg Try.func9 #[.pointer (some ⟨g232, 0, none⟩), .int .i64 (rd x15_1 0), .int .i64 (rd x15_1 2)] ?_
                        with_reducible refine (safe_Safe_See.calls g232 t228 t229 t230 t231 (rd x15_1 0) (rd x15_1 2) t255 t256 t257 t258 t259 w _ ?side1 ?side2 A35.out).mono ?_
                        (case side1 => exact nw41 HI232)
                        (case side2 => exact bw3 HB (IsS41.ge HI232.out) (IsS41.ge HI237.out) (IsS41.ge HI242.out))
                        rintro e w66 ⟨rfl, hi, hb, hk⟩
                        have HS0_ := kc hk hHeld.1 (IsS41.own_ne HI232.out HO_15.out (by decide))
                        have HS1_ := kc hk hHeld.2 (IsS41.own_ne HI232.out HO_15.out (by decide))
                        refine ⟨_, rfl, ?_⟩
                        have n0_ := Aside0.mk (hk41 HI232 HO_15 hk)
                        have n1_ := Aside0.mk (show IsS41 w _ g237 t233 t234 t235 t236 from kb41 HI237 hk NS237_232.out)
                        have n2_ := Aside0.mk (show IsS41 w _ g242 t238 t239 t240 t241 from kb41 HI242 hk NS242_232.out)
                        have n3_ := Aside0.mk (hb)
                        have n4_ := Aside0.mk (hi)
                        clear HO_15; clear HI237; clear HI242; clear HB; clear HI232; have HO_15 := n0_; have HI237 := n1_; have HI242 := n2_; have HB := n3_; have HI232 := n4_; clear n0_ n1_ n2_ n3_ n4_; (try clear hb); (try clear hb2); (try clear hk); (try clear hi)
                        refine hK.out _ _ ⟨HS0_, HS1_⟩ (fun hHeld => ?_)
                        clear hK K
                        refine zn ?_
                        refine done_ (done_of HT_.out (by kernel_rfl)) ?_
                        try go_wp2
                        have n0_ := Aside0.mk (Kd.R_drew HO_15.out)
                        have n1_ := Aside0.mk (IsS41.drew HI232.out)
                        have n2_ := Aside0.mk (IsS41.drew HI237.out)
                        have n3_ := Aside0.mk (IsS41.drew HI242.out)
                        have n4_ := Aside0.mk (below_drew1 HB.out)
                        clear HO_15; clear HI232; clear HI237; clear HI242; clear HB; have HO_15 := n0_; have HI232 := n1_; have HI237 := n2_; have HI242 := n3_; have HB := n4_; clear n0_ n1_ n2_ n3_ n4_
                        have p260 : 0 ≤ (0 : Int) := (by omega)
                        have q260 : 0 < (x15_1.length : Int) := of_decide_eq_true (by first | (with_reducible assumption) | assumption)
                        obtain ⟨ad260, e260, hx260_0⟩ := Kd.at_int (Kd.R_reads' HO_15.out).2.2 0 p260 q260
                        obtain rfl : ad253 = ad260 := (by injection e260)
                        have qi260 : (0 < x15_1.length) = True := eq_true (by omega)
                        (try rw [show ((0 : Int)).toNat = 0 from rfl] at hx260_0)
                        (try rw [Addr.add_zero'] at hx260_0)
                        replace p260 := eq_true p260; replace q260 := eq_true q260
                        have p261 : 0 ≤ (2 : Int) := (by omega)
                        have q261 : 2 < (x15_1.length : Int) := of_decide_eq_true (by first | (with_reducible assumption) | assumption)
                        obtain ⟨ad261, e261, hx261_0⟩ := Kd.at_int (Kd.R_reads' HO_15.out).2.2 2 p261 q261
                        obtain rfl : ad253 = ad261 := (by injection e261)
                        (try simp only [show (2 : Int).toNat = 2 from rfl, Nat.reduceMul, Nat.reduceEqDiff, Go.Addr.add, ↓reduceIte] at hx261_0)
                        have qi261 : (2 < x15_1.length) = True := eq_true (by omega)
                        (try rw [show ((2 : Int)).toNat = 2 from rfl] at hx261_0)
                        replace p261 := eq_true p261; replace q261 := eq_true q261
                        refine start_ (n := 8) (S := fun w' => w'.cell? ad253 = some (.int .i64 (rd x15_1 0)) ∧ w'.cell? ⟨ad253.block, ad253.off + 2, none⟩ = some (.int .i64 (rd x15_1 2))) (ds := []) (nz 8 0) (by kernel_rfl) rfl (by kernel_rfl) ⟨hx260_0, hx261_0⟩ (fun hHeld => ?_); refine with_tabW tabulariumlaw21_SafeOrder.tab15 tabulariumlaw21_SafeOrder.bits15 (fun HT_ HW_ => ?_)
                        generalize w66.drew = w67 at HO_15 HI232 HI237 HI242 HB hx260_0 hx261_0 hHeld ⊢
                        refine zp HT_ 0 72 1 ?_
                        refine zp HT_ 1 73 3 ?_
                        refine zp HT_ 2 74 7 ?_
                        refine zp HT_ 4 76 23 ?_
                        refine zp HT_ 5 77 55 ?_
                        refine zt HT_ HW_ hHeld 3 75 63 ?_
                        refine zt HT_ HW_ hHeld 6 78 127 ?_
                        refine zo HT_ 7 79 255 (fun K hK => ?_)
                        refine zg Try.func9 #[.pointer (some ⟨g237, 0, none⟩), .int .i64 (rd x15_1 0), .int .i64 (rd x15_1 2)] ?_
                        with_reducible refine (safe_Safe_See.calls g237 t233 t234 t235 t236 (rd x15_1 0) (rd x15_1 2) t262 t263 t264 t265 t266 w _ ?side1 ?side2 A36.out).mono ?_
                        (case side1 => exact nw41 HI237)
                        (case side2 => exact bw3 HB (IsS41.ge HI232.out) (IsS41.ge HI237.out) (IsS41.ge HI242.out))
                        rintro e w68 ⟨rfl, hi, hb, hk⟩
                        have HS0_ := kc hk hHeld.1 (IsS41.own_ne HI237.out HO_15.out (by decide))
                        have HS1_ := kc hk hHeld.2 (IsS41.own_ne HI237.out HO_15.out (by decide))
                        refine ⟨_, rfl, ?_⟩
                        have n0_ := Aside0.mk (hk41 HI237 HO_15 hk)
                        have n1_ := Aside0.mk (show IsS41 w _ g232 t256 t257 t258 t259 from kb41 HI232 hk NS232_237.out)
                        have n2_ := Aside0.mk (show IsS41 w _ g242 t238 t239 t240 t241 from kb41 HI242 hk NS242_237.out)
                        have n3_ := Aside0.mk (hb)
                        have n4_ := Aside0.mk (hi)
                        clear HO_15; clear HI232; clear HI242; clear HB; clear HI237; have HO_15 := n0_; have HI232 := n1_; have HI242 := n2_; have HB := n3_; have HI237 := n4_; clear n0_ n1_ n2_ n3_ n4_; (try clear hb); (try clear hb2); (try clear hk); (try clear hi)
                        refine hK.out _ _ ⟨HS0_, HS1_⟩ (fun hHeld => ?_)
                        clear hK K
                        refine zn ?_
                        refine done_ (done_of HT_.out (by kernel_rfl)) ?_
                        try go_wp2
                        have n0_ := Aside0.mk (Kd.R_drew HO_15.out)
                        have n1_ := Aside0.mk (IsS41.drew HI232.out)
                        have n2_ := Aside0.mk (IsS41.drew HI237.out)
                        have n3_ := Aside0.mk (IsS41.drew HI242.out)
                        have n4_ := Aside0.mk (below_drew1 HB.out)
                        clear HO_15; clear HI232; clear HI237; clear HI242; clear HB; have HO_15 := n0_; have HI232 := n1_; have HI237 := n2_; have HI242 := n3_; have HB := n4_; clear n0_ n1_ n2_ n3_ n4_
                        have p267 : 0 ≤ (0 : Int) := (by omega)
                        have q267 : 0 < (x15_1.length : Int) := of_decide_eq_true (by first | (with_reducible assumption) | assumption)
                        obtain ⟨ad267, e267, hx267_0⟩ := Kd.at_int (Kd.R_reads' HO_15.out).2.2 0 p267 q267
                        obtain rfl : ad253 = ad267 := (by injection e267)
                        have qi267 : (0 < x15_1.length) = True := eq_true (by omega)
                        (try rw [show ((0 : Int)).toNat = 0 from rfl] at hx267_0)
                        (try rw [Addr.add_zero'] at hx267_0)
                        replace p267 := eq_true p267; replace q267 := eq_true q267
                        have p268 : 0 ≤ (1 : Int) := (by omega)
                        have q268 : 1 < (x15_1.length : Int) := of_decide_eq_true (by first | (with_reducible assumption) | assumption)
                        obtain ⟨ad268, e268, hx268_0⟩ := Kd.at_int (Kd.R_reads' HO_15.out).2.2 1 p268 q268
                        obtain rfl : ad253 = ad268 := (by injection e268)
                        (try simp only [show (1 : Int).toNat = 1 from rfl, Nat.reduceMul, Nat.reduceEqDiff, Go.Addr.add, ↓reduceIte] at hx268_0)
                        have qi268 : (1 < x15_1.length) = True := eq_true (by omega)
                        (try rw [show ((1 : Int)).toNat = 1 from rfl] at hx268_0)
                        replace p268 := eq_true p268; replace q268 := eq_true q268
                        have p269 : 0 ≤ (2 : Int) := (by omega)
                        have q269 : 2 < (x15_1.length : Int) := of_decide_eq_true (by first | (with_reducible assumption) | assumption)
                        obtain ⟨ad269, e269, hx269_0⟩ := Kd.at_int (Kd.R_reads' HO_15.out).2.2 2 p269 q269
                        obtain rfl : ad253 = ad269 := (by injection e269)
                        (try simp only [show (2 : Int).toNat = 2 from rfl, Nat.reduceMul, Nat.reduceEqDiff, Go.Addr.add, ↓reduceIte] at hx269_0)
                        have qi269 : (2 < x15_1.length) = True := eq_true (by omega)
                        (try rw [show ((2 : Int)).toNat = 2 from rfl] at hx269_0)
                        replace p269 := eq_true p269; replace q269 := eq_true q269
                        refine start_ (n := 12) (S := fun w' => w'.cell? ad253 = some (.int .i64 (rd x15_1 0)) ∧ w'.cell? ⟨ad253.block, ad253.off + 1, none⟩ = some (.int .i64 (rd x15_1 1)) ∧ w'.cell? ⟨ad253.block, ad253.off + 2, none⟩ = some (.int .i64 (rd x15_1 2))) (ds := []) (nz 12 0) (by kernel_rfl) rfl (by kernel_rfl) ⟨hx267_0, hx268_0, hx269_0⟩ (fun hHeld => ?_); refine with_tabW tabulariumlaw21_SafeOrder.tab16 tabulariumlaw21_SafeOrder.bits16 (fun HT_ HW_ => ?_)
                        generalize w68.drew = w69 at HO_15 HI232 HI237 HI242 HB hx267_0 hx268_0 hx269_0 hHeld ⊢
                        refine zp HT_ 0 80 1 ?_
                        refine zp HT_ 1 81 3 ?_
                        refine zp HT_ 2 82 7 ?_
                        refine zp HT_ 4 84 23 ?_
                        refine zp HT_ 5 85 55 ?_
                        refine zp HT_ 8 88 311 ?_
                        refine zp HT_ 9 89 823 ?_
                        refine zt HT_ HW_ hHeld 3 83 831 ?_
                        refine zt HT_ HW_ hHeld 6 86 895 ?_
                        refine zp HT_ 7 87 1023 ?_
                        refine zt HT_ HW_ hHeld 10 90 2047 ?_
                        refine zo HT_ 11 91 4095 (fun K hK => ?_)
                        refine zg Try.func9 #[.pointer (some ⟨g242, 0, none⟩), .int .i64 (wrap64 ((rd x15_1 0) + (rd x15_1 1))), .int .i64 (rd x15_1 2)] ?_
                        with_reducible refine (safe_Safe_See.calls g242 t238 t239 t240 t241 (wrap64 ((rd x15_1 0) + (rd x15_1 1))) (rd x15_1 2) t270 t271 t272 t273 t274 w _ ?side1 ?side2 A38.out).mono ?_
                        (case side1 => exact nw41 HI242)
                        (case side2 => exact bw3 HB (IsS41.ge HI232.out) (IsS41.ge HI237.out) (IsS41.ge HI242.out))
                        rintro e w70 ⟨rfl, hi, hb, hk⟩
                        have HS0_ := kc hk hHeld.1 (IsS41.own_ne HI242.out HO_15.out (by decide))
                        have HS1_ := kc hk hHeld.2.1 (IsS41.own_ne HI242.out HO_15.out (by decide))
                        have HS2_ := kc hk hHeld.2.2 (IsS41.own_ne HI242.out HO_15.out (by decide))
                        refine ⟨_, rfl, ?_⟩
                        have n0_ := Aside0.mk (hk41 HI242 HO_15 hk)
                        have n1_ := Aside0.mk (show IsS41 w _ g232 t256 t257 t258 t259 from kb41 HI232 hk NS232_242.out)
                        have n2_ := Aside0.mk (show IsS41 w _ g237 t263 t264 t265 t266 from kb41 HI237 hk NS237_242.out)
                        have n3_ := Aside0.mk (hb)
                        have n4_ := Aside0.mk (hi)
                        clear HO_15; clear HI232; clear HI237; clear HB; clear HI242; have HO_15 := n0_; have HI232 := n1_; have HI237 := n2_; have HB := n3_; have HI242 := n4_; clear n0_ n1_ n2_ n3_ n4_; (try clear hb); (try clear hb2); (try clear hk); (try clear hi)
                        refine hK.out _ _ ⟨HS0_, HS1_, HS2_⟩ (fun hHeld => ?_)
                        clear hK K
                        refine zn ?_
                        refine done_ (done_of HT_.out (by kernel_rfl)) ?_
                        try go_wp2
                        have n0_ := Aside0.mk (Kd.R_drew HO_15.out)
                        have n1_ := Aside0.mk (IsS41.drew HI232.out)
                        have n2_ := Aside0.mk (IsS41.drew HI237.out)
                        have n3_ := Aside0.mk (IsS41.drew HI242.out)
                        have n4_ := Aside0.mk (below_drew1 HB.out)
                        clear HO_15; clear HI232; clear HI237; clear HI242; clear HB; have HO_15 := n0_; have HI232 := n1_; have HI237 := n2_; have HI242 := n3_; have HB := n4_; clear n0_ n1_ n2_ n3_ n4_
                        refine start_ (n := 35) (S := fun w' => True) (ds := []) (nz 35 0) (by kernel_rfl) rfl (by kernel_rfl) trivial (fun hHeld => ?_); refine with_tabW tabulariumlaw21_SafeOrder.tab17 tabulariumlaw21_SafeOrder.bits17 (fun HT_ HW_ => ?_)
                        generalize w70.drew = w71 at HO_15 HI232 HI237 HI242 HB hHeld ⊢
                        refine zp HT_ 0 92 1 ?_
                        refine zp HT_ 1 93 3 ?_
                        refine zp HT_ 2 94 7 ?_
                        refine zp HT_ 3 95 15 ?_
                        refine zp HT_ 4 96 31 ?_
                        refine zp HT_ 5 97 63 ?_
                        refine zp HT_ 6 98 127 ?_
                        refine zp HT_ 7 99 255 ?_
                        refine zp HT_ 9 101 767 ?_
                        refine zo HT_ 8 100 1023 (fun K hK => ?_)
                        refine zg Try.func10 #[.pointer (some ⟨g237, 0, none⟩)] ?_
                        with_reducible refine (safe_Safe_Missing.calls k1 g237 t263 t264 t265 t266 t275 t276 t277 t278 t279 w _ ?side1 ?side2 A41.out).mono ?_
                        (case side1 => exact nw41 HI237)
                        (case side2 => exact bw3 HB (IsS41.ge HI232.out) (IsS41.ge HI237.out) (IsS41.ge HI242.out))
                        rintro e w72 ⟨rfl, hi, hb, hk⟩
                        refine ⟨_, rfl, ?_⟩
                        have n0_ := Aside0.mk (hk41 HI237 HO_15 hk)
                        have n1_ := Aside0.mk (show IsS41 w _ g232 t256 t257 t258 t259 from kb41 HI232 hk NS232_237.out)
                        have n2_ := Aside0.mk (show IsS41 w _ g242 t271 t272 t273 t274 from kb41 HI242 hk NS242_237.out)
                        have n3_ := Aside0.mk (hb)
                        have n4_ := Aside0.mk (hi)
                        clear HO_15; clear HI232; clear HI242; clear HB; clear HI237; have HO_15 := n0_; have HI232 := n1_; have HI242 := n2_; have HB := n3_; have HI237 := n4_; clear n0_ n1_ n2_ n3_ n4_; (try clear hb); (try clear hb2); (try clear hk); (try clear hi)
                        refine hK.out _ _ trivial (fun hHeld => ?_)
                        clear hK K
                        refine zn ?_
                        refine zo HT_ 10 102 2047 (fun K hK => ?_)
                        refine zg Try.func10 #[.pointer (some ⟨g232, 0, none⟩)] ?_
                        with_reducible refine (safe_Safe_Missing.calls k1 g232 t256 t257 t258 t259 t280 t281 t282 t283 t284 w _ ?side1 ?side2 A42.out).mono ?_
                        (case side1 => exact nw41 HI232)
                        (case side2 => exact bw3 HB (IsS41.ge HI232.out) (IsS41.ge HI237.out) (IsS41.ge HI242.out))
                        rintro e w73 ⟨rfl, hi, hb, hk⟩
                        refine ⟨_, rfl, ?_⟩
                        have n0_ := Aside0.mk (hk41 HI232 HO_15 hk)
                        have n1_ := Aside0.mk (show IsS41 w _ g237 t276 t277 t278 t279 from kb41 HI237 hk NS237_232.out)
                        have n2_ := Aside0.mk (show IsS41 w _ g242 t271 t272 t273 t274 from kb41 HI242 hk NS242_232.out)
                        have n3_ := Aside0.mk (hb)
                        have n4_ := Aside0.mk (hi)
                        clear HO_15; clear HI237; clear HI242; clear HB; clear HI232; have HO_15 := n0_; have HI237 := n1_; have HI242 := n2_; have HB := n3_; have HI232 := n4_; clear n0_ n1_ n2_ n3_ n4_; (try clear hb); (try clear hb2); (try clear hk); (try clear hi)
                        refine hK.out _ _ trivial (fun hHeld => ?_)
                        clear hK K
                        refine zn ?_
                        refine zp HT_ 11 103 4095 ?_
                        refine zp HT_ 12 104 8191 ?_
                        refine zp HT_ 13 105 16383 ?_
                        refine zp HT_ 14 106 32767 ?_
                        refine zp HT_ 15 107 65535 ?_
                        refine zp HT_ 17 109 196607 ?_
                        refine zo HT_ 16 108 262143 (fun K hK => ?_)
                        refine zg Try.func10 #[.pointer (some ⟨g242, 0, none⟩)] ?_
                        with_reducible refine (safe_Safe_Missing.calls k1 g242 t271 t272 t273 t274 t285 t286 t287 t288 t289 w _ ?side1 ?side2 A44.out).mono ?_
                        (case side1 => exact nw41 HI242)
                        (case side2 => exact bw3 HB (IsS41.ge HI232.out) (IsS41.ge HI237.out) (IsS41.ge HI242.out))
                        rintro e w74 ⟨rfl, hi, hb, hk⟩
                        refine ⟨_, rfl, ?_⟩
                        have n0_ := Aside0.mk (hk41 HI242 HO_15 hk)
                        have n1_ := Aside0.mk (show IsS41 w _ g232 t281 t282 t283 t284 from kb41 HI232 hk NS232_242.out)
                        have n2_ := Aside0.mk (show IsS41 w _ g237 t276 t277 t278 t279 from kb41 HI237 hk NS237_242.out)
                        have n3_ := Aside0.mk (hb)
                        have n4_ := Aside0.mk (hi)
                        clear HO_15; clear HI232; clear HI237; clear HB; clear HI242; have HO_15 := n0_; have HI232 := n1_; have HI237 := n2_; have HB := n3_; have HI242 := n4_; clear n0_ n1_ n2_ n3_ n4_; (try clear hb); (try clear hb2); (try clear hk); (try clear hi)
                        refine hK.out _ _ trivial (fun hHeld => ?_)
                        clear hK K
                        refine zn ?_
                        refine zo HT_ 18 110 524287 (fun K hK => ?_)
                        refine zg Try.func10 #[.pointer (some ⟨g232, 0, none⟩)] ?_
                        with_reducible refine (safe_Safe_Missing.calls k1 g232 t281 t282 t283 t284 t290 t291 t292 t293 t294 w _ ?side1 ?side2 A45.out).mono ?_
                        (case side1 => exact nw41 HI232)
                        (case side2 => exact bw3 HB (IsS41.ge HI232.out) (IsS41.ge HI237.out) (IsS41.ge HI242.out))
                        rintro e w75 ⟨rfl, hi, hb, hk⟩
                        refine ⟨_, rfl, ?_⟩
                        have n0_ := Aside0.mk (hk41 HI232 HO_15 hk)
                        have n1_ := Aside0.mk (show IsS41 w _ g237 t276 t277 t278 t279 from kb41 HI237 hk NS237_232.out)
                        have n2_ := Aside0.mk (show IsS41 w _ g242 t286 t287 t288 t289 from kb41 HI242 hk NS242_232.out)
                        have n3_ := Aside0.mk (hb)
                        have n4_ := Aside0.mk (hi)
                        clear HO_15; clear HI237; clear HI242; clear HB; clear HI232; have HO_15 := n0_; have HI237 := n1_; have HI242 := n2_; have HB := n3_; have HI232 := n4_; clear n0_ n1_ n2_ n3_ n4_; (try clear hb); (try clear hb2); (try clear hk); (try clear hi)
                        refine hK.out _ _ trivial (fun hHeld => ?_)
                        clear hK K
                        refine zn ?_
                        refine zp HT_ 19 111 1048575 ?_
                        refine zp HT_ 20 112 2097151 ?_
                        refine zp HT_ 21 113 4194303 ?_
                        refine zp HT_ 22 114 8388607 ?_
                        refine zo HT_ 23 115 16777215 (fun K hK => ?_)
                        refine zg Try.func10 #[.pointer (some ⟨g232, 0, none⟩)] ?_
                        with_reducible refine (safe_Safe_Missing.calls k1 g232 t291 t292 t293 t294 t295 t296 t297 t298 t299 w _ ?side1 ?side2 A47.out).mono ?_
                        (case side1 => exact nw41 HI232)
                        (case side2 => exact bw3 HB (IsS41.ge HI232.out) (IsS41.ge HI237.out) (IsS41.ge HI242.out))
                        rintro e w76 ⟨rfl, hi, hb, hk⟩
                        refine ⟨_, rfl, ?_⟩
                        have n0_ := Aside0.mk (hk41 HI232 HO_15 hk)
                        have n1_ := Aside0.mk (show IsS41 w _ g237 t276 t277 t278 t279 from kb41 HI237 hk NS237_232.out)
                        have n2_ := Aside0.mk (show IsS41 w _ g242 t286 t287 t288 t289 from kb41 HI242 hk NS242_232.out)
                        have n3_ := Aside0.mk (hb)
                        have n4_ := Aside0.mk (hi)
                        clear HO_15; clear HI237; clear HI242; clear HB; clear HI232; have HO_15 := n0_; have HI237 := n1_; have HI242 := n2_; have HB := n3_; have HI232 := n4_; clear n0_ n1_ n2_ n3_ n4_; (try clear hb); (try clear hb2); (try clear hk); (try clear hi)
                        refine hK.out _ _ trivial (fun hHeld => ?_)
                        clear hK K
                        refine zn ?_
                        refine zp HT_ 24 116 33554431 ?_
                        refine zp HT_ 25 117 67108863 ?_
                        refine zp HT_ 26 118 134217727 ?_
                        refine zq HT_ 27 119 268435455 ?_
                        refine zq HT_ 28 120 536870911 ?_
                        refine zq HT_ 29 121 1073741823 ?_
                        refine zq HT_ 30 122 2147483647 ?_
                        refine zq HT_ 31 123 4294967295 ?_
                        refine zq HT_ 32 124 8589934591 ?_
                        refine zp HT_ 33 125 17179869183 ?_
                        refine zp HT_ 34 10 34359738367 ?_
                        refine done_ (done_of HT_.out (by kernel_rfl)) ?_
                        try go_wp2
                        go_ret
                        exact ⟨by first | rfl | (simp [errW_none, errW_some] <;> rfl) | (simp [*, errW_none, errW_some] <;> rfl), by repeat (first | (with_reducible first | exact HB.out | apply below_alloc | apply pw_below_drewN | apply below_drew1 | refine below_set ?_ (IsS41.ge HI232.out) | refine below_set ?_ (IsS41.ge HI237.out) | refine below_set ?_ (IsS41.ge HI242.out)) | exact HB.out)⟩
                    · rw [if_neg c46] at H
                      have c46b0 : decide (t285 ≤ t290) = false := decide_eq_false c46
                      clear c46
                      obtain rfl := Option.some.inj H
                      try go_wp2
                      have n0_ := Aside0.mk (Kd.R_drew HO_15.out)
                      have n1_ := Aside0.mk (IsS41.drew HI232.out)
                      have n2_ := Aside0.mk (IsS41.drew HI237.out)
                      have n3_ := Aside0.mk (IsS41.drew HI242.out)
                      have n4_ := Aside0.mk (below_drew1 HB.out)
                      clear HO_15; clear HI232; clear HI237; clear HI242; clear HB; have HO_15 := n0_; have HI232 := n1_; have HI237 := n2_; have HI242 := n3_; have HB := n4_; clear n0_ n1_ n2_ n3_ n4_
                      obtain ⟨Ao78, co78, eo78⟩ := Kd.R_slice HO_15.out
                      (first | subst eo78 | (injection eo78 with f1_ f2_ f3_; have f4_ := f1_.symm; have f5_ := f3_.symm; clear f1_ f2_ f3_; subst f4_; subst f5_))
                      have p253 : 0 ≤ (0 : Int) := (by omega)
                      have q253 : 0 < (x15_1.length : Int) := of_decide_eq_true (by first | (with_reducible assumption) | assumption)
                      obtain ⟨ad253, e253, hx253_0⟩ := Kd.at_int (Kd.R_reads' HO_15.out).2.2 0 p253 q253
                      cases e253
                      have qi253 : (0 < x15_1.length) = True := eq_true (by omega)
                      (try rw [show ((0 : Int)).toNat = 0 from rfl] at hx253_0)
                      (try rw [Addr.add_zero'] at hx253_0)
                      replace p253 := eq_true p253; replace q253 := eq_true q253
                      have p254 : 0 ≤ (2 : Int) := (by omega)
                      have q254 : 2 < (x15_1.length : Int) := of_decide_eq_true (by first | (with_reducible assumption) | assumption)
                      obtain ⟨ad254, e254, hx254_0⟩ := Kd.at_int (Kd.R_reads' HO_15.out).2.2 2 p254 q254
                      obtain rfl : ad253 = ad254 := (by injection e254)
                      (try simp only [show (2 : Int).toNat = 2 from rfl, Nat.reduceMul, Nat.reduceEqDiff, Go.Addr.add, ↓reduceIte] at hx254_0)
                      have qi254 : (2 < x15_1.length) = True := eq_true (by omega)
                      (try rw [show ((2 : Int)).toNat = 2 from rfl] at hx254_0)
                      replace p254 := eq_true p254; replace q254 := eq_true q254
                      refine start_ (n := 8) (S := fun w' => w'.cell? ad253 = some (.int .i64 (rd x15_1 0)) ∧ w'.cell? ⟨ad253.block, ad253.off + 2, none⟩ = some (.int .i64 (rd x15_1 2))) (ds := []) (nz 8 0) (by kernel_rfl) rfl (by kernel_rfl) ⟨hx253_0, hx254_0⟩ (fun hHeld => ?_); refine with_tabW tabulariumlaw21_SafeOrder.tab14 tabulariumlaw21_SafeOrder.bits14 (fun HT_ HW_ => ?_)
                      generalize wr.drew = w77 at HO_15 HI232 HI237 HI242 HB hx253_0 hx254_0 hHeld ⊢
                      refine zp HT_ 0 64 1 ?_
                      refine zp HT_ 1 65 3 ?_
                      refine zp HT_ 2 66 7 ?_
                      refine zp HT_ 4 68 23 ?_
                      refine zp HT_ 5 69 55 ?_
                      refine zt HT_ HW_ hHeld 3 67 63 ?_
                      refine zt HT_ HW_ hHeld 6 70 127 ?_
                      refine zo HT_ 7 71 255 (fun K hK => ?_)
                      refine zg Try.func9 #[.pointer (some ⟨g232, 0, none⟩), .int .i64 (rd x15_1 0), .int .i64 (rd x15_1 2)] ?_
                      with_reducible refine (safe_Safe_See.calls g232 t228 t229 t230 t231 (rd x15_1 0) (rd x15_1 2) t255 t256 t257 t258 t259 w _ ?side1 ?side2 A35.out).mono ?_
                      (case side1 => exact nw41 HI232)
                      (case side2 => exact bw3 HB (IsS41.ge HI232.out) (IsS41.ge HI237.out) (IsS41.ge HI242.out))
                      rintro e w79 ⟨rfl, hi, hb, hk⟩
                      have HS0_ := kc hk hHeld.1 (IsS41.own_ne HI232.out HO_15.out (by decide))
                      have HS1_ := kc hk hHeld.2 (IsS41.own_ne HI232.out HO_15.out (by decide))
                      refine ⟨_, rfl, ?_⟩
                      have n0_ := Aside0.mk (hk41 HI232 HO_15 hk)
                      have n1_ := Aside0.mk (show IsS41 w _ g237 t233 t234 t235 t236 from kb41 HI237 hk NS237_232.out)
                      have n2_ := Aside0.mk (show IsS41 w _ g242 t238 t239 t240 t241 from kb41 HI242 hk NS242_232.out)
                      have n3_ := Aside0.mk (hb)
                      have n4_ := Aside0.mk (hi)
                      clear HO_15; clear HI237; clear HI242; clear HB; clear HI232; have HO_15 := n0_; have HI237 := n1_; have HI242 := n2_; have HB := n3_; have HI232 := n4_; clear n0_ n1_ n2_ n3_ n4_; (try clear hb); (try clear hb2); (try clear hk); (try clear hi)
                      refine hK.out _ _ ⟨HS0_, HS1_⟩ (fun hHeld => ?_)
                      clear hK K
                      refine zn ?_
                      refine done_ (done_of HT_.out (by kernel_rfl)) ?_
                      try go_wp2
                      have n0_ := Aside0.mk (Kd.R_drew HO_15.out)
                      have n1_ := Aside0.mk (IsS41.drew HI232.out)
                      have n2_ := Aside0.mk (IsS41.drew HI237.out)
                      have n3_ := Aside0.mk (IsS41.drew HI242.out)
                      have n4_ := Aside0.mk (below_drew1 HB.out)
                      clear HO_15; clear HI232; clear HI237; clear HI242; clear HB; have HO_15 := n0_; have HI232 := n1_; have HI237 := n2_; have HI242 := n3_; have HB := n4_; clear n0_ n1_ n2_ n3_ n4_
                      have p260 : 0 ≤ (0 : Int) := (by omega)
                      have q260 : 0 < (x15_1.length : Int) := of_decide_eq_true (by first | (with_reducible assumption) | assumption)
                      obtain ⟨ad260, e260, hx260_0⟩ := Kd.at_int (Kd.R_reads' HO_15.out).2.2 0 p260 q260
                      obtain rfl : ad253 = ad260 := (by injection e260)
                      have qi260 : (0 < x15_1.length) = True := eq_true (by omega)
                      (try rw [show ((0 : Int)).toNat = 0 from rfl] at hx260_0)
                      (try rw [Addr.add_zero'] at hx260_0)
                      replace p260 := eq_true p260; replace q260 := eq_true q260
                      have p261 : 0 ≤ (2 : Int) := (by omega)
                      have q261 : 2 < (x15_1.length : Int) := of_decide_eq_true (by first | (with_reducible assumption) | assumption)
                      obtain ⟨ad261, e261, hx261_0⟩ := Kd.at_int (Kd.R_reads' HO_15.out).2.2 2 p261 q261
                      obtain rfl : ad253 = ad261 := (by injection e261)
                      (try simp only [show (2 : Int).toNat = 2 from rfl, Nat.reduceMul, Nat.reduceEqDiff, Go.Addr.add, ↓reduceIte] at hx261_0)
                      have qi261 : (2 < x15_1.length) = True := eq_true (by omega)
                      (try rw [show ((2 : Int)).toNat = 2 from rfl] at hx261_0)
                      replace p261 := eq_true p261; replace q261 := eq_true q261
                      refine start_ (n := 8) (S := fun w' => w'.cell? ad253 = some (.int .i64 (rd x15_1 0)) ∧ w'.cell? ⟨ad253.block, ad253.off + 2, none⟩ = some (.int .i64 (rd x15_1 2))) (ds := []) (nz 8 0) (by kernel_rfl) rfl (by kernel_rfl) ⟨hx260_0, hx261_0⟩ (fun hHeld => ?_); refine with_tabW tabulariumlaw21_SafeOrder.tab15 tabulariumlaw21_SafeOrder.bits15 (fun HT_ HW_ => ?_)
                      generalize w79.drew = w80 at HO_15 HI232 HI237 HI242 HB hx260_0 hx261_0 hHeld ⊢
                      refine zp HT_ 0 72 1 ?_
                      refine zp HT_ 1 73 3 ?_
                      refine zp HT_ 2 74 7 ?_
                      refine zp HT_ 4 76 23 ?_
                      refine zp HT_ 5 77 55 ?_
                      refine zt HT_ HW_ hHeld 3 75 63 ?_
                      refine zt HT_ HW_ hHeld 6 78 127 ?_
                      refine zo HT_ 7 79 255 (fun K hK => ?_)
                      refine zg Try.func9 #[.pointer (some ⟨g237, 0, none⟩), .int .i64 (rd x15_1 0), .int .i64 (rd x15_1 2)] ?_
                      with_reducible refine (safe_Safe_See.calls g237 t233 t234 t235 t236 (rd x15_1 0) (rd x15_1 2) t262 t263 t264 t265 t266 w _ ?side1 ?side2 A36.out).mono ?_
                      (case side1 => exact nw41 HI237)
                      (case side2 => exact bw3 HB (IsS41.ge HI232.out) (IsS41.ge HI237.out) (IsS41.ge HI242.out))
                      rintro e w81 ⟨rfl, hi, hb, hk⟩
                      have HS0_ := kc hk hHeld.1 (IsS41.own_ne HI237.out HO_15.out (by decide))
                      have HS1_ := kc hk hHeld.2 (IsS41.own_ne HI237.out HO_15.out (by decide))
                      refine ⟨_, rfl, ?_⟩
                      have n0_ := Aside0.mk (hk41 HI237 HO_15 hk)
                      have n1_ := Aside0.mk (show IsS41 w _ g232 t256 t257 t258 t259 from kb41 HI232 hk NS232_237.out)
                      have n2_ := Aside0.mk (show IsS41 w _ g242 t238 t239 t240 t241 from kb41 HI242 hk NS242_237.out)
                      have n3_ := Aside0.mk (hb)
                      have n4_ := Aside0.mk (hi)
                      clear HO_15; clear HI232; clear HI242; clear HB; clear HI237; have HO_15 := n0_; have HI232 := n1_; have HI242 := n2_; have HB := n3_; have HI237 := n4_; clear n0_ n1_ n2_ n3_ n4_; (try clear hb); (try clear hb2); (try clear hk); (try clear hi)
                      refine hK.out _ _ ⟨HS0_, HS1_⟩ (fun hHeld => ?_)
                      clear hK K
                      refine zn ?_
                      refine done_ (done_of HT_.out (by kernel_rfl)) ?_
                      try go_wp2
                      have n0_ := Aside0.mk (Kd.R_drew HO_15.out)
                      have n1_ := Aside0.mk (IsS41.drew HI232.out)
                      have n2_ := Aside0.mk (IsS41.drew HI237.out)
                      have n3_ := Aside0.mk (IsS41.drew HI242.out)
                      have n4_ := Aside0.mk (below_drew1 HB.out)
                      clear HO_15; clear HI232; clear HI237; clear HI242; clear HB; have HO_15 := n0_; have HI232 := n1_; have HI237 := n2_; have HI242 := n3_; have HB := n4_; clear n0_ n1_ n2_ n3_ n4_
                      have p267 : 0 ≤ (0 : Int) := (by omega)
                      have q267 : 0 < (x15_1.length : Int) := of_decide_eq_true (by first | (with_reducible assumption) | assumption)
                      obtain ⟨ad267, e267, hx267_0⟩ := Kd.at_int (Kd.R_reads' HO_15.out).2.2 0 p267 q267
                      obtain rfl : ad253 = ad267 := (by injection e267)
                      have qi267 : (0 < x15_1.length) = True := eq_true (by omega)
                      (try rw [show ((0 : Int)).toNat = 0 from rfl] at hx267_0)
                      (try rw [Addr.add_zero'] at hx267_0)
                      replace p267 := eq_true p267; replace q267 := eq_true q267
                      have p268 : 0 ≤ (1 : Int) := (by omega)
                      have q268 : 1 < (x15_1.length : Int) := of_decide_eq_true (by first | (with_reducible assumption) | assumption)
                      obtain ⟨ad268, e268, hx268_0⟩ := Kd.at_int (Kd.R_reads' HO_15.out).2.2 1 p268 q268
                      obtain rfl : ad253 = ad268 := (by injection e268)
                      (try simp only [show (1 : Int).toNat = 1 from rfl, Nat.reduceMul, Nat.reduceEqDiff, Go.Addr.add, ↓reduceIte] at hx268_0)
                      have qi268 : (1 < x15_1.length) = True := eq_true (by omega)
                      (try rw [show ((1 : Int)).toNat = 1 from rfl] at hx268_0)
                      replace p268 := eq_true p268; replace q268 := eq_true q268
                      have p269 : 0 ≤ (2 : Int) := (by omega)
                      have q269 : 2 < (x15_1.length : Int) := of_decide_eq_true (by first | (with_reducible assumption) | assumption)
                      obtain ⟨ad269, e269, hx269_0⟩ := Kd.at_int (Kd.R_reads' HO_15.out).2.2 2 p269 q269
                      obtain rfl : ad253 = ad269 := (by injection e269)
                      (try simp only [show (2 : Int).toNat = 2 from rfl, Nat.reduceMul, Nat.reduceEqDiff, Go.Addr.add, ↓reduceIte] at hx269_0)
                      have qi269 : (2 < x15_1.length) = True := eq_true (by omega)
                      (try rw [show ((2 : Int)).toNat = 2 from rfl] at hx269_0)
                      replace p269 := eq_true p269; replace q269 := eq_true q269
                      refine start_ (n := 12) (S := fun w' => w'.cell? ad253 = some (.int .i64 (rd x15_1 0)) ∧ w'.cell? ⟨ad253.block, ad253.off + 1, none⟩ = some (.int .i64 (rd x15_1 1)) ∧ w'.cell? ⟨ad253.block, ad253.off + 2, none⟩ = some (.int .i64 (rd x15_1 2))) (ds := []) (nz 12 0) (by kernel_rfl) rfl (by kernel_rfl) ⟨hx267_0, hx268_0, hx269_0⟩ (fun hHeld => ?_); refine with_tabW tabulariumlaw21_SafeOrder.tab16 tabulariumlaw21_SafeOrder.bits16 (fun HT_ HW_ => ?_)
                      generalize w81.drew = w82 at HO_15 HI232 HI237 HI242 HB hx267_0 hx268_0 hx269_0 hHeld ⊢
                      refine zp HT_ 0 80 1 ?_
                      refine zp HT_ 1 81 3 ?_
                      refine zp HT_ 2 82 7 ?_
                      refine zp HT_ 4 84 23 ?_
                      refine zp HT_ 5 85 55 ?_
                      refine zp HT_ 8 88 311 ?_
                      refine zp HT_ 9 89 823 ?_
                      refine zt HT_ HW_ hHeld 3 83 831 ?_
                      refine zt HT_ HW_ hHeld 6 86 895 ?_
                      refine zp HT_ 7 87 1023 ?_
                      refine zt HT_ HW_ hHeld 10 90 2047 ?_
                      refine zo HT_ 11 91 4095 (fun K hK => ?_)
                      refine zg Try.func9 #[.pointer (some ⟨g242, 0, none⟩), .int .i64 (wrap64 ((rd x15_1 0) + (rd x15_1 1))), .int .i64 (rd x15_1 2)] ?_
                      with_reducible refine (safe_Safe_See.calls g242 t238 t239 t240 t241 (wrap64 ((rd x15_1 0) + (rd x15_1 1))) (rd x15_1 2) t270 t271 t272 t273 t274 w _ ?side1 ?side2 A38.out).mono ?_
                      (case side1 => exact nw41 HI242)
                      (case side2 => exact bw3 HB (IsS41.ge HI232.out) (IsS41.ge HI237.out) (IsS41.ge HI242.out))
                      rintro e w83 ⟨rfl, hi, hb, hk⟩
                      have HS0_ := kc hk hHeld.1 (IsS41.own_ne HI242.out HO_15.out (by decide))
                      have HS1_ := kc hk hHeld.2.1 (IsS41.own_ne HI242.out HO_15.out (by decide))
                      have HS2_ := kc hk hHeld.2.2 (IsS41.own_ne HI242.out HO_15.out (by decide))
                      refine ⟨_, rfl, ?_⟩
                      have n0_ := Aside0.mk (hk41 HI242 HO_15 hk)
                      have n1_ := Aside0.mk (show IsS41 w _ g232 t256 t257 t258 t259 from kb41 HI232 hk NS232_242.out)
                      have n2_ := Aside0.mk (show IsS41 w _ g237 t263 t264 t265 t266 from kb41 HI237 hk NS237_242.out)
                      have n3_ := Aside0.mk (hb)
                      have n4_ := Aside0.mk (hi)
                      clear HO_15; clear HI232; clear HI237; clear HB; clear HI242; have HO_15 := n0_; have HI232 := n1_; have HI237 := n2_; have HB := n3_; have HI242 := n4_; clear n0_ n1_ n2_ n3_ n4_; (try clear hb); (try clear hb2); (try clear hk); (try clear hi)
                      refine hK.out _ _ ⟨HS0_, HS1_, HS2_⟩ (fun hHeld => ?_)
                      clear hK K
                      refine zn ?_
                      refine done_ (done_of HT_.out (by kernel_rfl)) ?_
                      try go_wp2
                      have n0_ := Aside0.mk (Kd.R_drew HO_15.out)
                      have n1_ := Aside0.mk (IsS41.drew HI232.out)
                      have n2_ := Aside0.mk (IsS41.drew HI237.out)
                      have n3_ := Aside0.mk (IsS41.drew HI242.out)
                      have n4_ := Aside0.mk (below_drew1 HB.out)
                      clear HO_15; clear HI232; clear HI237; clear HI242; clear HB; have HO_15 := n0_; have HI232 := n1_; have HI237 := n2_; have HI242 := n3_; have HB := n4_; clear n0_ n1_ n2_ n3_ n4_
                      refine start_ (n := 35) (S := fun w' => True) (ds := []) (nz 35 0) (by kernel_rfl) rfl (by kernel_rfl) trivial (fun hHeld => ?_); refine with_tabW tabulariumlaw21_SafeOrder.tab17 tabulariumlaw21_SafeOrder.bits17 (fun HT_ HW_ => ?_)
                      generalize w83.drew = w84 at HO_15 HI232 HI237 HI242 HB hHeld ⊢
                      refine zp HT_ 0 92 1 ?_
                      refine zp HT_ 1 93 3 ?_
                      refine zp HT_ 2 94 7 ?_
                      refine zp HT_ 3 95 15 ?_
                      refine zp HT_ 4 96 31 ?_
                      refine zp HT_ 5 97 63 ?_
                      refine zp HT_ 6 98 127 ?_
                      refine zp HT_ 7 99 255 ?_
                      refine zp HT_ 9 101 767 ?_
                      refine zo HT_ 8 100 1023 (fun K hK => ?_)
                      refine zg Try.func10 #[.pointer (some ⟨g237, 0, none⟩)] ?_
                      with_reducible refine (safe_Safe_Missing.calls k1 g237 t263 t264 t265 t266 t275 t276 t277 t278 t279 w _ ?side1 ?side2 A41.out).mono ?_
                      (case side1 => exact nw41 HI237)
                      (case side2 => exact bw3 HB (IsS41.ge HI232.out) (IsS41.ge HI237.out) (IsS41.ge HI242.out))
                      rintro e w85 ⟨rfl, hi, hb, hk⟩
                      refine ⟨_, rfl, ?_⟩
                      have n0_ := Aside0.mk (hk41 HI237 HO_15 hk)
                      have n1_ := Aside0.mk (show IsS41 w _ g232 t256 t257 t258 t259 from kb41 HI232 hk NS232_237.out)
                      have n2_ := Aside0.mk (show IsS41 w _ g242 t271 t272 t273 t274 from kb41 HI242 hk NS242_237.out)
                      have n3_ := Aside0.mk (hb)
                      have n4_ := Aside0.mk (hi)
                      clear HO_15; clear HI232; clear HI242; clear HB; clear HI237; have HO_15 := n0_; have HI232 := n1_; have HI242 := n2_; have HB := n3_; have HI237 := n4_; clear n0_ n1_ n2_ n3_ n4_; (try clear hb); (try clear hb2); (try clear hk); (try clear hi)
                      refine hK.out _ _ trivial (fun hHeld => ?_)
                      clear hK K
                      refine zn ?_
                      refine zo HT_ 10 102 2047 (fun K hK => ?_)
                      refine zg Try.func10 #[.pointer (some ⟨g232, 0, none⟩)] ?_
                      with_reducible refine (safe_Safe_Missing.calls k1 g232 t256 t257 t258 t259 t280 t281 t282 t283 t284 w _ ?side1 ?side2 A42.out).mono ?_
                      (case side1 => exact nw41 HI232)
                      (case side2 => exact bw3 HB (IsS41.ge HI232.out) (IsS41.ge HI237.out) (IsS41.ge HI242.out))
                      rintro e w86 ⟨rfl, hi, hb, hk⟩
                      refine ⟨_, rfl, ?_⟩
                      have n0_ := Aside0.mk (hk41 HI232 HO_15 hk)
                      have n1_ := Aside0.mk (show IsS41 w _ g237 t276 t277 t278 t279 from kb41 HI237 hk NS237_232.out)
                      have n2_ := Aside0.mk (show IsS41 w _ g242 t271 t272 t273 t274 from kb41 HI242 hk NS242_232.out)
                      have n3_ := Aside0.mk (hb)
                      have n4_ := Aside0.mk (hi)
                      clear HO_15; clear HI237; clear HI242; clear HB; clear HI232; have HO_15 := n0_; have HI237 := n1_; have HI242 := n2_; have HB := n3_; have HI232 := n4_; clear n0_ n1_ n2_ n3_ n4_; (try clear hb); (try clear hb2); (try clear hk); (try clear hi)
                      refine hK.out _ _ trivial (fun hHeld => ?_)
                      clear hK K
                      refine zn ?_
                      refine zp HT_ 11 103 4095 ?_
                      refine zp HT_ 12 104 8191 ?_
                      refine zp HT_ 13 105 16383 ?_
                      refine zp HT_ 14 106 32767 ?_
                      refine zp HT_ 15 107 65535 ?_
                      refine zp HT_ 17 109 196607 ?_
                      refine zo HT_ 16 108 262143 (fun K hK => ?_)
                      refine zg Try.func10 #[.pointer (some ⟨g242, 0, none⟩)] ?_
                      with_reducible refine (safe_Safe_Missing.calls k1 g242 t271 t272 t273 t274 t285 t286 t287 t288 t289 w _ ?side1 ?side2 A44.out).mono ?_
                      (case side1 => exact nw41 HI242)
                      (case side2 => exact bw3 HB (IsS41.ge HI232.out) (IsS41.ge HI237.out) (IsS41.ge HI242.out))
                      rintro e w87 ⟨rfl, hi, hb, hk⟩
                      refine ⟨_, rfl, ?_⟩
                      have n0_ := Aside0.mk (hk41 HI242 HO_15 hk)
                      have n1_ := Aside0.mk (show IsS41 w _ g232 t281 t282 t283 t284 from kb41 HI232 hk NS232_242.out)
                      have n2_ := Aside0.mk (show IsS41 w _ g237 t276 t277 t278 t279 from kb41 HI237 hk NS237_242.out)
                      have n3_ := Aside0.mk (hb)
                      have n4_ := Aside0.mk (hi)
                      clear HO_15; clear HI232; clear HI237; clear HB; clear HI242; have HO_15 := n0_; have HI232 := n1_; have HI237 := n2_; have HB := n3_; have HI242 := n4_; clear n0_ n1_ n2_ n3_ n4_; (try clear hb); (try clear hb2); (try clear hk); (try clear hi)
                      refine hK.out _ _ trivial (fun hHeld => ?_)
                      clear hK K
                      refine zn ?_
                      refine zo HT_ 18 110 524287 (fun K hK => ?_)
                      refine zg Try.func10 #[.pointer (some ⟨g232, 0, none⟩)] ?_
                      with_reducible refine (safe_Safe_Missing.calls k1 g232 t281 t282 t283 t284 t290 t291 t292 t293 t294 w _ ?side1 ?side2 A45.out).mono ?_
                      (case side1 => exact nw41 HI232)
                      (case side2 => exact bw3 HB (IsS41.ge HI232.out) (IsS41.ge HI237.out) (IsS41.ge HI242.out))
                      rintro e w88 ⟨rfl, hi, hb, hk⟩
                      refine ⟨_, rfl, ?_⟩
                      have n0_ := Aside0.mk (hk41 HI232 HO_15 hk)
                      have n1_ := Aside0.mk (show IsS41 w _ g237 t276 t277 t278 t279 from kb41 HI237 hk NS237_232.out)
                      have n2_ := Aside0.mk (show IsS41 w _ g242 t286 t287 t288 t289 from kb41 HI242 hk NS242_232.out)
                      have n3_ := Aside0.mk (hb)
                      have n4_ := Aside0.mk (hi)
                      clear HO_15; clear HI237; clear HI242; clear HB; clear HI232; have HO_15 := n0_; have HI237 := n1_; have HI242 := n2_; have HB := n3_; have HI232 := n4_; clear n0_ n1_ n2_ n3_ n4_; (try clear hb); (try clear hb2); (try clear hk); (try clear hi)
                      refine hK.out _ _ trivial (fun hHeld => ?_)
                      clear hK K
                      refine zn ?_
                      refine zp HT_ 19 111 1048575 ?_
                      refine zp HT_ 20 112 2097151 ?_
                      refine zp HT_ 21 113 4194303 ?_
                      refine zq HT_ 22 114 8388607 ?_
                      refine zq HT_ 23 115 16777215 ?_
                      refine zq HT_ 24 116 33554431 ?_
                      refine zp HT_ 25 117 67108863 ?_
                      refine zp HT_ 26 118 134217727 ?_
                      refine zq HT_ 27 119 268435455 ?_
                      refine zq HT_ 28 120 536870911 ?_
                      refine zq HT_ 29 121 1073741823 ?_
                      refine zq HT_ 30 122 2147483647 ?_
                      refine zq HT_ 31 123 4294967295 ?_
                      refine zq HT_ 32 124 8589934591 ?_
                      refine zp HT_ 33 125 17179869183 ?_
                      refine zp HT_ 34 10 34359738367 ?_
                      refine done_ (done_of HT_.out (by kernel_rfl)) ?_
                      try go_wp2
                      go_ret
                      exact ⟨by first | rfl | (simp [errW_none, errW_some] <;> rfl) | (simp [*, errW_none, errW_some] <;> rfl), by repeat (first | (with_reducible first | exact HB.out | apply below_alloc | apply pw_below_drewN | apply below_drew1 | refine below_set ?_ (IsS41.ge HI232.out) | refine below_set ?_ (IsS41.ge HI237.out) | refine below_set ?_ (IsS41.ge HI242.out)) | exact HB.out)⟩
                  · rw [if_neg c43] at H
                    have c43b0 : decide (t275 ≤ t280) = false := decide_eq_false c43
                    clear c43
                    obtain rfl := Option.some.inj H
                    try go_wp2
                    have n0_ := Aside0.mk (Kd.R_drew HO_15.out)
                    have n1_ := Aside0.mk (IsS41.drew HI232.out)
                    have n2_ := Aside0.mk (IsS41.drew HI237.out)
                    have n3_ := Aside0.mk (IsS41.drew HI242.out)
                    have n4_ := Aside0.mk (below_drew1 HB.out)
                    clear HO_15; clear HI232; clear HI237; clear HI242; clear HB; have HO_15 := n0_; have HI232 := n1_; have HI237 := n2_; have HI242 := n3_; have HB := n4_; clear n0_ n1_ n2_ n3_ n4_
                    obtain ⟨Ao90, co90, eo90⟩ := Kd.R_slice HO_15.out
                    (first | subst eo90 | (injection eo90 with f1_ f2_ f3_; have f4_ := f1_.symm; have f5_ := f3_.symm; clear f1_ f2_ f3_; subst f4_; subst f5_))
                    have p253 : 0 ≤ (0 : Int) := (by omega)
                    have q253 : 0 < (x15_1.length : Int) := of_decide_eq_true (by first | (with_reducible assumption) | assumption)
                    obtain ⟨ad253, e253, hx253_0⟩ := Kd.at_int (Kd.R_reads' HO_15.out).2.2 0 p253 q253
                    cases e253
                    have qi253 : (0 < x15_1.length) = True := eq_true (by omega)
                    (try rw [show ((0 : Int)).toNat = 0 from rfl] at hx253_0)
                    (try rw [Addr.add_zero'] at hx253_0)
                    replace p253 := eq_true p253; replace q253 := eq_true q253
                    have p254 : 0 ≤ (2 : Int) := (by omega)
                    have q254 : 2 < (x15_1.length : Int) := of_decide_eq_true (by first | (with_reducible assumption) | assumption)
                    obtain ⟨ad254, e254, hx254_0⟩ := Kd.at_int (Kd.R_reads' HO_15.out).2.2 2 p254 q254
                    obtain rfl : ad253 = ad254 := (by injection e254)
                    (try simp only [show (2 : Int).toNat = 2 from rfl, Nat.reduceMul, Nat.reduceEqDiff, Go.Addr.add, ↓reduceIte] at hx254_0)
                    have qi254 : (2 < x15_1.length) = True := eq_true (by omega)
                    (try rw [show ((2 : Int)).toNat = 2 from rfl] at hx254_0)
                    replace p254 := eq_true p254; replace q254 := eq_true q254
                    refine start_ (n := 8) (S := fun w' => w'.cell? ad253 = some (.int .i64 (rd x15_1 0)) ∧ w'.cell? ⟨ad253.block, ad253.off + 2, none⟩ = some (.int .i64 (rd x15_1 2))) (ds := []) (nz 8 0) (by kernel_rfl) rfl (by kernel_rfl) ⟨hx253_0, hx254_0⟩ (fun hHeld => ?_); refine with_tabW tabulariumlaw21_SafeOrder.tab14 tabulariumlaw21_SafeOrder.bits14 (fun HT_ HW_ => ?_)
                    generalize wr.drew = w89 at HO_15 HI232 HI237 HI242 HB hx253_0 hx254_0 hHeld ⊢
                    refine zp HT_ 0 64 1 ?_
                    refine zp HT_ 1 65 3 ?_
                    refine zp HT_ 2 66 7 ?_
                    refine zp HT_ 4 68 23 ?_
                    refine zp HT_ 5 69 55 ?_
                    refine zt HT_ HW_ hHeld 3 67 63 ?_
                    refine zt HT_ HW_ hHeld 6 70 127 ?_
                    refine zo HT_ 7 71 255 (fun K hK => ?_)
                    refine zg Try.func9 #[.pointer (some ⟨g232, 0, none⟩), .int .i64 (rd x15_1 0), .int .i64 (rd x15_1 2)] ?_
                    with_reducible refine (safe_Safe_See.calls g232 t228 t229 t230 t231 (rd x15_1 0) (rd x15_1 2) t255 t256 t257 t258 t259 w _ ?side1 ?side2 A35.out).mono ?_
                    (case side1 => exact nw41 HI232)
                    (case side2 => exact bw3 HB (IsS41.ge HI232.out) (IsS41.ge HI237.out) (IsS41.ge HI242.out))
                    rintro e w91 ⟨rfl, hi, hb, hk⟩
                    have HS0_ := kc hk hHeld.1 (IsS41.own_ne HI232.out HO_15.out (by decide))
                    have HS1_ := kc hk hHeld.2 (IsS41.own_ne HI232.out HO_15.out (by decide))
                    refine ⟨_, rfl, ?_⟩
                    have n0_ := Aside0.mk (hk41 HI232 HO_15 hk)
                    have n1_ := Aside0.mk (show IsS41 w _ g237 t233 t234 t235 t236 from kb41 HI237 hk NS237_232.out)
                    have n2_ := Aside0.mk (show IsS41 w _ g242 t238 t239 t240 t241 from kb41 HI242 hk NS242_232.out)
                    have n3_ := Aside0.mk (hb)
                    have n4_ := Aside0.mk (hi)
                    clear HO_15; clear HI237; clear HI242; clear HB; clear HI232; have HO_15 := n0_; have HI237 := n1_; have HI242 := n2_; have HB := n3_; have HI232 := n4_; clear n0_ n1_ n2_ n3_ n4_; (try clear hb); (try clear hb2); (try clear hk); (try clear hi)
                    refine hK.out _ _ ⟨HS0_, HS1_⟩ (fun hHeld => ?_)
                    clear hK K
                    refine zn ?_
                    refine done_ (done_of HT_.out (by kernel_rfl)) ?_
                    try go_wp2
                    have n0_ := Aside0.mk (Kd.R_drew HO_15.out)
                    have n1_ := Aside0.mk (IsS41.drew HI232.out)
                    have n2_ := Aside0.mk (IsS41.drew HI237.out)
                    have n3_ := Aside0.mk (IsS41.drew HI242.out)
                    have n4_ := Aside0.mk (below_drew1 HB.out)
                    clear HO_15; clear HI232; clear HI237; clear HI242; clear HB; have HO_15 := n0_; have HI232 := n1_; have HI237 := n2_; have HI242 := n3_; have HB := n4_; clear n0_ n1_ n2_ n3_ n4_
                    have p260 : 0 ≤ (0 : Int) := (by omega)
                    have q260 : 0 < (x15_1.length : Int) := of_decide_eq_true (by first | (with_reducible assumption) | assumption)
                    obtain ⟨ad260, e260, hx260_0⟩ := Kd.at_int (Kd.R_reads' HO_15.out).2.2 0 p260 q260
                    obtain rfl : ad253 = ad260 := (by injection e260)
                    have qi260 : (0 < x15_1.length) = True := eq_true (by omega)
                    (try rw [show ((0 : Int)).toNat = 0 from rfl] at hx260_0)
                    (try rw [Addr.add_zero'] at hx260_0)
                    replace p260 := eq_true p260; replace q260 := eq_true q260
                    have p261 : 0 ≤ (2 : Int) := (by omega)
                    have q261 : 2 < (x15_1.length : Int) := of_decide_eq_true (by first | (with_reducible assumption) | assumption)
                    obtain ⟨ad261, e261, hx261_0⟩ := Kd.at_int (Kd.R_reads' HO_15.out).2.2 2 p261 q261
                    obtain rfl : ad253 = ad261 := (by injection e261)
                    (try simp only [show (2 : Int).toNat = 2 from rfl, Nat.reduceMul, Nat.reduceEqDiff, Go.Addr.add, ↓reduceIte] at hx261_0)
                    have qi261 : (2 < x15_1.length) = True := eq_true (by omega)
                    (try rw [show ((2 : Int)).toNat = 2 from rfl] at hx261_0)
                    replace p261 := eq_true p261; replace q261 := eq_true q261
                    refine start_ (n := 8) (S := fun w' => w'.cell? ad253 = some (.int .i64 (rd x15_1 0)) ∧ w'.cell? ⟨ad253.block, ad253.off + 2, none⟩ = some (.int .i64 (rd x15_1 2))) (ds := []) (nz 8 0) (by kernel_rfl) rfl (by kernel_rfl) ⟨hx260_0, hx261_0⟩ (fun hHeld => ?_); refine with_tabW tabulariumlaw21_SafeOrder.tab15 tabulariumlaw21_SafeOrder.bits15 (fun HT_ HW_ => ?_)
                    generalize w91.drew = w92 at HO_15 HI232 HI237 HI242 HB hx260_0 hx261_0 hHeld ⊢
                    refine zp HT_ 0 72 1 ?_
                    refine zp HT_ 1 73 3 ?_
                    refine zp HT_ 2 74 7 ?_
                    refine zp HT_ 4 76 23 ?_
                    refine zp HT_ 5 77 55 ?_
                    refine zt HT_ HW_ hHeld 3 75 63 ?_
                    refine zt HT_ HW_ hHeld 6 78 127 ?_
                    refine zo HT_ 7 79 255 (fun K hK => ?_)
                    refine zg Try.func9 #[.pointer (some ⟨g237, 0, none⟩), .int .i64 (rd x15_1 0), .int .i64 (rd x15_1 2)] ?_
                    with_reducible refine (safe_Safe_See.calls g237 t233 t234 t235 t236 (rd x15_1 0) (rd x15_1 2) t262 t263 t264 t265 t266 w _ ?side1 ?side2 A36.out).mono ?_
                    (case side1 => exact nw41 HI237)
                    (case side2 => exact bw3 HB (IsS41.ge HI232.out) (IsS41.ge HI237.out) (IsS41.ge HI242.out))
                    rintro e w93 ⟨rfl, hi, hb, hk⟩
                    have HS0_ := kc hk hHeld.1 (IsS41.own_ne HI237.out HO_15.out (by decide))
                    have HS1_ := kc hk hHeld.2 (IsS41.own_ne HI237.out HO_15.out (by decide))
                    refine ⟨_, rfl, ?_⟩
                    have n0_ := Aside0.mk (hk41 HI237 HO_15 hk)
                    have n1_ := Aside0.mk (show IsS41 w _ g232 t256 t257 t258 t259 from kb41 HI232 hk NS232_237.out)
                    have n2_ := Aside0.mk (show IsS41 w _ g242 t238 t239 t240 t241 from kb41 HI242 hk NS242_237.out)
                    have n3_ := Aside0.mk (hb)
                    have n4_ := Aside0.mk (hi)
                    clear HO_15; clear HI232; clear HI242; clear HB; clear HI237; have HO_15 := n0_; have HI232 := n1_; have HI242 := n2_; have HB := n3_; have HI237 := n4_; clear n0_ n1_ n2_ n3_ n4_; (try clear hb); (try clear hb2); (try clear hk); (try clear hi)
                    refine hK.out _ _ ⟨HS0_, HS1_⟩ (fun hHeld => ?_)
                    clear hK K
                    refine zn ?_
                    refine done_ (done_of HT_.out (by kernel_rfl)) ?_
                    try go_wp2
                    have n0_ := Aside0.mk (Kd.R_drew HO_15.out)
                    have n1_ := Aside0.mk (IsS41.drew HI232.out)
                    have n2_ := Aside0.mk (IsS41.drew HI237.out)
                    have n3_ := Aside0.mk (IsS41.drew HI242.out)
                    have n4_ := Aside0.mk (below_drew1 HB.out)
                    clear HO_15; clear HI232; clear HI237; clear HI242; clear HB; have HO_15 := n0_; have HI232 := n1_; have HI237 := n2_; have HI242 := n3_; have HB := n4_; clear n0_ n1_ n2_ n3_ n4_
                    have p267 : 0 ≤ (0 : Int) := (by omega)
                    have q267 : 0 < (x15_1.length : Int) := of_decide_eq_true (by first | (with_reducible assumption) | assumption)
                    obtain ⟨ad267, e267, hx267_0⟩ := Kd.at_int (Kd.R_reads' HO_15.out).2.2 0 p267 q267
                    obtain rfl : ad253 = ad267 := (by injection e267)
                    have qi267 : (0 < x15_1.length) = True := eq_true (by omega)
                    (try rw [show ((0 : Int)).toNat = 0 from rfl] at hx267_0)
                    (try rw [Addr.add_zero'] at hx267_0)
                    replace p267 := eq_true p267; replace q267 := eq_true q267
                    have p268 : 0 ≤ (1 : Int) := (by omega)
                    have q268 : 1 < (x15_1.length : Int) := of_decide_eq_true (by first | (with_reducible assumption) | assumption)
                    obtain ⟨ad268, e268, hx268_0⟩ := Kd.at_int (Kd.R_reads' HO_15.out).2.2 1 p268 q268
                    obtain rfl : ad253 = ad268 := (by injection e268)
                    (try simp only [show (1 : Int).toNat = 1 from rfl, Nat.reduceMul, Nat.reduceEqDiff, Go.Addr.add, ↓reduceIte] at hx268_0)
                    have qi268 : (1 < x15_1.length) = True := eq_true (by omega)
                    (try rw [show ((1 : Int)).toNat = 1 from rfl] at hx268_0)
                    replace p268 := eq_true p268; replace q268 := eq_true q268
                    have p269 : 0 ≤ (2 : Int) := (by omega)
                    have q269 : 2 < (x15_1.length : Int) := of_decide_eq_true (by first | (with_reducible assumption) | assumption)
                    obtain ⟨ad269, e269, hx269_0⟩ := Kd.at_int (Kd.R_reads' HO_15.out).2.2 2 p269 q269
                    obtain rfl : ad253 = ad269 := (by injection e269)
                    (try simp only [show (2 : Int).toNat = 2 from rfl, Nat.reduceMul, Nat.reduceEqDiff, Go.Addr.add, ↓reduceIte] at hx269_0)
                    have qi269 : (2 < x15_1.length) = True := eq_true (by omega)
                    (try rw [show ((2 : Int)).toNat = 2 from rfl] at hx269_0)
                    replace p269 := eq_true p269; replace q269 := eq_true q269
                    refine start_ (n := 12) (S := fun w' => w'.cell? ad253 = some (.int .i64 (rd x15_1 0)) ∧ w'.cell? ⟨ad253.block, ad253.off + 1, none⟩ = some (.int .i64 (rd x15_1 1)) ∧ w'.cell? ⟨ad253.block, ad253.off + 2, none⟩ = some (.int .i64 (rd x15_1 2))) (ds := []) (nz 12 0) (by kernel_rfl) rfl (by kernel_rfl) ⟨hx267_0, hx268_0, hx269_0⟩ (fun hHeld => ?_); refine with_tabW tabulariumlaw21_SafeOrder.tab16 tabulariumlaw21_SafeOrder.bits16 (fun HT_ HW_ => ?_)
                    generalize w93.drew = w94 at HO_15 HI232 HI237 HI242 HB hx267_0 hx268_0 hx269_0 hHeld ⊢
                    refine zp HT_ 0 80 1 ?_
                    refine zp HT_ 1 81 3 ?_
                    refine zp HT_ 2 82 7 ?_
                    refine zp HT_ 4 84 23 ?_
                    refine zp HT_ 5 85 55 ?_
                    refine zp HT_ 8 88 311 ?_
                    refine zp HT_ 9 89 823 ?_
                    refine zt HT_ HW_ hHeld 3 83 831 ?_
                    refine zt HT_ HW_ hHeld 6 86 895 ?_
                    refine zp HT_ 7 87 1023 ?_
                    refine zt HT_ HW_ hHeld 10 90 2047 ?_
                    refine zo HT_ 11 91 4095 (fun K hK => ?_)
                    refine zg Try.func9 #[.pointer (some ⟨g242, 0, none⟩), .int .i64 (wrap64 ((rd x15_1 0) + (rd x15_1 1))), .int .i64 (rd x15_1 2)] ?_
                    with_reducible refine (safe_Safe_See.calls g242 t238 t239 t240 t241 (wrap64 ((rd x15_1 0) + (rd x15_1 1))) (rd x15_1 2) t270 t271 t272 t273 t274 w _ ?side1 ?side2 A38.out).mono ?_
                    (case side1 => exact nw41 HI242)
                    (case side2 => exact bw3 HB (IsS41.ge HI232.out) (IsS41.ge HI237.out) (IsS41.ge HI242.out))
                    rintro e w95 ⟨rfl, hi, hb, hk⟩
                    have HS0_ := kc hk hHeld.1 (IsS41.own_ne HI242.out HO_15.out (by decide))
                    have HS1_ := kc hk hHeld.2.1 (IsS41.own_ne HI242.out HO_15.out (by decide))
                    have HS2_ := kc hk hHeld.2.2 (IsS41.own_ne HI242.out HO_15.out (by decide))
                    refine ⟨_, rfl, ?_⟩
                    have n0_ := Aside0.mk (hk41 HI242 HO_15 hk)
                    have n1_ := Aside0.mk (show IsS41 w _ g232 t256 t257 t258 t259 from kb41 HI232 hk NS232_242.out)
                    have n2_ := Aside0.mk (show IsS41 w _ g237 t263 t264 t265 t266 from kb41 HI237 hk NS237_242.out)
                    have n3_ := Aside0.mk (hb)
                    have n4_ := Aside0.mk (hi)
                    clear HO_15; clear HI232; clear HI237; clear HB; clear HI242; have HO_15 := n0_; have HI232 := n1_; have HI237 := n2_; have HB := n3_; have HI242 := n4_; clear n0_ n1_ n2_ n3_ n4_; (try clear hb); (try clear hb2); (try clear hk); (try clear hi)
                    refine hK.out _ _ ⟨HS0_, HS1_, HS2_⟩ (fun hHeld => ?_)
                    clear hK K
                    refine zn ?_
                    refine done_ (done_of HT_.out (by kernel_rfl)) ?_
                    try go_wp2
                    have n0_ := Aside0.mk (Kd.R_drew HO_15.out)
                    have n1_ := Aside0.mk (IsS41.drew HI232.out)
                    have n2_ := Aside0.mk (IsS41.drew HI237.out)
                    have n3_ := Aside0.mk (IsS41.drew HI242.out)
                    have n4_ := Aside0.mk (below_drew1 HB.out)
                    clear HO_15; clear HI232; clear HI237; clear HI242; clear HB; have HO_15 := n0_; have HI232 := n1_; have HI237 := n2_; have HI242 := n3_; have HB := n4_; clear n0_ n1_ n2_ n3_ n4_
                    refine start_ (n := 35) (S := fun w' => True) (ds := []) (nz 35 0) (by kernel_rfl) rfl (by kernel_rfl) trivial (fun hHeld => ?_); refine with_tabW tabulariumlaw21_SafeOrder.tab17 tabulariumlaw21_SafeOrder.bits17 (fun HT_ HW_ => ?_)
                    generalize w95.drew = w96 at HO_15 HI232 HI237 HI242 HB hHeld ⊢
                    refine zp HT_ 0 92 1 ?_
                    refine zp HT_ 1 93 3 ?_
                    refine zp HT_ 2 94 7 ?_
                    refine zp HT_ 3 95 15 ?_
                    refine zp HT_ 4 96 31 ?_
                    refine zp HT_ 5 97 63 ?_
                    refine zp HT_ 6 98 127 ?_
                    refine zp HT_ 7 99 255 ?_
                    refine zp HT_ 9 101 767 ?_
                    refine zo HT_ 8 100 1023 (fun K hK => ?_)
                    refine zg Try.func10 #[.pointer (some ⟨g237, 0, none⟩)] ?_
                    with_reducible refine (safe_Safe_Missing.calls k1 g237 t263 t264 t265 t266 t275 t276 t277 t278 t279 w _ ?side1 ?side2 A41.out).mono ?_
                    (case side1 => exact nw41 HI237)
                    (case side2 => exact bw3 HB (IsS41.ge HI232.out) (IsS41.ge HI237.out) (IsS41.ge HI242.out))
                    rintro e w97 ⟨rfl, hi, hb, hk⟩
                    refine ⟨_, rfl, ?_⟩
                    have n0_ := Aside0.mk (hk41 HI237 HO_15 hk)
                    have n1_ := Aside0.mk (show IsS41 w _ g232 t256 t257 t258 t259 from kb41 HI232 hk NS232_237.out)
                    have n2_ := Aside0.mk (show IsS41 w _ g242 t271 t272 t273 t274 from kb41 HI242 hk NS242_237.out)
                    have n3_ := Aside0.mk (hb)
                    have n4_ := Aside0.mk (hi)
                    clear HO_15; clear HI232; clear HI242; clear HB; clear HI237; have HO_15 := n0_; have HI232 := n1_; have HI242 := n2_; have HB := n3_; have HI237 := n4_; clear n0_ n1_ n2_ n3_ n4_; (try clear hb); (try clear hb2); (try clear hk); (try clear hi)
                    refine hK.out _ _ trivial (fun hHeld => ?_)
                    clear hK K
                    refine zn ?_
                    refine zo HT_ 10 102 2047 (fun K hK => ?_)
                    refine zg Try.func10 #[.pointer (some ⟨g232, 0, none⟩)] ?_
                    with_reducible refine (safe_Safe_Missing.calls k1 g232 t256 t257 t258 t259 t280 t281 t282 t283 t284 w _ ?side1 ?side2 A42.out).mono ?_
                    (case side1 => exact nw41 HI232)
                    (case side2 => exact bw3 HB (IsS41.ge HI232.out) (IsS41.ge HI237.out) (IsS41.ge HI242.out))
                    rintro e w98 ⟨rfl, hi, hb, hk⟩
                    refine ⟨_, rfl, ?_⟩
                    have n0_ := Aside0.mk (hk41 HI232 HO_15 hk)
                    have n1_ := Aside0.mk (show IsS41 w _ g237 t276 t277 t278 t279 from kb41 HI237 hk NS237_232.out)
                    have n2_ := Aside0.mk (show IsS41 w _ g242 t271 t272 t273 t274 from kb41 HI242 hk NS242_232.out)
                    have n3_ := Aside0.mk (hb)
                    have n4_ := Aside0.mk (hi)
                    clear HO_15; clear HI237; clear HI242; clear HB; clear HI232; have HO_15 := n0_; have HI237 := n1_; have HI242 := n2_; have HB := n3_; have HI232 := n4_; clear n0_ n1_ n2_ n3_ n4_; (try clear hb); (try clear hb2); (try clear hk); (try clear hi)
                    refine hK.out _ _ trivial (fun hHeld => ?_)
                    clear hK K
                    refine zn ?_
                    refine zp HT_ 11 103 4095 ?_
                    refine zp HT_ 12 104 8191 ?_
                    refine zp HT_ 13 105 16383 ?_
                    refine zp HT_ 14 106 32767 ?_
                    refine zq HT_ 15 107 65535 ?_
                    refine zq HT_ 16 108 131071 ?_
                    refine zq HT_ 17 109 262143 ?_
                    refine zq HT_ 18 110 524287 ?_
                    refine zq HT_ 19 111 1048575 ?_
                    refine zp HT_ 20 112 2097151 ?_
                    refine zp HT_ 21 113 4194303 ?_
                    refine zq HT_ 22 114 8388607 ?_
                    refine zq HT_ 23 115 16777215 ?_
                    refine zq HT_ 24 116 33554431 ?_
                    refine zp HT_ 25 117 67108863 ?_
                    refine zp HT_ 26 118 134217727 ?_
                    refine zq HT_ 27 119 268435455 ?_
                    refine zq HT_ 28 120 536870911 ?_
                    refine zq HT_ 29 121 1073741823 ?_
                    refine zq HT_ 30 122 2147483647 ?_
                    refine zq HT_ 31 123 4294967295 ?_
                    refine zq HT_ 32 124 8589934591 ?_
                    refine zp HT_ 33 125 17179869183 ?_
                    refine zp HT_ 34 10 34359738367 ?_
                    refine done_ (done_of HT_.out (by kernel_rfl)) ?_
                    try go_wp2
                    go_ret
                    exact ⟨by first | rfl | (simp [errW_none, errW_some] <;> rfl) | (simp [*, errW_none, errW_some] <;> rfl), by repeat (first | (with_reducible first | exact HB.out | apply below_alloc | apply pw_below_drewN | apply below_drew1 | refine below_set ?_ (IsS41.ge HI232.out) | refine below_set ?_ (IsS41.ge HI237.out) | refine below_set ?_ (IsS41.ge HI242.out)) | exact HB.out)⟩
                · rw [if_neg c40] at H
                  have c40b0 : (FloatKind.f64.format.order a1 a0 == some .lt || FloatKind.f64.format.order a1 a0 == some .eq) = false := Bool.eq_false_iff.mpr c40
                  clear c40
                  replace H := Option.bind_eq_some_iff.mp H
                  obtain ⟨⟨t306, t307, t308, t309, t310⟩, A990, H⟩ := H
                  replace H : ((safe_Safe_Missing.f k1 t256 t257 t258 t259).bind fun bt311 => (if t306 ≤ bt311.1 then ((safe_Safe_Missing.f k1 bt311.2.1 bt311.2.2.1 bt311.2.2.2.1 bt311.2.2.2.2).bind fun bt316 => (if bt316.1 ≥ 0 then ((safe_Safe_Missing.f k1 bt316.2.1 bt316.2.2.1 bt316.2.2.2.1 bt316.2.2.2.2).bind fun bt321 => (some (decide (bt321.1 ≤ (rd x15_1 2))))) else (some false))) else (some false))) = some r := H
                  have A99 := Aside0.mk A990
                  clear A990
                  replace H := Option.bind_eq_some_iff.mp H
                  obtain ⟨⟨t311, t312, t313, t314, t315⟩, A1000, H⟩ := H
                  replace H : (if t306 ≤ t311 then ((safe_Safe_Missing.f k1 t312 t313 t314 t315).bind fun bt316 => (if bt316.1 ≥ 0 then ((safe_Safe_Missing.f k1 bt316.2.1 bt316.2.2.1 bt316.2.2.2.1 bt316.2.2.2.2).bind fun bt321 => (some (decide (bt321.1 ≤ (rd x15_1 2))))) else (some false))) else (some false)) = some r := H
                  have A100 := Aside0.mk A1000
                  clear A1000
                  by_cases c101 : t306 ≤ t311
                  · rw [if_pos c101] at H
                    have c101b0 : decide (t306 ≤ t311) = true := decide_eq_true c101
                    clear c101
                    replace H := Option.bind_eq_some_iff.mp H
                    obtain ⟨⟨t316, t317, t318, t319, t320⟩, A1020, H⟩ := H
                    replace H : (if t316 ≥ 0 then ((safe_Safe_Missing.f k1 t317 t318 t319 t320).bind fun bt321 => (some (decide (bt321.1 ≤ (rd x15_1 2))))) else (some false)) = some r := H
                    have A102 := Aside0.mk A1020
                    clear A1020
                    by_cases c103 : t316 ≥ 0
                    · rw [if_pos c103] at H
                      have c103b0 : decide (0 ≤ t316) = true := decide_eq_true c103
                      clear c103
                      replace H := Option.bind_eq_some_iff.mp H
                      obtain ⟨⟨t321, t322, t323, t324, t325⟩, A1040, H⟩ := H
                      replace H : (some (decide (t321 ≤ (rd x15_1 2)))) = some r := H
                      have A104 := Aside0.mk A1040
                      clear A1040
                      obtain rfl := Option.some.inj H
                      try go_wp2
                      have n0_ := Aside0.mk (Kd.R_drew HO_15.out)
                      have n1_ := Aside0.mk (IsS41.drew HI232.out)
                      have n2_ := Aside0.mk (IsS41.drew HI237.out)
                      have n3_ := Aside0.mk (IsS41.drew HI242.out)
                      have n4_ := Aside0.mk (below_drew1 HB.out)
                      clear HO_15; clear HI232; clear HI237; clear HI242; clear HB; have HO_15 := n0_; have HI232 := n1_; have HI237 := n2_; have HI242 := n3_; have HB := n4_; clear n0_ n1_ n2_ n3_ n4_
                      obtain ⟨Ao106, co106, eo106⟩ := Kd.R_slice HO_15.out
                      (first | subst eo106 | (injection eo106 with f1_ f2_ f3_; have f4_ := f1_.symm; have f5_ := f3_.symm; clear f1_ f2_ f3_; subst f4_; subst f5_))
                      have p253 : 0 ≤ (0 : Int) := (by omega)
                      have q253 : 0 < (x15_1.length : Int) := of_decide_eq_true (by first | (with_reducible assumption) | assumption)
                      obtain ⟨ad253, e253, hx253_0⟩ := Kd.at_int (Kd.R_reads' HO_15.out).2.2 0 p253 q253
                      cases e253
                      have qi253 : (0 < x15_1.length) = True := eq_true (by omega)
                      (try rw [show ((0 : Int)).toNat = 0 from rfl] at hx253_0)
                      (try rw [Addr.add_zero'] at hx253_0)
                      replace p253 := eq_true p253; replace q253 := eq_true q253
                      have p254 : 0 ≤ (2 : Int) := (by omega)
                      have q254 : 2 < (x15_1.length : Int) := of_decide_eq_true (by first | (with_reducible assumption) | assumption)
                      obtain ⟨ad254, e254, hx254_0⟩ := Kd.at_int (Kd.R_reads' HO_15.out).2.2 2 p254 q254
                      obtain rfl : ad253 = ad254 := (by injection e254)
                      (try simp only [show (2 : Int).toNat = 2 from rfl, Nat.reduceMul, Nat.reduceEqDiff, Go.Addr.add, ↓reduceIte] at hx254_0)
                      have qi254 : (2 < x15_1.length) = True := eq_true (by omega)
                      (try rw [show ((2 : Int)).toNat = 2 from rfl] at hx254_0)
                      replace p254 := eq_true p254; replace q254 := eq_true q254
                      refine start_ (n := 8) (S := fun w' => w'.cell? ad253 = some (.int .i64 (rd x15_1 0)) ∧ w'.cell? ⟨ad253.block, ad253.off + 2, none⟩ = some (.int .i64 (rd x15_1 2))) (ds := []) (nz 8 0) (by kernel_rfl) rfl (by kernel_rfl) ⟨hx253_0, hx254_0⟩ (fun hHeld => ?_); refine with_tabW tabulariumlaw21_SafeOrder.tab14 tabulariumlaw21_SafeOrder.bits14 (fun HT_ HW_ => ?_)
                      generalize wr.drew = w105 at HO_15 HI232 HI237 HI242 HB hx253_0 hx254_0 hHeld ⊢
                      refine zp HT_ 0 64 1 ?_
                      refine zp HT_ 1 65 3 ?_
                      refine zp HT_ 2 66 7 ?_
                      refine zp HT_ 4 68 23 ?_
                      refine zp HT_ 5 69 55 ?_
                      refine zt HT_ HW_ hHeld 3 67 63 ?_
                      refine zt HT_ HW_ hHeld 6 70 127 ?_
                      refine zo HT_ 7 71 255 (fun K hK => ?_)
                      refine zg Try.func9 #[.pointer (some ⟨g232, 0, none⟩), .int .i64 (rd x15_1 0), .int .i64 (rd x15_1 2)] ?_
                      with_reducible refine (safe_Safe_See.calls g232 t228 t229 t230 t231 (rd x15_1 0) (rd x15_1 2) t255 t256 t257 t258 t259 w _ ?side1 ?side2 A35.out).mono ?_
                      (case side1 => exact nw41 HI232)
                      (case side2 => exact bw3 HB (IsS41.ge HI232.out) (IsS41.ge HI237.out) (IsS41.ge HI242.out))
                      rintro e w107 ⟨rfl, hi, hb, hk⟩
                      have HS0_ := kc hk hHeld.1 (IsS41.own_ne HI232.out HO_15.out (by decide))
                      have HS1_ := kc hk hHeld.2 (IsS41.own_ne HI232.out HO_15.out (by decide))
                      refine ⟨_, rfl, ?_⟩
                      have n0_ := Aside0.mk (hk41 HI232 HO_15 hk)
                      have n1_ := Aside0.mk (show IsS41 w _ g237 t233 t234 t235 t236 from kb41 HI237 hk NS237_232.out)
                      have n2_ := Aside0.mk (show IsS41 w _ g242 t238 t239 t240 t241 from kb41 HI242 hk NS242_232.out)
                      have n3_ := Aside0.mk (hb)
                      have n4_ := Aside0.mk (hi)
                      clear HO_15; clear HI237; clear HI242; clear HB; clear HI232; have HO_15 := n0_; have HI237 := n1_; have HI242 := n2_; have HB := n3_; have HI232 := n4_; clear n0_ n1_ n2_ n3_ n4_; (try clear hb); (try clear hb2); (try clear hk); (try clear hi)
                      refine hK.out _ _ ⟨HS0_, HS1_⟩ (fun hHeld => ?_)
                      clear hK K
                      refine zn ?_
                      refine done_ (done_of HT_.out (by kernel_rfl)) ?_
                      try go_wp2
                      have n0_ := Aside0.mk (Kd.R_drew HO_15.out)
                      have n1_ := Aside0.mk (IsS41.drew HI232.out)
                      have n2_ := Aside0.mk (IsS41.drew HI237.out)
                      have n3_ := Aside0.mk (IsS41.drew HI242.out)
                      have n4_ := Aside0.mk (below_drew1 HB.out)
                      clear HO_15; clear HI232; clear HI237; clear HI242; clear HB; have HO_15 := n0_; have HI232 := n1_; have HI237 := n2_; have HI242 := n3_; have HB := n4_; clear n0_ n1_ n2_ n3_ n4_
                      have p260 : 0 ≤ (0 : Int) := (by omega)
                      have q260 : 0 < (x15_1.length : Int) := of_decide_eq_true (by first | (with_reducible assumption) | assumption)
                      obtain ⟨ad260, e260, hx260_0⟩ := Kd.at_int (Kd.R_reads' HO_15.out).2.2 0 p260 q260
                      obtain rfl : ad253 = ad260 := (by injection e260)
                      have qi260 : (0 < x15_1.length) = True := eq_true (by omega)
                      (try rw [show ((0 : Int)).toNat = 0 from rfl] at hx260_0)
                      (try rw [Addr.add_zero'] at hx260_0)
                      replace p260 := eq_true p260; replace q260 := eq_true q260
                      have p261 : 0 ≤ (2 : Int) := (by omega)
                      have q261 : 2 < (x15_1.length : Int) := of_decide_eq_true (by first | (with_reducible assumption) | assumption)
                      obtain ⟨ad261, e261, hx261_0⟩ := Kd.at_int (Kd.R_reads' HO_15.out).2.2 2 p261 q261
                      obtain rfl : ad253 = ad261 := (by injection e261)
                      (try simp only [show (2 : Int).toNat = 2 from rfl, Nat.reduceMul, Nat.reduceEqDiff, Go.Addr.add, ↓reduceIte] at hx261_0)
                      have qi261 : (2 < x15_1.length) = True := eq_true (by omega)
                      (try rw [show ((2 : Int)).toNat = 2 from rfl] at hx261_0)
                      replace p261 := eq_true p261; replace q261 := eq_true q261
                      refine start_ (n := 8) (S := fun w' => w'.cell? ad253 = some (.int .i64 (rd x15_1 0)) ∧ w'.cell? ⟨ad253.block, ad253.off + 2, none⟩ = some (.int .i64 (rd x15_1 2))) (ds := []) (nz 8 0) (by kernel_rfl) rfl (by kernel_rfl) ⟨hx260_0, hx261_0⟩ (fun hHeld => ?_); refine with_tabW tabulariumlaw21_SafeOrder.tab15 tabulariumlaw21_SafeOrder.bits15 (fun HT_ HW_ => ?_)
                      generalize w107.drew = w108 at HO_15 HI232 HI237 HI242 HB hx260_0 hx261_0 hHeld ⊢
                      refine zp HT_ 0 72 1 ?_
                      refine zp HT_ 1 73 3 ?_
                      refine zp HT_ 2 74 7 ?_
                      refine zp HT_ 4 76 23 ?_
                      refine zp HT_ 5 77 55 ?_
                      refine zt HT_ HW_ hHeld 3 75 63 ?_
                      refine zt HT_ HW_ hHeld 6 78 127 ?_
                      refine zo HT_ 7 79 255 (fun K hK => ?_)
                      refine zg Try.func9 #[.pointer (some ⟨g237, 0, none⟩), .int .i64 (rd x15_1 0), .int .i64 (rd x15_1 2)] ?_
                      with_reducible refine (safe_Safe_See.calls g237 t233 t234 t235 t236 (rd x15_1 0) (rd x15_1 2) t262 t263 t264 t265 t266 w _ ?side1 ?side2 A36.out).mono ?_
                      (case side1 => exact nw41 HI237)
                      (case side2 => exact bw3 HB (IsS41.ge HI232.out) (IsS41.ge HI237.out) (IsS41.ge HI242.out))
                      rintro e w109 ⟨rfl, hi, hb, hk⟩
                      have HS0_ := kc hk hHeld.1 (IsS41.own_ne HI237.out HO_15.out (by decide))
                      have HS1_ := kc hk hHeld.2 (IsS41.own_ne HI237.out HO_15.out (by decide))
                      refine ⟨_, rfl, ?_⟩
                      have n0_ := Aside0.mk (hk41 HI237 HO_15 hk)
                      have n1_ := Aside0.mk (show IsS41 w _ g232 t256 t257 t258 t259 from kb41 HI232 hk NS232_237.out)
                      have n2_ := Aside0.mk (show IsS41 w _ g242 t238 t239 t240 t241 from kb41 HI242 hk NS242_237.out)
                      have n3_ := Aside0.mk (hb)
                      have n4_ := Aside0.mk (hi)
                      clear HO_15; clear HI232; clear HI242; clear HB; clear HI237; have HO_15 := n0_; have HI232 := n1_; have HI242 := n2_; have HB := n3_; have HI237 := n4_; clear n0_ n1_ n2_ n3_ n4_; (try clear hb); (try clear hb2); (try clear hk); (try clear hi)
                      refine hK.out _ _ ⟨HS0_, HS1_⟩ (fun hHeld => ?_)
                      clear hK K
                      refine zn ?_
                      refine done_ (done_of HT_.out (by kernel_rfl)) ?_
                      try go_wp2
                      have n0_ := Aside0.mk (Kd.R_drew HO_15.out)
                      have n1_ := Aside0.mk (IsS41.drew HI232.out)
                      have n2_ := Aside0.mk (IsS41.drew HI237.out)
                      have n3_ := Aside0.mk (IsS41.drew HI242.out)
                      have n4_ := Aside0.mk (below_drew1 HB.out)
                      clear HO_15; clear HI232; clear HI237; clear HI242; clear HB; have HO_15 := n0_; have HI232 := n1_; have HI237 := n2_; have HI242 := n3_; have HB := n4_; clear n0_ n1_ n2_ n3_ n4_
                      have p267 : 0 ≤ (0 : Int) := (by omega)
                      have q267 : 0 < (x15_1.length : Int) := of_decide_eq_true (by first | (with_reducible assumption) | assumption)
                      obtain ⟨ad267, e267, hx267_0⟩ := Kd.at_int (Kd.R_reads' HO_15.out).2.2 0 p267 q267
                      obtain rfl : ad253 = ad267 := (by injection e267)
                      have qi267 : (0 < x15_1.length) = True := eq_true (by omega)
                      (try rw [show ((0 : Int)).toNat = 0 from rfl] at hx267_0)
                      (try rw [Addr.add_zero'] at hx267_0)
                      replace p267 := eq_true p267; replace q267 := eq_true q267
                      have p268 : 0 ≤ (1 : Int) := (by omega)
                      have q268 : 1 < (x15_1.length : Int) := of_decide_eq_true (by first | (with_reducible assumption) | assumption)
                      obtain ⟨ad268, e268, hx268_0⟩ := Kd.at_int (Kd.R_reads' HO_15.out).2.2 1 p268 q268
                      obtain rfl : ad253 = ad268 := (by injection e268)
                      (try simp only [show (1 : Int).toNat = 1 from rfl, Nat.reduceMul, Nat.reduceEqDiff, Go.Addr.add, ↓reduceIte] at hx268_0)
                      have qi268 : (1 < x15_1.length) = True := eq_true (by omega)
                      (try rw [show ((1 : Int)).toNat = 1 from rfl] at hx268_0)
                      replace p268 := eq_true p268; replace q268 := eq_true q268
                      have p269 : 0 ≤ (2 : Int) := (by omega)
                      have q269 : 2 < (x15_1.length : Int) := of_decide_eq_true (by first | (with_reducible assumption) | assumption)
                      obtain ⟨ad269, e269, hx269_0⟩ := Kd.at_int (Kd.R_reads' HO_15.out).2.2 2 p269 q269
                      obtain rfl : ad253 = ad269 := (by injection e269)
                      (try simp only [show (2 : Int).toNat = 2 from rfl, Nat.reduceMul, Nat.reduceEqDiff, Go.Addr.add, ↓reduceIte] at hx269_0)
                      have qi269 : (2 < x15_1.length) = True := eq_true (by omega)
                      (try rw [show ((2 : Int)).toNat = 2 from rfl] at hx269_0)
                      replace p269 := eq_true p269; replace q269 := eq_true q269
                      refine start_ (n := 12) (S := fun w' => w'.cell? ad253 = some (.int .i64 (rd x15_1 0)) ∧ w'.cell? ⟨ad253.block, ad253.off + 1, none⟩ = some (.int .i64 (rd x15_1 1)) ∧ w'.cell? ⟨ad253.block, ad253.off + 2, none⟩ = some (.int .i64 (rd x15_1 2))) (ds := []) (nz 12 0) (by kernel_rfl) rfl (by kernel_rfl) ⟨hx267_0, hx268_0, hx269_0⟩ (fun hHeld => ?_); refine with_tabW tabulariumlaw21_SafeOrder.tab16 tabulariumlaw21_SafeOrder.bits16 (fun HT_ HW_ => ?_)
                      generalize w109.drew = w110 at HO_15 HI232 HI237 HI242 HB hx267_0 hx268_0 hx269_0 hHeld ⊢
                      refine zp HT_ 0 80 1 ?_
                      refine zp HT_ 1 81 3 ?_
                      refine zp HT_ 2 82 7 ?_
                      refine zp HT_ 4 84 23 ?_
                      refine zp HT_ 5 85 55 ?_
                      refine zp HT_ 8 88 311 ?_
                      refine zp HT_ 9 89 823 ?_
                      refine zt HT_ HW_ hHeld 3 83 831 ?_
                      refine zt HT_ HW_ hHeld 6 86 895 ?_
                      refine zp HT_ 7 87 1023 ?_
                      refine zt HT_ HW_ hHeld 10 90 2047 ?_
                      refine zo HT_ 11 91 4095 (fun K hK => ?_)
                      refine zg Try.func9 #[.pointer (some ⟨g242, 0, none⟩), .int .i64 (wrap64 ((rd x15_1 0) + (rd x15_1 1))), .int .i64 (rd x15_1 2)] ?_
                      with_reducible refine (safe_Safe_See.calls g242 t238 t239 t240 t241 (wrap64 ((rd x15_1 0) + (rd x15_1 1))) (rd x15_1 2) t270 t271 t272 t273 t274 w _ ?side1 ?side2 A38.out).mono ?_
                      (case side1 => exact nw41 HI242)
                      (case side2 => exact bw3 HB (IsS41.ge HI232.out) (IsS41.ge HI237.out) (IsS41.ge HI242.out))
                      rintro e w111 ⟨rfl, hi, hb, hk⟩
                      have HS0_ := kc hk hHeld.1 (IsS41.own_ne HI242.out HO_15.out (by decide))
                      have HS1_ := kc hk hHeld.2.1 (IsS41.own_ne HI242.out HO_15.out (by decide))
                      have HS2_ := kc hk hHeld.2.2 (IsS41.own_ne HI242.out HO_15.out (by decide))
                      refine ⟨_, rfl, ?_⟩
                      have n0_ := Aside0.mk (hk41 HI242 HO_15 hk)
                      have n1_ := Aside0.mk (show IsS41 w _ g232 t256 t257 t258 t259 from kb41 HI232 hk NS232_242.out)
                      have n2_ := Aside0.mk (show IsS41 w _ g237 t263 t264 t265 t266 from kb41 HI237 hk NS237_242.out)
                      have n3_ := Aside0.mk (hb)
                      have n4_ := Aside0.mk (hi)
                      clear HO_15; clear HI232; clear HI237; clear HB; clear HI242; have HO_15 := n0_; have HI232 := n1_; have HI237 := n2_; have HB := n3_; have HI242 := n4_; clear n0_ n1_ n2_ n3_ n4_; (try clear hb); (try clear hb2); (try clear hk); (try clear hi)
                      refine hK.out _ _ ⟨HS0_, HS1_, HS2_⟩ (fun hHeld => ?_)
                      clear hK K
                      refine zn ?_
                      refine done_ (done_of HT_.out (by kernel_rfl)) ?_
                      try go_wp2
                      have n0_ := Aside0.mk (Kd.R_drew HO_15.out)
                      have n1_ := Aside0.mk (IsS41.drew HI232.out)
                      have n2_ := Aside0.mk (IsS41.drew HI237.out)
                      have n3_ := Aside0.mk (IsS41.drew HI242.out)
                      have n4_ := Aside0.mk (below_drew1 HB.out)
                      clear HO_15; clear HI232; clear HI237; clear HI242; clear HB; have HO_15 := n0_; have HI232 := n1_; have HI237 := n2_; have HI242 := n3_; have HB := n4_; clear n0_ n1_ n2_ n3_ n4_
                      have p326 : 0 ≤ (2 : Int) := (by omega)
                      have q326 : 2 < (x15_1.length : Int) := of_decide_eq_true (by first | (with_reducible assumption) | assumption)
                      obtain ⟨ad326, e326, hx326_0⟩ := Kd.at_int (Kd.R_reads' HO_15.out).2.2 2 p326 q326
                      obtain rfl : ad253 = ad326 := (by injection e326)
                      (try simp only [show (2 : Int).toNat = 2 from rfl, Nat.reduceMul, Nat.reduceEqDiff, Go.Addr.add, ↓reduceIte] at hx326_0)
                      have qi326 : (2 < x15_1.length) = True := eq_true (by omega)
                      (try rw [show ((2 : Int)).toNat = 2 from rfl] at hx326_0)
                      replace p326 := eq_true p326; replace q326 := eq_true q326
                      refine start_ (n := 35) (S := fun w' => w'.cell? ⟨ad253.block, ad253.off + 2, none⟩ = some (.int .i64 (rd x15_1 2))) (ds := []) (nz 35 0) (by kernel_rfl) rfl (by kernel_rfl) (hx326_0) (fun hHeld => ?_); refine with_tabW tabulariumlaw21_SafeOrder.tab17 tabulariumlaw21_SafeOrder.bits17 (fun HT_ HW_ => ?_)
                      generalize w111.drew = w112 at HO_15 HI232 HI237 HI242 HB hx326_0 hHeld ⊢
                      refine zp HT_ 0 92 1 ?_
                      refine zp HT_ 1 93 3 ?_
                      refine zp HT_ 2 94 7 ?_
                      refine zp HT_ 3 95 15 ?_
                      refine zp HT_ 4 96 31 ?_
                      refine zp HT_ 5 97 63 ?_
                      refine zp HT_ 6 98 127 ?_
                      refine zq HT_ 7 99 255 ?_
                      refine zq HT_ 8 100 511 ?_
                      refine zq HT_ 9 101 1023 ?_
                      refine zq HT_ 10 102 2047 ?_
                      refine zq HT_ 11 103 4095 ?_
                      refine zp HT_ 12 104 8191 ?_
                      refine zp HT_ 13 105 16383 ?_
                      refine zp HT_ 14 106 32767 ?_
                      refine zp HT_ 15 107 65535 ?_
                      refine zp HT_ 17 109 196607 ?_
                      refine zo HT_ 16 108 262143 (fun K hK => ?_)
                      refine zg Try.func10 #[.pointer (some ⟨g242, 0, none⟩)] ?_
                      with_reducible refine (safe_Safe_Missing.calls k1 g242 t271 t272 t273 t274 t306 t307 t308 t309 t310 w _ ?side1 ?side2 A99.out).mono ?_
                      (case side1 => exact nw41 HI242)
                      (case side2 => exact bw3 HB (IsS41.ge HI232.out) (IsS41.ge HI237.out) (IsS41.ge HI242.out))
                      rintro e w113 ⟨rfl, hi, hb, hk⟩
                      have HS0_ := kc hk hHeld (IsS41.own_ne HI242.out HO_15.out (by decide))
                      refine ⟨_, rfl, ?_⟩
                      have n0_ := Aside0.mk (hk41 HI242 HO_15 hk)
                      have n1_ := Aside0.mk (show IsS41 w _ g232 t256 t257 t258 t259 from kb41 HI232 hk NS232_242.out)
                      have n2_ := Aside0.mk (show IsS41 w _ g237 t263 t264 t265 t266 from kb41 HI237 hk NS237_242.out)
                      have n3_ := Aside0.mk (hb)
                      have n4_ := Aside0.mk (hi)
                      clear HO_15; clear HI232; clear HI237; clear HB; clear HI242; have HO_15 := n0_; have HI232 := n1_; have HI237 := n2_; have HB := n3_; have HI242 := n4_; clear n0_ n1_ n2_ n3_ n4_; (try clear hb); (try clear hb2); (try clear hk); (try clear hi)
                      refine hK.out _ _ (HS0_) (fun hHeld => ?_)
                      clear hK K
                      refine zn ?_
                      refine zo HT_ 18 110 524287 (fun K hK => ?_)
                      refine zg Try.func10 #[.pointer (some ⟨g232, 0, none⟩)] ?_
                      with_reducible refine (safe_Safe_Missing.calls k1 g232 t256 t257 t258 t259 t311 t312 t313 t314 t315 w _ ?side1 ?side2 A100.out).mono ?_
                      (case side1 => exact nw41 HI232)
                      (case side2 => exact bw3 HB (IsS41.ge HI232.out) (IsS41.ge HI237.out) (IsS41.ge HI242.out))
                      rintro e w114 ⟨rfl, hi, hb, hk⟩
                      have HS0_ := kc hk hHeld (IsS41.own_ne HI232.out HO_15.out (by decide))
                      refine ⟨_, rfl, ?_⟩
                      have n0_ := Aside0.mk (hk41 HI232 HO_15 hk)
                      have n1_ := Aside0.mk (show IsS41 w _ g237 t263 t264 t265 t266 from kb41 HI237 hk NS237_232.out)
                      have n2_ := Aside0.mk (show IsS41 w _ g242 t307 t308 t309 t310 from kb41 HI242 hk NS242_232.out)
                      have n3_ := Aside0.mk (hb)
                      have n4_ := Aside0.mk (hi)
                      clear HO_15; clear HI237; clear HI242; clear HB; clear HI232; have HO_15 := n0_; have HI237 := n1_; have HI242 := n2_; have HB := n3_; have HI232 := n4_; clear n0_ n1_ n2_ n3_ n4_; (try clear hb); (try clear hb2); (try clear hk); (try clear hi)
                      refine hK.out _ _ (HS0_) (fun hHeld => ?_)
                      clear hK K
                      refine zn ?_
                      refine zp HT_ 19 111 1048575 ?_
                      refine zp HT_ 20 112 2097151 ?_
                      refine zp HT_ 21 113 4194303 ?_
                      refine zp HT_ 22 114 8388607 ?_
                      refine zo HT_ 23 115 16777215 (fun K hK => ?_)
                      refine zg Try.func10 #[.pointer (some ⟨g232, 0, none⟩)] ?_
                      with_reducible refine (safe_Safe_Missing.calls k1 g232 t312 t313 t314 t315 t316 t317 t318 t319 t320 w _ ?side1 ?side2 A102.out).mono ?_
                      (case side1 => exact nw41 HI232)
                      (case side2 => exact bw3 HB (IsS41.ge HI232.out) (IsS41.ge HI237.out) (IsS41.ge HI242.out))
                      rintro e w115 ⟨rfl, hi, hb, hk⟩
                      have HS0_ := kc hk hHeld (IsS41.own_ne HI232.out HO_15.out (by decide))
                      refine ⟨_, rfl, ?_⟩
                      have n0_ := Aside0.mk (hk41 HI232 HO_15 hk)
                      have n1_ := Aside0.mk (show IsS41 w _ g237 t263 t264 t265 t266 from kb41 HI237 hk NS237_232.out)
                      have n2_ := Aside0.mk (show IsS41 w _ g242 t307 t308 t309 t310 from kb41 HI242 hk NS242_232.out)
                      have n3_ := Aside0.mk (hb)
                      have n4_ := Aside0.mk (hi)
                      clear HO_15; clear HI237; clear HI242; clear HB; clear HI232; have HO_15 := n0_; have HI237 := n1_; have HI242 := n2_; have HB := n3_; have HI232 := n4_; clear n0_ n1_ n2_ n3_ n4_; (try clear hb); (try clear hb2); (try clear hk); (try clear hi)
                      refine hK.out _ _ (HS0_) (fun hHeld => ?_)
                      clear hK K
                      refine zn ?_
                      refine zp HT_ 24 116 33554431 ?_
                      refine zp HT_ 25 117 67108863 ?_
                      refine zp HT_ 26 118 134217727 ?_
                      refine zp HT_ 27 119 268435455 ?_
                      refine zp HT_ 29 121 805306367 ?_
                      refine zp HT_ 30 122 1879048191 ?_
                      refine zt HT_ HW_ hHeld 31 123 4026531839 ?_
                      refine zo HT_ 28 120 4294967295 (fun K hK => ?_)
                      refine zg Try.func10 #[.pointer (some ⟨g232, 0, none⟩)] ?_
                      with_reducible refine (safe_Safe_Missing.calls k1 g232 t317 t318 t319 t320 t321 t322 t323 t324 t325 w _ ?side1 ?side2 A104.out).mono ?_
                      (case side1 => exact nw41 HI232)
                      (case side2 => exact bw3 HB (IsS41.ge HI232.out) (IsS41.ge HI237.out) (IsS41.ge HI242.out))
                      rintro e w116 ⟨rfl, hi, hb, hk⟩
                      have HS0_ := kc hk hHeld (IsS41.own_ne HI232.out HO_15.out (by decide))
                      refine ⟨_, rfl, ?_⟩
                      have n0_ := Aside0.mk (hk41 HI232 HO_15 hk)
                      have n1_ := Aside0.mk (show IsS41 w _ g237 t263 t264 t265 t266 from kb41 HI237 hk NS237_232.out)
                      have n2_ := Aside0.mk (show IsS41 w _ g242 t307 t308 t309 t310 from kb41 HI242 hk NS242_232.out)
                      have n3_ := Aside0.mk (hb)
                      have n4_ := Aside0.mk (hi)
                      clear HO_15; clear HI237; clear HI242; clear HB; clear HI232; have HO_15 := n0_; have HI237 := n1_; have HI242 := n2_; have HB := n3_; have HI232 := n4_; clear n0_ n1_ n2_ n3_ n4_; (try clear hb); (try clear hb2); (try clear hk); (try clear hi)
                      refine hK.out _ _ (HS0_) (fun hHeld => ?_)
                      clear hK K
                      refine zn ?_
                      refine zp HT_ 32 124 8589934591 ?_
                      refine zp HT_ 33 125 17179869183 ?_
                      refine zp HT_ 34 10 34359738367 ?_
                      refine done_ (done_of HT_.out (by kernel_rfl)) ?_
                      try go_wp2
                      go_ret
                      exact ⟨by first | rfl | (simp [errW_none, errW_some] <;> rfl) | (simp [*, errW_none, errW_some] <;> rfl), by repeat (first | (with_reducible first | exact HB.out | apply below_alloc | apply pw_below_drewN | apply below_drew1 | refine below_set ?_ (IsS41.ge HI232.out) | refine below_set ?_ (IsS41.ge HI237.out) | refine below_set ?_ (IsS41.ge HI242.out)) | exact HB.out)⟩
                    · rw [if_neg c103] at H
                      have c103b0 : decide (0 ≤ t316) = false := decide_eq_false c103
                      clear c103
                      obtain rfl := Option.some.inj H
                      try go_wp2
                      have n0_ := Aside0.mk (Kd.R_drew HO_15.out)
                      have n1_ := Aside0.mk (IsS41.drew HI232.out)
                      have n2_ := Aside0.mk (IsS41.drew HI237.out)
                      have n3_ := Aside0.mk (IsS41.drew HI242.out)
                      have n4_ := Aside0.mk (below_drew1 HB.out)
                      clear HO_15; clear HI232; clear HI237; clear HI242; clear HB; have HO_15 := n0_; have HI232 := n1_; have HI237 := n2_; have HI242 := n3_; have HB := n4_; clear n0_ n1_ n2_ n3_ n4_
                      obtain ⟨Ao118, co118, eo118⟩ := Kd.R_slice HO_15.out
                      (first | subst eo118 | (injection eo118 with f1_ f2_ f3_; have f4_ := f1_.symm; have f5_ := f3_.symm; clear f1_ f2_ f3_; subst f4_; subst f5_))
                      have p253 : 0 ≤ (0 : Int) := (by omega)
                      have q253 : 0 < (x15_1.length : Int) := of_decide_eq_true (by first | (with_reducible assumption) | assumption)
                      obtain ⟨ad253, e253, hx253_0⟩ := Kd.at_int (Kd.R_reads' HO_15.out).2.2 0 p253 q253
                      cases e253
                      have qi253 : (0 < x15_1.length) = True := eq_true (by omega)
                      (try rw [show ((0 : Int)).toNat = 0 from rfl] at hx253_0)
                      (try rw [Addr.add_zero'] at hx253_0)
                      replace p253 := eq_true p253; replace q253 := eq_true q253
                      have p254 : 0 ≤ (2 : Int) := (by omega)
                      have q254 : 2 < (x15_1.length : Int) := of_decide_eq_true (by first | (with_reducible assumption) | assumption)
                      obtain ⟨ad254, e254, hx254_0⟩ := Kd.at_int (Kd.R_reads' HO_15.out).2.2 2 p254 q254
                      obtain rfl : ad253 = ad254 := (by injection e254)
                      (try simp only [show (2 : Int).toNat = 2 from rfl, Nat.reduceMul, Nat.reduceEqDiff, Go.Addr.add, ↓reduceIte] at hx254_0)
                      have qi254 : (2 < x15_1.length) = True := eq_true (by omega)
                      (try rw [show ((2 : Int)).toNat = 2 from rfl] at hx254_0)
                      replace p254 := eq_true p254; replace q254 := eq_true q254
                      refine start_ (n := 8) (S := fun w' => w'.cell? ad253 = some (.int .i64 (rd x15_1 0)) ∧ w'.cell? ⟨ad253.block, ad253.off + 2, none⟩ = some (.int .i64 (rd x15_1 2))) (ds := []) (nz 8 0) (by kernel_rfl) rfl (by kernel_rfl) ⟨hx253_0, hx254_0⟩ (fun hHeld => ?_); refine with_tabW tabulariumlaw21_SafeOrder.tab14 tabulariumlaw21_SafeOrder.bits14 (fun HT_ HW_ => ?_)
                      generalize wr.drew = w117 at HO_15 HI232 HI237 HI242 HB hx253_0 hx254_0 hHeld ⊢
                      refine zp HT_ 0 64 1 ?_
                      refine zp HT_ 1 65 3 ?_
                      refine zp HT_ 2 66 7 ?_
                      refine zp HT_ 4 68 23 ?_
                      refine zp HT_ 5 69 55 ?_
                      refine zt HT_ HW_ hHeld 3 67 63 ?_
                      refine zt HT_ HW_ hHeld 6 70 127 ?_
                      refine zo HT_ 7 71 255 (fun K hK => ?_)
                      refine zg Try.func9 #[.pointer (some ⟨g232, 0, none⟩), .int .i64 (rd x15_1 0), .int .i64 (rd x15_1 2)] ?_
                      with_reducible refine (safe_Safe_See.calls g232 t228 t229 t230 t231 (rd x15_1 0) (rd x15_1 2) t255 t256 t257 t258 t259 w _ ?side1 ?side2 A35.out).mono ?_
                      (case side1 => exact nw41 HI232)
                      (case side2 => exact bw3 HB (IsS41.ge HI232.out) (IsS41.ge HI237.out) (IsS41.ge HI242.out))
                      rintro e w119 ⟨rfl, hi, hb, hk⟩
                      have HS0_ := kc hk hHeld.1 (IsS41.own_ne HI232.out HO_15.out (by decide))
                      have HS1_ := kc hk hHeld.2 (IsS41.own_ne HI232.out HO_15.out (by decide))
                      refine ⟨_, rfl, ?_⟩
                      have n0_ := Aside0.mk (hk41 HI232 HO_15 hk)
                      have n1_ := Aside0.mk (show IsS41 w _ g237 t233 t234 t235 t236 from kb41 HI237 hk NS237_232.out)
                      have n2_ := Aside0.mk (show IsS41 w _ g242 t238 t239 t240 t241 from kb41 HI242 hk NS242_232.out)
                      have n3_ := Aside0.mk (hb)
                      have n4_ := Aside0.mk (hi)
                      clear HO_15; clear HI237; clear HI242; clear HB; clear HI232; have HO_15 := n0_; have HI237 := n1_; have HI242 := n2_; have HB := n3_; have HI232 := n4_; clear n0_ n1_ n2_ n3_ n4_; (try clear hb); (try clear hb2); (try clear hk); (try clear hi)
                      refine hK.out _ _ ⟨HS0_, HS1_⟩ (fun hHeld => ?_)
                      clear hK K
                      refine zn ?_
                      refine done_ (done_of HT_.out (by kernel_rfl)) ?_
                      try go_wp2
                      have n0_ := Aside0.mk (Kd.R_drew HO_15.out)
                      have n1_ := Aside0.mk (IsS41.drew HI232.out)
                      have n2_ := Aside0.mk (IsS41.drew HI237.out)
                      have n3_ := Aside0.mk (IsS41.drew HI242.out)
                      have n4_ := Aside0.mk (below_drew1 HB.out)
                      clear HO_15; clear HI232; clear HI237; clear HI242; clear HB; have HO_15 := n0_; have HI232 := n1_; have HI237 := n2_; have HI242 := n3_; have HB := n4_; clear n0_ n1_ n2_ n3_ n4_
                      have p260 : 0 ≤ (0 : Int) := (by omega)
                      have q260 : 0 < (x15_1.length : Int) := of_decide_eq_true (by first | (with_reducible assumption) | assumption)
                      obtain ⟨ad260, e260, hx260_0⟩ := Kd.at_int (Kd.R_reads' HO_15.out).2.2 0 p260 q260
                      obtain rfl : ad253 = ad260 := (by injection e260)
                      have qi260 : (0 < x15_1.length) = True := eq_true (by omega)
                      (try rw [show ((0 : Int)).toNat = 0 from rfl] at hx260_0)
                      (try rw [Addr.add_zero'] at hx260_0)
                      replace p260 := eq_true p260; replace q260 := eq_true q260
                      have p261 : 0 ≤ (2 : Int) := (by omega)
                      have q261 : 2 < (x15_1.length : Int) := of_decide_eq_true (by first | (with_reducible assumption) | assumption)
                      obtain ⟨ad261, e261, hx261_0⟩ := Kd.at_int (Kd.R_reads' HO_15.out).2.2 2 p261 q261
                      obtain rfl : ad253 = ad261 := (by injection e261)
                      (try simp only [show (2 : Int).toNat = 2 from rfl, Nat.reduceMul, Nat.reduceEqDiff, Go.Addr.add, ↓reduceIte] at hx261_0)
                      have qi261 : (2 < x15_1.length) = True := eq_true (by omega)
                      (try rw [show ((2 : Int)).toNat = 2 from rfl] at hx261_0)
                      replace p261 := eq_true p261; replace q261 := eq_true q261
                      refine start_ (n := 8) (S := fun w' => w'.cell? ad253 = some (.int .i64 (rd x15_1 0)) ∧ w'.cell? ⟨ad253.block, ad253.off + 2, none⟩ = some (.int .i64 (rd x15_1 2))) (ds := []) (nz 8 0) (by kernel_rfl) rfl (by kernel_rfl) ⟨hx260_0, hx261_0⟩ (fun hHeld => ?_); refine with_tabW tabulariumlaw21_SafeOrder.tab15 tabulariumlaw21_SafeOrder.bits15 (fun HT_ HW_ => ?_)
                      generalize w119.drew = w120 at HO_15 HI232 HI237 HI242 HB hx260_0 hx261_0 hHeld ⊢
                      refine zp HT_ 0 72 1 ?_
                      refine zp HT_ 1 73 3 ?_
                      refine zp HT_ 2 74 7 ?_
                      refine zp HT_ 4 76 23 ?_
                      refine zp HT_ 5 77 55 ?_
                      refine zt HT_ HW_ hHeld 3 75 63 ?_
                      refine zt HT_ HW_ hHeld 6 78 127 ?_
                      refine zo HT_ 7 79 255 (fun K hK => ?_)
                      refine zg Try.func9 #[.pointer (some ⟨g237, 0, none⟩), .int .i64 (rd x15_1 0), .int .i64 (rd x15_1 2)] ?_
                      with_reducible refine (safe_Safe_See.calls g237 t233 t234 t235 t236 (rd x15_1 0) (rd x15_1 2) t262 t263 t264 t265 t266 w _ ?side1 ?side2 A36.out).mono ?_
                      (case side1 => exact nw41 HI237)
                      (case side2 => exact bw3 HB (IsS41.ge HI232.out) (IsS41.ge HI237.out) (IsS41.ge HI242.out))
                      rintro e w121 ⟨rfl, hi, hb, hk⟩
                      have HS0_ := kc hk hHeld.1 (IsS41.own_ne HI237.out HO_15.out (by decide))
                      have HS1_ := kc hk hHeld.2 (IsS41.own_ne HI237.out HO_15.out (by decide))
                      refine ⟨_, rfl, ?_⟩
                      have n0_ := Aside0.mk (hk41 HI237 HO_15 hk)
                      have n1_ := Aside0.mk (show IsS41 w _ g232 t256 t257 t258 t259 from kb41 HI232 hk NS232_237.out)
                      have n2_ := Aside0.mk (show IsS41 w _ g242 t238 t239 t240 t241 from kb41 HI242 hk NS242_237.out)
                      have n3_ := Aside0.mk (hb)
                      have n4_ := Aside0.mk (hi)
                      clear HO_15; clear HI232; clear HI242; clear HB; clear HI237; have HO_15 := n0_; have HI232 := n1_; have HI242 := n2_; have HB := n3_; have HI237 := n4_; clear n0_ n1_ n2_ n3_ n4_; (try clear hb); (try clear hb2); (try clear hk); (try clear hi)
                      refine hK.out _ _ ⟨HS0_, HS1_⟩ (fun hHeld => ?_)
                      clear hK K
                      refine zn ?_
                      refine done_ (done_of HT_.out (by kernel_rfl)) ?_
                      try go_wp2
                      have n0_ := Aside0.mk (Kd.R_drew HO_15.out)
                      have n1_ := Aside0.mk (IsS41.drew HI232.out)
                      have n2_ := Aside0.mk (IsS41.drew HI237.out)
                      have n3_ := Aside0.mk (IsS41.drew HI242.out)
                      have n4_ := Aside0.mk (below_drew1 HB.out)
                      clear HO_15; clear HI232; clear HI237; clear HI242; clear HB; have HO_15 := n0_; have HI232 := n1_; have HI237 := n2_; have HI242 := n3_; have HB := n4_; clear n0_ n1_ n2_ n3_ n4_
                      have p267 : 0 ≤ (0 : Int) := (by omega)
                      have q267 : 0 < (x15_1.length : Int) := of_decide_eq_true (by first | (with_reducible assumption) | assumption)
                      obtain ⟨ad267, e267, hx267_0⟩ := Kd.at_int (Kd.R_reads' HO_15.out).2.2 0 p267 q267
                      obtain rfl : ad253 = ad267 := (by injection e267)
                      have qi267 : (0 < x15_1.length) = True := eq_true (by omega)
                      (try rw [show ((0 : Int)).toNat = 0 from rfl] at hx267_0)
                      (try rw [Addr.add_zero'] at hx267_0)
                      replace p267 := eq_true p267; replace q267 := eq_true q267
                      have p268 : 0 ≤ (1 : Int) := (by omega)
                      have q268 : 1 < (x15_1.length : Int) := of_decide_eq_true (by first | (with_reducible assumption) | assumption)
                      obtain ⟨ad268, e268, hx268_0⟩ := Kd.at_int (Kd.R_reads' HO_15.out).2.2 1 p268 q268
                      obtain rfl : ad253 = ad268 := (by injection e268)
                      (try simp only [show (1 : Int).toNat = 1 from rfl, Nat.reduceMul, Nat.reduceEqDiff, Go.Addr.add, ↓reduceIte] at hx268_0)
                      have qi268 : (1 < x15_1.length) = True := eq_true (by omega)
                      (try rw [show ((1 : Int)).toNat = 1 from rfl] at hx268_0)
                      replace p268 := eq_true p268; replace q268 := eq_true q268
                      have p269 : 0 ≤ (2 : Int) := (by omega)
                      have q269 : 2 < (x15_1.length : Int) := of_decide_eq_true (by first | (with_reducible assumption) | assumption)
                      obtain ⟨ad269, e269, hx269_0⟩ := Kd.at_int (Kd.R_reads' HO_15.out).2.2 2 p269 q269
                      obtain rfl : ad253 = ad269 := (by injection e269)
                      (try simp only [show (2 : Int).toNat = 2 from rfl, Nat.reduceMul, Nat.reduceEqDiff, Go.Addr.add, ↓reduceIte] at hx269_0)
                      have qi269 : (2 < x15_1.length) = True := eq_true (by omega)
                      (try rw [show ((2 : Int)).toNat = 2 from rfl] at hx269_0)
                      replace p269 := eq_true p269; replace q269 := eq_true q269
                      refine start_ (n := 12) (S := fun w' => w'.cell? ad253 = some (.int .i64 (rd x15_1 0)) ∧ w'.cell? ⟨ad253.block, ad253.off + 1, none⟩ = some (.int .i64 (rd x15_1 1)) ∧ w'.cell? ⟨ad253.block, ad253.off + 2, none⟩ = some (.int .i64 (rd x15_1 2))) (ds := []) (nz 12 0) (by kernel_rfl) rfl (by kernel_rfl) ⟨hx267_0, hx268_0, hx269_0⟩ (fun hHeld => ?_); refine with_tabW tabulariumlaw21_SafeOrder.tab16 tabulariumlaw21_SafeOrder.bits16 (fun HT_ HW_ => ?_)
                      generalize w121.drew = w122 at HO_15 HI232 HI237 HI242 HB hx267_0 hx268_0 hx269_0 hHeld ⊢
                      refine zp HT_ 0 80 1 ?_
                      refine zp HT_ 1 81 3 ?_
                      refine zp HT_ 2 82 7 ?_
                      refine zp HT_ 4 84 23 ?_
                      refine zp HT_ 5 85 55 ?_
                      refine zp HT_ 8 88 311 ?_
                      refine zp HT_ 9 89 823 ?_
                      refine zt HT_ HW_ hHeld 3 83 831 ?_
                      refine zt HT_ HW_ hHeld 6 86 895 ?_
                      refine zp HT_ 7 87 1023 ?_
                      refine zt HT_ HW_ hHeld 10 90 2047 ?_
                      refine zo HT_ 11 91 4095 (fun K hK => ?_)
                      refine zg Try.func9 #[.pointer (some ⟨g242, 0, none⟩), .int .i64 (wrap64 ((rd x15_1 0) + (rd x15_1 1))), .int .i64 (rd x15_1 2)] ?_
                      with_reducible refine (safe_Safe_See.calls g242 t238 t239 t240 t241 (wrap64 ((rd x15_1 0) + (rd x15_1 1))) (rd x15_1 2) t270 t271 t272 t273 t274 w _ ?side1 ?side2 A38.out).mono ?_
                      (case side1 => exact nw41 HI242)
                      (case side2 => exact bw3 HB (IsS41.ge HI232.out) (IsS41.ge HI237.out) (IsS41.ge HI242.out))
                      rintro e w123 ⟨rfl, hi, hb, hk⟩
                      have HS0_ := kc hk hHeld.1 (IsS41.own_ne HI242.out HO_15.out (by decide))
                      have HS1_ := kc hk hHeld.2.1 (IsS41.own_ne HI242.out HO_15.out (by decide))
                      have HS2_ := kc hk hHeld.2.2 (IsS41.own_ne HI242.out HO_15.out (by decide))
                      refine ⟨_, rfl, ?_⟩
                      have n0_ := Aside0.mk (hk41 HI242 HO_15 hk)
                      have n1_ := Aside0.mk (show IsS41 w _ g232 t256 t257 t258 t259 from kb41 HI232 hk NS232_242.out)
                      have n2_ := Aside0.mk (show IsS41 w _ g237 t263 t264 t265 t266 from kb41 HI237 hk NS237_242.out)
                      have n3_ := Aside0.mk (hb)
                      have n4_ := Aside0.mk (hi)
                      clear HO_15; clear HI232; clear HI237; clear HB; clear HI242; have HO_15 := n0_; have HI232 := n1_; have HI237 := n2_; have HB := n3_; have HI242 := n4_; clear n0_ n1_ n2_ n3_ n4_; (try clear hb); (try clear hb2); (try clear hk); (try clear hi)
                      refine hK.out _ _ ⟨HS0_, HS1_, HS2_⟩ (fun hHeld => ?_)
                      clear hK K
                      refine zn ?_
                      refine done_ (done_of HT_.out (by kernel_rfl)) ?_
                      try go_wp2
                      have n0_ := Aside0.mk (Kd.R_drew HO_15.out)
                      have n1_ := Aside0.mk (IsS41.drew HI232.out)
                      have n2_ := Aside0.mk (IsS41.drew HI237.out)
                      have n3_ := Aside0.mk (IsS41.drew HI242.out)
                      have n4_ := Aside0.mk (below_drew1 HB.out)
                      clear HO_15; clear HI232; clear HI237; clear HI242; clear HB; have HO_15 := n0_; have HI232 := n1_; have HI237 := n2_; have HI242 := n3_; have HB := n4_; clear n0_ n1_ n2_ n3_ n4_
                      refine start_ (n := 35) (S := fun w' => True) (ds := []) (nz 35 0) (by kernel_rfl) rfl (by kernel_rfl) trivial (fun hHeld => ?_); refine with_tabW tabulariumlaw21_SafeOrder.tab17 tabulariumlaw21_SafeOrder.bits17 (fun HT_ HW_ => ?_)
                      generalize w123.drew = w124 at HO_15 HI232 HI237 HI242 HB hHeld ⊢
                      refine zp HT_ 0 92 1 ?_
                      refine zp HT_ 1 93 3 ?_
                      refine zp HT_ 2 94 7 ?_
                      refine zp HT_ 3 95 15 ?_
                      refine zp HT_ 4 96 31 ?_
                      refine zp HT_ 5 97 63 ?_
                      refine zp HT_ 6 98 127 ?_
                      refine zq HT_ 7 99 255 ?_
                      refine zq HT_ 8 100 511 ?_
                      refine zq HT_ 9 101 1023 ?_
                      refine zq HT_ 10 102 2047 ?_
                      refine zq HT_ 11 103 4095 ?_
                      refine zp HT_ 12 104 8191 ?_
                      refine zp HT_ 13 105 16383 ?_
                      refine zp HT_ 14 106 32767 ?_
                      refine zp HT_ 15 107 65535 ?_
                      refine zp HT_ 17 109 196607 ?_
                      refine zo HT_ 16 108 262143 (fun K hK => ?_)
                      refine zg Try.func10 #[.pointer (some ⟨g242, 0, none⟩)] ?_
                      with_reducible refine (safe_Safe_Missing.calls k1 g242 t271 t272 t273 t274 t306 t307 t308 t309 t310 w _ ?side1 ?side2 A99.out).mono ?_
                      (case side1 => exact nw41 HI242)
                      (case side2 => exact bw3 HB (IsS41.ge HI232.out) (IsS41.ge HI237.out) (IsS41.ge HI242.out))
                      rintro e w125 ⟨rfl, hi, hb, hk⟩
                      refine ⟨_, rfl, ?_⟩
                      have n0_ := Aside0.mk (hk41 HI242 HO_15 hk)
                      have n1_ := Aside0.mk (show IsS41 w _ g232 t256 t257 t258 t259 from kb41 HI232 hk NS232_242.out)
                      have n2_ := Aside0.mk (show IsS41 w _ g237 t263 t264 t265 t266 from kb41 HI237 hk NS237_242.out)
                      have n3_ := Aside0.mk (hb)
                      have n4_ := Aside0.mk (hi)
                      clear HO_15; clear HI232; clear HI237; clear HB; clear HI242; have HO_15 := n0_; have HI232 := n1_; have HI237 := n2_; have HB := n3_; have HI242 := n4_; clear n0_ n1_ n2_ n3_ n4_; (try clear hb); (try clear hb2); (try clear hk); (try clear hi)
                      refine hK.out _ _ trivial (fun hHeld => ?_)
                      clear hK K
                      refine zn ?_
                      refine zo HT_ 18 110 524287 (fun K hK => ?_)
                      refine zg Try.func10 #[.pointer (some ⟨g232, 0, none⟩)] ?_
                      with_reducible refine (safe_Safe_Missing.calls k1 g232 t256 t257 t258 t259 t311 t312 t313 t314 t315 w _ ?side1 ?side2 A100.out).mono ?_
                      (case side1 => exact nw41 HI232)
                      (case side2 => exact bw3 HB (IsS41.ge HI232.out) (IsS41.ge HI237.out) (IsS41.ge HI242.out))
                      rintro e w126 ⟨rfl, hi, hb, hk⟩
                      refine ⟨_, rfl, ?_⟩
                      have n0_ := Aside0.mk (hk41 HI232 HO_15 hk)
                      have n1_ := Aside0.mk (show IsS41 w _ g237 t263 t264 t265 t266 from kb41 HI237 hk NS237_232.out)
                      have n2_ := Aside0.mk (show IsS41 w _ g242 t307 t308 t309 t310 from kb41 HI242 hk NS242_232.out)
                      have n3_ := Aside0.mk (hb)
                      have n4_ := Aside0.mk (hi)
                      clear HO_15; clear HI237; clear HI242; clear HB; clear HI232; have HO_15 := n0_; have HI237 := n1_; have HI242 := n2_; have HB := n3_; have HI232 := n4_; clear n0_ n1_ n2_ n3_ n4_; (try clear hb); (try clear hb2); (try clear hk); (try clear hi)
                      refine hK.out _ _ trivial (fun hHeld => ?_)
                      clear hK K
                      refine zn ?_
                      refine zp HT_ 19 111 1048575 ?_
                      refine zp HT_ 20 112 2097151 ?_
                      refine zp HT_ 21 113 4194303 ?_
                      refine zp HT_ 22 114 8388607 ?_
                      refine zo HT_ 23 115 16777215 (fun K hK => ?_)
                      refine zg Try.func10 #[.pointer (some ⟨g232, 0, none⟩)] ?_
                      with_reducible refine (safe_Safe_Missing.calls k1 g232 t312 t313 t314 t315 t316 t317 t318 t319 t320 w _ ?side1 ?side2 A102.out).mono ?_
                      (case side1 => exact nw41 HI232)
                      (case side2 => exact bw3 HB (IsS41.ge HI232.out) (IsS41.ge HI237.out) (IsS41.ge HI242.out))
                      rintro e w127 ⟨rfl, hi, hb, hk⟩
                      refine ⟨_, rfl, ?_⟩
                      have n0_ := Aside0.mk (hk41 HI232 HO_15 hk)
                      have n1_ := Aside0.mk (show IsS41 w _ g237 t263 t264 t265 t266 from kb41 HI237 hk NS237_232.out)
                      have n2_ := Aside0.mk (show IsS41 w _ g242 t307 t308 t309 t310 from kb41 HI242 hk NS242_232.out)
                      have n3_ := Aside0.mk (hb)
                      have n4_ := Aside0.mk (hi)
                      clear HO_15; clear HI237; clear HI242; clear HB; clear HI232; have HO_15 := n0_; have HI237 := n1_; have HI242 := n2_; have HB := n3_; have HI232 := n4_; clear n0_ n1_ n2_ n3_ n4_; (try clear hb); (try clear hb2); (try clear hk); (try clear hi)
                      refine hK.out _ _ trivial (fun hHeld => ?_)
                      clear hK K
                      refine zn ?_
                      refine zp HT_ 24 116 33554431 ?_
                      refine zp HT_ 25 117 67108863 ?_
                      refine zp HT_ 26 118 134217727 ?_
                      refine zq HT_ 27 119 268435455 ?_
                      refine zq HT_ 28 120 536870911 ?_
                      refine zq HT_ 29 121 1073741823 ?_
                      refine zq HT_ 30 122 2147483647 ?_
                      refine zq HT_ 31 123 4294967295 ?_
                      refine zq HT_ 32 124 8589934591 ?_
                      refine zp HT_ 33 125 17179869183 ?_
                      refine zp HT_ 34 10 34359738367 ?_
                      refine done_ (done_of HT_.out (by kernel_rfl)) ?_
                      try go_wp2
                      go_ret
                      exact ⟨by first | rfl | (simp [errW_none, errW_some] <;> rfl) | (simp [*, errW_none, errW_some] <;> rfl), by repeat (first | (with_reducible first | exact HB.out | apply below_alloc | apply pw_below_drewN | apply below_drew1 | refine below_set ?_ (IsS41.ge HI232.out) | refine below_set ?_ (IsS41.ge HI237.out) | refine below_set ?_ (IsS41.ge HI242.out)) | exact HB.out)⟩
                  · rw [if_neg c101] at H
                    have c101b0 : decide (t306 ≤ t311) = false := decide_eq_false c101
                    clear c101
                    obtain rfl := Option.some.inj H
                    try go_wp2
                    have n0_ := Aside0.mk (Kd.R_drew HO_15.out)
                    have n1_ := Aside0.mk (IsS41.drew HI232.out)
                    have n2_ := Aside0.mk (IsS41.drew HI237.out)
                    have n3_ := Aside0.mk (IsS41.drew HI242.out)
                    have n4_ := Aside0.mk (below_drew1 HB.out)
                    clear HO_15; clear HI232; clear HI237; clear HI242; clear HB; have HO_15 := n0_; have HI232 := n1_; have HI237 := n2_; have HI242 := n3_; have HB := n4_; clear n0_ n1_ n2_ n3_ n4_
                    obtain ⟨Ao129, co129, eo129⟩ := Kd.R_slice HO_15.out
                    (first | subst eo129 | (injection eo129 with f1_ f2_ f3_; have f4_ := f1_.symm; have f5_ := f3_.symm; clear f1_ f2_ f3_; subst f4_; subst f5_))
                    have p253 : 0 ≤ (0 : Int) := (by omega)
                    have q253 : 0 < (x15_1.length : Int) := of_decide_eq_true (by first | (with_reducible assumption) | assumption)
                    obtain ⟨ad253, e253, hx253_0⟩ := Kd.at_int (Kd.R_reads' HO_15.out).2.2 0 p253 q253
                    cases e253
                    have qi253 : (0 < x15_1.length) = True := eq_true (by omega)
                    (try rw [show ((0 : Int)).toNat = 0 from rfl] at hx253_0)
                    (try rw [Addr.add_zero'] at hx253_0)
                    replace p253 := eq_true p253; replace q253 := eq_true q253
                    have p254 : 0 ≤ (2 : Int) := (by omega)
                    have q254 : 2 < (x15_1.length : Int) := of_decide_eq_true (by first | (with_reducible assumption) | assumption)
                    obtain ⟨ad254, e254, hx254_0⟩ := Kd.at_int (Kd.R_reads' HO_15.out).2.2 2 p254 q254
                    obtain rfl : ad253 = ad254 := (by injection e254)
                    (try simp only [show (2 : Int).toNat = 2 from rfl, Nat.reduceMul, Nat.reduceEqDiff, Go.Addr.add, ↓reduceIte] at hx254_0)
                    have qi254 : (2 < x15_1.length) = True := eq_true (by omega)
                    (try rw [show ((2 : Int)).toNat = 2 from rfl] at hx254_0)
                    replace p254 := eq_true p254; replace q254 := eq_true q254
                    refine start_ (n := 8) (S := fun w' => w'.cell? ad253 = some (.int .i64 (rd x15_1 0)) ∧ w'.cell? ⟨ad253.block, ad253.off + 2, none⟩ = some (.int .i64 (rd x15_1 2))) (ds := []) (nz 8 0) (by kernel_rfl) rfl (by kernel_rfl) ⟨hx253_0, hx254_0⟩ (fun hHeld => ?_); refine with_tabW tabulariumlaw21_SafeOrder.tab14 tabulariumlaw21_SafeOrder.bits14 (fun HT_ HW_ => ?_)
                    generalize wr.drew = w128 at HO_15 HI232 HI237 HI242 HB hx253_0 hx254_0 hHeld ⊢
                    refine zp HT_ 0 64 1 ?_
                    refine zp HT_ 1 65 3 ?_
                    refine zp HT_ 2 66 7 ?_
                    refine zp HT_ 4 68 23 ?_
                    refine zp HT_ 5 69 55 ?_
                    refine zt HT_ HW_ hHeld 3 67 63 ?_
                    refine zt HT_ HW_ hHeld 6 70 127 ?_
                    refine zo HT_ 7 71 255 (fun K hK => ?_)
                    refine zg Try.func9 #[.pointer (some ⟨g232, 0, none⟩), .int .i64 (rd x15_1 0), .int .i64 (rd x15_1 2)] ?_
                    with_reducible refine (safe_Safe_See.calls g232 t228 t229 t230 t231 (rd x15_1 0) (rd x15_1 2) t255 t256 t257 t258 t259 w _ ?side1 ?side2 A35.out).mono ?_
                    (case side1 => exact nw41 HI232)
                    (case side2 => exact bw3 HB (IsS41.ge HI232.out) (IsS41.ge HI237.out) (IsS41.ge HI242.out))
                    rintro e w130 ⟨rfl, hi, hb, hk⟩
                    have HS0_ := kc hk hHeld.1 (IsS41.own_ne HI232.out HO_15.out (by decide))
                    have HS1_ := kc hk hHeld.2 (IsS41.own_ne HI232.out HO_15.out (by decide))
                    refine ⟨_, rfl, ?_⟩
                    have n0_ := Aside0.mk (hk41 HI232 HO_15 hk)
                    have n1_ := Aside0.mk (show IsS41 w _ g237 t233 t234 t235 t236 from kb41 HI237 hk NS237_232.out)
                    have n2_ := Aside0.mk (show IsS41 w _ g242 t238 t239 t240 t241 from kb41 HI242 hk NS242_232.out)
                    have n3_ := Aside0.mk (hb)
                    have n4_ := Aside0.mk (hi)
                    clear HO_15; clear HI237; clear HI242; clear HB; clear HI232; have HO_15 := n0_; have HI237 := n1_; have HI242 := n2_; have HB := n3_; have HI232 := n4_; clear n0_ n1_ n2_ n3_ n4_; (try clear hb); (try clear hb2); (try clear hk); (try clear hi)
                    refine hK.out _ _ ⟨HS0_, HS1_⟩ (fun hHeld => ?_)
                    clear hK K
                    refine zn ?_
                    refine done_ (done_of HT_.out (by kernel_rfl)) ?_
                    try go_wp2
                    have n0_ := Aside0.mk (Kd.R_drew HO_15.out)
                    have n1_ := Aside0.mk (IsS41.drew HI232.out)
                    have n2_ := Aside0.mk (IsS41.drew HI237.out)
                    have n3_ := Aside0.mk (IsS41.drew HI242.out)
                    have n4_ := Aside0.mk (below_drew1 HB.out)
                    clear HO_15; clear HI232; clear HI237; clear HI242; clear HB; have HO_15 := n0_; have HI232 := n1_; have HI237 := n2_; have HI242 := n3_; have HB := n4_; clear n0_ n1_ n2_ n3_ n4_
                    have p260 : 0 ≤ (0 : Int) := (by omega)
                    have q260 : 0 < (x15_1.length : Int) := of_decide_eq_true (by first | (with_reducible assumption) | assumption)
                    obtain ⟨ad260, e260, hx260_0⟩ := Kd.at_int (Kd.R_reads' HO_15.out).2.2 0 p260 q260
                    obtain rfl : ad253 = ad260 := (by injection e260)
                    have qi260 : (0 < x15_1.length) = True := eq_true (by omega)
                    (try rw [show ((0 : Int)).toNat = 0 from rfl] at hx260_0)
                    (try rw [Addr.add_zero'] at hx260_0)
                    replace p260 := eq_true p260; replace q260 := eq_true q260
                    have p261 : 0 ≤ (2 : Int) := (by omega)
                    have q261 : 2 < (x15_1.length : Int) := of_decide_eq_true (by first | (with_reducible assumption) | assumption)
                    obtain ⟨ad261, e261, hx261_0⟩ := Kd.at_int (Kd.R_reads' HO_15.out).2.2 2 p261 q261
                    obtain rfl : ad253 = ad261 := (by injection e261)
                    (try simp only [show (2 : Int).toNat = 2 from rfl, Nat.reduceMul, Nat.reduceEqDiff, Go.Addr.add, ↓reduceIte] at hx261_0)
                    have qi261 : (2 < x15_1.length) = True := eq_true (by omega)
                    (try rw [show ((2 : Int)).toNat = 2 from rfl] at hx261_0)
                    replace p261 := eq_true p261; replace q261 := eq_true q261
                    refine start_ (n := 8) (S := fun w' => w'.cell? ad253 = some (.int .i64 (rd x15_1 0)) ∧ w'.cell? ⟨ad253.block, ad253.off + 2, none⟩ = some (.int .i64 (rd x15_1 2))) (ds := []) (nz 8 0) (by kernel_rfl) rfl (by kernel_rfl) ⟨hx260_0, hx261_0⟩ (fun hHeld => ?_); refine with_tabW tabulariumlaw21_SafeOrder.tab15 tabulariumlaw21_SafeOrder.bits15 (fun HT_ HW_ => ?_)
                    generalize w130.drew = w131 at HO_15 HI232 HI237 HI242 HB hx260_0 hx261_0 hHeld ⊢
                    refine zp HT_ 0 72 1 ?_
                    refine zp HT_ 1 73 3 ?_
                    refine zp HT_ 2 74 7 ?_
                    refine zp HT_ 4 76 23 ?_
                    refine zp HT_ 5 77 55 ?_
                    refine zt HT_ HW_ hHeld 3 75 63 ?_
                    refine zt HT_ HW_ hHeld 6 78 127 ?_
                    refine zo HT_ 7 79 255 (fun K hK => ?_)
                    refine zg Try.func9 #[.pointer (some ⟨g237, 0, none⟩), .int .i64 (rd x15_1 0), .int .i64 (rd x15_1 2)] ?_
                    with_reducible refine (safe_Safe_See.calls g237 t233 t234 t235 t236 (rd x15_1 0) (rd x15_1 2) t262 t263 t264 t265 t266 w _ ?side1 ?side2 A36.out).mono ?_
                    (case side1 => exact nw41 HI237)
                    (case side2 => exact bw3 HB (IsS41.ge HI232.out) (IsS41.ge HI237.out) (IsS41.ge HI242.out))
                    rintro e w132 ⟨rfl, hi, hb, hk⟩
                    have HS0_ := kc hk hHeld.1 (IsS41.own_ne HI237.out HO_15.out (by decide))
                    have HS1_ := kc hk hHeld.2 (IsS41.own_ne HI237.out HO_15.out (by decide))
                    refine ⟨_, rfl, ?_⟩
                    have n0_ := Aside0.mk (hk41 HI237 HO_15 hk)
                    have n1_ := Aside0.mk (show IsS41 w _ g232 t256 t257 t258 t259 from kb41 HI232 hk NS232_237.out)
                    have n2_ := Aside0.mk (show IsS41 w _ g242 t238 t239 t240 t241 from kb41 HI242 hk NS242_237.out)
                    have n3_ := Aside0.mk (hb)
                    have n4_ := Aside0.mk (hi)
                    clear HO_15; clear HI232; clear HI242; clear HB; clear HI237; have HO_15 := n0_; have HI232 := n1_; have HI242 := n2_; have HB := n3_; have HI237 := n4_; clear n0_ n1_ n2_ n3_ n4_; (try clear hb); (try clear hb2); (try clear hk); (try clear hi)
                    refine hK.out _ _ ⟨HS0_, HS1_⟩ (fun hHeld => ?_)
                    clear hK K
                    refine zn ?_
                    refine done_ (done_of HT_.out (by kernel_rfl)) ?_
                    try go_wp2
                    have n0_ := Aside0.mk (Kd.R_drew HO_15.out)
                    have n1_ := Aside0.mk (IsS41.drew HI232.out)
                    have n2_ := Aside0.mk (IsS41.drew HI237.out)
                    have n3_ := Aside0.mk (IsS41.drew HI242.out)
                    have n4_ := Aside0.mk (below_drew1 HB.out)
                    clear HO_15; clear HI232; clear HI237; clear HI242; clear HB; have HO_15 := n0_; have HI232 := n1_; have HI237 := n2_; have HI242 := n3_; have HB := n4_; clear n0_ n1_ n2_ n3_ n4_
                    have p267 : 0 ≤ (0 : Int) := (by omega)
                    have q267 : 0 < (x15_1.length : Int) := of_decide_eq_true (by first | (with_reducible assumption) | assumption)
                    obtain ⟨ad267, e267, hx267_0⟩ := Kd.at_int (Kd.R_reads' HO_15.out).2.2 0 p267 q267
                    obtain rfl : ad253 = ad267 := (by injection e267)
                    have qi267 : (0 < x15_1.length) = True := eq_true (by omega)
                    (try rw [show ((0 : Int)).toNat = 0 from rfl] at hx267_0)
                    (try rw [Addr.add_zero'] at hx267_0)
                    replace p267 := eq_true p267; replace q267 := eq_true q267
                    have p268 : 0 ≤ (1 : Int) := (by omega)
                    have q268 : 1 < (x15_1.length : Int) := of_decide_eq_true (by first | (with_reducible assumption) | assumption)
                    obtain ⟨ad268, e268, hx268_0⟩ := Kd.at_int (Kd.R_reads' HO_15.out).2.2 1 p268 q268
                    obtain rfl : ad253 = ad268 := (by injection e268)
                    (try simp only [show (1 : Int).toNat = 1 from rfl, Nat.reduceMul, Nat.reduceEqDiff, Go.Addr.add, ↓reduceIte] at hx268_0)
                    have qi268 : (1 < x15_1.length) = True := eq_true (by omega)
                    (try rw [show ((1 : Int)).toNat = 1 from rfl] at hx268_0)
                    replace p268 := eq_true p268; replace q268 := eq_true q268
                    have p269 : 0 ≤ (2 : Int) := (by omega)
                    have q269 : 2 < (x15_1.length : Int) := of_decide_eq_true (by first | (with_reducible assumption) | assumption)
                    obtain ⟨ad269, e269, hx269_0⟩ := Kd.at_int (Kd.R_reads' HO_15.out).2.2 2 p269 q269
                    obtain rfl : ad253 = ad269 := (by injection e269)
                    (try simp only [show (2 : Int).toNat = 2 from rfl, Nat.reduceMul, Nat.reduceEqDiff, Go.Addr.add, ↓reduceIte] at hx269_0)
                    have qi269 : (2 < x15_1.length) = True := eq_true (by omega)
                    (try rw [show ((2 : Int)).toNat = 2 from rfl] at hx269_0)
                    replace p269 := eq_true p269; replace q269 := eq_true q269
                    refine start_ (n := 12) (S := fun w' => w'.cell? ad253 = some (.int .i64 (rd x15_1 0)) ∧ w'.cell? ⟨ad253.block, ad253.off + 1, none⟩ = some (.int .i64 (rd x15_1 1)) ∧ w'.cell? ⟨ad253.block, ad253.off + 2, none⟩ = some (.int .i64 (rd x15_1 2))) (ds := []) (nz 12 0) (by kernel_rfl) rfl (by kernel_rfl) ⟨hx267_0, hx268_0, hx269_0⟩ (fun hHeld => ?_); refine with_tabW tabulariumlaw21_SafeOrder.tab16 tabulariumlaw21_SafeOrder.bits16 (fun HT_ HW_ => ?_)
                    generalize w132.drew = w133 at HO_15 HI232 HI237 HI242 HB hx267_0 hx268_0 hx269_0 hHeld ⊢
                    refine zp HT_ 0 80 1 ?_
                    refine zp HT_ 1 81 3 ?_
                    refine zp HT_ 2 82 7 ?_
                    refine zp HT_ 4 84 23 ?_
                    refine zp HT_ 5 85 55 ?_
                    refine zp HT_ 8 88 311 ?_
                    refine zp HT_ 9 89 823 ?_
                    refine zt HT_ HW_ hHeld 3 83 831 ?_
                    refine zt HT_ HW_ hHeld 6 86 895 ?_
                    refine zp HT_ 7 87 1023 ?_
                    refine zt HT_ HW_ hHeld 10 90 2047 ?_
                    refine zo HT_ 11 91 4095 (fun K hK => ?_)
                    refine zg Try.func9 #[.pointer (some ⟨g242, 0, none⟩), .int .i64 (wrap64 ((rd x15_1 0) + (rd x15_1 1))), .int .i64 (rd x15_1 2)] ?_
                    with_reducible refine (safe_Safe_See.calls g242 t238 t239 t240 t241 (wrap64 ((rd x15_1 0) + (rd x15_1 1))) (rd x15_1 2) t270 t271 t272 t273 t274 w _ ?side1 ?side2 A38.out).mono ?_
                    (case side1 => exact nw41 HI242)
                    (case side2 => exact bw3 HB (IsS41.ge HI232.out) (IsS41.ge HI237.out) (IsS41.ge HI242.out))
                    rintro e w134 ⟨rfl, hi, hb, hk⟩
                    have HS0_ := kc hk hHeld.1 (IsS41.own_ne HI242.out HO_15.out (by decide))
                    have HS1_ := kc hk hHeld.2.1 (IsS41.own_ne HI242.out HO_15.out (by decide))
                    have HS2_ := kc hk hHeld.2.2 (IsS41.own_ne HI242.out HO_15.out (by decide))
                    refine ⟨_, rfl, ?_⟩
                    have n0_ := Aside0.mk (hk41 HI242 HO_15 hk)
                    have n1_ := Aside0.mk (show IsS41 w _ g232 t256 t257 t258 t259 from kb41 HI232 hk NS232_242.out)
                    have n2_ := Aside0.mk (show IsS41 w _ g237 t263 t264 t265 t266 from kb41 HI237 hk NS237_242.out)
                    have n3_ := Aside0.mk (hb)
                    have n4_ := Aside0.mk (hi)
                    clear HO_15; clear HI232; clear HI237; clear HB; clear HI242; have HO_15 := n0_; have HI232 := n1_; have HI237 := n2_; have HB := n3_; have HI242 := n4_; clear n0_ n1_ n2_ n3_ n4_; (try clear hb); (try clear hb2); (try clear hk); (try clear hi)
                    refine hK.out _ _ ⟨HS0_, HS1_, HS2_⟩ (fun hHeld => ?_)
                    clear hK K
                    refine zn ?_
                    refine done_ (done_of HT_.out (by kernel_rfl)) ?_
                    try go_wp2
                    have n0_ := Aside0.mk (Kd.R_drew HO_15.out)
                    have n1_ := Aside0.mk (IsS41.drew HI232.out)
                    have n2_ := Aside0.mk (IsS41.drew HI237.out)
                    have n3_ := Aside0.mk (IsS41.drew HI242.out)
                    have n4_ := Aside0.mk (below_drew1 HB.out)
                    clear HO_15; clear HI232; clear HI237; clear HI242; clear HB; have HO_15 := n0_; have HI232 := n1_; have HI237 := n2_; have HI242 := n3_; have HB := n4_; clear n0_ n1_ n2_ n3_ n4_
                    refine start_ (n := 35) (S := fun w' => True) (ds := []) (nz 35 0) (by kernel_rfl) rfl (by kernel_rfl) trivial (fun hHeld => ?_); refine with_tabW tabulariumlaw21_SafeOrder.tab17 tabulariumlaw21_SafeOrder.bits17 (fun HT_ HW_ => ?_)
                    generalize w134.drew = w135 at HO_15 HI232 HI237 HI242 HB hHeld ⊢
                    refine zp HT_ 0 92 1 ?_
                    refine zp HT_ 1 93 3 ?_
                    refine zp HT_ 2 94 7 ?_
                    refine zp HT_ 3 95 15 ?_
                    refine zp HT_ 4 96 31 ?_
                    refine zp HT_ 5 97 63 ?_
                    refine zp HT_ 6 98 127 ?_
                    refine zq HT_ 7 99 255 ?_
                    refine zq HT_ 8 100 511 ?_
                    refine zq HT_ 9 101 1023 ?_
                    refine zq HT_ 10 102 2047 ?_
                    refine zq HT_ 11 103 4095 ?_
                    refine zp HT_ 12 104 8191 ?_
                    refine zp HT_ 13 105 16383 ?_
                    refine zp HT_ 14 106 32767 ?_
                    refine zp HT_ 15 107 65535 ?_
                    refine zp HT_ 17 109 196607 ?_
                    refine zo HT_ 16 108 262143 (fun K hK => ?_)
                    refine zg Try.func10 #[.pointer (some ⟨g242, 0, none⟩)] ?_
                    with_reducible refine (safe_Safe_Missing.calls k1 g242 t271 t272 t273 t274 t306 t307 t308 t309 t310 w _ ?side1 ?side2 A99.out).mono ?_
                    (case side1 => exact nw41 HI242)
                    (case side2 => exact bw3 HB (IsS41.ge HI232.out) (IsS41.ge HI237.out) (IsS41.ge HI242.out))
                    rintro e w136 ⟨rfl, hi, hb, hk⟩
                    refine ⟨_, rfl, ?_⟩
                    have n0_ := Aside0.mk (hk41 HI242 HO_15 hk)
                    have n1_ := Aside0.mk (show IsS41 w _ g232 t256 t257 t258 t259 from kb41 HI232 hk NS232_242.out)
                    have n2_ := Aside0.mk (show IsS41 w _ g237 t263 t264 t265 t266 from kb41 HI237 hk NS237_242.out)
                    have n3_ := Aside0.mk (hb)
                    have n4_ := Aside0.mk (hi)
                    clear HO_15; clear HI232; clear HI237; clear HB; clear HI242; have HO_15 := n0_; have HI232 := n1_; have HI237 := n2_; have HB := n3_; have HI242 := n4_; clear n0_ n1_ n2_ n3_ n4_; (try clear hb); (try clear hb2); (try clear hk); (try clear hi)
                    refine hK.out _ _ trivial (fun hHeld => ?_)
                    clear hK K
                    refine zn ?_
                    refine zo HT_ 18 110 524287 (fun K hK => ?_)
                    refine zg Try.func10 #[.pointer (some ⟨g232, 0, none⟩)] ?_
                    with_reducible refine (safe_Safe_Missing.calls k1 g232 t256 t257 t258 t259 t311 t312 t313 t314 t315 w _ ?side1 ?side2 A100.out).mono ?_
                    (case side1 => exact nw41 HI232)
                    (case side2 => exact bw3 HB (IsS41.ge HI232.out) (IsS41.ge HI237.out) (IsS41.ge HI242.out))
                    rintro e w137 ⟨rfl, hi, hb, hk⟩
                    refine ⟨_, rfl, ?_⟩
                    have n0_ := Aside0.mk (hk41 HI232 HO_15 hk)
                    have n1_ := Aside0.mk (show IsS41 w _ g237 t263 t264 t265 t266 from kb41 HI237 hk NS237_232.out)
                    have n2_ := Aside0.mk (show IsS41 w _ g242 t307 t308 t309 t310 from kb41 HI242 hk NS242_232.out)
                    have n3_ := Aside0.mk (hb)
                    have n4_ := Aside0.mk (hi)
                    clear HO_15; clear HI237; clear HI242; clear HB; clear HI232; have HO_15 := n0_; have HI237 := n1_; have HI242 := n2_; have HB := n3_; have HI232 := n4_; clear n0_ n1_ n2_ n3_ n4_; (try clear hb); (try clear hb2); (try clear hk); (try clear hi)
                    refine hK.out _ _ trivial (fun hHeld => ?_)
                    clear hK K
                    refine zn ?_
                    refine zp HT_ 19 111 1048575 ?_
                    refine zp HT_ 20 112 2097151 ?_
                    refine zp HT_ 21 113 4194303 ?_
                    refine zq HT_ 22 114 8388607 ?_
                    refine zq HT_ 23 115 16777215 ?_
                    refine zq HT_ 24 116 33554431 ?_
                    refine zp HT_ 25 117 67108863 ?_
                    refine zp HT_ 26 118 134217727 ?_
                    refine zq HT_ 27 119 268435455 ?_
                    refine zq HT_ 28 120 536870911 ?_
                    refine zq HT_ 29 121 1073741823 ?_
                    refine zq HT_ 30 122 2147483647 ?_
                    refine zq HT_ 31 123 4294967295 ?_
                    refine zq HT_ 32 124 8589934591 ?_
                    refine zp HT_ 33 125 17179869183 ?_
                    refine zp HT_ 34 10 34359738367 ?_
                    refine done_ (done_of HT_.out (by kernel_rfl)) ?_
                    try go_wp2
                    go_ret
                    exact ⟨by first | rfl | (simp [errW_none, errW_some] <;> rfl) | (simp [*, errW_none, errW_some] <;> rfl), by repeat (first | (with_reducible first | exact HB.out | apply below_alloc | apply pw_below_drewN | apply below_drew1 | refine below_set ?_ (IsS41.ge HI232.out) | refine below_set ?_ (IsS41.ge HI237.out) | refine below_set ?_ (IsS41.ge HI242.out)) | exact HB.out)⟩
              · replace c39 := Bool.eq_false_iff.mpr c39
                subst c39
                have H1 : (some false) = some r := by rw [if_neg (show ¬ (false = true) by decide)] at H; exact H
                clear H
                have H := H1
                clear H1
                obtain rfl := Option.some.inj H
                try go_wp2
                have n0_ := Aside0.mk (Kd.R_drew HO_15.out)
                have n1_ := Aside0.mk (IsS41.drew HI232.out)
                have n2_ := Aside0.mk (IsS41.drew HI237.out)
                have n3_ := Aside0.mk (IsS41.drew HI242.out)
                have n4_ := Aside0.mk (below_drew1 HB.out)
                clear HO_15; clear HI232; clear HI237; clear HI242; clear HB; have HO_15 := n0_; have HI232 := n1_; have HI237 := n2_; have HI242 := n3_; have HB := n4_; clear n0_ n1_ n2_ n3_ n4_
                obtain ⟨Ao139, co139, eo139⟩ := Kd.R_slice HO_15.out
                (first | subst eo139 | (injection eo139 with f1_ f2_ f3_; have f4_ := f1_.symm; have f5_ := f3_.symm; clear f1_ f2_ f3_; subst f4_; subst f5_))
                have p253 : 0 ≤ (0 : Int) := (by omega)
                have q253 : 0 < (x15_1.length : Int) := of_decide_eq_true (by first | (with_reducible assumption) | assumption)
                obtain ⟨ad253, e253, hx253_0⟩ := Kd.at_int (Kd.R_reads' HO_15.out).2.2 0 p253 q253
                cases e253
                have qi253 : (0 < x15_1.length) = True := eq_true (by omega)
                (try rw [show ((0 : Int)).toNat = 0 from rfl] at hx253_0)
                (try rw [Addr.add_zero'] at hx253_0)
                replace p253 := eq_true p253; replace q253 := eq_true q253
                have p254 : 0 ≤ (2 : Int) := (by omega)
                have q254 : 2 < (x15_1.length : Int) := of_decide_eq_true (by first | (with_reducible assumption) | assumption)
                obtain ⟨ad254, e254, hx254_0⟩ := Kd.at_int (Kd.R_reads' HO_15.out).2.2 2 p254 q254
                obtain rfl : ad253 = ad254 := (by injection e254)
                (try simp only [show (2 : Int).toNat = 2 from rfl, Nat.reduceMul, Nat.reduceEqDiff, Go.Addr.add, ↓reduceIte] at hx254_0)
                have qi254 : (2 < x15_1.length) = True := eq_true (by omega)
                (try rw [show ((2 : Int)).toNat = 2 from rfl] at hx254_0)
                replace p254 := eq_true p254; replace q254 := eq_true q254
                refine start_ (n := 8) (S := fun w' => w'.cell? ad253 = some (.int .i64 (rd x15_1 0)) ∧ w'.cell? ⟨ad253.block, ad253.off + 2, none⟩ = some (.int .i64 (rd x15_1 2))) (ds := []) (nz 8 0) (by kernel_rfl) rfl (by kernel_rfl) ⟨hx253_0, hx254_0⟩ (fun hHeld => ?_); refine with_tabW tabulariumlaw21_SafeOrder.tab14 tabulariumlaw21_SafeOrder.bits14 (fun HT_ HW_ => ?_)
                generalize wr.drew = w138 at HO_15 HI232 HI237 HI242 HB hx253_0 hx254_0 hHeld ⊢
                refine zp HT_ 0 64 1 ?_
                refine zp HT_ 1 65 3 ?_
                refine zp HT_ 2 66 7 ?_
                refine zp HT_ 4 68 23 ?_
                refine zp HT_ 5 69 55 ?_
                refine zt HT_ HW_ hHeld 3 67 63 ?_
                refine zt HT_ HW_ hHeld 6 70 127 ?_
                refine zo HT_ 7 71 255 (fun K hK => ?_)
                refine zg Try.func9 #[.pointer (some ⟨g232, 0, none⟩), .int .i64 (rd x15_1 0), .int .i64 (rd x15_1 2)] ?_
                with_reducible refine (safe_Safe_See.calls g232 t228 t229 t230 t231 (rd x15_1 0) (rd x15_1 2) t255 t256 t257 t258 t259 w _ ?side1 ?side2 A35.out).mono ?_
                (case side1 => exact nw41 HI232)
                (case side2 => exact bw3 HB (IsS41.ge HI232.out) (IsS41.ge HI237.out) (IsS41.ge HI242.out))
                rintro e w140 ⟨rfl, hi, hb, hk⟩
                have HS0_ := kc hk hHeld.1 (IsS41.own_ne HI232.out HO_15.out (by decide))
                have HS1_ := kc hk hHeld.2 (IsS41.own_ne HI232.out HO_15.out (by decide))
                refine ⟨_, rfl, ?_⟩
                have n0_ := Aside0.mk (hk41 HI232 HO_15 hk)
                have n1_ := Aside0.mk (show IsS41 w _ g237 t233 t234 t235 t236 from kb41 HI237 hk NS237_232.out)
                have n2_ := Aside0.mk (show IsS41 w _ g242 t238 t239 t240 t241 from kb41 HI242 hk NS242_232.out)
                have n3_ := Aside0.mk (hb)
                have n4_ := Aside0.mk (hi)
                clear HO_15; clear HI237; clear HI242; clear HB; clear HI232; have HO_15 := n0_; have HI237 := n1_; have HI242 := n2_; have HB := n3_; have HI232 := n4_; clear n0_ n1_ n2_ n3_ n4_; (try clear hb); (try clear hb2); (try clear hk); (try clear hi)
                refine hK.out _ _ ⟨HS0_, HS1_⟩ (fun hHeld => ?_)
                clear hK K
                refine zn ?_
                refine done_ (done_of HT_.out (by kernel_rfl)) ?_
                try go_wp2
                have n0_ := Aside0.mk (Kd.R_drew HO_15.out)
                have n1_ := Aside0.mk (IsS41.drew HI232.out)
                have n2_ := Aside0.mk (IsS41.drew HI237.out)
                have n3_ := Aside0.mk (IsS41.drew HI242.out)
                have n4_ := Aside0.mk (below_drew1 HB.out)
                clear HO_15; clear HI232; clear HI237; clear HI242; clear HB; have HO_15 := n0_; have HI232 := n1_; have HI237 := n2_; have HI242 := n3_; have HB := n4_; clear n0_ n1_ n2_ n3_ n4_
                have p260 : 0 ≤ (0 : Int) := (by omega)
                have q260 : 0 < (x15_1.length : Int) := of_decide_eq_true (by first | (with_reducible assumption) | assumption)
                obtain ⟨ad260, e260, hx260_0⟩ := Kd.at_int (Kd.R_reads' HO_15.out).2.2 0 p260 q260
                obtain rfl : ad253 = ad260 := (by injection e260)
                have qi260 : (0 < x15_1.length) = True := eq_true (by omega)
                (try rw [show ((0 : Int)).toNat = 0 from rfl] at hx260_0)
                (try rw [Addr.add_zero'] at hx260_0)
                replace p260 := eq_true p260; replace q260 := eq_true q260
                have p261 : 0 ≤ (2 : Int) := (by omega)
                have q261 : 2 < (x15_1.length : Int) := of_decide_eq_true (by first | (with_reducible assumption) | assumption)
                obtain ⟨ad261, e261, hx261_0⟩ := Kd.at_int (Kd.R_reads' HO_15.out).2.2 2 p261 q261
                obtain rfl : ad253 = ad261 := (by injection e261)
                (try simp only [show (2 : Int).toNat = 2 from rfl, Nat.reduceMul, Nat.reduceEqDiff, Go.Addr.add, ↓reduceIte] at hx261_0)
                have qi261 : (2 < x15_1.length) = True := eq_true (by omega)
                (try rw [show ((2 : Int)).toNat = 2 from rfl] at hx261_0)
                replace p261 := eq_true p261; replace q261 := eq_true q261
                refine start_ (n := 8) (S := fun w' => w'.cell? ad253 = some (.int .i64 (rd x15_1 0)) ∧ w'.cell? ⟨ad253.block, ad253.off + 2, none⟩ = some (.int .i64 (rd x15_1 2))) (ds := []) (nz 8 0) (by kernel_rfl) rfl (by kernel_rfl) ⟨hx260_0, hx261_0⟩ (fun hHeld => ?_); refine with_tabW tabulariumlaw21_SafeOrder.tab15 tabulariumlaw21_SafeOrder.bits15 (fun HT_ HW_ => ?_)
                generalize w140.drew = w141 at HO_15 HI232 HI237 HI242 HB hx260_0 hx261_0 hHeld ⊢
                refine zp HT_ 0 72 1 ?_
                refine zp HT_ 1 73 3 ?_
                refine zp HT_ 2 74 7 ?_
                refine zp HT_ 4 76 23 ?_
                refine zp HT_ 5 77 55 ?_
                refine zt HT_ HW_ hHeld 3 75 63 ?_
                refine zt HT_ HW_ hHeld 6 78 127 ?_
                refine zo HT_ 7 79 255 (fun K hK => ?_)
                refine zg Try.func9 #[.pointer (some ⟨g237, 0, none⟩), .int .i64 (rd x15_1 0), .int .i64 (rd x15_1 2)] ?_
                with_reducible refine (safe_Safe_See.calls g237 t233 t234 t235 t236 (rd x15_1 0) (rd x15_1 2) t262 t263 t264 t265 t266 w _ ?side1 ?side2 A36.out).mono ?_
                (case side1 => exact nw41 HI237)
                (case side2 => exact bw3 HB (IsS41.ge HI232.out) (IsS41.ge HI237.out) (IsS41.ge HI242.out))
                rintro e w142 ⟨rfl, hi, hb, hk⟩
                have HS0_ := kc hk hHeld.1 (IsS41.own_ne HI237.out HO_15.out (by decide))
                have HS1_ := kc hk hHeld.2 (IsS41.own_ne HI237.out HO_15.out (by decide))
                refine ⟨_, rfl, ?_⟩
                have n0_ := Aside0.mk (hk41 HI237 HO_15 hk)
                have n1_ := Aside0.mk (show IsS41 w _ g232 t256 t257 t258 t259 from kb41 HI232 hk NS232_237.out)
                have n2_ := Aside0.mk (show IsS41 w _ g242 t238 t239 t240 t241 from kb41 HI242 hk NS242_237.out)
                have n3_ := Aside0.mk (hb)
                have n4_ := Aside0.mk (hi)
                clear HO_15; clear HI232; clear HI242; clear HB; clear HI237; have HO_15 := n0_; have HI232 := n1_; have HI242 := n2_; have HB := n3_; have HI237 := n4_; clear n0_ n1_ n2_ n3_ n4_; (try clear hb); (try clear hb2); (try clear hk); (try clear hi)
                refine hK.out _ _ ⟨HS0_, HS1_⟩ (fun hHeld => ?_)
                clear hK K
                refine zn ?_
                refine done_ (done_of HT_.out (by kernel_rfl)) ?_
                try go_wp2
                have n0_ := Aside0.mk (Kd.R_drew HO_15.out)
                have n1_ := Aside0.mk (IsS41.drew HI232.out)
                have n2_ := Aside0.mk (IsS41.drew HI237.out)
                have n3_ := Aside0.mk (IsS41.drew HI242.out)
                have n4_ := Aside0.mk (below_drew1 HB.out)
                clear HO_15; clear HI232; clear HI237; clear HI242; clear HB; have HO_15 := n0_; have HI232 := n1_; have HI237 := n2_; have HI242 := n3_; have HB := n4_; clear n0_ n1_ n2_ n3_ n4_
                have p267 : 0 ≤ (0 : Int) := (by omega)
                have q267 : 0 < (x15_1.length : Int) := of_decide_eq_true (by first | (with_reducible assumption) | assumption)
                obtain ⟨ad267, e267, hx267_0⟩ := Kd.at_int (Kd.R_reads' HO_15.out).2.2 0 p267 q267
                obtain rfl : ad253 = ad267 := (by injection e267)
                have qi267 : (0 < x15_1.length) = True := eq_true (by omega)
                (try rw [show ((0 : Int)).toNat = 0 from rfl] at hx267_0)
                (try rw [Addr.add_zero'] at hx267_0)
                replace p267 := eq_true p267; replace q267 := eq_true q267
                have p268 : 0 ≤ (1 : Int) := (by omega)
                have q268 : 1 < (x15_1.length : Int) := of_decide_eq_true (by first | (with_reducible assumption) | assumption)
                obtain ⟨ad268, e268, hx268_0⟩ := Kd.at_int (Kd.R_reads' HO_15.out).2.2 1 p268 q268
                obtain rfl : ad253 = ad268 := (by injection e268)
                (try simp only [show (1 : Int).toNat = 1 from rfl, Nat.reduceMul, Nat.reduceEqDiff, Go.Addr.add, ↓reduceIte] at hx268_0)
                have qi268 : (1 < x15_1.length) = True := eq_true (by omega)
                (try rw [show ((1 : Int)).toNat = 1 from rfl] at hx268_0)
                replace p268 := eq_true p268; replace q268 := eq_true q268
                have p269 : 0 ≤ (2 : Int) := (by omega)
                have q269 : 2 < (x15_1.length : Int) := of_decide_eq_true (by first | (with_reducible assumption) | assumption)
                obtain ⟨ad269, e269, hx269_0⟩ := Kd.at_int (Kd.R_reads' HO_15.out).2.2 2 p269 q269
                obtain rfl : ad253 = ad269 := (by injection e269)
                (try simp only [show (2 : Int).toNat = 2 from rfl, Nat.reduceMul, Nat.reduceEqDiff, Go.Addr.add, ↓reduceIte] at hx269_0)
                have qi269 : (2 < x15_1.length) = True := eq_true (by omega)
                (try rw [show ((2 : Int)).toNat = 2 from rfl] at hx269_0)
                replace p269 := eq_true p269; replace q269 := eq_true q269
                refine start_ (n := 12) (S := fun w' => w'.cell? ad253 = some (.int .i64 (rd x15_1 0)) ∧ w'.cell? ⟨ad253.block, ad253.off + 1, none⟩ = some (.int .i64 (rd x15_1 1)) ∧ w'.cell? ⟨ad253.block, ad253.off + 2, none⟩ = some (.int .i64 (rd x15_1 2))) (ds := []) (nz 12 0) (by kernel_rfl) rfl (by kernel_rfl) ⟨hx267_0, hx268_0, hx269_0⟩ (fun hHeld => ?_); refine with_tabW tabulariumlaw21_SafeOrder.tab16 tabulariumlaw21_SafeOrder.bits16 (fun HT_ HW_ => ?_)
                generalize w142.drew = w143 at HO_15 HI232 HI237 HI242 HB hx267_0 hx268_0 hx269_0 hHeld ⊢
                refine zp HT_ 0 80 1 ?_
                refine zp HT_ 1 81 3 ?_
                refine zp HT_ 2 82 7 ?_
                refine zp HT_ 4 84 23 ?_
                refine zp HT_ 5 85 55 ?_
                refine zp HT_ 8 88 311 ?_
                refine zp HT_ 9 89 823 ?_
                refine zt HT_ HW_ hHeld 3 83 831 ?_
                refine zt HT_ HW_ hHeld 6 86 895 ?_
                refine zp HT_ 7 87 1023 ?_
                refine zt HT_ HW_ hHeld 10 90 2047 ?_
                refine zo HT_ 11 91 4095 (fun K hK => ?_)
                refine zg Try.func9 #[.pointer (some ⟨g242, 0, none⟩), .int .i64 (wrap64 ((rd x15_1 0) + (rd x15_1 1))), .int .i64 (rd x15_1 2)] ?_
                with_reducible refine (safe_Safe_See.calls g242 t238 t239 t240 t241 (wrap64 ((rd x15_1 0) + (rd x15_1 1))) (rd x15_1 2) t270 t271 t272 t273 t274 w _ ?side1 ?side2 A38.out).mono ?_
                (case side1 => exact nw41 HI242)
                (case side2 => exact bw3 HB (IsS41.ge HI232.out) (IsS41.ge HI237.out) (IsS41.ge HI242.out))
                rintro e w144 ⟨rfl, hi, hb, hk⟩
                have HS0_ := kc hk hHeld.1 (IsS41.own_ne HI242.out HO_15.out (by decide))
                have HS1_ := kc hk hHeld.2.1 (IsS41.own_ne HI242.out HO_15.out (by decide))
                have HS2_ := kc hk hHeld.2.2 (IsS41.own_ne HI242.out HO_15.out (by decide))
                refine ⟨_, rfl, ?_⟩
                have n0_ := Aside0.mk (hk41 HI242 HO_15 hk)
                have n1_ := Aside0.mk (show IsS41 w _ g232 t256 t257 t258 t259 from kb41 HI232 hk NS232_242.out)
                have n2_ := Aside0.mk (show IsS41 w _ g237 t263 t264 t265 t266 from kb41 HI237 hk NS237_242.out)
                have n3_ := Aside0.mk (hb)
                have n4_ := Aside0.mk (hi)
                clear HO_15; clear HI232; clear HI237; clear HB; clear HI242; have HO_15 := n0_; have HI232 := n1_; have HI237 := n2_; have HB := n3_; have HI242 := n4_; clear n0_ n1_ n2_ n3_ n4_; (try clear hb); (try clear hb2); (try clear hk); (try clear hi)
                refine hK.out _ _ ⟨HS0_, HS1_, HS2_⟩ (fun hHeld => ?_)
                clear hK K
                refine zn ?_
                refine done_ (done_of HT_.out (by kernel_rfl)) ?_
                try go_wp2
                have n0_ := Aside0.mk (Kd.R_drew HO_15.out)
                have n1_ := Aside0.mk (IsS41.drew HI232.out)
                have n2_ := Aside0.mk (IsS41.drew HI237.out)
                have n3_ := Aside0.mk (IsS41.drew HI242.out)
                have n4_ := Aside0.mk (below_drew1 HB.out)
                clear HO_15; clear HI232; clear HI237; clear HI242; clear HB; have HO_15 := n0_; have HI232 := n1_; have HI237 := n2_; have HI242 := n3_; have HB := n4_; clear n0_ n1_ n2_ n3_ n4_
                refine start_ (n := 35) (S := fun w' => True) (ds := []) (nz 35 0) (by kernel_rfl) rfl (by kernel_rfl) trivial (fun hHeld => ?_); refine with_tabW tabulariumlaw21_SafeOrder.tab17 tabulariumlaw21_SafeOrder.bits17 (fun HT_ HW_ => ?_)
                generalize w144.drew = w145 at HO_15 HI232 HI237 HI242 HB hHeld ⊢
                refine zp HT_ 0 92 1 ?_
                refine zp HT_ 1 93 3 ?_
                refine zq HT_ 2 94 7 ?_
                refine zq HT_ 3 95 15 ?_
                refine zq HT_ 4 96 31 ?_
                refine zq HT_ 5 97 63 ?_
                refine zq HT_ 6 98 127 ?_
                refine zq HT_ 7 99 255 ?_
                refine zq HT_ 8 100 511 ?_
                refine zq HT_ 9 101 1023 ?_
                refine zq HT_ 10 102 2047 ?_
                refine zq HT_ 11 103 4095 ?_
                refine zq HT_ 12 104 8191 ?_
                refine zp HT_ 13 105 16383 ?_
                refine zp HT_ 14 106 32767 ?_
                refine zq HT_ 15 107 65535 ?_
                refine zq HT_ 16 108 131071 ?_
                refine zq HT_ 17 109 262143 ?_
                refine zq HT_ 18 110 524287 ?_
                refine zq HT_ 19 111 1048575 ?_
                refine zp HT_ 20 112 2097151 ?_
                refine zp HT_ 21 113 4194303 ?_
                refine zq HT_ 22 114 8388607 ?_
                refine zq HT_ 23 115 16777215 ?_
                refine zq HT_ 24 116 33554431 ?_
                refine zp HT_ 25 117 67108863 ?_
                refine zp HT_ 26 118 134217727 ?_
                refine zq HT_ 27 119 268435455 ?_
                refine zq HT_ 28 120 536870911 ?_
                refine zq HT_ 29 121 1073741823 ?_
                refine zq HT_ 30 122 2147483647 ?_
                refine zq HT_ 31 123 4294967295 ?_
                refine zq HT_ 32 124 8589934591 ?_
                refine zp HT_ 33 125 17179869183 ?_
                refine zp HT_ 34 10 34359738367 ?_
                refine done_ (done_of HT_.out (by kernel_rfl)) ?_
                try go_wp2
                go_ret
                exact ⟨by first | rfl | (simp [errW_none, errW_some] <;> rfl) | (simp [*, errW_none, errW_some] <;> rfl), by repeat (first | (with_reducible first | exact HB.out | apply below_alloc | apply pw_below_drewN | apply below_drew1 | refine below_set ?_ (IsS41.ge HI232.out) | refine below_set ?_ (IsS41.ge HI237.out) | refine below_set ?_ (IsS41.ge HI242.out)) | exact HB.out)⟩
            · rw [if_neg c37] at H
              exact absurd H (by simp)
          · rw [if_neg c34] at H
            exact absurd H (by simp)
        · rw [if_neg c33] at H
          exact absurd H (by simp)

/-- THE ONE PURE STATEMENT of tabulariumlaw21_SafeOrder: yours. -/
def tabulariumlaw21_SafeOrder.Pure : Prop := ∀ (a0 : Nat) (a1 : Nat) (a2 : Int) (a3 : Int) (a4 : Int), (Lit.float .f64 a0).wf = true → (Lit.float .f64 a1).wf = true → (Lit.int .i64 a2).wf = true → (Lit.int .i64 a3).wf = true → (Lit.int .i64 a4).wf = true → ∃ k, tabulariumlaw21_SafeOrder.f k a0 a1 a2 a3 a4 = some true
theorem tabulariumlaw21_SafeOrder.walk (P : tabulariumlaw21_SafeOrder.Pure) (a0 : Nat) (a1 : Nat) (a2 : Int) (a3 : Int) (a4 : Int) (w : World) (w0 : (Lit.float .f64 a0).wf = true) (w1 : (Lit.float .f64 a1).wf = true) (w2 : (Lit.int .i64 a2).wf = true) (w3 : (Lit.int .i64 a3).wf = true) (w4 : (Lit.int .i64 a4).wf = true) :
    Calls Try.prog 5 #[.float .f64 a0, .float .f64 a1, .int .i64 a2, .int .i64 a3, .int .i64 a4] w fun e w' => e = .returned (.bool true) ∧ Below w.heap.size w w' := by
  obtain ⟨k, h⟩ := P a0 a1 a2 a3 a4 w0 w1 w2 w3 w4
  refine (tabulariumlaw21_SafeOrder.calls k a0 a1 a2 a3 a4 true w h).mono ?_
  rintro e w' ⟨rfl, hd⟩
  exact ⟨rfl, hd⟩

end Go.Proofs.Ytabgoiacjfekpaa.P
