/- The Go functions of this seat as plain Lean functions, and for each the proof that its call gives what the plain function gives. Printed by a program of this session. -/
import Derived.Test.YtjjmbcnalcjnmaaPx0
import Derived.Test.YtjjmbcnalcjnmaaPx3
import Derived.Test.YtjjmbcnalcjnmaaPx17
import Derived.Test.YtjjmbcnalcjnmaaPx18
import Derived.Test.YtjjmbcnalcjnmaaPx19
import Derived.Test.YtjjmbcnalcjnmaaPx20
import Derived.Test.YtjjmbcnalcjnmaaPx21
namespace Go.Proofs.Ytjjmbcnalcjnmaa.P
open Go.RowKit Go.Proofs.YtjjmbcnalcjnmaaW.PrintWords Go.Proofs.YtjjmbcnalcjnmaaW.PrintLast Go.Proofs.YtjjmbcnalcjnmaaW.PrintMore
attribute [local go_sem] max2_int min2_int max_two min_two max_three min_three max_four min_four   -- for this text's walks alone
set_option linter.unusedVariables false
set_option linter.unusedSimpArgs false

/-! ### tabulariumlaw01_WireLists: function 9 -/
mutual
def tabulariumlaw01_WireLists.l0 : Nat → ByteArray → Bool → ByteArray → Int → ByteArray → Bool → List ByteArray → Bool → Int → Option (Bool)
  | 0, _, _, _, _, _, _, _, _, _ => none
  | k + 1, x1, x5, x6, x7, x8, x9, x10, x11, x12 => if x12 < 2 then ((wire_Split.f k x1).bind fun bt220 => ((tabulariumlaw01_texts.f k bt220.1 x10).bind fun t224 => (if t224 = true then (if (x11 != (bt220.2 == 0)) = true then (tabulariumlaw01_WireLists.j1 k x1 x5 x6 x7 x8 x9 x10 x11 x12 bt220.1 true) else (if x11 = true then (tabulariumlaw01_WireLists.j1 k x1 x5 x6 x7 x8 x9 x10 x11 x12 bt220.1 false) else (tabulariumlaw01_WireLists.j1 k x1 x5 x6 x7 x8 x9 x10 x11 x12 bt220.1 (bt220.2 != 2)))) else (tabulariumlaw01_WireLists.j1 k x1 x5 x6 x7 x8 x9 x10 x11 x12 bt220.1 true)))) else (if x5 = true then (if x6.toList = x8.toList then (if x9 = true then (if x7 = 0 then (some true) else (some false)) else (some (x7 == 4))) else (some false)) else (some false))
def tabulariumlaw01_WireLists.j1 : Nat → ByteArray → Bool → ByteArray → Int → ByteArray → Bool → List ByteArray → Bool → Int → List ByteArray → Bool → Option (Bool)
  | 0, _, _, _, _, _, _, _, _, _, _, _ => none
  | k + 1, x1, x5, x6, x7, x8, x9, x10, x11, x12, x13, x60 => if x60 = true then (some false) else (tabulariumlaw01_WireLists.l1 k x1 x5 x6 x7 x8 x9 x10 x11 x12 x13 0)
def tabulariumlaw01_WireLists.l1 : Nat → ByteArray → Bool → ByteArray → Int → ByteArray → Bool → List ByteArray → Bool → Int → List ByteArray → Int → Option (Bool)
  | 0, _, _, _, _, _, _, _, _, _, _, _ => none
  | k + 1, x1, x5, x6, x7, x8, x9, x10, x11, x12, x13, x16 => if x16 < (x13.length : Int) then (if 0 ≤ x16 then (tabulariumlaw01_WireLists.l1 k x1 x5 x6 x7 x8 x9 x10 x11 x12 (x13.set (x16 : Int).toNat (⟨#[63]⟩ : ByteArray)) (wrap64 (x16 + 1))) else (none)) else (tabulariumlaw01_WireLists.l0 k x1 x5 x6 x7 x8 x9 x10 x11 (wrap64 (x12 + 1)))
end
def tabulariumlaw01_WireLists.f (k : Nat) (l0 : List ByteArray) (a1 : ByteArray) : Option (Bool) := (tabulariumlaw01_examples.f k).bind fun t211 => ((wire_Join.f k l0).bind fun bt212 => ((tabulariumref01_Join.f k l0).bind fun bt214 => ((tabulariumref01_Split.f k a1).bind fun bt216 => (tabulariumlaw01_WireLists.l0 k a1 t211 bt212.1 bt212.2 bt214.1 bt214.2 bt216.1 bt216.2 0))))
theorem tabulariumlaw01_WireLists.mono_l : ∀ k, (∀ y0 y1 y2 y3 y4 y5 y6 y7 y8, LeO (tabulariumlaw01_WireLists.l0 k y0 y1 y2 y3 y4 y5 y6 y7 y8) (tabulariumlaw01_WireLists.l0 (k + 1) y0 y1 y2 y3 y4 y5 y6 y7 y8)) ∧ (∀ y0 y1 y2 y3 y4 y5 y6 y7 y8 y9 y10, LeO (tabulariumlaw01_WireLists.j1 k y0 y1 y2 y3 y4 y5 y6 y7 y8 y9 y10) (tabulariumlaw01_WireLists.j1 (k + 1) y0 y1 y2 y3 y4 y5 y6 y7 y8 y9 y10)) ∧ (∀ y0 y1 y2 y3 y4 y5 y6 y7 y8 y9 y10, LeO (tabulariumlaw01_WireLists.l1 k y0 y1 y2 y3 y4 y5 y6 y7 y8 y9 y10) (tabulariumlaw01_WireLists.l1 (k + 1) y0 y1 y2 y3 y4 y5 y6 y7 y8 y9 y10))
  | 0 => ⟨fun _ _ _ _ _ _ _ _ _ r h => by simp [tabulariumlaw01_WireLists.l0] at h, fun _ _ _ _ _ _ _ _ _ _ _ r h => by simp [tabulariumlaw01_WireLists.j1] at h, fun _ _ _ _ _ _ _ _ _ _ _ r h => by simp [tabulariumlaw01_WireLists.l1] at h⟩
  | k + 1 => by
    obtain ⟨ih0, ih1, ih2⟩ := tabulariumlaw01_WireLists.mono_l k
    refine ⟨?_, ?_, ?_⟩
    · intro y0 y1 y2 y3 y4 y5 y6 y7 y8
      unfold tabulariumlaw01_WireLists.l0
      repeat' first
      | (with_reducible exact ih0 _ _ _ _ _ _ _ _ _)
      | (with_reducible exact ih1 _ _ _ _ _ _ _ _ _ _ _)
      | (with_reducible exact ih2 _ _ _ _ _ _ _ _ _ _ _)
      | (with_reducible exact tabulariumlaw01_examples.mono _)
      | (with_reducible exact tabulariumlaw01_texts.mono _ _ _)
      | (with_reducible exact tabulariumref01_Join.mono _ _)
      | (with_reducible exact tabulariumref01_Split.mono _ _)
      | (with_reducible exact wire_Join.mono _ _)
      | (with_reducible exact wire_Split.mono _ _)
      | (with_reducible exact LeO.refl _)
      | (with_reducible exact LeO.none _)
      | (with_reducible refine LeO.ite ?_ ?_)
      | (with_reducible refine LeO.bind ?_ (fun _ => ?_))
      | exact ih0 _ _ _ _ _ _ _ _ _
      | exact ih1 _ _ _ _ _ _ _ _ _ _ _
      | exact ih2 _ _ _ _ _ _ _ _ _ _ _
      | exact tabulariumlaw01_examples.mono _
      | exact tabulariumlaw01_texts.mono _ _ _
      | exact tabulariumref01_Join.mono _ _
      | exact tabulariumref01_Split.mono _ _
      | exact wire_Join.mono _ _
      | exact wire_Split.mono _ _
      | exact LeO.none _
      | refine LeO.ite ?_ ?_
      | refine LeO.bind ?_ (fun _ => ?_)
    · intro y0 y1 y2 y3 y4 y5 y6 y7 y8 y9 y10
      unfold tabulariumlaw01_WireLists.j1
      repeat' first
      | (with_reducible exact ih0 _ _ _ _ _ _ _ _ _)
      | (with_reducible exact ih1 _ _ _ _ _ _ _ _ _ _ _)
      | (with_reducible exact ih2 _ _ _ _ _ _ _ _ _ _ _)
      | (with_reducible exact tabulariumlaw01_examples.mono _)
      | (with_reducible exact tabulariumlaw01_texts.mono _ _ _)
      | (with_reducible exact tabulariumref01_Join.mono _ _)
      | (with_reducible exact tabulariumref01_Split.mono _ _)
      | (with_reducible exact wire_Join.mono _ _)
      | (with_reducible exact wire_Split.mono _ _)
      | (with_reducible exact LeO.refl _)
      | (with_reducible exact LeO.none _)
      | (with_reducible refine LeO.ite ?_ ?_)
      | (with_reducible refine LeO.bind ?_ (fun _ => ?_))
      | exact ih0 _ _ _ _ _ _ _ _ _
      | exact ih1 _ _ _ _ _ _ _ _ _ _ _
      | exact ih2 _ _ _ _ _ _ _ _ _ _ _
      | exact tabulariumlaw01_examples.mono _
      | exact tabulariumlaw01_texts.mono _ _ _
      | exact tabulariumref01_Join.mono _ _
      | exact tabulariumref01_Split.mono _ _
      | exact wire_Join.mono _ _
      | exact wire_Split.mono _ _
      | exact LeO.none _
      | refine LeO.ite ?_ ?_
      | refine LeO.bind ?_ (fun _ => ?_)
    · intro y0 y1 y2 y3 y4 y5 y6 y7 y8 y9 y10
      unfold tabulariumlaw01_WireLists.l1
      repeat' first
      | (with_reducible exact ih0 _ _ _ _ _ _ _ _ _)
      | (with_reducible exact ih1 _ _ _ _ _ _ _ _ _ _ _)
      | (with_reducible exact ih2 _ _ _ _ _ _ _ _ _ _ _)
      | (with_reducible exact tabulariumlaw01_examples.mono _)
      | (with_reducible exact tabulariumlaw01_texts.mono _ _ _)
      | (with_reducible exact tabulariumref01_Join.mono _ _)
      | (with_reducible exact tabulariumref01_Split.mono _ _)
      | (with_reducible exact wire_Join.mono _ _)
      | (with_reducible exact wire_Split.mono _ _)
      | (with_reducible exact LeO.refl _)
      | (with_reducible exact LeO.none _)
      | (with_reducible refine LeO.ite ?_ ?_)
      | (with_reducible refine LeO.bind ?_ (fun _ => ?_))
      | exact ih0 _ _ _ _ _ _ _ _ _
      | exact ih1 _ _ _ _ _ _ _ _ _ _ _
      | exact ih2 _ _ _ _ _ _ _ _ _ _ _
      | exact tabulariumlaw01_examples.mono _
      | exact tabulariumlaw01_texts.mono _ _ _
      | exact tabulariumref01_Join.mono _ _
      | exact tabulariumref01_Split.mono _ _
      | exact wire_Join.mono _ _
      | exact wire_Split.mono _ _
      | exact LeO.none _
      | refine LeO.ite ?_ ?_
      | refine LeO.bind ?_ (fun _ => ?_)
theorem tabulariumlaw01_WireLists.mono : ∀ a0 a1 k, LeO (tabulariumlaw01_WireLists.f k a0 a1) (tabulariumlaw01_WireLists.f (k + 1) a0 a1) := by
  intro a0 a1 k
  obtain ⟨ih0, ih1, ih2⟩ := tabulariumlaw01_WireLists.mono_l k
  unfold tabulariumlaw01_WireLists.f
  repeat' first
      | (with_reducible exact ih0 _ _ _ _ _ _ _ _ _)
      | (with_reducible exact ih1 _ _ _ _ _ _ _ _ _ _ _)
      | (with_reducible exact ih2 _ _ _ _ _ _ _ _ _ _ _)
      | (with_reducible exact tabulariumlaw01_examples.mono _)
      | (with_reducible exact tabulariumlaw01_texts.mono _ _ _)
      | (with_reducible exact tabulariumref01_Join.mono _ _)
      | (with_reducible exact tabulariumref01_Split.mono _ _)
      | (with_reducible exact wire_Join.mono _ _)
      | (with_reducible exact wire_Split.mono _ _)
      | (with_reducible exact LeO.refl _)
      | (with_reducible exact LeO.none _)
      | (with_reducible refine LeO.ite ?_ ?_)
      | (with_reducible refine LeO.bind ?_ (fun _ => ?_))
      | exact ih0 _ _ _ _ _ _ _ _ _
      | exact ih1 _ _ _ _ _ _ _ _ _ _ _
      | exact ih2 _ _ _ _ _ _ _ _ _ _ _
      | exact tabulariumlaw01_examples.mono _
      | exact tabulariumlaw01_texts.mono _ _ _
      | exact tabulariumref01_Join.mono _ _
      | exact tabulariumref01_Split.mono _ _
      | exact wire_Join.mono _ _
      | exact wire_Split.mono _ _
      | exact LeO.none _
      | refine LeO.ite ?_ ?_
      | refine LeO.bind ?_ (fun _ => ?_)
set_option maxHeartbeats 8000000 in
set_option maxRecDepth 100000 in
theorem tabulariumlaw01_WireLists.calls (k : Nat) (A0 : Option Addr) (c0 : Nat) (l0 : List ByteArray) (a1 : ByteArray) (r : Bool) (w : World) (hr0 : Kd.C Kd.string w A0 l0.length l0) (hc0 : l0.length ≤ c0) (h : tabulariumlaw01_WireLists.f k l0 a1 = some r) :
    Calls Try.prog 9 #[.slice A0 l0.length c0, .string a1] w fun e w' => e = .returned (.bool r) ∧ Below w.heap.size w w' := by
  have HR0 := Aside0.mk hr0
  have HC0 := Aside0.mk hc0
  clear hr0 hc0
  have HB := Aside0.mk (Below.refl w.heap.size w)
  have H : ((tabulariumlaw01_examples.f k).bind fun t211 => ((wire_Join.f k l0).bind fun bt212 => ((tabulariumref01_Join.f k l0).bind fun bt214 => ((tabulariumref01_Split.f k a1).bind fun bt216 => (tabulariumlaw01_WireLists.l0 k a1 t211 bt212.1 bt212.2 bt214.1 bt214.2 bt216.1 bt216.2 0))))) = some r := h
  clear h
  replace H := Option.bind_eq_some_iff.mp H
  obtain ⟨t211, A30, H⟩ := H
  replace H : ((wire_Join.f k l0).bind fun bt212 => ((tabulariumref01_Join.f k l0).bind fun bt214 => ((tabulariumref01_Split.f k a1).bind fun bt216 => (tabulariumlaw01_WireLists.l0 k a1 t211 bt212.1 bt212.2 bt214.1 bt214.2 bt216.1 bt216.2 0)))) = some r := H
  have A3 := Aside0.mk A30
  clear A30
  replace H := Option.bind_eq_some_iff.mp H
  obtain ⟨⟨t212, t213⟩, A40, H⟩ := H
  replace H : ((tabulariumref01_Join.f k l0).bind fun bt214 => ((tabulariumref01_Split.f k a1).bind fun bt216 => (tabulariumlaw01_WireLists.l0 k a1 t211 t212 t213 bt214.1 bt214.2 bt216.1 bt216.2 0))) = some r := H
  have A4 := Aside0.mk A40
  clear A40
  replace H := Option.bind_eq_some_iff.mp H
  obtain ⟨⟨t214, t215⟩, A50, H⟩ := H
  replace H : ((tabulariumref01_Split.f k a1).bind fun bt216 => (tabulariumlaw01_WireLists.l0 k a1 t211 t212 t213 t214 t215 bt216.1 bt216.2 0)) = some r := H
  have A5 := Aside0.mk A50
  clear A50
  replace H := Option.bind_eq_some_iff.mp H
  obtain ⟨⟨t216, t217⟩, A60, H⟩ := H
  replace H : (tabulariumlaw01_WireLists.l0 k a1 t211 t212 t213 t214 t215 t216 t217 0) = some r := H
  have A6 := Aside0.mk A60
  clear A60
  have H' := Aside0.mk H
  clear H
  go_enter Try.func9, Try.ntmps9
  go_wp2_with (first | ((with_reducible refine gate_callee (f := 12) rfl ?_); refine goesL_ (some 17) rfl rfl Try.func12 (by kernel_rfl) rfl #[] rfl (by (try simp only [List.map_toArray, List.map_cons, List.map_nil]); first | done | rfl | (simp only [List.length_drop, List.length_take]; rfl)) ?_; (with_reducible refine (tabulariumlaw01_examples.calls k  t211 _ A3.out).mono ?_); rintro e w7 ⟨rfl, hb⟩; refine ⟨_, rfl, ?_⟩; have n0_ := Aside0.mk (below_step (by repeat (first | (with_reducible first | exact HB.out | apply below_alloc | apply pw_below_drewN | apply below_drew1) | exact HB.out)) hb); clear HB; have HB := n0_; clear n0_; (try clear hb); (try clear hb2); (try clear hk); (try clear hi)) | ((with_reducible refine gate_callee (f := 26) rfl ?_); refine goesL_ (some 20) rfl rfl Try.func26 (by kernel_rfl) rfl #[.slice A0 l0.length c0] rfl (by (try simp only [List.map_toArray, List.map_cons, List.map_nil]); first | done | rfl | (simp only [List.length_drop, List.length_take]; rfl)) ?_; (with_reducible refine (wire_Join.calls k _ _ l0 t212 t213 _ ?side1 ?side2 A4.out).mono ?_); (case side1 => repeat (first | exact (Kd.C_below HR0.out HB.out) | (with_reducible refine Kd.C_alloc ?_ _) | (with_reducible refine Kd.C_drewN ?_ _) | (with_reducible refine Kd.C_drew ?_))); (case side2 => exact HC0.out); rintro e w8 ⟨rfl, hb⟩; refine ⟨_, rfl, ?_⟩; have n0_ := Aside0.mk (below_step (by repeat (first | (with_reducible first | exact HB.out | apply below_alloc | apply pw_below_drewN | apply below_drew1) | exact HB.out)) hb); clear HB; have HB := n0_; clear n0_; (try clear hb); (try clear hb2); (try clear hk); (try clear hi)) | ((with_reducible refine gate_callee (f := 27) rfl ?_); refine goesL_ (some 25) rfl rfl Try.func27 (by kernel_rfl) rfl #[.slice A0 l0.length c0] rfl (by (try simp only [List.map_toArray, List.map_cons, List.map_nil]); first | done | rfl | (simp only [List.length_drop, List.length_take]; rfl)) ?_; (with_reducible refine (tabulariumref01_Join.calls k _ _ l0 t214 t215 _ ?side1 ?side2 A5.out).mono ?_); (case side1 => repeat (first | exact (Kd.C_below HR0.out HB.out) | (with_reducible refine Kd.C_alloc ?_ _) | (with_reducible refine Kd.C_drewN ?_ _) | (with_reducible refine Kd.C_drew ?_))); (case side2 => exact HC0.out); rintro e w9 ⟨rfl, hb⟩; refine ⟨_, rfl, ?_⟩; have n0_ := Aside0.mk (below_step (by repeat (first | (with_reducible first | exact HB.out | apply below_alloc | apply pw_below_drewN | apply below_drew1) | exact HB.out)) hb); clear HB; have HB := n0_; clear n0_; (try clear hb); (try clear hb2); (try clear hk); (try clear hi)) | ((with_reducible refine gate_callee (f := 28) rfl ?_); refine goesL_ (some 30) rfl rfl Try.func28 (by kernel_rfl) rfl #[.string a1] rfl (by (try simp only [List.map_toArray, List.map_cons, List.map_nil]); first | done | rfl | (simp only [List.length_drop, List.length_take]; rfl)) ?_; (with_reducible refine (tabulariumref01_Split.calls k a1 t216 t217 _ A6.out).mono ?_); rintro e w10 ⟨v218, rfl, ho0, hb⟩; refine ⟨_, rfl, ?_⟩; have n0_ := Aside0.mk (Kd.R_lower ho0 (below_size (by repeat (first | (with_reducible first | exact HB.out | apply below_alloc | apply pw_below_drewN | apply below_drew1) | exact HB.out)))); have n1_ := Aside0.mk (below_step (by repeat (first | (with_reducible first | exact HB.out | apply below_alloc | apply pw_below_drewN | apply below_drew1) | exact HB.out)) hb); clear HB; have HO219 := n0_; have HB := n1_; clear n0_ n1_; (try clear hb); (try clear hb2); (try clear hk); (try clear hi); (try clear ho0)))
  go_loopg [12] k (fun kq v12 w' => ∃ (x10_1 : List ByteArray) (x12_1 : Int), v12 = .int .i64 x12_1 ∧ Aside0 (tabulariumlaw01_WireLists.l0 kq a1 t211 t212 t213 t214 t215 x10_1 t217 x12_1 = some r) ∧ Aside0 (kq ≤ k) ∧ Aside0 (Kd.R Kd.string 9 w' w.heap.size (fun _ => True) v218 x10_1) ∧ Aside0 (Below w.heap.size w w'))
  case atStart => exact ⟨(t216), (0), (by first | rfl | (simp; done) | (simp [*]; done)), H', ⟨Nat.le_refl _⟩, ⟨by (with_reducible repeat (first | apply Kd.R_alloc | apply Kd.R_drewN | apply Kd.R_drew)); exact HO219.out⟩, ⟨by repeat (first | (with_reducible first | exact HB.out | apply below_alloc | apply pw_below_drewN | apply below_drew1) | exact HB.out)⟩⟩
  case round =>
    clear H'
    try clear c1
    try clear c2
    try clear p2
    try clear c9
    obtain ⟨x10_1, x12_1, rfl, HA, HK1, HO_10, HB⟩ := hrel
    cases gk with
    | zero => exact absurd HA.out (by simp [tabulariumlaw01_WireLists.l0])
    | succ k1 =>
      have H := HA.out
      clear HA
      simp only [tabulariumlaw01_WireLists.l0] at H
      by_cases c11 : x12_1 < 2
      · rw [if_pos c11] at H
        have c11b0 : decide (x12_1 < 2) = true := decide_eq_true c11
        clear c11
        replace H := Option.bind_eq_some_iff.mp H
        obtain ⟨⟨t220, t221⟩, A120, H⟩ := H
        replace H : ((tabulariumlaw01_texts.f k1 t220 x10_1).bind fun t224 => (if t224 = true then (if (t217 != (t221 == 0)) = true then (tabulariumlaw01_WireLists.j1 k1 a1 t211 t212 t213 t214 t215 x10_1 t217 x12_1 t220 true) else (if t217 = true then (tabulariumlaw01_WireLists.j1 k1 a1 t211 t212 t213 t214 t215 x10_1 t217 x12_1 t220 false) else (tabulariumlaw01_WireLists.j1 k1 a1 t211 t212 t213 t214 t215 x10_1 t217 x12_1 t220 (t221 != 2)))) else (tabulariumlaw01_WireLists.j1 k1 a1 t211 t212 t213 t214 t215 x10_1 t217 x12_1 t220 true))) = some r := H
        have A12 := Aside0.mk A120
        clear A120
        replace H := Option.bind_eq_some_iff.mp H
        obtain ⟨t224, A130, H⟩ := H
        replace H : (if t224 = true then (if (t217 != (t221 == 0)) = true then (tabulariumlaw01_WireLists.j1 k1 a1 t211 t212 t213 t214 t215 x10_1 t217 x12_1 t220 true) else (if t217 = true then (tabulariumlaw01_WireLists.j1 k1 a1 t211 t212 t213 t214 t215 x10_1 t217 x12_1 t220 false) else (tabulariumlaw01_WireLists.j1 k1 a1 t211 t212 t213 t214 t215 x10_1 t217 x12_1 t220 (t221 != 2)))) else (tabulariumlaw01_WireLists.j1 k1 a1 t211 t212 t213 t214 t215 x10_1 t217 x12_1 t220 true)) = some r := H
        have A13 := Aside0.mk A130
        clear A130
        have HC14 := Aside0.mk H
        clear H
        go_upto_region 10 with (first | ((with_reducible refine gate_callee (f := 29) rfl ?_); refine goesL_ (some 39) rfl rfl Try.func29 (by kernel_rfl) rfl #[.string a1] rfl (by (try simp only [List.map_toArray, List.map_cons, List.map_nil]); first | done | rfl | (simp only [List.length_drop, List.length_take]; rfl)) ?_; (with_reducible refine (wire_Split.calls k1 a1 t220 t221 _ A12.out).mono ?_); rintro e w15 ⟨v222, rfl, ho0, hb⟩; refine ⟨_, rfl, ?_⟩; have n0_ := Aside0.mk (Kd.R_elder' (by (with_reducible repeat (first | apply Kd.R_alloc | apply Kd.R_drewN | apply Kd.R_drew)); exact HO_10.out) (Kd.R_base ho0) hb); have n1_ := Aside0.mk (Kd.R_lower (Kd.R_new' ho0 (Kd.R_lt (by (with_reducible repeat (first | apply Kd.R_alloc | apply Kd.R_drewN | apply Kd.R_drew)); exact HO_10.out))) (below_size (by repeat (first | (with_reducible first | exact HB.out | apply below_alloc | apply pw_below_drewN | apply below_drew1) | exact HB.out)))); have n2_ := Aside0.mk (below_step (by repeat (first | (with_reducible first | exact HB.out | apply below_alloc | apply pw_below_drewN | apply below_drew1) | exact HB.out)) hb); clear HO_10; clear HB; have HO_10 := n0_; have HO223 := n1_; have HB := n2_; clear n0_ n1_ n2_; (try clear hb); (try clear hb2); (try clear hk); (try clear hi); (try clear ho0); obtain ⟨Ao16, co16, eo16⟩ := Kd.R_slice HO223.out; subst eo16; obtain ⟨Ao17, co17, eo17⟩ := Kd.R_slice HO_10.out; subst eo17) | ((with_reducible refine gate_callee (f := 30) rfl ?_); refine goesL_ (some 44) rfl rfl Try.func30 (by kernel_rfl) rfl #[.slice Ao16 t220.length co16, .slice Ao17 x10_1.length co17] rfl (by (try simp only [List.map_toArray, List.map_cons, List.map_nil]); first | done | rfl | (simp only [List.length_drop, List.length_take]; rfl)) ?_; (with_reducible refine (tabulariumlaw01_texts.calls k1 _ _ t220 _ _ x10_1 t224 _ ?side1 ?side2 ?side3 ?side4 A13.out).mono ?_); (case side1 => repeat (first | exact (Kd.R_reads' HO223.out).2.2 | (with_reducible refine Kd.C_alloc ?_ _) | (with_reducible refine Kd.C_drewN ?_ _) | (with_reducible refine Kd.C_drew ?_))); (case side2 => exact (Kd.R_reads' HO223.out).2.1); (case side3 => repeat (first | exact (Kd.R_reads' HO_10.out).2.2 | (with_reducible refine Kd.C_alloc ?_ _) | (with_reducible refine Kd.C_drewN ?_ _) | (with_reducible refine Kd.C_drew ?_))); (case side4 => exact (Kd.R_reads' HO_10.out).2.1); rintro e w' ⟨rfl, ⟨nd, rfl⟩⟩; refine ⟨_, rfl, ?_⟩))
        (try simp only [Act.put, List.setIfInBounds_toArray, List.set_cons_zero, List.set_cons_succ])
        go_cut [60] (fun v60 wc => ∃ (kq : Nat) (x60_13 : Bool), v60 = .bool x60_13 ∧ Aside0 (tabulariumlaw01_WireLists.j1 kq a1 t211 t212 t213 t214 t215 x10_1 t217 x12_1 t220 x60_13 = some r) ∧ Aside0 (kq ≤ k1) ∧ Aside0 (Kd.R Kd.string 9 wc w.heap.size (fun k_ => some k_ ≠ ((.slice Ao16 t220.length co16) : Value).ownBlock) (.slice Ao17 x10_1.length co17) x10_1) ∧ Aside0 (Kd.R Kd.string 9 wc w.heap.size (fun k_ => some k_ ≠ ((.slice Ao17 x10_1.length co17) : Value).ownBlock) (.slice Ao16 t220.length co16) t220) ∧ Aside0 (Below w.heap.size w wc))
        case first =>
          have H := HC14.out
          clear HC14
          by_cases c18 : t224 = true
          · subst c18
            have H1 : (if (t217 != (t221 == 0)) = true then (tabulariumlaw01_WireLists.j1 k1 a1 t211 t212 t213 t214 t215 x10_1 t217 x12_1 t220 true) else (if t217 = true then (tabulariumlaw01_WireLists.j1 k1 a1 t211 t212 t213 t214 t215 x10_1 t217 x12_1 t220 false) else (tabulariumlaw01_WireLists.j1 k1 a1 t211 t212 t213 t214 t215 x10_1 t217 x12_1 t220 (t221 != 2)))) = some r := by rw [if_pos rfl] at H; exact H
            clear H
            have H := H1
            clear H1
            by_cases c19 : (t217 != (t221 == 0)) = true
            · rw [if_pos c19] at H
              have c19b0 : (t217 != (t221 == 0)) = true := c19
              (try (have c19b1 : decide (t217 = (t221 == 0)) = false := by first | simpa using c19 | (revert c19; generalize t217 = x_; generalize (t221 == 0) = y_; revert x_ y_; decide)))
              (try (have c19b2 : (t217 == (t221 == 0)) = false := by first | simpa using c19 | (revert c19; generalize t217 = x_; generalize (t221 == 0) = y_; revert x_ y_; decide)))
              (try (have c19b3 : ¬ (t217 = (t221 == 0)) := by first | simpa using c19 | (revert c19; generalize t217 = x_; generalize (t221 == 0) = y_; revert x_ y_; decide)))
              clear c19
              (first | rw [c19b0] | (simp only [i64_w, i32_w]; rw [c19b0]) | skip)
              have H' := Aside0.mk H
              clear H
              go_wp2
              go_meet
              case rel => exact ⟨_, (true), (by first | rfl | (simp; done) | (simp [*]; done)), H', ⟨by have := HK1.out; first | omega | exact Nat.le_refl _⟩, ⟨by (with_reducible repeat (first | apply Kd.R_alloc | apply Kd.R_drewN | apply Kd.R_drew)); exact Kd.R_mono HO_10.out (fun _ hk => hk.2)⟩, ⟨by (with_reducible repeat (first | apply Kd.R_alloc | apply Kd.R_drewN | apply Kd.R_drew)); exact Kd.R_mono HO223.out (fun _ hk => hk.2)⟩, ⟨by repeat (first | (with_reducible first | exact HB.out | apply below_alloc | apply pw_below_drewN | apply below_drew1) | exact HB.out)⟩⟩
            · rw [if_neg c19] at H
              have c19b0 : (t217 != (t221 == 0)) = false := by simpa using c19
              (try (have c19b1 : decide (t217 = (t221 == 0)) = true := by first | simpa using c19 | (revert c19; generalize t217 = x_; generalize (t221 == 0) = y_; revert x_ y_; decide)))
              (try (have c19b2 : (t217 == (t221 == 0)) = true := by first | simpa using c19 | (revert c19; generalize t217 = x_; generalize (t221 == 0) = y_; revert x_ y_; decide)))
              clear c19
              (first | rw [c19b0] | (simp only [i64_w, i32_w]; rw [c19b0]) | skip)
              by_cases c20 : t217 = true
              · subst c20
                have H1 : (tabulariumlaw01_WireLists.j1 k1 a1 t211 t212 t213 t214 t215 x10_1 true x12_1 t220 false) = some r := by rw [if_pos rfl] at H; exact H
                clear H
                have H := H1
                clear H1
                have H' := Aside0.mk H
                clear H
                go_wp2
                go_meet
                case rel => exact ⟨_, (false), (by first | rfl | (simp; done) | (simp [*]; done)), H', ⟨by have := HK1.out; first | omega | exact Nat.le_refl _⟩, ⟨by (with_reducible repeat (first | apply Kd.R_alloc | apply Kd.R_drewN | apply Kd.R_drew)); exact Kd.R_mono HO_10.out (fun _ hk => hk.2)⟩, ⟨by (with_reducible repeat (first | apply Kd.R_alloc | apply Kd.R_drewN | apply Kd.R_drew)); exact Kd.R_mono HO223.out (fun _ hk => hk.2)⟩, ⟨by repeat (first | (with_reducible first | exact HB.out | apply below_alloc | apply pw_below_drewN | apply below_drew1) | exact HB.out)⟩⟩
              · replace c20 := Bool.eq_false_iff.mpr c20
                subst c20
                have H1 : (tabulariumlaw01_WireLists.j1 k1 a1 t211 t212 t213 t214 t215 x10_1 false x12_1 t220 (t221 != 2)) = some r := by rw [if_neg (show ¬ (false = true) by decide)] at H; exact H
                clear H
                have H := H1
                clear H1
                have H' := Aside0.mk H
                clear H
                go_wp2
                go_meet
                case rel => exact ⟨_, ((t221 != 2)), (by first | rfl | (simp; done) | (simp [*]; done)), H', ⟨by have := HK1.out; first | omega | exact Nat.le_refl _⟩, ⟨by (with_reducible repeat (first | apply Kd.R_alloc | apply Kd.R_drewN | apply Kd.R_drew)); exact Kd.R_mono HO_10.out (fun _ hk => hk.2)⟩, ⟨by (with_reducible repeat (first | apply Kd.R_alloc | apply Kd.R_drewN | apply Kd.R_drew)); exact Kd.R_mono HO223.out (fun _ hk => hk.2)⟩, ⟨by repeat (first | (with_reducible first | exact HB.out | apply below_alloc | apply pw_below_drewN | apply below_drew1) | exact HB.out)⟩⟩
          · replace c18 := Bool.eq_false_iff.mpr c18
            subst c18
            have H1 : (tabulariumlaw01_WireLists.j1 k1 a1 t211 t212 t213 t214 t215 x10_1 t217 x12_1 t220 true) = some r := by rw [if_neg (show ¬ (false = true) by decide)] at H; exact H
            clear H
            have H := H1
            clear H1
            have H' := Aside0.mk H
            clear H
            go_wp2
            go_meet
            case rel => exact ⟨_, (true), (by first | rfl | (simp; done) | (simp [*]; done)), H', ⟨by have := HK1.out; first | omega | exact Nat.le_refl _⟩, ⟨by (with_reducible repeat (first | apply Kd.R_alloc | apply Kd.R_drewN | apply Kd.R_drew)); exact Kd.R_mono HO_10.out (fun _ hk => hk.2)⟩, ⟨by (with_reducible repeat (first | apply Kd.R_alloc | apply Kd.R_drewN | apply Kd.R_drew)); exact Kd.R_mono HO223.out (fun _ hk => hk.2)⟩, ⟨by repeat (first | (with_reducible first | exact HB.out | apply below_alloc | apply pw_below_drewN | apply below_drew1) | exact HB.out)⟩⟩
        case rest =>
          clear HC14
          try clear c1
          try clear c2
          try clear p2
          try clear c3
          try clear c9
          try clear c11
          try clear c11b0
          try clear c12
          try clear c18
          try clear c19
          try clear c19b0
          try clear c19b1
          try clear c19b2
          try clear c20
          try clear p2
          obtain ⟨kq, x60_13, rfl, HA, HJ13, HO_10, HO_13, HB⟩ := hcut
          cases kq with
          | zero => exact absurd HA.out (by simp [tabulariumlaw01_WireLists.j1])
          | succ kj13 =>
            have H := HA.out
            clear HA
            simp only [tabulariumlaw01_WireLists.j1] at H
            by_cases c21 : x60_13 = true
            · subst c21
              have H1 : (some false) = some r := by rw [if_pos rfl] at H; exact H
              clear H
              have H := H1
              clear H1
              obtain rfl := Option.some.inj H
              go_wp2
              go_ret
              exact ⟨by first | rfl | (simp [errW_none, errW_some] <;> rfl) | (simp [*, errW_none, errW_some] <;> rfl), by repeat (first | (with_reducible first | exact HB.out | apply below_alloc | apply pw_below_drewN | apply below_drew1) | exact HB.out)⟩
            · replace c21 := Bool.eq_false_iff.mpr c21
              subst c21
              have H1 : (tabulariumlaw01_WireLists.l1 kj13 a1 t211 t212 t213 t214 t215 x10_1 t217 x12_1 t220 0) = some r := by rw [if_neg (show ¬ (false = true) by decide)] at H; exact H
              clear H
              have H := H1
              clear H1
              have H' := Aside0.mk H
              clear H
              go_wp2
              go_loopg [16] kj13 (fun kq v16 w' => ∃ (x13_3 : List ByteArray) (x16_3 : Int), v16 = .int .i64 x16_3 ∧ Aside0 (tabulariumlaw01_WireLists.l1 kq a1 t211 t212 t213 t214 t215 x10_1 t217 x12_1 x13_3 x16_3 = some r) ∧ Aside0 (kq ≤ kj13) ∧ Aside0 (Kd.R Kd.string 9 w' w.heap.size (fun k_ => some k_ ≠ ((.slice Ao16 t220.length co16) : Value).ownBlock) (.slice Ao17 x10_1.length co17) x10_1) ∧ Aside0 (Kd.R Kd.string 9 w' w.heap.size (fun k_ => some k_ ≠ ((.slice Ao17 x10_1.length co17) : Value).ownBlock) (.slice Ao16 t220.length co16) x13_3) ∧ Aside0 (Below w.heap.size w w'))
              case atStart => exact ⟨(t220), (0), (by first | rfl | (simp; done) | (simp [*]; done)), H', ⟨Nat.le_refl _⟩, ⟨by (with_reducible repeat (first | apply Kd.R_alloc | apply Kd.R_drewN | apply Kd.R_drew)); exact HO_10.out⟩, ⟨by (with_reducible repeat (first | apply Kd.R_alloc | apply Kd.R_drewN | apply Kd.R_drew)); exact HO_13.out⟩, ⟨by repeat (first | (with_reducible first | exact HB.out | apply below_alloc | apply pw_below_drewN | apply below_drew1) | exact HB.out)⟩⟩
              case round =>
                clear H'
                try clear c1
                try clear c2
                try clear p2
                try clear c3
                try clear c9
                try clear c11
                try clear c11b0
                try clear c12
                try clear c18
                try clear c19
                try clear c19b0
                try clear c19b1
                try clear c19b2
                try clear c20
                try clear c21
                try clear p2
                obtain ⟨x13_3, x16_3, rfl, HA, HK3, HO_10, HO_13, HB⟩ := hrel
                have hl13_3 := (Kd.R_reads' HO_13.out).1
                rw [hl13_3] at HO_13
                (try simp only [hl13_3])
                (try simp only [hl13_3] at HO_10)
                cases gk with
                | zero => exact absurd HA.out (by simp [tabulariumlaw01_WireLists.l1])
                | succ k3 =>
                  have H := HA.out
                  clear HA
                  simp only [tabulariumlaw01_WireLists.l1] at H
                  by_cases c22 : x16_3 < (x13_3.length : Int)
                  · rw [if_pos c22] at H
                    have c22b0 : decide (x16_3 < (x13_3.length : Int)) = true := decide_eq_true c22
                    clear c22
                    by_cases c23 : 0 ≤ x16_3
                    · rw [if_pos c23] at H
                      have c23b0 : decide (0 ≤ x16_3) = true := decide_eq_true c23
                      clear c23
                      obtain ⟨y225, hy225⟩ : ∃ y_ : List ByteArray, y_ = (x13_3.set (x16_3 : Int).toNat (⟨#[63]⟩ : ByteArray)) := ⟨_, rfl⟩
                      replace H : (tabulariumlaw01_WireLists.l1 k3 a1 t211 t212 t213 t214 t215 x10_1 t217 x12_1 y225 (wrap64 (x16_3 + 1))) = some r := by first | (rw [hy225]; with_reducible exact H) | (have H2_ := (Option.bind_some _ _).symm.trans H; rw [hy225]; with_reducible exact H2_) | (have H2_ := (Option.bind_some _ _).symm.trans H; with_reducible exact H2_) | with_reducible exact H | (rw [hy225]; exact H) | exact H
                      have Ny225 := Aside0.mk hy225
                      clear hy225
                      have H' := Aside0.mk H
                      clear H
                      have p24 : 0 ≤ (x16_3 : Int) := of_decide_eq_true (by first | (with_reducible assumption) | assumption)
                      have q24 : (x16_3 : Int) < ((x13_3.length : Int) : Int) := of_decide_eq_true (by first | (with_reducible assumption) | assumption)
                      obtain ⟨go24, co24, eo24, gb24, gl24, cl24, HG24⟩ := Kd.R_form HO_13.out (by omega)
                      (first | cases eo24 | (injection eo24 with ea_ en_ ec_; (first | subst ea_ | (injection ea_ with ea_; subst ea_)); subst ec_; clear en_))
                      have GB24 := Aside0.mk gb24
                      have GG24 := Aside0.mk HG24
                      clear gb24 gl24 HG24
                      obtain ⟨hx24_0, hf24_0⟩ := Kd.R_celln (⟨#[]⟩ : ByteArray) HO_13.out (x16_3 : Int) p24 q24
                      replace p24 := eq_true p24
                      replace q24 := eq_true q24
                      have HP25 := Kd.R_putg HO_13.out (x16_3 : Int) (⟨#[63]⟩ : ByteArray)
                      go_wp2_with (first | ((with_reducible refine gate_store (t := 9) (p := 69) rfl ?_); refine store_event (t := 9) (p := 69) (v := ?vo_w26) (w1 := (wr.setCell ⟨go24, (x16_3 : Int).toNat, none⟩ (.string (⟨#[63]⟩ : ByteArray)))) ?hg ?ho ?hn ?hr ?_; (case ho => rfl); (case hg => rfl); (case hn => rfl); (case hr => first | (go_simp; done) | (go_simp; rfl)); intro w26 hw; have hg : wr.grownBy w26 (some go24) := (by rw [hw]; exact HP25.2); have hp_ : Kd.R Kd.string 9 w26 w.heap.size (fun k_ => some k_ ≠ (.slice Ao17 x10_1.length co17 : Value).ownBlock) (.slice (some ⟨go24, 0, none⟩) x13_3.length co16) y225 := (by rw [hw, Ny225.out]; exact HP25.1); clear HP25; have n0_ := Aside0.mk (Kd.R_after (v := (.slice (some ⟨go24, 0, none⟩) x13_3.length co16)) (v1 := (.slice (some ⟨go24, 0, none⟩) x13_3.length co16)) (ok := (fun _ => True)) (by (with_reducible repeat (first | apply Kd.R_alloc | apply Kd.R_drewN | apply Kd.R_drew)); exact Kd.R_mono HO_10.out (fun _ hk => ⟨trivial, hk⟩)) hg (.inl rfl)); have n1_ := Aside0.mk (hp_); have n2_ := Aside0.mk ((by rw [hw]; exact below_set (HB.out) GB24.out : Below w.heap.size w w26)); clear HO_10; clear HO_13; clear HB; have HO_10 := n0_; have HO_13 := n1_; have HB := n2_; clear n0_ n1_ n2_; clear hg hw hp_))
                      (try simp only [← hl13_3])
                      go_roundg k3
                      case measure => have := HK1.out; have := HJ13.out; have := HK3.out; omega
                      case rel => exact ⟨(y225), (wrap64 (x16_3 + 1)), (by first | rfl | (simp; done) | (simp [*]; done)), H', ⟨by have := HK1.out; have := HJ13.out; have := HK3.out; omega⟩, ⟨by (try simp only [hl13_3]); (with_reducible repeat (first | apply Kd.R_alloc | apply Kd.R_drewN | apply Kd.R_drew)); exact Kd.R_mono HO_10.out (fun _ hk => hk.2)⟩, ⟨by (try simp only [hl13_3]); (with_reducible repeat (first | apply Kd.R_alloc | apply Kd.R_drewN | apply Kd.R_drew)); exact HO_13.out⟩, ⟨by repeat (first | (with_reducible first | exact HB.out | apply below_alloc | apply pw_below_drewN | apply below_drew1) | exact HB.out)⟩⟩
                    · rw [if_neg c23] at H
                      exact absurd H (by simp)
                  · rw [if_neg c22] at H
                    have c22b0 : decide (x16_3 < (x13_3.length : Int)) = false := decide_eq_false c22
                    clear c22
                    have H' := Aside0.mk H
                    clear H
                    go_wp2
                    (try simp only [← hl13_3])
                    go_roundg k3
                    case measure => have := HK1.out; have := HJ13.out; have := HK3.out; omega
                    case rel => exact ⟨(x10_1), (wrap64 (x12_1 + 1)), (by first | rfl | (simp; done) | (simp [*]; done)), H', ⟨by have := HK1.out; have := HJ13.out; have := HK3.out; omega⟩, ⟨by (try simp only [hl13_3]); (with_reducible repeat (first | apply Kd.R_alloc | apply Kd.R_drewN | apply Kd.R_drew)); exact Kd.R_mono HO_10.out (fun _ hk => trivial)⟩, ⟨by repeat (first | (with_reducible first | exact HB.out | apply below_alloc | apply pw_below_drewN | apply below_drew1) | exact HB.out)⟩⟩
      · rw [if_neg c11] at H
        have c11b0 : decide (x12_1 < 2) = false := decide_eq_false c11
        clear c11
        by_cases c27 : t211 = true
        · subst c27
          have H1 : (if t212.toList = t214.toList then (if t215 = true then (if t213 = 0 then (some true) else (some false)) else (some (t213 == 4))) else (some false)) = some r := by rw [if_pos rfl] at H; exact H
          clear H
          have H := H1
          clear H1
          by_cases c28 : t212.toList = t214.toList
          · rw [if_pos c28] at H
            have c28b0 : (t212.toList == t214.toList) = true := beq_iff_eq.mpr c28
            have c28b1 : (t212.toList != t214.toList) = false := bne_eq_false_iff_eq.mpr c28
            clear c28
            by_cases c29 : t215 = true
            · subst c29
              have H1 : (if t213 = 0 then (some true) else (some false)) = some r := by rw [if_pos rfl] at H; exact H
              clear H
              have H := H1
              clear H1
              by_cases c30 : t213 = 0
              · rw [if_pos c30] at H
                have c30b0 : (t213 == 0) = true := beq_iff_eq.mpr c30
                have c30b1 : (t213 != 0) = false := bne_eq_false_iff_eq.mpr c30
                clear c30
                obtain rfl := Option.some.inj H
                go_wp2
                go_ret
                exact ⟨by first | rfl | (simp [errW_none, errW_some] <;> rfl) | (simp [*, errW_none, errW_some] <;> rfl), by repeat (first | (with_reducible first | exact HB.out | apply below_alloc | apply pw_below_drewN | apply below_drew1) | exact HB.out)⟩
              · rw [if_neg c30] at H
                have c30b0 : (t213 == 0) = false := beq_eq_false_iff_ne.mpr c30
                have c30b1 : (t213 != 0) = true := bne_iff_ne.mpr c30
                obtain rfl := Option.some.inj H
                go_wp2
                go_ret
                exact ⟨by first | rfl | (simp [errW_none, errW_some] <;> rfl) | (simp [*, errW_none, errW_some] <;> rfl), by repeat (first | (with_reducible first | exact HB.out | apply below_alloc | apply pw_below_drewN | apply below_drew1) | exact HB.out)⟩
            · replace c29 := Bool.eq_false_iff.mpr c29
              subst c29
              have H1 : (some (t213 == 4)) = some r := by rw [if_neg (show ¬ (false = true) by decide)] at H; exact H
              clear H
              have H := H1
              clear H1
              obtain rfl := Option.some.inj H
              go_wp2
              go_ret
              exact ⟨by first | rfl | (simp [errW_none, errW_some] <;> rfl) | (simp [*, errW_none, errW_some] <;> rfl), by repeat (first | (with_reducible first | exact HB.out | apply below_alloc | apply pw_below_drewN | apply below_drew1) | exact HB.out)⟩
          · rw [if_neg c28] at H
            have c28b0 : (t212.toList == t214.toList) = false := beq_eq_false_iff_ne.mpr c28
            have c28b1 : (t212.toList != t214.toList) = true := bne_iff_ne.mpr c28
            obtain rfl := Option.some.inj H
            go_wp2
            go_ret
            exact ⟨by first | rfl | (simp [errW_none, errW_some] <;> rfl) | (simp [*, errW_none, errW_some] <;> rfl), by repeat (first | (with_reducible first | exact HB.out | apply below_alloc | apply pw_below_drewN | apply below_drew1) | exact HB.out)⟩
        · replace c27 := Bool.eq_false_iff.mpr c27
          subst c27
          have H1 : (some false) = some r := by rw [if_neg (show ¬ (false = true) by decide)] at H; exact H
          clear H
          have H := H1
          clear H1
          obtain rfl := Option.some.inj H
          go_wp2
          go_ret
          exact ⟨by first | rfl | (simp [errW_none, errW_some] <;> rfl) | (simp [*, errW_none, errW_some] <;> rfl), by repeat (first | (with_reducible first | exact HB.out | apply below_alloc | apply pw_below_drewN | apply below_drew1) | exact HB.out)⟩

/-- THE ONE PURE STATEMENT of tabulariumlaw01_WireLists. -/
def tabulariumlaw01_WireLists.Pure : Prop := ∀ (l0 : List ByteArray) (a1 : ByteArray), (l0.length ≤ maxLen) → (l0.length * 16 ≤ 140737488351232) → (∀ y2_ ∈ l0, (y2_.size ≤ 140737488351232)) → (a1.size ≤ 140737488351232) → ∃ k, tabulariumlaw01_WireLists.f k l0 a1 = some true
theorem tabulariumlaw01_WireLists.walk (P : tabulariumlaw01_WireLists.Pure) (A0 : Option Addr) (c0 : Nat) (l0 : List ByteArray) (a1 : ByteArray) (w : World) (hr0 : Kd.C Kd.string w A0 l0.length l0) (hc0 : l0.length ≤ c0) (g0 : l0.length ≤ maxLen) (g1 : l0.length * 16 ≤ 140737488351232) (g2 : ∀ y2_ ∈ l0, (y2_.size ≤ 140737488351232)) (g3 : a1.size ≤ 140737488351232) :
    Calls Try.prog 9 #[.slice A0 l0.length c0, .string a1] w fun e w' => e = .returned (.bool true) ∧ Below w.heap.size w w' := by
  obtain ⟨k, h⟩ := P l0 a1 g0 g1 g2 g3
  refine (tabulariumlaw01_WireLists.calls k A0 c0 l0 a1 true w hr0 hc0 h).mono ?_
  rintro e w' ⟨rfl, hd⟩
  exact ⟨rfl, hd⟩

end Go.Proofs.Ytjjmbcnalcjnmaa.P
