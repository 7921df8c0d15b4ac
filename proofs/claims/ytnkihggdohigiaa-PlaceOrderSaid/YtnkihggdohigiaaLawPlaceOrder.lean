/- The row of the law PlaceOrder, out of its plain statement and the walk: every argument is read as data, and reads behind the call as it read before. Printed by a program of this session. -/
import Derived.Test.YtnkihggdohigiaaRows
import Derived.Test.YtnkihggdohigiaaPx21
import Derived.Test.YtnkihggdohigiaaPurePlaceOrder
import Derived.Test.YtnkihggdohigiaaRd
import Derived.WalkKit
import Derived.ProofKit
import Derived.OpenShut
import Derived.ShutString
import Derived.ChangeOld
import Derived.Below
import Derived.SizedLaws
namespace Go.Proofs.Ytnkihggdohigiaa.placeOrder
open Go.ChangeShapes Go.WideShapes Go.ChangeAt Go.RowKit Go.Proofs.Ytnkihggdohigiaa.P Go.Proofs.YtnkihggdohigiaaW.PrintWords
open Go.ChangeMaps (open_string shut_string)
set_option linter.unusedVariables false
theorem arr3 {α : Type} {cs : Array α} (h : cs.size = 3) : ∃ c0 c1 c2, cs = #[c0, c1, c2] := by
  obtain ⟨l⟩ := cs
  match l, h with
  | [c0, c1, c2], _ => exact ⟨c0, c1, c2, rfl⟩
theorem own : ownKnob Try.prog.godebug = none := by kernel_rfl
theorem laidOut : laidOutB Try.prog = true := by kernel_rfl
set_option maxRecDepth 100000 in
theorem lifted (os : Os) (started : os.Started) (H : Type) (enc : TypeId × Value → H) :
    ReturnsInHanded {} Try.checked os 5 .any (Rows.placeOrderSpec.pre6 enc Try.prog Try.f5 Rows.placeOrderRow.domain false) (Rows.placeOrderSpec.post enc Try.prog Try.f5 false true false false) := by
  refine returnsInHanded_of_change_sized (C := Try.checked) own started (by kernel_rfl) Try.func5
    (ChangeSpec.witness6 (enc := enc) (C := Try.checked) false ⟨#[], #[.agg #[.float .f64 0, .float .f64 0, .float .f64 0], .agg #[.float .f64 0, .float .f64 0, .float .f64 0], .agg #[.float .f64 0, .float .f64 0, .float .f64 0]], []⟩ 8 (by kernel_rfl) (by kernel_rfl) (by kernel_rfl) (by kernel_rfl)) ?_
  intro W base args ds gs before hval0 hW hcnd hsz0 _
  have hsz : (DataW.weightsEach Try.prog (Try.f5.params.toList ++ Rows.placeOrderSpec.plain.varTypes Try.prog) (ds ++ gs)).all (· ≤ reachBytes) = true := hsz0
  have hval : ∀ (j : Nat) t v, Try.f5.params[j]? = some t → args[j]? = some v → Value.okWide Try.prog W .any base t v := hval0
  have hW' := hW
  obtain ⟨p, q, hA0, hV, rfl, hfz, hnd⟩ := hW
  have hA : DataW.TrodAll enc Try.prog W 0 (fun _ => true) true Try.f5.params.toList args.toList ds p := hA0
  rw [Try.params5] at hA hval hsz
  obtain ⟨v0, vs0, d0, ds0, p0, q0, hargs, rfl, rfl, h0, r0⟩ := trodAll_cons hA
  obtain ⟨v1, vs1, d1, ds1, p1, q1, rfl, rfl, rfl, h1, r1⟩ := trodAll_cons r0
  obtain ⟨v2, vs2, d2, ds2, p2, q2, rfl, rfl, rfl, h2, r2⟩ := trodAll_cons r1
  obtain ⟨rfl, rfl, rfl⟩ := trodAll_nil r2
  obtain rfl : args = #[v0, v1, v2] := by cases args; simp_all
  obtain ⟨rfl, rfl⟩ := trodVars_none hV
  obtain ⟨cs0, rfl, hcs0⟩ := okWide_struct Try.underlying26 (hval 0 26 v0 rfl rfl)
  have k0 := h0
  have lt0 : ∀ x ∈ p0, x.block < W.heap.size := by obtain ⟨m, hm⟩ := k0; exact DataW.trod_lt m _ _ _ hm
  obtain ⟨m0, hm0⟩ := h0
  obtain ⟨xs0, n0, _, hx0, _, hlen0, hf0⟩ := DataW.trod_struct Try.underlying26 hm0
  have hd0 : d0 = .agg (xs0.map (·.1)) := congrArg Prod.fst hx0
  have hw0 : ∀ m ∈ DataW.weightsEach Try.prog [24, 24, 24] (xs0.map (·.1)), m ≤ 140737488351232 := by
    intro m hm
    refine (top_weights hsz (j := 0) (t := 26) rfl rfl) m ?_
    rw [hd0]
    simp only [DataW.weights, Try.underlying26]
    exact hm
  obtain ⟨a0_0, K0_0, g0_0⟩ := opens_field hlen0 (i := 0) rfl (hf0 0 _ rfl) hw0 (opens_f64 Try.underlying24)
  obtain ⟨a0_1, K0_1, g0_1⟩ := opens_field hlen0 (i := 1) rfl (hf0 1 _ rfl) hw0 (opens_f64 Try.underlying24)
  obtain ⟨a0_2, K0_2, g0_2⟩ := opens_field hlen0 (i := 2) rfl (hf0 2 _ rfl) hw0 (opens_f64 Try.underlying24)
  obtain ⟨u0_0, u0_1, u0_2, rfl⟩ := arr3 (hcs0.trans (by kernel_rfl))
  obtain rfl := take_one K0_0 (by kernel_rfl) rfl
  obtain rfl := take_one K0_1 (by kernel_rfl) rfl
  obtain rfl := take_one K0_2 (by kernel_rfl) rfl
  obtain ⟨cs1, rfl, hcs1⟩ := okWide_struct Try.underlying26 (hval 1 26 v1 rfl rfl)
  have k1 := h1
  have lt1 : ∀ x ∈ p1, x.block < W.heap.size := by obtain ⟨m, hm⟩ := k1; exact DataW.trod_lt m _ _ _ hm
  obtain ⟨m1, hm1⟩ := h1
  obtain ⟨xs1, n1, _, hx1, _, hlen1, hf1⟩ := DataW.trod_struct Try.underlying26 hm1
  have hd1 : d1 = .agg (xs1.map (·.1)) := congrArg Prod.fst hx1
  have hw1 : ∀ m ∈ DataW.weightsEach Try.prog [24, 24, 24] (xs1.map (·.1)), m ≤ 140737488351232 := by
    intro m hm
    refine (top_weights hsz (j := 1) (t := 26) rfl rfl) m ?_
    rw [hd1]
    simp only [DataW.weights, Try.underlying26]
    exact hm
  obtain ⟨a1_0, K1_0, g1_0⟩ := opens_field hlen1 (i := 0) rfl (hf1 0 _ rfl) hw1 (opens_f64 Try.underlying24)
  obtain ⟨a1_1, K1_1, g1_1⟩ := opens_field hlen1 (i := 1) rfl (hf1 1 _ rfl) hw1 (opens_f64 Try.underlying24)
  obtain ⟨a1_2, K1_2, g1_2⟩ := opens_field hlen1 (i := 2) rfl (hf1 2 _ rfl) hw1 (opens_f64 Try.underlying24)
  obtain ⟨u1_0, u1_1, u1_2, rfl⟩ := arr3 (hcs1.trans (by kernel_rfl))
  obtain rfl := take_one K1_0 (by kernel_rfl) rfl
  obtain rfl := take_one K1_1 (by kernel_rfl) rfl
  obtain rfl := take_one K1_2 (by kernel_rfl) rfl
  obtain ⟨cs2, rfl, hcs2⟩ := okWide_struct Try.underlying26 (hval 2 26 v2 rfl rfl)
  have k2 := h2
  have lt2 : ∀ x ∈ p2, x.block < W.heap.size := by obtain ⟨m, hm⟩ := k2; exact DataW.trod_lt m _ _ _ hm
  obtain ⟨m2, hm2⟩ := h2
  obtain ⟨xs2, n2, _, hx2, _, hlen2, hf2⟩ := DataW.trod_struct Try.underlying26 hm2
  have hd2 : d2 = .agg (xs2.map (·.1)) := congrArg Prod.fst hx2
  have hw2 : ∀ m ∈ DataW.weightsEach Try.prog [24, 24, 24] (xs2.map (·.1)), m ≤ 140737488351232 := by
    intro m hm
    refine (top_weights hsz (j := 2) (t := 26) rfl rfl) m ?_
    rw [hd2]
    simp only [DataW.weights, Try.underlying26]
    exact hm
  obtain ⟨a2_0, K2_0, g2_0⟩ := opens_field hlen2 (i := 0) rfl (hf2 0 _ rfl) hw2 (opens_f64 Try.underlying24)
  obtain ⟨a2_1, K2_1, g2_1⟩ := opens_field hlen2 (i := 1) rfl (hf2 1 _ rfl) hw2 (opens_f64 Try.underlying24)
  obtain ⟨a2_2, K2_2, g2_2⟩ := opens_field hlen2 (i := 2) rfl (hf2 2 _ rfl) hw2 (opens_f64 Try.underlying24)
  obtain ⟨u2_0, u2_1, u2_2, rfl⟩ := arr3 (hcs2.trans (by kernel_rfl))
  obtain rfl := take_one K2_0 (by kernel_rfl) rfl
  obtain rfl := take_one K2_1 (by kernel_rfl) rfl
  obtain rfl := take_one K2_2 (by kernel_rfl) rfl
  refine (tabulariumlaw22_PlaceOrder.walk Pure.PlaceOrder a0_0 a0_1 a0_2 a1_0 a1_1 a1_2 a2_0 a2_1 a2_2 W  g0_0 g0_1 g0_2 g1_0 g1_1 g1_2 g2_0 g2_1 g2_2).mono fun e W' ⟨he, bel⟩ => ?_
  subst he
  exact ⟨_, rfl, _, _, _, [], _, [], hW', trodAll_mk1 (shut_bool Try.underlying4 _), (trodAll_cons_mk (Below.trod laidOut (by kernel_rfl) (of_decide_eq_true (by kernel_rfl)) k0 bel lt0) (trodAll_cons_mk (Below.trod laidOut (by kernel_rfl) (of_decide_eq_true (by kernel_rfl)) k1 bel lt1) (trodAll_cons_mk (Below.trod laidOut (by kernel_rfl) (of_decide_eq_true (by kernel_rfl)) k2 bel lt2) trodAll_mk0))), rfl, bel.frame _, fun h => by cases h⟩
theorem over : Rows.placeOrderRow.holds Try.pinned (OpenSpec.ofChange Rows.placeOrderSpec) :=
  OpenClaim.holds_of_wide 5 Try.f5 rfl rfl rfl rfl rfl rfl rfl ⟨rfl, rfl, rfl, rfl, rfl⟩ rfl rfl rfl rfl rfl (by kernel_rfl) Try.func5 (by kernel_rfl)
    (of_decide_eq_true (by kernel_rfl)) (by unfold Func.isWrapper; first | (rw [if_pos (by decide +kernel)]; kernel_rfl) | (rw [if_neg (by decide +kernel)]; exact ⟨rfl, rfl⟩))
    (fun os started H enc _ => lifted os started H enc)
theorem proved : Rows.PlaceOrderSaid := over
#print axioms proved
end Go.Proofs.Ytnkihggdohigiaa.placeOrder
namespace Go.Proofs.Ytnkihggdohigiaa
/-- The row, under a short name, for the claim. -/
theorem placeOrder_holds : Rows.PlaceOrderSaid := placeOrder.proved
end Go.Proofs.Ytnkihggdohigiaa
