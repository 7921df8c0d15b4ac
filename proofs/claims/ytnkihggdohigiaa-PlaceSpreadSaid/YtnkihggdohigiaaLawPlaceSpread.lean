/- The row of the law PlaceSpread, out of its plain statement and the walk: every argument is read as data, and reads behind the call as it read before. Printed by a program of this session. -/
import Derived.Test.YtnkihggdohigiaaRows
import Derived.Test.YtnkihggdohigiaaPx22
import Derived.Test.YtnkihggdohigiaaPurePlaceSpread
import Derived.Test.YtnkihggdohigiaaRd
import Derived.WalkKit
import Derived.ProofKit
import Derived.OpenShut
import Derived.ShutString
import Derived.ChangeOld
import Derived.Below
import Derived.SizedLaws
namespace Go.Proofs.Ytnkihggdohigiaa.placeSpread
open Go.ChangeShapes Go.WideShapes Go.ChangeAt Go.RowKit Go.Proofs.Ytnkihggdohigiaa.P Go.Proofs.YtnkihggdohigiaaW.PrintWords
open Go.ChangeMaps (open_string shut_string)
set_option linter.unusedVariables false
theorem arr3 {α : Type} {cs : Array α} (h : cs.size = 3) : ∃ c0 c1 c2, cs = #[c0, c1, c2] := by
  obtain ⟨l⟩ := cs
  match l, h with
  | [c0, c1, c2], _ => exact ⟨c0, c1, c2, rfl⟩
theorem own : ownKnob Try.prog.godebug = none := by kernel_rfl
theorem laidOut : laidOutB Try.prog = true := by kernel_rfl
theorem lst26 {α : Type} {cs : List α} (h : cs.length = 3) : ∃ c0 c1 c2, cs = [c0, c1, c2] := by
  match cs, h with
  | [c0, c1, c2], _ => exact ⟨c0, c1, c2, rfl⟩
theorem opens_k26 {H : Type} {enc : TypeId × Value → H} {w : World} {base : Nat} {spare : Nat → Bool} {held : Bool} : Opens enc Try.prog w base spare held 26 k26 (fun x => ((Lit.float .f64 x.f0).wf = true) ∧ ((Lit.float .f64 x.f1).wf = true) ∧ ((Lit.float .f64 x.f2).wf = true)) := by
  intro fuel cs y h hw
  obtain ⟨xs, n, _, hx, hl, hlen, hf⟩ := DataW.trod_struct Try.underlying26 h
  subst hx
  have hw2 : ∀ m ∈ DataW.weightsEach Try.prog [24, 24, 24] (xs.map (·.1)), m ≤ 140737488351232 := by intro m hm; refine hw m ?_; simp only [DataW.weights, Try.underlying26]; exact hm
  obtain ⟨a0, K0, g0⟩ := opens_field hlen (i := 0) rfl (hf 0 _ rfl) hw2 (opens_f64 Try.underlying24)
  obtain ⟨a1, K1, g1⟩ := opens_field hlen (i := 1) rfl (hf 1 _ rfl) hw2 (opens_f64 Try.underlying24)
  obtain ⟨a2, K2, g2⟩ := opens_field hlen (i := 2) rfl (hf 2 _ rfl) hw2 (opens_f64 Try.underlying24)
  obtain ⟨u0, u1, u2, rfl⟩ := lst26 (hl.trans (by kernel_rfl))
  obtain rfl := take_one K0 (by kernel_rfl) rfl
  obtain rfl := take_one K1 (by kernel_rfl) rfl
  obtain rfl := take_one K2 (by kernel_rfl) rfl
  exact ⟨⟨a0, a1, a2⟩, k26_mk _ ⟨a0, a1, a2⟩, g0, g1, g2⟩
set_option maxRecDepth 100000 in
theorem lifted (os : Os) (started : os.Started) (H : Type) (enc : TypeId × Value → H) :
    ReturnsInHanded {} Try.checked os 6 .any (Rows.placeSpreadSpec.pre6 enc Try.prog Try.f6 Rows.placeSpreadRow.domain false) (Rows.placeSpreadSpec.post enc Try.prog Try.f6 false true false false) := by
  refine returnsInHanded_of_change_sized (C := Try.checked) own started (by kernel_rfl) Try.func6
    (ChangeSpec.witness6 (enc := enc) (C := Try.checked) false ⟨#[], #[.slice none 0 0, .agg #[.float .f64 0, .float .f64 0, .float .f64 0]], []⟩ 8 (by kernel_rfl) (by kernel_rfl) (by kernel_rfl) (by kernel_rfl)) ?_
  intro W base args ds gs before hval0 hW hcnd hsz0 _
  have hsz : (DataW.weightsEach Try.prog (Try.f6.params.toList ++ Rows.placeSpreadSpec.plain.varTypes Try.prog) (ds ++ gs)).all (· ≤ reachBytes) = true := hsz0
  have hval : ∀ (j : Nat) t v, Try.f6.params[j]? = some t → args[j]? = some v → Value.okWide Try.prog W .any base t v := hval0
  have hW' := hW
  obtain ⟨p, q, hA0, hV, rfl, hfz, hnd⟩ := hW
  have hA : DataW.TrodAll enc Try.prog W 0 (fun _ => true) true Try.f6.params.toList args.toList ds p := hA0
  rw [Try.params6] at hA hval hsz
  obtain ⟨v0, vs0, d0, ds0, p0, q0, hargs, rfl, rfl, h0, r0⟩ := trodAll_cons hA
  obtain ⟨v1, vs1, d1, ds1, p1, q1, rfl, rfl, rfl, h1, r1⟩ := trodAll_cons r0
  obtain ⟨rfl, rfl, rfl⟩ := trodAll_nil r1
  obtain rfl : args = #[v0, v1] := by cases args; simp_all
  obtain ⟨rfl, rfl⟩ := trodVars_none hV
  obtain ⟨A0, len0, cap0, rfl⟩ := okWide_slice Try.underlying22 (hval 0 22 v0 rfl rfl)
  have k0 := h0
  have lt0 : ∀ x ∈ p0, x.block < W.heap.size := by obtain ⟨m, hm⟩ := k0; exact DataW.trod_lt m _ _ _ hm
  obtain ⟨l0, e0, c0, hr0, g0⟩ := top_slice (opens_slice Try.underlying22 (by kernel_rfl) (by kernel_rfl) opens_k26) h0 (top_weights hsz (j := 0) (t := 22) rfl rfl)
  subst e0
  obtain ⟨g0_0, g0_1, g0_2⟩ := g0
  obtain ⟨cs1, rfl, hcs1⟩ := okWide_struct Try.underlying26 (hval 1 26 v1 rfl rfl)
  have k1 := h1
  have lt1 : ∀ x ∈ p1, x.block < W.heap.size := by obtain ⟨m, hm⟩ := k1; exact DataW.trod_lt m _ _ _ hm
  obtain ⟨m1, hm1⟩ := h1
  obtain ⟨xs1, n1, _, hx1, _, hlen1, hf1⟩ := DataW.trod_struct Try.underlying26 hm1
  have hd1 : d1 = .agg (xs1.map (·.1)) := congrArg Prod.fst hx1
  have hw1 : ∀ m ∈ DataW.weightsEach Try.prog [24, 24, 24] (xs1.map (·.1)), m ≤ 140737488351232 := by
    intro m hm
    refine (top_weights hsz (j := 1) (t := 26) rfl rfl) m ?_
    rw [hd1]
    simp only [DataW.weights, Try.underlying26]
    exact hm
  obtain ⟨a1_0, K1_0, g1_0⟩ := opens_field hlen1 (i := 0) rfl (hf1 0 _ rfl) hw1 (opens_f64 Try.underlying24)
  obtain ⟨a1_1, K1_1, g1_1⟩ := opens_field hlen1 (i := 1) rfl (hf1 1 _ rfl) hw1 (opens_f64 Try.underlying24)
  obtain ⟨a1_2, K1_2, g1_2⟩ := opens_field hlen1 (i := 2) rfl (hf1 2 _ rfl) hw1 (opens_f64 Try.underlying24)
  obtain ⟨u1_0, u1_1, u1_2, rfl⟩ := arr3 (hcs1.trans (by kernel_rfl))
  obtain rfl := take_one K1_0 (by kernel_rfl) rfl
  obtain rfl := take_one K1_1 (by kernel_rfl) rfl
  obtain rfl := take_one K1_2 (by kernel_rfl) rfl
  refine (tabulariumlaw22_PlaceSpread.walk Pure.PlaceSpread A0 cap0 l0 a1_0 a1_1 a1_2 W hr0 c0 g0_0 g0_1 g0_2 g1_0 g1_1 g1_2).mono fun e W' ⟨he, bel⟩ => ?_
  subst he
  exact ⟨_, rfl, _, _, _, [], _, [], hW', trodAll_mk1 (shut_bool Try.underlying4 _), (trodAll_cons_mk (Below.trod laidOut (by kernel_rfl) (of_decide_eq_true (by kernel_rfl)) k0 bel lt0) (trodAll_cons_mk (Below.trod laidOut (by kernel_rfl) (of_decide_eq_true (by kernel_rfl)) k1 bel lt1) trodAll_mk0)), rfl, bel.frame _, fun h => by cases h⟩
theorem over : Rows.placeSpreadRow.holds Try.pinned (OpenSpec.ofChange Rows.placeSpreadSpec) :=
  OpenClaim.holds_of_wide 6 Try.f6 rfl rfl rfl rfl rfl rfl rfl ⟨rfl, rfl, rfl, rfl, rfl⟩ rfl rfl rfl rfl rfl (by kernel_rfl) Try.func6 (by kernel_rfl)
    (of_decide_eq_true (by kernel_rfl)) (by unfold Func.isWrapper; first | (rw [if_pos (by decide +kernel)]; kernel_rfl) | (rw [if_neg (by decide +kernel)]; exact ⟨rfl, rfl⟩))
    (fun os started H enc _ => lifted os started H enc)
theorem proved : Rows.PlaceSpreadSaid := over
#print axioms proved
end Go.Proofs.Ytnkihggdohigiaa.placeSpread
namespace Go.Proofs.Ytnkihggdohigiaa
/-- The row, under a short name, for the claim. -/
theorem placeSpread_holds : Rows.PlaceSpreadSaid := placeSpread.proved
end Go.Proofs.Ytnkihggdohigiaa
