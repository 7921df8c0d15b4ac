/- The row of the law EditApart, out of its plain statement and the walk: every argument is read as data, and reads behind the call as it read before. Printed by a program of this session. -/
import Derived.Test.YtecjdchjaoimfaaRows
import Derived.Test.YtecjdchjaoimfaaPx20
import Derived.Test.YtecjdchjaoimfaaPureEditApart
import Derived.Test.YtecjdchjaoimfaaRd
import Derived.WalkKit
import Derived.ProofKit
import Derived.OpenShut
import Derived.ShutString
import Derived.ChangeOld
import Derived.Below
import Derived.SizedLaws
namespace Go.Proofs.Ytecjdchjaoimfaa.editApart
open Go.ChangeShapes Go.WideShapes Go.ChangeAt Go.RowKit Go.Proofs.Ytecjdchjaoimfaa.P Go.Proofs.YtecjdchjaoimfaaW.PrintWords
open Go.ChangeMaps (open_string shut_string)
set_option linter.unusedVariables false
theorem arr7 {α : Type} {cs : Array α} (h : cs.size = 7) : ∃ c0 c1 c2 c3 c4 c5 c6, cs = #[c0, c1, c2, c3, c4, c5, c6] := by
  obtain ⟨l⟩ := cs
  match l, h with
  | [c0, c1, c2, c3, c4, c5, c6], _ => exact ⟨c0, c1, c2, c3, c4, c5, c6, rfl⟩
theorem own : ownKnob Try.prog.godebug = none := by kernel_rfl
theorem laidOut : laidOutB Try.prog = true := by kernel_rfl
set_option maxRecDepth 100000 in
theorem lifted (os : Os) (started : os.Started) (H : Type) (enc : TypeId × Value → H) :
    ReturnsInHanded {} Try.checked os 5 .any (Rows.editApartSpec.pre6 enc Try.prog Try.f5 Rows.editApartRow.domain false) (Rows.editApartSpec.post enc Try.prog Try.f5 false true false false) := by
  refine returnsInHanded_of_change_sized (C := Try.checked) own started (by kernel_rfl) Try.func5
    (ChangeSpec.witness6 (enc := enc) (C := Try.checked) false ⟨#[], #[.agg #[.int .i64 0, .string ByteArray.empty, .string ByteArray.empty, .int .i64 0, .int .i64 0, .int .i64 0, .slice none 0 0], .agg #[.int .i64 0, .string ByteArray.empty, .string ByteArray.empty, .int .i64 0, .int .i64 0, .int .i64 0, .slice none 0 0]], []⟩ 8 (by kernel_rfl) (by kernel_rfl) (by kernel_rfl) (by kernel_rfl)) ?_
  intro W base args ds gs before hval0 hW hcnd hsz0 _
  have hsz : (DataW.weightsEach Try.prog (Try.f5.params.toList ++ Rows.editApartSpec.plain.varTypes Try.prog) (ds ++ gs)).all (· ≤ reachBytes) = true := hsz0
  have hval : ∀ (j : Nat) t v, Try.f5.params[j]? = some t → args[j]? = some v → Value.okWide Try.prog W .any base t v := hval0
  have hW' := hW
  obtain ⟨p, q, hA0, hV, rfl, hfz, hnd⟩ := hW
  have hA : DataW.TrodAll enc Try.prog W 0 (fun _ => true) true Try.f5.params.toList args.toList ds p := hA0
  rw [Try.params5] at hA hval hsz
  obtain ⟨v0, vs0, d0, ds0, p0, q0, hargs, rfl, rfl, h0, r0⟩ := trodAll_cons hA
  obtain ⟨v1, vs1, d1, ds1, p1, q1, rfl, rfl, rfl, h1, r1⟩ := trodAll_cons r0
  obtain ⟨rfl, rfl, rfl⟩ := trodAll_nil r1
  obtain rfl : args = #[v0, v1] := by cases args; simp_all
  obtain ⟨rfl, rfl⟩ := trodVars_none hV
  obtain ⟨cs0, rfl, hcs0⟩ := okWide_struct Try.underlying24 (hval 0 24 v0 rfl rfl)
  have k0 := h0
  have lt0 : ∀ x ∈ p0, x.block < W.heap.size := by obtain ⟨m, hm⟩ := k0; exact DataW.trod_lt m _ _ _ hm
  obtain ⟨m0, hm0⟩ := h0
  obtain ⟨xs0, n0, _, hx0, _, hlen0, hf0⟩ := DataW.trod_struct Try.underlying24 hm0
  have hd0 : d0 = .agg (xs0.map (·.1)) := congrArg Prod.fst hx0
  have hw0 : ∀ m ∈ DataW.weightsEach Try.prog [3, 9, 9, 3, 3, 3, 22] (xs0.map (·.1)), m ≤ 140737488351232 := by
    intro m hm
    refine (top_weights hsz (j := 0) (t := 24) rfl rfl) m ?_
    rw [hd0]
    simp only [DataW.weights, Try.underlying24]
    exact hm
  obtain ⟨a0_0, K0_0, g0_0⟩ := opens_field hlen0 (i := 0) rfl (hf0 0 _ rfl) hw0 (opens_int Try.underlying3)
  obtain ⟨a0_1, K0_1, g0_1⟩ := opens_field hlen0 (i := 1) rfl (hf0 1 _ rfl) hw0 (opens_string Try.underlying9)
  obtain ⟨a0_2, K0_2, g0_2⟩ := opens_field hlen0 (i := 2) rfl (hf0 2 _ rfl) hw0 (opens_string Try.underlying9)
  obtain ⟨a0_3, K0_3, g0_3⟩ := opens_field hlen0 (i := 3) rfl (hf0 3 _ rfl) hw0 (opens_int Try.underlying3)
  obtain ⟨a0_4, K0_4, g0_4⟩ := opens_field hlen0 (i := 4) rfl (hf0 4 _ rfl) hw0 (opens_int Try.underlying3)
  obtain ⟨a0_5, K0_5, g0_5⟩ := opens_field hlen0 (i := 5) rfl (hf0 5 _ rfl) hw0 (opens_int Try.underlying3)
  obtain ⟨a0_6, K0_6, g0_6⟩ := opens_field hlen0 (i := 6) rfl (hf0 6 _ rfl) hw0 (opens_slice Try.underlying22 (by kernel_rfl) (by kernel_rfl) (opens_int Try.underlying3))
  obtain ⟨u0_0, u0_1, u0_2, u0_3, u0_4, u0_5, u0_6, rfl⟩ := arr7 (hcs0.trans (by kernel_rfl))
  obtain rfl := take_one K0_0 (by kernel_rfl) rfl
  obtain rfl := take_one K0_1 (by kernel_rfl) rfl
  obtain rfl := take_one K0_2 (by kernel_rfl) rfl
  obtain rfl := take_one K0_3 (by kernel_rfl) rfl
  obtain rfl := take_one K0_4 (by kernel_rfl) rfl
  obtain rfl := take_one K0_5 (by kernel_rfl) rfl
  obtain ⟨A0_6, c0_6, rfl, hc0_6, hr0_6⟩ := take_slice K0_6 (by kernel_rfl) rfl
  obtain ⟨g0_6_0, g0_6_1, g0_6_2⟩ := g0_6
  obtain ⟨cs1, rfl, hcs1⟩ := okWide_struct Try.underlying24 (hval 1 24 v1 rfl rfl)
  have k1 := h1
  have lt1 : ∀ x ∈ p1, x.block < W.heap.size := by obtain ⟨m, hm⟩ := k1; exact DataW.trod_lt m _ _ _ hm
  obtain ⟨m1, hm1⟩ := h1
  obtain ⟨xs1, n1, _, hx1, _, hlen1, hf1⟩ := DataW.trod_struct Try.underlying24 hm1
  have hd1 : d1 = .agg (xs1.map (·.1)) := congrArg Prod.fst hx1
  have hw1 : ∀ m ∈ DataW.weightsEach Try.prog [3, 9, 9, 3, 3, 3, 22] (xs1.map (·.1)), m ≤ 140737488351232 := by
    intro m hm
    refine (top_weights hsz (j := 1) (t := 24) rfl rfl) m ?_
    rw [hd1]
    simp only [DataW.weights, Try.underlying24]
    exact hm
  obtain ⟨a1_0, K1_0, g1_0⟩ := opens_field hlen1 (i := 0) rfl (hf1 0 _ rfl) hw1 (opens_int Try.underlying3)
  obtain ⟨a1_1, K1_1, g1_1⟩ := opens_field hlen1 (i := 1) rfl (hf1 1 _ rfl) hw1 (opens_string Try.underlying9)
  obtain ⟨a1_2, K1_2, g1_2⟩ := opens_field hlen1 (i := 2) rfl (hf1 2 _ rfl) hw1 (opens_string Try.underlying9)
  obtain ⟨a1_3, K1_3, g1_3⟩ := opens_field hlen1 (i := 3) rfl (hf1 3 _ rfl) hw1 (opens_int Try.underlying3)
  obtain ⟨a1_4, K1_4, g1_4⟩ := opens_field hlen1 (i := 4) rfl (hf1 4 _ rfl) hw1 (opens_int Try.underlying3)
  obtain ⟨a1_5, K1_5, g1_5⟩ := opens_field hlen1 (i := 5) rfl (hf1 5 _ rfl) hw1 (opens_int Try.underlying3)
  obtain ⟨a1_6, K1_6, g1_6⟩ := opens_field hlen1 (i := 6) rfl (hf1 6 _ rfl) hw1 (opens_slice Try.underlying22 (by kernel_rfl) (by kernel_rfl) (opens_int Try.underlying3))
  obtain ⟨u1_0, u1_1, u1_2, u1_3, u1_4, u1_5, u1_6, rfl⟩ := arr7 (hcs1.trans (by kernel_rfl))
  obtain rfl := take_one K1_0 (by kernel_rfl) rfl
  obtain rfl := take_one K1_1 (by kernel_rfl) rfl
  obtain rfl := take_one K1_2 (by kernel_rfl) rfl
  obtain rfl := take_one K1_3 (by kernel_rfl) rfl
  obtain rfl := take_one K1_4 (by kernel_rfl) rfl
  obtain rfl := take_one K1_5 (by kernel_rfl) rfl
  obtain ⟨A1_6, c1_6, rfl, hc1_6, hr1_6⟩ := take_slice K1_6 (by kernel_rfl) rfl
  obtain ⟨g1_6_0, g1_6_1, g1_6_2⟩ := g1_6
  refine (tabulariumlaw10_EditApart.walk Pure.EditApart a0_0 a0_1 a0_2 a0_3 a0_4 a0_5 A0_6 c0_6 a0_6 a1_0 a1_1 a1_2 a1_3 a1_4 a1_5 A1_6 c1_6 a1_6 W hr0_6 hc0_6 hr1_6 hc1_6 g0_0 g0_1 g0_2 g0_3 g0_4 g0_5 g0_6_0 g0_6_1 g0_6_2 g1_0 g1_1 g1_2 g1_3 g1_4 g1_5 g1_6_0 g1_6_1 g1_6_2).mono fun e W' ⟨he, bel⟩ => ?_
  subst he
  exact ⟨_, rfl, _, _, _, [], _, [], hW', trodAll_mk1 (shut_bool Try.underlying4 _), (trodAll_cons_mk (Below.trod laidOut (by kernel_rfl) (of_decide_eq_true (by kernel_rfl)) k0 bel lt0) (trodAll_cons_mk (Below.trod laidOut (by kernel_rfl) (of_decide_eq_true (by kernel_rfl)) k1 bel lt1) trodAll_mk0)), rfl, bel.frame _, fun h => by cases h⟩
theorem over : Rows.editApartRow.holds Try.pinned (OpenSpec.ofChange Rows.editApartSpec) :=
  OpenClaim.holds_of_wide 5 Try.f5 rfl rfl rfl rfl rfl rfl rfl ⟨rfl, rfl, rfl, rfl, rfl⟩ rfl rfl rfl rfl rfl (by kernel_rfl) Try.func5 (by kernel_rfl)
    (of_decide_eq_true (by kernel_rfl)) (by unfold Func.isWrapper; first | (rw [if_pos (by decide +kernel)]; kernel_rfl) | (rw [if_neg (by decide +kernel)]; exact ⟨rfl, rfl⟩))
    (fun os started H enc _ => lifted os started H enc)
theorem proved : Rows.EditApartSaid := over
#print axioms proved
end Go.Proofs.Ytecjdchjaoimfaa.editApart
namespace Go.Proofs.Ytecjdchjaoimfaa
/-- The row, under a short name, for the claim. -/
theorem editApart_holds : Rows.EditApartSaid := editApart.proved
end Go.Proofs.Ytecjdchjaoimfaa
