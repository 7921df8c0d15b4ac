/- The row of the law EditSpoils, out of its plain statement and the walk: every argument is read as data, and reads behind the call as it read before. Printed by a program of this session. -/
import Derived.Test.YtecjdchjaoimfaaRows
import Derived.Test.YtecjdchjaoimfaaPx21
import Derived.Test.YtecjdchjaoimfaaPureEditSpoils
import Derived.Test.YtecjdchjaoimfaaRd
import Derived.WalkKit
import Derived.ProofKit
import Derived.OpenShut
import Derived.ShutString
import Derived.ChangeOld
import Derived.Below
import Derived.SizedLaws
namespace Go.Proofs.Ytecjdchjaoimfaa.editSpoils
open Go.ChangeShapes Go.WideShapes Go.ChangeAt Go.RowKit Go.Proofs.Ytecjdchjaoimfaa.P Go.Proofs.YtecjdchjaoimfaaW.PrintWords
open Go.ChangeMaps (open_string shut_string)
set_option linter.unusedVariables false
theorem arr7 {α : Type} {cs : Array α} (h : cs.size = 7) : ∃ c0 c1 c2 c3 c4 c5 c6, cs = #[c0, c1, c2, c3, c4, c5, c6] := by
  obtain ⟨l⟩ := cs
  match l, h with
  | [c0, c1, c2, c3, c4, c5, c6], _ => exact ⟨c0, c1, c2, c3, c4, c5, c6, rfl⟩
theorem own : ownKnob Try.prog.godebug = none := by kernel_rfl
theorem laidOut : laidOutB Try.prog = true := by kernel_rfl
set_option maxRecDepth 100000 in
theorem lifted (os : Os) (started : os.Started) (H : Type) (enc : TypeId × Value → H) :
    ReturnsInHanded {} Try.checked os 6 .any (Rows.editSpoilsSpec.pre6 enc Try.prog Try.f6 Rows.editSpoilsRow.domain false) (Rows.editSpoilsSpec.post enc Try.prog Try.f6 false true false false) := by
  refine returnsInHanded_of_change_sized (C := Try.checked) own started (by kernel_rfl) Try.func6
    (ChangeSpec.witness6 (enc := enc) (C := Try.checked) false ⟨#[], #[.agg #[.int .i64 0, .string ByteArray.empty, .string ByteArray.empty, .int .i64 0, .int .i64 0, .int .i64 0, .slice none 0 0], .int .i64 0], []⟩ 8 (by kernel_rfl) (by kernel_rfl) (by kernel_rfl) (by kernel_rfl)) ?_
  intro W base args ds gs before hval0 hW hcnd hsz0 _
  have hsz : (DataW.weightsEach Try.prog (Try.f6.params.toList ++ Rows.editSpoilsSpec.plain.varTypes Try.prog) (ds ++ gs)).all (· ≤ reachBytes) = true := hsz0
  have hval : ∀ (j : Nat) t v, Try.f6.params[j]? = some t → args[j]? = some v → Value.okWide Try.prog W .any base t v := hval0
  have hW' := hW
  obtain ⟨p, q, hA0, hV, rfl, hfz, hnd⟩ := hW
  have hA : DataW.TrodAll enc Try.prog W 0 (fun _ => true) true Try.f6.params.toList args.toList ds p := hA0
  rw [Try.params6] at hA hval hsz
  obtain ⟨v0, vs0, d0, ds0, p0, q0, hargs, rfl, rfl, h0, r0⟩ := trodAll_cons hA
  obtain ⟨v1, vs1, d1, ds1, p1, q1, rfl, rfl, rfl, h1, r1⟩ := trodAll_cons r0
  obtain ⟨rfl, rfl, rfl⟩ := trodAll_nil r1
  obtain rfl : args = #[v0, v1] := by cases args; simp_all
  obtain ⟨rfl, rfl⟩ := trodVars_none hV
  obtain ⟨cs0, rfl, hcs0⟩ := okWide_struct Try.underlying24 (hval 0 24 v0 rfl rfl)
  have k0 := h0
  have lt0 : ∀ x ∈ p0, x.block < W.heap.size := by obtain ⟨m, hm⟩ := k0; exact DataW.trod_lt m _ _ _ hm
  obtain ⟨m0, hm0⟩ := h0
  obtain ⟨xs0, n0, _, hx0, _, hlen0, hf0⟩ := DataW.trod_struct Try.underlying24 hm0
  have hd0 : d0 = .agg (xs0.map (·.1)) := congrArg Prod.fst hx0
  have hw0 : ∀ m ∈ DataW.weightsEach Try.prog [3, 9, 9, 3, 3, 3, 22] (xs0.map (·.1)), m ≤ 140737488351232 := by
    intro m hm
    refine (top_weights hsz (j := 0) (t := 24) rfl rfl) m ?_
    rw [hd0]
    simp only [DataW.weights, Try.underlying24]
    exact hm
  obtain ⟨a0_0, K0_0, g0_0⟩ := opens_field hlen0 (i := 0) rfl (hf0 0 _ rfl) hw0 (opens_int Try.underlying3)
  obtain ⟨a0_1, K0_1, g0_1⟩ := opens_field hlen0 (i := 1) rfl (hf0 1 _ rfl) hw0 (opens_string Try.underlying9)
  obtain ⟨a0_2, K0_2, g0_2⟩ := opens_field hlen0 (i := 2) rfl (hf0 2 _ rfl) hw0 (opens_string Try.underlying9)
  obtain ⟨a0_3, K0_3, g0_3⟩ := opens_field hlen0 (i := 3) rfl (hf0 3 _ rfl) hw0 (opens_int Try.underlying3)
  obtain ⟨a0_4, K0_4, g0_4⟩ := opens_field hlen0 (i := 4) rfl (hf0 4 _ rfl) hw0 (opens_int Try.underlying3)
  obtain ⟨a0_5, K0_5, g0_5⟩ := opens_field hlen0 (i := 5) rfl (hf0 5 _ rfl) hw0 (opens_int Try.underlying3)
  obtain ⟨a0_6, K0_6, g0_6⟩ := opens_field hlen0 (i := 6) rfl (hf0 6 _ rfl) hw0 (opens_slice Try.underlying22 (by kernel_rfl) (by kernel_rfl) (opens_int Try.underlying3))
  obtain ⟨u0_0, u0_1, u0_2, u0_3, u0_4, u0_5, u0_6, rfl⟩ := arr7 (hcs0.trans (by kernel_rfl))
  obtain rfl := take_one K0_0 (by kernel_rfl) rfl
  obtain rfl := take_one K0_1 (by kernel_rfl) rfl
  obtain rfl := take_one K0_2 (by kernel_rfl) rfl
  obtain rfl := take_one K0_3 (by kernel_rfl) rfl
  obtain rfl := take_one K0_4 (by kernel_rfl) rfl
  obtain rfl := take_one K0_5 (by kernel_rfl) rfl
  obtain ⟨A0_6, c0_6, rfl, hc0_6, hr0_6⟩ := take_slice K0_6 (by kernel_rfl) rfl
  obtain ⟨g0_6_0, g0_6_1, g0_6_2⟩ := g0_6
  obtain ⟨a1, rfl, rfl, rfl, w1⟩ := open_int Try.underlying3 (hval 1 3 v1 rfl rfl) h1
  refine (tabulariumlaw10_EditSpoils.walk Pure.EditSpoils a0_0 a0_1 a0_2 a0_3 a0_4 a0_5 A0_6 c0_6 a0_6 a1 W hr0_6 hc0_6 g0_0 g0_1 g0_2 g0_3 g0_4 g0_5 g0_6_0 g0_6_1 g0_6_2 w1).mono fun e W' ⟨he, bel⟩ => ?_
  subst he
  exact ⟨_, rfl, _, _, _, [], _, [], hW', trodAll_mk1 (shut_bool Try.underlying4 _), (trodAll_cons_mk (Below.trod laidOut (by kernel_rfl) (of_decide_eq_true (by kernel_rfl)) k0 bel lt0) (trodAll_cons_mk (shut_int Try.underlying3 w1) trodAll_mk0)), rfl, bel.frame _, fun h => by cases h⟩
theorem over : Rows.editSpoilsRow.holds Try.pinned (OpenSpec.ofChange Rows.editSpoilsSpec) :=
  OpenClaim.holds_of_wide 6 Try.f6 rfl rfl rfl rfl rfl rfl rfl ⟨rfl, rfl, rfl, rfl, rfl⟩ rfl rfl rfl rfl rfl (by kernel_rfl) Try.func6 (by kernel_rfl)
    (of_decide_eq_true (by kernel_rfl)) (by unfold Func.isWrapper; first | (rw [if_pos (by decide +kernel)]; kernel_rfl) | (rw [if_neg (by decide +kernel)]; exact ⟨rfl, rfl⟩))
    (fun os started H enc _ => lifted os started H enc)
theorem proved : Rows.EditSpoilsSaid := over
#print axioms proved
end Go.Proofs.Ytecjdchjaoimfaa.editSpoils
namespace Go.Proofs.Ytecjdchjaoimfaa
/-- The row, under a short name, for the claim. -/
theorem editSpoils_holds : Rows.EditSpoilsSaid := editSpoils.proved
end Go.Proofs.Ytecjdchjaoimfaa
