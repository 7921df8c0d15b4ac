/- The row of the law PlaceBest, out of its plain statement and the walk: every argument is read as data, and reads behind the call as it read before. Printed by a program of this session. -/
import Derived.Test.YtnkihggdohigiaaRows
import Derived.Test.YtnkihggdohigiaaPx20
import Derived.Test.YtnkihggdohigiaaPurePlaceBest
import Derived.Test.YtnkihggdohigiaaRd
import Derived.WalkKit
import Derived.ProofKit
import Derived.OpenShut
import Derived.ShutString
import Derived.ChangeOld
import Derived.Below
import Derived.SizedLaws
namespace Go.Proofs.Ytnkihggdohigiaa.placeBest
open Go.ChangeShapes Go.WideShapes Go.ChangeAt Go.RowKit Go.Proofs.Ytnkihggdohigiaa.P Go.Proofs.YtnkihggdohigiaaW.PrintWords
open Go.ChangeMaps (open_string shut_string)
set_option linter.unusedVariables false
theorem own : ownKnob Try.prog.godebug = none := by kernel_rfl
theorem laidOut : laidOutB Try.prog = true := by kernel_rfl
theorem lst26 {α : Type} {cs : List α} (h : cs.length = 3) : ∃ c0 c1 c2, cs = [c0, c1, c2] := by
  match cs, h with
  | [c0, c1, c2], _ => exact ⟨c0, c1, c2, rfl⟩
theorem opens_k26 {H : Type} {enc : TypeId × Value → H} {w : World} {base : Nat} {spare : Nat → Bool} {held : Bool} : Opens enc Try.prog w base spare held 26 k26 (fun x => ((Lit.float .f64 x.f0).wf = true) ∧ ((Lit.float .f64 x.f1).wf = true) ∧ ((Lit.float .f64 x.f2).wf = true)) := by
  intro fuel cs y h hw
  obtain ⟨xs, n, _, hx, hl, hlen, hf⟩ := DataW.trod_struct Try.underlying26 h
  subst hx
  have hw2 : ∀ m ∈ DataW.weightsEach Try.prog [24, 24, 24] (xs.map (·.1)), m ≤ 140737488351232 := by intro m hm; refine hw m ?_; simp only [DataW.weights, Try.underlying26]; exact hm
  obtain ⟨a0, K0, g0⟩ := opens_field hlen (i := 0) rfl (hf 0 _ rfl) hw2 (opens_f64 Try.underlying24)
  obtain ⟨a1, K1, g1⟩ := opens_field hlen (i := 1) rfl (hf 1 _ rfl) hw2 (opens_f64 Try.underlying24)
  obtain ⟨a2, K2, g2⟩ := opens_field hlen (i := 2) rfl (hf 2 _ rfl) hw2 (opens_f64 Try.underlying24)
  obtain ⟨u0, u1, u2, rfl⟩ := lst26 (hl.trans (by kernel_rfl))
  obtain rfl := take_one K0 (by kernel_rfl) rfl
  obtain rfl := take_one K1 (by kernel_rfl) rfl
  obtain rfl := take_one K2 (by kernel_rfl) rfl
  exact ⟨⟨a0, a1, a2⟩, k26_mk _ ⟨a0, a1, a2⟩, g0, g1, g2⟩
set_option maxRecDepth 100000 in
theorem lifted (os : Os) (started : os.Started) (H : Type) (enc : TypeId × Value → H) :
    ReturnsInHanded {} Try.checked os 4 .any (Rows.placeBestSpec.pre6 enc Try.prog Try.f4 Rows.placeBestRow.domain false) (Rows.placeBestSpec.post enc Try.prog Try.f4 false true false false) := by
  refine returnsInHanded_of_change_sized (C := Try.checked) own started (by kernel_rfl) Try.func4
    (ChangeSpec.witness6 (enc := enc) (C := Try.checked) false ⟨#[], #[.slice none 0 0, .int .i64 0, .slice none 0 0], []⟩ 8 (by kernel_rfl) (by kernel_rfl) (by kernel_rfl) (by kernel_rfl)) ?_
  intro W base args ds gs before hval0 hW hcnd hsz0 _
  have hsz : (DataW.weightsEach Try.prog (Try.f4.params.toList ++ Rows.placeBestSpec.plain.varTypes Try.prog) (ds ++ gs)).all (· ≤ reachBytes) = true := hsz0
  have hval : ∀ (j : Nat) t v, Try.f4.params[j]? = some t → args[j]? = some v → Value.okWide Try.prog W .any base t v := hval0
  have hW' := hW
  obtain ⟨p, q, hA0, hV, rfl, hfz, hnd⟩ := hW
  have hA : DataW.TrodAll enc Try.prog W 0 (fun _ => true) true Try.f4.params.toList args.toList ds p := hA0
  rw [Try.params4] at hA hval hsz
  obtain ⟨v0, vs0, d0, ds0, p0, q0, hargs, rfl, rfl, h0, r0⟩ := trodAll_cons hA
  obtain ⟨v1, vs1, d1, ds1, p1, q1, rfl, rfl, rfl, h1, r1⟩ := trodAll_cons r0
  obtain ⟨v2, vs2, d2, ds2, p2, q2, rfl, rfl, rfl, h2, r2⟩ := trodAll_cons r1
  obtain ⟨rfl, rfl, rfl⟩ := trodAll_nil r2
  obtain rfl : args = #[v0, v1, v2] := by cases args; simp_all
  obtain ⟨rfl, rfl⟩ := trodVars_none hV
  obtain ⟨A0, len0, cap0, rfl⟩ := okWide_slice Try.underlying22 (hval 0 22 v0 rfl rfl)
  have k0 := h0
  have lt0 : ∀ x ∈ p0, x.block < W.heap.size := by obtain ⟨m, hm⟩ := k0; exact DataW.trod_lt m _ _ _ hm
  obtain ⟨l0, e0, c0, hr0, g0⟩ := top_slice (opens_slice Try.underlying22 (by kernel_rfl) (by kernel_rfl) opens_k26) h0 (top_weights hsz (j := 0) (t := 22) rfl rfl)
  subst e0
  obtain ⟨g0_0, g0_1, g0_2⟩ := g0
  obtain ⟨a1, rfl, rfl, rfl, w1⟩ := open_int Try.underlying3 (hval 1 3 v1 rfl rfl) h1
  obtain ⟨A2, len2, cap2, rfl⟩ := okWide_slice Try.underlying23 (hval 2 23 v2 rfl rfl)
  have k2 := h2
  have lt2 : ∀ x ∈ p2, x.block < W.heap.size := by obtain ⟨m, hm⟩ := k2; exact DataW.trod_lt m _ _ _ hm
  obtain ⟨l2, e2, c2, hr2, g2⟩ := top_slice (opens_slice Try.underlying23 (by kernel_rfl) (by kernel_rfl) (opens_int Try.underlying3)) h2 (top_weights hsz (j := 2) (t := 23) rfl rfl)
  subst e2
  obtain ⟨g2_0, g2_1, g2_2⟩ := g2
  refine (tabulariumlaw22_PlaceBest.walk Pure.PlaceBest A0 cap0 l0 a1 A2 cap2 l2 W hr0 c0 hr2 c2 g0_0 g0_1 g0_2 w1 g2_0 g2_1 g2_2).mono fun e W' ⟨he, bel⟩ => ?_
  subst he
  exact ⟨_, rfl, _, _, _, [], _, [], hW', trodAll_mk1 (shut_bool Try.underlying4 _), (trodAll_cons_mk (Below.trod laidOut (by kernel_rfl) (of_decide_eq_true (by kernel_rfl)) k0 bel lt0) (trodAll_cons_mk (shut_int Try.underlying3 w1) (trodAll_cons_mk (Below.trod laidOut (by kernel_rfl) (of_decide_eq_true (by kernel_rfl)) k2 bel lt2) trodAll_mk0))), rfl, bel.frame _, fun h => by cases h⟩
theorem over : Rows.placeBestRow.holds Try.pinned (OpenSpec.ofChange Rows.placeBestSpec) :=
  OpenClaim.holds_of_wide 4 Try.f4 rfl rfl rfl rfl rfl rfl rfl ⟨rfl, rfl, rfl, rfl, rfl⟩ rfl rfl rfl rfl rfl (by kernel_rfl) Try.func4 (by kernel_rfl)
    (of_decide_eq_true (by kernel_rfl)) (by unfold Func.isWrapper; first | (rw [if_pos (by decide +kernel)]; kernel_rfl) | (rw [if_neg (by decide +kernel)]; exact ⟨rfl, rfl⟩))
    (fun os started H enc _ => lifted os started H enc)
theorem proved : Rows.PlaceBestSaid := over
#print axioms proved
end Go.Proofs.Ytnkihggdohigiaa.placeBest
namespace Go.Proofs.Ytnkihggdohigiaa
/-- The row, under a short name, for the claim. -/
theorem placeBest_holds : Rows.PlaceBestSaid := placeBest.proved
end Go.Proofs.Ytnkihggdohigiaa
