/- The row of the law RetryState, out of its plain statement and the walk: every argument is read as data, and reads behind the call as it read before. -/
import Derived.Test.YtjailboidlmadaaRows
import Derived.Test.YtjailboidlmadaaRtS
import Derived.Test.YtjailboidlmadaaPureRetryState
import Derived.Test.YtjailboidlmadaaRd
import Derived.WalkKit
import Derived.ProofKit
import Derived.OpenShut
import Derived.ShutString
import Derived.ChangeOld
import Derived.Below
import Derived.SizedLaws
namespace Go.Proofs.Ytjailboidlmadaa.retryState
open Go.ChangeShapes Go.WideShapes Go.ChangeAt Go.RowKit Go.Proofs.Ytjailboidlmadaa.P Go.Proofs.YtjailboidlmadaaW.PrintWords
open Go.ChangeMaps (open_string shut_string)
set_option linter.unusedVariables false
theorem arr7 {α : Type} {cs : Array α} (h : cs.size = 7) : ∃ c0 c1 c2 c3 c4 c5 c6, cs = #[c0, c1, c2, c3, c4, c5, c6] := by
  obtain ⟨l⟩ := cs
  match l, h with
  | [c0, c1, c2, c3, c4, c5, c6], _ => exact ⟨c0, c1, c2, c3, c4, c5, c6, rfl⟩
theorem arr11 {α : Type} {cs : Array α} (h : cs.size = 11) : ∃ c0 c1 c2 c3 c4 c5 c6 c7 c8 c9 c10, cs = #[c0, c1, c2, c3, c4, c5, c6, c7, c8, c9, c10] := by
  obtain ⟨l⟩ := cs
  match l, h with
  | [c0, c1, c2, c3, c4, c5, c6, c7, c8, c9, c10], _ => exact ⟨c0, c1, c2, c3, c4, c5, c6, c7, c8, c9, c10, rfl⟩
theorem lst3 {α : Type} {cs : List α} (h : cs.length = 3) : ∃ c0 c1 c2, cs = [c0, c1, c2] := by
  match cs, h with
  | [c0, c1, c2], _ => exact ⟨c0, c1, c2, rfl⟩
theorem lst5 {α : Type} {cs : List α} (h : cs.length = 5) : ∃ c0 c1 c2 c3 c4, cs = [c0, c1, c2, c3, c4] := by
  match cs, h with
  | [c0, c1, c2, c3, c4], _ => exact ⟨c0, c1, c2, c3, c4, rfl⟩
/-- a node's cells -/
structure S36 where
  f0 : ByteArray
  f1 : Bool
  f2 : Int
  f3 : List S32
  f4 : Int
def k36 : Kd S36 := Kd.iso (Kd.pair Kd.string (Kd.pair Kd.bool (Kd.pair (Kd.int .i64) (Kd.pair (Kd.slice 32 k32) (Kd.int .i64))))) (fun x : S36 => (x.f0, x.f1, x.f2, x.f3, x.f4))
theorem k36_mk (w : World) (x : S36) {A3 : Option Addr} {c3 : Nat} (l3 : x.f3.length ≤ c3) (g3 : k32.C w A3 x.f3.length x.f3) : k36.K w x [.string x.f0, .bool x.f1, .int .i64 x.f2, .slice A3 x.f3.length c3, .int .i64 x.f4] :=
  ⟨[.string x.f0], [.bool x.f1, .int .i64 x.f2, .slice A3 x.f3.length c3, .int .i64 x.f4], rfl, rfl, ⟨[.bool x.f1], [.int .i64 x.f2, .slice A3 x.f3.length c3, .int .i64 x.f4], rfl, rfl, ⟨[.int .i64 x.f2], [.slice A3 x.f3.length c3, .int .i64 x.f4], rfl, rfl, ⟨[.slice A3 x.f3.length c3], [.int .i64 x.f4], rfl, ⟨A3, c3, rfl, l3, g3⟩, rfl⟩⟩⟩⟩
theorem k36_open {w : World} {x : S36} {cs : List Value} (h : k36.K w x cs) : ∃ A3 c3, cs = [.string x.f0, .bool x.f1, .int .i64 x.f2, .slice A3 x.f3.length c3, .int .i64 x.f4] ∧ x.f3.length ≤ c3 ∧ k32.C w A3 x.f3.length x.f3 := by
  obtain ⟨_, _, rfl, rfl, ⟨_, _, rfl, rfl, ⟨_, _, rfl, rfl, ⟨_, _, rfl, ⟨A3, c3, rfl, l3, g3⟩, rfl⟩⟩⟩⟩ := h
  exact ⟨A3, c3, rfl, l3, g3⟩
theorem opens_k32 {H : Type} {enc : TypeId × Value → H} {w : World} {base : Nat} {spare : Nat → Bool} {held : Bool} : Opens enc Try.prog w base spare held 32 k32 (fun x => ((Lit.int .i64 x.f0).wf = true) ∧ ((Lit.int .i64 x.f1).wf = true) ∧ ((Lit.int .i64 x.f2).wf = true)) := by
  intro fuel cs y h hw
  obtain ⟨xs, n, _, hx, hl, hlen, hf⟩ := DataW.trod_struct Try.underlying32 h
  subst hx
  have hw2 : ∀ m ∈ DataW.weightsEach Try.prog [3, 3, 3] (xs.map (·.1)), m ≤ 140737488351232 := by intro m hm; refine hw m ?_; simp only [DataW.weights, Try.underlying32]; exact hm
  obtain ⟨a0, K0, g0⟩ := opens_field hlen (i := 0) rfl (hf 0 _ rfl) hw2 (opens_int Try.underlying3)
  obtain ⟨a1, K1, g1⟩ := opens_field hlen (i := 1) rfl (hf 1 _ rfl) hw2 (opens_int Try.underlying3)
  obtain ⟨a2, K2, g2⟩ := opens_field hlen (i := 2) rfl (hf 2 _ rfl) hw2 (opens_int Try.underlying3)
  obtain ⟨u0, u1, u2, rfl⟩ := lst3 (hl.trans (by kernel_rfl))
  obtain rfl := take_one K0 (by kernel_rfl) rfl
  obtain rfl := take_one K1 (by kernel_rfl) rfl
  obtain rfl := take_one K2 (by kernel_rfl) rfl
  exact ⟨⟨a0, a1, a2⟩, k32_mk _ ⟨a0, a1, a2⟩, g0, g1, g2⟩
theorem opens_k36 {H : Type} {enc : TypeId × Value → H} {w : World} {base : Nat} {spare : Nat → Bool} {held : Bool} : Opens enc Try.prog w base spare held 36 k36 (fun x => x.f3.length * 24 ≤ 140737488351232) := by
  intro fuel cs y h hw
  obtain ⟨xs, n, _, hx, hl, hlen, hf⟩ := DataW.trod_struct Try.underlying36 h
  subst hx
  have hw2 : ∀ m ∈ DataW.weightsEach Try.prog [9, 4, 3, 34, 3] (xs.map (·.1)), m ≤ 140737488351232 := by intro m hm; refine hw m ?_; simp only [DataW.weights, Try.underlying36]; exact hm
  obtain ⟨a0, K0, g0⟩ := opens_field hlen (i := 0) rfl (hf 0 _ rfl) hw2 (opens_string Try.underlying9)
  obtain ⟨a1, K1, g1⟩ := opens_field hlen (i := 1) rfl (hf 1 _ rfl) hw2 (opens_bool Try.underlying4)
  obtain ⟨a2, K2, g2⟩ := opens_field hlen (i := 2) rfl (hf 2 _ rfl) hw2 (opens_int Try.underlying3)
  obtain ⟨a3, K3, g3⟩ := opens_field hlen (i := 3) rfl (hf 3 _ rfl) hw2 (opens_slice (b := 24) Try.underlying34 (by kernel_rfl) (by kernel_rfl) opens_k32)
  obtain ⟨a4, K4, g4⟩ := opens_field hlen (i := 4) rfl (hf 4 _ rfl) hw2 (opens_int Try.underlying3)
  obtain ⟨u0, u1, u2, u3, u4, rfl⟩ := lst5 (hl.trans (by kernel_rfl))
  obtain rfl := take_one K0 (by kernel_rfl) rfl
  obtain rfl := take_one K1 (by kernel_rfl) rfl
  obtain rfl := take_one K2 (by kernel_rfl) rfl
  obtain ⟨A3, c3, rfl, hc3, hr3⟩ := take_slice K3 (by kernel_rfl) rfl
  obtain rfl := take_one K4 (by kernel_rfl) rfl
  exact ⟨⟨a0, a1, a2, a3, a4⟩, k36_mk _ ⟨a0, a1, a2, a3, a4⟩ hc3 hr3, g3.2.1⟩
/-- some cells out of a row -/
theorem take_part {α : Type} {d : Kd α} {w : World} {cs vs : List Value} {j n : Nat} {x : α} (h : d.K w x ((cs.drop j).take n)) (hn : n = vs.length) (hv : (cs.drop j).take vs.length = vs) : d.K w x vs := by
  subst hn
  rw [hv] at h
  exact h
theorem own : ownKnob Try.prog.godebug = none := by kernel_rfl
theorem laidOut : laidOutB Try.prog = true := by kernel_rfl
set_option maxRecDepth 100000 in
theorem lifted (os : Os) (started : os.Started) (H : Type) (enc : TypeId × Value → H) :
    ReturnsInHanded {} Try.checked os 4 .any (Rows.retryStateSpec.pre6 enc Try.prog Try.f4 Rows.retryStateRow.domain false) (Rows.retryStateSpec.post enc Try.prog Try.f4 false true false false) := by
  refine returnsInHanded_of_change_sized (C := Try.checked) own started (by kernel_rfl) Try.func4
    (ChangeSpec.witness6 (enc := enc) (C := Try.checked) false ⟨#[], #[.agg #[.int .i64 0, .string ByteArray.empty, .string ByteArray.empty, .int .i64 0, .int .i64 0, .int .i64 0, .slice none 0 0], .agg #[.int .i64 0, .string ByteArray.empty, .string ByteArray.empty, .int .i64 0, .int .i64 0, .int .i64 0, .slice none 0 0], .agg #[.int .i64 0, .int .i64 0, .int .i64 0, .int .i64 0, .slice none 0 0, .string ByteArray.empty, .bool false, .int .i64 0, .slice none 0 0, .int .i64 0, .int .i64 0]], []⟩ 8 (by kernel_rfl) (by kernel_rfl) (by kernel_rfl) (by kernel_rfl)) ?_
  intro W base args ds gs before hval0 hW hcnd hsz0 _
  have hsz : (DataW.weightsEach Try.prog (Try.f4.params.toList ++ Rows.retryStateSpec.plain.varTypes Try.prog) (ds ++ gs)).all (· ≤ reachBytes) = true := hsz0
  have hval : ∀ (j : Nat) t v, Try.f4.params[j]? = some t → args[j]? = some v → Value.okWide Try.prog W .any base t v := hval0
  have hW' := hW
  obtain ⟨p, q, hA0, hV, rfl, hfz, hnd⟩ := hW
  have hA : DataW.TrodAll enc Try.prog W 0 (fun _ => true) true Try.f4.params.toList args.toList ds p := hA0
  rw [Try.params4] at hA hval hsz
  obtain ⟨v0, vs0, d0, ds0, p0, q0, hargs, rfl, rfl, h0, r0⟩ := trodAll_cons hA
  obtain ⟨v1, vs1, d1, ds1, p1, q1, rfl, rfl, rfl, h1, r1⟩ := trodAll_cons r0
  obtain ⟨v2, vs2, d2, ds2, p2, q2, rfl, rfl, rfl, h2, r2⟩ := trodAll_cons r1
  obtain ⟨rfl, rfl, rfl⟩ := trodAll_nil r2
  obtain rfl : args = #[v0, v1, v2] := by cases args; simp_all
  obtain ⟨rfl, rfl⟩ := trodVars_none hV
  obtain ⟨cs0, rfl, hcs0⟩ := okWide_struct Try.underlying28 (hval 0 28 v0 rfl rfl)
  have k0 := h0
  have lt0 : ∀ x ∈ p0, x.block < W.heap.size := by obtain ⟨m, hm⟩ := k0; exact DataW.trod_lt m _ _ _ hm
  obtain ⟨m0, hm0⟩ := h0
  obtain ⟨xs0, n0, _, hx0, _, hlen0, hf0⟩ := DataW.trod_struct Try.underlying28 hm0
  have hd0 : d0 = .agg (xs0.map (·.1)) := congrArg Prod.fst hx0
  have hw0 : ∀ m ∈ DataW.weightsEach Try.prog [3, 9, 9, 3, 3, 3, 26] (xs0.map (·.1)), m ≤ 140737488351232 := by
    intro m hm
    refine (top_weights hsz (j := 0) (t := 28) rfl rfl) m ?_
    rw [hd0]
    simp only [DataW.weights, Try.underlying28]
    exact hm
  obtain ⟨a0_0, K0_0, g0_0⟩ := opens_field hlen0 (i := 0) rfl (hf0 0 _ rfl) hw0 (opens_int Try.underlying3)
  obtain ⟨a0_1, K0_1, g0_1⟩ := opens_field hlen0 (i := 1) rfl (hf0 1 _ rfl) hw0 (opens_string Try.underlying9)
  obtain ⟨a0_2, K0_2, g0_2⟩ := opens_field hlen0 (i := 2) rfl (hf0 2 _ rfl) hw0 (opens_string Try.underlying9)
  obtain ⟨a0_3, K0_3, g0_3⟩ := opens_field hlen0 (i := 3) rfl (hf0 3 _ rfl) hw0 (opens_int Try.underlying3)
  obtain ⟨a0_4, K0_4, g0_4⟩ := opens_field hlen0 (i := 4) rfl (hf0 4 _ rfl) hw0 (opens_int Try.underlying3)
  obtain ⟨a0_5, K0_5, g0_5⟩ := opens_field hlen0 (i := 5) rfl (hf0 5 _ rfl) hw0 (opens_int Try.underlying3)
  obtain ⟨a0_6, K0_6, g0_6⟩ := opens_field hlen0 (i := 6) rfl (hf0 6 _ rfl) hw0 (opens_slice (b := 8) Try.underlying26 (by kernel_rfl) (by kernel_rfl) (opens_int Try.underlying3))
  obtain ⟨u0_0, u0_1, u0_2, u0_3, u0_4, u0_5, u0_6, rfl⟩ := arr7 (hcs0.trans (by kernel_rfl))
  obtain rfl := take_one K0_0 (by kernel_rfl) rfl
  obtain rfl := take_one K0_1 (by kernel_rfl) rfl
  obtain rfl := take_one K0_2 (by kernel_rfl) rfl
  obtain rfl := take_one K0_3 (by kernel_rfl) rfl
  obtain rfl := take_one K0_4 (by kernel_rfl) rfl
  obtain rfl := take_one K0_5 (by kernel_rfl) rfl
  obtain ⟨A0_6, c0_6, rfl, hc0_6, hr0_6⟩ := take_slice K0_6 (by kernel_rfl) rfl
  obtain ⟨cs1, rfl, hcs1⟩ := okWide_struct Try.underlying28 (hval 1 28 v1 rfl rfl)
  have k1 := h1
  have lt1 : ∀ x ∈ p1, x.block < W.heap.size := by obtain ⟨m, hm⟩ := k1; exact DataW.trod_lt m _ _ _ hm
  obtain ⟨m1, hm1⟩ := h1
  obtain ⟨xs1, n1, _, hx1, _, hlen1, hf1⟩ := DataW.trod_struct Try.underlying28 hm1
  have hd1 : d1 = .agg (xs1.map (·.1)) := congrArg Prod.fst hx1
  have hw1 : ∀ m ∈ DataW.weightsEach Try.prog [3, 9, 9, 3, 3, 3, 26] (xs1.map (·.1)), m ≤ 140737488351232 := by
    intro m hm
    refine (top_weights hsz (j := 1) (t := 28) rfl rfl) m ?_
    rw [hd1]
    simp only [DataW.weights, Try.underlying28]
    exact hm
  obtain ⟨a1_0, K1_0, g1_0⟩ := opens_field hlen1 (i := 0) rfl (hf1 0 _ rfl) hw1 (opens_int Try.underlying3)
  obtain ⟨a1_1, K1_1, g1_1⟩ := opens_field hlen1 (i := 1) rfl (hf1 1 _ rfl) hw1 (opens_string Try.underlying9)
  obtain ⟨a1_2, K1_2, g1_2⟩ := opens_field hlen1 (i := 2) rfl (hf1 2 _ rfl) hw1 (opens_string Try.underlying9)
  obtain ⟨a1_3, K1_3, g1_3⟩ := opens_field hlen1 (i := 3) rfl (hf1 3 _ rfl) hw1 (opens_int Try.underlying3)
  obtain ⟨a1_4, K1_4, g1_4⟩ := opens_field hlen1 (i := 4) rfl (hf1 4 _ rfl) hw1 (opens_int Try.underlying3)
  obtain ⟨a1_5, K1_5, g1_5⟩ := opens_field hlen1 (i := 5) rfl (hf1 5 _ rfl) hw1 (opens_int Try.underlying3)
  obtain ⟨a1_6, K1_6, g1_6⟩ := opens_field hlen1 (i := 6) rfl (hf1 6 _ rfl) hw1 (opens_slice (b := 8) Try.underlying26 (by kernel_rfl) (by kernel_rfl) (opens_int Try.underlying3))
  obtain ⟨u1_0, u1_1, u1_2, u1_3, u1_4, u1_5, u1_6, rfl⟩ := arr7 (hcs1.trans (by kernel_rfl))
  obtain rfl := take_one K1_0 (by kernel_rfl) rfl
  obtain rfl := take_one K1_1 (by kernel_rfl) rfl
  obtain rfl := take_one K1_2 (by kernel_rfl) rfl
  obtain rfl := take_one K1_3 (by kernel_rfl) rfl
  obtain rfl := take_one K1_4 (by kernel_rfl) rfl
  obtain rfl := take_one K1_5 (by kernel_rfl) rfl
  obtain ⟨A1_6, c1_6, rfl, hc1_6, hr1_6⟩ := take_slice K1_6 (by kernel_rfl) rfl
  obtain ⟨cs2, rfl, hcs2⟩ := okWide_struct Try.underlying38 (hval 2 38 v2 rfl rfl)
  have k2 := h2
  have lt2 : ∀ x ∈ p2, x.block < W.heap.size := by obtain ⟨m, hm⟩ := k2; exact DataW.trod_lt m _ _ _ hm
  obtain ⟨m2, hm2⟩ := h2
  obtain ⟨xs2, n2, _, hx2, _, hlen2, hf2⟩ := DataW.trod_struct Try.underlying38 hm2
  have hd2 : d2 = .agg (xs2.map (·.1)) := congrArg Prod.fst hx2
  have hw2 : ∀ m ∈ DataW.weightsEach Try.prog [29, 32, 33, 36, 3] (xs2.map (·.1)), m ≤ 140737488351232 := by
    intro m hm
    refine (top_weights hsz (j := 2) (t := 38) rfl rfl) m ?_
    rw [hd2]
    simp only [DataW.weights, Try.underlying38]
    exact hm
  obtain ⟨a2_0, K2_0, g2_0⟩ := opens_field hlen2 (i := 0) rfl (hf2 0 _ rfl) hw2 (opens_int Try.underlying29)
  obtain ⟨a2_1, K2_1, g2_1⟩ := opens_field hlen2 (i := 1) rfl (hf2 1 _ rfl) hw2 opens_k32
  obtain ⟨a2_2, K2_2, g2_2⟩ := opens_field hlen2 (i := 2) rfl (hf2 2 _ rfl) hw2 (opens_slice (b := 16) Try.underlying33 (by kernel_rfl) (by kernel_rfl) (opens_string Try.underlying9))
  obtain ⟨a2_3, K2_3, g2_3⟩ := opens_field hlen2 (i := 3) rfl (hf2 3 _ rfl) hw2 opens_k36
  obtain ⟨a2_4, K2_4, g2_4⟩ := opens_field hlen2 (i := 4) rfl (hf2 4 _ rfl) hw2 (opens_int Try.underlying3)
  obtain ⟨u2_0, u2_1, u2_2, u2_3, u2_4, u2_5, u2_6, u2_7, u2_8, u2_9, u2_10, rfl⟩ := arr11 (hcs2.trans (by kernel_rfl))
  obtain rfl := take_one K2_0 (by kernel_rfl) rfl
  have e1 : [u2_1, u2_2, u2_3] = [Value.int .i64 a2_1.f0, .int .i64 a2_1.f1, .int .i64 a2_1.f2] := k32_open (take_part K2_1 (by kernel_rfl) rfl)
  obtain ⟨A2_2, c2_2, rfl, hc2_2, hr2_2⟩ := take_slice K2_2 (by kernel_rfl) rfl
  obtain ⟨A2_3, c2_3, e3, hc2_3, hr2_3⟩ := k36_open (take_part (vs := [u2_5, u2_6, u2_7, u2_8, u2_9]) K2_3 (by kernel_rfl) rfl)
  obtain rfl := take_one K2_4 (by kernel_rfl) rfl
  simp only [List.cons.injEq, and_true] at e1 e3
  obtain ⟨rfl, rfl, rfl⟩ := e1
  obtain ⟨rfl, rfl, rfl, rfl, rfl⟩ := e3
  refine (tabulariumlaw13_RetryState.walk Pure.RetryState a0_0 a0_1 a0_2 a0_3 a0_4 a0_5 A0_6 c0_6 a0_6 a1_0 a1_1 a1_2 a1_3 a1_4 a1_5 A1_6 c1_6 a1_6 a2_0 a2_1.f0 a2_1.f1 a2_1.f2 A2_2 c2_2 a2_2 a2_3.f0 a2_3.f1 a2_3.f2 A2_3 c2_3 a2_3.f3 a2_3.f4 a2_4 W hr0_6 hc0_6 hr1_6 hc1_6 hr2_2 hc2_2 hr2_3 hc2_3 g0_3 g0_4 g2_2.2.1 g2_3).mono fun e W' ⟨he, bel⟩ => ?_
  subst he
  exact ⟨_, rfl, _, _, _, [], _, [], hW', trodAll_mk1 (shut_bool Try.underlying4 _), (trodAll_cons_mk (Below.trod laidOut (by kernel_rfl) (of_decide_eq_true (by kernel_rfl)) k0 bel lt0) (trodAll_cons_mk (Below.trod laidOut (by kernel_rfl) (of_decide_eq_true (by kernel_rfl)) k1 bel lt1) (trodAll_cons_mk (Below.trod laidOut (by kernel_rfl) (of_decide_eq_true (by kernel_rfl)) k2 bel lt2) trodAll_mk0))), rfl, bel.frame _, fun h => by cases h⟩
theorem over : Rows.retryStateRow.holds Try.pinned (OpenSpec.ofChange Rows.retryStateSpec) :=
  OpenClaim.holds_of_wide 4 Try.f4 rfl rfl rfl rfl rfl rfl rfl ⟨rfl, rfl, rfl, rfl, rfl⟩ rfl rfl rfl rfl rfl (by kernel_rfl) Try.func4 (by kernel_rfl)
    (of_decide_eq_true (by kernel_rfl)) (by unfold Func.isWrapper; first | (rw [if_pos (by decide +kernel)]; kernel_rfl) | (rw [if_neg (by decide +kernel)]; exact ⟨rfl, rfl⟩))
    (fun os started H enc _ => lifted os started H enc)
theorem proved : Rows.RetryStateSaid := over
#print axioms proved
end Go.Proofs.Ytjailboidlmadaa.retryState
namespace Go.Proofs.Ytjailboidlmadaa
/-- The row, under a short name, for the claim. -/
theorem retryState_holds : Rows.RetryStateSaid := retryState.proved
end Go.Proofs.Ytjailboidlmadaa
