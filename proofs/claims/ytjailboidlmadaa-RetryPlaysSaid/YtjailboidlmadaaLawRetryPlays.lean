/- The row of the law RetryPlays, out of its plain facts and the walk: the deeds are read as data, and read behind the call as they read before. -/
import Derived.Test.YtjailboidlmadaaRows
import Derived.Test.YtjailboidlmadaaRI
import Derived.Test.YtjailboidlmadaaPureRetryPlays
import Derived.Test.YtjailboidlmadaaRd
import Derived.WalkKit
import Derived.ProofKit
import Derived.OpenShut
import Derived.ShutString
import Derived.ChangeOld
import Derived.Below
import Derived.SizedLaws
namespace Go.Proofs.Ytjailboidlmadaa.retryPlays
open Go.ChangeShapes Go.WideShapes Go.ChangeAt Go.RowKit Go.Proofs.Ytjailboidlmadaa.P Go.Proofs.YtjailboidlmadaaW.PrintWords
open Go.ChangeMaps (open_string shut_string)
set_option linter.unusedVariables false
theorem lst3 {α : Type} {cs : List α} (h : cs.length = 3) : ∃ c0 c1 c2, cs = [c0, c1, c2] := by
  match cs, h with
  | [c0, c1, c2], _ => exact ⟨c0, c1, c2, rfl⟩
theorem lst5 {α : Type} {cs : List α} (h : cs.length = 5) : ∃ c0 c1 c2 c3 c4, cs = [c0, c1, c2, c3, c4] := by
  match cs, h with
  | [c0, c1, c2, c3, c4], _ => exact ⟨c0, c1, c2, c3, c4, rfl⟩
theorem lst7 {α : Type} {cs : List α} (h : cs.length = 7) : ∃ c0 c1 c2 c3 c4 c5 c6, cs = [c0, c1, c2, c3, c4, c5, c6] := by
  match cs, h with
  | [c0, c1, c2, c3, c4, c5, c6], _ => exact ⟨c0, c1, c2, c3, c4, c5, c6, rfl⟩
theorem lst11 {α : Type} {cs : List α} (h : cs.length = 11) : ∃ c0 c1 c2 c3 c4 c5 c6 c7 c8 c9 c10, cs = [c0, c1, c2, c3, c4, c5, c6, c7, c8, c9, c10] := by
  match cs, h with
  | [c0, c1, c2, c3, c4, c5, c6, c7, c8, c9, c10], _ => exact ⟨c0, c1, c2, c3, c4, c5, c6, c7, c8, c9, c10, rfl⟩
theorem lst21 {α : Type} {cs : List α} (h : cs.length = 21) : ∃ c0 c1 c2 c3 c4 c5 c6 c7 c8 c9 c10 c11 c12 c13 c14 c15 c16 c17 c18 c19 c20, cs = [c0, c1, c2, c3, c4, c5, c6, c7, c8, c9, c10, c11, c12, c13, c14, c15, c16, c17, c18, c19, c20] := by
  match cs, h with
  | [c0, c1, c2, c3, c4, c5, c6, c7, c8, c9, c10, c11, c12, c13, c14, c15, c16, c17, c18, c19, c20], _ => exact ⟨c0, c1, c2, c3, c4, c5, c6, c7, c8, c9, c10, c11, c12, c13, c14, c15, c16, c17, c18, c19, c20, rfl⟩
/-- a node's cells -/
structure S36 where
  f0 : ByteArray
  f1 : Bool
  f2 : Int
  f3 : List S32
  f4 : Int
def k36 : Kd S36 := Kd.iso (Kd.pair Kd.string (Kd.pair Kd.bool (Kd.pair (Kd.int .i64) (Kd.pair (Kd.slice 32 k32) (Kd.int .i64))))) (fun x : S36 => (x.f0, x.f1, x.f2, x.f3, x.f4))
theorem k36_mk (w : World) (x : S36) {A3 : Option Addr} {c3 : Nat} (l3 : x.f3.length ≤ c3) (g3 : k32.C w A3 x.f3.length x.f3) : k36.K w x [.string x.f0, .bool x.f1, .int .i64 x.f2, .slice A3 x.f3.length c3, .int .i64 x.f4] :=
  ⟨[.string x.f0], [.bool x.f1, .int .i64 x.f2, .slice A3 x.f3.length c3, .int .i64 x.f4], rfl, rfl, ⟨[.bool x.f1], [.int .i64 x.f2, .slice A3 x.f3.length c3, .int .i64 x.f4], rfl, rfl, ⟨[.int .i64 x.f2], [.slice A3 x.f3.length c3, .int .i64 x.f4], rfl, rfl, ⟨[.slice A3 x.f3.length c3], [.int .i64 x.f4], rfl, ⟨A3, c3, rfl, l3, g3⟩, rfl⟩⟩⟩⟩
theorem k36_open {w : World} {x : S36} {cs : List Value} (h : k36.K w x cs) : ∃ A3 c3, cs = [.string x.f0, .bool x.f1, .int .i64 x.f2, .slice A3 x.f3.length c3, .int .i64 x.f4] ∧ x.f3.length ≤ c3 ∧ k32.C w A3 x.f3.length x.f3 := by
  obtain ⟨_, _, rfl, rfl, ⟨_, _, rfl, rfl, ⟨_, _, rfl, rfl, ⟨_, _, rfl, ⟨A3, c3, rfl, l3, g3⟩, rfl⟩⟩⟩⟩ := h
  exact ⟨A3, c3, rfl, l3, g3⟩
theorem opens_k32 {H : Type} {enc : TypeId × Value → H} {w : World} {base : Nat} {spare : Nat → Bool} {held : Bool} : Opens enc Try.prog w base spare held 32 k32 (fun x => ((Lit.int .i64 x.f0).wf = true) ∧ ((Lit.int .i64 x.f1).wf = true) ∧ ((Lit.int .i64 x.f2).wf = true)) := by
  intro fuel cs y h hw
  obtain ⟨xs, n, _, hx, hl, hlen, hf⟩ := DataW.trod_struct Try.underlying32 h
  subst hx
  have hw2 : ∀ m ∈ DataW.weightsEach Try.prog [3, 3, 3] (xs.map (·.1)), m ≤ 140737488351232 := by intro m hm; refine hw m ?_; simp only [DataW.weights, Try.underlying32]; exact hm
  obtain ⟨a0, K0, g0⟩ := opens_field hlen (i := 0) rfl (hf 0 _ rfl) hw2 (opens_int Try.underlying3)
  obtain ⟨a1, K1, g1⟩ := opens_field hlen (i := 1) rfl (hf 1 _ rfl) hw2 (opens_int Try.underlying3)
  obtain ⟨a2, K2, g2⟩ := opens_field hlen (i := 2) rfl (hf 2 _ rfl) hw2 (opens_int Try.underlying3)
  obtain ⟨u0, u1, u2, rfl⟩ := lst3 (hl.trans (by kernel_rfl))
  obtain rfl := take_one K0 (by kernel_rfl) rfl
  obtain rfl := take_one K1 (by kernel_rfl) rfl
  obtain rfl := take_one K2 (by kernel_rfl) rfl
  exact ⟨⟨a0, a1, a2⟩, k32_mk _ ⟨a0, a1, a2⟩, g0, g1, g2⟩
theorem opens_k36 {H : Type} {enc : TypeId × Value → H} {w : World} {base : Nat} {spare : Nat → Bool} {held : Bool} : Opens enc Try.prog w base spare held 36 k36 (fun x => x.f3.length * 24 ≤ 140737488351232) := by
  intro fuel cs y h hw
  obtain ⟨xs, n, _, hx, hl, hlen, hf⟩ := DataW.trod_struct Try.underlying36 h
  subst hx
  have hw2 : ∀ m ∈ DataW.weightsEach Try.prog [9, 4, 3, 34, 3] (xs.map (·.1)), m ≤ 140737488351232 := by intro m hm; refine hw m ?_; simp only [DataW.weights, Try.underlying36]; exact hm
  obtain ⟨a0, K0, g0⟩ := opens_field hlen (i := 0) rfl (hf 0 _ rfl) hw2 (opens_string Try.underlying9)
  obtain ⟨a1, K1, g1⟩ := opens_field hlen (i := 1) rfl (hf 1 _ rfl) hw2 (opens_bool Try.underlying4)
  obtain ⟨a2, K2, g2⟩ := opens_field hlen (i := 2) rfl (hf 2 _ rfl) hw2 (opens_int Try.underlying3)
  obtain ⟨a3, K3, g3⟩ := opens_field hlen (i := 3) rfl (hf 3 _ rfl) hw2 (opens_slice (b := 24) Try.underlying34 (by kernel_rfl) (by kernel_rfl) opens_k32)
  obtain ⟨a4, K4, g4⟩ := opens_field hlen (i := 4) rfl (hf 4 _ rfl) hw2 (opens_int Try.underlying3)
  obtain ⟨u0, u1, u2, u3, u4, rfl⟩ := lst5 (hl.trans (by kernel_rfl))
  obtain rfl := take_one K0 (by kernel_rfl) rfl
  obtain rfl := take_one K1 (by kernel_rfl) rfl
  obtain rfl := take_one K2 (by kernel_rfl) rfl
  obtain ⟨A3, c3, rfl, hc3, hr3⟩ := take_slice K3 (by kernel_rfl) rfl
  obtain rfl := take_one K4 (by kernel_rfl) rfl
  exact ⟨⟨a0, a1, a2, a3, a4⟩, k36_mk _ ⟨a0, a1, a2, a3, a4⟩ hc3 hr3, g3.2.1⟩
/-- some cells out of a row -/
theorem take_part {α : Type} {d : Kd α} {w : World} {cs vs : List Value} {j n : Nat} {x : α} (h : d.K w x ((cs.drop j).take n)) (hn : n = vs.length) (hv : (cs.drop j).take vs.length = vs) : d.K w x vs := by
  subst hn
  rw [hv] at h
  exact h
/-- an edit's cells -/
structure S28 where
  f0 : Int
  f1 : ByteArray
  f2 : ByteArray
  f3 : Int
  f4 : Int
  f5 : Int
  f6 : List Int
def k28 : Kd S28 := Kd.iso (Kd.pair (Kd.int .i64) (Kd.pair Kd.string (Kd.pair Kd.string (Kd.pair (Kd.int .i64) (Kd.pair (Kd.int .i64) (Kd.pair (Kd.int .i64) (Kd.slice 3 (Kd.int .i64)))))))) (fun x : S28 => (x.f0, x.f1, x.f2, x.f3, x.f4, x.f5, x.f6))
theorem k28_open {w : World} {x : S28} {cs : List Value} (h : k28.K w x cs) : ∃ A c, cs = [.int .i64 x.f0, .string x.f1, .string x.f2, .int .i64 x.f3, .int .i64 x.f4, .int .i64 x.f5, .slice A x.f6.length c] ∧ x.f6.length ≤ c ∧ Kd.C (Kd.int .i64) w A x.f6.length x.f6 := by
  obtain ⟨_, _, rfl, rfl, ⟨_, _, rfl, rfl, ⟨_, _, rfl, rfl, ⟨_, _, rfl, rfl, ⟨_, _, rfl, rfl, ⟨_, _, rfl, rfl, ⟨A, c, rfl, l, g⟩⟩⟩⟩⟩⟩⟩ := h
  exact ⟨A, c, rfl, l, g⟩
theorem opens_k28 {H : Type} {enc : TypeId × Value → H} {w : World} {base : Nat} {spare : Nat → Bool} {held : Bool} : Opens enc Try.prog w base spare held 28 k28 (fun x => ((Lit.int .i64 x.f3).wf = true) ∧ ((Lit.int .i64 x.f4).wf = true)) := by
  intro fuel cs y h hw
  obtain ⟨xs, n, _, hx, hl, hlen, hf⟩ := DataW.trod_struct Try.underlying28 h
  subst hx
  have hw2 : ∀ m ∈ DataW.weightsEach Try.prog [3, 9, 9, 3, 3, 3, 26] (xs.map (·.1)), m ≤ 140737488351232 := by intro m hm; refine hw m ?_; simp only [DataW.weights, Try.underlying28]; exact hm
  obtain ⟨a0, K0, g0⟩ := opens_field hlen (i := 0) rfl (hf 0 _ rfl) hw2 (opens_int Try.underlying3)
  obtain ⟨a1, K1, g1⟩ := opens_field hlen (i := 1) rfl (hf 1 _ rfl) hw2 (opens_string Try.underlying9)
  obtain ⟨a2, K2, g2⟩ := opens_field hlen (i := 2) rfl (hf 2 _ rfl) hw2 (opens_string Try.underlying9)
  obtain ⟨a3, K3, g3⟩ := opens_field hlen (i := 3) rfl (hf 3 _ rfl) hw2 (opens_int Try.underlying3)
  obtain ⟨a4, K4, g4⟩ := opens_field hlen (i := 4) rfl (hf 4 _ rfl) hw2 (opens_int Try.underlying3)
  obtain ⟨a5, K5, g5⟩ := opens_field hlen (i := 5) rfl (hf 5 _ rfl) hw2 (opens_int Try.underlying3)
  obtain ⟨a6, K6, g6⟩ := opens_field hlen (i := 6) rfl (hf 6 _ rfl) hw2 (opens_slice (b := 8) Try.underlying26 (by kernel_rfl) (by kernel_rfl) (opens_int Try.underlying3))
  obtain ⟨u0, u1, u2, u3, u4, u5, u6, rfl⟩ := lst7 (hl.trans (by kernel_rfl))
  exact ⟨⟨a0, a1, a2, a3, a4, a5, a6⟩, ⟨[u0], [u1, u2, u3, u4, u5, u6], rfl, take_part (vs := [u0]) K0 (by kernel_rfl) rfl, ⟨[u1], [u2, u3, u4, u5, u6], rfl, take_part (vs := [u1]) K1 (by kernel_rfl) rfl, ⟨[u2], [u3, u4, u5, u6], rfl, take_part (vs := [u2]) K2 (by kernel_rfl) rfl, ⟨[u3], [u4, u5, u6], rfl, take_part (vs := [u3]) K3 (by kernel_rfl) rfl, ⟨[u4], [u5, u6], rfl, take_part (vs := [u4]) K4 (by kernel_rfl) rfl, ⟨[u5], [u6], rfl, take_part (vs := [u5]) K5 (by kernel_rfl) rfl, take_part (vs := [u6]) K6 (by kernel_rfl) rfl⟩⟩⟩⟩⟩⟩, g3, g4⟩
/-- an answer's cells -/
structure S38 where
  f0 : Int
  f1 : S32
  f2 : List ByteArray
  f3 : S36
  f4 : Int
def k38 : Kd S38 := Kd.iso (Kd.pair (Kd.int .i64) (Kd.pair k32 (Kd.pair (Kd.slice 9 Kd.string) (Kd.pair k36 (Kd.int .i64))))) (fun x : S38 => (x.f0, x.f1, x.f2, x.f3, x.f4))
theorem k38_open {w : World} {x : S38} {cs : List Value} (h : k38.K w x cs) : ∃ A c A' c', cs = [.int .i64 x.f0, .int .i64 x.f1.f0, .int .i64 x.f1.f1, .int .i64 x.f1.f2, .slice A x.f2.length c, .string x.f3.f0, .bool x.f3.f1, .int .i64 x.f3.f2, .slice A' x.f3.f3.length c', .int .i64 x.f3.f4, .int .i64 x.f4] ∧ (x.f2.length ≤ c ∧ Kd.C Kd.string w A x.f2.length x.f2) ∧ (x.f3.f3.length ≤ c' ∧ k32.C w A' x.f3.f3.length x.f3.f3) := by
  obtain ⟨_, _, rfl, rfl, ⟨_, _, rfl, h1, ⟨_, _, rfl, ⟨A, c, rfl, l, g⟩, ⟨_, _, rfl, h3, rfl⟩⟩⟩⟩ := h
  obtain rfl := k32_open h1
  obtain ⟨A', c', rfl, l', g'⟩ := k36_open h3
  exact ⟨A, c, A', c', rfl, ⟨l, g⟩, l', g'⟩
theorem opens_k38 {H : Type} {enc : TypeId × Value → H} {w : World} {base : Nat} {spare : Nat → Bool} {held : Bool} : Opens enc Try.prog w base spare held 38 k38 (fun x => x.f2.length * 16 ≤ 140737488351232 ∧ x.f3.f3.length * 24 ≤ 140737488351232) := by
  intro fuel cs y h hw
  obtain ⟨xs, n, _, hx, hl, hlen, hf⟩ := DataW.trod_struct Try.underlying38 h
  subst hx
  have hw2 : ∀ m ∈ DataW.weightsEach Try.prog [29, 32, 33, 36, 3] (xs.map (·.1)), m ≤ 140737488351232 := by intro m hm; refine hw m ?_; simp only [DataW.weights, Try.underlying38]; exact hm
  obtain ⟨a0, K0, g0⟩ := opens_field hlen (i := 0) rfl (hf 0 _ rfl) hw2 (opens_int Try.underlying29)
  obtain ⟨a1, K1, g1⟩ := opens_field hlen (i := 1) rfl (hf 1 _ rfl) hw2 opens_k32
  obtain ⟨a2, K2, g2⟩ := opens_field hlen (i := 2) rfl (hf 2 _ rfl) hw2 (opens_slice (b := 16) Try.underlying33 (by kernel_rfl) (by kernel_rfl) (opens_string Try.underlying9))
  obtain ⟨a3, K3, g3⟩ := opens_field hlen (i := 3) rfl (hf 3 _ rfl) hw2 opens_k36
  obtain ⟨a4, K4, g4⟩ := opens_field hlen (i := 4) rfl (hf 4 _ rfl) hw2 (opens_int Try.underlying3)
  obtain ⟨u0, u1, u2, u3, u4, u5, u6, u7, u8, u9, u10, rfl⟩ := lst11 (hl.trans (by kernel_rfl))
  exact ⟨⟨a0, a1, a2, a3, a4⟩, ⟨[u0], [u1, u2, u3, u4, u5, u6, u7, u8, u9, u10], rfl, take_part (vs := [u0]) K0 (by kernel_rfl) rfl, ⟨[u1, u2, u3], [u4, u5, u6, u7, u8, u9, u10], rfl, take_part (vs := [u1, u2, u3]) K1 (by kernel_rfl) rfl, ⟨[u4], [u5, u6, u7, u8, u9, u10], rfl, take_part (vs := [u4]) K2 (by kernel_rfl) rfl, ⟨[u5, u6, u7, u8, u9], [u10], rfl, take_part (vs := [u5, u6, u7, u8, u9]) K3 (by kernel_rfl) rfl, take_part (vs := [u10]) K4 (by kernel_rfl) rfl⟩⟩⟩⟩, g2.2.1, g3⟩
/-- a deed's cells -/
structure S53 where
  f0 : Int
  f1 : Int
  f2 : Int
  f3 : S28
  f4 : S38
def k53 : Kd S53 := Kd.iso (Kd.pair (Kd.int .i64) (Kd.pair (Kd.int .i64) (Kd.pair (Kd.int .i64) (Kd.pair k28 k38)))) (fun x : S53 => (x.f0, x.f1, x.f2, x.f3, x.f4))
def good53 (x : S53) : Prop := ((Lit.int .i64 x.f0).wf = true ∧ (Lit.int .i64 x.f1).wf = true ∧ (Lit.int .i64 x.f2).wf = true) ∧ ((Lit.int .i64 x.f3.f3).wf = true ∧ (Lit.int .i64 x.f3.f4).wf = true) ∧ (x.f4.f2.length * 16 ≤ 140737488351232 ∧ x.f4.f3.f3.length * 24 ≤ 140737488351232)
theorem opens_k53 {H : Type} {enc : TypeId × Value → H} {w : World} {base : Nat} {spare : Nat → Bool} {held : Bool} : Opens enc Try.prog w base spare held 53 k53 (fun x => good53 x) := by
  intro fuel cs y h hw
  obtain ⟨xs, n, _, hx, hl, hlen, hf⟩ := DataW.trod_struct Try.underlying53 h
  subst hx
  have hw2 : ∀ m ∈ DataW.weightsEach Try.prog [3, 3, 3, 28, 38] (xs.map (·.1)), m ≤ 140737488351232 := by intro m hm; refine hw m ?_; simp only [DataW.weights, Try.underlying53]; exact hm
  obtain ⟨a0, K0, g0⟩ := opens_field hlen (i := 0) rfl (hf 0 _ rfl) hw2 (opens_int Try.underlying3)
  obtain ⟨a1, K1, g1⟩ := opens_field hlen (i := 1) rfl (hf 1 _ rfl) hw2 (opens_int Try.underlying3)
  obtain ⟨a2, K2, g2⟩ := opens_field hlen (i := 2) rfl (hf 2 _ rfl) hw2 (opens_int Try.underlying3)
  obtain ⟨a3, K3, g3⟩ := opens_field hlen (i := 3) rfl (hf 3 _ rfl) hw2 opens_k28
  obtain ⟨a4, K4, g4⟩ := opens_field hlen (i := 4) rfl (hf 4 _ rfl) hw2 opens_k38
  obtain ⟨u0, u1, u2, u3, u4, u5, u6, u7, u8, u9, u10, u11, u12, u13, u14, u15, u16, u17, u18, u19, u20, rfl⟩ := lst21 (hl.trans (by kernel_rfl))
  exact ⟨⟨a0, a1, a2, a3, a4⟩, ⟨[u0], [u1, u2, u3, u4, u5, u6, u7, u8, u9, u10, u11, u12, u13, u14, u15, u16, u17, u18, u19, u20], rfl, take_part (vs := [u0]) K0 (by kernel_rfl) rfl, ⟨[u1], [u2, u3, u4, u5, u6, u7, u8, u9, u10, u11, u12, u13, u14, u15, u16, u17, u18, u19, u20], rfl, take_part (vs := [u1]) K1 (by kernel_rfl) rfl, ⟨[u2], [u3, u4, u5, u6, u7, u8, u9, u10, u11, u12, u13, u14, u15, u16, u17, u18, u19, u20], rfl, take_part (vs := [u2]) K2 (by kernel_rfl) rfl, ⟨[u3, u4, u5, u6, u7, u8, u9], [u10, u11, u12, u13, u14, u15, u16, u17, u18, u19, u20], rfl, take_part (vs := [u3, u4, u5, u6, u7, u8, u9]) K3 (by kernel_rfl) rfl, take_part (vs := [u10, u11, u12, u13, u14, u15, u16, u17, u18, u19, u20]) K4 (by kernel_rfl) rfl⟩⟩⟩⟩, ⟨g0, g1, g2⟩, g3, g4⟩
theorem deeds_of {w : World} {A : Option Addr} {xs : List S53} (h : k53.C w A xs.length xs) (hg : ∀ x ∈ xs, good53 x) : Deeds w A xs.length := by
  intro i hi
  obtain ⟨ad, hA, hc⟩ := h.2.2 (by omega)
  obtain ⟨cs, hl, hk, hcell⟩ := hc i _ (List.getElem?_eq_getElem hi)
  obtain ⟨⟨w0, w1, w2⟩, ⟨w3, w4⟩, z4, z8⟩ := hg _ (List.getElem_mem hi)
  generalize xs[i] = x at hk w0 w1 w2 w3 w4 z4 z8
  obtain ⟨_, _, rfl, rfl, ⟨_, _, rfl, rfl, ⟨_, _, rfl, rfl, ⟨_, _, rfl, h3, h4⟩⟩⟩⟩ := hk
  obtain ⟨A6, c6, rfl, l6, g6⟩ := k28_open h3
  obtain ⟨A4, c4, A8, c8, rfl, ⟨l4, g4⟩, l8, g8⟩ := k38_open h4
  exact ⟨ad, x.f0, x.f1, x.f2, ⟨x.f3.f0, x.f3.f1, x.f3.f2, x.f3.f3, x.f3.f4, x.f3.f5, A6, c6, x.f3.f6, ⟨x.f4.f0, x.f4.f1.f0, x.f4.f1.f1, x.f4.f1.f2, x.f4.f2, x.f4.f3.f0, x.f4.f3.f1, x.f4.f3.f2, x.f4.f3.f3, x.f4.f3.f4, x.f4.f4⟩, A4, c4, A8, c8⟩, hA, fun j u hu => hcell j u hu, ⟨g6, l6, g4, l4, g8, l8⟩, w0, ⟨w1, w2⟩, ⟨w3, w4⟩, ⟨(show x.f4.f2.length * 16 ≤ 140737488355328 by omega), (show x.f4.f3.f3.length * 24 ≤ 140737488355328 by omega)⟩⟩
theorem own : ownKnob Try.prog.godebug = none := by kernel_rfl
theorem laidOut : laidOutB Try.prog = true := by kernel_rfl
set_option maxRecDepth 100000 in
theorem lifted (os : Os) (started : os.Started) (H : Type) (enc : TypeId × Value → H) :
    ReturnsInHanded {} Try.checked os 5 .any (Rows.retryPlaysSpec.pre6 enc Try.prog Try.f5 Rows.retryPlaysRow.domain false) (Rows.retryPlaysSpec.post enc Try.prog Try.f5 false true false false) := by
  refine returnsInHanded_of_change_sized (C := Try.checked) own started (by kernel_rfl) Try.func5
    (ChangeSpec.witness6 (enc := enc) (C := Try.checked) false ⟨#[], #[.slice none 0 0], []⟩ 8 (by kernel_rfl) (by kernel_rfl) (by kernel_rfl) (by kernel_rfl)) ?_
  intro W base args ds gs before hval0 hW hcnd hsz0 _
  have hsz : (DataW.weightsEach Try.prog (Try.f5.params.toList ++ Rows.retryPlaysSpec.plain.varTypes Try.prog) (ds ++ gs)).all (· ≤ reachBytes) = true := hsz0
  have hval : ∀ (j : Nat) t v, Try.f5.params[j]? = some t → args[j]? = some v → Value.okWide Try.prog W .any base t v := hval0
  have hW' := hW
  obtain ⟨p, q, hA0, hV, rfl, hfz, hnd⟩ := hW
  have hA : DataW.TrodAll enc Try.prog W 0 (fun _ => true) true Try.f5.params.toList args.toList ds p := hA0
  rw [Try.params5] at hA hval hsz
  obtain ⟨v0, vs0, d0, ds0, p0, q0, hargs, rfl, rfl, h0, r0⟩ := trodAll_cons hA
  obtain ⟨rfl, rfl, rfl⟩ := trodAll_nil r0
  obtain rfl : args = #[v0] := by cases args; simp_all
  obtain ⟨rfl, rfl⟩ := trodVars_none hV
  obtain ⟨A0, len0, cap0, rfl⟩ := okWide_slice Try.underlying47 (hval 0 47 v0 rfl rfl)
  have k0 := h0
  have lt0 : ∀ x ∈ p0, x.block < W.heap.size := by obtain ⟨m, hm⟩ := k0; exact DataW.trod_lt m _ _ _ hm
  obtain ⟨l0, e0, c0, hr0, g0⟩ := top_slice (opens_slice (b := 240) Try.underlying47 (by kernel_rfl) (by kernel_rfl) opens_k53) h0 (top_weights hsz (j := 0) (t := 47) rfl rfl)
  subst e0
  refine (plays_walk Pure.RetryPlays A0 l0.length cap0 W (deeds_of hr0 g0.2.2) c0).mono fun e W' ⟨he, bel⟩ => ?_
  subst he
  exact ⟨_, rfl, _, _, _, [], _, [], hW', trodAll_mk1 (shut_bool Try.underlying4 _), (trodAll_cons_mk (Below.trod laidOut (by kernel_rfl) (of_decide_eq_true (by kernel_rfl)) k0 bel lt0) trodAll_mk0), rfl, bel.frame _, fun h => by cases h⟩
theorem over : Rows.retryPlaysRow.holds Try.pinned (OpenSpec.ofChange Rows.retryPlaysSpec) :=
  OpenClaim.holds_of_wide 5 Try.f5 rfl rfl rfl rfl rfl rfl rfl ⟨rfl, rfl, rfl, rfl, rfl⟩ rfl rfl rfl rfl rfl (by kernel_rfl) Try.func5 (by kernel_rfl)
    (of_decide_eq_true (by kernel_rfl)) (by unfold Func.isWrapper; first | (rw [if_pos (by decide +kernel)]; kernel_rfl) | (rw [if_neg (by decide +kernel)]; exact ⟨rfl, rfl⟩))
    (fun os started H enc _ => lifted os started H enc)
theorem proved : Rows.RetryPlaysSaid := over
#print axioms proved
end Go.Proofs.Ytjailboidlmadaa.retryPlays
namespace Go.Proofs.Ytjailboidlmadaa
/-- The row, under a short name, for the claim. -/
theorem retryPlays_holds : Rows.RetryPlaysSaid := retryPlays.proved
end Go.Proofs.Ytjailboidlmadaa
