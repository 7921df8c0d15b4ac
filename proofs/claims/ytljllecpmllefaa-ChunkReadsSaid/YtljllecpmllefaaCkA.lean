/- What package chunk and its reference write: heads, packets, ends, whole files. -/
import Derived.Test.YtljllecpmllefaaSmA
import Derived.Test.YtljllecpmllefaaPx9
import Derived.Test.YtljllecpmllefaaPx10
import Derived.Test.YtljllecpmllefaaPx14
section

namespace Go.Proofs.Ytljllecpmllefaa.Sp
open Go.RowKit Go.Proofs.YtljllecpmllefaaW.PrintWords Go.Proofs.YtljllecpmllefaaW.PrintLast Go.Proofs.YtljllecpmllefaaW.PrintMore Go.Proofs.Ytljllecpmllefaa.P
set_option linter.unusedVariables false

def sealB (s : ByteArray) : ByteArray := (seal_ s).getD ⟨#[]⟩
theorem seal_small {s : ByteArray} (h : s.size ≤ 4000) : seal_ s = some (sealB s) ∧ (sealB s).size ≤ s.size + 14 ∧ s.size + 5 ≤ (sealB s).size := by
  unfold sealB seal_
  cases e : text s with
  | none =>
    unfold text at e
    rw [if_neg (by omega)] at e
    cases e
  | some t =>
    have := text_size e
    refine ⟨rfl, ?_⟩
    show (t ++ four (csum s)).size ≤ s.size + 14 ∧ s.size + 5 ≤ (t ++ four (csum s)).size
    rw [ByteArray.size_append, four_size]
    omega
theorem seal_f {s : ByteArray} (h : s.size ≤ 4000) (k : Nat) (hk : 10 ≤ k) : chunk_seal.f k s = some (sealB s) := by
  unfold chunk_seal.f
  rw [seal_at s (by omega) k hk, Option.bind_some]
  unfold sealW
  rw [(seal_small h).1]
def hB (id gen : Int) : ByteArray := ((⟨#[104]⟩ : ByteArray) ++ num id) ++ num gen
def headv (id gen : Int) : ByteArray × Int := if numb id = true ∧ numb gen = true then (sealB (hB id gen), 0) else (⟨#[]⟩, 1)
theorem one_size (a : UInt8) : (⟨#[a]⟩ : ByteArray).size = 1 := rfl
theorem numb_range {n : Int} (h : numb n = true) : 1 ≤ n ∧ n ≤ 9007199254740991 := of_decide_eq_true h
theorem hB_size {id gen : Int} (h1 : numb id = true) (h2 : numb gen = true) : (hB id gen).size ≤ 21 := by
  have a := numb_range h1
  have b := numb_range h2
  have c := num_size_le (n := id) (by omega)
  have d := num_size_le (n := gen) (by omega)
  unfold hB
  rw [ByteArray.size_append, ByteArray.size_append, one_size]
  omega
theorem head_at (id gen : Int) (k : Nat) (hk : 20 ≤ k) : chunk_Head.f k id gen = some (headv id gen) := by
  obtain ⟨q, rfl⟩ : ∃ q, k = q + 1 := ⟨k - 1, by omega⟩
  unfold chunk_Head.f headv
  rw [number_at, Option.bind_some]
  by_cases h1 : numb id = true
  · rw [if_pos h1, number_at, Option.bind_some]
    by_cases h2 : numb gen = true
    · have a := numb_range h1
      have b := numb_range h2
      have c := num_size_le (n := id) (by omega)
      have d := num_size_le (n := gen) (by omega)
      have e := hB_size h1 h2
      rw [if_pos ⟨h1, h2⟩, h2, chunk_Head.j0, if_neg (by decide), wire_num_at (by omega) q (by omega), Option.bind_some, if_pos (by omega), wire_num_at (by omega) q (by omega), Option.bind_some, if_pos (by rw [ByteArray.size_append, one_size]; omega)]
      show ((chunk_seal.f q (hB id gen)).bind fun t131 => (some (t131, 0))) = _
      rw [seal_f (by omega) q (by omega), Option.bind_some]
    · rw [if_neg (fun q => h2 q.2), Bool.eq_false_iff.mpr h2, chunk_Head.j0, if_pos (show (!false) = true from rfl)]
  · rw [if_neg h1, if_neg (fun q => h1 q.1), chunk_Head.j0, if_pos rfl]
def dB (data : ByteArray) : ByteArray := (⟨#[100]⟩ : ByteArray) ++ data
theorem dB_size (data : ByteArray) : (dB data).size = data.size + 1 := by unfold dB; rw [ByteArray.size_append, one_size]; omega
def packv (data : ByteArray) : ByteArray × Int := if data.toList = ([] : List UInt8) then (⟨#[]⟩, 1) else if (data.size : Int) > 64 then (⟨#[]⟩, 4) else (sealB (dB data), 0)
theorem packet_at (data : ByteArray) (k : Nat) (hk : 20 ≤ k) : chunk_Packet.f k data = some (packv data) := by
  unfold chunk_Packet.f packv
  by_cases h1 : data.toList = ([] : List UInt8)
  · rw [if_pos h1, if_pos h1]
  · rw [if_neg h1, if_neg h1]
    by_cases h2 : (data.size : Int) > 64
    · rw [if_pos h2, if_pos h2]
    · have := dB_size data
      rw [if_neg h2, if_neg h2, if_pos (by omega)]
      show ((chunk_seal.f k (dB data)).bind fun t132 => (some (t132, 0))) = _
      rw [seal_f (by omega) k (by omega), Option.bind_some]
def endB : ByteArray := sealB (⟨#[101]⟩ : ByteArray)
theorem end_at (k : Nat) (hk : 20 ≤ k) : chunk_End.f k = some endB := by
  unfold chunk_End.f
  rw [seal_f (by rw [one_size]; omega) k (by omega), Option.bind_some]
  rfl
theorem endB_size : endB.size ≤ 15 := by
  have := (seal_small (s := (⟨#[101]⟩ : ByteArray)) (by rw [one_size]; omega)).2.1
  rw [one_size] at this
  exact this
def finB (acc : ByteArray) (f : Bool) : ByteArray := if f = true then acc ++ endB else acc
def wholev (id gen : Int) (data : ByteArray) (f : Bool) : ByteArray × Int :=
  if (headv id gen).2 = 0 then (if (data.size : Int) > 64 then (⟨#[]⟩, 4) else if data.toList = ([] : List UInt8) then (finB (headv id gen).1 f, 0) else (finB ((headv id gen).1 ++ sealB (dB data)) f, 0)) else (⟨#[]⟩, (headv id gen).2)
theorem headv_size (id gen : Int) : (headv id gen).1.size ≤ 35 := by
  unfold headv
  by_cases h : numb id = true ∧ numb gen = true
  · rw [if_pos h]
    have e := hB_size h.1 h.2
    have := (seal_small (s := hB id gen) (by omega)).2.1
    simp only
    omega
  · rw [if_neg h]
    exact Nat.zero_le _
theorem fin_at (acc : ByteArray) (h : acc.size ≤ 1000) (f : Bool) (k : Nat) (hk : 20 ≤ k) : chunk_Whole.fin k acc f = some (finB acc f, 0) := by
  unfold chunk_Whole.fin finB
  have := endB_size
  by_cases c : f = true
  · rw [if_pos c, if_pos c, end_at k hk, Option.bind_some, if_pos (by omega)]
  · rw [if_neg c, if_neg c]
theorem whole_at (id gen : Int) (data : ByteArray) (f : Bool) (k : Nat) (hk : 20 ≤ k) : chunk_Whole.f k id gen data f = some (wholev id gen data f) := by
  unfold chunk_Whole.f wholev
  have hz := headv_size id gen
  rw [head_at id gen k hk, Option.bind_some]
  generalize headv id gen = H at hz ⊢
  by_cases c1 : H.2 = 0
  · rw [if_pos c1, if_pos c1]
    by_cases c2 : (data.size : Int) > 64
    · rw [if_pos c2, if_pos c2]
    · rw [if_neg c2, if_neg c2, if_pos (by omega)]
      by_cases c3 : data.toList = ([] : List UInt8)
      · rw [if_pos c3, if_pos c3, fin_at _ (by omega) f k hk]
      · have hd := dB_size data
        have hs := (seal_small (s := dB data) (by omega)).2.1
        rw [if_neg c3, if_neg c3]
        show ((chunk_seal.f k (dB data)).bind fun t => if H.1.size + t.size ≤ 140737488355328 then chunk_Whole.fin k (H.1 ++ t) f else none) = _
        rw [seal_f (by omega) k (by omega), Option.bind_some, if_pos (by omega), fin_at _ (by rw [ByteArray.size_append]; omega) f k hk]
  · rw [if_neg c1, if_neg c1]
end Go.Proofs.Ytljllecpmllefaa.Sp
end
