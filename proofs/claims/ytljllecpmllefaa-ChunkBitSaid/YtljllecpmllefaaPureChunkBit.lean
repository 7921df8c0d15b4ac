/- The law ChunkBit over plain functions: one bit that is turned in a packet's text, or in its sum, hides it, and what stands behind it. For every two numbers, every two texts (the first 31 bytes of each and a mark) and every int. -/
import Derived.Test.YtljllecpmllefaaCkD
import Derived.Test.YtljllecpmllefaaPx29
namespace Go.Proofs.Ytljllecpmllefaa.Pure
open Go.RowKit Go.Proofs.Ytljllecpmllefaa.Sp Go.Proofs.YtljllecpmllefaaW.PrintWords Go.Proofs.YtljllecpmllefaaW.PrintLast Go.Proofs.YtljllecpmllefaaW.PrintMore Go.Proofs.Ytljllecpmllefaa.P
set_option linter.unusedVariables false

theorem num_one {n : Int} (h0 : 0 ≤ n) (h1 : n < 64) : (num n).size = 1 := by
  rw [num_size, vbs_lt (by unfold zig; split <;> omega)]
  rfl
/-- a packet with one byte turned is none -/
theorem part_turn (s r : ByteArray) (hs : s.size ≤ 40) {q : Nat} {m : Int} (h1 : 1 ≤ q) (hq : q < (sealB s).size) (hm : 1 ≤ m ∧ m < 256) (kind : Int) : partv (turnAt (sealB s) q m ++ r) kind = none := by
  obtain ⟨h, h2, h3⟩ := seal_small (s := s) (by omega)
  have hn : (num s.size).size = 1 := num_one (by omega) (by omega)
  have hf := (seal_form h).2
  have hz : (sealB s).size = 1 + (s.size + 4) := by
    have := congrArg ByteArray.size hf
    rw [ByteArray.size_append, ByteArray.size_append, hn, four_size'] at this
    exact this
  have ht := topen_turn h r (q := q - 1) (m := m) (by omega) hm
  rw [hn, show 1 + (q - 1) = q by omega] at ht
  refine partv_none ?_ kind
  rw [ht]
  decide
theorem mark_ne (a : ByteArray) (c : UInt8) : (a ++ (⟨#[c]⟩ : ByteArray)).toList ≠ ([] : List UInt8) := by
  intro q
  rw [ByteArray.toList_eq, ByteArray.data_append, Array.toList_append] at q
  simp at q
theorem ne_empty {a : ByteArray} (h : 0 < a.size) : (a.toList == ([] : List UInt8)) = false := by
  rw [beq_eq_false_iff_ne]
  intro q
  have := congrArg List.length q
  rw [ByteArray.toList_eq, Array.length_toList] at this
  have h2 : a.size = a.data.size := rfl
  rw [List.length_nil] at this
  omega
theorem ChunkBit : tabulariumlaw18_ChunkBit.Pure := by
  intro id gen one two bit w0 w1 w2 w3 w4
  obtain ⟨O, hO⟩ : ∃ O, O = one.extract 0 (mn (one.size : Int) 31).toNat ++ (⟨#[33]⟩ : ByteArray) := ⟨_, rfl⟩
  obtain ⟨T, hT⟩ : ∃ T, T = two.extract 0 (mn (two.size : Int) 31).toNat ++ (⟨#[63]⟩ : ByteArray) := ⟨_, rfl⟩
  have zO : O.size ≤ 32 := by rw [hO]; exact bit_cut one 33
  have zT : T.size ≤ 32 := by rw [hT]; exact bit_cut two 63
  have nO : O.toList ≠ ([] : List UInt8) := by rw [hO]; exact mark_ne _ _
  have nT : T.toList ≠ ([] : List UInt8) := by rw [hT]; exact mark_ne _ _
  have pO : packv O = (sealB (dB O), 0) := by unfold packv; rw [if_neg nO, if_neg (by omega)]
  have pT : packv T = (sealB (dB T), 0) := by unfold packv; rw [if_neg nT, if_neg (by omega)]
  refine ⟨400, O, T, (headv id gen).1, sealB (dB O), sealB (dB T), (headv id gen).2, hO, hT, examples_at 400 (by omega), head_at id gen 400 (by omega), by rw [packet_at O 400 (by omega), pO], by rw [packet_at T 400 (by omega), pT], ?_⟩
  by_cases h : numb id = true ∧ numb gen = true
  · have hh : headv id gen = (sealB (hB id gen), 0) := by unfold headv; rw [if_pos h]
    have dO := dB_size O
    have dT := dB_size T
    have sO := (seal_small (s := dB O) (by omega)).2
    have sT := (seal_small (s := dB T) (by omega)).2
    have eH := hB_size h.1 h.2
    have sH := (seal_small (s := hB id gen) (by omega)).2
    have hn := nn_range w4
    rw [hh]
    generalize hHd : sealB (hB id gen) = H at sH ⊢
    generalize hAa : sealB (dB O) = a at sO ⊢
    generalize hBb : sealB (dB T) = b at sT ⊢
    obtain ⟨B, hBe⟩ : ∃ B : Nat, (B : Int) = nn bit % (8 * ((a.size : Int) + (b.size : Int) - 2)) := ⟨(nn bit % (8 * ((a.size : Int) + (b.size : Int) - 2))).toNat, Int.toNat_of_nonneg (Int.emod_nonneg _ (by omega))⟩
    have hB1 : (B : Int) < 8 * ((a.size : Int) + (b.size : Int) - 2) := by rw [hBe]; exact Int.emod_lt_of_pos _ (by omega)
    have HBe := Aside0.mk hBe
    clear hBe
    refine .inr ⟨rfl, by simp only; omega, by simp only; omega, by omega, by omega, by omega, by omega, B, if 8 * (a.size - 1) ≤ B then 8 * (H.size + 1) + B + 8 else 8 * (H.size + 1) + B, HBe.out, fun c => if_pos c, fun c => if_neg (by omega), ?_, ?_⟩
    · simp only; split <;> omega
    · simp only
      by_cases c : 8 * (a.size - 1) ≤ B
      · rw [if_pos c]
        obtain ⟨A, hA⟩ : ∃ A, A = 8 * (H.size + 1) + B + 8 := ⟨_, rfl⟩
        rw [← hA]
        have hm := bitOf_range (r := (A : Int) % 8) (by omega) (by omega)
        obtain ⟨i, hi⟩ : ∃ i, A / 8 = (H ++ a).size + i ∧ 1 ≤ i ∧ i < b.size := ⟨A / 8 - (H ++ a).size, by rw [ByteArray.size_append]; omega, by rw [ByteArray.size_append]; omega, by rw [ByteArray.size_append]; omega⟩
        rw [hi.1, turn_right _ _ hi.2.2 hm, ByteArray.append_assoc, read_at]
        have hp : readv (H ++ (a ++ turnAt b i (bitOf ((A : Int) % 8)))) = (id, gen, (O.size : Int), false, O, false, 0) := by
          have n1 : ∀ kind, partv (turnAt b i (bitOf ((A : Int) % 8))) kind = none := by
            intro kind
            have := part_turn (dB T) ⟨#[]⟩ (by omega) hi.2.1 (by rw [hBb]; exact hi.2.2) hm kind
            rw [app_nil, hBb] at this
            exact this
          have e := partv_seal 100 O (turnAt b i (bitOf ((A : Int) % 8))) (by omega) 100
          rw [if_pos (show (((100 : UInt8).toNat : Nat) : Int) = 100 from rfl)] at e
          have e2 : partv (a ++ turnAt b i (bitOf ((A : Int) % 8))) 100 = some (O, turnAt b i (bitOf ((A : Int) % 8))) := by rw [← hAa]; exact e
          unfold readv
          rw [← hHd, headp_full h.1 h.2]
          simp only
          rw [loopv, e2]
          simp only
          rw [if_pos ⟨nO, by rw [nil_size]; omega⟩, nil_app, loopv, n1]
          simp only
          unfold endv
          simp only
          rw [n1]
          simp only
          rw [ne_empty (by rw [turn_size b hi.2.2 hm]; omega)]
        refine ⟨id, gen, (O.size : Int), false, O, by rw [hp], fun q => ?_, fun _ => rfl⟩
        exact absurd q (by omega)
      · rw [if_neg c]
        obtain ⟨A, hA⟩ : ∃ A, A = 8 * (H.size + 1) + B := ⟨_, rfl⟩
        rw [← hA]
        have hm := bitOf_range (r := (A : Int) % 8) (by omega) (by omega)
        obtain ⟨i, hi⟩ : ∃ i, A / 8 = H.size + i ∧ 1 ≤ i ∧ i < a.size := ⟨A / 8 - H.size, by omega, by omega, by omega⟩
        have z2 : i < (a ++ b).size := by rw [ByteArray.size_append]; omega
        rw [hi.1, ByteArray.append_assoc, turn_right _ _ z2 hm, turn_left _ _ hi.2.2 hm, read_at]
        have hp : readv (H ++ (turnAt a i (bitOf ((A : Int) % 8)) ++ b)) = (id, gen, 0, false, ⟨#[]⟩, false, 0) := by
          have n1 : ∀ kind, partv (turnAt a i (bitOf ((A : Int) % 8)) ++ b) kind = none := by
            intro kind
            have := part_turn (dB O) b (by omega) hi.2.1 (by rw [hAa]; exact hi.2.2) hm kind
            rw [hAa] at this
            exact this
          unfold readv
          rw [← hHd, headp_full h.1 h.2]
          simp only
          rw [loopv, n1]
          simp only
          unfold endv
          simp only
          rw [n1]
          simp only
          rw [ne_empty (by rw [ByteArray.size_append]; omega)]
          rfl
        refine ⟨id, gen, 0, false, ⟨#[]⟩, by rw [hp], fun _ => rfl, fun q => ?_⟩
        exact absurd q (by omega)
  · refine .inl ?_
    have hh : headv id gen = (⟨#[]⟩, 1) := by unfold headv; rw [if_neg h]
    rw [hh]
    decide
end Go.Proofs.Ytljllecpmllefaa.Pure
