/- What the reference of chapter 18 writes and cuts. -/
import Derived.Test.YtljllecpmllefaaCkA
import Derived.Test.YtljllecpmllefaaPx18
import Derived.Test.YtljllecpmllefaaPx19
section

namespace Go.Proofs.Ytljllecpmllefaa.Sp
open Go.RowKit Go.Proofs.YtljllecpmllefaaW.PrintWords Go.Proofs.YtljllecpmllefaaW.PrintLast Go.Proofs.YtljllecpmllefaaW.PrintMore Go.Proofs.Ytljllecpmllefaa.P
set_option linter.unusedVariables false

theorem refseal_f {s : ByteArray} (h : s.size ≤ 400) (k : Nat) (hk : 5000 ≤ k) : tabulariumref18_seal.f k s = some (sealB s) := by
  unfold tabulariumref18_seal.f
  rw [ref_seal_at s (by omega) k (by omega), Option.bind_some]
  unfold sealR
  rw [(seal_small (s := s) (by omega)).1]
theorem refhead_at (id gen : Int) (k : Nat) (hk : 6000 ≤ k) : tabulariumref18_Head.f k id gen = some (headv id gen) := by
  obtain ⟨q, rfl⟩ : ∃ q, k = q + 1 := ⟨k - 1, by omega⟩
  unfold tabulariumref18_Head.f headv
  have no : tabulariumref18_Head.j0 (q + 1) id gen true = some (⟨#[]⟩, 1) := by rw [tabulariumref18_Head.j0, if_pos rfl]
  by_cases h : numb id = true ∧ numb gen = true
  · obtain ⟨h1, h2⟩ := h
    have a := numb_range h1
    have b := numb_range h2
    have c := num_size_le (n := id) (by omega)
    have d := num_size_le (n := gen) (by omega)
    have e := hB_size h1 h2
    rw [if_pos (show numb id = true ∧ numb gen = true from ⟨h1, h2⟩), if_neg (by omega), if_neg (by omega), if_neg (by omega), decide_eq_false (by omega), tabulariumref18_Head.j0, if_neg (by decide), ref_num_at (by omega) q (by omega), Option.bind_some, if_pos (by omega), ref_num_at (by omega) q (by omega), Option.bind_some, if_pos (by rw [ByteArray.size_append, one_size]; omega)]
    show ((tabulariumref18_seal.f q (hB id gen)).bind fun t205 => (some (t205, 0))) = _
    rw [refseal_f (by omega) q (by omega), Option.bind_some]
  · rw [if_neg h]
    by_cases c1 : id < 1
    · rw [if_pos c1, no]
    · rw [if_neg c1]
      by_cases c2 : id > 9007199254740991
      · rw [if_pos c2, no]
      · rw [if_neg c2]
        by_cases c3 : gen < 1
        · rw [if_pos c3, no]
        · rw [if_neg c3, decide_eq_true (show gen > 9007199254740991 by
            refine Decidable.byContradiction fun q => h ⟨decide_eq_true (by omega), decide_eq_true (by omega)⟩), no]
theorem refpacket_at (data : ByteArray) (k : Nat) (hk : 6000 ≤ k) : tabulariumref18_Packet.f k data = some (packv data) := by
  unfold tabulariumref18_Packet.f packv
  by_cases h1 : data.toList = ([] : List UInt8)
  · rw [if_pos h1, if_pos h1]
  · rw [if_neg h1, if_neg h1]
    by_cases h2 : (data.size : Int) > 64
    · rw [if_pos h2, if_pos h2]
    · have := dB_size data
      rw [if_neg h2, if_neg h2, if_pos (by omega)]
      show ((tabulariumref18_seal.f k (dB data)).bind fun t132 => (some (t132, 0))) = _
      rw [refseal_f (by omega) k (by omega), Option.bind_some]
theorem refend_at (k : Nat) (hk : 6000 ≤ k) : tabulariumref18_End.f k = some endB := by
  unfold tabulariumref18_End.f
  rw [refseal_f (by rw [one_size]; omega) k (by omega), Option.bind_some]
  rfl
theorem refwhole_at (id gen : Int) (data : ByteArray) (f : Bool) (k : Nat) (hk : 6000 ≤ k) : tabulariumref18_Whole.f k id gen data f = some (wholev id gen data f) := by
  unfold tabulariumref18_Whole.f wholev
  have hz := headv_size id gen
  have he := endB_size
  rw [refhead_at id gen k hk, Option.bind_some]
  generalize headv id gen = H at hz ⊢
  by_cases c1 : H.2 = 0
  · rw [if_pos c1, if_pos c1]
    by_cases c2 : (data.size : Int) > 64
    · rw [if_pos c2, if_pos c2]
    · rw [if_neg c2, if_neg c2]
      have hd := dB_size data
      have hs := (seal_small (s := dB data) (by omega)).2.1
      unfold finB
      by_cases c3 : data.toList = ([] : List UInt8)
      · rw [if_pos c3, if_pos c3]
        by_cases c4 : f = true
        · rw [if_pos c4, if_pos c4, refend_at k hk, Option.bind_some, if_pos (by omega)]
        · rw [if_neg c4, if_neg c4]
      · rw [if_neg c3, if_neg c3, if_pos (by omega)]
        show ((tabulariumref18_seal.f k (dB data)).bind fun t211 => (if H.1.size + t211.size ≤ 9223372036854775807 then (if f = true then ((tabulariumref18_End.f k).bind fun t212 => (if (H.1 ++ t211).size + t212.size ≤ 9223372036854775807 then (some ((H.1 ++ t211) ++ t212, (0 : Int))) else (none))) else (some (H.1 ++ t211, 0))) else (none))) = _
        rw [refseal_f (by omega) k (by omega), Option.bind_some, if_pos (by omega)]
        by_cases c4 : f = true
        · rw [if_pos c4, if_pos c4, refend_at k hk, Option.bind_some, if_pos (by rw [ByteArray.size_append]; omega)]
        · rw [if_neg c4, if_neg c4]
  · rw [if_neg c1, if_neg c1]
end Go.Proofs.Ytljllecpmllefaa.Sp
end
