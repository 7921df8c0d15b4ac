/- The law SumBit over plain functions: one bit that is turned in a sealed text, or in its sum, is told; what is cut off, too. -/
import Derived.Test.YtlggjcpaihpipaaTurned
import Derived.Test.YtlggjcpaihpipaaPx21
namespace Go.Proofs.Ytlggjcpaihpipaa.Pure
open Go.RowKit Go.Proofs.Ytlggjcpaihpipaa.P Go.Proofs.Ytlggjcpaihpipaa.Sp Go.Proofs.YtlggjcpaihpipaaW.PrintWords Go.Proofs.YtlggjcpaihpipaaW.PrintLast Go.Proofs.YtlggjcpaihpipaaW.PrintMore

theorem SumBit : tabulariumlaw02_SumBit.Pure := by
  intro s a1 a2 hs h1 h2
  refine ⟨100, examples_at, ?_⟩
  have hn := nn_range h1
  have hm := nn_range h2
  rw [seal_at s (by omega) 100 (by omega)]
  unfold sealW
  cases e : seal_ s with
  | none => exact ⟨_, _, rfl, .inl (by decide)⟩
  | some b =>
    refine ⟨b, 0, rfl, ?_⟩
    by_cases c : 3000 < s.size
    · exact .inr (.inl ⟨rfl, c⟩)
    · obtain ⟨hz, hb⟩ := seal_form e
      have hf := four_size' s
      have z1 : b.size = (num (s.size : Int)).size + (s.size + 4) := by rw [hb, ByteArray.size_append, ByteArray.size_append, hf]
      have z2 := num_size_le (n := (s.size : Int)) (by omega)
      have z3 : 1 ≤ (num (s.size : Int)).size := by rw [num_size]; exact vbs_pos _
      have b0 : 0 ≤ nn a1 % (8 * ((s.size : Int) + 4)) := Int.emod_nonneg _ (by omega)
      have b1 := Int.emod_lt_of_pos (nn a1) (show 0 < 8 * ((s.size : Int) + 4) by omega)
      refine .inr (.inr ⟨rfl, by omega, by omega, by omega, ?_, ?_⟩)
      · refine ⟨⟨#[]⟩, ⟨#[]⟩, ?_⟩
        rw [open_at _ 100 (by omega), show b.size - s.size - 4 = (num (s.size : Int)).size by omega]
        rw [topen_turn e (by omega) (bitOf_range (by omega) (by omega))]
      · have c0 : 0 ≤ nn a2 % (b.size : Int) := Int.emod_nonneg _ (by omega)
        have c1 := Int.emod_lt_of_pos (nn a2) (show 0 < (b.size : Int) by omega)
        refine ⟨⟨#[]⟩, ⟨#[]⟩, ?_⟩
        rw [open_at _ 100 (by omega), topen_cut e (by omega)]

end Go.Proofs.Ytlggjcpaihpipaa.Pure
