/- The law SumChecks over plain functions: a text's sum, those of its chunks, and the first that is another one, are the reference's. For every text and every list of sums. -/
import Derived.Test.YtlggjcpaihpipaaChunks
import Derived.Test.YtlggjcpaihpipaaPx9
namespace Go.Proofs.Ytlggjcpaihpipaa.Pure
open Go.RowKit Go.Proofs.Ytlggjcpaihpipaa.P Go.Proofs.Ytlggjcpaihpipaa.Sp Go.Proofs.YtlggjcpaihpipaaW.PrintWords Go.Proofs.YtlggjcpaihpipaaW.PrintLast Go.Proofs.YtlggjcpaihpipaaW.PrintMore

theorem checks_loop (s : ByteArray) (hs : s.size ≤ 140737488351232) (m : List Int) (hm : m.length ≤ 9223372036854775800) : ∀ (d i k : Nat) (acc : List Int), acc.length - i = d → acc.length ≤ 9223372036854775800 → i ≤ acc.length → d + 12 * s.size + 50 + m.length < k →
    tabulariumlaw02_SumChecks.l0 k s m true acc true (i : Int) = some true := by
  intro d
  induction d with
  | zero =>
    intro i k acc hd ha hi hk
    obtain ⟨k, rfl⟩ : ∃ m, k = m + 1 := ⟨k - 1, by omega⟩
    have hl := chs_len (nb s)
    rw [nb_size] at hl
    simp only [tabulariumlaw02_SumChecks.l0]
    rw [if_neg (by omega), chunks_at s hs k (by omega), ref_chunks_at s hs k (by omega)]
    simp only [Option.bind_some]
    rw [sums_at _ _ (by omega) k (by omega), sum_at s (by omega), ref_sum_at s (by omega) k (by omega), bad_at s hs m k (by omega), ref_bad_at s hs m hm k (by omega)]
    simp
  | succ d ih =>
    intro i k acc hd ha hi hk
    obtain ⟨k, rfl⟩ : ∃ m, k = m + 1 := ⟨k - 1, by omega⟩
    have e : wrap64 ((i : Int) + 1) = ((i + 1 : Nat) : Int) := by rw [wrap64_of (by omega) (by omega)]; omega
    simp only [tabulariumlaw02_SumChecks.l0]
    rw [if_pos (by omega), if_pos (by omega), e]
    exact ih (i + 1) k _ (by rw [List.length_set]; omega) (by rw [List.length_set]; omega) (by rw [List.length_set]; omega) (by omega)

theorem SumChecks : tabulariumlaw02_SumChecks.Pure := by
  intro s m hs hm1 hm2 hm3
  have hl := chs_len (nb s)
  rw [nb_size] at hl
  refine ⟨13 * s.size + 300 + m.length, ?_⟩
  unfold tabulariumlaw02_SumChecks.f
  rw [at_rounds tabulariumlaw02_examples.mono (show 100 ≤ 13 * s.size + 300 + m.length by omega) examples_at, chunks_at s hs _ (by omega), ref_chunks_at s hs _ (by omega)]
  simp only [Option.bind_some]
  rw [sums_at _ _ (by omega) _ (by omega)]
  simp only [Option.bind_some, decide_true]
  exact checks_loop s hs m (by omega) (chs (nb s)).length 0 _ _ (by omega) (by omega) (by omega) (by omega)

end Go.Proofs.Ytlggjcpaihpipaa.Pure
