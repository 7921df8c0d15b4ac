/- The law SumBack over plain functions: a text that is sealed, with anything behind, is opened as it was. For every two texts. -/
import Derived.Test.YtlggjcpaihpipaaSeals
import Derived.Test.YtlggjcpaihpipaaPx20
namespace Go.Proofs.Ytlggjcpaihpipaa.Pure
open Go.RowKit Go.Proofs.Ytlggjcpaihpipaa.P Go.Proofs.Ytlggjcpaihpipaa.Sp Go.Proofs.YtlggjcpaihpipaaW.PrintWords Go.Proofs.YtlggjcpaihpipaaW.PrintLast Go.Proofs.YtlggjcpaihpipaaW.PrintMore

theorem seal_size {s t : ByteArray} (h : seal_ s = some t) : s.size ≤ 4000 ∧ s.size + 5 ≤ t.size ∧ t.size ≤ s.size + 14 := by
  unfold seal_ at h
  cases e : text s with
  | none => rw [e] at h; cases h
  | some q =>
    rw [e] at h
    obtain rfl := Option.some.inj h
    have := text_size e
    rw [ByteArray.size_append, four_size]
    omega

theorem SumBack : tabulariumlaw02_SumBack.Pure := by
  intro s r hs hr
  refine ⟨100, ?_⟩
  unfold tabulariumlaw02_SumBack.f
  rw [examples_at, seal_at s (by omega) 100 (by omega)]
  simp only [Option.bind_some]
  unfold sealW
  cases e : seal_ s with
  | none => simp
  | some t =>
    have hz := seal_size e
    simp only
    rw [if_pos trivial, if_pos (by omega), open_at _ 100 (by omega), topen_seal e]
    simp only [Option.bind_some]
    have ew : wrap64 ((s.size : Int) + 4) = (s.size : Int) + 4 := wrap64_of (by omega) (by omega)
    rw [if_pos trivial, if_pos trivial, if_pos trivial, if_pos trivial, ew, decide_eq_true (by omega)]

end Go.Proofs.Ytlggjcpaihpipaa.Pure
