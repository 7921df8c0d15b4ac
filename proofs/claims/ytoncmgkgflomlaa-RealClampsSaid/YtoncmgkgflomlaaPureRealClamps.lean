/- The law RealClamps over plain functions: what is held lies between both ends, if these are numbers in their order; what lies there stays. For every three fractions. -/
import Derived.Test.YtoncmgkgflomlaaEx03
import Derived.Test.YtoncmgkgflomlaaPx10
namespace Go.Proofs.Ytoncmgkgflomlaa.Pure
open Go.RowKit Go.Proofs.Ytoncmgkgflomlaa.P Go.Proofs.Ytoncmgkgflomlaa.Fl Go.Proofs.YtoncmgkgflomlaaW.PrintWords Go.Proofs.YtoncmgkgflomlaaW.PrintLast Go.Proofs.YtoncmgkgflomlaaW.PrintMore

theorem RealClamps : tabulariumlaw03_RealClamps.Pure := by
  intro f lo hi w0 w1 w2
  refine ⟨10, ?_⟩
  unfold tabulariumlaw03_RealClamps.f
  rw [examples_at 10 (by omega), clamp_at f lo hi 10 (by omega)]
  simp only [Option.bind_some]
  by_cases c : ((FloatKind.f64.format.order lo hi == some .lt || FloatKind.f64.format.order lo hi == some .eq) = true)
  · rw [if_pos c, if_pos trivial]
    obtain ⟨⟨n1, n2⟩, hk⟩ := (t_le lo hi).1 c
    by_cases c1 : nan f
    · rw [show clampv f lo hi = lo by unfold clampv; rw [if_pos (.inl c1)]]
      have e1 := (t_ge lo lo).2 ⟨⟨n1, n1⟩, by omega⟩
      have e2 : ¬ ((FloatKind.f64.format.order f lo == some .gt || FloatKind.f64.format.order f lo == some .eq) = true) := fun h => ((t_ge f lo).1 h).1.1 c1
      rw [if_pos e1, if_pos c, if_neg e2]
    · have c0 : ¬ (nan f ∨ nan lo ∨ nan hi) := by simp [c1, n1, n2]
      by_cases c2 : key f < key lo
      · rw [show clampv f lo hi = lo by unfold clampv; rw [if_neg c0, if_pos c2]]
        have e1 := (t_ge lo lo).2 ⟨⟨n1, n1⟩, by omega⟩
        have e2 : ¬ ((FloatKind.f64.format.order f lo == some .gt || FloatKind.f64.format.order f lo == some .eq) = true) := fun h => by have := ((t_ge f lo).1 h).2; omega
        rw [if_pos e1, if_pos c, if_neg e2]
      · by_cases c3 : key hi < key f
        · rw [show clampv f lo hi = hi by unfold clampv; rw [if_neg c0, if_neg c2, if_pos c3]]
          have e1 := (t_ge hi lo).2 ⟨⟨n2, n1⟩, by omega⟩
          have e2 := (t_le hi hi).2 ⟨⟨n2, n2⟩, by omega⟩
          have e3 := (t_ge f lo).2 ⟨⟨c1, n1⟩, by omega⟩
          have e4 : ¬ ((FloatKind.f64.format.order f hi == some .lt || FloatKind.f64.format.order f hi == some .eq) = true) := fun h => by have := ((t_le f hi).1 h).2; omega
          rw [if_pos e1, if_pos e2, if_pos e3, if_neg e4]
        · rw [show clampv f lo hi = f by unfold clampv; rw [if_neg c0, if_neg c2, if_neg c3]]
          have e1 := (t_ge f lo).2 ⟨⟨c1, n1⟩, by omega⟩
          have e2 := (t_le f hi).2 ⟨⟨c1, n2⟩, by omega⟩
          have e3 := (t_eq f f).2 ⟨⟨c1, c1⟩, rfl⟩
          rw [if_pos e1, if_pos e2, if_pos e1, if_pos e2, e3]
  · rw [if_neg c]

end Go.Proofs.Ytoncmgkgflomlaa.Pure
