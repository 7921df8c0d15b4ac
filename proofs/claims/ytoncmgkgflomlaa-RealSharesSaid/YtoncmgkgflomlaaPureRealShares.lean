/- The law RealShares over plain functions: a share lies between 0 and 1; with more used it is no less; of nothing used, and some room, it is 0. For every three fractions. -/
import Derived.Test.YtoncmgkgflomlaaEx03
import Derived.Test.YtoncmgkgflomlaaFlShare
import Derived.Test.YtoncmgkgflomlaaPx5
namespace Go.Proofs.Ytoncmgkgflomlaa.Pure
open Go.RowKit Go.Proofs.Ytoncmgkgflomlaa.P Go.Proofs.Ytoncmgkgflomlaa.Fl Go.Proofs.YtoncmgkgflomlaaW.PrintWords Go.Proofs.YtoncmgkgflomlaaW.PrintLast Go.Proofs.YtoncmgkgflomlaaW.PrintMore

theorem RealShares : tabulariumlaw03_RealShares.Pure := by
  intro u m r w0 w1 w2
  refine ⟨10, ?_⟩
  unfold tabulariumlaw03_RealShares.f
  obtain ⟨s, hs, sn, s0, s1⟩ := share_spec u r
  obtain ⟨t, ht, tn, t0, t1⟩ := share_spec m r
  rw [examples_at 10 (by omega), share_at u r 10 (by omega), share_at m r 10 (by omega), hs, ht, share_at 0 r 10 (by omega)]
  simp only [Option.bind_some]
  have e1 := (t_ge s 0).2 ⟨⟨sn, nan_zero⟩, by rw [key_zero]; exact s0⟩
  have e2 := (t_le s one).2 ⟨⟨sn, nan_one⟩, by rw [key_one]; exact s1⟩
  have e5 : (if (FloatKind.f64.format.order r 0 == some .gt) = true then ((sharev 0 r).bind fun t129 => (if (FloatKind.f64.format.order t129 0 == some .eq) = true then (some true) else (some false))) else (some (FloatKind.f64.format.order s 4607182418800017408 == some .eq))) = some true := by
    by_cases c : (FloatKind.f64.format.order r 0 == some .gt) = true
    · rw [if_pos c]
      obtain ⟨⟨n1, _⟩, hk⟩ := (t_gt r 0).1 c
      rw [key_zero] at hk
      have : sharev 0 r = some 0 := by
        unfold sharev
        rw [if_neg (show ¬ (nan 0 ∨ nan r) from fun h => h.elim nan_zero n1), if_neg (by omega), if_pos (by rw [key_zero]; omega)]
      rw [this]
      simp only [Option.bind_some]
      rw [if_pos ((t_eq 0 0).2 ⟨⟨nan_zero, nan_zero⟩, rfl⟩)]
    · rw [if_neg c]
      have : sharev u r = some one := by
        unfold sharev
        by_cases n1 : nan u ∨ nan r
        · rw [if_pos n1]
        · rw [if_neg n1, if_pos]
          refine Int.not_lt.1 fun h => c ((t_gt r 0).2 ⟨⟨fun h => n1 (.inr h), nan_zero⟩, by rw [key_zero]; exact h⟩)
      rw [hs] at this
      obtain rfl := Option.some.inj this
      exact congrArg some ((t_eq one one).2 ⟨⟨nan_one, nan_one⟩, rfl⟩)
  rw [if_pos e1, if_pos (show (FloatKind.f64.format.order s 4607182418800017408 == some .lt || FloatKind.f64.format.order s 4607182418800017408 == some .eq) = true from e2), if_pos trivial]
  by_cases c : (FloatKind.f64.format.order u m == some .lt || FloatKind.f64.format.order u m == some .eq) = true
  · rw [if_pos c]
    obtain ⟨hn, hk⟩ := (t_le u m).1 c
    rw [if_pos ((t_le s t).2 ⟨⟨sn, tn⟩, share_mono hn hk hs ht⟩)]
    exact e5
  · rw [if_neg c]
    exact e5

end Go.Proofs.Ytoncmgkgflomlaa.Pure
