/- real.Sort over plain lists: what comes back is in order by rank, and is what was there. -/
import Derived.Test.YtoncmgkgflomlaaStab
import Derived.Test.YtoncmgkgflomlaaFlRank
import Derived.Test.YtoncmgkgflomlaaPx4
namespace Go.Proofs.Ytoncmgkgflomlaa.Pure
open Go.Sort Go.Proofs.Ytoncmgkgflomlaa.P

/-- where a fraction stands -/
def rk (x : Nat) : Int := (real_rank.f x).getD 0
theorem ordF_rk (x y : Nat) : ordF x y = if rk x < rk y then -1 else if rk x > rk y then 1 else 0 := by
  obtain ⟨a, ha⟩ := rank_some x
  obtain ⟨b, hb⟩ := rank_some y
  unfold ordF rk real_Order.f
  rw [ha, hb]
  simp only [Option.bind_some, Option.getD_some]
  repeat' split
  all_goals rfl
theorem ordF_lt (x y : Nat) : ordF x y < 0 ↔ rk x < rk y := by
  rw [ordF_rk]
  repeat' split
  all_goals omega
theorem ordF_gt (x y : Nat) : ordF x y > 0 ↔ rk y < rk x := by
  rw [ordF_rk]
  repeat' split
  all_goals omega
theorem ordF_eq (x y : Nat) : ordF x y = 0 ↔ rk x = rk y := by
  rw [ordF_rk]
  repeat' split
  all_goals omega
theorem lt_rk (x y : Nat) : ltOf ordF x y = decide (rk x < rk y) := decide_eq_decide.2 (ordF_lt x y)
theorem swo_ord : SWO (ltOf ordF) where
  irrefl x := by rw [lt_rk]; simp
  trans x y z := by rw [lt_rk, lt_rk, lt_rk]; simp only [decide_eq_true_eq]; omega
  ntrans x y z := by rw [lt_rk, lt_rk, lt_rk]; simp only [decide_eq_false_iff_not]; omega

theorem sort_facts (l s : List Nat) (h : real_Sort.f l = some s) : s.Perm l ∧ s.Pairwise (fun a b => rk a ≤ rk b) := by
  unfold real_Sort.f at h
  split at h
  · have h := Option.some.inj h
    have hp := stab_spec swo_ord l.toArray
    rw [show l.toArray.size = l.length from by simp] at hp
    obtain ⟨⟨h1, _, h3⟩, h4⟩ := hp
    rw [show l.toArray.size = l.length from by simp] at h1
    generalize St.stab (ltOf ordF) l.length l.toArray = d at h h1 h3 h4
    subst h
    constructor
    · have e1 : (d.extract 0 l.length) = d := by rw [← h1]; simp
      have e2 : (l.toArray.extract 0 l.length) = l.toArray := by rw [show l.length = l.toArray.size from by simp]; simp
      rw [e1, e2] at h3
      exact h3
    · rw [List.pairwise_iff_getElem]
      intro i j hi hj hij
      have := h4 i j (Nat.zero_le _) hij (by rw [← h1]; simpa using hj)
      rw [lt_rk, decide_eq_false_iff_not] at this
      rw [getElem!_pos d j (by simpa using hj), getElem!_pos d i (by simpa using hi)] at this
      simp only [Array.getElem_toList]
      omega
  · cases h
theorem sort_total (l : List Nat) (h : l.length ≤ 17592186044416) : ∃ s, real_Sort.f l = some s := ⟨_, by unfold real_Sort.f; rw [if_pos h]⟩
end Go.Proofs.Ytoncmgkgflomlaa.Pure
