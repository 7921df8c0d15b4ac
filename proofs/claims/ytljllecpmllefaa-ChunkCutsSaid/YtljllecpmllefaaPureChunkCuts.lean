/- The law ChunkCuts over plain functions: what is cut of some bytes is what stands there; two cuts side by side are one. For every text and every three ints. -/
import Derived.Test.YtljllecpmllefaaCkC
import Derived.Test.YtljllecpmllefaaPx12
namespace Go.Proofs.Ytljllecpmllefaa.Pure
open Go.RowKit Go.Proofs.Ytljllecpmllefaa.Sp Go.Proofs.YtljllecpmllefaaW.PrintWords Go.Proofs.YtljllecpmllefaaW.PrintLast Go.Proofs.YtljllecpmllefaaW.PrintMore Go.Proofs.Ytljllecpmllefaa.P
set_option linter.unusedVariables false

theorem rest_nil : ((⟨#[]⟩ : ByteArray).toList == ([] : List UInt8)) = true := by rw [ByteArray.toList_eq]; rfl
theorem tmod_mil (u : Nat) : Int.tmod ((u : Nat) : Int) 1000000 = ((u % 1000000 : Nat) : Int) := by
  rw [Int.tmod_eq_emod_of_nonneg (Int.natCast_nonneg u)]
  omega
theorem wr {x : Int} (h0 : -9223372036854775808 ≤ x) (h1 : x ≤ 9223372036854775807) : wrap64 x = x := by unfold wrap64; omega
theorem wadd (p v : Nat) (h : p ≤ 140737488351232) (h2 : v < 1000000) : wrap64 ((p : Int) + (v : Int)) = ((p + v : Nat) : Int) := by
  rw [wr (by omega) (by omega)]
  omega
theorem zu_ (s : ByteArray) (a p u : Nat) : (((s.extract (a + p) (a + p + u)).size : Nat) : Int) ≤ ((s.size - a - p : Nat) : Int) := by
  rw [ByteArray.size_extract]
  omega
theorem cuts_j0 (s : ByteArray) (hs : s.size ≤ 140737488351232) (a n : Nat) (ha : a ≤ s.size) (hn : (n : Int) ≤ 9223372036854775807) (m : Int) (hm : -9223372036854775808 ≤ m ∧ m ≤ 9223372036854775807) (k : Nat) : tabulariumlaw18_ChunkCuts.j0 (k + 1) s (a : Int) (n : Int) m true (s.extract a (a + n)) 0 false = some true := by
  obtain ⟨p, hp⟩ : ∃ p, p = min n (s.size - a) := ⟨_, rfl⟩
  have w1 : wrap64 ((s.size : Int) - (a : Int)) = ((s.size - a : Nat) : Int) := by rw [wr (by omega) (by omega)]; omega
  have e1 : mn (n : Int) (wrap64 ((s.size : Int) - (a : Int))) = (p : Int) := by rw [w1]; unfold mn; split <;> omega
  have w2 : wrap64 ((a : Int) + (p : Int)) = ((a + p : Nat) : Int) := by rw [wr (by omega) (by omega)]; omega
  have hx : s.extract a (a + n) = s.extract a (a + p) := by
    by_cases c : n ≤ s.size - a
    · rw [hp, Nat.min_eq_left c]
    · rw [hp, Nat.min_eq_right (by omega), ext_all s a (a + n) (by omega), show a + (s.size - a) = s.size by omega]
  have hp1 : p ≤ s.size - a := by omega
  clear hp
  have w4 : wrap64 (((s.size - a : Nat) : Int) - (p : Int)) = ((s.size - a - p : Nat) : Int) := by
    rw [wr (by omega) (by omega)]
    omega
  have zx : (s.extract a (a + p)).size = p := by rw [ByteArray.size_extract]; omega
  have hap : a + p ≤ s.size := by omega
  have hpb : p ≤ 140737488351232 := by omega
  have z0 : (0 : Int) ≤ (a : Int) := Int.natCast_nonneg a
  have z1 : (a : Int) ≤ ((a + p : Nat) : Int) := by omega
  have z2 : ((a + p : Nat) : Int) ≤ (s.size : Int) := by omega
  have E1 := Aside0.mk e1
  have W1 := Aside0.mk w1
  have W2 := Aside0.mk w2
  have W4 := Aside0.mk w4
  clear e1 w1 w2 w4
  have core : ∀ q : Int, 0 ≤ q → q ≤ 9223372036854775807 → ((chunk_Cut.f s (wrap64 ((a : Int) + (mn (n : Int) (wrap64 ((s.size : Int) - (a : Int)))))) q).bind fun bt235 => ((chunk_Cut.f s (a : Int) (wrap64 ((mn (n : Int) (wrap64 ((s.size : Int) - (a : Int)))) + (Int.tmod q 1000000)))).bind fun bt237 => ((chunk_Cut.f s (wrap64 ((a : Int) + (mn (n : Int) (wrap64 ((s.size : Int) - (a : Int)))))) (Int.tmod q 1000000)).bind fun bt239 => (if true = true then (if (0 : Int) = 0 then (if bt235.2 = 0 then (if bt237.2 = 0 then (if bt239.2 = 0 then (if ((s.extract a (a + n)).size : Int) = (mn (n : Int) (wrap64 ((s.size : Int) - (a : Int)))) then (if (s.extract a (a + n)).size + bt239.1.size ≤ 9223372036854775807 then (if ((s.extract a (a + n)) ++ bt239.1).toList = bt237.1.toList then (if (bt235.1.size : Int) ≤ (wrap64 ((wrap64 ((s.size : Int) - (a : Int))) - (mn (n : Int) (wrap64 ((s.size : Int) - (a : Int)))))) then (if 0 ≤ (a : Int) then (if (a : Int) ≤ (wrap64 ((a : Int) + (mn (n : Int) (wrap64 ((s.size : Int) - (a : Int)))))) then (if (wrap64 ((a : Int) + (mn (n : Int) (wrap64 ((s.size : Int) - (a : Int)))))) ≤ (s.size : Int) then (some ((s.extract ((a : Int) : Int).toNat ((wrap64 ((a : Int) + (mn (n : Int) (wrap64 ((s.size : Int) - (a : Int)))))) : Int).toNat).toList == (s.extract a (a + n)).toList)) else (none)) else (none)) else (none)) else (some false)) else (some false)) else (none)) else (some false)) else (some false)) else (some false)) else (some false)) else (some false)) else (some false))))) = some true := by
    intro q q0 q1
    obtain ⟨u, rfl⟩ := Int.eq_ofNat_of_zero_le q0
    have HT := Aside0.mk (tmod_mil u)
    obtain ⟨v, hv⟩ : ∃ v, v = u % 1000000 := ⟨_, rfl⟩
    have hv1 : v < 1000000 := by rw [hv]; exact Nat.mod_lt _ (by decide)
    clear q1 q0
    have w3 := wadd p v hpb hv1
    have zv : (s.extract (a + p) (a + p + v)).size ≤ s.size := by
      rw [ByteArray.size_extract]
      exact Nat.le_trans (Nat.sub_le _ _) (Nat.min_le_right _ _)
    have zu : (((s.extract (a + p) (a + p + u)).size : Nat) : Int) ≤ ((s.size - a - p : Nat) : Int) := zu_ s a p u
    rw [E1.out, W2.out, HT.out, ← hv, w3, cut_at s hs (a + p) u hap, Option.bind_some, cut_at s hs a (p + v) ha, Option.bind_some, cut_at s hs (a + p) v hap, Option.bind_some, hx, zx]
    have zj : (s.extract a (a + p) ++ s.extract (a + p) (a + p + v)).toList = (s.extract a (a + (p + v))).toList := by rw [ext_join s a (a + p) (a + p + v) (Nat.le_add_right _ _) (Nat.le_add_right _ _), Nat.add_assoc]
    have zk : p + (s.extract (a + p) (a + p + v)).size ≤ 9223372036854775807 := Nat.le_trans (Nat.add_le_add hpb (Nat.le_trans zv hs)) (by decide)
    rw [if_pos rfl, if_pos rfl, if_pos rfl, if_pos rfl, if_pos rfl, if_pos rfl, if_pos zk, if_pos zj]
    rw [W1.out, W4.out, if_pos zu, if_pos z0, if_pos z1, if_pos z2, Int.toNat_natCast, Int.toNat_natCast, beq_self_eq_true]
  rw [tabulariumlaw18_ChunkCuts.j0, if_neg (by decide)]
  by_cases c : m < 0
  · rw [if_pos c]
    have w5 : wrap64 (-(wrap64 (m + 1))) = -(m + 1) := by rw [wr (x := m + 1) (by omega) (by omega), wr (by omega) (by omega)]
    rw [w5]
    exact core (-(m + 1)) (by omega) (by omega)
  · rw [if_neg c]
    exact core m (by omega) (by omega)
theorem ChunkCuts : tabulariumlaw18_ChunkCuts.Pure := by
  intro s a n m hs wa wn wm
  refine ⟨50, ?_⟩
  have ra := int_range wa
  have rn := int_range wn
  have rm := int_range wm
  unfold tabulariumlaw18_ChunkCuts.f
  rw [examples_at 50 (by omega), Option.bind_some]
  have bad : chunk_Cut.f s a n = some (⟨#[]⟩, 1) → (chunk_Cut.f s a n).bind (fun bt227 => tabulariumlaw18_ChunkCuts.j0 50 s a n m true bt227.1 bt227.2 true) = some true := by
    intro h
    rw [h, Option.bind_some, tabulariumlaw18_ChunkCuts.j0, if_pos rfl, if_pos rfl, if_pos rfl, rest_nil]
  by_cases c1 : a < 0
  · simp only [if_pos c1]
    exact bad (by unfold chunk_Cut.f; rw [if_pos c1])
  · simp only [if_neg c1]
    by_cases c2 : n < 0
    · simp only [if_pos c2]
      exact bad (by unfold chunk_Cut.f; rw [if_neg c1, if_pos c2])
    · simp only [if_neg c2]
      by_cases c3 : a > (s.size : Int)
      · rw [decide_eq_true c3]
        exact bad (by unfold chunk_Cut.f; rw [if_neg c1, if_neg c2, if_pos c3])
      · rw [decide_eq_false c3]
        obtain ⟨a', rfl⟩ := Int.eq_ofNat_of_zero_le (show 0 ≤ a by omega)
        obtain ⟨n', rfl⟩ := Int.eq_ofNat_of_zero_le (show 0 ≤ n by omega)
        rw [cut_at s hs a' n' (by omega), Option.bind_some]
        exact cuts_j0 s hs a' n' (by omega) rn.2 m rm 49
end Go.Proofs.Ytljllecpmllefaa.Pure
