/- The reference's order and its sorting, over plain lists. -/
import Derived.Test.YtoncmgkgflomlaaExr3
import Derived.Test.YtoncmgkgflomlaaSorts
import Derived.Test.YtoncmgkgflomlaaPx7
import Derived.Test.YtoncmgkgflomlaaPx8
import Derived.Test.YtoncmgkgflomlaaPx9
import Derived.Test.YtoncmgkgflomlaaPx6
namespace Go.Proofs.Ytoncmgkgflomlaa.Pure
open Go.RowKit Go.Proofs.Ytoncmgkgflomlaa.P Go.Proofs.Ytoncmgkgflomlaa.Fl Go.Proofs.YtoncmgkgflomlaaW.PrintWords Go.Proofs.YtoncmgkgflomlaaW.PrintLast Go.Proofs.YtoncmgkgflomlaaW.PrintMore
set_option linter.unusedVariables false

theorem key0 : key 0 = 0 := by decide
theorem nan0 : ¬ nan 0 := by decide
theorem key_nan {a : Nat} (h : nan a) : tabulariumref03_key.f a = some (2, 0, 0) := by
  unfold tabulariumref03_key.f
  rw [t_ne, decide_eq_true h, if_pos rfl]
theorem key_num {a : Nat} (ha : a < 18446744073709551616) (h : ¬ nan a) : ∃ f p, tabulariumref03_key.f a = some (1, f, p) ∧ ¬ nan f ∧ key f = key a ∧ (key a = 0 → p = if neg a = true then 0 else 1) := by
  unfold tabulariumref03_key.f
  rw [t_ne, decide_eq_false h, if_neg (by decide), signbit_at ha, Option.bind_some]
  have e := t_eq a 0
  by_cases c : (FloatKind.f64.format.order a 0 == some .eq) = true
  · rw [if_pos c]
    have hk : key a = 0 := by rw [(e.1 c).2, key0]
    by_cases n : neg a = true
    · rw [if_pos n]
      exact ⟨0, 0, rfl, nan0, by rw [key0, hk], fun _ => (if_pos n).symm⟩
    · rw [if_neg n]
      exact ⟨a, 1, rfl, h, rfl, fun _ => (if_neg n).symm⟩
  · rw [if_neg c]
    exact ⟨a, 1, rfl, h, rfl, fun q => absurd (e.2 ⟨⟨h, nan0⟩, by rw [q, key0]⟩) c⟩

theorem refOrder_at {a b : Nat} (ha : a < 18446744073709551616) (hb : b < 18446744073709551616) (k : Nat) : tabulariumref03_Order.f (k + 1) a b = some (ordv a b) := by
  unfold tabulariumref03_Order.f
  by_cases na : nan a
  · rw [key_nan na, Option.bind_some]
    by_cases nb : nan b
    · rw [key_nan nb, Option.bind_some, show ordv a b = 0 from by unfold ordv; rw [rank_nan na, rank_nan nb]; rfl]
      rfl
    · obtain ⟨g, q, hg, _⟩ := key_num hb nb
      have h1 := rank_nan na
      have h2 := rank_lt_nan hb nb
      rw [hg, Option.bind_some, if_neg (show ¬ (2 : Int) = 1 by decide), show ordv a b = 1 from by unfold ordv; rw [if_neg (by omega), if_pos (by omega)]]
      rfl
  · obtain ⟨f, p, hf, f1, f2, f3⟩ := key_num ha na
    rw [hf, Option.bind_some]
    by_cases nb : nan b
    · have h1 := rank_nan nb
      have h2 := rank_lt_nan ha na
      rw [key_nan nb, Option.bind_some, if_neg (show ¬ (1 : Int) = 2 by decide), show ordv a b = -1 from by unfold ordv; rw [if_pos (by omega)]]
      rfl
    · obtain ⟨g, q, hg, g1, g2, g3⟩ := key_num hb nb
      rw [hg, Option.bind_some, if_pos rfl]
      simp only
      have tl := t_lt f g
      have tg := t_gt f g
      have te := t_eq f 0
      rw [f2, g2] at tl tg
      rw [f2, key0] at te
      have ra := rank_key ha na
      have rb := rank_key hb nb
      by_cases c1 : key a < key b
      · have hl := tl.2 ⟨⟨f1, g1⟩, c1⟩
        rw [if_pos hl, tabulariumref03_Order.j0, if_pos rfl, hl, show ordv a b = -1 from by unfold ordv; rw [if_pos (rank_of_lt ha hb ⟨na, nb⟩ c1)]]
        rfl
      · have hl : (FloatKind.f64.format.order f g == some .lt) = false := Bool.eq_false_iff.mpr (fun h => c1 (tl.1 h).2)
        rw [hl, if_neg (by decide), tabulariumref03_Order.j0]
        by_cases c2 : key b < key a
        · have hh := rank_of_lt hb ha ⟨nb, na⟩ c2
          rw [if_pos (tg.2 ⟨⟨f1, g1⟩, c2⟩), hl, show ordv a b = 1 from by unfold ordv; rw [if_neg (by omega), if_pos hh]]
          rfl
        · rw [if_neg (fun h => c2 (tg.1 h).2)]
          by_cases c3 : key a = 0
          · rw [if_pos (te.2 ⟨⟨f1, nan0⟩, c3⟩), f3 c3, g3 (by omega)]
            rcases ra with ⟨n1, r1, r2⟩ | ⟨n1, r1, r2, r3⟩ <;> rcases rb with ⟨m1, s1, s2⟩ | ⟨m1, s1, s2, s3⟩ <;> rw [n1, m1]
            · rw [if_pos rfl, show ordv a b = 0 from by unfold ordv; rw [if_neg (by omega), if_neg (by omega)]]
            · rw [if_pos rfl, if_neg (by decide), if_neg (by decide), show ordv a b = -1 from by unfold ordv; rw [if_pos (by omega)]]
              rfl
            · rw [if_pos rfl, if_neg (by decide), if_neg (by decide), show ordv a b = 1 from by unfold ordv; rw [if_neg (by omega), if_pos (by omega)]]
              rfl
            · rw [if_pos rfl, show ordv a b = 0 from by unfold ordv; rw [if_neg (by omega), if_neg (by omega)]]
          · rw [if_neg (fun h => c3 (te.1 h).2), show ordv a b = 0 from by unfold ordv; rcases ra with ⟨n1, r1, r2⟩ | ⟨n1, r1, r2, r3⟩ <;> rcases rb with ⟨m1, s1, s2⟩ | ⟨m1, s1, s2, s3⟩ <;> rw [if_neg (by omega), if_neg (by omega)]]

theorem rk_at {a : Nat} (ha : a < 18446744073709551616) : rk a = (rankv a : Int) := by
  unfold rk; rw [rank_at ha]; rfl
theorem ordv_gt {a b : Nat} (ha : a < 18446744073709551616) (hb : b < 18446744073709551616) : ordv a b > 0 ↔ rk b < rk a := by
  rw [rk_at ha, rk_at hb]
  unfold ordv
  repeat' split
  all_goals omega

/-- in order -/
def InOrder (L : List Nat) : Prop := L.Pairwise (fun a b => rk a ≤ rk b)
theorem order_put {acc : List Nat} {x : Nat} {j : Nat} (hj : j ≤ acc.length) (h : InOrder acc) (h1 : ∀ y ∈ acc.take j, rk y ≤ rk x) (h2 : ∀ y ∈ acc.drop j, rk x < rk y) : InOrder ((acc.take j ++ [x]) ++ acc.drop j) ∧ ((acc.take j ++ [x]) ++ acc.drop j).Perm (x :: acc) := by
  have e := List.take_append_drop j acc
  unfold InOrder at h ⊢
  rw [← e, List.pairwise_append] at h
  constructor
  · rw [List.append_assoc, List.pairwise_append, List.singleton_append, List.pairwise_cons]
    refine ⟨h.1, ⟨fun y hy => Int.le_of_lt (h2 y hy), h.2.1⟩, fun a ha b hb => ?_⟩
    rcases List.mem_cons.1 hb with rfl | hb
    · exact h1 a ha
    · exact h.2.2 a ha b hb
  · rw [List.append_assoc, List.singleton_append]
    have := List.perm_middle (a := x) (l₁ := acc.take j) (l₂ := acc.drop j)
    rw [e] at this
    exact this

theorem rdn (L : List Nat) (j : Nat) (h : j < L.length) : rdOf (0 : Nat) L (j : Int) = L[j] := by
  unfold rdOf
  rw [Int.toNat_natCast, List.getD_eq_getElem?_getD, List.getElem?_eq_getElem h]
  rfl
theorem wu (j : Nat) (h : j < 1000) : wrap64 ((j : Int) + 1) = ((j + 1 : Nat) : Int) := by unfold wrap64; omega
theorem wd (j : Nat) (h : j < 1000) : wrap64 (((j + 1 : Nat) : Int) - 1) = ((j : Nat) : Int) := by unfold wrap64; omega

theorem ref_l1 (x0 : List Nat) (i : Nat) (hi : i < x0.length) (h100 : x0.length ≤ 100) (hw : ∀ y ∈ x0, y < 18446744073709551616) :
    ∀ j (acc : List Nat) K, acc.length ≤ 100 → j ≤ acc.length → InOrder acc → (∀ y ∈ acc, y < 18446744073709551616) → (∀ y ∈ acc.drop j, rk x0[i] < rk y) →
      ∃ acc' K', K ≤ K' ∧ InOrder acc' ∧ acc'.Perm (x0[i] :: acc) ∧ tabulariumref03_Sort.l1 (j + 2 + K) x0 acc (i : Int) ((j : Nat) : Int) = tabulariumref03_Sort.l0 K' x0 acc' ((i + 1 : Nat) : Int)
  | 0, acc, K, ha, hj, hs, hwa, hd => by
    obtain ⟨o1, o2⟩ := order_put (x := x0[i]) hj hs (fun y hy => by simp at hy) hd
    refine ⟨_, K + 1, by omega, o1, o2, ?_⟩
    rw [show 0 + 2 + K = (K + 1) + 1 by omega, tabulariumref03_Sort.l1, if_neg (by omega), if_pos (by omega), if_pos (by omega)]
    simp only [Option.bind_some]
    rw [rdn x0 i hi]
    have l1 : ((0 : Nat) : Int).toNat = 0 := rfl
    rw [l1]
    have e1 : (([] : List Nat) ++ acc.take 0) = acc.take 0 := List.nil_append _
    rw [e1, if_pos (by simp), if_pos (by omega), if_pos (by omega), if_pos (by simp), if_pos (by simp; omega), wu i (by omega)]
  | j + 1, acc, K, ha, hj, hs, hwa, hd => by
    have hx := hw x0[i] (List.getElem_mem hi)
    have hy := hwa acc[j] (List.getElem_mem (by omega))
    rw [show j + 1 + 2 + K = (j + 1 + 1 + K) + 1 by omega, tabulariumref03_Sort.l1, if_pos (by omega), wd j (by omega), if_pos (by omega), if_pos (by omega), if_pos (by omega), if_pos (by omega), rdn acc j (by omega), rdn x0 i hi,
      show j + 1 + 1 + K = (j + 1 + K) + 1 by omega, refOrder_at hy hx, Option.bind_some]
    by_cases c : ordv acc[j] x0[i] > 0
    · rw [if_pos c, show j + 1 + K + 1 = j + 2 + K by omega]
      refine ref_l1 x0 i hi h100 hw j acc K ha (by omega) hs hwa (fun y hy' => ?_)
      rw [List.drop_eq_getElem_cons (show j < acc.length by omega)] at hy'
      rcases List.mem_cons.1 hy' with rfl | hy'
      · exact (ordv_gt hy hx).1 c
      · exact hd y hy'
    · have hle : ∀ y ∈ acc.take (j + 1), rk y ≤ rk x0[i] := by
        intro y hy'
        obtain ⟨p, hp, rfl⟩ := List.getElem_of_mem hy'
        have hp' : p < j + 1 := by rw [List.length_take] at hp; omega
        rw [List.getElem_take]
        have h1 : rk acc[j] ≤ rk x0[i] := by
          have : ¬ rk x0[i] < rk acc[j] := fun q => c ((ordv_gt hy hx).2 q)
          omega
        rcases Nat.lt_or_ge p j with h2 | h2
        · have := List.pairwise_iff_getElem.1 hs p j (by omega) (by omega) h2
          omega
        · have e : p = j := by omega
          subst e
          exact h1
      obtain ⟨o1, o2⟩ := order_put (x := x0[i]) hj hs hle hd
      refine ⟨_, j + 1 + K + 1, by omega, o1, o2, ?_⟩
      rw [if_neg c, if_pos (by omega), if_pos (by omega)]
      simp only [Option.bind_some]
      have l1 : ((j + 1 : Nat) : Int).toNat = j + 1 := Int.toNat_natCast _
      rw [l1]
      have e1 : (([] : List Nat) ++ acc.take (j + 1)) = acc.take (j + 1) := List.nil_append _
      have z1 : (acc.take (j + 1)).length = j + 1 := by rw [List.length_take]; omega
      have z2 : (acc.drop (j + 1)).length = acc.length - (j + 1) := List.length_drop
      rw [e1, if_pos (by simp only [List.length_nil]; omega), if_pos (by omega), if_pos (by rw [List.length_append, z1, z2]; simp; omega), wu i (by omega)]

theorem ref_l0 (x0 : List Nat) (h100 : x0.length ≤ 100) (hw : ∀ y ∈ x0, y < 18446744073709551616) :
    ∀ r i (acc : List Nat) K, i + r = x0.length → InOrder acc → acc.Perm (x0.take i) → r * (x0.length + 3) + 1 ≤ K →
      ∃ s, tabulariumref03_Sort.l0 K x0 acc ((i : Nat) : Int) = some s ∧ InOrder s ∧ s.Perm x0
  | 0, i, acc, K, hi, hs, hp, hK => by
    obtain ⟨K1, rfl⟩ : ∃ q, K = q + 1 := ⟨K - 1, by omega⟩
    refine ⟨acc, by rw [tabulariumref03_Sort.l0, if_neg (by omega)], hs, ?_⟩
    rw [List.take_of_length_le (by omega)] at hp
    exact hp
  | r + 1, i, acc, K, hi, hs, hp, hK => by
    rw [Nat.add_mul] at hK
    have hi0 : i < x0.length := by omega
    have hl : acc.length = i := by rw [hp.length_eq, List.length_take]; omega
    obtain ⟨K1, rfl⟩ : ∃ q, K = (acc.length + 2 + q) + 1 := ⟨K - 1 - (acc.length + 2), by omega⟩
    rw [tabulariumref03_Sort.l0, if_pos (by omega)]
    obtain ⟨acc', K', g1, g2, g3, g4⟩ := ref_l1 x0 i hi0 h100 hw acc.length acc K1 (by omega) (Nat.le_refl _) hs (fun y hy => hw y (List.mem_of_mem_take (hp.mem_iff.1 hy))) (fun y hy => by simp at hy)
    rw [g4]
    refine ref_l0 x0 h100 hw r (i + 1) acc' K' (by omega) g2 (g3.trans ?_) (by omega)
    rw [List.take_succ_eq_append_getElem hi0]
    exact (List.Perm.cons _ hp).trans (List.perm_append_singleton _ _).symm
theorem refSort_at (x0 : List Nat) (h100 : x0.length ≤ 100) (hw : ∀ y ∈ x0, y < 18446744073709551616) (K : Nat) (hK : x0.length * (x0.length + 3) + 1 ≤ K) : ∃ s, tabulariumref03_Sort.f K x0 = some s ∧ InOrder s ∧ s.Perm x0 :=
  ref_l0 x0 h100 hw x0.length 0 [] K (by omega) List.Pairwise.nil (by simp) hK

/-- the same bits, or no numbers both -/
theorem same_of {a b : Nat} (ha : a < 18446744073709551616) (hb : b < 18446744073709551616) (h : rk a = rk b) : tabulariumref03_Same.f a b = some true := by
  rw [rk_at ha, rk_at hb] at h
  have h' := (rank_eq ha hb).1 (by omega)
  unfold tabulariumref03_Same.f
  rw [t_ne, t_ne]
  rcases h' with rfl | ⟨n1, n2⟩
  · by_cases c : nan a <;> simp [c]
  · rw [decide_eq_true n1, decide_eq_true n2, if_pos rfl, if_pos rfl]
theorem reals_l0 (s t : List Nat) (hl : s.length = t.length) (h100 : s.length ≤ 100) (hs : ∀ i (h : i < s.length) (h' : i < t.length), tabulariumref03_Same.f s[i] t[i] = some true) :
    ∀ r i K, i + r = s.length → tabulariumlaw03_reals.l0 (r + 1 + K) s t ((i : Nat) : Int) = some true
  | 0, i, K, hi => by
    rw [show 0 + 1 + K = K + 1 by omega, tabulariumlaw03_reals.l0, if_neg (by omega)]
  | r + 1, i, K, hi => by
    rw [show r + 1 + 1 + K = (r + 1 + K) + 1 by omega, tabulariumlaw03_reals.l0, if_pos (by omega), if_pos (by omega), if_pos (by omega), rdn s i (by omega), rdn t i (by omega), hs i (by omega) (by omega), Option.bind_some, if_pos rfl, wu i (by omega)]
    exact reals_l0 s t hl h100 hs r (i + 1) K (by omega)
theorem reals_at (s t : List Nat) (hl : s.length = t.length) (h100 : s.length ≤ 100) (hs : ∀ i (h : i < s.length) (h' : i < t.length), tabulariumref03_Same.f s[i] t[i] = some true) (K : Nat) (hK : s.length + 1 ≤ K) : tabulariumlaw03_reals.f K s t = some true := by
  unfold tabulariumlaw03_reals.f
  rw [if_pos (by omega)]
  obtain ⟨q, rfl⟩ : ∃ q, K = s.length + 1 + q := ⟨K - (s.length + 1), by omega⟩
  exact reals_l0 s t hl h100 hs s.length 0 q (by omega)
/-- two orders of one list stand alike -/
theorem ranks_alike {s t : List Nat} (hs : InOrder s) (ht : InOrder t) (hp : s.Perm t) : s.map rk = t.map rk := by
  refine List.Perm.eq_of_pairwise (le := fun a b => a ≤ b) (fun a b _ _ h1 h2 => Int.le_antisymm h1 h2) ?_ ?_ (hp.map rk)
  · exact List.pairwise_map.2 hs
  · exact List.pairwise_map.2 ht
end Go.Proofs.Ytoncmgkgflomlaa.Pure
