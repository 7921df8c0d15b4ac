/- The law SafePlays over plain functions. For every fraction and every two lists of ints. -/
import Derived.Test.YtabgoiacjfekpaaSfSafe
import Derived.Test.YtabgoiacjfekpaaPx13
import Derived.Test.YtabgoiacjfekpaaPx11
import Derived.Test.YtabgoiacjfekpaaPx10
import Derived.Test.YtabgoiacjfekpaaPx14
namespace Go.Proofs.Ytabgoiacjfekpaa.Pure
open Go.RowKit Go.Proofs.Ytabgoiacjfekpaa.P Go.Proofs.Ytabgoiacjfekpaa.Sp Go.Proofs.Ytabgoiacjfekpaa.Fl Go.Proofs.YtabgoiacjfekpaaW.PrintWords Go.Proofs.YtabgoiacjfekpaaW.PrintLast Go.Proofs.YtabgoiacjfekpaaW.PrintMore
set_option linter.unusedVariables false

theorem plays_range {n : Int} (h : (Lit.int .i64 n).wf = true) : -9223372036854775808 ≤ n ∧ n ≤ 9223372036854775807 := by
  simpa [Lit.wf, IntKind.min, IntKind.max, IntKind.signed, IntKind.bits] using h
theorem rd_in {l : List Int} (h : ∀ x ∈ l, (Lit.int .i64 x).wf = true) (i : Int) (h0 : 0 ≤ i) (h1 : i < (l.length : Int)) : rd l i ≤ 9223372036854775807 := by
  have : rd l i ∈ l := by
    unfold rd
    rw [List.getD_eq_getElem?_getD, List.getElem?_eq_getElem (show i.toNat < l.length by omega)]
    exact List.getElem_mem _
  exact (plays_range (h _ this)).2

/-- both middles are the same -/
theorem mid_two {i j : Int} (h0 : 0 ≤ i) (h1 : i < j) (h2 : j ≤ 9223372036854775807) : mid i j = i + (j - i) / 2 ∧ wrap64 (i + (wrap64 (Int.tdiv (wrap64 (j - i)) 2))) = i + (j - i) / 2 := by
  have e1 : wrap64 (j - i) = j - i := wrap64_of (by omega) (by omega)
  have e2 : Int.tdiv (j - i) 2 = (j - i) / 2 := Int.tdiv_eq_ediv_of_nonneg (by omega)
  refine ⟨?_, ?_⟩
  · have e : IntKind.u64.wrap (wrap64 (i + j)) = i + j := by
      unfold wrap64
      simp [IntKind.wrap, IntKind.signed, IntKind.bits]
      omega
    unfold mid
    rw [e, wrap64_of (by omega) (by omega)]
    omega
  · rw [e1, e2, wrap64_of (n := (j - i) / 2) (by omega) (by omega), wrap64_of (by omega) (by omega)]

/-- what the one seeks and the other -/
theorem seek_two (a w : Int) (s : Nat) (hw : w ≤ 9223372036854775807) (b : Bool) : ∀ (d k : Nat) (i j : Int), 0 ≤ i → j ≤ 9223372036854775807 → j - i < 2 ^ d → d + 1 ≤ k →
    ∃ r, search (fun m => real_Reached.f (wrap64 (a + m)) w s) k i j = some r ∧ tabulariumref21_Safe_Missing.l0 k i j s b a w = some (r, s, b, a, w) := by
  intro d
  induction d with
  | zero =>
    intro k i j h0 h2 hd hk
    obtain ⟨k, rfl⟩ : ∃ m, k = m + 1 := ⟨k - 1, by omega⟩
    have c : ¬ i < j := by omega
    exact ⟨i, by rw [search, if_neg c], by rw [tabulariumref21_Safe_Missing.l0, if_neg c]⟩
  | succ d ih =>
    intro k i j h0 h2 hd hk
    obtain ⟨k, rfl⟩ : ∃ m, k = m + 1 := ⟨k - 1, by omega⟩
    by_cases c : i < j
    · obtain ⟨m1, m2⟩ := mid_two h0 c h2
      rw [search, if_pos c, tabulariumref21_Safe_Missing.l0, if_pos c, m1, m2, reached_at _ _ _ hw, ref_reached_at _ _ _ hw, Option.bind_some, Option.bind_some]
      have hd2 : j - i < 2 * 2 ^ d := by
        have : (2 : Int) ^ (d + 1) = 2 * 2 ^ d := by rw [Int.pow_succ, Int.mul_comm]
        omega
      have w1 : wrap64 (i + (j - i) / 2 + 1) = i + (j - i) / 2 + 1 := wrap64_of (by omega) (by omega)
      cases hm : reachv (wrap64 (a + (i + (j - i) / 2))) w s with
      | true =>
        rw [if_pos rfl, if_pos rfl]
        exact ih k i _ h0 (by omega) (by omega) (by omega)
      | false =>
        rw [if_neg (by decide), if_neg (by decide), w1]
        exact ih k _ j (by omega) h2 (by omega) (by omega)
    · exact ⟨i, by rw [search, if_neg c], by rw [tabulariumref21_Safe_Missing.l0, if_neg c]⟩

theorem missing_two (k : Nat) (hk : 80 ≤ k) (s : Nat) (o : Bool) (h w : Int) (hw : w ≤ 9223372036854775807) :
    ∃ r, safe_Safe_Missing.f k s o h w = some (r, s, o, h, w) ∧ tabulariumref21_Safe_Missing.f k s o h w = some (r, s, o, h, w) := by
  obtain ⟨k, rfl⟩ : ∃ m, k = m + 1 := ⟨k - 1, by omega⟩
  unfold safe_Safe_Missing.f tabulariumref21_Safe_Missing.f
  cases o with
  | true => exact ⟨0, by rw [if_pos rfl], by rw [if_pos rfl, tabulariumref21_Safe_Missing.j0, if_pos rfl]⟩
  | false =>
    rw [if_neg (show ¬ (false = true) by decide), if_neg (show ¬ (false = true) by decide), tabulariumref21_Safe_Missing.j0]
    by_cases c : w = 0
    · exact ⟨0, by rw [if_pos c], by rw [if_pos (by rw [c]; rfl)]⟩
    · have cb : ¬ ((w == 0) = true) := by simpa using c
      rw [if_neg c, if_neg cb]
      have hr : wrap64 (w - h) ≤ 9223372036854775807 := by
        unfold wrap64
        omega
      obtain ⟨r, g1, g2⟩ := seek_two h w s hw false 64 k 0 (wrap64 (w - h)) (by omega) hr (by omega) (by omega)
      refine ⟨r, ?_, g2⟩
      have g1' : search (fun m => real_Reached.f (wrap64 (h + m)) w s) (k + 1) 0 (wrap64 (w - h)) = some r := by
        exact search_mono (fun m => real_Reached.f (wrap64 (h + m)) w s) k 0 (wrap64 (w - h)) r g1
      rw [g1', Option.bind_some]

theorem ref_see_at (s0 : Nat) (s1 : Bool) (s2 s3 a w : Int) (hw : w ≤ 9223372036854775807) :
    tabulariumref21_Safe_See.f s0 s1 s2 s3 a w = some (!(s1 || reachv (mx a 0) (mx w 0) s0), s0, (s1 || reachv (mx a 0) (mx w 0) s0), mx a 0, mx w 0) := by
  unfold tabulariumref21_Safe_See.f
  rw [ref_reached_at _ _ _ (mx_le hw)]
  cases s1 <;> simp

theorem ref_new_at (s k : Nat) (hk : 2 ≤ k) : tabulariumref21_New.f k s = some (shv s, false, 0, 0) := by
  unfold tabulariumref21_New.f shv
  rw [t_ne]
  by_cases c : nan s
  · rw [if_pos (decide_eq_true c), if_pos c]; rfl
  · rw [if_neg (by rw [decide_eq_false c]; decide), ref_clamp_at _ _ _ k hk, if_neg c]; rfl

theorem plays_loop (l1 l2 : List Int) (h1 : ∀ x ∈ l1, (Lit.int .i64 x).wf = true) (h2 : ∀ x ∈ l2, (Lit.int .i64 x).wf = true) (s : Nat) : ∀ (n k : Nat) (i : Int), 0 ≤ i → 50 - i ≤ n → i ≤ 50 → 2 * n + 100 ≤ k → ∀ (o : Bool) (h w : Int),
    tabulariumlaw21_SafePlays.l0 k l1 l2 true i s o h w s o h w = some true := by
  intro n
  have j1 : ∀ (k : Nat) (i : Int) (o : Bool) (h w : Int), 1 ≤ k → tabulariumlaw21_SafePlays.j1 k l1 l2 true i false s o h w s o h w = some true := fun k i o h w hk => by
    obtain ⟨k, rfl⟩ : ∃ m, k = m + 1 := ⟨k - 1, by omega⟩
    rw [tabulariumlaw21_SafePlays.j1, if_neg (by decide)]
  induction n with
  | zero =>
    intro k i h0 hn h50 hk o h w
    obtain ⟨k, rfl⟩ : ∃ m, k = m + 1 := ⟨k - 1, by omega⟩
    rw [tabulariumlaw21_SafePlays.l0]
    rw [show decide (i < 50) = false from decide_eq_false (by omega)]
    rw [j1 k i o h w (by omega)]
    split
    · split <;> rfl
    · rfl
  | succ n ih =>
    intro k i h0 hn h50 hk o h w
    obtain ⟨k, rfl⟩ : ∃ m, k = m + 2 := ⟨k - 2, by omega⟩
    rw [show k + 2 = k + 1 + 1 from rfl, tabulariumlaw21_SafePlays.l0]
    by_cases c1 : i < (l1.length : Int)
    · by_cases c2 : i < (l2.length : Int)
      · rw [if_pos c1, if_pos c2]
        by_cases c3 : i < 50
        · rw [show decide (i < 50) = true from decide_eq_true c3, tabulariumlaw21_SafePlays.j1, if_pos rfl, if_pos h0, if_pos c1, if_pos c2]
          have r2 := rd_in h2 i h0 c2
          rw [see_at _ _ _ _ _ _ r2, ref_see_at _ _ _ _ _ _ r2]
          simp only [Option.bind_some]
          have hm := mx_le r2
          generalize mx (rd l1 i) 0 = hv at *
          generalize mx (rd l2 i) 0 = wv at *
          generalize (o || reachv hv wv s) = ov
          unfold safe_Safe_Seen.f safe_Safe_On.f
          simp only [Option.bind_some]
          obtain ⟨r, g1, g2⟩ := missing_two k (by omega) s ov hv wv hm
          rw [g1, g2]
          simp only [Option.bind_some, bne_self_eq_false, Bool.false_eq_true, ↓reduceIte]
          rw [wrap64_of (by omega) (by omega)]
          exact ih k (i + 1) (by omega) (by omega) (by omega) (by omega) ov hv wv
        · rw [show decide (i < 50) = false from decide_eq_false c3]
          exact j1 (k + 1) i o h w (by omega)
      · rw [if_pos c1, if_neg c2]
        exact j1 (k + 1) i o h w (by omega)
    · rw [if_neg c1]
      exact j1 (k + 1) i o h w (by omega)

theorem SafePlays : tabulariumlaw21_SafePlays.Pure := by
  intro s l1 l2 ws n1 m1 w1 n2 m2 w2
  refine ⟨300, ?_⟩
  unfold tabulariumlaw21_SafePlays.f
  rw [examples_at 300 (by omega), new_at s 300 (by omega), ref_new_at s 300 (by omega)]
  simp only [Option.bind_some]
  exact plays_loop l1 l2 w1 w2 (shv s) 50 300 0 (by omega) (by omega) (by omega) (by omega) false 0 0

end Go.Proofs.Ytabgoiacjfekpaa.Pure
