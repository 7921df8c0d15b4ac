/- The law RealMeans over plain functions: a mean of whole numbers lies between the least and the greatest of them; what is no number, or endless, plays no part. For every list of ints and every fraction. -/
import Derived.Test.YtoncmgkgflomlaaEx03
import Derived.Test.YtoncmgkgflomlaaFlWhole
import Derived.Test.YtoncmgkgflomlaaPx15
namespace Go.Proofs.Ytoncmgkgflomlaa.Pure
open Go.RowKit Go.Proofs.Ytoncmgkgflomlaa.P Go.Proofs.Ytoncmgkgflomlaa.Sp Go.Proofs.Ytoncmgkgflomlaa.Fl Go.Proofs.YtoncmgkgflomlaaW.PrintWords Go.Proofs.YtoncmgkgflomlaaW.PrintLast Go.Proofs.YtoncmgkgflomlaaW.PrintMore
set_option linter.unusedVariables false

/-- what stands beside each number in the second list -/
def four (n : Int) : List Nat := [floatOfInt .f64 n, 9221120237041090561, 9218868437227405312, 18442240474082181120]

theorem step_whole (s : Int) (c : Nat) (n : Int) (hs : s.natAbs < 2 ^ 53) (hn : n.natAbs ≤ 1000) : stepm (floatOfInt .f64 s, c) (floatOfInt .f64 n) = (floatOfInt .f64 (s + n), c + 1) := by
  obtain ⟨r, _, h1, _, h2, _⟩ := whole_facts n (by omega)
  unfold stepm
  rw [if_neg (by
    rintro (h | h)
    · exact whole_nan n (by omega) h
    · rw [h1] at h; omega)]
  simp only
  rw [whole_add s n hs (by omega)]
  rfl

theorem fold_a : ∀ (ns : List Int) (s : Int) (c : Nat), (∀ n ∈ ns, n.natAbs ≤ 1000) → s.natAbs + 1000 * ns.length < 2 ^ 53 →
    (ns.map (floatOfInt .f64)).foldl stepm (floatOfInt .f64 s, c) = (floatOfInt .f64 (s + ns.sum), c + ns.length)
  | [], s, c, _, _ => by simp
  | n :: ns, s, c, hn, hs => by
    have h1 := hn n (.head _)
    rw [List.length_cons] at hs
    rw [List.map_cons, List.foldl_cons, step_whole s c n (by omega) h1, fold_a ns (s + n) (c + 1) (fun m hm => hn m (.tail _ hm)) (by omega), List.sum_cons, List.length_cons, Int.add_assoc, Nat.add_assoc, Nat.add_comm 1]

theorem skip3 (p : Nat × Nat) : stepm (stepm (stepm p 9221120237041090561) 9218868437227405312) 18442240474082181120 = p := by
  have h1 : ∀ q : Nat × Nat, stepm q 9221120237041090561 = q := fun q => by unfold stepm; rw [if_pos (.inl (by decide))]
  have h2 : ∀ q : Nat × Nat, stepm q 9218868437227405312 = q := fun q => by unfold stepm; rw [if_pos (.inr (by decide))]
  have h3 : ∀ q : Nat × Nat, stepm q 18442240474082181120 = q := fun q => by unfold stepm; rw [if_pos (.inr (by decide))]
  rw [h1, h2, h3]

theorem fold_b (ns : List Int) : ∀ (p : Nat × Nat), (ns.flatMap four).foldl stepm p = (ns.map (floatOfInt .f64)).foldl stepm p := by
  induction ns with
  | nil => intro p; rfl
  | cons n ns ih =>
    intro p
    rw [List.flatMap_cons, List.foldl_append, ih, List.map_cons, List.foldl_cons]
    first | exact congrArg _ (skip3 _) | (congr 1; done) | (congr 1; exact skip3 _)

theorem sum_bounds (lo hi : Int) : ∀ (ns : List Int), (∀ n ∈ ns, lo ≤ n ∧ n ≤ hi) → lo * (ns.length : Int) ≤ ns.sum ∧ ns.sum ≤ hi * (ns.length : Int)
  | [], _ => by simp
  | n :: ns, h => by
    obtain ⟨h1, h2⟩ := sum_bounds lo hi ns (fun m hm => h m (.tail _ hm))
    have := h n (.head _)
    rw [List.length_cons, List.sum_cons, show (((ns.length + 1 : Nat)) : Int) = (ns.length : Int) + 1 by omega, Int.mul_add, Int.mul_add]
    omega

theorem sum_small (ns : List Int) (h : ∀ n ∈ ns, n.natAbs ≤ 1000) : ns.sum.natAbs ≤ 1000 * ns.length := by
  induction ns with
  | nil => simp
  | cons n ns ih =>
    have := ih (fun m hm => h m (.tail _ hm))
    have := h n (.head _)
    rw [List.length_cons, List.sum_cons]
    omega

theorem whole_lt (n : Int) : floatOfInt .f64 n < 18446744073709551616 := by
  have := FloatKind.f64.format.write_lt (.number (n < 0) n.natAbs 0)
  exact this

/-- the mean of whole numbers that are between two -/
theorem mean_between (ns : List Int) (lo hi : Int) (h : ∀ n ∈ ns, n.natAbs ≤ 1000) (hb : ∀ n ∈ ns, lo ≤ n ∧ n ≤ hi) (h1 : 1 ≤ ns.length) (h2 : ns.length ≤ 50) (hl : lo.natAbs ≤ 1000) (hh : hi.natAbs ≤ 1000) :
    ¬ nan (meanv (ns.map (floatOfInt .f64))) ∧ key (floatOfInt .f64 lo) ≤ key (meanv (ns.map (floatOfInt .f64))) ∧ key (meanv (ns.map (floatOfInt .f64))) ≤ key (floatOfInt .f64 hi) := by
  have hz : (0 : Nat) = floatOfInt .f64 0 := by decide +kernel
  have hs := sum_small ns h
  obtain ⟨b1, b2⟩ := sum_bounds lo hi ns hb
  unfold meanv
  have := fold_a ns 0 0 h (by simp; omega)
  rw [← hz] at this
  rw [this, Int.zero_add, Nat.zero_add]
  clear this
  generalize ns.sum = s at *
  generalize ns.length = c at *
  obtain ⟨q, e, g⟩ := whole_div s (c : Int) lo hi (by omega) (by omega) (by omega) (by omega) (by omega) b1 b2
  obtain ⟨r, _, w1, _, w2, _⟩ := whole_facts s (by omega)
  unfold meanEnd
  simp only
  rw [if_neg (by omega), if_neg (by rw [w1]; omega), e]
  exact g

theorem mean_same (ns : List Int) : meanv (ns.flatMap four) = meanv (ns.map (floatOfInt .f64)) := by
  unfold meanv; rw [fold_b]

theorem mean_none {a : Nat} (h : nan a ∨ rung a = inf) : meanv [a] = 0 := by
  unfold meanv
  rw [List.foldl_cons, List.foldl_nil]
  unfold stepm
  rw [if_pos h]
  rfl

theorem sub_self_fin {a : Nat} (h : rung a < inf) : FloatKind.f64.format.sub a a = some 0 := by
  obtain ⟨m, i, e, _⟩ := read_num h
  unfold Ieee.Format.sub
  rw [e]
  simp only [Ieee.Datum.opposite, Ieee.Datum.sum, Option.map_some, Ieee.Format.write]
  unfold Ieee.signed
  rw [Int.min_self, Int.sub_self]
  have : ((if neg a = true then -((m <<< (0 : Int).toNat : Nat) : Int) else ((m <<< (0 : Int).toNat : Nat) : Int)) + (if (!neg a) = true then -((m <<< (0 : Int).toNat : Nat) : Int) else ((m <<< (0 : Int).toNat : Nat) : Int))) = 0 := by
    cases neg a <;> simp <;> omega
  rw [this, if_pos rfl, Int.natAbs_zero, nearest_zero]
  cases neg a <;> decide +kernel

theorem fmn_whole (a b : Int) (ha : a.natAbs ≤ 1000) (hb : b.natAbs ≤ 1000) : (FloatKind.f64.format.order (floatOfInt .f64 a) (floatOfInt .f64 b)).isSome = true ∧ fmn (floatOfInt .f64 a) (floatOfInt .f64 b) = floatOfInt .f64 (min a b) ∧ fmx (floatOfInt .f64 a) (floatOfInt .f64 b) = floatOfInt .f64 (max a b) := by
  have k1 := whole_key a b (by omega) (by omega)
  have k2 := whole_key b a (by omega) (by omega)
  have e := order_key (whole_nan a (by omega)) (whole_nan b (by omega))
  unfold fmn fmx
  rw [e]
  refine ⟨rfl, ?_⟩
  rcases Int.lt_trichotomy a b with c | c | c
  · rw [cmp_lt (show key (floatOfInt .f64 a) < key (floatOfInt .f64 b) by omega), Int.min_eq_left (by omega), Int.max_eq_right (by omega)]
    exact ⟨rfl, rfl⟩
  · subst c
    rw [cmp_eq rfl, Int.min_self, Int.max_self]
    simp
  · rw [cmp_gt (show key (floatOfInt .f64 b) < key (floatOfInt .f64 a) by omega), Int.min_eq_right (by omega), Int.max_eq_left (by omega)]
    exact ⟨rfl, rfl⟩

theorem mean_a (ns : List Int) (h : ns.length ≤ 50) (k : Nat) (hk : 53 ≤ k) : real_Mean.f k (ns.map (floatOfInt .f64)) = some (meanv (ns.map (floatOfInt .f64))) :=
  (mean_at _ (by rw [List.length_map]; omega) (fun x hx => by obtain ⟨n, _, rfl⟩ := List.mem_map.1 hx; exact whole_lt n) k (by rw [List.length_map]; omega)).1

theorem four_len (ns : List Int) : (ns.flatMap four).length = 4 * ns.length := by
  induction ns with
  | nil => rfl
  | cons n ns ih => rw [List.flatMap_cons, List.length_append, ih, List.length_cons]; show 4 + _ = _; omega

theorem mean_b (ns : List Int) (h : ns.length ≤ 50) (k : Nat) (hk : 203 ≤ k) : real_Mean.f k (ns.flatMap four) = some (meanv (ns.map (floatOfInt .f64))) := by
  rw [← mean_same]
  refine (mean_at _ (by rw [four_len]; omega) (fun x hx => ?_) k (by rw [four_len]; omega)).1
  obtain ⟨n, _, h⟩ := List.mem_flatMap.1 hx
  simp only [four, List.mem_cons, List.not_mem_nil, or_false] at h
  rcases h with rfl | rfl | rfl | rfl
  · exact whole_lt n
  all_goals decide

theorem eq_zero : (FloatKind.f64.format.order 0 0 == some .eq) = true := by decide +kernel
theorem mean_nil : meanv [] = 0 := rfl

/-- behind the last round -/
theorem ends (k : Nat) (hk : 210 ≤ k) (l : List Int) (a : Nat) (ha : a < 18446744073709551616) (ns : List Int) (lo hi : Int) (i : Int) (h : ∀ n ∈ ns, n.natAbs ≤ 1000) (hb : ∀ n ∈ ns, lo ≤ n ∧ n ≤ hi) (h2 : ns.length ≤ 50) (hl : lo.natAbs ≤ 1000) (hh : hi.natAbs ≤ 1000) :
    tabulariumlaw03_RealMeans.j1 k l a true (ns.map (floatOfInt .f64)) (ns.flatMap four) (floatOfInt .f64 lo) (floatOfInt .f64 hi) i false = some true := by
  obtain ⟨k, rfl⟩ : ∃ m, k = m + 1 := ⟨k - 1, by omega⟩
  rw [tabulariumlaw03_RealMeans.j1, if_neg (by decide), mean_a ns h2 k (by omega), Option.bind_some, List.length_map, mean_b ns h2 k (by omega)]
  by_cases c : ns.length = 0
  · obtain rfl := List.eq_nil_of_length_eq_zero c
    rw [if_pos (by rfl), if_pos rfl, List.map_nil, mean_nil, if_pos eq_zero, t_ne]
    have m1 := (mean_at [a] (by simp) (fun x hx => by rw [List.mem_singleton.1 hx]; exact ha) k (by simp; omega)).1
    rw [m1, Option.bind_some]
    by_cases c1 : nan a
    · rw [if_pos (decide_eq_true c1), mean_none (.inl c1), eq_zero]
    · rw [if_neg (by rw [decide_eq_false c1]; decide)]
      by_cases c2 : rung a = inf
      · rw [mean_none (.inr c2), eq_zero]
        split
        · split <;> rfl
        · rfl
      · have c3 : rung a < inf := by unfold nan at c1; omega
        rw [sub_self_fin c3, if_pos (show (some (0 : Nat)).isSome = true from rfl), Option.getD_some, if_neg (by decide +kernel)]
  · rw [if_neg (by omega), if_pos rfl]
    obtain ⟨g1, g2, g3⟩ := mean_between ns lo hi h hb (by omega) h2 hl hh
    generalize meanv (ns.map (floatOfInt .f64)) = m at *
    rw [if_pos ((t_ge _ _).2 ⟨⟨g1, whole_nan lo (by omega)⟩, g2⟩), if_pos ((t_le _ _).2 ⟨⟨g1, whole_nan hi (by omega)⟩, g3⟩), Option.bind_some, t_eqs, decide_eq_false g1]
    rfl

theorem loop (l : List Int) (hl : l.length ≤ 2 ^ 60) (hr : ∀ j : Nat, -9223372036854775808 ≤ rd l (j : Int)) (a : Nat) (ha : a < 18446744073709551616) : ∀ (d i : Nat) (k : Nat) (ns : List Int) (lo hi : Int), 50 - i = d → i ≤ 50 → ns.length = i → 2 * d + 220 ≤ k → (∀ n ∈ ns, n.natAbs ≤ 1000) → (∀ n ∈ ns, lo ≤ n ∧ n ≤ hi) → lo.natAbs ≤ 1000 → hi.natAbs ≤ 1000 →
    tabulariumlaw03_RealMeans.l0 k l a true (ns.map (floatOfInt .f64)) (ns.flatMap four) (floatOfInt .f64 lo) (floatOfInt .f64 hi) (i : Int) = some true := by
  intro d
  induction d with
  | zero =>
    intro i k ns lo hi hd hi50 hn hk h hb h1 h2
    obtain ⟨k, rfl⟩ : ∃ m, k = m + 1 := ⟨k - 1, by omega⟩
    have e := ends k (by omega) l a ha ns lo hi (i : Int) h hb (by omega) h1 h2
    rw [tabulariumlaw03_RealMeans.l0, decide_eq_false (by omega), e]
    simp
  | succ d ih =>
    intro i k ns lo hi hd hi50 hn hk h hb h1 h2
    obtain ⟨k, rfl⟩ : ∃ m, k = m + 2 := ⟨k - 2, by omega⟩
    have e := ends (k + 1) (by omega) l a ha ns lo hi (i : Int) h hb (by omega) h1 h2
    rw [tabulariumlaw03_RealMeans.l0, e]
    by_cases c : (i : Int) < (l.length : Int)
    · rw [if_pos c, decide_eq_true (by omega), tabulariumlaw03_RealMeans.j1, if_pos rfl, if_pos (by omega), if_pos c]
      have hNaN : math_NaN.f = some 9221120237041090561 := rfl
      have hI1 : math_Inf.f 1 = some 9218868437227405312 := rfl
      have hI2 : math_Inf.f (-1) = some 18442240474082181120 := rfl
      have e2 : wrap64 ((i : Int) + 1) = ((i + 1 : Nat) : Int) := by rw [wrap64_of (by omega) (by omega)]; omega
      have key_ : ∀ n : Int, n.natAbs ≤ 1000 → tabulariumlaw03_RealMeans.l0 k l a true (ns.map (floatOfInt .f64) ++ [floatOfInt .f64 n]) (ns.flatMap four ++ [floatOfInt .f64 n, 9221120237041090561, 9218868437227405312, 18442240474082181120]) (fmn (floatOfInt .f64 lo) (floatOfInt .f64 n)) (fmx (floatOfInt .f64 hi) (floatOfInt .f64 n)) ((i + 1 : Nat) : Int) = some true := by
        intro n hn1
        have := ih (i + 1) k (ns ++ [n]) (min lo n) (max hi n) (by omega) (by omega) (by rw [List.length_append, hn]; rfl) (by omega)
          (fun m hm => by
            rcases List.mem_append.1 hm with hm | hm
            · exact h m hm
            · rw [List.mem_singleton.1 hm]; exact hn1)
          (fun m hm => by
            rcases List.mem_append.1 hm with hm | hm
            · have := hb m hm; omega
            · rw [List.mem_singleton.1 hm]; omega)
          (by omega) (by omega)
        rw [List.map_append, List.flatMap_append] at this
        rw [(fmn_whole lo n h1 hn1).2.1, (fmn_whole hi n h2 hn1).2.2]
        exact this
      have bound : ∀ X : Int, 0 ≤ X → (wrap64 (Int.tmod X 2001 - 1000)).natAbs ≤ 1000 := by
        intro X hX
        rw [Int.tmod_eq_emod_of_nonneg hX]
        have q1 := Int.emod_nonneg X (show (2001 : Int) ≠ 0 by decide)
        have q2 := Int.emod_lt_of_pos X (show (0 : Int) < 2001 by decide)
        generalize X % 2001 = Y at *
        rw [wrap64_of (by omega) (by omega)]
        omega
      have le1 : (ns.map (floatOfInt .f64)).length < 17592186044416 := by rw [List.length_map]; omega
      have le2 : ∀ x y z w : Nat, (ns.flatMap four).length + ([x, y, z, w] : List Nat).length < 17592186044416 := fun x y z w => by rw [four_len]; show _ + 4 < _; omega
      by_cases c2 : rd l (i : Int) < 0
      · have b := bound (wrap64 (-(wrap64 (rd l (i : Int) + 1)))) (by
          have := hr i
          rw [wrap64_of (n := rd l (i : Int) + 1) (by omega) (by omega), wrap64_of (by omega) (by omega)]
          omega)
        rw [if_pos c2]
        generalize wrap64 (Int.tmod (wrap64 (-(wrap64 (rd l (i : Int) + 1)))) 2001 - 1000) = n at *
        rw [if_pos (fmn_whole lo n h1 b).1, if_pos (fmn_whole hi n h2 b).1, if_pos le1, hNaN, Option.bind_some, hI1, Option.bind_some, hI2, Option.bind_some, Option.bind_some, if_pos (le2 _ _ _ _), e2, key_ n b]
      · have b := bound (rd l (i : Int)) (by omega)
        rw [if_neg c2]
        generalize wrap64 (Int.tmod (rd l (i : Int)) 2001 - 1000) = n at *
        rw [if_pos (fmn_whole lo n h1 b).1, if_pos (fmn_whole hi n h2 b).1, if_pos le1, hNaN, Option.bind_some, hI1, Option.bind_some, hI2, Option.bind_some, Option.bind_some, if_pos (le2 _ _ _ _), e2, key_ n b]
    · rw [if_neg c]

theorem RealMeans : tabulariumlaw03_RealMeans.Pure := by
  intro l a h1 h2 h3 w
  refine ⟨400, ?_⟩
  unfold tabulariumlaw03_RealMeans.f
  rw [examples_at 400 (by omega), Option.bind_some]
  have hr : ∀ j : Nat, -9223372036854775808 ≤ rd l (j : Int) := fun j => by
    unfold rd
    rw [Int.toNat_natCast]
    by_cases c : j < l.length
    · have : l.getD j 0 = l[j] := by simp [List.getD, c]
      rw [this]
      have := h3 _ (List.getElem_mem c)
      simp [Lit.wf, IntKind.min, IntKind.max, IntKind.signed, IntKind.bits] at this
      omega
    · have : l.getD j 0 = 0 := by simp [List.getD, List.getElem?_eq_none (Nat.le_of_not_lt c)]
      rw [this]; omega
  have := loop l (by unfold maxLen at h1; omega) hr a (wf_lt w) 50 0 400 [] 1000 (-1000) rfl (by omega) rfl (by omega) (fun n h => by cases h) (fun n h => by cases h) (by decide) (by decide)
  rw [show floatOfInt .f64 1000 = 4652007308841189376 by decide +kernel, show floatOfInt .f64 (-1000) = 13875379345695965184 by decide +kernel] at this
  exact this

end Go.Proofs.Ytoncmgkgflomlaa.Pure
