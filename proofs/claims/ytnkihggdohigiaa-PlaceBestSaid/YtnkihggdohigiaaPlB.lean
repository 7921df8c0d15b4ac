/- The stable sort over plain lists: what is sorted is in order, and is what was there. -/
import Derived.Test.YtnkihggdohigiaaPx7
import Derived.Sort.LotA
import Derived.Sort.Lot0
section

namespace Go.Proofs.Ytnkihggdohigiaa.Pure
set_option linter.unusedSectionVars false
open Go.Sort Go.Proofs.Ytnkihggdohigiaa.P
variable {α : Type} [Inhabited α] {lt : α → α → Bool}

/-- d' is d with [a, m) and [m, b) exchanged -/
structure Rot (d d' : Array α) (a m b : Nat) : Prop where
  size : d'.size = d.size
  get : ∀ p, d'[p]! = if a ≤ p ∧ p < a + (b - m) then d[p + (m - a)]! else if a + (b - m) ≤ p ∧ p < b then d[p - (b - m)]! else d[p]!

theorem swapFrom_get (a b : Nat) : ∀ r i (d : Array α), a + r ≤ b → b + (i + r) ≤ d.size → ∀ p, (St.swapFrom a b r i d)[p]! = if a + i ≤ p ∧ p < a + i + r then d[p + (b - a)]! else if b + i ≤ p ∧ p < b + i + r then d[p - (b - a)]! else d[p]!
  | 0, i, d, _, _, p => by
    rw [St.swapFrom]
    (repeat' split) <;> first | rfl | omega | exact congrArg (fun q => _[q]!) (by omega)
  | r + 1, i, d, h1, h2, p => by
    rw [St.swapFrom, swapFrom_get a b r (i + 1) _ (by omega) (by rw [swp_size]; omega)]
    simp only [swp_get d (show a + i < d.size by omega) (show b + i < d.size by omega)]
    (repeat' split) <;> first | rfl | omega | exact congrArg (fun q => _[q]!) (by omega)

theorem swapR_get (d : Array α) (a b n : Nat) (h1 : a + n ≤ b) (h2 : b + n ≤ d.size) (p : Nat) : (St.swapR d a b n)[p]! = if a ≤ p ∧ p < a + n then d[p + (b - a)]! else if b ≤ p ∧ p < b + n then d[p - (b - a)]! else d[p]! := by
  rw [St.swapR, swapFrom_get a b n 0 d h1 (by omega)]
  rfl

theorem rotFrom_rot (m : Nat) : ∀ f i j (d : Array α), 1 ≤ i → 1 ≤ j → i ≤ m → m + j ≤ d.size → i + j ≤ f → Rot d (St.rotFrom m f i j d) (m - i) m (m + j)
  | 0, i, j, d, h1, h2, h3, h4, h5 => absurd h5 (by omega)
  | f + 1, i, j, d, h1, h2, h3, h4, h5 => by
    rw [St.rotFrom]
    split
    · rename_i e
      subst e
      refine ⟨St.swapR_size _ _ _ _, fun p => ?_⟩
      rw [swapR_get d _ _ _ (by omega) (by omega)]
      (repeat' split) <;> first | rfl | omega | exact congrArg (fun q => _[q]!) (by omega)
    · split
      · rename_i e c
        have ih := rotFrom_rot m f (i - j) j (St.swapR d (m - i) m j) (by omega) (by omega) (by omega) (by rw [St.swapR_size]; omega) (by omega)
        refine ⟨ih.size.trans (St.swapR_size _ _ _ _), fun p => ?_⟩
        rw [ih.get]
        simp only [swapR_get d (m - i) m j (by omega) (by omega)]
        (repeat' split) <;> first | rfl | omega | exact congrArg (fun q => _[q]!) (by omega)
      · rename_i e c
        have ih := rotFrom_rot m f i (j - i) (St.swapR d (m - i) (m + j - i) i) (by omega) (by omega) (by omega) (by rw [St.swapR_size]; omega) (by omega)
        refine ⟨ih.size.trans (St.swapR_size _ _ _ _), fun p => ?_⟩
        rw [ih.get]
        simp only [swapR_get d (m - i) (m + j - i) i (by omega) (by omega)]
        (repeat' split) <;> first | rfl | omega | exact congrArg (fun q => _[q]!) (by omega)

theorem rot_rot (d : Array α) (a m b : Nat) (h1 : a < m) (h2 : m < b) (h3 : b ≤ d.size) : Rot d (St.rot d a m b) a m b := by
  have h := rotFrom_rot m (b - a + 1) (m - a) (b - m) d (by omega) (by omega) (by omega) (by omega) (by omega)
  rw [show m - (m - a) = a by omega, show m + (b - m) = b by omega] at h
  exact h
theorem symR_rot (d : Array α) (a m b : Nat) (h1 : a ≤ m) (h2 : m ≤ b) (h3 : b ≤ d.size) : Rot d (St.symR d a m b) a m b := by
  rw [St.symR]
  split
  · rename_i c
    exact rot_rot d a m b c.1 c.2 h3
  · refine ⟨rfl, fun p => ?_⟩
    (repeat' split) <;> first | rfl | omega | exact congrArg (fun q => _[q]!) (by omega)
theorem shR_rot : ∀ r k (d : Array α), k + 1 + r ≤ d.size → Rot d (St.shR r k d) k (k + 1) (k + 1 + r)
  | 0, k, d, h => by
    refine ⟨rfl, fun p => ?_⟩
    rw [St.shR]
    (repeat' split) <;> first | rfl | omega | exact congrArg (fun q => _[q]!) (by omega)
  | r + 1, k, d, h => by
    have ih := shR_rot r (k + 1) (swp d k (k + 1)) (by rw [swp_size]; omega)
    refine ⟨ih.size.trans (swp_size _ _ _), fun p => ?_⟩
    rw [St.shR, ih.get]
    simp only [swp_get d (show k < d.size by omega) (show k + 1 < d.size by omega)]
    (repeat' split) <;> first | rfl | omega | exact congrArg (fun q => _[q]!) (by omega)
theorem shL_rot : ∀ r k (d : Array α), r ≤ k → k < d.size → Rot d (St.shL r k d) (k - r) k (k + 1)
  | 0, k, d, h, h2 => by
    refine ⟨rfl, fun p => ?_⟩
    rw [St.shL]
    (repeat' split) <;> first | rfl | omega | exact congrArg (fun q => _[q]!) (by omega)
  | r + 1, k, d, h, h2 => by
    have ih := shL_rot r (k - 1) (swp d k (k - 1)) (by omega) (by rw [swp_size]; omega)
    refine ⟨ih.size.trans (swp_size _ _ _), fun p => ?_⟩
    rw [St.shL, ih.get]
    simp only [swp_get d (show k < d.size by omega) (show k - 1 < d.size by omega)]
    (repeat' split) <;> first | rfl | omega | exact congrArg (fun q => _[q]!) (by omega)

/-! ### permutations -/
theorem swapFrom_perm (a b lo hi : Nat) : ∀ r i (d : Array α), lo ≤ a + i → lo ≤ b + i → a + (i + r) ≤ hi → b + (i + r) ≤ hi → hi ≤ d.size → PermIn lo hi d (St.swapFrom a b r i d)
  | 0, i, d, _, _, _, _, _ => permIn_refl _ _ _
  | r + 1, i, d, h1, h2, h3, h4, h5 => by
    rw [St.swapFrom]
    exact permIn_trans _ _ _ _ _ (swp_permIn d lo hi (a + i) (b + i) h1 (by omega) h2 (by omega) h5) (swapFrom_perm a b lo hi r (i + 1) _ (by omega) (by omega) (by omega) (by omega) (by rw [swp_size]; exact h5))
theorem swapR_perm (d : Array α) (a b n lo hi : Nat) (h1 : lo ≤ a) (h2 : lo ≤ b) (h3 : a + n ≤ hi) (h4 : b + n ≤ hi) (h5 : hi ≤ d.size) : PermIn lo hi d (St.swapR d a b n) := swapFrom_perm a b lo hi n 0 d (by omega) (by omega) (by omega) (by omega) h5
theorem rotFrom_perm (m lo hi : Nat) : ∀ f i j (d : Array α), i ≤ m → lo ≤ m - i → m + j ≤ hi → hi ≤ d.size → PermIn lo hi d (St.rotFrom m f i j d)
  | 0, i, j, d, _, _, _, _ => permIn_refl _ _ _
  | f + 1, i, j, d, h0, h1, h2, h3 => by
    rw [St.rotFrom]
    split
    · exact swapR_perm d _ _ _ lo hi h1 (by omega) (by omega) (by omega) h3
    · split
      · exact permIn_trans _ _ _ _ _ (swapR_perm d (m - i) m j lo hi h1 (by omega) (by omega) (by omega) h3) (rotFrom_perm m lo hi f (i - j) j _ (by omega) (by omega) h2 (by rw [St.swapR_size]; exact h3))
      · exact permIn_trans _ _ _ _ _ (swapR_perm d (m - i) (m + j - i) i lo hi h1 (by omega) (by omega) (by omega) h3) (rotFrom_perm m lo hi f i (j - i) _ h0 h1 (by omega) (by rw [St.swapR_size]; exact h3))
theorem symR_perm (d : Array α) (s m e lo hi : Nat) (h1 : lo ≤ s) (h2 : e ≤ hi) (h3 : hi ≤ d.size) : PermIn lo hi d (St.symR d s m e) := by
  rw [St.symR]
  split
  · rename_i c
    exact rotFrom_perm m lo hi _ (m - s) (e - m) d (by omega) (by omega) (by omega) h3
  · exact permIn_refl _ _ _
theorem shR_perm (lo hi : Nat) : ∀ r k (d : Array α), lo ≤ k → k + r < hi → hi ≤ d.size → PermIn lo hi d (St.shR r k d)
  | 0, k, d, _, _, _ => permIn_refl _ _ _
  | r + 1, k, d, h1, h2, h3 => by
    rw [St.shR]
    exact permIn_trans _ _ _ _ _ (swp_permIn d lo hi k (k + 1) h1 (by omega) (by omega) (by omega) h3) (shR_perm lo hi r (k + 1) _ (by omega) (by omega) (by rw [swp_size]; exact h3))
theorem shL_perm (lo hi : Nat) : ∀ r k (d : Array α), lo + r ≤ k → k < hi → hi ≤ d.size → PermIn lo hi d (St.shL r k d)
  | 0, k, d, _, _, _ => permIn_refl _ _ _
  | r + 1, k, d, h1, h2, h3 => by
    rw [St.shL]
    exact permIn_trans _ _ _ _ _ (swp_permIn d lo hi k (k - 1) (by omega) h2 (by omega) (by omega) h3) (shL_perm lo hi r (k - 1) _ (by omega) (by omega) (by rw [swp_size]; exact h3))

/-! ### the search -/
theorem bs_post (q : Nat → Bool) : ∀ f i j, i ≤ j → j - i ≤ f → (St.bs q f i j = i ∨ q (St.bs q f i j - 1) = true) ∧ (St.bs q f i j = j ∨ q (St.bs q f i j) = false)
  | 0, i, j, h1, h2 => ⟨.inl rfl, .inl (by rw [St.bs]; omega)⟩
  | f + 1, i, j, h1, h2 => by
    rw [St.bs]
    by_cases c : i < j
    · rw [if_pos c]
      by_cases hq : q ((i + j) / 2) = true
      · rw [if_pos hq]
        have ih := bs_post q f ((i + j) / 2 + 1) j (by omega) (by omega)
        refine ⟨.inr ?_, ih.2⟩
        rcases ih.1 with h | h
        · rw [h]; exact hq
        · exact h
      · rw [if_neg hq]
        have ih := bs_post q f i ((i + j) / 2) (by omega) (by omega)
        refine ⟨ih.1, .inr ?_⟩
        rcases ih.2 with h | h
        · rw [h]; exact Bool.eq_false_iff.mpr hq
        · exact h
    · rw [if_neg c]
      exact ⟨.inl rfl, .inl (by omega)⟩

/-! ### order -/
theorem sorted_le (hS : SWO lt) {a b : Nat} {d : Array α} (h : SortedIn lt a b d) {i j : Nat} (h1 : a ≤ i) (h2 : i ≤ j) (h3 : j < b) : lt d[j]! d[i]! = false := by
  rcases Nat.lt_or_eq_of_le h2 with h4 | h4
  · exact h i j h1 h4 h3
  · subst h4; exact hS.irrefl _
theorem sorted_glue {a m b : Nat} {d : Array α} (h1 : SortedIn lt a m d) (h2 : SortedIn lt m b d) (hx : ∀ i j, a ≤ i → i < m → m ≤ j → j < b → lt d[j]! d[i]! = false) : SortedIn lt a b d := by
  intro i j h3 h4 h5
  by_cases c1 : j < m
  · exact h1 i j h3 h4 c1
  · by_cases c2 : i < m
    · exact hx i j h3 c2 (by omega) h5
    · exact h2 i j (by omega) h4 h5
theorem sorted_same {a b : Nat} {d d' : Array α} (h : SortedIn lt a b d) (he : ∀ i, a ≤ i → i < b → d'[i]! = d[i]!) : SortedIn lt a b d' := by
  intro i j h1 h2 h3
  rw [he i h1 (by omega), he j (by omega) h3]
  exact h i j h1 h2 h3
theorem sorted_part {a b a' b' : Nat} {d : Array α} (h : SortedIn lt a b d) (h1 : a ≤ a') (h2 : b' ≤ b) : SortedIn lt a' b' d := fun i j h3 h4 h5 => h i j (by omega) h4 (by omega)
theorem sorted_none {a b : Nat} (d : Array α) (h : b ≤ a + 1) : SortedIn lt a b d := fun i j h1 h2 h3 => absurd h3 (by omega)
/-- the parts of what has been turned -/
theorem rot_parts {d d' : Array α} {a s m e b : Nat} (R : Rot d d' s m e) (h1 : a ≤ s) (h2 : s ≤ m) (h3 : m ≤ e) (h4 : e ≤ b) (hA : SortedIn lt a m d) (hB : SortedIn lt m b d) :
    SortedIn lt a s d' ∧ SortedIn lt s (s + (e - m)) d' ∧ SortedIn lt (s + (e - m)) e d' ∧ SortedIn lt e b d' := by
  refine ⟨?_, ?_, ?_, ?_⟩
  · exact sorted_same (sorted_part hA (Nat.le_refl _) h2) (fun i c1 c2 => by rw [R.get, if_neg (by omega), if_neg (by omega)])
  · intro i j c1 c2 c3
    have v : ∀ p, s ≤ p → p < s + (e - m) → d'[p]! = d[p + (m - s)]! := fun p q1 q2 => by rw [R.get p, if_pos (by omega)]
    rw [v i c1 (by omega), v j (by omega) c3]
    exact hB _ _ (by omega) (by omega) (by omega)
  · intro i j c1 c2 c3
    have v : ∀ p, s + (e - m) ≤ p → p < e → d'[p]! = d[p - (e - m)]! := fun p q1 q2 => by rw [R.get p, if_neg (by omega), if_pos (by omega)]
    rw [v i c1 (by omega), v j (by omega) c3]
    exact hA _ _ (by omega) (by omega) (by omega)
  · exact sorted_same (sorted_part hB h3 (Nat.le_refl _)) (fun i c1 c2 => by rw [R.get, if_neg (by omega), if_neg (by omega)])
theorem rot_cross (hS : SWO lt) {d d' : Array α} {a s m e b : Nat} (R : Rot d d' s m e) (h1 : a ≤ s) (h2 : s ≤ m) (h3 : m ≤ e) (h4 : e ≤ b) (hA : SortedIn lt a m d) (hB : SortedIn lt m b d)
    (c1 : s = a ∨ e = b ∨ lt d[e]! d[s - 1]! = false) (c2 : s = m ∨ e = m ∨ lt d[e - 1]! d[s]! = true) :
    ∀ i j, a ≤ i → i < s + (e - m) → s + (e - m) ≤ j → j < b → lt d'[j]! d'[i]! = false := by
  intro i j g1 g2 g3 g4
  have vi : d'[i]! = if i < s then d[i]! else d[i + (m - s)]! := by
    rw [R.get i]
    by_cases p : i < s
    · rw [if_neg (by omega), if_neg (by omega), if_pos p]
    · rw [if_pos (by omega), if_neg p]
  have vj : d'[j]! = if j < e then d[j - (e - m)]! else d[j]! := by
    rw [R.get j]
    by_cases p : j < e
    · rw [if_neg (by omega), if_pos (by omega), if_pos p]
    · rw [if_neg (by omega), if_neg (by omega), if_neg p]
  rw [vi, vj]
  by_cases p1 : i < s
  · rw [if_pos p1]
    by_cases p2 : j < e
    · rw [if_pos p2]
      exact hA _ _ (by omega) (by omega) (by omega)
    · rw [if_neg p2]
      have hc : lt d[e]! d[s - 1]! = false := by
        rcases c1 with h | h | h
        · omega
        · omega
        · exact h
      exact hS.ntrans _ _ _ (sorted_le hS hB (show m ≤ e by omega) (show e ≤ j by omega) (by omega)) (hS.ntrans _ _ _ hc (sorted_le hS hA g1 (show i ≤ s - 1 by omega) (by omega)))
  · rw [if_neg p1]
    by_cases p2 : j < e
    · rw [if_pos p2]
      have hc : lt d[e - 1]! d[s]! = true := by
        rcases c2 with h | h | h
        · omega
        · omega
        · exact h
      exact hS.ntrans _ _ _ (sorted_le hS hA h1 (show s ≤ j - (e - m) by omega) (by omega)) (hS.ntrans _ _ _ (SWO.asymmA hS hc) (sorted_le hS hB (show m ≤ i + (m - s) by omega) (show i + (m - s) ≤ e - 1 by omega) (by omega)))
    · rw [if_neg p2]
      exact hB _ _ (by omega) (by omega) (by omega)
/-- what lies across stays so, if both sides are mixed each in itself -/
theorem cross_perm {d d' d'' : Array α} {a m b : Nat} (hm : m ≤ d.size) (hb : b ≤ d.size) (hx : ∀ i j, a ≤ i → i < m → m ≤ j → j < b → lt d[j]! d[i]! = false) (P1 : PermIn a m d d') (P2 : PermIn m b d' d'') :
    ∀ i j, a ≤ i → i < m → m ≤ j → j < b → lt d''[j]! d''[i]! = false := by
  have h1 : ∀ i j, a ≤ i → i < m → m ≤ j → j < b → lt d'[j]! d'[i]! = false := by
    intro i j g1 g2 g3 g4
    rw [P1.2.1 j (Or.inr g3)]
    exact permIn_all d d' a m (fun x => lt d[j]! x = false) hm P1 (fun i c1 c2 => hx i j c1 c2 g3 g4) i g1 g2
  intro i j g1 g2 g3 g4
  rw [P2.2.1 i (Or.inl g2)]
  exact permIn_all d' d'' m b (fun y => lt y d'[i]! = false) (by rw [P1.1]; exact hb) P2 (fun j c1 c2 => h1 i j g1 g2 c1 c2) j g3 g4

/-! ### symMerge sorts -/
theorem symM_spec (hS : SWO lt) : ∀ f a m b (d : Array α), b - a ≤ f → a < m → m < b → b ≤ d.size → SortedIn lt a m d → SortedIn lt m b d → PermIn a b d (St.symM lt f a m b d) ∧ SortedIn lt a b (St.symM lt f a m b d)
  | 0, a, m, b, d, hf, h1, h2, h3, hA, hB => absurd hf (by omega)
  | f + 1, a, m, b, d, hf, h1, h2, h3, hA, hB => by
    rw [St.symM]
    by_cases c1 : m - a = 1
    · rw [if_pos c1]
      have hr := St.bs_range (fun h => lt d[h]! d[a]!) (b - m) m b (by omega)
      have hp := bs_post (fun h => lt d[h]! d[a]!) (b - m) m b (by omega) (Nat.le_refl _)
      generalize St.bs (fun h => lt d[h]! d[a]!) (b - m) m b = e at hr hp
      have R := shR_rot (e - 1 - a) a d (by omega)
      rw [show a + 1 = m by omega, show m + (e - 1 - a) = e by omega] at R
      refine ⟨shR_perm a b _ a d (Nat.le_refl _) (by omega) h3, ?_⟩
      generalize St.shR (e - 1 - a) a d = d' at R
      obtain ⟨_, p2, _, p4⟩ := rot_parts R (Nat.le_refl a) (by omega) hr.1 hr.2 hA hB
      have hx := rot_cross hS R (Nat.le_refl a) (by omega) hr.1 hr.2 hA hB (.inl rfl) (.inr (by
        rcases hp.1 with h | h
        · exact .inl h
        · exact .inr h))
      refine sorted_glue p2 (sorted_glue (sorted_none d' (show e ≤ a + (e - m) + 1 by omega)) p4 ?_) hx
      intro i j g1 g2 g3 g4
      have hi : i = a + (e - m) := by omega
      rw [R.get i, if_neg (by omega), if_pos (by omega), R.get j, if_neg (by omega), if_neg (by omega), show i - (e - m) = a by omega]
      rcases hp.2 with h | h
      · omega
      · exact hS.ntrans _ _ _ (sorted_le hS hB hr.1 g3 g4) h
    · rw [if_neg c1]
      by_cases c2 : b - m = 1
      · rw [if_pos c2]
        have hr := St.bs_range (fun h => !lt d[m]! d[h]!) (m - a) a m (by omega)
        have hp := bs_post (fun h => !lt d[m]! d[h]!) (m - a) a m (by omega) (Nat.le_refl _)
        generalize St.bs (fun h => !lt d[m]! d[h]!) (m - a) a m = s at hr hp
        have R := shL_rot (m - s) m d (by omega) (by omega)
        rw [show m - (m - s) = s by omega, show m + 1 = b by omega] at R
        refine ⟨shL_perm a b _ m d (by omega) (by omega) h3, ?_⟩
        generalize St.shL (m - s) m d = d' at R
        obtain ⟨p1, _, p3, _⟩ := rot_parts R hr.1 hr.2 (show m ≤ b by omega) (Nat.le_refl b) hA hB
        have hx := rot_cross hS R hr.1 hr.2 (show m ≤ b by omega) (Nat.le_refl b) hA hB (.inr (.inl rfl)) (by
          rcases hp.2 with h | h
          · exact .inl h
          · refine .inr (.inr ?_)
            rw [show b - 1 = m by omega]
            simpa using h)
        refine sorted_glue (m := s + (b - m)) (sorted_glue p1 (sorted_none d' (by omega)) ?_) p3 hx
        intro i j g1 g2 g3 g4
        rw [R.get i, if_neg (by omega), if_neg (by omega), R.get j, if_pos (by omega), show j + (m - s) = m by omega]
        rcases hp.1 with h | h
        · omega
        · have h' : lt d[m]! d[s - 1]! = false := by simpa using h
          exact hS.ntrans _ _ _ h' (sorted_le hS hA g1 (show i ≤ s - 1 by omega) (by omega))
      · rw [if_neg c2]
        have hlo : (a + b) / 2 < m → St.symLo a m b = (a + b) / 2 + m - b ∧ St.symHi a m b = (a + b) / 2 := fun h => by unfold St.symLo St.symHi; rw [if_pos h, if_pos h]; exact ⟨rfl, rfl⟩
        have hlo2 : ¬ (a + b) / 2 < m → St.symLo a m b = a ∧ St.symHi a m b = m := fun h => by unfold St.symLo St.symHi; rw [if_neg h, if_neg h]; exact ⟨rfl, rfl⟩
        have hle : St.symLo a m b ≤ St.symHi a m b := by
          by_cases h : (a + b) / 2 < m
          · have := hlo h; omega
          · have := hlo2 h; omega
        have hr := St.bs_range (fun c => !lt d[(a + b) / 2 + m - 1 - c]! d[c]!) (St.symHi a m b - St.symLo a m b) (St.symLo a m b) (St.symHi a m b) hle
        have hp := bs_post (fun c => !lt d[(a + b) / 2 + m - 1 - c]! d[c]!) (St.symHi a m b - St.symLo a m b) (St.symLo a m b) (St.symHi a m b) hle (Nat.le_refl _)
        rw [show St.bs (fun c => !lt d[(a + b) / 2 + m - 1 - c]! d[c]!) (St.symHi a m b - St.symLo a m b) (St.symLo a m b) (St.symHi a m b) = St.symS lt d a m b from rfl] at hr hp
        generalize St.symS lt d a m b = s at hr hp ⊢
        generalize hmid : (a + b) / 2 = mid at hlo hlo2 hp ⊢
        generalize St.symLo a m b = lo at hlo hlo2 hr hp
        generalize St.symHi a m b = hi at hlo hlo2 hr hp
        obtain ⟨e, he⟩ : ∃ e, e = mid + m - s := ⟨_, rfl⟩
        rw [← he]
        have hse : a ≤ s ∧ s ≤ m ∧ m ≤ e ∧ e ≤ b ∧ s ≤ mid ∧ mid ≤ e ∧ s + (e - m) = mid ∧ a < mid ∧ mid < b := by
          by_cases h : mid < m
          · have := hlo h; omega
          · have := hlo2 h; omega
        obtain ⟨q1, q2, q3, q4, q5, q6, q7, q8, q9⟩ := hse
        have R := symR_rot d s m e q2 q3 (by omega)
        have P1 := symR_perm d s m e a b q1 q4 h3
        have z1 : (St.symR d s m e).size = d.size := St.symR_size _ _ _ _
        generalize St.symR d s m e = d1 at R P1 z1 ⊢
        obtain ⟨p1, p2, p3, p4⟩ := rot_parts R q1 q2 q3 q4 hA hB
        have hx := rot_cross hS R q1 q2 q3 q4 hA hB (by
          by_cases hsa : s = a
          · exact .inl hsa
          · rcases hp.1 with h | h
            · by_cases g : mid < m
              · have := hlo g; exact .inr (.inl (by omega))
              · have := hlo2 g; exact .inl (by omega)
            · refine .inr (.inr ?_)
              rw [show mid + m - 1 - (s - 1) = e by omega] at h
              simpa using h) (by
          rcases hp.2 with h | h
          · by_cases g : mid < m
            · have := hlo g; exact .inr (.inl (by omega))
            · have := hlo2 g; exact .inl (by omega)
          · refine .inr (.inr ?_)
            rw [show mid + m - 1 - s = e - 1 by omega] at h
            simpa using h)
        rw [q7] at p2 p3 hx
        have H2 : PermIn a mid d1 (if a < s ∧ s < mid then St.symM lt f a s mid d1 else d1) ∧ SortedIn lt a mid (if a < s ∧ s < mid then St.symM lt f a s mid d1 else d1) := by
          by_cases c : a < s ∧ s < mid
          · rw [if_pos c]
            exact symM_spec hS f a s mid d1 (by omega) c.1 c.2 (by omega) p1 p2
          · rw [if_neg c]
            refine ⟨permIn_refl _ _ _, ?_⟩
            by_cases g : s = a
            · rw [← g]; exact p2
            · rw [show mid = s by omega]; exact p1
        generalize (if a < s ∧ s < mid then St.symM lt f a s mid d1 else d1) = d2 at H2 ⊢
        obtain ⟨P2, S2⟩ := H2
        have p3' : SortedIn lt mid e d2 := sorted_same p3 (fun i g1 g2 => P2.2.1 i (Or.inr g1))
        have p4' : SortedIn lt e b d2 := sorted_same p4 (fun i g1 g2 => P2.2.1 i (Or.inr (by omega)))
        have z2 : d2.size = d.size := P2.1.trans z1
        have H3 : PermIn mid b d2 (if mid < e ∧ e < b then St.symM lt f mid e b d2 else d2) ∧ SortedIn lt mid b (if mid < e ∧ e < b then St.symM lt f mid e b d2 else d2) := by
          by_cases c : mid < e ∧ e < b
          · rw [if_pos c]
            exact symM_spec hS f mid e b d2 (by omega) c.1 c.2 (by omega) p3' p4'
          · rw [if_neg c]
            refine ⟨permIn_refl _ _ _, ?_⟩
            by_cases g : e = mid
            · rw [← g]; exact p4'
            · rw [show b = e by omega]; exact p3'
        have hfin : (if mid < e ∧ e < b then St.symM lt f mid e b d2 else d2) = (if mid < e ∧ e < b then St.symM lt f mid e b d2 else d2) := rfl
        generalize (if mid < e ∧ e < b then St.symM lt f mid e b d2 else d2) = d3 at H3 ⊢
        obtain ⟨P3, S3⟩ := H3
        refine ⟨permIn_trans _ _ _ _ _ P1 (permIn_trans _ _ _ _ _ (permIn_mono _ _ a mid a b (Nat.le_refl _) (by omega) (by omega) P2) (permIn_mono _ _ mid b a b (by omega) (Nat.le_refl _) (by omega) P3)), ?_⟩
        exact sorted_glue (sorted_same S2 (fun i g1 g2 => P3.2.1 i (Or.inl g2))) S3 (cross_perm (by omega) (by omega) hx P2 P3)

/-! ### blocks -/
theorem ins_spec (hS : SWO lt) (d : Array α) (a b : Nat) (h1 : a ≤ b) (h2 : b ≤ d.size) : PermIn a b d (insertionSort lt d a b) ∧ SortedIn lt a b (insertionSort lt d a b) := insertionSort_holds hS d a b h1 h2
/-- from a on, blocks of k, each in order -/
def Blks (lt : α → α → Bool) (k n a : Nat) (d : Array α) : Prop := ∀ t, SortedIn lt (a + t * k) (min (a + (t + 1) * k) n) d
theorem Blks.first {k n a : Nat} {d : Array α} (h : Blks lt k n a d) : SortedIn lt a (min (a + k) n) d := by
  have := h 0
  rw [Nat.zero_mul, Nat.zero_add, Nat.one_mul, Nat.add_zero] at this
  exact this
theorem Blks.next {k n a : Nat} {d : Array α} (h : Blks lt k n a d) : Blks lt k n (a + k) d := by
  intro t
  have := h (t + 1)
  rw [Nat.add_mul (t + 1) 1 k, Nat.add_mul t 1 k, Nat.one_mul] at this
  rw [Nat.add_mul t 1 k, Nat.one_mul]
  generalize t * k = x at this ⊢
  rw [show a + k + x = a + (x + k) by omega, show a + k + (x + k) = a + (x + k + k) by omega]
  exact this
theorem Blks.cons {k n a : Nat} {d : Array α} (h0 : SortedIn lt a (min (a + k) n) d) (h : Blks lt k n (a + k) d) : Blks lt k n a d := by
  intro t
  cases t with
  | zero =>
    rw [Nat.zero_mul, Nat.zero_add, Nat.one_mul, Nat.add_zero]
    exact h0
  | succ t =>
    have := h t
    rw [Nat.add_mul t 1 k, Nat.one_mul] at this
    rw [Nat.add_mul (t + 1) 1 k, Nat.add_mul t 1 k, Nat.one_mul]
    generalize t * k = x at this ⊢
    rw [show a + (x + k) = a + k + x by omega, show a + (x + k + k) = a + k + (x + k) by omega]
    exact this
theorem Blks.last {k n a : Nat} {d : Array α} (h0 : SortedIn lt a n d) (h : n ≤ a + k) : Blks lt k n a d := by
  refine Blks.cons (sorted_part h0 (Nat.le_refl _) (Nat.min_le_right _ _)) ?_
  intro t
  exact sorted_none d (by omega)
theorem Blks.same {k n a : Nat} {d d' : Array α} (h : Blks lt k n a d) (he : ∀ i, a ≤ i → i < n → d'[i]! = d[i]!) : Blks lt k n a d' := fun t => sorted_same (h t) (fun i g1 g2 => he i (by omega) (by omega))

theorem blkFrom_spec (hS : SWO lt) (k n : Nat) (hk : 0 < k) : ∀ f a (d : Array α), n - a ≤ f → a ≤ n → n ≤ d.size → PermIn a n d (St.blkFrom lt k n f a d) ∧ Blks lt k n a (St.blkFrom lt k n f a d)
  | 0, a, d, h1, h2, h3 => by
    rw [St.blkFrom]
    obtain ⟨p, s⟩ := ins_spec hS d a n h2 h3
    exact ⟨p, Blks.last s (by omega)⟩
  | f + 1, a, d, h1, h2, h3 => by
    rw [St.blkFrom]
    by_cases c : a + k ≤ n
    · rw [if_pos c]
      obtain ⟨p, s⟩ := ins_spec hS d a (a + k) (by omega) (by omega)
      have z := St.ins_size lt d a (a + k)
      generalize insertionSort lt d a (a + k) = d1 at p s z ⊢
      obtain ⟨p2, s2⟩ := blkFrom_spec hS k n hk f (a + k) d1 (by omega) c (by omega)
      generalize St.blkFrom lt k n f (a + k) d1 = d2 at p2 s2 ⊢
      refine ⟨permIn_trans _ _ _ _ _ (permIn_mono _ _ a (a + k) a n (Nat.le_refl _) c h3 p) (permIn_mono _ _ (a + k) n a n (by omega) (Nat.le_refl _) (by omega) p2), Blks.cons ?_ s2⟩
      rw [Nat.min_eq_left c]
      exact sorted_same s (fun i g1 g2 => p2.2.1 i (Or.inl g2))
    · rw [if_neg c]
      obtain ⟨p, s⟩ := ins_spec hS d a n h2 h3
      exact ⟨p, Blks.last s (by omega)⟩

theorem mrgEnd_spec (hS : SWO lt) (k n a : Nat) (d : Array α) (h1 : a ≤ n) (h2 : n ≤ d.size) (h3 : n ≤ a + 2 * k) (hB : Blks lt k n a d) : PermIn a n d (St.mrgEnd lt k n a d) ∧ SortedIn lt a n (St.mrgEnd lt k n a d) := by
  rw [St.mrgEnd]
  have b1 := hB.first
  by_cases c : a + k < n
  · rw [if_pos c]
    have b2 := hB.next.first
    rw [Nat.min_eq_left (by omega)] at b1
    rw [Nat.min_eq_right (by omega)] at b2
    exact symM_spec hS n a (a + k) n d (by omega) (by omega) c h2 b1 b2
  · rw [if_neg c]
    rw [Nat.min_eq_right (by omega)] at b1
    exact ⟨permIn_refl _ _ _, b1⟩
theorem mrgFrom_spec (hS : SWO lt) (k n : Nat) (hk : 0 < k) : ∀ f a (d : Array α), n - a ≤ f → a ≤ n → n ≤ d.size → Blks lt k n a d → PermIn a n d (St.mrgFrom lt k n f a d) ∧ Blks lt (2 * k) n a (St.mrgFrom lt k n f a d)
  | 0, a, d, h1, h2, h3, hB => by
    rw [St.mrgFrom]
    obtain ⟨p, s⟩ := mrgEnd_spec hS k n a d h2 h3 (by omega) hB
    exact ⟨p, Blks.last s (by omega)⟩
  | f + 1, a, d, h1, h2, h3, hB => by
    rw [St.mrgFrom]
    by_cases c : a + 2 * k ≤ n
    · rw [if_pos c]
      have b1 := hB.first
      have b2 := hB.next.first
      rw [Nat.min_eq_left (by omega)] at b1
      rw [Nat.min_eq_left (by omega), show a + k + k = a + 2 * k by omega] at b2
      obtain ⟨p, s⟩ := symM_spec hS n a (a + k) (a + 2 * k) d (by omega) (by omega) (by omega) (by omega) b1 b2
      have z := St.symM_size lt n a (a + k) (a + 2 * k) d
      have b3 := hB.next.next
      rw [show a + k + k = a + 2 * k by omega] at b3
      generalize St.symM lt n a (a + k) (a + 2 * k) d = d1 at p s z ⊢
      obtain ⟨p2, s2⟩ := mrgFrom_spec hS k n hk f (a + 2 * k) d1 (by omega) c (by omega) (b3.same (fun i g1 g2 => p.2.1 i (Or.inr g1)))
      generalize St.mrgFrom lt k n f (a + 2 * k) d1 = d2 at p2 s2 ⊢
      refine ⟨permIn_trans _ _ _ _ _ (permIn_mono _ _ a (a + 2 * k) a n (Nat.le_refl _) c h3 p) (permIn_mono _ _ (a + 2 * k) n a n (by omega) (Nat.le_refl _) (by omega) p2), Blks.cons ?_ s2⟩
      rw [Nat.min_eq_left c]
      exact sorted_same s (fun i g1 g2 => p2.2.1 i (Or.inl g2))
    · rw [if_neg c]
      obtain ⟨p, s⟩ := mrgEnd_spec hS k n a d h2 h3 (by omega) hB
      exact ⟨p, Blks.last s (by omega)⟩
theorem stbFrom_spec (hS : SWO lt) (n : Nat) : ∀ f k (d : Array α), 0 < k → n - k ≤ f → n ≤ d.size → Blks lt k n 0 d → PermIn 0 n d (St.stbFrom lt n f k d) ∧ SortedIn lt 0 n (St.stbFrom lt n f k d)
  | 0, k, d, hk, h1, h2, hB => by
    have b1 := hB.first
    rw [Nat.min_eq_right (by omega)] at b1
    exact ⟨permIn_refl _ _ _, b1⟩
  | f + 1, k, d, hk, h1, h2, hB => by
    rw [St.stbFrom]
    by_cases c : k < n
    · rw [if_pos c]
      obtain ⟨p, s⟩ := mrgFrom_spec hS k n hk n 0 d (by omega) (by omega) h2 hB
      have z := St.mrgFrom_size lt k n n 0 d
      generalize St.mrgFrom lt k n n 0 d = d1 at p s z ⊢
      obtain ⟨p2, s2⟩ := stbFrom_spec hS n f (2 * k) d1 (by omega) (by omega) (by omega) s
      exact ⟨permIn_trans _ _ _ _ _ p p2, s2⟩
    · rw [if_neg c]
      have b1 := hB.first
      rw [Nat.min_eq_right (by omega)] at b1
      exact ⟨permIn_refl _ _ _, b1⟩
/-- THE STABLE SORT SORTS -/
theorem stab_spec (hS : SWO lt) (d : Array α) : PermIn 0 d.size d (St.stab lt d.size d) ∧ SortedIn lt 0 d.size (St.stab lt d.size d) := by
  unfold St.stab
  obtain ⟨p, s⟩ := blkFrom_spec hS 20 d.size (by decide) d.size 0 d (by omega) (by omega) (Nat.le_refl _)
  have z := St.blkFrom_size lt 20 d.size d.size 0 d
  generalize St.blkFrom lt 20 d.size d.size 0 d = d1 at p s z ⊢
  obtain ⟨p2, s2⟩ := stbFrom_spec hS d.size d.size 20 d1 (by decide) (by omega) (by omega) s
  exact ⟨permIn_trans _ _ _ _ _ p p2, s2⟩
end Go.Proofs.Ytnkihggdohigiaa.Pure
end

section

namespace Go.Proofs.Ytnkihggdohigiaa.Pure
set_option linter.unusedSectionVars false
set_option linter.unusedVariables false
open Go.Sort Go.Proofs.Ytnkihggdohigiaa.P
variable {α : Type} [Inhabited α] {lt lt' : α → α → Bool}

theorem bs_congr {q q' : Nat → Bool} : ∀ f i j, (∀ h, i ≤ h → h < j → q h = q' h) → St.bs q f i j = St.bs q' f i j
  | 0, i, j, h => rfl
  | f + 1, i, j, h => by
    rw [St.bs, St.bs]
    by_cases c : i < j
    · rw [if_pos c, if_pos c, h _ (by omega) (by omega), bs_congr f ((i + j) / 2 + 1) j (fun x h1 h2 => h x (by omega) h2), bs_congr f i ((i + j) / 2) (fun x h1 h2 => h x h1 (by omega))]
    · rw [if_neg c, if_neg c]

/-- what lies in [a, m) and what lies in [m, b) is told apart alike -/
def Agr (lt lt' : α → α → Bool) (d : Array α) (a m b : Nat) : Prop := ∀ i j, a ≤ i → i < m → m ≤ j → j < b → lt d[j]! d[i]! = lt' d[j]! d[i]!

theorem symM_agree (hS : SWO lt') : ∀ f a m b (d : Array α), b - a ≤ f → a < m → m < b → b ≤ d.size → SortedIn lt' a m d → SortedIn lt' m b d → Agr lt lt' d a m b → St.symM lt f a m b d = St.symM lt' f a m b d
  | 0, a, m, b, d, hf, h1, h2, h3, hA, hB, hG => absurd hf (by omega)
  | f + 1, a, m, b, d, hf, h1, h2, h3, hA, hB, hG => by
    rw [St.symM, St.symM]
    by_cases c1 : m - a = 1
    · rw [if_pos c1, if_pos c1, bs_congr (q := fun h => lt d[h]! d[a]!) (q' := fun h => lt' d[h]! d[a]!) _ _ _ (fun h g1 g2 => hG a h (Nat.le_refl _) h1 g1 g2)]
    · rw [if_neg c1, if_neg c1]
      by_cases c2 : b - m = 1
      · rw [if_pos c2, if_pos c2, bs_congr (q := fun h => !lt d[m]! d[h]!) (q' := fun h => !lt' d[m]! d[h]!) _ _ _ (fun h g1 g2 => by rw [hG h m g1 g2 (Nat.le_refl _) h2])]
      · rw [if_neg c2, if_neg c2]
        have hlo : (a + b) / 2 < m → St.symLo a m b = (a + b) / 2 + m - b ∧ St.symHi a m b = (a + b) / 2 := fun h => by unfold St.symLo St.symHi; rw [if_pos h, if_pos h]; exact ⟨rfl, rfl⟩
        have hlo2 : ¬ (a + b) / 2 < m → St.symLo a m b = a ∧ St.symHi a m b = m := fun h => by unfold St.symLo St.symHi; rw [if_neg h, if_neg h]; exact ⟨rfl, rfl⟩
        have hle : St.symLo a m b ≤ St.symHi a m b := by
          by_cases h : (a + b) / 2 < m
          · have := hlo h; omega
          · have := hlo2 h; omega
        have hSS : St.symS lt d a m b = St.symS lt' d a m b := by
          unfold St.symS
          refine bs_congr _ _ _ (fun c g1 g2 => ?_)
          have hb : a ≤ c ∧ c < m ∧ m ≤ (a + b) / 2 + m - 1 - c ∧ (a + b) / 2 + m - 1 - c < b := by
            by_cases h : (a + b) / 2 < m
            · have := hlo h; omega
            · have := hlo2 h; omega
          rw [hG c _ hb.1 hb.2.1 hb.2.2.1 hb.2.2.2]
        rw [hSS]
        have hr := St.bs_range (fun c => !lt' d[(a + b) / 2 + m - 1 - c]! d[c]!) (St.symHi a m b - St.symLo a m b) (St.symLo a m b) (St.symHi a m b) hle
        rw [show St.bs (fun c => !lt' d[(a + b) / 2 + m - 1 - c]! d[c]!) (St.symHi a m b - St.symLo a m b) (St.symLo a m b) (St.symHi a m b) = St.symS lt' d a m b from rfl] at hr
        generalize St.symS lt' d a m b = s at hr ⊢
        generalize hmid : (a + b) / 2 = mid at hlo hlo2 ⊢
        generalize St.symLo a m b = lo at hlo hlo2 hr
        generalize St.symHi a m b = hi at hlo hlo2 hr
        obtain ⟨e, he⟩ : ∃ e, e = mid + m - s := ⟨_, rfl⟩
        rw [← he]
        have hse : a ≤ s ∧ s ≤ m ∧ m ≤ e ∧ e ≤ b ∧ s ≤ mid ∧ mid ≤ e ∧ s + (e - m) = mid ∧ a < mid ∧ mid < b := by
          by_cases h : mid < m
          · have := hlo h; omega
          · have := hlo2 h; omega
        obtain ⟨q1, q2, q3, q4, q5, q6, q7, q8, q9⟩ := hse
        have R := symR_rot d s m e q2 q3 (by omega)
        have z1 : (St.symR d s m e).size = d.size := St.symR_size _ _ _ _
        generalize St.symR d s m e = d1 at R z1 ⊢
        obtain ⟨p1, p2, p3, p4⟩ := rot_parts R q1 q2 q3 q4 hA hB
        rw [q7] at p2 p3
        have A2 : Agr lt lt' d1 a s mid := by
          intro i j g1 g2 g3 g4
          rw [R.get i, if_neg (by omega), if_neg (by omega), R.get j, if_pos (by omega)]
          exact hG i _ g1 (by omega) (by omega) (by omega)
        have A3 : Agr lt lt' d1 mid e b := by
          intro i j g1 g2 g3 g4
          rw [R.get i, if_neg (by omega), if_pos (by omega), R.get j, if_neg (by omega), if_neg (by omega)]
          exact hG _ j (by omega) (by omega) (by omega) g4
        have E2 : (if a < s ∧ s < mid then St.symM lt f a s mid d1 else d1) = (if a < s ∧ s < mid then St.symM lt' f a s mid d1 else d1) := by
          by_cases c : a < s ∧ s < mid
          · rw [if_pos c, if_pos c]
            exact symM_agree hS f a s mid d1 (by omega) c.1 c.2 (by omega) p1 p2 A2
          · rw [if_neg c, if_neg c]
        rw [E2]
        have H2 : PermIn a mid d1 (if a < s ∧ s < mid then St.symM lt' f a s mid d1 else d1) := by
          by_cases c : a < s ∧ s < mid
          · rw [if_pos c]
            exact (symM_spec hS f a s mid d1 (by omega) c.1 c.2 (by omega) p1 p2).1
          · rw [if_neg c]
            exact permIn_refl _ _ _
        generalize (if a < s ∧ s < mid then St.symM lt' f a s mid d1 else d1) = d2 at H2 ⊢
        have p3' : SortedIn lt' mid e d2 := sorted_same p3 (fun i g1 g2 => H2.2.1 i (Or.inr g1))
        have p4' : SortedIn lt' e b d2 := sorted_same p4 (fun i g1 g2 => H2.2.1 i (Or.inr (by omega)))
        have A3' : Agr lt lt' d2 mid e b := by
          intro i j g1 g2 g3 g4
          rw [H2.2.1 i (Or.inr g1), H2.2.1 j (Or.inr (by omega))]
          exact A3 i j g1 g2 g3 g4
        have z2 : d2.size = d.size := H2.1.trans z1
        by_cases c : mid < e ∧ e < b
        · rw [if_pos c, if_pos c]
          exact symM_agree hS f mid e b d2 (by omega) c.1 c.2 (by omega) p3' p4' A3'
        · rw [if_neg c, if_neg c]

/-- what lies ahead of c and what lies behind is told apart alike -/
def CutAt (lt lt' : α → α → Bool) (n : Nat) (d : Array α) (c : Nat) : Prop := ∀ p q, p < c → c ≤ q → q < n → lt d[q]! d[p]! = lt' d[q]! d[p]!
theorem CutAt.perm {n a b c : Nat} {d d' : Array α} (h : CutAt lt lt' n d c) (hn : n ≤ d.size) (hb : b ≤ n) (hc : c ≤ n) (P : PermIn a b d d') (ho : c ≤ a ∨ b ≤ c) : CutAt lt lt' n d' c := by
  intro p q g1 g2 g3
  rcases ho with ho | ho
  · rw [P.2.1 p (Or.inl (by omega))]
    by_cases k : a ≤ q ∧ q < b
    · exact permIn_all d d' a b (fun y => lt y d[p]! = lt' y d[p]!) (by omega) P (fun j c1 c2 => h p j g1 (by omega) (by omega)) q k.1 k.2
    · rw [P.2.1 q (by omega)]
      exact h p q g1 g2 g3
  · rw [P.2.1 q (Or.inr (by omega))]
    by_cases k : a ≤ p ∧ p < b
    · exact permIn_all d d' a b (fun x => lt d[q]! x = lt' d[q]! x) (by omega) P (fun j c1 c2 => h j q (by omega) g2 g3) p k.1 k.2
    · rw [P.2.1 p (by omega)]
      exact h p q g1 g2 g3
theorem CutAt.end {n c : Nat} (d : Array α) (h : n ≤ c) : CutAt lt lt' n d c := fun p q g1 g2 g3 => absurd g3 (by omega)
theorem CutAt.perm' {n a b c : Nat} {d d' : Array α} (h : CutAt lt lt' n d c) (hn : n ≤ d.size) (hb : b ≤ n) (P : PermIn a b d d') (ho : c ≤ a ∨ b ≤ c) : CutAt lt lt' n d' c := by
  by_cases k : n ≤ c
  · exact CutAt.end d' k
  · exact h.perm hn hb (by omega) P ho

theorem insOuter_go (lt : α → α → Bool) (a b i : Nat) (d : Array α) (h : i < b) : insOuter lt a b i d = insOuter lt a b (i + 1) (insInner lt a i d) := by rw [insOuter, if_pos h]
theorem insOuter_stop (lt : α → α → Bool) (a b i : Nat) (d : Array α) (h : ¬ i < b) : insOuter lt a b i d = d := by rw [insOuter, if_neg h]
theorem insInner_agree (a : Nat) : ∀ j (d : Array α), j < d.size → (∀ i, a ≤ i → i < j → lt d[j]! d[i]! = lt' d[j]! d[i]!) → insInner lt a j d = insInner lt' a j d
  | 0, d, hj, h => by rw [insInner, insInner]
  | j + 1, d, hj, h => by
    have ih := insInner_agree a j (swp d (j + 1) j) (by rw [swp_size]; omega) (fun i g1 g2 => by
      rw [swp_get d (by omega) (by omega), if_pos rfl, swp_get d (by omega) (by omega), if_neg (by omega), if_neg (by omega)]
      exact h i g1 (by omega))
    rw [insInner, insInner, ih]
    by_cases c : j + 1 > a
    · rw [h j (by omega) (by omega)]
    · rw [decide_eq_false c, Bool.false_and, Bool.false_and]
theorem insInner_perm (a b : Nat) : ∀ j (d : Array α), j < b → b ≤ d.size → PermIn a b d (insInner lt a j d)
  | 0, d, _, _ => by rw [insInner]; exact permIn_refl _ _ _
  | j + 1, d, h1, h2 => by
    rw [insInner]
    split
    · rename_i c
      have c' : j + 1 > a := by
        by_cases g : j + 1 > a
        · exact g
        · rw [decide_eq_false g, Bool.false_and] at c; cases c
      exact permIn_trans _ _ _ _ _ (swp_permIn d a b (j + 1) j (by omega) h1 (by omega) (by omega) h2) (insInner_perm a b j _ (by omega) (by rw [swp_size]; exact h2))
    · exact permIn_refl _ _ _
theorem insOuter_agree (a b : Nat) : ∀ r i (d : Array α), b - i ≤ r → b ≤ d.size → (∀ c, i ≤ c → CutAt lt lt' b d c) → insOuter lt a b i d = insOuter lt' a b i d
  | 0, i, d, h1, h2, h => by rw [insOuter, if_neg (by omega), insOuter, if_neg (by omega)]
  | r + 1, i, d, h1, h2, h => by
    by_cases c : i < b
    · rw [insOuter_go lt _ _ _ _ c, insOuter_go lt' _ _ _ _ c, insInner_agree a i d (by omega) (fun p g1 g2 => h i (Nat.le_refl _) p i g2 (Nat.le_refl _) c)]
      have P := insInner_perm (lt := lt') a (i + 1) i d (by omega) (by omega)
      refine insOuter_agree a b r (i + 1) _ (by omega) (by rw [P.1]; exact h2) (fun c' g => ?_)
      exact (h c' (by omega)).perm' h2 (by omega) P (Or.inr g)
    · rw [insOuter_stop lt _ _ _ _ c, insOuter_stop lt' _ _ _ _ c]
theorem ins_agree (a b : Nat) (d : Array α) (h2 : b ≤ d.size) (h : ∀ c, a ≤ c → CutAt lt lt' b d c) : insertionSort lt d a b = insertionSort lt' d a b :=
  insOuter_agree a b _ (a + 1) d (Nat.le_refl _) h2 (fun c g => h c (by omega))
theorem CutAt.less {n m c : Nat} {d : Array α} (h : CutAt lt lt' n d c) (hm : m ≤ n) : CutAt lt lt' m d c := fun p q g1 g2 g3 => h p q g1 g2 (by omega)

/-- cuts at each block's beginning -/
def Cuts (lt lt' : α → α → Bool) (k n a : Nat) (d : Array α) : Prop := ∀ t, CutAt lt lt' n d (a + t * k)
theorem Cuts.first {k n a : Nat} {d : Array α} (h : Cuts lt lt' k n a d) : CutAt lt lt' n d a := by
  have := h 0
  rw [Nat.zero_mul, Nat.add_zero] at this
  exact this
theorem Cuts.next {k n a : Nat} {d : Array α} (h : Cuts lt lt' k n a d) : Cuts lt lt' k n (a + k) d := by
  intro t
  have := h (t + 1)
  rw [Nat.add_mul, Nat.one_mul, show a + (t * k + k) = a + k + t * k by omega] at this
  exact this
theorem Cuts.cons {k n a : Nat} {d : Array α} (h0 : CutAt lt lt' n d a) (h : Cuts lt lt' k n (a + k) d) : Cuts lt lt' k n a d := by
  intro t
  cases t with
  | zero => rw [Nat.zero_mul, Nat.add_zero]; exact h0
  | succ t =>
    have := h t
    rw [Nat.add_mul, Nat.one_mul, show a + (t * k + k) = a + k + t * k by omega]
    exact this
theorem Cuts.last {k n a : Nat} {d : Array α} (h0 : CutAt lt lt' n d a) (h : n ≤ a + k) : Cuts lt lt' k n a d := Cuts.cons h0 (fun t => CutAt.end d (by omega))
theorem Cuts.perm {k n a x y : Nat} {d d' : Array α} (h : Cuts lt lt' k n a d) (hn : n ≤ d.size) (hy : y ≤ n) (P : PermIn x y d d') (ho : y ≤ a) : Cuts lt lt' k n a d' := fun t => (h t).perm' hn hy P (Or.inr (by omega))

theorem blkFrom_agree (hS : SWO lt') (k n : Nat) (hk : 0 < k) : ∀ f a (d : Array α), n - a ≤ f → a ≤ n → n ≤ d.size → (∀ c, a ≤ c → CutAt lt lt' n d c) → St.blkFrom lt k n f a d = St.blkFrom lt' k n f a d ∧ Cuts lt lt' k n a (St.blkFrom lt' k n f a d)
  | 0, a, d, h1, h2, h3, h => by
    rw [St.blkFrom, St.blkFrom, ins_agree a n d h3 h]
    exact ⟨rfl, Cuts.last ((h a (Nat.le_refl _)).perm' h3 (Nat.le_refl _) (ins_spec hS d a n h2 h3).1 (Or.inl (Nat.le_refl _))) (by omega)⟩
  | f + 1, a, d, h1, h2, h3, h => by
    rw [St.blkFrom, St.blkFrom]
    by_cases c : a + k ≤ n
    · rw [if_pos c, if_pos c, ins_agree a (a + k) d (by omega) (fun x g => (h x g).less c)]
      have P := (ins_spec hS d a (a + k) (by omega) (by omega)).1
      obtain ⟨e, q⟩ := blkFrom_agree hS k n hk f (a + k) (insertionSort lt' d a (a + k)) (by omega) c (by rw [P.1]; exact h3) (fun x g => (h x (by omega)).perm' h3 c P (Or.inr g))
      have P2 := (blkFrom_spec hS k n hk f (a + k) (insertionSort lt' d a (a + k)) (by omega) c (by rw [P.1]; exact h3)).1
      refine ⟨e, Cuts.cons ?_ q⟩
      exact ((h a (Nat.le_refl _)).perm' h3 c P (Or.inl (Nat.le_refl _))).perm' (by rw [P.1]; exact h3) (Nat.le_refl _) P2 (Or.inl (by omega))
    · rw [if_neg c, if_neg c, ins_agree a n d h3 h]
      exact ⟨rfl, Cuts.last ((h a (Nat.le_refl _)).perm' h3 (Nat.le_refl _) (ins_spec hS d a n h2 h3).1 (Or.inl (Nat.le_refl _))) (by omega)⟩
theorem mrgEnd_agree (hS : SWO lt') (k n a : Nat) (d : Array α) (hk : 0 < k) (h1 : a ≤ n) (h2 : n ≤ d.size) (h3 : n ≤ a + 2 * k) (hB : Blks lt' k n a d) (hC : Cuts lt lt' k n a d) : St.mrgEnd lt k n a d = St.mrgEnd lt' k n a d ∧ Cuts lt lt' (2 * k) n a (St.mrgEnd lt' k n a d) := by
  have P := (mrgEnd_spec hS k n a d h1 h2 h3 hB).1
  refine ⟨?_, Cuts.last (hC.first.perm' h2 (Nat.le_refl _) P (Or.inl (Nat.le_refl _))) h3⟩
  rw [St.mrgEnd, St.mrgEnd]
  have b1 := hB.first
  by_cases c : a + k < n
  · rw [if_pos c, if_pos c]
    have b2 := hB.next.first
    rw [Nat.min_eq_left (by omega)] at b1
    rw [Nat.min_eq_right (by omega)] at b2
    exact symM_agree hS n a (a + k) n d (by omega) (by omega) c h2 b1 b2 (fun i j g1 g2 g3 g4 => hC.next.first i j g2 g3 g4)
  · rw [if_neg c, if_neg c]
theorem mrgFrom_agree (hS : SWO lt') (k n : Nat) (hk : 0 < k) : ∀ f a (d : Array α), n - a ≤ f → a ≤ n → n ≤ d.size → Blks lt' k n a d → Cuts lt lt' k n a d → St.mrgFrom lt k n f a d = St.mrgFrom lt' k n f a d ∧ Cuts lt lt' (2 * k) n a (St.mrgFrom lt' k n f a d)
  | 0, a, d, h1, h2, h3, hB, hC => by
    rw [St.mrgFrom, St.mrgFrom]
    exact mrgEnd_agree hS k n a d hk h2 h3 (by omega) hB hC
  | f + 1, a, d, h1, h2, h3, hB, hC => by
    rw [St.mrgFrom, St.mrgFrom]
    by_cases c : a + 2 * k ≤ n
    · rw [if_pos c, if_pos c]
      have b1 := hB.first
      have b2 := hB.next.first
      rw [Nat.min_eq_left (by omega)] at b1
      rw [Nat.min_eq_left (by omega), show a + k + k = a + 2 * k by omega] at b2
      rw [symM_agree hS n a (a + k) (a + 2 * k) d (by omega) (by omega) (by omega) (by omega) b1 b2 (fun i j g1 g2 g3 g4 => hC.next.first i j g2 g3 (by omega))]
      obtain ⟨p, s⟩ := symM_spec hS n a (a + k) (a + 2 * k) d (by omega) (by omega) (by omega) (by omega) b1 b2
      have z := St.symM_size lt' n a (a + k) (a + 2 * k) d
      have b3 := hB.next.next
      have q3 := hC.next.next
      rw [show a + k + k = a + 2 * k by omega] at b3 q3
      generalize St.symM lt' n a (a + k) (a + 2 * k) d = d1 at p s z ⊢
      have b4 := b3.same (fun i g1 g2 => p.2.1 i (Or.inr g1))
      obtain ⟨e, q⟩ := mrgFrom_agree hS k n hk f (a + 2 * k) d1 (by omega) c (by omega) b4 (q3.perm h3 c p (Nat.le_refl _))
      have P2 := (mrgFrom_spec hS k n hk f (a + 2 * k) d1 (by omega) c (by omega) b4).1
      exact ⟨e, Cuts.cons ((hC.first.perm' h3 c p (Or.inl (Nat.le_refl _))).perm' (by omega) (Nat.le_refl _) P2 (Or.inl (by omega))) q⟩
    · rw [if_neg c, if_neg c]
      exact mrgEnd_agree hS k n a d hk h2 h3 (by omega) hB hC
theorem stbFrom_agree (hS : SWO lt') (n : Nat) : ∀ f k (d : Array α), 0 < k → n - k ≤ f → n ≤ d.size → Blks lt' k n 0 d → Cuts lt lt' k n 0 d → St.stbFrom lt n f k d = St.stbFrom lt' n f k d
  | 0, k, d, hk, h1, h2, hB, hC => rfl
  | f + 1, k, d, hk, h1, h2, hB, hC => by
    rw [St.stbFrom, St.stbFrom]
    by_cases c : k < n
    · rw [if_pos c, if_pos c]
      obtain ⟨e, q⟩ := mrgFrom_agree hS k n hk n 0 d (by omega) (by omega) h2 hB hC
      obtain ⟨p, s⟩ := mrgFrom_spec hS k n hk n 0 d (by omega) (by omega) h2 hB
      rw [e]
      exact stbFrom_agree hS n f (2 * k) _ (by omega) (by omega) (by rw [p.1]; exact h2) s q
    · rw [if_neg c, if_neg c]
/-- THE STABLE SORT UNDER TWO ORDERS that tell apart alike what stands ahead and what stands behind -/
theorem stab_agree (hS : SWO lt') (d : Array α) (h : ∀ p q, p < q → q < d.size → lt d[q]! d[p]! = lt' d[q]! d[p]!) : St.stab lt d.size d = St.stab lt' d.size d := by
  unfold St.stab
  obtain ⟨e, q⟩ := blkFrom_agree (lt := lt) hS 20 d.size (by decide) d.size 0 d (by omega) (by omega) (Nat.le_refl _) (fun c g p q g1 g2 g3 => h p q (by omega) g3)
  obtain ⟨p, s⟩ := blkFrom_spec hS 20 d.size (by decide) d.size 0 d (by omega) (by omega) (Nat.le_refl _)
  rw [e]
  exact stbFrom_agree hS d.size d.size 20 _ (by decide) (by omega) (by rw [p.1]; exact Nat.le_refl _) s q
/-- the sort is one in the finer order -/
theorem stab_fine (hS : SWO lt') (d : Array α) (h : ∀ p q, p < q → q < d.size → lt d[q]! d[p]! = lt' d[q]! d[p]!) : PermIn 0 d.size d (St.stab lt d.size d) ∧ SortedIn lt' 0 d.size (St.stab lt d.size d) := by
  rw [stab_agree hS d h]
  exact stab_spec hS d
end Go.Proofs.Ytnkihggdohigiaa.Pure
end
