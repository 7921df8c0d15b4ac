/- What the reference of chapter 22 computes: the same targets, the same spread. -/
import Derived.Test.YtnkihggdohigiaaPlC
import Derived.Test.YtnkihggdohigiaaPx16
import Derived.Test.YtnkihggdohigiaaPx18
section

namespace Go.Proofs.Ytnkihggdohigiaa.Pure
open Go.RowKit Go.Proofs.Ytnkihggdohigiaa.P Go.Proofs.Ytnkihggdohigiaa.Fl Go.Proofs.YtnkihggdohigiaaW.PrintWords Go.Proofs.YtnkihggdohigiaaW.PrintLast Go.Proofs.YtnkihggdohigiaaW.PrintMore
set_option linter.unusedVariables false

theorem w_dn (j : Nat) (h : j < 1000) : wrap64 (((j + 1 : Nat) : Int) - 1) = ((j : Nat) : Int) := by unfold wrap64; omega
theorem put_in {l : List S26} {acc : List Nat} {i j : Nat} (hj : j ≤ acc.length) (h : acc.Pairwise (lessI l)) (hi : ∀ y ∈ acc, y < i) (h1 : ∀ y ∈ acc.take j, goodI l y ≤ goodI l i) (h2 : ∀ y ∈ acc.drop j, goodI l i < goodI l y) : ((acc.take j ++ [i]) ++ acc.drop j).Pairwise (lessI l) ∧ ((acc.take j ++ [i]) ++ acc.drop j).Perm (i :: acc) := by
  have e := List.take_append_drop j acc
  rw [← e, List.pairwise_append] at h
  constructor
  · rw [List.append_assoc, List.pairwise_append, List.singleton_append, List.pairwise_cons]
    refine ⟨h.1, ⟨fun y hy => .inl (h2 y hy), h.2.1⟩, fun a ha b hb => ?_⟩
    rcases List.mem_cons.1 hb with rfl | hb
    · have := hi a (List.mem_of_mem_take ha)
      have := h1 a ha
      unfold lessI
      omega
    · exact h.2.2 a ha b hb
  · rw [List.append_assoc, List.singleton_append]
    have := List.perm_middle (a := i) (l₁ := acc.take j) (l₂ := acc.drop j)
    rw [e] at this
    exact this
theorem ref_l2 {l : List S26} (hw : wfl l) (h50 : l.length ≤ 50) (need : Int) (l2 : List Int) (i : Nat) (hi : i < l.length) :
    ∀ j (acc : List Nat) K, acc.length ≤ 50 → j ≤ acc.length → acc.Pairwise (lessI l) → (∀ y ∈ acc, y < i) → (∀ y ∈ acc.drop j, goodI l i < goodI l y) →
      ∃ (acc' : List Nat) (K' : Nat), K ≤ K' ∧ acc'.Pairwise (lessI l) ∧ acc'.Perm (i :: acc) ∧ tabulariumref22_Targets.l2 (j + 6 + K) l need l2 (acc.map Int.ofNat) ((i : Nat) : Int) ((j : Nat) : Int) = tabulariumref22_Targets.l0 K' l need l2 (acc'.map Int.ofNat) ((i + 1 : Nat) : Int)
  | 0, acc, K, ha, hj, hs, hlt, hd => by
    obtain ⟨o1, o2⟩ := put_in (l := l) hj hs hlt (fun y hy => by simp at hy) hd
    refine ⟨_, K + 5, by omega, o1, o2, ?_⟩
    have zm : (acc.map Int.ofNat).length = acc.length := List.length_map ..
    rw [show 0 + 6 + K = (K + 5) + 1 by omega, tabulariumref22_Targets.l2, if_neg (by omega), if_pos (by omega), if_pos (by omega)]
    simp only [Option.bind_some]
    have l1 : ((0 : Nat) : Int).toNat = 0 := rfl
    rw [l1, List.take_zero, List.drop_zero, List.nil_append, List.nil_append]
    rw [if_pos (by simp), if_pos (by simp), if_pos (by rw [zm, List.length_singleton]; omega), w_up i (by omega)]
    simp
  | j + 1, acc, K, ha, hj, hs, hlt, hd => by
    have hmem : acc[j] ∈ acc := List.getElem_mem (by omega)
    have hja := hlt _ hmem
    have zm : (acc.map Int.ofNat).length = acc.length := List.length_map ..
    have rdj : rd (acc.map Int.ofNat) ((j : Nat) : Int) = ((acc[j] : Nat) : Int) := by
      rw [rd_at _ j (by rw [zm]; omega), List.getElem_map]; rfl
    rw [show j + 1 + 6 + K = (j + 6 + K) + 1 by omega, tabulariumref22_Targets.l2, if_pos (by omega), w_dn j (by omega), if_pos (by omega), if_pos (by rw [zm]; omega), rdj, if_pos (by omega), if_pos (by omega), if_pos (by omega), if_pos (by omega),
      refbefore_f (rd_T26 l ((acc[j] : Nat) : Int)) (rd_T26 l ((i : Nat) : Int)) (wfl_rd hw (by omega)) (wfl_rd hw hi) (j + 6 + K) (by omega), Option.bind_some]
    by_cases c : cmpN (goodn (rd_T26 l ((acc[j] : Nat) : Int))) (goodn (rd_T26 l ((i : Nat) : Int))) > 0
    · rw [if_pos c]
      refine ref_l2 hw h50 need l2 i hi j acc K ha (by omega) hs hlt (fun y hy' => ?_)
      rw [List.drop_eq_getElem_cons (show j < acc.length by omega)] at hy'
      rcases List.mem_cons.1 hy' with rfl | hy'
      · exact (cmpN_gt _ _).1 c
      · exact hd y hy'
    · have hle : ∀ y ∈ acc.take (j + 1), goodI l y ≤ goodI l i := by
        intro y hy'
        obtain ⟨p, hp, rfl⟩ := List.getElem_of_mem hy'
        have hp' : p < j + 1 := by rw [List.length_take] at hp; omega
        rw [List.getElem_take]
        have h1 : goodI l acc[j] ≤ goodI l i := Nat.le_of_not_lt fun q => c ((cmpN_gt _ _).2 q)
        rcases Nat.lt_or_ge p j with h2 | h2
        · have := List.pairwise_iff_getElem.1 hs p j (by omega) (by omega) h2
          unfold lessI at this
          omega
        · have e : p = j := by omega
          subst e
          exact h1
      obtain ⟨o1, o2⟩ := put_in (l := l) hj hs hlt hle hd
      refine ⟨_, j + 6 + K, by omega, o1, o2, ?_⟩
      rw [if_neg c, if_pos (by omega), if_pos (by rw [zm]; omega)]
      simp only [Option.bind_some]
      have l1 : ((j + 1 : Nat) : Int).toNat = j + 1 := Int.toNat_natCast _
      have z1 : ((acc.map Int.ofNat).take (j + 1)).length = j + 1 := by rw [List.length_take, zm]; omega
      have z2 : ((acc.map Int.ofNat).drop (j + 1)).length = acc.length - (j + 1) := by rw [List.length_drop, zm]
      rw [l1, List.nil_append, if_pos (by rw [z1, List.length_nil]; omega), if_pos (by rw [z1]; omega), if_pos (by rw [List.length_append, z1, z2, List.length_singleton]; omega), w_up i (by omega), List.map_append, List.map_append, List.map_take, List.map_drop]
      rfl
theorem ref_l1 (l : List S26) (need : Int) (l2 : List Int) (X : List Int) (i : Nat) (h2 : l2.length < 1152921504606846976) : ∀ r c K (b : Bool), c + r = l2.length →
    tabulariumref22_Targets.l1 (r + 1 + K) l need l2 X ((i : Nat) : Int) b ((c : Nat) : Int) = if b = true ∧ ((i : Nat) : Int) ∉ l2.drop c then tabulariumref22_Targets.l2 K l need l2 X ((i : Nat) : Int) (X.length : Int) else tabulariumref22_Targets.l0 K l need l2 X (wrap64 (((i : Nat) : Int) + 1))
  | 0, c, K, b, h => by
    rw [show 0 + 1 + K = K + 1 by omega, tabulariumref22_Targets.l1, if_neg (by omega), List.drop_of_length_le (by omega)]
    cases b with
    | true => rw [if_pos rfl, if_pos ⟨rfl, by simp⟩]
    | false => rw [if_neg (by decide), if_neg (fun q => by simp at q)]
  | r + 1, c, K, b, h => by
    have hc : c < l2.length := by omega
    rw [show r + 1 + 1 + K = (r + 1 + K) + 1 by omega, tabulariumref22_Targets.l1, if_pos (by omega), w_up c (by omega), rd_at l2 c hc, List.drop_eq_getElem_cons hc]
    cases b with
    | true =>
      rw [if_pos rfl, if_pos (by omega), ref_l1 l need l2 X i h2 r (c + 1) K _ (by omega)]
      by_cases e : l2[c] = ((i : Nat) : Int)
      · rw [if_neg (fun q => by have := q.1; rw [e] at this; simp at this), if_neg (fun q => q.2 (by rw [e]; exact List.mem_cons_self ..))]
      · by_cases m : ((i : Nat) : Int) ∈ l2.drop (c + 1)
        · rw [if_neg (fun q => q.2 m), if_neg (fun q => q.2 (List.mem_cons_of_mem _ m))]
        · rw [if_pos ⟨by simpa using e, m⟩, if_pos ⟨rfl, fun q => by rcases List.mem_cons.1 q with q | q; exact e q.symm; exact m q⟩]
    | false =>
      rw [if_neg (by decide), ref_l1 l need l2 X i h2 r (c + 1) K _ (by omega), if_neg (fun q => by simp at q), if_neg (fun q => by simp at q)]
theorem ref_l0 {l : List S26} (hw : wfl l) (h50 : l.length ≤ 50) (need : Int) (l2 : List Int) (h2 : l2.length < 1152921504606846976) :
    ∀ r i (acc : List Nat) K, i + r = l.length → acc.Pairwise (lessI l) → (∀ x, x ∈ acc ↔ x < i ∧ okv l l2 x = true) → acc.length ≤ i → r * (l2.length + 70) + 10 ≤ K →
      ∃ A : List Nat, tabulariumref22_Targets.l0 K l need l2 (acc.map Int.ofNat) ((i : Nat) : Int) = some ((A.map Int.ofNat).take (mn (A.length : Int) (mx need 0)).toNat) ∧ A.Pairwise (lessI l) ∧ (∀ x, x ∈ A ↔ x < l.length ∧ okv l l2 x = true)
  | 0, i, acc, K, hi, hs, hm, hl, hK => by
    obtain ⟨K1, rfl⟩ : ∃ q, K = q + 1 := ⟨K - 1, by omega⟩
    obtain ⟨n1, n2, n3⟩ := needs' acc.length need
    refine ⟨acc, ?_, hs, by rw [show l.length = i by omega]; exact hm⟩
    rw [tabulariumref22_Targets.l0, if_neg (by omega), List.length_map, if_pos n1, if_pos n2]
  | r + 1, i, acc, K, hi, hs, hm, hl, hK => by
    rw [Nat.add_mul, Nat.one_mul] at hK
    have hi0 : i < l.length := by omega
    obtain ⟨K1, rfl⟩ : ∃ q, K = (l2.length + 1 + (acc.length + 6 + q)) + 1 := ⟨K - 1 - (l2.length + 1) - (acc.length + 6), by omega⟩
    have hlt : ∀ y ∈ acc, y < i := fun y hy => ((hm y).1 hy).1
    rw [tabulariumref22_Targets.l0, if_pos (by omega), if_pos (by omega), reffit_f _ _ (by omega), Option.bind_some, show (0 : Int) = ((0 : Nat) : Int) from rfl, ref_l1 l need l2 _ i h2 l2.length 0 _ _ (by omega), List.drop_zero]
    by_cases c : fitv (rd_T26 l ((i : Nat) : Int)) = true ∧ ((i : Nat) : Int) ∉ l2
    · rw [if_pos c, List.length_map]
      have ok : okv l l2 i = true := by unfold okv; rw [c.1, decide_eq_false c.2]; rfl
      obtain ⟨acc', K', g1, g2, g3, g4⟩ := ref_l2 hw h50 need l2 i hi0 acc.length acc K1 (by omega) (Nat.le_refl _) hs hlt (fun y hy => by simp at hy)
      rw [g4]
      refine ref_l0 hw h50 need l2 h2 r (i + 1) acc' K' (by omega) g2 (fun x => ?_) (by rw [g3.length_eq, List.length_cons]; omega) (by omega)
      rw [g3.mem_iff, List.mem_cons, hm]
      constructor
      · rintro (rfl | ⟨a, b⟩)
        · exact ⟨by omega, ok⟩
        · exact ⟨by omega, b⟩
      · rintro ⟨a, b⟩
        by_cases e : x = i
        · exact .inl e
        · exact .inr ⟨by omega, b⟩
    · rw [if_neg c, w_up i (by omega)]
      have nok : okv l l2 i = false := by
        unfold okv
        by_cases f : fitv (rd_T26 l ((i : Nat) : Int)) = true
        · have : ((i : Nat) : Int) ∈ l2 := Decidable.byContradiction fun q => c ⟨f, q⟩
          rw [decide_eq_true this, Bool.not_true, Bool.and_false]
        · rw [Bool.eq_false_iff.mpr f, Bool.false_and]
      refine ref_l0 hw h50 need l2 h2 r (i + 1) acc _ (by omega) hs (fun x => ?_) (by omega) (by omega)
      rw [hm]
      constructor
      · rintro ⟨a, b⟩; exact ⟨by omega, b⟩
      · rintro ⟨a, b⟩
        refine ⟨?_, b⟩
        by_cases e : x = i
        · subst e; rw [nok] at b; cases b
        · omega
theorem ref_targets {l : List S26} (hw : wfl l) (h50 : l.length ≤ 50) (need : Int) (l2 : List Int) (h2 : l2.length < 1152921504606846976) (K : Nat) (hK : l.length * (l2.length + 70) + 10 ≤ K) : tabulariumref22_Targets.f K l need l2 = some (((tgt 10 l l2).take (mn ((tgt 10 l l2).length : Int) (mx need 0)).toNat).map Int.ofNat) := by
  obtain ⟨A, h, hp, hm⟩ := ref_l0 hw h50 need l2 h2 l.length 0 [] K (by omega) List.Pairwise.nil (fun x => by simp) (by simp) hK
  obtain ⟨tp, tm, _⟩ := tgt_facts hw l2 10 (by omega)
  have e : A = tgt 10 l l2 := one_order l _ _ hp tp (fun x => (hm x).trans (tm x).symm)
  unfold tabulariumref22_Targets.f
  subst e
  rw [List.map_take]
  exact h

theorem gt_w {x y : Nat} (hx : x ≤ 4607182418800017408) (hy : y ≤ 4607182418800017408) : (FloatKind.f64.format.order x y == some .gt) = decide (y < x) := by
  rw [order_w hx hy]
  rcases Nat.lt_trichotomy x y with h | h | h
  · rw [cmp_lt (show (x : Int) < (y : Int) by omega), decide_eq_false (by omega)]; rfl
  · rw [cmp_eq (show (x : Int) = (y : Int) by omega), decide_eq_false (by omega)]; rfl
  · rw [cmp_gt (show (y : Int) < (x : Int) by omega), decide_eq_true h]; rfl
theorem lt_w {x y : Nat} (hx : x ≤ 4607182418800017408) (hy : y ≤ 4607182418800017408) : (FloatKind.f64.format.order x y == some .lt) = decide (x < y) := by
  rw [order_w hx hy]
  rcases Nat.lt_trichotomy x y with h | h | h
  · rw [cmp_lt (show (x : Int) < (y : Int) by omega), decide_eq_true h]; rfl
  · rw [cmp_eq (show (x : Int) = (y : Int) by omega), decide_eq_false (by omega)]; rfl
  · rw [cmp_gt (show (y : Int) < (x : Int) by omega), decide_eq_false (by omega)]; rfl
theorem refspread_loop (L : List S26) (hl : L.length < 1000000) : ∀ r i k hi lo, i + r = L.length → r + 3 ≤ k → lo ≤ hi → hi ≤ 4607182418800017408 → tabulariumref22_Spread.l0 k L hi lo ((i : Nat) : Int) = some (subv (mxl hi (L.drop i)) (mnl lo (L.drop i)))
  | 0, i, k, hi, lo, h1, h2, h3, h4 => by
    obtain ⟨q, rfl⟩ : ∃ q, k = q + 1 := ⟨k - 1, by omega⟩
    rw [tabulariumref22_Spread.l0, if_neg (by omega), List.drop_of_length_le (by omega), (sub_at h4 h3).1]
    rw [if_pos (show (some (subv hi lo)).isSome = true from rfl)]
    rfl
  | r + 1, i, k, hi, lo, h1, h2, h3, h4 => by
    obtain ⟨q, rfl⟩ : ∃ q, k = q + 1 := ⟨k - 1, by omega⟩
    have hi' : i < L.length := by omega
    have hs := shv_le L[i]
    have ih := refspread_loop L hl r (i + 1) q (max hi (shv L[i])) (min lo (shv L[i])) (by omega) (by omega) (by omega) (Nat.max_le.2 ⟨h4, hs⟩)
    rw [tabulariumref22_Spread.l0, if_pos (by omega), if_pos (by omega), rd26_at L i hi', refshare_f _ q (by omega), Option.bind_some, w_up i (by omega), gt_w hs h4, lt_w hs (Nat.le_trans h3 h4), List.drop_eq_getElem_cons hi']
    show _ = some (subv (mxl (max hi (shv L[i])) (L.drop (i + 1))) (mnl (min lo (shv L[i])) (L.drop (i + 1))))
    rw [← ih]
    by_cases a : hi < shv L[i]
    · rw [if_pos (decide_eq_true a), Nat.max_eq_right (by omega)]
      by_cases b : shv L[i] < lo
      · omega
      · rw [if_neg (by rw [decide_eq_false b]; decide), Nat.min_eq_left (by omega)]
    · rw [if_neg (by rw [decide_eq_false a]; decide), Nat.max_eq_left (by omega)]
      by_cases b : shv L[i] < lo
      · rw [if_pos (decide_eq_true b), Nat.min_eq_right (by omega)]
      · rw [if_neg (by rw [decide_eq_false b]; decide), Nat.min_eq_left (by omega)]
theorem refspread_at (L : List S26) (hl : L.length < 1000000) (k : Nat) (hk : L.length + 3 ≤ k) : tabulariumref22_Spread.f k L = some (spv L) := by
  unfold tabulariumref22_Spread.f
  cases L with
  | nil => rw [if_pos (show ((([] : List S26).length : Nat) : Int) = 0 from rfl)]; rfl
  | cons x L =>
    have e0 : rd_T26 (x :: L) 0 = x := rfl
    rw [List.length_cons] at hl hk
    rw [if_neg (by rw [List.length_cons]; omega), if_pos (by rw [List.length_cons]; omega), e0, refshare_f x k (by omega), Option.bind_some]
    exact refspread_loop (x :: L) (by rw [List.length_cons]; omega) L.length 1 k _ _ (by rw [List.length_cons]; omega) (by omega) (Nat.le_refl _) (shv_le x)
end Go.Proofs.Ytnkihggdohigiaa.Pure
end
