/- The law PlaceBest over plain functions: whoever is taken fits, and is not barred, each once; nobody who is left out, and fits, and is not barred, is better; fewer are taken only where there are fewer. For every list of loads (the first fifty), every list of barred ones and every need. -/
import Derived.Test.YtnkihggdohigiaaPlC
import Derived.Test.YtnkihggdohigiaaPx20
namespace Go.Proofs.Ytnkihggdohigiaa.Pure
open Go.RowKit Go.Proofs.Ytnkihggdohigiaa.P Go.Proofs.Ytnkihggdohigiaa.Fl Go.Proofs.YtnkihggdohigiaaW.PrintWords Go.Proofs.YtnkihggdohigiaaW.PrintLast Go.Proofs.YtnkihggdohigiaaW.PrintMore
set_option linter.unusedVariables false
set_option linter.unusedSectionVars false

theorem w_dn (j : Nat) (h : j < 1000) : wrap64 (((j + 1 : Nat) : Int) - 1) = ((j : Nat) : Int) := by unfold wrap64; omega
/-- the marks of those who are taken among the first c of G -/
def marks (n : Nat) (G : List Nat) (c : Nat) : List Bool := (List.range n).map (fun i => decide (i ∈ G.take c))
theorem marks_len (n : Nat) (G : List Nat) (c : Nat) : (marks n G c).length = n := by unfold marks; rw [List.length_map, List.length_range]
theorem marks_rd (n : Nat) (G : List Nat) (c i : Nat) (h : i < n) : rdOf false (marks n G c) ((i : Nat) : Int) = decide (i ∈ G.take c) := by
  unfold rdOf
  rw [Int.toNat_natCast, List.getD_eq_getElem?_getD, List.getElem?_eq_getElem (by rw [marks_len]; exact h), Option.getD_some]
  unfold marks
  rw [List.getElem_map, List.getElem_range]
theorem marks_set (n : Nat) (G : List Nat) (c : Nat) (hc : c < G.length) : (marks n G c).set G[c] true = marks n G (c + 1) := by
  apply List.ext_getElem?
  intro i
  by_cases hi : i < n
  · rw [List.getElem?_eq_getElem (by rw [List.length_set, marks_len]; exact hi), List.getElem?_eq_getElem (by rw [marks_len]; exact hi), List.getElem_set]
    unfold marks
    simp only [List.getElem_map, List.getElem_range]
    rw [List.take_succ_eq_append_getElem hc]
    by_cases e : G[c] = i
    · rw [if_pos e]
      simp [e]
    · rw [if_neg e]
      congr 1
      refine decide_eq_decide.2 ?_
      rw [List.mem_append, List.mem_singleton]
      exact ⟨.inl, fun h => h.resolve_right (fun q => e q.symm)⟩
  · rw [List.getElem?_eq_none (by rw [List.length_set, marks_len]; omega), List.getElem?_eq_none (by rw [marks_len]; omega)]

section
variable {l : List S26} (hw : wfl l) (hl : l.length ≤ 50) (need : Int) (l2 : List Int) (h2 : l2.length < 1152921504606846976)
include hw hl h2
/-- a taken one is not among the barred -/
theorem best_l1 (X : List Int) (M : List Bool) (x : Int) (c : Nat) : ∀ r s K, s + r = l2.length → x ∉ l2.drop s →
    tabulariumlaw22_PlaceBest.l1 (r + 1 + K) l need l2 true X M ((c : Nat) : Int) x ((s : Nat) : Int) = tabulariumlaw22_PlaceBest.l0 K l need l2 true X M (wrap64 (((c : Nat) : Int) + 1))
  | 0, s, K, h, hx => by rw [show 0 + 1 + K = K + 1 by omega, tabulariumlaw22_PlaceBest.l1, if_neg (by omega)]
  | r + 1, s, K, h, hx => by
    have hs : s < l2.length := by omega
    rw [List.drop_eq_getElem_cons hs, List.mem_cons] at hx
    rw [show r + 1 + 1 + K = (r + 1 + K) + 1 by omega, tabulariumlaw22_PlaceBest.l1, if_pos (by omega), if_pos (by omega), rd_at l2 s hs, if_neg (fun q => hx (.inl q.symm)), w_up s (by omega)]
    exact best_l1 X M x c r (s + 1) K (by omega) (fun q => hx (.inr q))
/-- all who are taken are right -/
theorem best_l0 (G : List Nat) (hG : G.length ≤ 50) (hp : G.Pairwise (lessI l)) (hm : ∀ x ∈ G, x < l.length ∧ okv l l2 x = true) (K : Nat) (hK : 10 ≤ K) : ∀ r c F, c + r = G.length → r * (l2.length + 4) + 1 + K ≤ F → ∃ K', K ≤ K' ∧
    tabulariumlaw22_PlaceBest.l0 F l need l2 true (G.map Int.ofNat) (marks l.length G c) ((c : Nat) : Int) = tabulariumlaw22_PlaceBest.l2 K' l need l2 true (G.map Int.ofNat) (marks l.length G G.length) 0 0
  | 0, c, F, h, hF => by
    have e : c = G.length := by omega
    subst e
    obtain ⟨F1, rfl⟩ : ∃ q, F = q + 1 := ⟨F - 1, by omega⟩
    refine ⟨F1, by omega, ?_⟩
    rw [tabulariumlaw22_PlaceBest.l0, if_neg (by rw [List.length_map]; omega)]
  | r + 1, c, F, h, hF => by
    rw [Nat.add_mul, Nat.one_mul] at hF
    obtain ⟨F1, rfl⟩ : ∃ q, F = (l2.length + 2 + q) + 1 := ⟨F - (l2.length + 3), by omega⟩
    have hc : c < G.length := by omega
    have zm : (G.map Int.ofNat).length = G.length := List.length_map ..
    have rdX : ∀ p (hp' : p < G.length), rd (G.map Int.ofNat) ((p : Nat) : Int) = ((G[p] : Nat) : Int) := by
      intro p hp'
      rw [rd_at _ p (by rw [zm]; omega), List.getElem_map]; rfl
    obtain ⟨g1, g2⟩ := hm G[c] (List.getElem_mem hc)
    have fit : fitv (rd_T26 l ((G[c] : Nat) : Int)) = true := by
      unfold okv at g2
      exact (Bool.and_eq_true_iff.1 g2).1
    have nbar : ((G[c] : Nat) : Int) ∉ l2 := by
      unfold okv at g2
      have := (Bool.and_eq_true_iff.1 g2).2
      simpa using this
    have hnew : decide (G[c] ∈ G.take c) = false := by
      refine decide_eq_false (fun q => ?_)
      obtain ⟨p, hp', e⟩ := List.getElem_of_mem q
      have hpc : p < c := by rw [List.length_take] at hp'; omega
      rw [List.getElem_take] at e
      have := List.pairwise_iff_getElem.1 hp p c (by omega) hc hpc
      rw [e] at this
      unfold lessI at this
      omega
    have ml := marks_len l.length G c
    have key : tabulariumlaw22_PlaceBest.j1 (l2.length + 2 + F1) l need l2 true (G.map Int.ofNat) (marks l.length G c) ((c : Nat) : Int) ((G[c] : Nat) : Int) false = tabulariumlaw22_PlaceBest.l0 F1 l need l2 true (G.map Int.ofNat) (marks l.length G (c + 1)) ((c + 1 : Nat) : Int) := by
      rw [show l2.length + 2 + F1 = (l2.length + 1 + F1) + 1 by omega, tabulariumlaw22_PlaceBest.j1, if_neg (by decide), if_pos (by omega), if_pos (by rw [ml]; omega), Int.toNat_natCast, marks_set _ _ _ hc]
      rw [show (0 : Int) = ((0 : Nat) : Int) from rfl, best_l1 hw hl need l2 h2 _ _ _ c l2.length 0 F1 (by omega) (by rw [List.drop_zero]; exact nbar), w_up c (by omega)]
    obtain ⟨K', k1, ih⟩ := best_l0 G hG hp hm K hK r (c + 1) F1 (by omega) (by omega)
    refine ⟨K', k1, ?_⟩
    rw [← ih, ← key]
    rw [tabulariumlaw22_PlaceBest.l0, if_pos (by rw [zm]; omega), if_pos (by omega), rdX c hc, if_neg (by omega), if_neg (by omega), if_pos (by omega), if_pos (by rw [ml]; omega), marks_rd _ _ _ _ g1, if_neg (by rw [hnew]; decide), if_pos (by omega), fit_f _ _ (by omega), Option.bind_some, if_pos fit]
    cases c with
    | zero => rw [if_neg (by omega)]
    | succ p =>
      obtain ⟨q1, q2⟩ := hm G[p] (List.getElem_mem (by omega))
      have hle : ¬ cmpN (goodn (rd_T26 l ((G[p] : Nat) : Int))) (goodn (rd_T26 l ((G[p + 1] : Nat) : Int))) > 0 := by
        rw [cmpN_gt]
        have := List.pairwise_iff_getElem.1 hp p (p + 1) (by omega) hc (by omega)
        unfold lessI goodI at this
        omega
      rw [if_pos (by omega), w_dn p (by omega), if_pos (by omega), if_pos (by rw [zm]; omega), rdX p (by omega), if_pos (by omega), if_pos (by omega), before_f (rd_T26 l ((G[p] : Nat) : Int)) (rd_T26 l ((G[p + 1] : Nat) : Int)) (wfl_rd hw q1) (wfl_rd hw g1) _ (by omega), Option.bind_some, decide_eq_false hle]
/-- who is barred is not free -/
theorem best_l3 (X : List Int) (M : List Bool) (free i : Nat) (K : Nat) : ∀ r s (b : Bool), s + r = l2.length →
    tabulariumlaw22_PlaceBest.l3 (r + 1 + K) l need l2 true X M ((free : Nat) : Int) ((i : Nat) : Int) b ((s : Nat) : Int) = if b = true ∨ ((i : Nat) : Int) ∈ l2.drop s then tabulariumlaw22_PlaceBest.l2 K l need l2 true X M ((free : Nat) : Int) (wrap64 (((i : Nat) : Int) + 1)) else tabulariumlaw22_PlaceBest.l4 K l need l2 true X M (wrap64 (((free : Nat) : Int) + 1)) ((i : Nat) : Int) 0
  | 0, s, b, h => by
    rw [show 0 + 1 + K = K + 1 by omega, tabulariumlaw22_PlaceBest.l3, if_neg (by omega), List.drop_of_length_le (by omega)]
    cases b with
    | true => rw [if_pos rfl, if_pos (.inl rfl)]
    | false => rw [if_neg (by decide), if_neg (fun q => by simp at q)]
  | r + 1, s, b, h => by
    have hs : s < l2.length := by omega
    rw [show r + 1 + 1 + K = (r + 1 + K) + 1 by omega, tabulariumlaw22_PlaceBest.l3, if_pos (by omega), w_up s (by omega), rd_at l2 s hs, List.drop_eq_getElem_cons hs]
    cases b with
    | true => rw [if_pos rfl, best_l3 X M free i K r (s + 1) true (by omega), if_pos (.inl rfl), if_pos (.inl rfl)]
    | false =>
      rw [if_neg (by decide), if_pos (by omega), best_l3 X M free i K r (s + 1) _ (by omega)]
      by_cases e : l2[s] = ((i : Nat) : Int)
      · rw [if_pos (.inl (by rw [e]; exact beq_self_eq_true _)), if_pos (.inr (by rw [e]; exact List.mem_cons_self ..))]
      · by_cases m : ((i : Nat) : Int) ∈ l2.drop (s + 1)
        · rw [if_pos (.inr m), if_pos (.inr (List.mem_cons_of_mem _ m))]
        · rw [if_neg (fun q => q.elim (fun a => e (by simpa using a)) m), if_neg (fun q => q.elim (fun a => by cases a) (fun a => by rcases List.mem_cons.1 a with a | a; exact e a.symm; exact m a))]
/-- nobody who is left out is better -/
theorem best_l4 (G : List Nat) (hG : G.length ≤ 50) (hm : ∀ x ∈ G, x < l.length ∧ okv l l2 x = true) (free i : Nat) (hi : i < l.length) (hb : i ∈ G ∨ ∀ y ∈ G, ¬ goodI l i < goodI l y) (K : Nat) (hK : 3 ≤ K) : ∀ r c, c + r = G.length →
    tabulariumlaw22_PlaceBest.l4 (r + 1 + K) l need l2 true (G.map Int.ofNat) (marks l.length G G.length) ((free : Nat) : Int) ((i : Nat) : Int) ((c : Nat) : Int) = tabulariumlaw22_PlaceBest.l2 K l need l2 true (G.map Int.ofNat) (marks l.length G G.length) ((free : Nat) : Int) (wrap64 (((i : Nat) : Int) + 1))
  | 0, c, h => by rw [show 0 + 1 + K = K + 1 by omega, tabulariumlaw22_PlaceBest.l4, if_neg (by rw [List.length_map]; omega)]
  | r + 1, c, h => by
    have hc : c < G.length := by omega
    have zm : (G.map Int.ofNat).length = G.length := List.length_map ..
    have rdc : rd (G.map Int.ofNat) ((c : Nat) : Int) = ((G[c] : Nat) : Int) := by
      rw [rd_at _ c (by rw [zm]; omega), List.getElem_map]; rfl
    have ih := best_l4 G hG hm free i hi hb K hK r (c + 1) (by omega)
    rw [show r + 1 + 1 + K = (r + 1 + K) + 1 by omega, tabulariumlaw22_PlaceBest.l4, if_pos (by rw [zm]; omega), if_pos (by omega), if_pos (by rw [marks_len]; omega), marks_rd _ _ _ _ hi, List.take_length, w_up c (by omega), ih]
    by_cases m : i ∈ G
    · rw [if_pos (decide_eq_true m)]
    · have hbb := hb.resolve_left m G[c] (List.getElem_mem hc)
      have g1 := (hm G[c] (List.getElem_mem hc)).1
      have hn : ¬ cmpN (goodn (rd_T26 l ((i : Nat) : Int))) (goodn (rd_T26 l ((G[c] : Nat) : Int))) < 0 := by
        rw [cmpN_lt]
        exact hbb
      rw [if_neg (by rw [decide_eq_false m]; decide), if_pos (by omega), if_pos (by omega), rdc, if_pos (by omega), if_pos (by omega), before_f (rd_T26 l ((i : Nat) : Int)) (rd_T26 l ((G[c] : Nat) : Int)) (wfl_rd hw hi) (wfl_rd hw g1) _ (by omega), Option.bind_some, if_neg hn]
theorem best_l2 (G : List Nat) (hG : G.length ≤ 50) (hm : ∀ x ∈ G, x < l.length ∧ okv l l2 x = true) (hb : ∀ i, i < l.length → okv l l2 i = true → i ∈ G ∨ ∀ y ∈ G, ¬ goodI l i < goodI l y)
    (hcount : (G.length : Int) = mn ((((List.range l.length).filter (okv l l2)).length : Nat) : Int) (mx need 0)) : ∀ r i F, i + r = l.length → r * (l2.length + 60) + 10 ≤ F →
    tabulariumlaw22_PlaceBest.l2 F l need l2 true (G.map Int.ofNat) (marks l.length G G.length) ((((List.range i).filter (okv l l2)).length : Nat) : Int) ((i : Nat) : Int) = some true
  | 0, i, F, h, hF => by
    obtain ⟨F1, rfl⟩ : ∃ q, F = q + 1 := ⟨F - 1, by omega⟩
    have e : i = l.length := by omega
    rw [tabulariumlaw22_PlaceBest.l2, if_neg (by omega), if_pos rfl, List.length_map, e, hcount, beq_self_eq_true]
  | r + 1, i, F, h, hF => by
    rw [Nat.add_mul, Nat.one_mul] at hF
    obtain ⟨F1, rfl⟩ : ∃ q, F = (l2.length + 1 + (G.length + 1 + q)) + 1 := ⟨F - (l2.length + G.length + 3), by omega⟩
    have hi : i < l.length := by omega
    have hfl : ((List.range i).filter (okv l l2)).length ≤ i := by
      have := List.length_filter_le (okv l l2) (List.range i)
      rw [List.length_range] at this
      exact this
    have hsucc : (List.range (i + 1)).filter (okv l l2) = (List.range i).filter (okv l l2) ++ (if okv l l2 i = true then [i] else []) := by
      rw [List.range_succ, List.filter_append]
      congr 1
      by_cases o : okv l l2 i = true
      · rw [if_pos o, List.filter_cons_of_pos o, List.filter_nil]
      · rw [if_neg o, List.filter_cons_of_neg o, List.filter_nil]
    rw [tabulariumlaw22_PlaceBest.l2, if_pos (by omega), if_pos (by omega), fit_f _ _ (by omega), Option.bind_some, show (0 : Int) = ((0 : Nat) : Int) from rfl, best_l3 hw hl need l2 h2 _ _ _ i _ l2.length 0 _ (by omega), List.drop_zero]
    by_cases o : okv l l2 i = true
    · have o' := o
      unfold okv at o'
      obtain ⟨o1, o2⟩ := Bool.and_eq_true_iff.1 o'
      have nb : ((i : Nat) : Int) ∉ l2 := by simpa using o2
      have ih := best_l2 G hG hm hb hcount r (i + 1) F1 (by omega) (by omega)
      rw [hsucc, if_pos o, List.length_append, List.length_singleton] at ih
      rw [if_neg (fun q => q.elim (fun a => by rw [o1] at a; cases a) nb), w_up _ (by omega), show (0 : Int) = ((0 : Nat) : Int) from rfl, best_l4 hw hl need l2 h2 G hG hm _ i hi (hb i hi o) F1 (by omega) G.length 0 (by omega), w_up i (by omega)]
      exact ih
    · have ih := best_l2 G hG hm hb hcount r (i + 1) (G.length + 1 + F1) (by omega) (by omega)
      rw [hsucc, if_neg o, List.append_nil] at ih
      have q : (!fitv (rd_T26 l ((i : Nat) : Int))) = true ∨ ((i : Nat) : Int) ∈ l2 := by
        by_cases f : fitv (rd_T26 l ((i : Nat) : Int)) = true
        · refine .inr (Decidable.byContradiction fun m => o ?_)
          unfold okv
          rw [f, decide_eq_false m]
          rfl
        · exact .inl (by rw [Bool.eq_false_iff.mpr f]; rfl)
      rw [if_pos q, w_up i (by omega)]
      exact ih
end

theorem PlaceBest : tabulariumlaw22_PlaceBest.Pure := by
  intro l0 need l2 w0 w1 w2 w3 w4 w5 w6
  have h2 : l2.length < 1152921504606846976 := by omega
  refine ⟨50 * (l2.length + 4) + 50 * (l2.length + 60) + 1000, ?_⟩
  obtain ⟨f0, f1, f2⟩ := fifty l0.length
  have hl : (l0.take (mn (l0.length : Int) 50).toNat).length ≤ 50 := by rw [List.length_take]; omega
  have hw := wfl_take w2 (mn (l0.length : Int) 50).toNat
  unfold tabulariumlaw22_PlaceBest.f
  rw [examples_at _ (by omega), Option.bind_some, if_pos f0, if_pos f1, Option.bind_some]
  generalize l0.take (mn (l0.length : Int) 50).toNat = l at hl hw
  clear w0 w1 w2 f0 f1 f2
  obtain ⟨tp, tm, tl⟩ := tgt_facts hw l2 10 (by omega)
  have hle := tgt_le hw l2 10 (by omega)
  obtain ⟨n1, n2, n3⟩ := needs' (tgt 10 l l2).length need
  obtain ⟨n, hn⟩ : ∃ n, n = (mn ((tgt 10 l l2).length : Int) (mx need 0)).toNat := ⟨_, rfl⟩
  rw [targets_of hw (by omega) l2 h2, Option.bind_some, if_pos (by omega), if_pos (by rw [Int.toNat_natCast]; omega), Int.toNat_natCast, ← hn]
  have hsub : ∀ x ∈ (tgt 10 l l2).take n, x ∈ tgt 10 l l2 := fun x hx => List.mem_of_mem_take hx
  have gp : ((tgt 10 l l2).take n).Pairwise (lessI l) := tp.sublist (List.take_sublist _ _)
  have gm : ∀ x ∈ (tgt 10 l l2).take n, x < l.length ∧ okv l l2 x = true := fun x hx => (tm x).1 (hsub x hx)
  have glen : ((tgt 10 l l2).take n).length = n := by rw [List.length_take]; omega
  have gb : ∀ i, i < l.length → okv l l2 i = true → i ∈ (tgt 10 l l2).take n ∨ ∀ y ∈ (tgt 10 l l2).take n, ¬ goodI l i < goodI l y := by
    intro i hi ho
    have hi' := (tm i).2 ⟨hi, ho⟩
    rw [← List.take_append_drop n (tgt 10 l l2)] at hi' tp
    rw [List.pairwise_append] at tp
    rcases List.mem_append.1 hi' with m | m
    · exact .inl m
    · refine .inr (fun y hy => ?_)
      have := tp.2.2 y hy i m
      unfold lessI at this
      omega
  have gc : (((tgt 10 l l2).take n).length : Int) = mn ((((List.range l.length).filter (okv l l2)).length : Nat) : Int) (mx need 0) := by
    rw [glen, ← tl, hn]
    omega
  have hm0 : List.replicate l.length false = marks l.length ((tgt 10 l l2).take n) 0 := by
    apply List.ext_getElem?
    intro i
    by_cases hi : i < l.length
    · rw [List.getElem?_eq_getElem (by rw [List.length_replicate]; exact hi), List.getElem?_eq_getElem (by rw [marks_len]; exact hi)]
      unfold marks
      simp
    · rw [List.getElem?_eq_none (by rw [List.length_replicate]; omega), List.getElem?_eq_none (by rw [marks_len]; omega)]
  rw [hm0]
  have hmul : n * (l2.length + 4) ≤ 50 * (l2.length + 4) := Nat.mul_le_mul_right _ (by omega)
  have hmul2 : l.length * (l2.length + 60) ≤ 50 * (l2.length + 60) := Nat.mul_le_mul_right _ hl
  obtain ⟨K', k1, e⟩ := best_l0 hw hl need l2 h2 ((tgt 10 l l2).take n) (by omega) gp gm (50 * (l2.length + 60) + 500) (by omega) n 0 (50 * (l2.length + 4) + 50 * (l2.length + 60) + 1000) (by omega) (by omega)
  refine e.trans ?_
  exact best_l2 hw hl need l2 h2 ((tgt 10 l l2).take n) (by omega) gm gb gc l.length 0 K' (by omega) (by omega)
end Go.Proofs.Ytnkihggdohigiaa.Pure
