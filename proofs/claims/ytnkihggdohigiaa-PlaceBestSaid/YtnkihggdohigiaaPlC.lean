/- Which loads are taken: those that fit and are not barred, in the order of the number that tells how good they are, and of their places. -/
import Derived.Test.YtnkihggdohigiaaPlA
import Derived.Test.YtnkihggdohigiaaPlB
import Derived.Test.YtnkihggdohigiaaPx2
import Derived.Test.YtnkihggdohigiaaPx7
import Derived.Test.YtnkihggdohigiaaPx10
import Derived.KernelRfl
import Derived.Test.YtnkihggdohigiaaPx8
import Derived.Test.YtnkihggdohigiaaPx9
section

namespace Go.Proofs.Ytnkihggdohigiaa.Pure
open Go.RowKit Go.Sort Go.Proofs.Ytnkihggdohigiaa.P Go.Proofs.Ytnkihggdohigiaa.Fl Go.Proofs.YtnkihggdohigiaaW.PrintWords Go.Proofs.YtnkihggdohigiaaW.PrintLast Go.Proofs.YtnkihggdohigiaaW.PrintMore
set_option linter.unusedVariables false

theorem rd_at (L : List Int) (j : Nat) (h : j < L.length) : rd L (j : Int) = L[j] := by
  unfold rd
  rw [Int.toNat_natCast, List.getD_eq_getElem?_getD, List.getElem?_eq_getElem h]
  rfl
theorem w_up (j : Nat) (h : j < 1152921504606846976) : wrap64 ((j : Int) + 1) = ((j + 1 : Nat) : Int) := by unfold wrap64; omega
theorem index_at (l2 : List Int) (x : Int) (hl : l2.length < 1152921504606846976) : ∀ r i k, i + r = l2.length → r + 1 ≤ k → ∃ v, slices_Index_int_int.l0 k l2 x (l2.length : Int) (i : Int) = some v ∧ (v ≥ 0 ↔ x ∈ l2.drop i)
  | 0, i, k, h1, h2 => by
    obtain ⟨q, rfl⟩ : ∃ q, k = q + 1 := ⟨k - 1, by omega⟩
    refine ⟨-1, by rw [slices_Index_int_int.l0, if_neg (by omega)], ?_⟩
    rw [List.drop_of_length_le (by omega)]
    simp
  | r + 1, i, k, h1, h2 => by
    obtain ⟨q, rfl⟩ : ∃ q, k = q + 1 := ⟨k - 1, by omega⟩
    have hi : i < l2.length := by omega
    rw [slices_Index_int_int.l0, if_pos (by omega), if_pos (by omega), if_pos (by omega), rd_at l2 i hi, List.drop_eq_getElem_cons hi]
    by_cases c : x = l2[i]
    · refine ⟨(i : Int), by rw [if_pos c], ?_⟩
      rw [c]
      exact ⟨fun _ => List.mem_cons_self .., fun _ => by omega⟩
    · rw [if_neg c, w_up i (by omega)]
      obtain ⟨v, hv, hm⟩ := index_at l2 x hl r (i + 1) q (by omega) (by omega)
      refine ⟨v, hv, ?_⟩
      rw [hm, List.mem_cons]
      exact ⟨.inr, fun h => h.resolve_left c⟩
theorem contains_at (l2 : List Int) (x : Int) (hl : l2.length < 1152921504606846976) (k : Nat) (hk : l2.length + 1 ≤ k) : slices_Contains_int_int.f k l2 x = some (decide (x ∈ l2)) := by
  obtain ⟨v, hv, hm⟩ := index_at l2 x hl l2.length 0 k (by omega) hk
  unfold slices_Contains_int_int.f slices_Index_int_int.f
  rw [show (0 : Int) = ((0 : Nat) : Int) from rfl, hv, Option.bind_some]
  rw [List.drop_zero] at hm
  congr 1
  exact decide_eq_decide.2 hm

/-- fits, and is not barred -/
def okv (l : List S26) (l2 : List Int) (i : Nat) : Bool := fitv (rd_T26 l (i : Int)) && !decide ((i : Int) ∈ l2)
theorem pick_at (l : List S26) (l2 : List Int) (hl : l2.length < 1152921504606846976) (k : Nat) (hk : l2.length + 2 ≤ k) : ∀ (n i : Nat) (acc : List Int), place_Targets.pick k l l2 n acc (i : Int) = some (acc ++ ((List.range' i n).filter (okv l l2)).map Int.ofNat)
  | 0, i, acc => by rw [place_Targets.pick]; simp
  | n + 1, i, acc => by
    have e : ((i : Int) + 1) = ((i + 1 : Nat) : Int) := by omega
    rw [place_Targets.pick, fit_f _ k (by omega), Option.bind_some, List.range'_succ, contains_at l2 _ hl k (by omega), Option.bind_some, e]
    by_cases c : fitv (rd_T26 l (i : Int)) = true
    · rw [if_pos c]
      by_cases d : (i : Int) ∈ l2
      · rw [if_pos (decide_eq_true d), pick_at l l2 hl k hk n (i + 1), List.filter_cons_of_neg (by unfold okv; rw [c, decide_eq_true d]; decide)]
      · rw [if_neg (by rw [decide_eq_false d]; decide), pick_at l l2 hl k hk n (i + 1), List.filter_cons_of_pos (by unfold okv; rw [c, decide_eq_false d]; decide), List.map_cons, List.append_assoc]
        rfl
    · rw [if_neg c, pick_at l l2 hl k hk n (i + 1), List.filter_cons_of_neg (by unfold okv; rw [Bool.eq_false_iff.mpr c, Bool.false_and]; decide)]

/-- how good the load at a place is -/
def goodI (l : List S26) (i : Nat) : Nat := goodn (rd_T26 l (i : Int))
/-- better, or as good and ahead -/
def lessI (l : List S26) (x y : Nat) : Prop := goodI l x < goodI l y ∨ (goodI l x = goodI l y ∧ x < y)
def wfl (l : List S26) : Prop := ∀ y ∈ l, y.f2 < 18446744073709551616
theorem wfl_rd {l : List S26} (h : wfl l) {i : Nat} (hi : i < l.length) : (rd_T26 l (i : Int)).f2 < 18446744073709551616 := by
  have e : rd_T26 l (i : Int) = l[i] := by
    unfold rd_T26
    rw [Int.toNat_natCast, List.getD_eq_getElem?_getD, List.getElem?_eq_getElem hi]
    rfl
  rw [e]
  exact h _ (List.getElem_mem hi)
theorem ord_at {l : List S26} (h : wfl l) {x y : Nat} (hx : x < l.length) (hy : y < l.length) (k : Nat) (hk : 3 ≤ k) : place_Targets.ord k l (x : Int) (y : Int) = some (cmpN (goodI l x) (goodI l y)) := before_f _ _ (wfl_rd h hx) (wfl_rd h hy) k hk
theorem cmpN_lt (a b : Nat) : cmpN a b < 0 ↔ a < b := by
  unfold cmpN
  repeat' split
  all_goals omega
theorem cmpN_gt (a b : Nat) : cmpN a b > 0 ↔ b < a := by
  unfold cmpN
  repeat' split
  all_goals omega
def ltf (l : List S26) (x y : Nat) : Bool := decide (goodI l (x % l.length) < goodI l (y % l.length) ∨ (goodI l (x % l.length) = goodI l (y % l.length) ∧ x < y))
theorem swo_ltf (l : List S26) : SWO (ltf l) where
  irrefl x := decide_eq_false (by omega)
  trans x y z h1 h2 := by
    have h1 := of_decide_eq_true h1
    have h2 := of_decide_eq_true h2
    exact decide_eq_true (by omega)
  ntrans x y z h1 h2 := by
    have h1 := of_decide_eq_false h1
    have h2 := of_decide_eq_false h2
    exact decide_eq_false (by omega)
/-- all who may be taken, the best first -/
def tgt (k : Nat) (l : List S26) (l2 : List Int) : List Nat := (St.stab (ltOf (place_Targets.cmp k l)) ((List.range l.length).filter (okv l l2)).length ((List.range l.length).filter (okv l l2)).toArray).toList

theorem tgt_facts {l : List S26} (h : wfl l) (l2 : List Int) (k : Nat) (hk : 3 ≤ k) : (tgt k l l2).Pairwise (lessI l) ∧ (∀ x, x ∈ tgt k l l2 ↔ x < l.length ∧ okv l l2 x = true) ∧ (tgt k l l2).length = ((List.range l.length).filter (okv l l2)).length := by
  unfold tgt
  generalize hc : (List.range l.length).filter (okv l l2) = C
  have hmem : ∀ x, x ∈ C ↔ x < l.length ∧ okv l l2 x = true := by intro x; rw [← hc, List.mem_filter, List.mem_range]
  have hasc : C.Pairwise (· < ·) := by rw [← hc]; exact List.Pairwise.filter _ List.pairwise_lt_range
  clear hc
  have hagree : ∀ p q, p < q → q < C.toArray.size → ltOf (place_Targets.cmp k l) C.toArray[q]! C.toArray[p]! = ltf l C.toArray[q]! C.toArray[p]! := by
    intro p q h1 h2
    have h2' : q < C.length := by simpa using h2
    have eq : C.toArray[q]! = C[q] := by simp [h2']
    have ep : C.toArray[p]! = C[p]'(by omega) := by simp [show p < C.length by omega]
    rw [eq, ep]
    have hlt := List.pairwise_iff_getElem.1 hasc p q (by omega) h2' h1
    have hq := ((hmem _).1 (List.getElem_mem h2')).1
    have hp := ((hmem _).1 (List.getElem_mem (show p < C.length by omega))).1
    unfold ltOf ltf place_Targets.cmp
    rw [Nat.mod_eq_of_lt hq, Nat.mod_eq_of_lt hp, ord_at h hq hp k hk, Option.getD_some]
    refine decide_eq_decide.2 ?_
    rw [cmpN_lt]
    omega
  obtain ⟨hp, hs⟩ := stab_fine (swo_ltf l) C.toArray hagree
  have hcz : C.toArray.size = C.length := List.size_toArray
  have hz := hp.1
  rw [hcz] at hp hs hz
  generalize St.stab (ltOf (place_Targets.cmp k l)) C.length C.toArray = T at hp hs hz ⊢
  replace hz : T.size = C.length := hz
  have hperm : T.toList.Perm C := by
    have := hp.2.2
    have e1 : T.extract 0 C.length = T := by rw [← hz]; exact Array.extract_size
    have e2 : C.toArray.extract 0 C.length = C.toArray := by rw [show C.length = C.toArray.size by simp]; exact Array.extract_size
    rw [e1, e2] at this
    exact this
  refine ⟨?_, fun x => (hperm.mem_iff).trans (hmem x), hperm.length_eq⟩
  have hnd : T.toList.Nodup := (hperm.nodup_iff).2 (hasc.imp (fun h => Nat.ne_of_lt h))
  rw [List.pairwise_iff_getElem]
  intro i j hi hj hij
  have hi' : i < T.size := by simpa using hi
  have hj' : j < T.size := by simpa using hj
  have h1 := hs i j (Nat.zero_le _) hij (by omega)
  have ei : T[i]! = T.toList[i] := by rw [getElem!_pos T i hi']; rfl
  have ej : T[j]! = T.toList[j] := by rw [getElem!_pos T j hj']; rfl
  rw [ei, ej] at h1
  have hne : T.toList[i] ≠ T.toList[j] := List.pairwise_iff_getElem.1 hnd i j hi hj hij
  have mi := ((hmem _).1 ((hperm.mem_iff).1 (List.getElem_mem hi))).1
  have mj := ((hmem _).1 ((hperm.mem_iff).1 (List.getElem_mem hj))).1
  unfold ltf at h1
  rw [Nat.mod_eq_of_lt mi, Nat.mod_eq_of_lt mj] at h1
  have h1 := of_decide_eq_false h1
  unfold lessI
  omega

theorem targets_at {l : List S26} (h : wfl l) (hl : l.length < 1000000) (l2 : List Int) (h2 : l2.length < 1152921504606846976) (a1 : Int) : place_Targets.f l a1 l2 = some (((tgt (l2.length + 10) l l2).take (mn ((tgt (l2.length + 10) l l2).length : Int) (mx a1 0)).toNat).map Int.ofNat) := by
  obtain ⟨_, hm, hlen⟩ := tgt_facts h l2 (l2.length + 10) (by omega)
  unfold place_Targets.f place_Targets.fuel
  rw [if_pos ⟨by omega, fun x hx y hy => by rw [ord_at h hx hy _ (by omega)]; rfl⟩, show (0 : Int) = ((0 : Nat) : Int) from rfl, pick_at l l2 h2 _ (by omega), Option.bind_some, List.nil_append]
  have e : List.range' 0 l.length = List.range l.length := (List.range_eq_range' ..).symm
  have et : (((List.range l.length).filter (okv l l2)).map Int.ofNat).map Int.toNat = (List.range l.length).filter (okv l l2) := by
    rw [List.map_map]
    exact (List.map_congr_left (fun x _ => rfl)).trans (List.map_id _)
  unfold place_Targets.sorted
  rw [e, et, List.length_map]
  have hs : (tgt (l2.length + 10) l l2).map (fun y => ((y % l.length : Nat) : Int)) = (tgt (l2.length + 10) l l2).map Int.ofNat := List.map_congr_left (fun x hx => by rw [Nat.mod_eq_of_lt ((hm x).1 hx).1]; rfl)
  rw [hlen]
  unfold tgt at hs ⊢
  rw [hs, List.map_take]
/-- two lists in order with the same members are one -/
theorem one_order (l : List S26) : ∀ A B : List Nat, A.Pairwise (lessI l) → B.Pairwise (lessI l) → (∀ x, x ∈ A ↔ x ∈ B) → A = B
  | [], [], _, _, _ => rfl
  | [], b :: B, _, _, h => absurd ((h b).2 (List.mem_cons_self ..)) (by simp)
  | a :: A, [], _, _, h => absurd ((h a).1 (List.mem_cons_self ..)) (by simp)
  | a :: A, b :: B, ha, hb, h => by
    rw [List.pairwise_cons] at ha hb
    have irr : ∀ x, ¬ lessI l x x := by intro x; unfold lessI; omega
    have asy : ∀ x y, lessI l x y → ¬ lessI l y x := by intro x y; unfold lessI; omega
    have e : a = b := by
      rcases List.mem_cons.1 ((h a).1 (List.mem_cons_self ..)) with e | m1
      · exact e
      · rcases List.mem_cons.1 ((h b).2 (List.mem_cons_self ..)) with e | m2
        · exact e.symm
        · exact absurd (ha.1 b m2) (asy _ _ (hb.1 a m1))
    subst e
    rw [one_order l A B ha.2 hb.2 (fun x => ⟨fun hx => ?_, fun hx => ?_⟩)]
    · rcases List.mem_cons.1 ((h x).1 (List.mem_cons_of_mem _ hx)) with e | m
      · subst e; exact absurd (ha.1 _ hx) (irr _)
      · exact m
    · rcases List.mem_cons.1 ((h x).2 (List.mem_cons_of_mem _ hx)) with e | m
      · subst e; exact absurd (hb.1 _ hx) (irr _)
      · exact m
end Go.Proofs.Ytnkihggdohigiaa.Pure
end

section

namespace Go.Proofs.Ytnkihggdohigiaa.Pure
open Go.RowKit Go.Proofs.Ytnkihggdohigiaa.P Go.Proofs.Ytnkihggdohigiaa.Fl Go.Proofs.YtnkihggdohigiaaW.PrintWords Go.Proofs.YtnkihggdohigiaaW.PrintLast Go.Proofs.YtnkihggdohigiaaW.PrintMore
set_option linter.unusedVariables false

def exl : List S26 := [(⟨4616189618054758400, 4607182418800017408, 0⟩ : S26), (⟨0, 0, 0⟩ : S26), (⟨4620693217682128896, 4607182418800017408, 0⟩ : S26)]
theorem wfl_ex : wfl exl := by
  intro y hy
  unfold exl at hy
  simp only [List.mem_cons, List.mem_nil_iff, or_false] at hy
  rcases hy with rfl | rfl | rfl <;> decide
theorem tgt_ex : tgt 10 exl [] = [2, 0] := by
  obtain ⟨hp, hm, _⟩ := tgt_facts wfl_ex [] 10 (by omega)
  refine one_order exl _ _ hp ?_ ?_
  · rw [List.pairwise_cons]
    refine ⟨fun x hx => ?_, by simp⟩
    obtain rfl := List.mem_singleton.1 hx
    exact .inl (of_decide_eq_true (by kernel_rfl))
  · intro x
    rw [hm]
    have o0 : okv exl [] 0 = true := by kernel_rfl
    have o1 : okv exl [] 1 = false := by kernel_rfl
    have o2 : okv exl [] 2 = true := by kernel_rfl
    have hl : exl.length = 3 := rfl
    rw [hl]
    constructor
    · rintro ⟨h1, h2⟩
      rcases (show x = 0 ∨ x = 1 ∨ x = 2 by omega) with rfl | rfl | rfl
      · simp
      · rw [o1] at h2; cases h2
      · simp
    · intro h
      simp only [List.mem_cons, List.mem_nil_iff, or_false] at h
      rcases h with rfl | rfl
      · exact ⟨by omega, o2⟩
      · exact ⟨by omega, o0⟩
theorem targets_ex : place_Targets.f exl 2 [] = some [2, 0] := by
  rw [targets_at wfl_ex (by decide) [] (by decide) 2]
  rw [show ([] : List Int).length + 10 = 10 from rfl, tgt_ex]
  rfl
theorem ex22 : tabulariumlaw22_examples.f 8 = some true := by
  unfold tabulariumlaw22_examples.f
  rw [Option.bind_some]
  rw [show ([(⟨4616189618054758400, 4607182418800017408, 0⟩ : S26), (⟨0, 0, 0⟩ : S26), (⟨4620693217682128896, 4607182418800017408, 0⟩ : S26)] : List S26) = exl from rfl, targets_ex, Option.bind_some]
  kernel_rfl
theorem examples_at (k : Nat) (hk : 8 ≤ k) : tabulariumlaw22_examples.f k = some true := at_rounds tabulariumlaw22_examples.mono hk ex22
end Go.Proofs.Ytnkihggdohigiaa.Pure
end

section

namespace Go.Proofs.Ytnkihggdohigiaa.Pure
open Go.RowKit Go.Proofs.Ytnkihggdohigiaa.P Go.Proofs.Ytnkihggdohigiaa.Fl Go.Proofs.YtnkihggdohigiaaW.PrintWords Go.Proofs.YtnkihggdohigiaaW.PrintLast Go.Proofs.YtnkihggdohigiaaW.PrintMore
set_option linter.unusedVariables false

theorem numbers_loop (L : List Int) (hl : L.length < 1152921504606846976) : ∀ r i k, i + r = L.length → r + 1 ≤ k → tabulariumlaw22_numbers.l0 k L L ((i : Nat) : Int) = some true
  | 0, i, k, h1, h2 => by
    obtain ⟨q, rfl⟩ : ∃ q, k = q + 1 := ⟨k - 1, by omega⟩
    rw [tabulariumlaw22_numbers.l0, if_neg (by omega)]
  | r + 1, i, k, h1, h2 => by
    obtain ⟨q, rfl⟩ : ∃ q, k = q + 1 := ⟨k - 1, by omega⟩
    rw [tabulariumlaw22_numbers.l0, if_pos (by omega), if_pos (by omega), if_pos (by omega), if_pos rfl, w_up i (by omega)]
    exact numbers_loop L hl r (i + 1) q (by omega) (by omega)
theorem numbers_at (L : List Int) (hl : L.length < 1152921504606846976) (k : Nat) (hk : L.length + 1 ≤ k) : tabulariumlaw22_numbers.f k L L = some true := by
  unfold tabulariumlaw22_numbers.f
  rw [if_pos rfl]
  exact numbers_loop L hl L.length 0 k (by omega) hk
theorem fifty (n : Nat) : 0 ≤ mn (n : Int) 50 ∧ mn (n : Int) 50 ≤ (n : Int) ∧ (mn (n : Int) 50).toNat ≤ 50 := by
  unfold mn
  split <;> omega
theorem needs' (n : Nat) (a : Int) : 0 ≤ mn (n : Int) (mx a 0) ∧ mn (n : Int) (mx a 0) ≤ (n : Int) ∧ (mn (n : Int) (mx a 0)).toNat ≤ n := by
  unfold mn mx
  repeat' split
  all_goals omega
theorem wfl_take {l : List S26} (h : ∀ y ∈ l, ((Lit.float .f64 y.f0).wf = true) ∧ ((Lit.float .f64 y.f1).wf = true) ∧ ((Lit.float .f64 y.f2).wf = true)) (n : Nat) : wfl (l.take n) := fun y hy => wf_lt (h y (List.mem_of_mem_take hy)).2.2
theorem tgt_le {l : List S26} (h : wfl l) (l2 : List Int) (k : Nat) (hk : 3 ≤ k) : (tgt k l l2).length ≤ l.length := by
  rw [(tgt_facts h l2 k hk).2.2]
  have := List.length_filter_le (okv l l2) (List.range l.length)
  rw [List.length_range] at this
  exact this
/-- the order does not hang on the rounds -/
theorem tgt_same {l : List S26} (h : wfl l) (l2 : List Int) (k k' : Nat) (hk : 3 ≤ k) (hk' : 3 ≤ k') : tgt k l l2 = tgt k' l l2 := by
  obtain ⟨p1, m1, _⟩ := tgt_facts h l2 k hk
  obtain ⟨p2, m2, _⟩ := tgt_facts h l2 k' hk'
  exact one_order l _ _ p1 p2 (fun x => (m1 x).trans (m2 x).symm)
/-- the targets, in one order for all needs -/
theorem targets_of {l : List S26} (h : wfl l) (hl : l.length < 1000000) (l2 : List Int) (h2 : l2.length < 1152921504606846976) (a1 : Int) : place_Targets.f l a1 l2 = some (((tgt 10 l l2).take (mn ((tgt 10 l l2).length : Int) (mx a1 0)).toNat).map Int.ofNat) := by
  rw [targets_at h hl l2 h2, tgt_same h l2 (l2.length + 10) 10 (by omega) (by omega)]
end Go.Proofs.Ytnkihggdohigiaa.Pure
end

section

namespace Go.Proofs.Ytnkihggdohigiaa.Pure
open Go.RowKit Go.Proofs.Ytnkihggdohigiaa.P Go.Proofs.Ytnkihggdohigiaa.Fl Go.Proofs.YtnkihggdohigiaaW.PrintWords Go.Proofs.YtnkihggdohigiaaW.PrintLast Go.Proofs.YtnkihggdohigiaaW.PrintMore
set_option linter.unusedVariables false

theorem word_facts {w : Nat} (h : w ≤ 4607182418800017408) : rung w = w ∧ neg w = false ∧ key w = (w : Int) ∧ ¬ nan w := by
  have r : rung w = w := by unfold rung sw; omega
  have n : neg w = false := by
    unfold neg sw
    rw [Nat.div_eq_of_lt (by omega)]
    rfl
  refine ⟨r, n, ?_, ?_⟩
  · unfold key; rw [n, if_neg (by decide), r]
  · unfold nan inf; rw [r]; omega
theorem order_w {x y : Nat} (hx : x ≤ 4607182418800017408) (hy : y ≤ 4607182418800017408) : FloatKind.f64.format.order x y = some (compare (x : Int) (y : Int)) := by
  obtain ⟨_, _, kx, nx⟩ := word_facts hx
  obtain ⟨_, _, ky, ny⟩ := word_facts hy
  rw [order_key nx ny, kx, ky]
theorem minmax_w {x y : Nat} (hx : x ≤ 4607182418800017408) (hy : y ≤ 4607182418800017408) : (FloatKind.f64.format.order x y).isSome = true ∧ fmn x y = min x y ∧ fmx x y = max x y := by
  have o := order_w hx hy
  unfold fmn fmx
  rw [o]
  refine ⟨rfl, ?_⟩
  rcases Nat.lt_trichotomy x y with h | h | h
  · rw [cmp_lt (show (x : Int) < (y : Int) by omega)]
    exact ⟨by simp only; omega, by simp only; omega⟩
  · subst h
    rw [cmp_eq rfl]
    simp only [Nat.min_self, Nat.max_self]
    exact ⟨by split <;> rfl, by split <;> rfl⟩
  · rw [cmp_gt (show (y : Int) < (x : Int) by omega)]
    exact ⟨by simp only; omega, by simp only; omega⟩

/-- what is left of a number less a smaller one, rounded -/
theorem sub_rnd {x y : Nat} (hx : x ≤ 4607182418800017408) (h : y ≤ x) : ∃ r, FloatKind.f64.format.sub x y = some r ∧ r ≤ x ∧ Rnd 1074 (V x - V y) 1 r := by
  obtain ⟨rx, nx, _, _⟩ := word_facts hx
  obtain ⟨ry, ny, _, _⟩ := word_facts (Nat.le_trans h hx)
  obtain ⟨m, i, e1, v1, _, _⟩ := read_fin (x := x) (by unfold inf; omega)
  obtain ⟨n, j, e2, v2, _, _⟩ := read_fin (x := y) (by unfold inf; omega)
  rw [rx] at v1
  rw [ry] at v2
  rw [nx] at e1
  rw [ny] at e2
  have hV := V_le h
  obtain ⟨p, hp⟩ : ∃ p, p = min i j := ⟨_, rfl⟩
  have hm : m * 2 ^ (i - p) * 2 ^ p = V x := by rw [Nat.mul_assoc, ← Nat.pow_add, show i - p + p = i by omega, v1]
  have hn : n * 2 ^ (j - p) * 2 ^ p = V y := by rw [Nat.mul_assoc, ← Nat.pow_add, show j - p + p = j by omega, v2]
  have hle : n * 2 ^ (j - p) ≤ m * 2 ^ (i - p) := Nat.le_of_mul_le_mul_right (by rw [hm, hn]; exact hV) (Nat.pow_pos (by omega) : 0 < 2 ^ p)
  obtain ⟨r, h1, h2⟩ := nearest_exact false (m * 2 ^ (i - p) - n * 2 ^ (j - p)) p 1074 (by omega)
  have hR : Rnd 1074 (V x - V y) 1 r := by rw [← hm, ← hn, ← Nat.mul_sub_right_distrib]; exact h2
  refine ⟨r, ?_, ?_, hR⟩
  · unfold Ieee.Format.sub
    rw [e1, e2]
    simp only [Ieee.Datum.opposite, Ieee.Datum.sum, Option.map_some, Ieee.Format.write, signed_sg]
    have b : min ((i : Int) - 1074) ((j : Int) - 1074) = (p : Int) - 1074 := by omega
    have d1 : ((i : Int) - 1074 - ((p : Int) - 1074)).toNat = i - p := by omega
    have d2 : ((j : Int) - 1074 - ((p : Int) - 1074)).toNat = j - p := by omega
    rw [b, d1, d2]
    have t : sg false (m * 2 ^ (i - p)) + sg (!false) (n * 2 ^ (j - p)) = ((m * 2 ^ (i - p) - n * 2 ^ (j - p) : Nat) : Int) := by
      unfold sg
      rw [if_neg (by decide), if_pos (by decide)]
      omega
    rw [t, Int.natAbs_natCast]
    have sgn : (if (((m * 2 ^ (i - p) - n * 2 ^ (j - p) : Nat) : Int)) = 0 then (false && !false) else decide ((((m * 2 ^ (i - p) - n * 2 ^ (j - p) : Nat) : Int)) < 0)) = false := by
      split
      · rfl
      · exact decide_eq_false (by omega)
    rw [sgn, show (p : Int) - 1074 = (p : Int) - ((1074 : Nat) : Int) from rfl, h1]
    rfl
  · refine hR.mono (Rnd.own (T := 1074) (r := x) (by unfold inf; omega)) (by omega) (by omega) ?_
    unfold U
    rw [Nat.sub_self, Nat.pow_zero]
    omega
def subv (hi lo : Nat) : Nat := (FloatKind.f64.format.sub hi lo).getD 0
theorem sub_at {x y : Nat} (hx : x ≤ 4607182418800017408) (h : y ≤ x) : FloatKind.f64.format.sub x y = some (subv x y) ∧ subv x y ≤ x := by
  obtain ⟨r, e, hr, _⟩ := sub_rnd hx h
  unfold subv
  rw [e]
  exact ⟨rfl, hr⟩
theorem sub_self {x : Nat} (hx : x ≤ 4607182418800017408) : subv x x = 0 := by
  obtain ⟨r, e, _, hR⟩ := sub_rnd hx (Nat.le_refl x)
  unfold subv
  rw [e, Nat.sub_self] at *
  exact hR.unique (by omega) (rnd_zero 1074 1 (by omega))
theorem sub_more {x y x' y' : Nat} (hx : x' ≤ 4607182418800017408) (h : y ≤ x) (h1 : x ≤ x') (h2 : y' ≤ y) : subv x y ≤ subv x' y' := by
  obtain ⟨r, e, _, hR⟩ := sub_rnd (Nat.le_trans h1 hx) h
  obtain ⟨r', e', _, hR'⟩ := sub_rnd hx (show y' ≤ x' by omega)
  unfold subv
  rw [e, e']
  refine hR.mono hR' (by omega) (by omega) ?_
  have := V_le h1
  have := V_le h2
  have := V_le h
  omega

def mnl (a : Nat) (L : List S26) : Nat := L.foldl (fun m x => min m (shv x)) a
def mxl (a : Nat) (L : List S26) : Nat := L.foldl (fun m x => max m (shv x)) a
theorem mnl_le : ∀ (L : List S26) (a : Nat), mnl a L ≤ a
  | [], a => Nat.le_refl _
  | x :: L, a => Nat.le_trans (mnl_le L (min a (shv x))) (Nat.min_le_left _ _)
theorem mxl_ge : ∀ (L : List S26) (a : Nat), a ≤ mxl a L
  | [], a => Nat.le_refl _
  | x :: L, a => Nat.le_trans (Nat.le_max_left _ _) (mxl_ge L (max a (shv x)))
theorem mxl_le : ∀ (L : List S26) (a : Nat), a ≤ 4607182418800017408 → mxl a L ≤ 4607182418800017408
  | [], a, h => h
  | x :: L, a, h => mxl_le L (max a (shv x)) (Nat.max_le.2 ⟨h, shv_le x⟩)
theorem rd26_at (L : List S26) (j : Nat) (h : j < L.length) : rd_T26 L (j : Int) = L[j] := by
  unfold rd_T26
  rw [Int.toNat_natCast, List.getD_eq_getElem?_getD, List.getElem?_eq_getElem h]
  rfl
theorem spread_loop (L : List S26) (hl : L.length < 1000000) : ∀ r i k lo hi, i + r = L.length → r + 3 ≤ k → lo ≤ hi → hi ≤ 4607182418800017408 → place_Spread.l0 k lo hi L (L.length : Int) ((i : Nat) : Int) = some (subv (mxl hi (L.drop i)) (mnl lo (L.drop i)))
  | 0, i, k, lo, hi, h1, h2, h3, h4 => by
    obtain ⟨q, rfl⟩ : ∃ q, k = q + 1 := ⟨k - 1, by omega⟩
    rw [place_Spread.l0, if_neg (by omega), List.drop_of_length_le (by omega), (sub_at h4 h3).1]
    rw [if_pos (show (some (subv hi lo)).isSome = true from rfl)]
    rfl
  | r + 1, i, k, lo, hi, h1, h2, h3, h4 => by
    obtain ⟨q, rfl⟩ : ∃ q, k = q + 1 := ⟨k - 1, by omega⟩
    have hi' : i < L.length := by omega
    have hs := shv_le L[i]
    obtain ⟨o1, o2, _⟩ := minmax_w (Nat.le_trans h3 h4) hs
    obtain ⟨o3, _, o4⟩ := minmax_w h4 hs
    rw [place_Spread.l0, if_pos (by omega), if_pos (by omega), if_pos (by omega), rd26_at L i hi', share_f _ q (by omega), Option.bind_some, if_pos o1, Option.bind_some, if_pos o3, o2, o4, w_up i (by omega), spread_loop L hl r (i + 1) q _ _ (by omega) (by omega) (by omega) (Nat.max_le.2 ⟨h4, hs⟩), List.drop_eq_getElem_cons hi']
    rfl
/-- how unlike they are -/
def spv : List S26 → Nat
  | [] => 0
  | x :: L => subv (mxl (shv x) L) (mnl (shv x) L)
theorem spread_at (L : List S26) (hl : L.length < 1000000) (k : Nat) (hk : L.length + 3 ≤ k) : place_Spread.f k L = some (spv L) := by
  unfold place_Spread.f
  cases L with
  | nil => rw [if_pos (show ((([] : List S26).length : Nat) : Int) = 0 from rfl)]; rfl
  | cons x L =>
    have e0 : rd_T26 (x :: L) 0 = x := rfl
    rw [List.length_cons] at hl hk
    rw [if_neg (by rw [List.length_cons]; omega), if_pos (by rw [List.length_cons]; omega), e0, share_f x k (by omega), Option.bind_some, Option.bind_some, if_pos (by rw [List.length_cons]; omega), Option.bind_some]
    exact spread_loop L (by omega) L.length 0 k _ _ (by omega) (by omega) (Nat.le_refl _) (shv_le x)
end Go.Proofs.Ytnkihggdohigiaa.Pure
end
