/- Which loads are taken: those that fit and are not barred, in the order of the number that tells how good they are, and of their places. -/
import Derived.Test.YtnkihggdohigiaaPlA
import Derived.Test.YtnkihggdohigiaaPlB
import Derived.Test.YtnkihggdohigiaaPx2
import Derived.Test.YtnkihggdohigiaaPx7
import Derived.Test.YtnkihggdohigiaaPx10
import Derived.KernelRfl
import Derived.Test.YtnkihggdohigiaaPx8
section

namespace Go.Proofs.Ytnkihggdohigiaa.Pure
open Go.RowKit Go.Sort Go.Proofs.Ytnkihggdohigiaa.P Go.Proofs.Ytnkihggdohigiaa.Fl Go.Proofs.YtnkihggdohigiaaW.PrintWords Go.Proofs.YtnkihggdohigiaaW.PrintLast Go.Proofs.YtnkihggdohigiaaW.PrintMore
set_option linter.unusedVariables false

theorem rd_at (L : List Int) (j : Nat) (h : j < L.length) : rd L (j : Int) = L[j] := by
  unfold rd
  rw [Int.toNat_natCast, List.getD_eq_getElem?_getD, List.getElem?_eq_getElem h]
  rfl
theorem w_up (j : Nat) (h : j < 1152921504606846976) : wrap64 ((j : Int) + 1) = ((j + 1 : Nat) : Int) := by unfold wrap64; omega
theorem index_at (l2 : List Int) (x : Int) (hl : l2.length < 1152921504606846976) : ∀ r i k, i + r = l2.length → r + 1 ≤ k → ∃ v, slices_Index_int_int.l0 k l2 x (l2.length : Int) (i : Int) = some v ∧ (v ≥ 0 ↔ x ∈ l2.drop i)
  | 0, i, k, h1, h2 => by
    obtain ⟨q, rfl⟩ : ∃ q, k = q + 1 := ⟨k - 1, by omega⟩
    refine ⟨-1, by rw [slices_Index_int_int.l0, if_neg (by omega)], ?_⟩
    rw [List.drop_of_length_le (by omega)]
    simp
  | r + 1, i, k, h1, h2 => by
    obtain ⟨q, rfl⟩ : ∃ q, k = q + 1 := ⟨k - 1, by omega⟩
    have hi : i < l2.length := by omega
    rw [slices_Index_int_int.l0, if_pos (by omega), if_pos (by omega), if_pos (by omega), rd_at l2 i hi, List.drop_eq_getElem_cons hi]
    by_cases c : x = l2[i]
    · refine ⟨(i : Int), by rw [if_pos c], ?_⟩
      rw [c]
      exact ⟨fun _ => List.mem_cons_self .., fun _ => by omega⟩
    · rw [if_neg c, w_up i (by omega)]
      obtain ⟨v, hv, hm⟩ := index_at l2 x hl r (i + 1) q (by omega) (by omega)
      refine ⟨v, hv, ?_⟩
      rw [hm, List.mem_cons]
      exact ⟨.inr, fun h => h.resolve_left c⟩
theorem contains_at (l2 : List Int) (x : Int) (hl : l2.length < 1152921504606846976) (k : Nat) (hk : l2.length + 1 ≤ k) : slices_Contains_int_int.f k l2 x = some (decide (x ∈ l2)) := by
  obtain ⟨v, hv, hm⟩ := index_at l2 x hl l2.length 0 k (by omega) hk
  unfold slices_Contains_int_int.f slices_Index_int_int.f
  rw [show (0 : Int) = ((0 : Nat) : Int) from rfl, hv, Option.bind_some]
  rw [List.drop_zero] at hm
  congr 1
  exact decide_eq_decide.2 hm

/-- fits, and is not barred -/
def okv (l : List S26) (l2 : List Int) (i : Nat) : Bool := fitv (rd_T26 l (i : Int)) && !decide ((i : Int) ∈ l2)
theorem pick_at (l : List S26) (l2 : List Int) (hl : l2.length < 1152921504606846976) (k : Nat) (hk : l2.length + 2 ≤ k) : ∀ (n i : Nat) (acc : List Int), place_Targets.pick k l l2 n acc (i : Int) = some (acc ++ ((List.range' i n).filter (okv l l2)).map Int.ofNat)
  | 0, i, acc => by rw [place_Targets.pick]; simp
  | n + 1, i, acc => by
    have e : ((i : Int) + 1) = ((i + 1 : Nat) : Int) := by omega
    rw [place_Targets.pick, fit_f _ k (by omega), Option.bind_some, List.range'_succ, contains_at l2 _ hl k (by omega), Option.bind_some, e]
    by_cases c : fitv (rd_T26 l (i : Int)) = true
    · rw [if_pos c]
      by_cases d : (i : Int) ∈ l2
      · rw [if_pos (decide_eq_true d), pick_at l l2 hl k hk n (i + 1), List.filter_cons_of_neg (by unfold okv; rw [c, decide_eq_true d]; decide)]
      · rw [if_neg (by rw [decide_eq_false d]; decide), pick_at l l2 hl k hk n (i + 1), List.filter_cons_of_pos (by unfold okv; rw [c, decide_eq_false d]; decide), List.map_cons, List.append_assoc]
        rfl
    · rw [if_neg c, pick_at l l2 hl k hk n (i + 1), List.filter_cons_of_neg (by unfold okv; rw [Bool.eq_false_iff.mpr c, Bool.false_and]; decide)]

/-- how good the load at a place is -/
def goodI (l : List S26) (i : Nat) : Nat := goodn (rd_T26 l (i : Int))
/-- better, or as good and ahead -/
def lessI (l : List S26) (x y : Nat) : Prop := goodI l x < goodI l y ∨ (goodI l x = goodI l y ∧ x < y)
def wfl (l : List S26) : Prop := ∀ y ∈ l, y.f2 < 18446744073709551616
theorem wfl_rd {l : List S26} (h : wfl l) {i : Nat} (hi : i < l.length) : (rd_T26 l (i : Int)).f2 < 18446744073709551616 := by
  have e : rd_T26 l (i : Int) = l[i] := by
    unfold rd_T26
    rw [Int.toNat_natCast, List.getD_eq_getElem?_getD, List.getElem?_eq_getElem hi]
    rfl
  rw [e]
  exact h _ (List.getElem_mem hi)
theorem ord_at {l : List S26} (h : wfl l) {x y : Nat} (hx : x < l.length) (hy : y < l.length) (k : Nat) (hk : 3 ≤ k) : place_Targets.ord k l (x : Int) (y : Int) = some (cmpN (goodI l x) (goodI l y)) := before_f _ _ (wfl_rd h hx) (wfl_rd h hy) k hk
theorem cmpN_lt (a b : Nat) : cmpN a b < 0 ↔ a < b := by
  unfold cmpN
  repeat' split
  all_goals omega
theorem cmpN_gt (a b : Nat) : cmpN a b > 0 ↔ b < a := by
  unfold cmpN
  repeat' split
  all_goals omega
def ltf (l : List S26) (x y : Nat) : Bool := decide (goodI l (x % l.length) < goodI l (y % l.length) ∨ (goodI l (x % l.length) = goodI l (y % l.length) ∧ x < y))
theorem swo_ltf (l : List S26) : SWO (ltf l) where
  irrefl x := decide_eq_false (by omega)
  trans x y z h1 h2 := by
    have h1 := of_decide_eq_true h1
    have h2 := of_decide_eq_true h2
    exact decide_eq_true (by omega)
  ntrans x y z h1 h2 := by
    have h1 := of_decide_eq_false h1
    have h2 := of_decide_eq_false h2
    exact decide_eq_false (by omega)
/-- all who may be taken, the best first -/
def tgt (k : Nat) (l : List S26) (l2 : List Int) : List Nat := (St.stab (ltOf (place_Targets.cmp k l)) ((List.range l.length).filter (okv l l2)).length ((List.range l.length).filter (okv l l2)).toArray).toList

theorem tgt_facts {l : List S26} (h : wfl l) (l2 : List Int) (k : Nat) (hk : 3 ≤ k) : (tgt k l l2).Pairwise (lessI l) ∧ (∀ x, x ∈ tgt k l l2 ↔ x < l.length ∧ okv l l2 x = true) ∧ (tgt k l l2).length = ((List.range l.length).filter (okv l l2)).length := by
  unfold tgt
  generalize hc : (List.range l.length).filter (okv l l2) = C
  have hmem : ∀ x, x ∈ C ↔ x < l.length ∧ okv l l2 x = true := by intro x; rw [← hc, List.mem_filter, List.mem_range]
  have hasc : C.Pairwise (· < ·) := by rw [← hc]; exact List.Pairwise.filter _ List.pairwise_lt_range
  clear hc
  have hagree : ∀ p q, p < q → q < C.toArray.size → ltOf (place_Targets.cmp k l) C.toArray[q]! C.toArray[p]! = ltf l C.toArray[q]! C.toArray[p]! := by
    intro p q h1 h2
    have h2' : q < C.length := by simpa using h2
    have eq : C.toArray[q]! = C[q] := by simp [h2']
    have ep : C.toArray[p]! = C[p]'(by omega) := by simp [show p < C.length by omega]
    rw [eq, ep]
    have hlt := List.pairwise_iff_getElem.1 hasc p q (by omega) h2' h1
    have hq := ((hmem _).1 (List.getElem_mem h2')).1
    have hp := ((hmem _).1 (List.getElem_mem (show p < C.length by omega))).1
    unfold ltOf ltf place_Targets.cmp
    rw [Nat.mod_eq_of_lt hq, Nat.mod_eq_of_lt hp, ord_at h hq hp k hk, Option.getD_some]
    refine decide_eq_decide.2 ?_
    rw [cmpN_lt]
    omega
  obtain ⟨hp, hs⟩ := stab_fine (swo_ltf l) C.toArray hagree
  have hcz : C.toArray.size = C.length := List.size_toArray
  have hz := hp.1
  rw [hcz] at hp hs hz
  generalize St.stab (ltOf (place_Targets.cmp k l)) C.length C.toArray = T at hp hs hz ⊢
  replace hz : T.size = C.length := hz
  have hperm : T.toList.Perm C := by
    have := hp.2.2
    have e1 : T.extract 0 C.length = T := by rw [← hz]; exact Array.extract_size
    have e2 : C.toArray.extract 0 C.length = C.toArray := by rw [show C.length = C.toArray.size by simp]; exact Array.extract_size
    rw [e1, e2] at this
    exact this
  refine ⟨?_, fun x => (hperm.mem_iff).trans (hmem x), hperm.length_eq⟩
  have hnd : T.toList.Nodup := (hperm.nodup_iff).2 (hasc.imp (fun h => Nat.ne_of_lt h))
  rw [List.pairwise_iff_getElem]
  intro i j hi hj hij
  have hi' : i < T.size := by simpa using hi
  have hj' : j < T.size := by simpa using hj
  have h1 := hs i j (Nat.zero_le _) hij (by omega)
  have ei : T[i]! = T.toList[i] := by rw [getElem!_pos T i hi']; rfl
  have ej : T[j]! = T.toList[j] := by rw [getElem!_pos T j hj']; rfl
  rw [ei, ej] at h1
  have hne : T.toList[i] ≠ T.toList[j] := List.pairwise_iff_getElem.1 hnd i j hi hj hij
  have mi := ((hmem _).1 ((hperm.mem_iff).1 (List.getElem_mem hi))).1
  have mj := ((hmem _).1 ((hperm.mem_iff).1 (List.getElem_mem hj))).1
  unfold ltf at h1
  rw [Nat.mod_eq_of_lt mi, Nat.mod_eq_of_lt mj] at h1
  have h1 := of_decide_eq_false h1
  unfold lessI
  omega

theorem targets_at {l : List S26} (h : wfl l) (hl : l.length < 1000000) (l2 : List Int) (h2 : l2.length < 1152921504606846976) (a1 : Int) : place_Targets.f l a1 l2 = some (((tgt (l2.length + 10) l l2).take (mn ((tgt (l2.length + 10) l l2).length : Int) (mx a1 0)).toNat).map Int.ofNat) := by
  obtain ⟨_, hm, hlen⟩ := tgt_facts h l2 (l2.length + 10) (by omega)
  unfold place_Targets.f place_Targets.fuel
  rw [if_pos ⟨by omega, fun x hx y hy => by rw [ord_at h hx hy _ (by omega)]; rfl⟩, show (0 : Int) = ((0 : Nat) : Int) from rfl, pick_at l l2 h2 _ (by omega), Option.bind_some, List.nil_append]
  have e : List.range' 0 l.length = List.range l.length := (List.range_eq_range' ..).symm
  have et : (((List.range l.length).filter (okv l l2)).map Int.ofNat).map Int.toNat = (List.range l.length).filter (okv l l2) := by
    rw [List.map_map]
    exact (List.map_congr_left (fun x _ => rfl)).trans (List.map_id _)
  unfold place_Targets.sorted
  rw [e, et, List.length_map]
  have hs : (tgt (l2.length + 10) l l2).map (fun y => ((y % l.length : Nat) : Int)) = (tgt (l2.length + 10) l l2).map Int.ofNat := List.map_congr_left (fun x hx => by rw [Nat.mod_eq_of_lt ((hm x).1 hx).1]; rfl)
  rw [hlen]
  unfold tgt at hs ⊢
  rw [hs, List.map_take]
/-- two lists in order with the same members are one -/
theorem one_order (l : List S26) : ∀ A B : List Nat, A.Pairwise (lessI l) → B.Pairwise (lessI l) → (∀ x, x ∈ A ↔ x ∈ B) → A = B
  | [], [], _, _, _ => rfl
  | [], b :: B, _, _, h => absurd ((h b).2 (List.mem_cons_self ..)) (by simp)
  | a :: A, [], _, _, h => absurd ((h a).1 (List.mem_cons_self ..)) (by simp)
  | a :: A, b :: B, ha, hb, h => by
    rw [List.pairwise_cons] at ha hb
    have irr : ∀ x, ¬ lessI l x x := by intro x; unfold lessI; omega
    have asy : ∀ x y, lessI l x y → ¬ lessI l y x := by intro x y; unfold lessI; omega
    have e : a = b := by
      rcases List.mem_cons.1 ((h a).1 (List.mem_cons_self ..)) with e | m1
      · exact e
      · rcases List.mem_cons.1 ((h b).2 (List.mem_cons_self ..)) with e | m2
        · exact e.symm
        · exact absurd (ha.1 b m2) (asy _ _ (hb.1 a m1))
    subst e
    rw [one_order l A B ha.2 hb.2 (fun x => ⟨fun hx => ?_, fun hx => ?_⟩)]
    · rcases List.mem_cons.1 ((h x).1 (List.mem_cons_of_mem _ hx)) with e | m
      · subst e; exact absurd (ha.1 _ hx) (irr _)
      · exact m
    · rcases List.mem_cons.1 ((h x).2 (List.mem_cons_of_mem _ hx)) with e | m
      · subst e; exact absurd (hb.1 _ hx) (irr _)
      · exact m
end Go.Proofs.Ytnkihggdohigiaa.Pure
end

section

namespace Go.Proofs.Ytnkihggdohigiaa.Pure
open Go.RowKit Go.Proofs.Ytnkihggdohigiaa.P Go.Proofs.Ytnkihggdohigiaa.Fl Go.Proofs.YtnkihggdohigiaaW.PrintWords Go.Proofs.YtnkihggdohigiaaW.PrintLast Go.Proofs.YtnkihggdohigiaaW.PrintMore
set_option linter.unusedVariables false

def exl : List S26 := [(⟨4616189618054758400, 4607182418800017408, 0⟩ : S26), (⟨0, 0, 0⟩ : S26), (⟨4620693217682128896, 4607182418800017408, 0⟩ : S26)]
theorem wfl_ex : wfl exl := by
  intro y hy
  unfold exl at hy
  simp only [List.mem_cons, List.mem_nil_iff, or_false] at hy
  rcases hy with rfl | rfl | rfl <;> decide
theorem tgt_ex : tgt 10 exl [] = [2, 0] := by
  obtain ⟨hp, hm, _⟩ := tgt_facts wfl_ex [] 10 (by omega)
  refine one_order exl _ _ hp ?_ ?_
  · rw [List.pairwise_cons]
    refine ⟨fun x hx => ?_, by simp⟩
    obtain rfl := List.mem_singleton.1 hx
    exact .inl (of_decide_eq_true (by kernel_rfl))
  · intro x
    rw [hm]
    have o0 : okv exl [] 0 = true := by kernel_rfl
    have o1 : okv exl [] 1 = false := by kernel_rfl
    have o2 : okv exl [] 2 = true := by kernel_rfl
    have hl : exl.length = 3 := rfl
    rw [hl]
    constructor
    · rintro ⟨h1, h2⟩
      rcases (show x = 0 ∨ x = 1 ∨ x = 2 by omega) with rfl | rfl | rfl
      · simp
      · rw [o1] at h2; cases h2
      · simp
    · intro h
      simp only [List.mem_cons, List.mem_nil_iff, or_false] at h
      rcases h with rfl | rfl
      · exact ⟨by omega, o2⟩
      · exact ⟨by omega, o0⟩
theorem targets_ex : place_Targets.f exl 2 [] = some [2, 0] := by
  rw [targets_at wfl_ex (by decide) [] (by decide) 2]
  rw [show ([] : List Int).length + 10 = 10 from rfl, tgt_ex]
  rfl
theorem ex22 : tabulariumlaw22_examples.f 8 = some true := by
  unfold tabulariumlaw22_examples.f
  rw [Option.bind_some]
  rw [show ([(⟨4616189618054758400, 4607182418800017408, 0⟩ : S26), (⟨0, 0, 0⟩ : S26), (⟨4620693217682128896, 4607182418800017408, 0⟩ : S26)] : List S26) = exl from rfl, targets_ex, Option.bind_some]
  kernel_rfl
theorem examples_at (k : Nat) (hk : 8 ≤ k) : tabulariumlaw22_examples.f k = some true := at_rounds tabulariumlaw22_examples.mono hk ex22
end Go.Proofs.Ytnkihggdohigiaa.Pure
end

section

namespace Go.Proofs.Ytnkihggdohigiaa.Pure
open Go.RowKit Go.Proofs.Ytnkihggdohigiaa.P Go.Proofs.Ytnkihggdohigiaa.Fl Go.Proofs.YtnkihggdohigiaaW.PrintWords Go.Proofs.YtnkihggdohigiaaW.PrintLast Go.Proofs.YtnkihggdohigiaaW.PrintMore
set_option linter.unusedVariables false

theorem numbers_loop (L : List Int) (hl : L.length < 1152921504606846976) : ∀ r i k, i + r = L.length → r + 1 ≤ k → tabulariumlaw22_numbers.l0 k L L ((i : Nat) : Int) = some true
  | 0, i, k, h1, h2 => by
    obtain ⟨q, rfl⟩ : ∃ q, k = q + 1 := ⟨k - 1, by omega⟩
    rw [tabulariumlaw22_numbers.l0, if_neg (by omega)]
  | r + 1, i, k, h1, h2 => by
    obtain ⟨q, rfl⟩ : ∃ q, k = q + 1 := ⟨k - 1, by omega⟩
    rw [tabulariumlaw22_numbers.l0, if_pos (by omega), if_pos (by omega), if_pos (by omega), if_pos rfl, w_up i (by omega)]
    exact numbers_loop L hl r (i + 1) q (by omega) (by omega)
theorem numbers_at (L : List Int) (hl : L.length < 1152921504606846976) (k : Nat) (hk : L.length + 1 ≤ k) : tabulariumlaw22_numbers.f k L L = some true := by
  unfold tabulariumlaw22_numbers.f
  rw [if_pos rfl]
  exact numbers_loop L hl L.length 0 k (by omega) hk
theorem fifty (n : Nat) : 0 ≤ mn (n : Int) 50 ∧ mn (n : Int) 50 ≤ (n : Int) ∧ (mn (n : Int) 50).toNat ≤ 50 := by
  unfold mn
  split <;> omega
theorem wfl_take {l : List S26} (h : ∀ y ∈ l, ((Lit.float .f64 y.f0).wf = true) ∧ ((Lit.float .f64 y.f1).wf = true) ∧ ((Lit.float .f64 y.f2).wf = true)) (n : Nat) : wfl (l.take n) := fun y hy => wf_lt (h y (List.mem_of_mem_take hy)).2.2
theorem tgt_le {l : List S26} (h : wfl l) (l2 : List Int) (k : Nat) (hk : 3 ≤ k) : (tgt k l l2).length ≤ l.length := by
  rw [(tgt_facts h l2 k hk).2.2]
  have := List.length_filter_le (okv l l2) (List.range l.length)
  rw [List.length_range] at this
  exact this
/-- the order does not hang on the rounds -/
theorem tgt_same {l : List S26} (h : wfl l) (l2 : List Int) (k k' : Nat) (hk : 3 ≤ k) (hk' : 3 ≤ k') : tgt k l l2 = tgt k' l l2 := by
  obtain ⟨p1, m1, _⟩ := tgt_facts h l2 k hk
  obtain ⟨p2, m2, _⟩ := tgt_facts h l2 k' hk'
  exact one_order l _ _ p1 p2 (fun x => (m1 x).trans (m2 x).symm)
/-- the targets, in one order for all needs -/
theorem targets_of {l : List S26} (h : wfl l) (hl : l.length < 1000000) (l2 : List Int) (h2 : l2.length < 1152921504606846976) (a1 : Int) : place_Targets.f l a1 l2 = some (((tgt 10 l l2).take (mn ((tgt 10 l l2).length : Int) (mx a1 0)).toNat).map Int.ofNat) := by
  rw [targets_at h hl l2 h2, tgt_same h l2 (l2.length + 10) 10 (by omega) (by omega)]
end Go.Proofs.Ytnkihggdohigiaa.Pure
end
