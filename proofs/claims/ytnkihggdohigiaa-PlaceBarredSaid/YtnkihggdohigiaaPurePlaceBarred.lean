/- The law PlaceBarred over plain functions: who is barred beside changes the order of nobody else; with more that are needed the first ones stay. For every list of loads (the first fifty), every list of barred ones and every three ints. -/
import Derived.Test.YtnkihggdohigiaaPlC
import Derived.Test.YtnkihggdohigiaaPx23
namespace Go.Proofs.Ytnkihggdohigiaa.Pure
open Go.RowKit Go.Proofs.Ytnkihggdohigiaa.P Go.Proofs.Ytnkihggdohigiaa.Fl Go.Proofs.YtnkihggdohigiaaW.PrintWords Go.Proofs.YtnkihggdohigiaaW.PrintLast Go.Proofs.YtnkihggdohigiaaW.PrintMore
set_option linter.unusedVariables false

theorem barred_loop (one : Int) (c d : List Int) (hd : d.length ≤ 50) : ∀ r i k (acc : List Int), i + r = d.length → r + 60 ≤ k → acc.length ≤ i → acc ++ (d.drop i).filter (fun x => x != one) = c → tabulariumlaw22_PlaceBarred.l0 k one true c d true acc ((i : Nat) : Int) = some true
  | 0, i, k, acc, h1, h2, h3, h4 => by
    obtain ⟨q, rfl⟩ : ∃ q, k = q + 1 := ⟨k - 1, by omega⟩
    rw [List.drop_of_length_le (by omega), List.filter_nil, List.append_nil] at h4
    subst h4
    rw [tabulariumlaw22_PlaceBarred.l0, if_neg (by omega), numbers_at acc (by omega) q (by omega), Option.bind_some, if_pos rfl, if_pos rfl]
  | r + 1, i, k, acc, h1, h2, h3, h4 => by
    obtain ⟨q, rfl⟩ : ∃ q, k = q + 1 := ⟨k - 1, by omega⟩
    have hi : i < d.length := by omega
    rw [List.drop_eq_getElem_cons hi] at h4
    rw [tabulariumlaw22_PlaceBarred.l0, if_pos (by omega), if_pos (by omega), rd_at d i hi, w_up i (by omega)]
    by_cases e : d[i] = one
    · rw [if_pos e]
      rw [List.filter_cons_of_neg (by simp [e])] at h4
      exact barred_loop one c d hd r (i + 1) q acc (by omega) (by omega) (by omega) h4
    · rw [if_neg e, if_pos (by omega)]
      rw [List.filter_cons_of_pos (by simp [e])] at h4
      exact barred_loop one c d hd r (i + 1) q (acc ++ [d[i]]) (by omega) (by omega) (by rw [List.length_append, List.length_singleton]; omega) (by rw [List.append_assoc]; exact h4)

theorem bar_more {l : List S26} (h : wfl l) (l2 : List Int) (one : Int) : tgt 10 l (l2 ++ [one]) = (tgt 10 l l2).filter (fun i : Nat => (i : Int) != one) := by
  obtain ⟨p1, m1, _⟩ := tgt_facts h (l2 ++ [one]) 10 (by omega)
  obtain ⟨p2, m2, _⟩ := tgt_facts h l2 10 (by omega)
  refine one_order l _ _ p1 (List.Pairwise.filter _ p2) (fun x => ?_)
  rw [m1, List.mem_filter, m2]
  unfold okv
  simp only [List.mem_append, List.mem_singleton, Bool.and_eq_true, Bool.not_eq_true', decide_eq_false_iff_not, bne_iff_ne, ne_eq, not_or]
  constructor
  · rintro ⟨a, b, c, d⟩; exact ⟨⟨a, b, c⟩, d⟩
  · rintro ⟨⟨a, b, c⟩, d⟩; exact ⟨a, b, c, d⟩

theorem int_range {n : Int} (h : (Lit.int .i64 n).wf = true) : -9223372036854775808 ≤ n ∧ n ≤ 9223372036854775807 := by
  simpa [Lit.wf, IntKind.min, IntKind.max, IntKind.signed, IntKind.bits] using h
theorem whole (n m : Nat) (h : n ≤ m) : (mn (n : Int) (mx (m : Int) 0)).toNat = n := by
  unfold mn mx
  repeat' split
  all_goals omega
theorem needs (n : Nat) (a b : Int) (h : a ≤ b) : (mn (n : Int) (mx a 0)).toNat ≤ (mn (n : Int) (mx b 0)).toNat ∧ (mn (n : Int) (mx a 0)).toNat ≤ n ∧ (mn (n : Int) (mx b 0)).toNat ≤ n := by
  unfold mn mx
  repeat' split
  all_goals omega

theorem barred_j0 {l : List S26} (h : wfl l) (hl : l.length ≤ 50) (a1 a2 : Int) (l3 : List Int) (one : Int) (h3 : l3.length * 8 ≤ 140737488351232) (ha : -9223372036854775808 ≤ a1) (ha2 : a1 ≤ 1000) (hb : 0 ≤ a2) (hb2 : a2 ≤ 1000) : tabulariumlaw22_PlaceBarred.j0 200 l a1 a2 l3 one true false = some true := by
  have hle := tgt_le h l3 10 (by omega)
  have hle2 := tgt_le h (l3 ++ [one]) 10 (by omega)
  have hw : wrap64 (a1 + a2) = a1 + a2 := by unfold wrap64; omega
  obtain ⟨n1, n2, n3⟩ := needs (tgt 10 l l3).length a1 (a1 + a2) (by omega)
  have hla : (l3 ++ [one]).length < 1152921504606846976 := by rw [List.length_append, List.length_singleton]; omega
  rw [tabulariumlaw22_PlaceBarred.j0, if_neg (by decide), hw, targets_of h (by omega) l3 (by omega), Option.bind_some, targets_of h (by omega) l3 (by omega), Option.bind_some, if_pos (by rw [List.length_nil]; omega), Option.bind_some, List.nil_append, if_pos (by omega), targets_of h (by omega) _ hla, Option.bind_some, targets_of h (by omega) l3 (by omega), Option.bind_some]
  generalize (mn ((tgt 10 l l3).length : Int) (mx a1 0)).toNat = p at n1 n2 ⊢
  generalize (mn ((tgt 10 l l3).length : Int) (mx (a1 + a2) 0)).toNat = q at n1 n3 ⊢
  rw [whole _ _ hle, whole _ _ hle2, List.take_length, List.take_length]
  have lp : (((tgt 10 l l3).take p).map Int.ofNat).length = p := by rw [List.length_map, List.length_take]; omega
  have lq : (((tgt 10 l l3).take q).map Int.ofNat).length = q := by rw [List.length_map, List.length_take]; omega
  rw [lp, lq, if_neg (by omega), if_pos (by omega), if_pos (by omega), Int.toNat_natCast, ← List.map_take, List.take_take, Nat.min_eq_left n1, numbers_at _ (by rw [lp]; omega) 199 (by rw [lp]; omega), Option.bind_some]
  have hlen : ((tgt 10 l l3).map Int.ofNat).length = (tgt 10 l l3).length := List.length_map ..
  refine barred_loop one _ _ (by rw [hlen]; omega) ((tgt 10 l l3).map Int.ofNat).length 0 199 [] (by omega) (by rw [hlen]; omega) (by rw [List.length_nil]; omega) ?_
  rw [List.nil_append, List.drop_zero, bar_more h l3 one, List.filter_map]
  rfl

theorem PlaceBarred : tabulariumlaw22_PlaceBarred.Pure := by
  intro l0 a1 a2 l3 a4 w0 w1 w2 w3 w4 w5 w6 w7 w8
  refine ⟨200, ?_⟩
  obtain ⟨f0, f1, f2⟩ := fifty l0.length
  have hl : (l0.take (mn (l0.length : Int) 50).toNat).length ≤ 50 := by rw [List.length_take]; omega
  have hw := wfl_take w2 (mn (l0.length : Int) 50).toNat
  unfold tabulariumlaw22_PlaceBarred.f
  rw [examples_at 200 (by omega), Option.bind_some, if_pos f0, if_pos f1, Option.bind_some]
  generalize l0.take (mn (l0.length : Int) 50).toNat = l at hl hw
  have jt : tabulariumlaw22_PlaceBarred.j0 200 l a1 a2 l3 a4 true true = some true := by rw [tabulariumlaw22_PlaceBarred.j0, if_pos rfl]
  by_cases c1 : a1 > 1000
  · rw [if_pos c1]; exact jt
  · rw [if_neg c1]
    by_cases c2 : a2 > 1000
    · rw [if_pos c2]; exact jt
    · rw [if_neg c2]
      by_cases c3 : a2 < 0
      · rw [decide_eq_true c3]; exact jt
      · rw [decide_eq_false c3]
        exact barred_j0 hw hl a1 a2 l3 a4 w6 (int_range w3).1 (by omega) (by omega) (by omega)
end Go.Proofs.Ytnkihggdohigiaa.Pure
