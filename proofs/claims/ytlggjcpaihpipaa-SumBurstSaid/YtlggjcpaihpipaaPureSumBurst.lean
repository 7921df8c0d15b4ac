/- The law SumBurst over plain functions: two texts that are unlike in at most four bytes that stand side by side have unlike sums. -/
import Derived.Test.YtlggjcpaihpipaaTurned
import Derived.Test.YtlggjcpaihpipaaPx22
namespace Go.Proofs.Ytlggjcpaihpipaa.Pure
open Go.RowKit Go.Proofs.Ytlggjcpaihpipaa.P Go.Proofs.Ytlggjcpaihpipaa.Sp Go.Proofs.Ytlggjcpaihpipaa.Crc Go.Proofs.YtlggjcpaihpipaaW.PrintWords Go.Proofs.YtlggjcpaihpipaaW.PrintLast Go.Proofs.YtlggjcpaihpipaaW.PrintMore
set_option linter.unusedVariables false

/-- the bytes that are put -/
def puts (z : List Int) (n : Nat) : List Int := (List.range n).map (fun j => nn (z.getD j 0) % 256)
theorem puts_length (z : List Int) (n : Nat) : (puts z n).length = n := by unfold puts; rw [List.length_map, List.length_range]
theorem puts_by (z : List Int) (n : Nat) : By (puts z n) := by
  intro x hx
  obtain ⟨j, _, rfl⟩ := List.mem_map.1 hx
  omega
theorem bset_form (l : List Int) (p : Nat) (z : List Int) : ∀ n, p + n ≤ l.length → bset l p z n = l.take p ++ puts z n ++ l.drop (p + n)
  | 0, h => by
    rw [bset]
    show l = l.take p ++ [] ++ l.drop (p + 0)
    rw [List.append_nil, Nat.add_zero, List.take_append_drop]
  | n + 1, h => by
    have hlen : (l.take p ++ puts z n).length = p + n := by rw [List.length_append, List.length_take, puts_length]; omega
    rw [bset, bset_form l p z n (by omega), List.set_append_right _ _ (by omega), hlen, Nat.sub_self]
    rw [List.drop_eq_getElem_cons (i := p + n) (by omega), List.set_cons_zero]
    have hp : puts z (n + 1) = puts z n ++ [nn (z.getD n 0) % 256] := by unfold puts; rw [List.range_succ, List.map_append]; rfl
    rw [hp]
    simp only [List.append_assoc, List.singleton_append, Nat.add_assoc]
theorem bset_by (l : List Int) (hl : By l) (p : Nat) (z : List Int) (n : Nat) (h : p + n ≤ l.length) : By (bset l p z n) := by
  rw [bset_form l p z n h]
  exact ((hl.take p).append (puts_by z n)).append (hl.drop _)
theorem bset_size (l : List Int) (p : Nat) (z : List Int) (n : Nat) : (strOfNums (bset l p z n)).size = l.length := by rw [strOfNums_size, bset_length]

theorem SumBurst : tabulariumlaw02_SumBurst.Pure := by
  intro s a1 z hs h1 _ _ _
  refine ⟨100, examples_at, ?_⟩
  by_cases c : s.toList = []
  · exact .inl c
  · have hz : 0 < s.size := by
      apply Nat.pos_of_ne_zero
      intro h
      apply c
      rw [ByteArray.toList_eq]
      apply List.eq_nil_of_length_eq_zero
      simpa using h
    have b0 : 0 ≤ nn a1 % (s.size : Int) := Int.emod_nonneg _ (by omega)
    have b1 := Int.emod_lt_of_pos (nn a1) (show 0 < (s.size : Int) by omega)
    obtain ⟨p, hp⟩ : ∃ p, p = (nn a1 % (s.size : Int)).toNat := ⟨_, rfl⟩
    rw [← hp]
    obtain ⟨n, hn⟩ : ∃ n, n = bmany z p s.size := ⟨_, rfl⟩
    rw [← hn]
    have hn4 : n ≤ 4 := by rw [hn]; unfold bmany; omega
    have hpn : p + n ≤ (bytesOf s).length := by rw [bytesOf_size, hn]; unfold bmany; omega
    have hb := bytesOf_strOfNums (bset_by _ (by_bytesOf s) p z n hpn)
    obtain ⟨tx, htx⟩ : ∃ tx, tx = strOfNums (bset (bytesOf s) p z n) := ⟨_, rfl⟩
    have hts : tx.size = s.size := by rw [htx, bset_size, bytesOf_size]
    rw [← htx] at hb ⊢
    refine .inr ⟨c, hz, _, _, sum_at tx (by omega), sum_at s (by omega), ?_⟩
    rw [beq_iff_eq, Bool.eq_iff_iff, beq_iff_eq, beq_iff_eq]
    constructor
    · intro h; rw [toList_inj h]
    · intro h
      have hc : csum tx = csum s := by omega
      unfold csum at hc
      rw [bset_form _ p z n hpn] at hb
      have e1 : nb tx = (nb s).take p ++ (puts z n).map Int.toNat ++ (nb s).drop (p + n) := by
        rw [nb_bytesOf tx, hb, List.map_append, List.map_append, nb_bytesOf s, List.map_take, List.map_drop]
      have e2 : nb s = (nb s).take p ++ ((nb s).drop p).take n ++ (nb s).drop (p + n) := by
        rw [List.append_assoc, ← List.drop_drop, List.take_append_drop, List.take_append_drop]
      have hl := nb_lt s
      have hnl : p + n ≤ (nb s).length := by rw [nb_size, ← bytesOf_size]; exact hpn
      have h3 : crc (nb s) = crc ((nb s).take p ++ ((nb s).drop p).take n ++ (nb s).drop (p + n)) := congrArg crc e2
      rw [e1, h3] at hc
      have h4 := crc_burst _ ((puts z n).map Int.toNat) (((nb s).drop p).take n) _ (fun c hc => hl c (List.mem_of_mem_take hc)) (fun c hc => by
          obtain ⟨x, hx, rfl⟩ := List.mem_map.1 hc
          have := puts_by z n x hx
          omega) (fun c hc => hl c (List.mem_of_mem_drop (List.mem_of_mem_take hc))) (fun c hc => hl c (List.mem_of_mem_drop hc))
        (by rw [List.length_map, puts_length, List.length_take, List.length_drop]; omega) (by rw [List.length_map, puts_length]; exact hn4) hc
      have e3 : nb tx = nb s := by rw [e1, h4, ← e2]
      rw [nb_ext e3]

end Go.Proofs.Ytlggjcpaihpipaa.Pure
