/- The law SumParts over plain functions: the chunks of two texts, the first of which is as long as some whole chunks, are those of both together; a byte that is another one makes one chunk another one. -/
import Derived.Test.YtlggjcpaihpipaaTurned
import Derived.Test.YtlggjcpaihpipaaPx22
namespace Go.Proofs.Ytlggjcpaihpipaa.Pure
open Go.RowKit Go.Proofs.Ytlggjcpaihpipaa.P Go.Proofs.Ytlggjcpaihpipaa.Sp Go.Proofs.Ytlggjcpaihpipaa.Crc Go.Proofs.YtlggjcpaihpipaaW.PrintWords Go.Proofs.YtlggjcpaihpipaaW.PrintLast Go.Proofs.YtlggjcpaihpipaaW.PrintMore
set_option linter.unusedVariables false

theorem chs_append (n : Nat) : ∀ (l m : List Nat), l.length = 8 * n → chs (l ++ m) = chs l ++ chs m := by
  induction n with
  | zero =>
    intro l m h
    obtain rfl : l = [] := List.eq_nil_of_length_eq_zero (by omega)
    rw [chs_nil, List.nil_append, List.nil_append]
  | succ n ih =>
    intro l m h
    rw [chs_cons (by rw [List.length_append]; omega), chs_cons (l := l) (by omega), List.take_append_of_le_length (by omega), List.drop_append_of_le_length (by omega), ih _ _ (by rw [List.length_drop]; omega)]
    rfl
theorem badR_same : ∀ (l : List Int) (i : Nat), badR l l i = -1
  | [], i => by rw [badR]
  | a :: l, i => by rw [badR, if_pos rfl]; exact badR_same l (i + 1)
theorem bad_turned (n : Nat) : ∀ (l : List Nat) (i x k : Nat), l.length ≤ n → i < l.length → (∀ c ∈ l, c < 256) → x < 256 → x ≠ l.getD i 0 → badR (chs (l.set i x)) (chs l) k = ((k + i / 8 : Nat) : Int) := by
  induction n with
  | zero => intro l i x k hl hi; omega
  | succ n ih =>
    intro l i x k hl hi hb hx hne
    rw [chs_cons (l := l) (by omega), chs_cons (l := l.set i x) (by rw [List.length_set]; omega), badR]
    by_cases c : i < 8
    · have ht : (l.set i x).take 8 = (l.take 8).set i x := List.take_set
      have hi8 : i < (l.take 8).length := by rw [List.length_take]; omega
      have h0 : l.getD i 0 = (l.take 8).getD i 0 := by
        rw [List.getD_eq_getElem?_getD, List.getD_eq_getElem?_getD, List.getElem?_take_of_lt c]
      rw [if_neg, Nat.div_eq_of_lt c, Nat.add_zero]
      intro e
      rw [ht] at e
      have e2 : crc ((l.take 8).set i x) = crc (l.take 8) := by omega
      have hb8 : ∀ c ∈ l.take 8, c < 256 := fun c hc => hb c (List.mem_of_mem_take hc)
      have f1 : (l.take 8).set i x = (l.take 8).take i ++ [x] ++ (l.take 8).drop (i + 1) := by
        rw [List.set_eq_take_append_cons_drop, if_pos hi8, List.append_assoc, List.singleton_append]
      have f2 : l.take 8 = (l.take 8).take i ++ [(l.take 8).getD i 0] ++ (l.take 8).drop (i + 1) := by
        have h := List.take_append_drop i (l.take 8)
        rw [List.drop_eq_getElem_cons hi8] at h
        rw [List.getD_eq_getElem?_getD, List.getElem?_eq_getElem hi8, Option.getD_some, List.append_assoc, List.singleton_append]
        exact h.symm
      have f3 : crc (l.take 8) = crc ((l.take 8).take i ++ [(l.take 8).getD i 0] ++ (l.take 8).drop (i + 1)) := congrArg crc f2
      rw [f1, f3] at e2
      have hy : (l.take 8).getD i 0 < 256 := by
        refine hb8 _ ?_
        rw [List.getD_eq_getElem?_getD, List.getElem?_eq_getElem hi8]
        exact List.getElem_mem hi8
      have h := crc_burst _ [x] [(l.take 8).getD i 0] _ (fun c hc => hb8 c (List.mem_of_mem_take hc)) (by simpa using hx) (by simpa using hy) (fun c hc => hb8 c (List.mem_of_mem_drop hc)) rfl (by simp) e2
      simp only [List.cons.injEq, and_true] at h
      exact hne (h.trans h0.symm)
    · have ht : (l.set i x).take 8 = l.take 8 := by rw [List.take_set, List.set_eq_of_length_le]; rw [List.length_take]; omega
      have hd : (l.set i x).drop 8 = (l.drop 8).set (i - 8) x := by rw [List.drop_set, if_neg c]
      rw [ht, if_pos rfl, hd, ih (l.drop 8) (i - 8) x (k + 1) (by rw [List.length_drop]; omega) (by rw [List.length_drop]; omega) (fun c hc => hb c (List.mem_of_mem_drop hc)) hx (by
        rw [List.getD_eq_getElem?_getD, List.getElem?_drop, show 8 + (i - 8) = i by omega, ← List.getD_eq_getElem?_getD]; exact hne)]
      omega
theorem nb_turn (b : ByteArray) {i : Nat} {m : Int} (hi : i < b.size) (hm : 1 ≤ m ∧ m < 256) : ∃ x, x < 256 ∧ x ≠ (nb b).getD i 0 ∧ nb (turnAt b i m) = (nb b).set i x := by
  have hl : i < (bytesOf b).length := by rw [bytesOf_size]; exact hi
  have hy := by_get (by_bytesOf b) hl
  have hx := xor_u8 hy hm
  refine ⟨(Go.bits .xor .u8 ((bytesOf b).getD i 0) m).toNat, by omega, ?_, ?_⟩
  · have : (nb b).getD i 0 = ((bytesOf b).getD i 0).toNat := by
      rw [nb_bytesOf, List.getD_eq_getElem?_getD, List.getElem?_map, List.getD_eq_getElem?_getD, List.getElem?_eq_getElem hl]
      rfl
    omega
  · rw [nb_bytesOf, bytes_turn b hi hm, nb_bytesOf b, List.map_set]

theorem SumParts : tabulariumlaw02_SumParts.Pure := by
  intro s t a2 a3 hs ht h2 h3
  have hn2 := nn_range h2
  have hn3 := nn_range h3
  have e1 : mn (s.size : Int) 500 ≤ 500 ∧ mn (s.size : Int) 500 ≤ s.size ∧ 0 ≤ mn (s.size : Int) 500 := by unfold mn; split <;> omega
  have e2 : mn (t.size : Int) 500 ≤ 500 ∧ mn (t.size : Int) 500 ≤ t.size ∧ 0 ≤ mn (t.size : Int) 500 := by unfold mn; split <;> omega
  obtain ⟨i, hi⟩ : ∃ i, i = mn (s.size : Int) 500 := ⟨_, rfl⟩
  obtain ⟨j, hj⟩ : ∃ j, j = mn (t.size : Int) 500 := ⟨_, rfl⟩
  rw [← hi] at e1
  rw [← hj] at e2
  refine ⟨2000, ?_⟩
  unfold tabulariumlaw02_SumParts.f
  rw [← hi, ← hj, at_rounds tabulariumlaw02_examples.mono (show 100 ≤ 2000 by omega) examples_at, Option.bind_some, if_pos (by omega), if_pos (by omega), if_pos (by omega), if_pos (by omega)]
  obtain ⟨S, hS⟩ : ∃ S, S = s.extract 0 (i / 8 * 8).toNat := ⟨_, rfl⟩
  obtain ⟨T, hT⟩ : ∃ T, T = t.extract 0 j.toNat := ⟨_, rfl⟩
  have zS : S.size = (i / 8 * 8).toNat := by rw [hS, ByteArray.size_extract]; omega
  have zT : T.size = j.toNat := by rw [hT, ByteArray.size_extract]; omega
  rw [← hS, ← hT]
  have lS := chs_len (nb S)
  have lT := chs_len (nb T)
  rw [nb_size] at lS lT
  rw [chunks_at S (by omega) 2000 (by omega), Option.bind_some, chunks_at T (by omega) 2000 (by omega), Option.bind_some, if_pos (by omega), chunks_at (S ++ T) (by rw [ByteArray.size_append]; omega) 2000 (by rw [ByteArray.size_append]; omega), Option.bind_some]
  rw [if_pos (by simp; omega), Option.bind_some, List.nil_append, if_pos (by omega), nb_append, chs_append ((i / 8).toNat) (nb S) (nb T) (by rw [nb_size]; omega)]
  rw [sums_at _ _ (by rw [List.length_append]; omega) 2000 (by rw [List.length_append]; omega), Option.bind_some, decide_eq_true rfl]
  by_cases c : (S.size : Int) = 0
  · rw [if_pos c]
    rfl
  · rw [if_neg c]
    have b0 : 0 ≤ nn a2 % (S.size : Int) := Int.emod_nonneg _ c
    have b1 := Int.emod_lt_of_pos (nn a2) (show 0 < (S.size : Int) by omega)
    obtain ⟨p, hp⟩ : ∃ p : Nat, nn a2 % (S.size : Int) = (p : Int) := ⟨_, (Int.toNat_of_nonneg b0).symm⟩
    have hpS : p < S.size := by omega
    have hm : 1 ≤ 1 + nn a3 % 255 ∧ 1 + nn a3 % 255 < 256 := by omega
    have hz := turn_size S hpS hm
    obtain ⟨x, hx, hne, hnb⟩ := nb_turn S hpS hm
    unfold parts_tail
    rw [hp, Int.toNat_natCast, bad_at (turnAt S p (1 + nn a3 % 255)) (by omega) _ 2000 (by omega), bad_at S (by omega) _ 2000 (by omega), badR_same, hnb,
      bad_turned (nb S).length (nb S) p x 0 (Nat.le_refl _) (by rw [nb_size]; exact hpS) (nb_lt S) hx hne]
    rw [if_pos ⟨rfl, rfl, by rw [Nat.zero_add]; rfl, rfl⟩]

end Go.Proofs.Ytlggjcpaihpipaa.Pure
