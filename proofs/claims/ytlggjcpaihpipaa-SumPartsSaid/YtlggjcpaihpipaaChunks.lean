/- The sums of a text's chunks, and the first one that is another one: what package sum and its reference compute. -/
import Derived.Test.YtlggjcpaihpipaaSums
import Derived.Test.YtlggjcpaihpipaaPx2
import Derived.Test.YtlggjcpaihpipaaPx7
import Derived.Test.YtlggjcpaihpipaaPx3
import Derived.Test.YtlggjcpaihpipaaPx8
import Derived.Test.YtlggjcpaihpipaaPx5
import Derived.Test.YtlggjcpaihpipaaPx4
import Derived.KernelRfl
namespace Go.Proofs.Ytlggjcpaihpipaa.Sp
open Go.RowKit Go.Proofs.YtlggjcpaihpipaaW.PrintWords Go.Proofs.YtlggjcpaihpipaaW.PrintLast Go.Proofs.YtlggjcpaihpipaaW.PrintMore Go.Proofs.Ytlggjcpaihpipaa.P Go.Proofs.Ytlggjcpaihpipaa.Crc
set_option linter.unusedVariables false

theorem drop_none {α : Type} {l : List α} {i : Nat} (h : l.length ≤ i) : l.drop i = [] := List.drop_eq_nil_of_le h

/-- the sums of the parts of eight bytes each -/
def chs (l : List Nat) : List Int := if l.length = 0 then [] else ((crc (l.take 8) : Nat) : Int) :: chs (l.drop 8)
  termination_by l.length
  decreasing_by rw [List.length_drop]; omega

theorem chs_nil : chs [] = [] := by rw [chs, if_pos (show ([] : List Nat).length = 0 from rfl)]
theorem chs_cons {l : List Nat} (h : 0 < l.length) : chs l = ((crc (l.take 8) : Nat) : Int) :: chs (l.drop 8) := by rw [chs, if_neg (by omega)]

theorem chs_length (n : Nat) : ∀ l : List Nat, l.length ≤ n → (chs l).length = (l.length + 7) / 8 := by
  induction n with
  | zero =>
    intro l h
    obtain rfl : l = [] := List.eq_nil_of_length_eq_zero (by omega)
    rw [chs_nil]; rfl
  | succ n ih =>
    intro l h
    by_cases h0 : l.length = 0
    · obtain rfl : l = [] := List.eq_nil_of_length_eq_zero h0
      rw [chs_nil]; rfl
    · rw [chs_cons (by omega), List.length_cons, ih _ (by rw [List.length_drop]; omega), List.length_drop]
      omega

theorem chs_len (l : List Nat) : (chs l).length = (l.length + 7) / 8 := chs_length l.length l (Nat.le_refl _)

theorem csum_extract (s : ByteArray) (a b : Nat) : csum (s.extract a b) = crc (((nb s).drop a).take (b - a)) := by unfold csum; rw [nb_extract]

theorem extract_size_le (s : ByteArray) (a b : Nat) (n : Nat) (h : s.size ≤ n) : (s.extract a b).size ≤ n := by rw [ByteArray.size_extract]; omega

theorem chunks_loop (n : Nat) : ∀ (s : ByteArray) (acc : List Int) (k : Nat), s.size ≤ n → s.size ≤ 140737488355328 → acc.length + s.size < 8796093022209 * 16 → n < k →
    acc.length + (s.size + 7) / 8 < 35184372088832 → sum_Chunks.l0 k s acc = some (acc ++ chs (nb s)) := by
  induction n with
  | zero =>
    intro s acc k hn hb ha hk hl
    obtain ⟨k, rfl⟩ : ∃ m, k = m + 1 := ⟨k - 1, by omega⟩
    have h0 : nb s = [] := List.eq_nil_of_length_eq_zero (by rw [nb_size]; omega)
    have h1 : s.toList = [] := by rw [ByteArray.toList_eq]; exact List.eq_nil_of_length_eq_zero (by rw [data_length]; omega)
    simp only [sum_Chunks.l0]
    rw [if_pos h1, h0, chs_nil, List.append_nil]
  | succ n ih =>
    intro s acc k hn hb ha hk hl
    obtain ⟨k, rfl⟩ : ∃ m, k = m + 1 := ⟨k - 1, by omega⟩
    by_cases h0 : s.size = 0
    · have h0' : nb s = [] := List.eq_nil_of_length_eq_zero (by rw [nb_size]; omega)
      have h1 : s.toList = [] := by rw [ByteArray.toList_eq]; exact List.eq_nil_of_length_eq_zero (by rw [data_length]; omega)
      simp only [sum_Chunks.l0]
      rw [if_pos h1, h0', chs_nil, List.append_nil]
    · have h1 : ¬ s.toList = [] := by
        intro h
        have := congrArg List.length h
        rw [ByteArray.toList_eq, data_length] at this
        exact h0 this
      have em : mn (s.size : Int) 8 = ((min s.size 8 : Nat) : Int) := by unfold mn; split <;> omega
      simp only [sum_Chunks.l0]
      rw [if_neg h1, em, if_pos (by omega), if_pos (by omega), Int.toNat_natCast, sum_at _ (extract_size_le _ _ _ _ hb)]
      simp only [Option.bind_some]
      rw [if_pos (by omega), ih _ _ k (by rw [ByteArray.size_extract]; omega) (extract_size_le _ _ _ _ hb) (by rw [List.length_append, ByteArray.size_extract]; simp; omega) (by omega) (by rw [List.length_append, ByteArray.size_extract]; simp; omega)]
      rw [List.append_assoc, chs_cons (l := nb s) (by rw [nb_size]; omega), csum_extract, List.drop_zero, nb_extract]
      have e1 : (nb s).take (min s.size 8 - 0) = (nb s).take 8 := by
        rw [Nat.sub_zero]
        by_cases c : 8 ≤ s.size
        · rw [Nat.min_eq_right c]
        · rw [Nat.min_eq_left (by omega), List.take_of_length_le (by rw [nb_size]; omega), List.take_of_length_le (by rw [nb_size]; omega)]
      have e2 : ((nb s).drop (min s.size 8)).take (s.size - min s.size 8) = (nb s).drop 8 := by
        rw [List.take_of_length_le (by rw [List.length_drop, nb_size]; omega)]
        by_cases c : 8 ≤ s.size
        · rw [Nat.min_eq_right c]
        · rw [Nat.min_eq_left (by omega), List.drop_eq_nil_of_le (by rw [nb_size]; omega), List.drop_eq_nil_of_le (by rw [nb_size]; omega)]
      rw [e1, e2]
      rfl

theorem chunks_at (s : ByteArray) (hs : s.size ≤ 140737488351232) (k : Nat) (hk : s.size < k) : sum_Chunks.f k s = some (chs (nb s)) := by
  unfold sum_Chunks.f
  rw [chunks_loop s.size s [] k (Nat.le_refl _) (by omega) (by simp; omega) hk (by simp; omega), List.nil_append]

theorem ref_chunks_loop (s : ByteArray) (hs : s.size ≤ 140737488351232) : ∀ (d i k : Nat) (acc : List Int), s.size - i ≤ d → d + 10 * s.size < k → i < 140737488359424 →
    acc.length + (s.size - i + 7) / 8 < 35184372088832 → tabulariumref02_Chunks.l0 k s acc (i : Int) = some (acc ++ chs ((nb s).drop i)) := by
  intro d
  induction d with
  | zero =>
    intro i k acc hd hk hi hl
    obtain ⟨k, rfl⟩ : ∃ m, k = m + 1 := ⟨k - 1, by omega⟩
    simp only [tabulariumref02_Chunks.l0]
    rw [if_neg (by omega), List.drop_eq_nil_of_le (by rw [nb_size]; omega), chs_nil, List.append_nil]
  | succ d ih =>
    intro i k acc hd hk hi hl
    obtain ⟨k, rfl⟩ : ∃ m, k = m + 1 := ⟨k - 1, by omega⟩
    by_cases h0 : s.size ≤ i
    · simp only [tabulariumref02_Chunks.l0]
      rw [if_neg (by omega), List.drop_eq_nil_of_le (by rw [nb_size]; omega), chs_nil, List.append_nil]
    · have e8 : wrap64 ((i : Int) + 8) = ((i + 8 : Nat) : Int) := by rw [wrap64_of (by omega) (by omega)]; omega
      have em : mn (s.size : Int) ((i + 8 : Nat) : Int) = ((min s.size (i + 8) : Nat) : Int) := by unfold mn; split <;> omega
      simp only [tabulariumref02_Chunks.l0]
      rw [if_pos (by omega), if_pos (by omega), e8, em, if_pos (by omega), if_pos (by omega), Int.toNat_natCast, Int.toNat_natCast, ref_sum_at _ (extract_size_le _ _ _ _ (by omega)) k (by rw [ByteArray.size_extract]; omega)]
      simp only [Option.bind_some]
      rw [if_pos (by omega), ih (i + 8) k _ (by omega) (by omega) (by omega) (by rw [List.length_append]; simp; omega)]
      rw [List.append_assoc, chs_cons (l := (nb s).drop i) (by rw [List.length_drop, nb_size]; omega), csum_extract, List.drop_drop]
      have e1 : ((nb s).drop i).take (min s.size (i + 8) - i) = ((nb s).drop i).take 8 := by
        by_cases c : i + 8 ≤ s.size
        · rw [Nat.min_eq_right c, show i + 8 - i = 8 by omega]
        · rw [Nat.min_eq_left (by omega), List.take_of_length_le (by rw [List.length_drop, nb_size]; omega), List.take_of_length_le (by rw [List.length_drop, nb_size]; omega)]
      rw [e1]
      rfl

theorem ref_chunks_at (s : ByteArray) (hs : s.size ≤ 140737488351232) (k : Nat) (hk : 11 * s.size + 1 < k) : tabulariumref02_Chunks.f k s = some (chs (nb s)) := by
  unfold tabulariumref02_Chunks.f
  have := ref_chunks_loop s hs s.size 0 k [] (by omega) (by omega) (by omega) (by simp; omega)
  refine Eq.trans this ?_
  rw [List.drop_zero, List.nil_append]

/-! ### the first that is another one -/
def badR : List Int → List Int → Nat → Int
  | [], [], _ => -1
  | [], _ :: _, i => (i : Int)
  | _ :: _, [], i => (i : Int)
  | a :: l, b :: m, i => if a = b then badR l m (i + 1) else (i : Int)

theorem rd_nat (l : List Int) (i : Nat) : rd l (i : Int) = l.getD i 0 := by unfold rd; simp

theorem bad_loop (l m : List Int) (hl : l.length ≤ 9223372036854775800) : ∀ (d i k : Nat), l.length - i = d → i ≤ l.length → i ≤ m.length → d < k →
    sum_Bad.l0 k m l l (l.length : Int) (i : Int) = some (badR (l.drop i) (m.drop i) i) := by
  intro d
  induction d with
  | zero =>
    intro i k hd hi hm hk
    obtain ⟨k, rfl⟩ : ∃ m, k = m + 1 := ⟨k - 1, by omega⟩
    obtain rfl : i = l.length := by omega
    simp only [sum_Bad.l0]
    rw [if_neg (by omega), List.drop_length]
    by_cases c : l.length = m.length
    · rw [if_neg (by omega), c, List.drop_length]; rfl
    · rw [if_pos (by omega), drop_cons (l := m) (by omega)]; rfl
  | succ d ih =>
    intro i k hd hi hm hk
    obtain ⟨k, rfl⟩ : ∃ m, k = m + 1 := ⟨k - 1, by omega⟩
    have e : wrap64 ((i : Int) + 1) = ((i + 1 : Nat) : Int) := by rw [wrap64_of (by omega) (by omega)]; omega
    simp only [sum_Bad.l0]
    rw [if_pos (by omega), if_pos (by omega), if_pos (by omega), drop_cons (l := l) (by omega)]
    by_cases c : i = m.length
    · rw [if_pos (by omega), drop_none (l := m) (by omega)]; rfl
    · rw [if_neg (by omega), if_pos (by omega), drop_cons (l := m) (by omega), rd_nat, rd_nat, badR]
      by_cases c2 : m.getD i 0 = l.getD i 0
      · rw [if_pos c2, if_pos c2.symm, e, ih (i + 1) k (by omega) (by omega) (by omega) (by omega)]
      · rw [if_neg c2, if_neg (fun h => c2 h.symm)]

theorem ref_bad_loop (l m : List Int) (hl : l.length ≤ 9223372036854775800) (hm : m.length ≤ 9223372036854775800) : ∀ (d i k : Nat), max l.length m.length - i = d → i ≤ l.length → i ≤ m.length → d < k →
    tabulariumref02_Bad.l0 k m l (i : Int) = some (badR (l.drop i) (m.drop i) i) := by
  intro d
  have em : mx (l.length : Int) (m.length : Int) = ((max l.length m.length : Nat) : Int) := by unfold mx; split <;> omega
  induction d with
  | zero =>
    intro i k hd hi hm hk
    obtain ⟨k, rfl⟩ : ∃ m, k = m + 1 := ⟨k - 1, by omega⟩
    simp only [tabulariumref02_Bad.l0]
    rw [em, if_neg (by omega), drop_none (l := l) (by omega), drop_none (l := m) (by omega)]
    rfl
  | succ d ih =>
    intro i k hd hi hm2 hk
    obtain ⟨k, rfl⟩ : ∃ m, k = m + 1 := ⟨k - 1, by omega⟩
    have e : wrap64 ((i : Int) + 1) = ((i + 1 : Nat) : Int) := by rw [wrap64_of (by omega) (by omega)]; omega
    simp only [tabulariumref02_Bad.l0]
    rw [em, if_pos (by omega)]
    by_cases c : i = l.length
    · rw [if_pos (by omega), drop_none (l := l) (by omega), drop_cons (l := m) (by omega)]; rfl
    · rw [if_neg (by omega), drop_cons (l := l) (by omega)]
      by_cases c1 : i = m.length
      · rw [if_pos (by omega), drop_none (l := m) (by omega)]; rfl
      · rw [if_neg (by omega), if_pos (by omega), if_pos (by omega), if_pos (by omega), drop_cons (l := m) (by omega), rd_nat, rd_nat, badR]
        by_cases c2 : l.getD i 0 = m.getD i 0
        · rw [if_pos c2, if_pos c2, e, ih (i + 1) k (by omega) (by omega) (by omega) (by omega)]
        · rw [if_neg c2, if_neg c2]

theorem bad_at (s : ByteArray) (hs : s.size ≤ 140737488351232) (m : List Int) (k : Nat) (hk : s.size + 1 < k) : sum_Bad.f k s m = some (badR (chs (nb s)) m 0) := by
  unfold sum_Bad.f
  have hl := chs_len (nb s)
  rw [nb_size] at hl
  rw [chunks_at s hs k (by omega)]
  simp only [Option.bind_some]
  have := bad_loop (chs (nb s)) m (by omega) (chs (nb s)).length 0 k (by omega) (by omega) (by omega) (by omega)
  exact this

theorem ref_bad_at (s : ByteArray) (hs : s.size ≤ 140737488351232) (m : List Int) (hm : m.length ≤ 9223372036854775800) (k : Nat) (hk : 11 * s.size + 1 + m.length < k) : tabulariumref02_Bad.f k s m = some (badR (chs (nb s)) m 0) := by
  unfold tabulariumref02_Bad.f
  have hl := chs_len (nb s)
  rw [nb_size] at hl
  rw [ref_chunks_at s hs k (by omega)]
  simp only [Option.bind_some]
  have := ref_bad_loop (chs (nb s)) m (by omega) hm (max (chs (nb s)).length m.length) 0 k (by omega) (by omega) (by omega) (by omega)
  exact this

theorem sums_loop (l : List Int) (m : List Int) (hlm : l.length = m.length) (hl : l.length ≤ 9223372036854775800) : ∀ (d i k : Nat), l.length - i = d → i ≤ l.length → d < k →
    tabulariumlaw02_sums.l0 k l m (i : Int) = some (decide (l.drop i = m.drop i)) := by
  intro d
  induction d with
  | zero =>
    intro i k hd hi hk
    obtain ⟨k, rfl⟩ : ∃ m, k = m + 1 := ⟨k - 1, by omega⟩
    simp only [tabulariumlaw02_sums.l0]
    rw [if_neg (by omega), drop_none (l := l) (by omega), drop_none (l := m) (by omega)]
    rfl
  | succ d ih =>
    intro i k hd hi hk
    obtain ⟨k, rfl⟩ : ∃ m, k = m + 1 := ⟨k - 1, by omega⟩
    have e : wrap64 ((i : Int) + 1) = ((i + 1 : Nat) : Int) := by rw [wrap64_of (by omega) (by omega)]; omega
    simp only [tabulariumlaw02_sums.l0]
    rw [if_pos (by omega), if_pos (by omega), if_pos (by omega), drop_cons (l := l) (by omega), drop_cons (l := m) (by omega), rd_nat, rd_nat]
    by_cases c : l.getD i 0 = m.getD i 0
    · rw [if_pos c, e, ih (i + 1) k (by omega) (by omega) (by omega), c]
      simp
    · rw [if_neg c, decide_eq_false]
      intro h
      exact c (List.cons.inj h).1

theorem sums_at (l m : List Int) (hl : l.length ≤ 9223372036854775800) (k : Nat) (hk : l.length < k) : tabulariumlaw02_sums.f k l m = some (decide (l = m)) := by
  unfold tabulariumlaw02_sums.f
  by_cases c : l.length = m.length
  · rw [if_pos (by omega)]
    exact sums_loop l m c hl l.length 0 k (by omega) (by omega) hk
  · rw [if_neg (by omega), decide_eq_false]
    intro h
    exact c (congrArg List.length h)

theorem examples_at : tabulariumlaw02_examples.f 100 = some true := by kernel_rfl

end Go.Proofs.Ytlggjcpaihpipaa.Sp
