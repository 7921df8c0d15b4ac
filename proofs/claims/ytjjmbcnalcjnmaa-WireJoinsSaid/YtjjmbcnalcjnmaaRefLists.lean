/- Plain facts: the reference's lists of texts as bytes; whether two lists are the same. -/
import Derived.Test.YtjjmbcnalcjnmaaLists
import Derived.Test.YtjjmbcnalcjnmaaPx19
import Derived.Test.YtjjmbcnalcjnmaaPx20
import Derived.Test.YtjjmbcnalcjnmaaPx22
namespace Go.Proofs.Ytjjmbcnalcjnmaa.Sp
open Go.RowKit Go.Proofs.Ytjjmbcnalcjnmaa.P Go.Proofs.YtjjmbcnalcjnmaaW.PrintWords Go.Proofs.YtjjmbcnalcjnmaaW.PrintLast Go.Proofs.YtjjmbcnalcjnmaaW.PrintMore
set_option linter.unusedVariables false

theorem ref_join_loop (l : List ByteArray) (hs : ∀ s ∈ l, s.size ≤ 140737488351232) (hl : l.length ≤ 1000) : ∀ (d i k : Nat) (acc : ByteArray), l.length - i = d → i ≤ l.length → acc.size ≤ 10 + i * 4010 → d + 12 ≤ k →
    tabulariumref01_Join.l0 k l acc (i : Int) = some (match texts (l.drop i) with | none => (⟨#[]⟩, false) | some b => (acc ++ b, true)) := by
  intro d
  induction d with
  | zero =>
    intro i k acc hd hi ha hk
    obtain ⟨k, rfl⟩ : ∃ m, k = m + 1 := ⟨k - 1, by omega⟩
    rw [tabulariumref01_Join.l0, if_neg (by omega), List.drop_of_length_le (by omega)]
    simp only [texts]
    rw [append_nil]
  | succ d ih =>
    intro i k acc hd hi ha hk
    obtain ⟨k, rfl⟩ : ∃ m, k = m + 1 := ⟨k - 1, by omega⟩
    have hm : l.getD i ByteArray.empty ∈ l := by
      rw [List.getD_eq_getElem?_getD, List.getElem?_eq_getElem (show i < l.length by omega)]
      exact List.getElem_mem _
    have hz := hs _ hm
    rw [tabulariumref01_Join.l0, if_pos (by omega), if_pos (by omega), rdOf_nat, dropB (show i < l.length by omega)]
    generalize l.getD i ByteArray.empty = s at *
    rw [ref_text_at s (by omega) k (by omega), Option.bind_some]
    simp only [texts]
    unfold textR
    cases e : text s with
    | none => simp
    | some t =>
      have ht := text_size e
      rw [if_pos rfl, if_pos (show acc.size + t.size ≤ 9223372036854775807 by omega), wrap64_of (by omega) (by omega), show ((i : Int) + 1) = ((i + 1 : Nat) : Int) by omega]
      simp only
      rw [ih (i + 1) k (acc ++ t) (by omega) (by omega) (by rw [ByteArray.size_append]; omega) (by omega), Option.bind_some]
      cases texts (l.drop (i + 1)) with
      | none => rfl
      | some b => simp only [Option.map_some]; rw [append_assoc3]

theorem ref_join_at (l : List ByteArray) (hs : ∀ s ∈ l, s.size ≤ 140737488351232) (k : Nat) (hk : 1020 ≤ k) : tabulariumref01_Join.f k l = some (joinR l) := by
  unfold tabulariumref01_Join.f joinR join
  by_cases c : 1000 < l.length
  · rw [if_pos (by omega), if_pos c]
  · rw [if_neg (by omega), if_neg c, ref_num_at (by omega) k (by omega), Option.bind_some]
    have := num_size_le (n := (l.length : Int)) (by omega)
    have := ref_join_loop l hs (by omega) l.length 0 k (num l.length) (by omega) (by omega) (by omega) (by omega)
    rw [List.drop_zero] at this
    rw [show (0 : Int) = ((0 : Nat) : Int) from rfl, this]
    cases texts l <;> rfl

theorem extract_size (b : ByteArray) (i j : Nat) : (b.extract i j).size ≤ b.size := by rw [ByteArray.size_extract]; omega
theorem ttext_rest {b s r : ByteArray} (h : ttext b = some (s, r)) : r.size ≤ b.size := by
  obtain ⟨t, _, rfl⟩ := ttext_back h
  rw [ByteArray.size_append]
  omega

theorem ref_split_loop (n : Nat) (hn : n ≤ 1000) : ∀ (d i k : Nat) (b : ByteArray) (acc : List ByteArray), b.size ≤ 140737488351232 → n - i = d → i ≤ n → acc.length = i → d + 70 ≤ k →
    tabulariumref01_Split.l0 k (n : Int) b acc (i : Int) = some (match (untexts d b).bind fun (l, q) => if q.size = 0 then some l else none with | none => ([], false) | some l => (acc ++ l, true)) := by
  intro d
  induction d with
  | zero =>
    intro i k b acc hb hd hi ha hk
    obtain ⟨k, rfl⟩ : ∃ m, k = m + 1 := ⟨k - 1, by omega⟩
    rw [tabulariumref01_Split.l0, if_neg (by omega)]
    simp only [untexts, Option.bind_some]
    by_cases c : b.size = 0
    · rw [if_pos ((empty_iff b).2 c), if_pos c]; simp
    · rw [if_neg (fun h => c ((empty_iff b).1 h)), if_neg c]
  | succ d ih =>
    intro i k b acc hb hd hi ha hk
    obtain ⟨k, rfl⟩ : ∃ m, k = m + 1 := ⟨k - 1, by omega⟩
    rw [tabulariumref01_Split.l0, if_pos (by omega), ref_ttext_at b hb k (by omega), Option.bind_some]
    simp only [untexts]
    unfold ttextR
    cases e : ttext b with
    | none => simp
    | some p =>
      obtain ⟨s, r⟩ := p
      have hr := ttext_rest e
      simp only [Option.bind_some]
      rw [if_pos trivial, if_pos (show acc.length < 8796093022208 by omega), wrap64_of (by omega) (by omega), show ((i : Int) + 1) = ((i + 1 : Nat) : Int) by omega, ih (i + 1) k r (acc ++ [s]) (by omega) (by omega) (by omega) (by rw [List.length_append, ha]; rfl) (by omega)]
      cases untexts d r with
      | none => rfl
      | some p =>
        obtain ⟨l, q⟩ := p
        simp only [Option.bind_some, Option.map_some]
        by_cases c : q.size = 0
        · simp only [if_pos c, List.append_assoc, List.singleton_append]
        · simp only [if_neg c]

theorem ref_split_at (b : ByteArray) (hb : b.size ≤ 140737488351232) (k : Nat) (hk : 1100 ≤ k) : tabulariumref01_Split.f k b = some (splitR b) := by
  obtain ⟨k, rfl⟩ : ∃ m, k = m + 1 := ⟨k - 1, by omega⟩
  unfold tabulariumref01_Split.f
  rw [ref_take_at b hb (k + 1) (by omega), Option.bind_some]
  unfold tnumB splitR split
  cases e : tnum b with
  | none => simp [tabulariumref01_Split.j0]
  | some p =>
    obtain ⟨n, r⟩ := p
    have hr : r.size ≤ b.size := by
      obtain ⟨e1, _⟩ := tnum_back e
      rw [e1, ByteArray.size_append]
      omega
    simp only [Option.bind_some]
    rw [if_pos trivial]
    by_cases c : n < 0
    · rw [if_pos c, if_pos (Or.inl c), tabulariumref01_Split.j0, if_pos rfl]
    · rw [if_neg c]
      by_cases c2 : 1000 < n
      · rw [if_pos (Or.inr c2), show decide (n > 1000) = true from decide_eq_true c2, tabulariumref01_Split.j0, if_pos rfl]
      · rw [if_neg (by omega), show decide (n > 1000) = false from decide_eq_false c2, tabulariumref01_Split.j0, if_neg (by decide)]
        obtain ⟨m, rfl⟩ := Int.eq_ofNat_of_zero_le (show 0 ≤ n by omega)
        have := ref_split_loop m (by omega) m 0 k r [] (by omega) (by omega) (by omega) rfl (by omega)
        rw [show (0 : Int) = ((0 : Nat) : Int) from rfl, this, Int.toNat_natCast]
        cases (untexts m r).bind fun (l, q) => if q.size = 0 then some l else none <;> simp

theorem untexts_length : ∀ (n : Nat) (b : ByteArray) (l : List ByteArray) (q : ByteArray), untexts n b = some (l, q) → l.length = n
  | 0, b, l, q, h => by
    simp only [untexts, Option.some.injEq, Prod.mk.injEq] at h
    rw [← h.1]; rfl
  | n + 1, b, l, q, h => by
    simp only [untexts] at h
    obtain ⟨⟨s, r⟩, _, h⟩ := Option.bind_eq_some_iff.mp h
    obtain ⟨⟨m, p⟩, hm, h⟩ := Option.map_eq_some_iff.mp h
    simp only [Prod.mk.injEq] at h
    rw [← h.1, List.length_cons, untexts_length n r m p hm]
theorem split_length {b : ByteArray} {l : List ByteArray} (h : split b = some l) : l.length ≤ 1000 := by
  unfold split at h
  obtain ⟨⟨n, r⟩, _, h⟩ := Option.bind_eq_some_iff.mp h
  simp only at h
  by_cases c : n < 0 ∨ 1000 < n
  · rw [if_pos c] at h; cases h
  · rw [if_neg c] at h
    obtain ⟨⟨m, q⟩, hm, h⟩ := Option.bind_eq_some_iff.mp h
    simp only at h
    by_cases c2 : q.size = 0
    · rw [if_pos c2] at h
      obtain rfl := Option.some.inj h
      have := untexts_length _ _ _ _ hm
      omega
    · rw [if_neg c2] at h; cases h

theorem texts_loop (l m : List ByteArray) (hl : l.length = m.length) (hz : l.length ≤ maxLen) : ∀ (d i k : Nat), l.length - i = d → i ≤ l.length → d + 1 ≤ k → tabulariumlaw01_texts.l0 k l m (i : Int) = some (decide (l.drop i = m.drop i)) := by
  intro d
  induction d with
  | zero =>
    intro i k hd hi hk
    obtain ⟨k, rfl⟩ : ∃ m, k = m + 1 := ⟨k - 1, by omega⟩
    rw [tabulariumlaw01_texts.l0, if_neg (by omega), List.drop_of_length_le (by omega), List.drop_of_length_le (by omega)]
    simp
  | succ d ih =>
    intro i k hd hi hk
    obtain ⟨k, rfl⟩ : ∃ m, k = m + 1 := ⟨k - 1, by omega⟩
    unfold maxLen at hz
    rw [tabulariumlaw01_texts.l0, if_pos (by omega), if_pos (by omega), if_pos (by omega), rdOf_nat, rdOf_nat, dropB (show i < l.length by omega), dropB (show i < m.length by omega)]
    by_cases c : l.getD i ByteArray.empty = m.getD i ByteArray.empty
    · rw [c, if_pos rfl, wrap64_of (by omega) (by omega), show ((i : Int) + 1) = ((i + 1 : Nat) : Int) by omega, ih (i + 1) k (by omega) (by omega) (by omega)]
      simp
    · rw [if_neg (fun h => c (toList_inj h))]
      have : ¬ (l.getD i ByteArray.empty :: l.drop (i + 1) = m.getD i ByteArray.empty :: m.drop (i + 1)) := fun h => c (List.cons.inj h).1
      rw [decide_eq_false this]

theorem texts_at (l m : List ByteArray) (hz : l.length ≤ maxLen) (k : Nat) (hk : l.length + 1 ≤ k) : tabulariumlaw01_texts.f k l m = some (decide (l = m)) := by
  unfold tabulariumlaw01_texts.f
  by_cases c : l.length = m.length
  · rw [if_pos (by omega)]
    have := texts_loop l m c hz l.length 0 k (by omega) (by omega) (by omega)
    rw [show (0 : Int) = ((0 : Nat) : Int) from rfl, this, List.drop_zero, List.drop_zero]
  · rw [if_neg (by omega), decide_eq_false (fun h => c (by rw [h]))]

end Go.Proofs.Ytjjmbcnalcjnmaa.Sp
