/- Plain facts: what was written and is cut off is no number, text, list. -/
import Derived.Test.YtjjmbcnalcjnmaaRefLists
namespace Go.Proofs.Ytjjmbcnalcjnmaa.Sp
open Go.RowKit Go.Proofs.Ytjjmbcnalcjnmaa.P Go.Proofs.YtjjmbcnalcjnmaaW.PrintWords Go.Proofs.YtjjmbcnalcjnmaaW.PrintLast Go.Proofs.YtjjmbcnalcjnmaaW.PrintMore
set_option linter.unusedVariables false

theorem cut_low (a b : ByteArray) {m : Nat} (h : m ≤ a.size) : (a ++ b).extract 0 m = a.extract 0 m := by
  apply bytes_ext
  rw [bytesOf_extract, bytesOf_extract, bytesOf_append, List.drop_zero, List.drop_zero, Nat.sub_zero, List.take_append_of_le_length (by rw [bytesOf_size]; exact h)]
theorem cut_high (a b : ByteArray) {m : Nat} (h : a.size ≤ m) : (a ++ b).extract 0 m = a ++ b.extract 0 (m - a.size) := by
  apply bytes_ext
  rw [bytesOf_extract, bytesOf_append, bytesOf_append, bytesOf_extract, List.drop_zero, List.drop_zero, Nat.sub_zero, Nat.sub_zero, List.take_append, List.take_of_length_le (by rw [bytesOf_size]; exact h), bytesOf_size]
theorem cut_size (b : ByteArray) {m : Nat} (h : m ≤ b.size) : (b.extract 0 m).size = m := by rw [ByteArray.size_extract]; omega

theorem tnum_cut {n : Int} {m : Nat} (h : m < (num n).size) : tnum ((num n).extract 0 m) = none := by
  unfold tnum
  rw [num_size] at h
  rw [bytesOf_extract, bytes_num, List.drop_zero, Nat.sub_zero, tk_cut h]

theorem ttext_cut {s t : ByteArray} (h : text s = some t) {m : Nat} (hm : m < t.size) : ttext (t.extract 0 m) = none := by
  unfold text at h
  by_cases c : 4000 < s.size
  · rw [if_pos c] at h; cases h
  · rw [if_neg c] at h
    obtain rfl := Option.some.inj h
    rw [ByteArray.size_append] at hm
    unfold ttext
    rcases Nat.lt_or_ge m (num s.size).size with c1 | c1
    · rw [cut_low _ _ (by omega), tnum_cut c1]
    · rw [cut_high _ _ c1, tnum_num (by omega)]
      have hz : (s.extract 0 (m - (num s.size).size)).size = m - (num s.size).size := cut_size s (by omega)
      simp only
      rw [if_pos (by omega)]

theorem untexts_cut : ∀ (l : List ByteArray) (b : ByteArray), texts l = some b → ∀ m, m < b.size → untexts l.length (b.extract 0 m) = none
  | [], b, h, m, hm => by
    obtain rfl := Option.some.inj h
    exact absurd hm (by simp [ByteArray.size])
  | s :: l, b, h, m, hm => by
    simp only [texts] at h
    obtain ⟨t, ht, h⟩ := Option.bind_eq_some_iff.mp h
    obtain ⟨q, hq, rfl⟩ := Option.map_eq_some_iff.mp h
    rw [ByteArray.size_append] at hm
    rw [List.length_cons]
    simp only [untexts]
    rcases Nat.lt_or_ge m t.size with c | c
    · rw [cut_low _ _ (by omega), ttext_cut ht c]; rfl
    · rw [cut_high _ _ c, ttext_text ht]
      simp only [Option.bind_some]
      rw [untexts_cut l q hq _ (by omega)]
      rfl

theorem untexts_more : ∀ (l : List ByteArray) (b r : ByteArray), texts l = some b → untexts l.length (b ++ r) = some (l, r)
  | [], b, r, h => by
    obtain rfl := Option.some.inj h
    rw [nil_append]; rfl
  | s :: l, b, r, h => by
    simp only [texts] at h
    obtain ⟨t, ht, h⟩ := Option.bind_eq_some_iff.mp h
    obtain ⟨q, hq, rfl⟩ := Option.map_eq_some_iff.mp h
    rw [List.length_cons]
    simp only [untexts]
    rw [append_assoc3, ttext_text ht (q ++ r)]
    simp only [Option.bind_some]
    rw [untexts_more l q r hq]
    rfl

theorem split_cut {l : List ByteArray} {b : ByteArray} (h : join l = some b) {m : Nat} (hm : m < b.size) : split (b.extract 0 m) = none := by
  unfold join at h
  by_cases c : 1000 < l.length
  · rw [if_pos c] at h; cases h
  · rw [if_neg c] at h
    obtain ⟨q, hq, rfl⟩ := Option.map_eq_some_iff.mp h
    rw [ByteArray.size_append] at hm
    unfold split
    rcases Nat.lt_or_ge m (num l.length).size with c1 | c1
    · rw [cut_low _ _ (by omega), tnum_cut c1]; rfl
    · rw [cut_high _ _ c1, tnum_num (by omega), Option.bind_some]
      simp only
      rw [if_neg (by omega), Int.toNat_natCast, untexts_cut l q hq _ (by omega)]
      rfl

theorem split_more {l : List ByteArray} {b : ByteArray} (h : join l = some b) {r : ByteArray} (hr : r.size ≠ 0) : split (b ++ r) = none := by
  unfold join at h
  by_cases c : 1000 < l.length
  · rw [if_pos c] at h; cases h
  · rw [if_neg c] at h
    obtain ⟨q, hq, rfl⟩ := Option.map_eq_some_iff.mp h
    rw [append_assoc3]
    unfold split
    rw [tnum_num (by omega), Option.bind_some]
    simp only
    rw [if_neg (by omega), Int.toNat_natCast, untexts_more l q r hq]
    simp only [Option.bind_some]
    rw [if_neg hr]

theorem join_size {l : List ByteArray} {b : ByteArray} (h : join l = some b) : 1 ≤ b.size ∧ b.size ≤ 4020000 := by
  unfold join at h
  by_cases c : 1000 < l.length
  · rw [if_pos c] at h; cases h
  · rw [if_neg c] at h
    obtain ⟨q, hq, rfl⟩ := Option.map_eq_some_iff.mp h
    have h1 := texts_size l q hq
    have h2 := num_size_le (n := (l.length : Int)) (by omega)
    have h3 : 1 ≤ (num l.length).size := by rw [num_size]; exact vbs_pos _
    rw [ByteArray.size_append]
    omega

end Go.Proofs.Ytjjmbcnalcjnmaa.Sp
