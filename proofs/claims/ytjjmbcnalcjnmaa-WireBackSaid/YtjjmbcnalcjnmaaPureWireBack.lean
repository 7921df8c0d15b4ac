/- The law WireBack over plain functions: what was written, with anything behind, is read as it was. -/
import Derived.Test.YtjjmbcnalcjnmaaEx01
import Derived.Test.YtjjmbcnalcjnmaaReals
import Derived.Test.YtjjmbcnalcjnmaaRefLists
import Derived.Test.YtjjmbcnalcjnmaaPx23
namespace Go.Proofs.Ytjjmbcnalcjnmaa.Pure
open Go.RowKit Go.Proofs.Ytjjmbcnalcjnmaa.P Go.Proofs.Ytjjmbcnalcjnmaa.Sp Go.Proofs.YtjjmbcnalcjnmaaW.PrintWords Go.Proofs.YtjjmbcnalcjnmaaW.PrintLast Go.Proofs.YtjjmbcnalcjnmaaW.PrintMore
set_option linter.unusedVariables false

theorem back_int {n : Int} (h : (Lit.int .i64 n).wf = true) : -9223372036854775808 ≤ n ∧ n ≤ 9223372036854775807 := by
  simpa [Lit.wf, IntKind.min, IntKind.max, IntKind.signed, IntKind.bits] using h
theorem back_float {x : Nat} (h : (Lit.float .f64 x).wf = true) : x < 18446744073709551616 := by
  simpa [Lit.wf] using h

theorem untexts_texts : ∀ (l : List ByteArray) (b r : ByteArray), texts l = some b → untexts l.length (b ++ r) = some (l, r)
  | [], b, r, h => by
    obtain rfl := Option.some.inj h
    rw [nil_append]; rfl
  | s :: l, b, r, h => by
    simp only [texts] at h
    obtain ⟨t, ht, h⟩ := Option.bind_eq_some_iff.mp h
    obtain ⟨q, hq, rfl⟩ := Option.map_eq_some_iff.mp h
    rw [List.length_cons]
    simp only [untexts]
    rw [append_assoc3, ttext_text ht (q ++ r)]
    simp only [Option.bind_some]
    rw [untexts_texts l q r hq]
    rfl
theorem split_join {l : List ByteArray} {b : ByteArray} (h : join l = some b) : split b = some l := by
  unfold join at h
  by_cases c : 1000 < l.length
  · rw [if_pos c] at h; cases h
  · rw [if_neg c] at h
    obtain ⟨q, hq, rfl⟩ := Option.map_eq_some_iff.mp h
    have hu := untexts_texts l q ⟨#[]⟩ hq
    rw [append_nil] at hu
    unfold split
    simp only
    rw [tnum_num (by omega) q, Option.bind_some]
    simp only
    rw [if_neg (by omega), Int.toNat_natCast, hu]
    rfl

theorem back_j2 (l : List ByteArray) (h2 : ∀ s ∈ l, s.size ≤ 140737488351232) (k : Nat) (hk : 1100 ≤ k) : tabulariumlaw01_WireBack.j2 k l true = some true := by
  obtain ⟨k, rfl⟩ : ∃ j, k = j + 1 := ⟨k - 1, by omega⟩
  rw [tabulariumlaw01_WireBack.j2, wire_join_at l h2 k (by omega), Option.bind_some]
  unfold joinW
  cases e : join l with
  | none => simp [ByteArray.toList_eq]
  | some b =>
    have hl : l.length ≤ 1000 := split_length (split_join e)
    simp only
    rw [if_pos trivial, wire_split_at b k (by omega), Option.bind_some]
    unfold splitW
    rw [split_join e]
    simp only
    rw [texts_at l l (by unfold maxLen; omega) k (by omega), Option.bind_some, decide_eq_true rfl]
    rfl

theorem back_j1 (s : ByteArray) (hs : s.size ≤ 140737488351232) (l : List ByteArray) (h2 : ∀ s ∈ l, s.size ≤ 140737488351232) (r : ByteArray) (hr : r.size ≤ 140737488351232) (k : Nat) (hk : 1200 ≤ k) : tabulariumlaw01_WireBack.j1 k s l r true false = some true := by
  obtain ⟨k, rfl⟩ : ∃ j, k = j + 1 := ⟨k - 1, by omega⟩
  rw [tabulariumlaw01_WireBack.j1, if_neg (by decide), wire_text_at s (by omega) k (by omega), Option.bind_some]
  unfold textW
  cases e : text s with
  | none =>
    simp only
    rw [if_neg (by decide)]
    exact back_j2 l h2 k (by omega)
  | some t =>
    have ht := text_size e
    simp only
    rw [if_pos trivial, if_pos (by omega), wire_ttext_at _ k (by omega), Option.bind_some]
    unfold ttextW
    rw [ttext_text e r]
    simp only
    rw [if_pos trivial, if_pos trivial, if_pos trivial]
    exact back_j2 l h2 k (by omega)

theorem WireBack : tabulariumlaw01_WireBack.Pure := by
  intro n x s l r h0 h1 h2 h3 h4 h5 h6
  have hn := back_int h0
  have hx := back_float h1
  refine ⟨3000, ?_⟩
  unfold tabulariumlaw01_WireBack.f
  have hns := num_size_le hn
  rw [at_rounds tabulariumlaw01_examples.mono (show 30 ≤ 3000 by omega) examples_at, wire_num_at hn 3000 (by omega)]
  simp only [Option.bind_some]
  rw [if_pos (by omega), wire_take_at _ 3000 (by omega), Option.bind_some]
  unfold tnumR
  rw [tnum_num hn r]
  simp only
  rw [if_pos trivial, if_pos trivial, show ((0 : Int) != 0) = false from rfl, show (3000 : Nat) = 2999 + 1 from rfl, tabulariumlaw01_WireBack.j0, if_neg (by decide), wire_real_at, Option.bind_some, if_pos (by rw [rbytes_size]; omega), wire_treal_at, Option.bind_some]
  obtain ⟨y, ey, hy⟩ := treal_rbytes hx r
  unfold trealW
  rw [ey]
  simp only
  rw [if_pos trivial, if_pos trivial, wire_real_at, Option.bind_some, Option.bind_some]
  have e1 : realBits y = realBits x := by
    by_cases c : (FloatKind.f64.format.order x x != some .eq) = true
    · rw [realBits_nan c] at hy ⊢
      obtain rfl : y = 9221120237041090561 := by omega
      decide +kernel
    · have c' := Bool.eq_false_iff.mpr c
      rw [realBits_num c'] at hy ⊢
      obtain rfl : y = x := by omega
      exact realBits_num c'
  rw [if_pos (by unfold rbytes; rw [e1])]
  have j1 := back_j1 s h2 l h5 r h6 2999 (by omega)
  by_cases c : (FloatKind.f64.format.order x x != some .eq) = true
  · have hc : (FloatKind.f64.format.order x x == some .eq) = false := by
      revert c
      unfold bne
      cases (FloatKind.f64.format.order x x == some .eq) <;> simp
    rw [realBits_nan c] at hy
    obtain rfl : y = 9221120237041090561 := by omega
    have hz : (FloatKind.f64.format.order 9221120237041090561 9221120237041090561 == some .eq) = false := by decide +kernel
    rw [hz, hc, if_neg (show ¬ (false = true) by decide)]
    split
    · exact j1
    · exact j1
  · have c' := Bool.eq_false_iff.mpr c
    rw [realBits_num c'] at hy
    obtain rfl : y = x := by omega
    rw [c', if_neg (show ¬ (false = true) by decide)]
    exact j1

end Go.Proofs.Ytjjmbcnalcjnmaa.Pure
