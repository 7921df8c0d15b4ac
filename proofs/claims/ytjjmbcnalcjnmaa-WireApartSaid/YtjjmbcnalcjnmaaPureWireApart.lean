/- The law WireApart over plain functions: two unlike numbers are written unlike, none as the beginning of the other one, in one to ten bytes. For every two ints. -/
import Derived.Test.YtjjmbcnalcjnmaaEx01
import Derived.Test.YtjjmbcnalcjnmaaTexts
import Derived.Test.YtjjmbcnalcjnmaaPx7
namespace Go.Proofs.Ytjjmbcnalcjnmaa.Pure
open Go.RowKit Go.Proofs.Ytjjmbcnalcjnmaa.P Go.Proofs.Ytjjmbcnalcjnmaa.Sp Go.Proofs.YtjjmbcnalcjnmaaW.PrintWords Go.Proofs.YtjjmbcnalcjnmaaW.PrintLast Go.Proofs.YtjjmbcnalcjnmaaW.PrintMore

theorem int_range {n : Int} (h : (Lit.int .i64 n).wf = true) : -9223372036854775808 ≤ n ∧ n ≤ 9223372036854775807 := by
  simpa [Lit.wf, IntKind.min, IntKind.max, IntKind.signed, IntKind.bits] using h

theorem take_apart {l m : List Int} {k : Nat} (h : l.take k = m.take k) (hk : k = l.length ∨ k = m.length) : (∃ r, l = m ++ r) ∨ (∃ r, m = l ++ r) := by
  rcases hk with rfl | rfl
  · right
    refine ⟨m.drop l.length, ?_⟩
    rw [List.take_of_length_le (Nat.le_refl _)] at h
    conv => lhs; rw [← List.take_append_drop l.length m]
    rw [← h]
  · left
    refine ⟨l.drop m.length, ?_⟩
    rw [List.take_of_length_le (l := m) (Nat.le_refl _)] at h
    conv => lhs; rw [← List.take_append_drop m.length l]
    rw [h]

theorem num_apart {n m : Int} {k : Nat} (hk : k = (num n).size ∨ k = (num m).size) (h : ((num n).extract 0 k).toList = ((num m).extract 0 k).toList) : n = m := by
  rw [toList_iff, bytesOf_extract, bytesOf_extract, List.drop_zero, List.drop_zero, Nat.sub_zero, bytes_num, bytes_num] at h
  rw [num_size, num_size] at hk
  rcases take_apart h hk with ⟨r, e⟩ | ⟨r, e⟩
  · have := vbs_apart (a := zig n) (b := zig m) (r := []) (s := r) (by rw [List.append_nil]; exact e)
    exact zig_inj this.1
  · have := vbs_apart (a := zig m) (b := zig n) (r := []) (s := r) (by rw [List.append_nil]; exact e)
    exact (zig_inj this.1).symm

theorem WireApart : tabulariumlaw01_WireApart.Pure := by
  intro a0 a1 w0 w1
  have hn := int_range w0
  have hm := int_range w1
  refine ⟨60, ?_⟩
  unfold tabulariumlaw01_WireApart.f
  rw [at_rounds tabulariumlaw01_examples.mono (show 30 ≤ 60 by omega) examples_at, wire_num_at hn 60 (by omega), wire_num_at hm 60 (by omega)]
  simp only [Option.bind_some]
  by_cases c : a0 = a1
  · subst c
    rw [if_pos rfl, if_pos trivial, beq_self_eq_true]
  · rw [if_neg c, if_pos trivial]
    have e1 : mn ((num a0).size : Int) ((num a1).size : Int) = ((min (num a0).size (num a1).size : Nat) : Int) := by unfold mn; split <;> omega
    have s1 := num_size_le hn
    have s2 : 1 ≤ (num a0).size := by rw [num_size]; exact vbs_pos _
    rw [e1, Int.toNat_natCast, if_pos (by omega), if_pos (by omega), if_pos (by omega), if_neg (fun h => c (num_apart (by omega) h)), if_pos (by omega), decide_eq_true (by omega)]

end Go.Proofs.Ytjjmbcnalcjnmaa.Pure
