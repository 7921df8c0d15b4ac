/- What package chunk cuts. -/
import Derived.Test.YtljllecpmllefaaSmA
import Derived.Test.YtljllecpmllefaaPx11
section

namespace Go.Proofs.Ytljllecpmllefaa.Sp
open Go.RowKit Go.Proofs.YtljllecpmllefaaW.PrintWords Go.Proofs.YtljllecpmllefaaW.PrintLast Go.Proofs.YtljllecpmllefaaW.PrintMore Go.Proofs.Ytljllecpmllefaa.P
set_option linter.unusedVariables false

theorem int_range {n : Int} (h : (Lit.int .i64 n).wf = true) : -9223372036854775808 ≤ n ∧ n ≤ 9223372036854775807 := by
  simpa [Lit.wf, IntKind.min, IntKind.max, IntKind.signed, IntKind.bits] using h
theorem ext2 (s : ByteArray) (a b : Nat) : (s.extract a s.size).extract 0 b = s.extract a (a + b) := by
  refine nb_ext ?_
  rw [nb_extract, nb_extract, nb_extract, List.drop_zero, Nat.sub_zero, Nat.add_sub_cancel_left, List.take_of_length_le (i := s.size - a)]
  rw [List.length_drop, nb_size]; omega
theorem ext_all (s : ByteArray) (a b : Nat) (h : s.size ≤ b) : s.extract a b = s.extract a s.size := by
  refine nb_ext ?_
  rw [nb_extract, nb_extract, List.take_of_length_le, List.take_of_length_le] <;> rw [List.length_drop, nb_size] <;> omega
/-- a cut within bounds -/
theorem cut_at (s : ByteArray) (hs : s.size ≤ 140737488351232) (a n : Nat) (ha : a ≤ s.size) : chunk_Cut.f s (a : Int) (n : Int) = some (s.extract a (a + n), 0) := by
  unfold chunk_Cut.f
  have z : (s.extract a s.size).size = s.size - a := by rw [ByteArray.size_extract]; omega
  have hm : mn (n : Int) ((s.extract a s.size).size : Int) = ((min n (s.size - a) : Nat) : Int) := by rw [z]; unfold mn; split <;> omega
  rw [if_neg (by omega), if_neg (by omega), if_neg (by omega), if_pos (by omega), if_pos (by omega), Int.toNat_natCast, hm, if_pos (by omega), if_pos (by rw [z]; omega), Int.toNat_natCast, ext2]
  congr 2
  by_cases c : n ≤ s.size - a
  · rw [Nat.min_eq_left c]
  · rw [Nat.min_eq_right (by omega), show a + (s.size - a) = s.size by omega, ext_all s a (a + n) (by omega)]
theorem ext_join (s : ByteArray) (a b c : Nat) (h1 : a ≤ b) (h2 : b ≤ c) : s.extract a b ++ s.extract b c = s.extract a c := by
  refine nb_ext ?_
  rw [nb_append, nb_extract, nb_extract, nb_extract]
  have e : (nb s).drop b = ((nb s).drop a).drop (b - a) := by rw [List.drop_drop, show a + (b - a) = b by omega]
  rw [e]
  generalize (nb s).drop a = L
  have := List.take_append_drop (b - a) (L.take (c - a))
  rw [List.take_take, Nat.min_eq_left (by omega), List.drop_take, show c - a - (b - a) = c - b by omega] at this
  exact this
end Go.Proofs.Ytljllecpmllefaa.Sp
end
