/- The law WireJoins over plain functions: two lists together are written as how many there are, and each text of both. -/
import Derived.Test.YtjjmbcnalcjnmaaEx01
import Derived.Test.YtjjmbcnalcjnmaaRefLists
import Derived.Test.YtjjmbcnalcjnmaaPx18
namespace Go.Proofs.Ytjjmbcnalcjnmaa.Pure
open Go.RowKit Go.Proofs.Ytjjmbcnalcjnmaa.P Go.Proofs.Ytjjmbcnalcjnmaa.Sp Go.Proofs.YtjjmbcnalcjnmaaW.PrintWords Go.Proofs.YtjjmbcnalcjnmaaW.PrintLast Go.Proofs.YtjjmbcnalcjnmaaW.PrintMore
set_option linter.unusedVariables false

theorem texts_both : ∀ (l m : List ByteArray), texts (l ++ m) = (texts l).bind fun a => (texts m).map (a ++ ·)
  | [], m => by
    simp only [texts, Option.bind_some, List.nil_append]
    cases texts m with
    | none => rfl
    | some b => simp only [Option.map_some]; rw [nil_append]
  | s :: l, m => by
    rw [List.cons_append]
    simp only [texts]
    rw [texts_both l m]
    cases text s with
    | none => rfl
    | some t =>
      simp only [Option.bind_some]
      cases texts l with
      | none => rfl
      | some a =>
        simp only [Option.map_some, Option.bind_some]
        cases texts m with
        | none => rfl
        | some b => simp only [Option.map_some]; rw [append_assoc3]

theorem num_one {n : Int} (h0 : 0 ≤ n) (h1 : n < 64) : (num n).size = 1 := by
  rw [num_size]
  have : zig n < 128 := by unfold zig; split <;> omega
  rw [vbs_lt this]
  rfl

theorem tail_one {a : ByteArray} (b : ByteArray) (h : a.size = 1) : (a ++ b).extract 1 (a ++ b).size = b := by
  apply bytes_ext
  have hl : (bytesOf a).length = 1 := by rw [bytesOf_size]; exact h
  rw [bytesOf_extract, bytesOf_append, List.drop_append_of_le_length (by omega), List.drop_of_length_le (by omega), List.nil_append, List.take_of_length_le (by rw [bytesOf_size, ByteArray.size_append]; omega)]

theorem take20 (l : List ByteArray) (h : l.length ≤ 9223372036854775807) : 0 ≤ mn (l.length : Int) 20 ∧ mn (l.length : Int) 20 ≤ (l.length : Int) ∧ (mn (l.length : Int) 20).toNat ≤ 20 := by
  unfold mn
  split <;> omega

theorem WireJoins : tabulariumlaw01_WireJoins.Pure := by
  intro l m h0 h1 h2 h3 h4 h5
  refine ⟨3000, ?_⟩
  unfold tabulariumlaw01_WireJoins.f
  unfold maxLen at h0 h3
  obtain ⟨a0, a1, a2⟩ := take20 l h0
  obtain ⟨b0, b1, b2⟩ := take20 m h3
  rw [at_rounds tabulariumlaw01_examples.mono (show 30 ≤ 3000 by omega) examples_at, Option.bind_some, if_pos a0, if_pos a1, if_pos b0, if_pos b1]
  have hl : (l.take (mn (l.length : Int) 20).toNat).length ≤ 20 := by rw [List.length_take]; omega
  have hm : (m.take (mn (m.length : Int) 20).toNat).length ≤ 20 := by rw [List.length_take]; omega
  have sl : ∀ s ∈ l.take (mn (l.length : Int) 20).toNat, s.size ≤ 140737488351232 := fun s hs => h2 s (List.mem_of_mem_take hs)
  have sm : ∀ s ∈ m.take (mn (m.length : Int) 20).toNat, s.size ≤ 140737488351232 := fun s hs => h5 s (List.mem_of_mem_take hs)
  generalize l.take (mn (l.length : Int) 20).toNat = x at *
  generalize m.take (mn (m.length : Int) 20).toNat = y at *
  rw [wire_join_at x sl 3000 (by omega), Option.bind_some, wire_join_at y sm 3000 (by omega), Option.bind_some, List.nil_append, if_pos (by rw [List.length_nil]; omega), Option.bind_some, if_pos (by omega)]
  have sxy : ∀ s ∈ x ++ y, s.size ≤ 140737488351232 := fun s hs => (List.mem_append.1 hs).elim (sl s) (sm s)
  rw [wire_join_at (x ++ y) sxy 3000 (by omega), Option.bind_some, wrap64_of (by omega) (by omega), wire_num_at (by omega) 3000 (by omega)]
  have ej : join (x ++ y) = ((texts x).bind fun a => (texts y).map (a ++ ·)).map (num (x ++ y).length ++ ·) := by
    unfold join
    rw [if_neg (by rw [List.length_append]; omega), texts_both]
  have ex : join x = (texts x).map (num x.length ++ ·) := by unfold join; rw [if_neg (by omega)]
  have ey : join y = (texts y).map (num y.length ++ ·) := by unfold join; rw [if_neg (by omega)]
  unfold joinW
  rw [ej, ex, ey]
  cases e1 : texts x with
  | none => simp
  | some a =>
    cases e2 : texts y with
    | none => simp
    | some b =>
      have g1 := texts_size _ _ e1
      have g2 := texts_size _ _ e2
      have n1 := num_one (n := (x.length : Int)) (by omega) (by omega)
      have n2 := num_one (n := (y.length : Int)) (by omega) (by omega)
      have n3 := num_one (n := (x.length : Int) + (y.length : Int)) (by omega) (by omega)
      simp only [Option.map_some, Option.bind_some]
      rw [if_pos trivial, if_pos trivial, if_pos trivial, if_pos trivial, tail_one a n1, tail_one b n2]
      have z1 : (num (x.length : Int) ++ a).size = 1 + a.size := by rw [ByteArray.size_append, n1]
      have z2 : (num (y.length : Int) ++ b).size = 1 + b.size := by rw [ByteArray.size_append, n2]
      rw [if_pos (by omega), if_pos (by omega), if_pos (by omega), if_pos (by rw [ByteArray.size_append]; omega)]
      have : num (((x ++ y).length : Nat) : Int) ++ (a ++ b) = num ((x.length : Int) + (y.length : Int)) ++ a ++ b := by
        rw [List.length_append, append_assoc3, Int.natCast_add]
      rw [this]
      simp

end Go.Proofs.Ytjjmbcnalcjnmaa.Pure
