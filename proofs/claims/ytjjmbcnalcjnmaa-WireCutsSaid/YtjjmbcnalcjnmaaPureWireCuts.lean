/- The law WireCuts over plain functions: what was written and is cut off is no number, fraction, text, list. -/
import Derived.Test.YtjjmbcnalcjnmaaEx01
import Derived.Test.YtjjmbcnalcjnmaaReals
import Derived.Test.YtjjmbcnalcjnmaaCuts
import Derived.Test.YtjjmbcnalcjnmaaPx24
namespace Go.Proofs.Ytjjmbcnalcjnmaa.Pure
open Go.RowKit Go.Proofs.Ytjjmbcnalcjnmaa.P Go.Proofs.Ytjjmbcnalcjnmaa.Sp Go.Proofs.YtjjmbcnalcjnmaaW.PrintWords Go.Proofs.YtjjmbcnalcjnmaaW.PrintLast Go.Proofs.YtjjmbcnalcjnmaaW.PrintMore
set_option linter.unusedVariables false

theorem cuts_int {n : Int} (h : (Lit.int .i64 n).wf = true) : -9223372036854775808 ≤ n ∧ n ≤ 9223372036854775807 := by
  simpa [Lit.wf, IntKind.min, IntKind.max, IntKind.signed, IntKind.bits] using h
theorem cuts_float {x : Nat} (h : (Lit.float .f64 x).wf = true) : x < 18446744073709551616 := by
  simpa [Lit.wf] using h

/-- where it is cut -/
theorem cut_at {z : Int} (hz : 0 ≤ z) {s : Nat} (hs : 1 ≤ s) : ∃ m : Nat, m < s ∧ mx 1 (s : Int) ≠ 0 ∧ Int.tmod z (mx 1 (s : Int)) = (m : Int) := by
  have e : mx 1 (s : Int) = (s : Int) := by unfold mx; split <;> omega
  rw [e, Int.tmod_eq_emod_of_nonneg hz]
  have h0 := Int.emod_nonneg z (show (s : Int) ≠ 0 by omega)
  have h1 := Int.emod_lt_of_pos z (show (0 : Int) < s by omega)
  exact ⟨(z % (s : Int)).toNat, by omega, by omega, by omega⟩

theorem cuts_j0 (n : Int) (hn : -9223372036854775808 ≤ n ∧ n ≤ 9223372036854775807) (x : Nat) (l : List ByteArray) (hl : ∀ s ∈ l, s.size ≤ 140737488351232) (z : Int) (hz : 0 ≤ z) (k : Nat) (hk : 2000 ≤ k) :
    tabulariumlaw01_WireCuts.j0 k n x l z true = some true := by
  obtain ⟨k, rfl⟩ : ∃ j, k = j + 1 := ⟨k - 1, by omega⟩
  rw [tabulariumlaw01_WireCuts.j0, wire_num_at hn k (by omega), Option.bind_some]
  have hs1 : 1 ≤ (num n).size := by rw [num_size]; exact vbs_pos _
  obtain ⟨m1, a1, b1, c1⟩ := cut_at hz hs1
  rw [if_neg b1, c1, if_pos (by omega), if_pos (by omega), Int.toNat_natCast, wire_take_at _ k (by omega), Option.bind_some, wire_real_at, Option.bind_some]
  have e1 : (tnumR ((num n).extract 0 m1)).2.2 = 2 := by unfold tnumR; rw [tnum_cut a1]
  obtain ⟨m2, a2, b2, c2⟩ := cut_at hz (s := (rbytes x).size) (by rw [rbytes_size]; omega)
  rw [if_neg b2, c2, if_pos (by omega), if_pos (by omega), Int.toNat_natCast, wire_treal_at, Option.bind_some, wire_join_at l hl k (by omega), Option.bind_some]
  have e2 : (trealW ((rbytes x).extract 0 m2)).2.2 = 2 := by
    unfold trealW
    rw [treal_short (by rw [rbytes_size] at a2; rw [cut_size _ (by rw [rbytes_size]; omega)]; exact a2)]
  rw [e1, e2]
  unfold joinW
  cases e : join l with
  | none =>
    simp only
    rw [if_neg (by decide)]
    rfl
  | some b =>
    obtain ⟨g1, g2⟩ := join_size e
    simp only
    rw [if_pos trivial]
    obtain ⟨m3, a3, b3, c3⟩ := cut_at hz g1
    rw [if_neg b3, c3, if_pos (by omega), if_pos (by omega), Int.toNat_natCast, wire_split_at _ k (by omega), Option.bind_some, if_pos (by omega), wire_split_at _ k (by omega), Option.bind_some]
    have e3 : (splitW (b.extract 0 m3)).2 = 2 := by unfold splitW; rw [split_cut e a3]
    have e4 : (splitW (b ++ (⟨#[0]⟩ : ByteArray))).2 = 2 := by unfold splitW; rw [split_more e (by decide)]
    rw [e3, e4]
    rfl

theorem WireCuts : tabulariumlaw01_WireCuts.Pure := by
  intro n x l z h0 h1 h2 h3 h4 h5
  have hn := cuts_int h0
  have hz := cuts_int h5
  refine ⟨3000, ?_⟩
  unfold tabulariumlaw01_WireCuts.f
  rw [at_rounds tabulariumlaw01_examples.mono (show 30 ≤ 3000 by omega) examples_at, Option.bind_some]
  by_cases c : z < 0
  · rw [if_pos c]
    refine cuts_j0 n hn x l h4 _ ?_ 3000 (by omega)
    rw [wrap64_of (n := z + 1) (by omega) (by omega), wrap64_of (by omega) (by omega)]
    omega
  · rw [if_neg c]
    exact cuts_j0 n hn x l h4 z (by omega) 3000 (by omega)

end Go.Proofs.Ytjjmbcnalcjnmaa.Pure
