/- The law WireSizes over plain functions: how many bytes a number takes. For every two ints. -/
import Derived.Test.YtjjmbcnalcjnmaaEx01
import Derived.Test.YtjjmbcnalcjnmaaPx8
namespace Go.Proofs.Ytjjmbcnalcjnmaa.Pure
open Go.RowKit Go.Proofs.Ytjjmbcnalcjnmaa.P Go.Proofs.Ytjjmbcnalcjnmaa.Sp Go.Proofs.YtjjmbcnalcjnmaaW.PrintWords Go.Proofs.YtjjmbcnalcjnmaaW.PrintLast Go.Proofs.YtjjmbcnalcjnmaaW.PrintMore

theorem int_range {n : Int} (h : (Lit.int .i64 n).wf = true) : -9223372036854775808 ≤ n ∧ n ≤ 9223372036854775807 := by
  simpa [Lit.wf, IntKind.min, IntKind.max, IntKind.signed, IntKind.bits] using h

theorem len_even (m : Nat) : (vbs (2 * m)).length = (vbs (2 * m + 1)).length := by
  by_cases h : 2 * m < 128
  · rw [vbs_lt h, vbs_lt (by omega)]; rfl
  · rw [vbs_ge (z := 2 * m) (by omega), vbs_ge (z := 2 * m + 1) (by omega), show 2 * m / 128 = (2 * m + 1) / 128 by omega]; rfl

theorem len_turned (n : Int) : (num n).size = (num (-(n + 1))).size := by
  rw [num_size, num_size]
  unfold zig
  by_cases h : n < 0
  · rw [if_pos h, if_neg (by omega)]
    have e := len_even ((-n - 1).toNat)
    rw [show (-2 * n - 1).toNat = 2 * (-n - 1).toNat + 1 by omega, show (2 * -(n + 1)).toNat = 2 * (-n - 1).toNat by omega, e]
  · rw [if_neg h, if_pos (by omega)]
    have e := len_even n.toNat
    rw [show (2 * n).toNat = 2 * n.toNat by omega, show (-2 * -(n + 1) - 1).toNat = 2 * n.toNat + 1 by omega, e]

theorem len_at {n : Int} {q : Nat} (h1 : 128 ^ q ≤ zig n) (h2 : zig n < 128 ^ (q + 1)) : (num n).size = q + 1 := by
  rw [num_size]
  have a := vbs_len_ge q _ h1
  have b := vbs_len (q + 1) _ (by omega) h2
  omega

theorem sizes_j0 (k : Nat) (hk : 20 ≤ k) (n : Int) (hn : -9223372036854775808 ≤ n ∧ n ≤ 9223372036854775807) (c : Int) (h0 : 0 ≤ c) : tabulariumlaw01_WireSizes.j0 (k + 1) n c true = some true := by
  have e1 : wrap64 (-(wrap64 (n + 1))) = -(n + 1) := by unfold wrap64; omega
  have hn2 : -9223372036854775808 ≤ -(n + 1) ∧ -(n + 1) ≤ 9223372036854775807 := by omega
  simp only [tabulariumlaw01_WireSizes.j0]
  rw [Int.tmod_eq_emod_of_nonneg h0, e1, wire_num_at hn k (by omega), wire_num_at hn2 k (by omega)]
  simp only [Option.bind_some]
  rw [len_turned n, if_pos (rfl : ((num (-(n + 1))).size : Int) = ((num (-(n + 1))).size : Int))]
  have hm : c % 9 = 0 ∨ c % 9 = 1 ∨ c % 9 = 2 ∨ c % 9 = 3 ∨ c % 9 = 4 ∨ c % 9 = 5 ∨ c % 9 = 6 ∨ c % 9 = 7 ∨ c % 9 = 8 := by omega
  have go : ∀ (q : Nat) (p : Int), q ≤ 8 → c % 9 = q → p = shl .i64 1 (wrap64 (6 + (wrap64 (7 * (c % 9))))) → p = ((64 * 128 ^ q : Nat) : Int) →
      (if 0 ≤ (wrap64 (6 + (wrap64 (7 * (c % 9))))) then ((wire_Num.f k (wrap64 (p - 1))).bind fun t143 => (if (t143.size : Int) = (wrap64 ((c % 9) + 1)) then ((wire_Num.f k p).bind fun t144 => (if (t144.size : Int) = (wrap64 ((c % 9) + 2)) then ((wire_Num.f k (wrap64 (-p))).bind fun t145 => (if (t145.size : Int) = (wrap64 ((c % 9) + 1)) then ((wire_Num.f k (wrap64 ((wrap64 (-p)) - 1))).bind fun t146 => (some ((t146.size : Int) == (wrap64 ((c % 9) + 2))))) else (some false))) else (some false))) else (some false))) else none) = some true := by
    intro q p hq hc _ hp
    have hb : 128 ^ q ≤ 128 ^ 8 := Nat.pow_le_pow_right (by omega) hq
    have hb1 : 0 < 128 ^ q := Nat.pow_pos (by omega)
    have hps : 128 ^ (q + 1) = 128 ^ q * 128 := Nat.pow_succ ..
    have hps2 : 128 ^ (q + 1 + 1) = 128 ^ q * 128 * 128 := by rw [Nat.pow_succ, hps]
    have f1 : wrap64 (p - 1) = p - 1 := wrap64_of (by omega) (by omega)
    have f2 : wrap64 (-p) = -p := wrap64_of (by omega) (by omega)
    have f3 : wrap64 (-p - 1) = -p - 1 := wrap64_of (by omega) (by omega)
    have f4 : wrap64 (c % 9 + 1) = ((q + 1 : Nat) : Int) := by rw [wrap64_of (by omega) (by omega)]; omega
    have f5 : wrap64 (c % 9 + 2) = ((q + 2 : Nat) : Int) := by rw [wrap64_of (by omega) (by omega)]; omega
    have f6 : (0 : Int) ≤ wrap64 (6 + wrap64 (7 * (c % 9))) := by rw [wrap64_of (n := 7 * (c % 9)) (by omega) (by omega), wrap64_of (by omega) (by omega)]; omega
    have z1 : zig (p - 1) = 128 * 128 ^ q - 2 := by unfold zig; rw [if_neg (by omega)]; omega
    have z2 : zig p = 128 * 128 ^ q := by unfold zig; rw [if_neg (by omega)]; omega
    have z3 : zig (-p) = 128 * 128 ^ q - 1 := by unfold zig; rw [if_pos (by omega)]; omega
    have z4 : zig (-p - 1) = 128 * 128 ^ q + 1 := by unfold zig; rw [if_pos (by omega)]; omega
    have s1 : (num (p - 1)).size = q + 1 := len_at (by omega) (by omega)
    have s2 : (num p).size = q + 2 := len_at (q := q + 1) (by omega) (by omega)
    have s3 : (num (-p)).size = q + 1 := len_at (by omega) (by omega)
    have s4 : (num (-p - 1)).size = q + 2 := len_at (q := q + 1) (by omega) (by omega)
    rw [if_pos f6, f1, f2, f3, f4, f5, wire_num_at (by omega) k (by omega), wire_num_at (n := p) (by omega) k (by omega), wire_num_at (n := -p) (by omega) k (by omega), wire_num_at (n := -p - 1) (by omega) k (by omega)]
    simp only [Option.bind_some]
    rw [s1, s2, s3, s4, if_pos rfl, if_pos rfl, if_pos rfl, beq_self_eq_true]
  rcases hm with h | h | h | h | h | h | h | h | h
  · exact go 0 _ (by omega) h rfl (by rw [h]; decide +kernel)
  · exact go 1 _ (by omega) h rfl (by rw [h]; decide +kernel)
  · exact go 2 _ (by omega) h rfl (by rw [h]; decide +kernel)
  · exact go 3 _ (by omega) h rfl (by rw [h]; decide +kernel)
  · exact go 4 _ (by omega) h rfl (by rw [h]; decide +kernel)
  · exact go 5 _ (by omega) h rfl (by rw [h]; decide +kernel)
  · exact go 6 _ (by omega) h rfl (by rw [h]; decide +kernel)
  · exact go 7 _ (by omega) h rfl (by rw [h]; decide +kernel)
  · exact go 8 _ (by omega) h rfl (by rw [h]; decide +kernel)

theorem WireSizes : tabulariumlaw01_WireSizes.Pure := by
  intro a0 a1 w0 w1
  have hn := int_range w0
  have hc := int_range w1
  refine ⟨61, ?_⟩
  unfold tabulariumlaw01_WireSizes.f
  rw [at_rounds tabulariumlaw01_examples.mono (show 30 ≤ 61 by omega) examples_at]
  simp only [Option.bind_some]
  by_cases c : a1 < 0
  · have e : wrap64 (-(wrap64 (a1 + 1))) = -(a1 + 1) := by unfold wrap64; omega
    rw [if_pos c, e]
    exact sizes_j0 60 (by omega) a0 hn _ (by omega)
  · rw [if_neg c]
    exact sizes_j0 60 (by omega) a0 hn _ (by omega)

end Go.Proofs.Ytjjmbcnalcjnmaa.Pure
