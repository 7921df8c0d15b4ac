/- Plain facts on bits of whole numbers: or with what lies above or below, xor with all ones, masks. No program in sight. -/
import Derived.Test.YtjailboidlmadaaSp
import Derived.Laws.BitsAllLaws
import Derived.IntWalk
namespace Go.Proofs.Ytjailboidlmadaa.Sp
open Go.RowKit Go.Proofs.YtjailboidlmadaaW.PrintWords Go.Proofs.YtjailboidlmadaaW.PrintLast Go.Proofs.YtjailboidlmadaaW.PrintMore

set_option maxRecDepth 20000 in
theorem or128 : ∀ a, a < 256 → a ||| 128 = a % 128 + 128 := by decide
set_option maxRecDepth 20000 in
theorem and127 : ∀ a, a < 256 → a &&& 127 = a % 128 := by decide

theorem u8_or128' {x : Int} (h0 : 0 ≤ x) (h1 : x < 256) : bits .or .u8 x 128 = x % 128 + 128 := by
  rw [u8_or x 128 h0 h1 (by omega) (by omega)]
  have := or128 x.toNat (by omega)
  show ((x.toNat ||| 128 : Nat) : Int) = _
  omega

theorem u8_and127' {x : Int} (h0 : 0 ≤ x) (h1 : x < 256) : bits .and .u8 x 127 = x % 128 := by
  rw [u8_and x 127 h0 h1 (by omega) (by omega)]
  have := and127 x.toNat (by omega)
  show ((x.toNat &&& 127 : Nat) : Int) = _
  omega

theorem u64_and1 {x : Int} (h0 : 0 ≤ x) (h1 : x < 18446744073709551616) : bits .and .u64 x 1 = x % 2 := by
  rw [u64_and x 1 h0 h1 (by omega) (by omega)]
  show ((x.toNat &&& 1 : Nat) : Int) = _
  rw [Nat.and_one_is_mod]
  omega

theorem u64_wrap (n : Int) : IntKind.u64.wrap n = n % 18446744073709551616 := by simp [IntKind.wrap, IntKind.bits, IntKind.signed]

theorem xor_ones (a : Nat) (h : a < 2 ^ 64) : a ^^^ 18446744073709551615 = 18446744073709551615 - a := by
  have h1 : (BitVec.ofNat 64 a ^^^ BitVec.allOnes 64).toNat = a ^^^ 18446744073709551615 := by
    rw [BitVec.toNat_xor, BitVec.toNat_ofNat, Nat.mod_eq_of_lt h, BitVec.toNat_allOnes]
  rw [BitVec.xor_allOnes, BitVec.toNat_not, BitVec.toNat_ofNat, Nat.mod_eq_of_lt h] at h1
  rw [← h1]

theorem u64_xor_ones {x : Int} (h0 : 0 ≤ x) (h1 : x < 18446744073709551616) : bits .xor .u64 x 18446744073709551615 = 18446744073709551615 - x := by
  rw [u64_xor x _ h0 h1 (by omega) (by omega)]
  have := xor_ones x.toNat (by omega)
  show ((x.toNat ^^^ 18446744073709551615 : Nat) : Int) = _
  omega

theorem u64_ones_xor {x : Int} (h0 : 0 ≤ x) (h1 : x < 18446744073709551616) : bits .xor .u64 18446744073709551615 x = 18446744073709551615 - x := by
  rw [u64_xor _ x (by omega) (by omega) h0 h1]
  have := xor_ones x.toNat (by omega)
  show ((18446744073709551615 ^^^ x.toNat : Nat) : Int) = _
  rw [Nat.xor_comm]
  omega

theorem u64_xor_zero {x : Int} (h0 : 0 ≤ x) (h1 : x < 18446744073709551616) : bits .xor .u64 x 0 = x := by
  rw [u64_xor x 0 h0 h1 (by omega) (by omega)]
  show ((x.toNat ^^^ 0 : Nat) : Int) = _
  rw [Nat.xor_zero]
  omega

theorem i64_xor_zero {x : Int} (h0 : 0 ≤ x) (h1 : x ≤ 9223372036854775807) : bits .xor .i64 x 0 = x := by
  unfold bits
  show IntKind.i64.wrap ((BitVec.ofInt 64 x ^^^ BitVec.ofInt 64 0).toNat : Int) = x
  have e : BitVec.ofInt 64 0 = 0#64 := by decide
  rw [e, BitVec.xor_zero, BitVec.toNat_ofInt, IntKind.wrap_i64]
  omega

theorem i64_xor_neg {x : Int} (h0 : 0 ≤ x) (h1 : x ≤ 9223372036854775807) : bits .xor .i64 x (-1) = -x - 1 := by
  unfold bits
  show IntKind.i64.wrap ((BitVec.ofInt 64 x ^^^ BitVec.ofInt 64 (-1)).toNat : Int) = _
  have e : BitVec.ofInt 64 (-1) = BitVec.allOnes 64 := by decide
  rw [e, BitVec.xor_allOnes, BitVec.toNat_not, BitVec.toNat_ofInt, IntKind.wrap_i64]
  omega

/-- what lies below is added -/
theorem u64_or_add {x y : Int} {i : Nat} (h0 : 0 ≤ x) (hx : x < 2 ^ i) (hy0 : 0 ≤ y) (hy : y * 2 ^ i < 18446744073709551616) (hi : i ≤ 64) : bits .or .u64 x (y * 2 ^ i) = x + y * 2 ^ i := by
  have hp : (0 : Int) < 2 ^ i := Int.pow_pos (by omega)
  have hx2 : x < 18446744073709551616 := by
    have h64 : 2 ^ i ≤ 2 ^ 64 := Nat.pow_le_pow_right (by omega) hi
    have : ((2 ^ i : Nat) : Int) = (2 : Int) ^ i := by rw [Int.natCast_pow]; rfl
    omega
  have hm : 0 ≤ y * 2 ^ i := Int.mul_nonneg hy0 (by omega)
  rw [u64_or x _ h0 hx2 hm hy, Nat.or_comm, nat_join i]
  · omega
  · have : (y * 2 ^ i).toNat = y.toNat * 2 ^ i := by
      obtain ⟨n, rfl⟩ := Int.eq_ofNat_of_zero_le hy0
      have : ((n : Int) * 2 ^ i) = ((n * 2 ^ i : Nat) : Int) := by rw [Int.natCast_mul, Int.natCast_pow]; rfl
      rw [this, Int.toNat_natCast, Int.toNat_natCast]
    rw [this, Nat.mul_mod_left]
  · have : ((2 ^ i : Nat) : Int) = (2 : Int) ^ i := by rw [Int.natCast_pow]; rfl
    omega

end Go.Proofs.Ytjailboidlmadaa.Sp
