/- Plain facts on the bytes of numbers: how a number is written in bytes of seven bits, and how it is read back. No program in sight. -/
import Derived.Test.YtljllecpmllefaaWMore
import Derived.Lib.Strings
import Derived.Laws.BitsAllLaws
import Derived.IntWalk
import Derived.Test.YtljllecpmllefaaPx8
import Derived.Test.YtljllecpmllefaaPx3
import Derived.Test.YtljllecpmllefaaPx16
import Derived.Test.YtljllecpmllefaaPx24
import Derived.Test.YtljllecpmllefaaPx4
import Derived.Test.YtljllecpmllefaaPx25
section

namespace Go.Proofs.Ytljllecpmllefaa.Sp
open Go.RowKit Go.Proofs.YtljllecpmllefaaW.PrintWords Go.Proofs.YtljllecpmllefaaW.PrintLast Go.Proofs.YtljllecpmllefaaW.PrintMore

theorem wrap64_of {n : Int} (h0 : -9223372036854775808 ≤ n) (h1 : n ≤ 9223372036854775807) : wrap64 n = n := by unfold wrap64; omega

def By (l : List Int) : Prop := ∀ x ∈ l, 0 ≤ x ∧ x < 256

theorem By.tail {x : Int} {l : List Int} (h : By (x :: l)) : By l := fun y hy => h y (List.mem_cons_of_mem _ hy)
theorem By.head {x : Int} {l : List Int} (h : By (x :: l)) : 0 ≤ x ∧ x < 256 := h x List.mem_cons_self
theorem By.drop {l : List Int} (h : By l) (n : Nat) : By (l.drop n) := fun y hy => h y (List.mem_of_mem_drop hy)
theorem By.take {l : List Int} (h : By l) (n : Nat) : By (l.take n) := fun y hy => h y (List.mem_of_mem_take hy)
theorem By.append {l m : List Int} (h : By l) (h' : By m) : By (l ++ m) := fun y hy => (List.mem_append.1 hy).elim (h y) (h' y)

theorem by_bytesOf (s : ByteArray) : By (bytesOf s) := by
  intro x hx
  unfold bytesOf at hx
  obtain ⟨c, _, rfl⟩ := List.mem_map.1 hx
  have := c.toNat_lt
  omega

theorem bytesOf_strOfNums {l : List Int} (h : By l) : bytesOf (strOfNums l) = l := by
  unfold bytesOf
  rw [strOfNums_data, List.map_map]
  conv => rhs; rw [← List.map_id l]
  refine List.map_congr_left fun x hx => ?_
  have := h x hx
  simp only [Function.comp, id]
  rw [UInt8.toNat_ofNat_of_lt' (by show x.toNat < 256; omega)]
  omega

theorem strOfNums_bytesOf (s : ByteArray) : strOfNums (bytesOf s) = s := by
  unfold bytesOf strOfNums
  rw [List.map_map]
  have : (List.map ((fun n : Int => UInt8.ofNat n.toNat) ∘ fun b : UInt8 => (b.toNat : Int)) s.data.toList) = s.data.toList := by
    conv => rhs; rw [← List.map_id s.data.toList]
    refine List.map_congr_left fun x _ => ?_
    simp
  rw [this]

theorem bytes_ext {a b : ByteArray} (h : bytesOf a = bytesOf b) : a = b := by
  rw [← strOfNums_bytesOf a, ← strOfNums_bytesOf b, h]

theorem toList_iff (a b : ByteArray) : a.toList = b.toList ↔ bytesOf a = bytesOf b := by
  rw [ByteArray.toList_eq, ByteArray.toList_eq]
  constructor
  · intro h; unfold bytesOf; rw [h]
  · intro h; rw [bytes_ext h]

theorem toList_inj {a b : ByteArray} (h : a.toList = b.toList) : a = b := bytes_ext ((toList_iff a b).1 h)

theorem bytesOf_extract (s : ByteArray) (a b : Nat) : bytesOf (s.extract a b) = ((bytesOf s).drop a).take (b - a) := by
  unfold bytesOf
  rw [Lib.extract_data, List.map_take, List.map_drop]

theorem bytesOf_size (s : ByteArray) : (bytesOf s).length = s.size := bytesOf_length s

theorem bytesOf_append (a b : ByteArray) : bytesOf (a ++ b) = bytesOf a ++ bytesOf b := by
  unfold bytesOf
  rw [ByteArray.data_append, Array.toList_append, List.map_append]

theorem bytesOf_nil : bytesOf (⟨#[]⟩ : ByteArray) = [] := rfl

theorem bt_rd (s : ByteArray) (i : Nat) : bt s (i : Int) = (bytesOf s).getD i 0 := by
  rw [← rd_bytesOf]; unfold rd; simp

theorem drop_cons {l : List Int} {i : Nat} (h : i < l.length) : l.drop i = l.getD i 0 :: l.drop (i + 1) := by
  rw [List.drop_eq_getElem_cons h, List.getD_eq_getElem?_getD, List.getElem?_eq_getElem h]; rfl

theorem take_snoc {l : List Int} {i : Nat} (h : i < l.length) : l.take (i + 1) = l.take i ++ [l.getD i 0] := by
  rw [List.take_succ_eq_append_getElem h, List.getD_eq_getElem?_getD, List.getElem?_eq_getElem h]; rfl

/-- the value of some bytes of seven bits each -/
def pv : List Int → Nat
  | [] => 0
  | x :: xs => x.toNat % 128 + 128 * pv xs

theorem pv_append (l m : List Int) : pv (l ++ m) = pv l + 128 ^ l.length * pv m := by
  induction l with
  | nil => simp [pv]
  | cons x l ih =>
    rw [List.cons_append, pv, pv, ih, List.length_cons, Nat.mul_add, Nat.pow_succ, ← Nat.mul_assoc, Nat.mul_comm 128 (128 ^ l.length)]
    omega

theorem pv_lt (l : List Int) : pv l < 128 ^ l.length := by
  induction l with
  | nil => simp [pv]
  | cons x l ih =>
    rw [pv, List.length_cons, Nat.pow_succ]
    omega

/-- a number's bytes -/
def vbs (z : Nat) : List Int := if z < 128 then [(z : Int)] else ((z % 128 + 128 : Nat) : Int) :: vbs (z / 128)
  termination_by z
  decreasing_by omega

theorem vbs_lt {z : Nat} (h : z < 128) : vbs z = [(z : Int)] := by rw [vbs, if_pos h]
theorem vbs_ge {z : Nat} (h : 128 ≤ z) : vbs z = ((z % 128 + 128 : Nat) : Int) :: vbs (z / 128) := by rw [vbs, if_neg (by omega)]

theorem vbs_by (z : Nat) : By (vbs z) := by
  induction z using Nat.strongRecOn with
  | _ z ih =>
    by_cases h : z < 128
    · rw [vbs_lt h]; intro x hx; simp at hx; omega
    · rw [vbs_ge (by omega)]
      intro x hx
      rcases List.mem_cons.1 hx with rfl | hx
      · omega
      · exact ih (z / 128) (by omega) x hx

theorem vbs_ne (z : Nat) : vbs z ≠ [] := by
  by_cases h : z < 128
  · rw [vbs_lt h]; simp
  · rw [vbs_ge (by omega)]; simp

theorem vbs_pos (z : Nat) : 1 ≤ (vbs z).length := by
  have := vbs_ne z
  cases h : vbs z with
  | nil => exact absurd h this
  | cons => simp

theorem vbs_len (n : Nat) : ∀ z, 0 < n → z < 128 ^ n → (vbs z).length ≤ n := by
  induction n with
  | zero => intro z h; omega
  | succ n ih =>
    intro z _ hz
    by_cases h : z < 128
    · rw [vbs_lt h]; simp
    · rw [vbs_ge (by omega), List.length_cons]
      have : n ≠ 0 := by rintro rfl; simp at hz; omega
      have := ih (z / 128) (by omega) (by rw [Nat.pow_succ] at hz; omega)
      omega

theorem vbs_len_ge (n : Nat) : ∀ z, 128 ^ n ≤ z → n + 1 ≤ (vbs z).length := by
  induction n with
  | zero => intro z _; exact vbs_pos z
  | succ n ih =>
    intro z hz
    rw [Nat.pow_succ] at hz
    have : 0 < 128 ^ n := Nat.pow_pos (by omega)
    rw [vbs_ge (by omega), List.length_cons]
    have := ih (z / 128) (by omega)
    omega

theorem vbs_len10 {z : Nat} (h : z < 18446744073709551616) : (vbs z).length ≤ 10 := vbs_len 10 z (by omega) (by omega)

theorem pv_vbs (z : Nat) : pv (vbs z) = z := by
  induction z using Nat.strongRecOn with
  | _ z ih =>
    by_cases h : z < 128
    · rw [vbs_lt h]; simp [pv]; omega
    · rw [vbs_ge (by omega), pv, ih (z / 128) (by omega)]
      omega

theorem vbs_inj {a b : Nat} (h : vbs a = vbs b) : a = b := by rw [← pv_vbs a, ← pv_vbs b, h]

/-- the number at the beginning, however great, and how many bytes it has -/
def tkr : List Int → Option (Nat × Nat)
  | [] => none
  | x :: xs => if x < 128 then some (x.toNat, 1) else match tkr xs with
    | none => none
    | some (z, s) => if z = 0 then none else some (x.toNat % 128 + 128 * z, s + 1)

theorem tkr_vbs (z : Nat) : ∀ r, tkr (vbs z ++ r) = some (z, (vbs z).length) := by
  induction z using Nat.strongRecOn with
  | _ z ih =>
    intro r
    by_cases h : z < 128
    · rw [vbs_lt h]; simp [tkr]; omega
    · rw [vbs_ge (by omega), List.cons_append, tkr, if_neg (by omega), ih (z / 128) (by omega)]
      simp only
      rw [if_neg (by omega), List.length_cons]
      congr 2
      omega

theorem tkr_back : ∀ (l : List Int), By l → ∀ z s, tkr l = some (z, s) → l.take s = vbs z ∧ s = (vbs z).length ∧ s ≤ l.length := by
  intro l
  induction l with
  | nil => intro _ z s h; simp [tkr] at h
  | cons x l ih =>
    intro hb z s h
    rw [tkr] at h
    have hx := hb.head
    by_cases c : x < 128
    · rw [if_pos c] at h
      obtain ⟨rfl, rfl⟩ : x.toNat = z ∧ 1 = s := by simpa using h
      rw [vbs_lt (by omega)]
      simp
      omega
    · rw [if_neg c] at h
      cases e : tkr l with
      | none => rw [e] at h; simp at h
      | some p =>
        obtain ⟨z', s'⟩ := p
        rw [e] at h
        simp only at h
        by_cases c0 : z' = 0
        · rw [if_pos c0] at h; simp at h
        · rw [if_neg c0] at h
          obtain ⟨rfl, rfl⟩ : x.toNat % 128 + 128 * z' = z ∧ s' + 1 = s := by simpa using h
          obtain ⟨h1, h2, h3⟩ := ih hb.tail z' s' e
          have hq : (x.toNat % 128 + 128 * z') / 128 = z' := by omega
          rw [vbs_ge (by omega), hq, List.take_succ_cons, h1, List.length_cons, List.length_cons]
          refine ⟨?_, by omega, by omega⟩
          congr 1
          omega

/-- the number at the beginning, below 2 ^ 64 -/
def tk (l : List Int) : Option (Nat × Nat) := match tkr l with
  | none => none
  | some (z, s) => if z < 18446744073709551616 then some (z, s) else none

theorem tk_vbs {z : Nat} (h : z < 18446744073709551616) (r : List Int) : tk (vbs z ++ r) = some (z, (vbs z).length) := by
  rw [tk, tkr_vbs]; simp only; rw [if_pos h]

theorem tk_back {l : List Int} (hb : By l) {z s : Nat} (h : tk l = some (z, s)) : l.take s = vbs z ∧ s = (vbs z).length ∧ s ≤ l.length ∧ z < 18446744073709551616 := by
  unfold tk at h
  split at h
  · cases h
  · rename_i z' s' e
    split at h
    · obtain ⟨rfl, rfl⟩ : z' = z ∧ s' = s := by simpa using h
      obtain ⟨a, b, c⟩ := tkr_back l hb _ _ e
      exact ⟨a, b, c, by assumption⟩
    · cases h

theorem tk_eq {l : List Int} (hb : By l) {z s : Nat} (h : tk l = some (z, s)) : l = vbs z ++ l.drop s := by
  rw [← (tk_back hb h).1, List.take_append_drop]

/-- what is cut off in a number's bytes is none -/
theorem tkr_cut (z : Nat) : ∀ n, n < (vbs z).length → tkr ((vbs z).take n) = none := by
  induction z using Nat.strongRecOn with
  | _ z ih =>
    intro n hn
    by_cases h : z < 128
    · rw [vbs_lt h] at hn ⊢
      obtain rfl : n = 0 := by simp at hn; omega
      rfl
    · rw [vbs_ge (by omega)] at hn ⊢
      cases n with
      | zero => rfl
      | succ n =>
        rw [List.take_succ_cons, tkr, if_neg (by omega), ih (z / 128) (by omega) n (by rw [List.length_cons] at hn; omega)]

theorem tk_cut {z n : Nat} (h : n < (vbs z).length) : tk ((vbs z).take n) = none := by rw [tk, tkr_cut z n h]

/-- no number's bytes are the beginning of another one's -/
theorem vbs_apart {a b : Nat} {r s : List Int} (h : vbs a ++ r = vbs b ++ s) : a = b ∧ r = s := by
  have e := tkr_vbs a r
  rw [h, tkr_vbs b s] at e
  obtain ⟨rfl, _⟩ : b = a ∧ _ := by simpa using e
  exact ⟨rfl, List.append_cancel_left h⟩

/-- numbers turned into those from 0 on, and back -/
def zig (n : Int) : Nat := if n < 0 then (-2 * n - 1).toNat else (2 * n).toNat
def zag (z : Nat) : Int := if z % 2 = 1 then -((z / 2 : Nat) : Int) - 1 else ((z / 2 : Nat) : Int)

theorem zag_zig (n : Int) : zag (zig n) = n := by unfold zag zig; split <;> split <;> omega
theorem zig_zag (z : Nat) : zig (zag z) = z := by unfold zag zig; split <;> split <;> omega
theorem zig_inj {a b : Int} (h : zig a = zig b) : a = b := by rw [← zag_zig a, ← zag_zig b, h]
theorem zig_lt {n : Int} (h : -9223372036854775808 ≤ n ∧ n ≤ 9223372036854775807) : zig n < 18446744073709551616 := by unfold zig; split <;> omega
theorem zag_range {z : Nat} (h : z < 18446744073709551616) : -9223372036854775808 ≤ zag z ∧ zag z ≤ 9223372036854775807 := by unfold zag; split <;> omega

/-- a number's bytes, as a text -/
def num (n : Int) : ByteArray := strOfNums (vbs (zig n))
theorem bytes_num (n : Int) : bytesOf (num n) = vbs (zig n) := bytesOf_strOfNums (vbs_by _)
theorem num_size (n : Int) : (num n).size = (vbs (zig n)).length := strOfNums_size _

/-- the number at the beginning of a text -/
def tnum (b : ByteArray) : Option (Int × ByteArray) := match tk (bytesOf b) with
  | none => none
  | some (z, s) => some (zag z, b.extract s b.size)

theorem tnum_num {n : Int} (h : -9223372036854775808 ≤ n ∧ n ≤ 9223372036854775807) (r : ByteArray) : tnum (num n ++ r) = some (n, r) := by
  unfold tnum
  rw [bytesOf_append, bytes_num, tk_vbs (zig_lt h)]
  simp only [zag_zig]
  congr 2
  refine bytes_ext ?_
  rw [bytesOf_extract, bytesOf_append, bytes_num, List.drop_left, List.take_of_length_le]
  rw [ByteArray.size_append, num_size, bytesOf_size]
  omega

theorem tnum_back {b : ByteArray} {n : Int} {r : ByteArray} (h : tnum b = some (n, r)) : b = num n ++ r ∧ -9223372036854775808 ≤ n ∧ n ≤ 9223372036854775807 := by
  unfold tnum at h
  split at h
  · cases h
  · rename_i z s e
    obtain ⟨rfl, rfl⟩ : zag z = n ∧ b.extract s b.size = r := by simpa using h
    obtain ⟨h1, h2, h3, h4⟩ := tk_back (by_bytesOf b) e
    refine ⟨bytes_ext ?_, zag_range h4⟩
    rw [bytesOf_append, bytes_num, zig_zag, bytesOf_extract, ← h1]
    rw [List.take_of_length_le (l := (bytesOf b).drop s), List.take_append_drop]
    rw [List.length_drop, bytesOf_size]
    omega

end Go.Proofs.Ytljllecpmllefaa.Sp
end

section

namespace Go.Proofs.Ytljllecpmllefaa.Sp
open Go.RowKit Go.Proofs.YtljllecpmllefaaW.PrintWords Go.Proofs.YtljllecpmllefaaW.PrintLast Go.Proofs.YtljllecpmllefaaW.PrintMore

set_option maxRecDepth 20000 in
theorem or128 : ∀ a, a < 256 → a ||| 128 = a % 128 + 128 := by decide
set_option maxRecDepth 20000 in
theorem and127 : ∀ a, a < 256 → a &&& 127 = a % 128 := by decide

theorem u8_or128' {x : Int} (h0 : 0 ≤ x) (h1 : x < 256) : bits .or .u8 x 128 = x % 128 + 128 := by
  rw [u8_or x 128 h0 h1 (by omega) (by omega)]
  have := or128 x.toNat (by omega)
  show ((x.toNat ||| 128 : Nat) : Int) = _
  omega

theorem u8_and127' {x : Int} (h0 : 0 ≤ x) (h1 : x < 256) : bits .and .u8 x 127 = x % 128 := by
  rw [u8_and x 127 h0 h1 (by omega) (by omega)]
  have := and127 x.toNat (by omega)
  show ((x.toNat &&& 127 : Nat) : Int) = _
  omega

theorem u64_and1 {x : Int} (h0 : 0 ≤ x) (h1 : x < 18446744073709551616) : bits .and .u64 x 1 = x % 2 := by
  rw [u64_and x 1 h0 h1 (by omega) (by omega)]
  show ((x.toNat &&& 1 : Nat) : Int) = _
  rw [Nat.and_one_is_mod]
  omega

theorem u64_wrap (n : Int) : IntKind.u64.wrap n = n % 18446744073709551616 := by simp [IntKind.wrap, IntKind.bits, IntKind.signed]

theorem xor_ones (a : Nat) (h : a < 2 ^ 64) : a ^^^ 18446744073709551615 = 18446744073709551615 - a := by
  have h1 : (BitVec.ofNat 64 a ^^^ BitVec.allOnes 64).toNat = a ^^^ 18446744073709551615 := by
    rw [BitVec.toNat_xor, BitVec.toNat_ofNat, Nat.mod_eq_of_lt h, BitVec.toNat_allOnes]
  rw [BitVec.xor_allOnes, BitVec.toNat_not, BitVec.toNat_ofNat, Nat.mod_eq_of_lt h] at h1
  rw [← h1]

theorem u64_xor_ones {x : Int} (h0 : 0 ≤ x) (h1 : x < 18446744073709551616) : bits .xor .u64 x 18446744073709551615 = 18446744073709551615 - x := by
  rw [u64_xor x _ h0 h1 (by omega) (by omega)]
  have := xor_ones x.toNat (by omega)
  show ((x.toNat ^^^ 18446744073709551615 : Nat) : Int) = _
  omega

theorem u64_ones_xor {x : Int} (h0 : 0 ≤ x) (h1 : x < 18446744073709551616) : bits .xor .u64 18446744073709551615 x = 18446744073709551615 - x := by
  rw [u64_xor _ x (by omega) (by omega) h0 h1]
  have := xor_ones x.toNat (by omega)
  show ((18446744073709551615 ^^^ x.toNat : Nat) : Int) = _
  rw [Nat.xor_comm]
  omega

theorem u64_xor_zero {x : Int} (h0 : 0 ≤ x) (h1 : x < 18446744073709551616) : bits .xor .u64 x 0 = x := by
  rw [u64_xor x 0 h0 h1 (by omega) (by omega)]
  show ((x.toNat ^^^ 0 : Nat) : Int) = _
  rw [Nat.xor_zero]
  omega

theorem i64_xor_zero {x : Int} (h0 : 0 ≤ x) (h1 : x ≤ 9223372036854775807) : bits .xor .i64 x 0 = x := by
  unfold bits
  show IntKind.i64.wrap ((BitVec.ofInt 64 x ^^^ BitVec.ofInt 64 0).toNat : Int) = x
  have e : BitVec.ofInt 64 0 = 0#64 := by decide
  rw [e, BitVec.xor_zero, BitVec.toNat_ofInt, IntKind.wrap_i64]
  omega

theorem i64_xor_neg {x : Int} (h0 : 0 ≤ x) (h1 : x ≤ 9223372036854775807) : bits .xor .i64 x (-1) = -x - 1 := by
  unfold bits
  show IntKind.i64.wrap ((BitVec.ofInt 64 x ^^^ BitVec.ofInt 64 (-1)).toNat : Int) = _
  have e : BitVec.ofInt 64 (-1) = BitVec.allOnes 64 := by decide
  rw [e, BitVec.xor_allOnes, BitVec.toNat_not, BitVec.toNat_ofInt, IntKind.wrap_i64]
  omega

/-- what lies below is added -/
theorem u64_or_add {x y : Int} {i : Nat} (h0 : 0 ≤ x) (hx : x < 2 ^ i) (hy0 : 0 ≤ y) (hy : y * 2 ^ i < 18446744073709551616) (hi : i ≤ 64) : bits .or .u64 x (y * 2 ^ i) = x + y * 2 ^ i := by
  have hp : (0 : Int) < 2 ^ i := Int.pow_pos (by omega)
  have hx2 : x < 18446744073709551616 := by
    have h64 : 2 ^ i ≤ 2 ^ 64 := Nat.pow_le_pow_right (by omega) hi
    have : ((2 ^ i : Nat) : Int) = (2 : Int) ^ i := by rw [Int.natCast_pow]; rfl
    omega
  have hm : 0 ≤ y * 2 ^ i := Int.mul_nonneg hy0 (by omega)
  rw [u64_or x _ h0 hx2 hm hy, Nat.or_comm, nat_join i]
  · omega
  · have : (y * 2 ^ i).toNat = y.toNat * 2 ^ i := by
      obtain ⟨n, rfl⟩ := Int.eq_ofNat_of_zero_le hy0
      have : ((n : Int) * 2 ^ i) = ((n * 2 ^ i : Nat) : Int) := by rw [Int.natCast_mul, Int.natCast_pow]; rfl
      rw [this, Int.toNat_natCast, Int.toNat_natCast]
    rw [this, Nat.mul_mod_left]
  · have : ((2 ^ i : Nat) : Int) = (2 : Int) ^ i := by rw [Int.natCast_pow]; rfl
    omega

end Go.Proofs.Ytljllecpmllefaa.Sp
end

section

namespace Go.Proofs.Ytljllecpmllefaa.Sp
open Go.RowKit Go.Proofs.YtljllecpmllefaaW.PrintWords Go.Proofs.YtljllecpmllefaaW.PrintLast Go.Proofs.YtljllecpmllefaaW.PrintMore Go.Proofs.Ytljllecpmllefaa.P
set_option linter.unusedVariables false

theorem wire_num_loop (z : Nat) : ∀ (acc : List Int) (k : Nat), z < 18446744073709551616 → acc.length + (vbs z).length < 100 → (vbs z).length ≤ k → wire_Num.l0 k acc (z : Int) = some (strOfNums (acc ++ vbs z)) := by
  induction z using Nat.strongRecOn with
  | _ z ih =>
    intro acc k hz ha hk
    have hp := vbs_pos z
    obtain ⟨k, rfl⟩ : ∃ m, k = m + 1 := ⟨k - 1, by omega⟩
    by_cases h : z < 128
    · simp only [wire_Num.l0]
      rw [if_neg (by omega), if_pos (by omega), vbs_lt h]
      have : (z : Int) % 256 = z := by omega
      rw [this]
    · have e := vbs_ge (z := z) (by omega)
      rw [e, List.length_cons] at ha hk
      simp only [wire_Num.l0]
      rw [if_pos (by omega), if_pos (by omega), u8_or128' (by omega) (by omega)]
      have e1 : (z : Int) % 256 % 128 + 128 = ((z % 128 + 128 : Nat) : Int) := by omega
      have e2 : (z : Int) / 128 = ((z / 128 : Nat) : Int) := by omega
      rw [e1, e2, ih (z / 128) (by omega) _ k (by omega) (by rw [List.length_append]; simp; omega) (by omega), e]
      simp

theorem zig_bits {n : Int} (h : -9223372036854775808 ≤ n ∧ n ≤ 9223372036854775807) : Go.bits .xor .u64 (IntKind.u64.wrap ((IntKind.u64.wrap n) * 2)) (IntKind.u64.wrap (n / 9223372036854775808)) = (zig n : Int) := by
  unfold zig
  simp only [u64_wrap]
  split
  · have e1 : n / 9223372036854775808 % 18446744073709551616 = 18446744073709551615 := by omega
    rw [e1, u64_xor_ones (by omega) (by omega)]
    omega
  · have e1 : n / 9223372036854775808 % 18446744073709551616 = 0 := by omega
    rw [e1, u64_xor_zero (by omega) (by omega)]
    omega

theorem wire_num_at {n : Int} (h : -9223372036854775808 ≤ n ∧ n ≤ 9223372036854775807) (k : Nat) (hk : 10 ≤ k) : wire_Num.f k n = some (num n) := by
  unfold wire_Num.f
  have hl := vbs_len10 (zig_lt h)
  rw [zig_bits h, wire_num_loop (zig n) [] k (zig_lt h) (by simp; omega) (by omega)]
  simp [num]

theorem wire_num {n : Int} (h : -9223372036854775808 ≤ n ∧ n ≤ 9223372036854775807) : Ev (fun k => wire_Num.f k n) (num n) := ⟨10, fun k hk => wire_num_at h k hk⟩

theorem ref_num_loop (z : Nat) : ∀ (acc : List Int) (k : Nat), z < 18446744073709551616 → acc.length + (vbs z).length < 100 → (vbs z).length ≤ k → tabulariumref01_Num.l0 k (z : Int) acc = some (strOfNums (acc ++ vbs z)) := by
  induction z using Nat.strongRecOn with
  | _ z ih =>
    intro acc k hz ha hk
    have hp := vbs_pos z
    obtain ⟨k, rfl⟩ : ∃ m, k = m + 1 := ⟨k - 1, by omega⟩
    by_cases h : z < 128
    · simp only [tabulariumref01_Num.l0]
      rw [if_neg (by omega), if_pos (by omega), vbs_lt h]
      have : (z : Int) % 256 = z := by omega
      rw [this]
    · have e := vbs_ge (z := z) (by omega)
      rw [e, List.length_cons] at ha hk
      simp only [tabulariumref01_Num.l0]
      rw [if_pos (by omega), if_pos (by omega)]
      have e1 : IntKind.u64.wrap (Int.tmod (z : Int) 128 + 128) % 256 = ((z % 128 + 128 : Nat) : Int) := by rw [u64_wrap, Int.tmod_eq_emod_of_nonneg (by omega)]; omega
      have e2 : IntKind.u64.wrap (Int.tdiv (z : Int) 128) = ((z / 128 : Nat) : Int) := by rw [u64_wrap, Int.tdiv_eq_ediv_of_nonneg (by omega)]; omega
      rw [e1, e2, ih (z / 128) (by omega) _ k (by omega) (by rw [List.length_append]; simp; omega) (by omega), e]
      simp

theorem ref_num_at {n : Int} (h : -9223372036854775808 ≤ n ∧ n ≤ 9223372036854775807) (k : Nat) (hk : 11 ≤ k) : tabulariumref01_Num.f k n = some (num n) := by
  obtain ⟨k, rfl⟩ : ∃ m, k = m + 1 := ⟨k - 1, by omega⟩
  have hl := vbs_len10 (zig_lt h)
  unfold tabulariumref01_Num.f
  simp only [tabulariumref01_Num.j0, u64_wrap]
  by_cases c : n < 0
  · rw [if_pos c, u64_ones_xor (by omega) (by omega)]
    have e : 18446744073709551615 - n % 18446744073709551616 * 2 % 18446744073709551616 = (zig n : Int) := by unfold zig; rw [if_pos c]; omega
    rw [e, ref_num_loop (zig n) [] k (zig_lt h) (by simp; omega) (by omega)]
    simp [num]
  · rw [if_neg c]
    have e : n % 18446744073709551616 * 2 % 18446744073709551616 = (zig n : Int) := by unfold zig; rw [if_neg c]; omega
    rw [e, ref_num_loop (zig n) [] k (zig_lt h) (by simp; omega) (by omega)]
    simp [num]

theorem ref_num {n : Int} (h : -9223372036854775808 ≤ n ∧ n ≤ 9223372036854775807) : Ev (fun k => tabulariumref01_Num.f k n) (num n) := ⟨11, fun k hk => ref_num_at h k hk⟩

/-! ### reading a number -/

/-- what is told at byte i, if the bytes ahead of it are all 128 or more and stand for z -/
def numFrom {α : Type} (l : List Int) (i z : Nat) (ok : Nat → Nat → α) (no : α) : α := match tkr (l.drop i) with
  | none => no
  | some (zs, s) => if 0 < i ∧ zs = 0 then no else if z + 128 ^ i * zs < 18446744073709551616 then ok (z + 128 ^ i * zs) (i + s) else no

theorem numFrom_zero {α : Type} (l : List Int) (ok : Nat → Nat → α) (no : α) : numFrom l 0 0 ok no = match tk l with
    | none => no
    | some (z, s) => ok z s := by
  unfold numFrom tk
  rw [List.drop_zero]
  cases tkr l with
  | none => rfl
  | some p =>
    obtain ⟨z, s⟩ := p
    simp only
    rw [if_neg (by omega)]
    have e : 0 + 128 ^ 0 * z = z := by omega
    rw [e, Nat.zero_add]
    by_cases h : z < 18446744073709551616
    · rw [if_pos h, if_pos h]
    · rw [if_neg h, if_neg h]

theorem numFrom_end {α : Type} (l : List Int) (i z : Nat) (ok : Nat → Nat → α) (no : α) (h : l.length ≤ i) : numFrom l i z ok no = no := by
  unfold numFrom; rw [List.drop_eq_nil_of_le h]; rfl

theorem numFrom_far {α : Type} (l : List Int) (z : Nat) (ok : Nat → Nat → α) (no : α) : numFrom l 10 z ok no = no := by
  unfold numFrom
  split
  · rfl
  · rename_i zs s _
    by_cases h : zs = 0
    · rw [if_pos ⟨by omega, h⟩]
    · rw [if_neg (by omega), if_neg (by omega)]

theorem numFrom_low {α : Type} (l : List Int) (i z : Nat) (ok : Nat → Nat → α) (no : α) (h : i < l.length) (hc : l.getD i 0 < 128) :
    numFrom l i z ok no = if 0 < i ∧ (l.getD i 0).toNat = 0 then no else if z + 128 ^ i * (l.getD i 0).toNat < 18446744073709551616 then ok (z + 128 ^ i * (l.getD i 0).toNat) (i + 1) else no := by
  unfold numFrom
  rw [drop_cons h, tkr, if_pos hc]

theorem numFrom_high {α : Type} (l : List Int) (i z : Nat) (ok : Nat → Nat → α) (no : α) (h : i < l.length) (hc : 128 ≤ l.getD i 0) :
    numFrom l i z ok no = numFrom l (i + 1) (z + 128 ^ i * ((l.getD i 0).toNat % 128)) ok no := by
  unfold numFrom
  rw [drop_cons h, tkr, if_neg (by omega)]
  cases tkr (l.drop (i + 1)) with
  | none => rfl
  | some p =>
    obtain ⟨zs, s⟩ := p
    simp only
    by_cases c : zs = 0
    · rw [if_pos c, if_pos ⟨by omega, c⟩]
    · rw [if_neg c, if_neg (by omega)]
      simp only
      rw [if_neg (by omega)]
      have e : z + 128 ^ i * ((l.getD i 0).toNat % 128 + 128 * zs) = z + 128 ^ i * ((l.getD i 0).toNat % 128) + 128 ^ (i + 1) * zs := by
        rw [Nat.pow_succ, Nat.mul_add, Nat.mul_assoc]; omega
      rw [e, show i + (s + 1) = i + 1 + s by omega]

theorem numFrom_ninth {α : Type} (l : List Int) (z : Nat) (ok : Nat → Nat → α) (no : α) (h : 9 < l.length) (hc : 1 < l.getD 9 0) : numFrom l 9 z ok no = no := by
  by_cases c : l.getD 9 0 < 128
  · rw [numFrom_low l 9 z ok no h c, if_neg (by omega), if_neg (by omega)]
  · rw [numFrom_high l 9 z ok no h (by omega), numFrom_far]

theorem mn10 (n : Nat) : mn (n : Int) 10 = ((min n 10 : Nat) : Int) := by unfold mn; split <;> omega

theorem zag_bits {z : Nat} (h : z < 18446744073709551616) : Go.bits .xor .i64 (wrap64 ((z : Int) / 2)) (wrap64 (-(wrap64 (Go.bits .and .u64 (z : Int) 1)))) = zag z := by
  rw [u64_and1 (by omega) (by omega)]
  have e1 : wrap64 ((z : Int) / 2) = ((z / 2 : Nat) : Int) := by unfold wrap64; omega
  rw [e1]
  unfold zag
  by_cases c : z % 2 = 1
  · have e2 : wrap64 (-(wrap64 ((z : Int) % 2))) = -1 := by unfold wrap64; omega
    rw [e2, i64_xor_neg (by omega) (by omega), if_pos c]
  · have e2 : wrap64 (-(wrap64 ((z : Int) % 2))) = 0 := by unfold wrap64; omega
    rw [e2, i64_xor_zero (by omega) (by omega), if_neg c]

theorem pow128 (i : Nat) : (2 : Int) ^ (7 * i) = ((128 ^ i : Nat) : Int) := by
  rw [Int.pow_mul, Int.natCast_pow]; rfl

theorem or_step {z i : Nat} {c : Int} (hz : z < 128 ^ i) (hi : i ≤ 9) (h0 : 0 ≤ c) (h1 : c < 256) (h9 : i = 9 → c ≤ 1) :
    Go.bits .or .u64 (z : Int) (shl .u64 (IntKind.u64.wrap (Go.bits .and .u8 c 127)) ((7 * i : Nat) : Int)) = ((z + 128 ^ i * (c.toNat % 128) : Nat) : Int) := by
  rw [u8_and127' h0 h1]
  have e1 : IntKind.u64.wrap (c % 128) = c % 128 := by rw [u64_wrap]; omega
  rw [e1]
  unfold shl
  have e2 : min ((7 * i : Nat) : Int).toNat IntKind.u64.bits = 7 * i := by
    rw [Int.toNat_natCast]; show min (7 * i) 64 = 7 * i; omega
  rw [e2]
  have hb : c % 128 * 2 ^ (7 * i) < 18446744073709551616 := by
    rw [pow128]
    by_cases c9 : i = 9
    · subst c9; have := h9 rfl; omega
    · have : 128 ^ i ≤ 128 ^ 8 := Nat.pow_le_pow_right (by omega) (by omega)
      have h127 : c % 128 ≤ 127 := by omega
      have : c % 128 * ((128 ^ i : Nat) : Int) ≤ 127 * ((128 ^ 8 : Nat) : Int) := Int.mul_le_mul h127 (by omega) (by omega) (by omega)
      omega
  have hn : 0 ≤ c % 128 * 2 ^ (7 * i) := Int.mul_nonneg (by omega) (by rw [pow128]; omega)
  have e3 : IntKind.u64.wrap (c % 128 * 2 ^ (7 * i)) = c % 128 * 2 ^ (7 * i) := by rw [u64_wrap]; omega
  rw [e3, u64_or_add (by omega) (by rw [pow128]; omega) (by omega) hb (by omega), pow128, Int.natCast_add, Int.natCast_mul, Int.mul_comm]
  have e4 : (c.toNat % 128 : Nat) = (c % 128).toNat := by omega
  rw [e4]
  have : ((c % 128).toNat : Int) = c % 128 := by omega
  rw [this]

theorem fit_step {z i n : Nat} (hz : z < 128 ^ i) (hi : i ≤ 9) (hn : n ≤ 127) (h9 : i = 9 → n ≤ 1) : z + 128 ^ i * n < 18446744073709551616 := by
  by_cases c : i = 9
  · subst c
    have := h9 rfl
    omega
  · have h1 : 128 ^ i ≤ 128 ^ 8 := Nat.pow_le_pow_right (by omega) (by omega)
    have h2 : 128 ^ i * n ≤ 128 ^ 8 * 127 := Nat.mul_le_mul h1 hn
    omega

def tnumR (b : ByteArray) : Int × ByteArray × Int := match tnum b with
  | none => (0, ⟨#[]⟩, 2)
  | some (n, r) => (n, r, 0)

theorem wire_take_low (b : ByteArray) (k i z : Nat) (M : Int) (hib : i < b.size) (hi9 : i ≤ 9) (hz : z < 128 ^ i) (h9 : i = 9 → bt b i ≤ 1) (c : bt b i < 128) :
    wire_TakeNum.j1 (k + 1) b (z : Int) ((7 * i : Nat) : Int) (i : Int) (bt b i) M (i : Int) false = some (numFrom (bytesOf b) i z (fun z s => (zag z, b.extract s b.size, (0 : Int))) (0, ⟨#[]⟩, 2)) := by
  have hlt : i < (bytesOf b).length := by rw [bytesOf_size]; exact hib
  have hr := bt_range b i
  have ew : wrap64 ((i : Int) + 1) = ((i + 1 : Nat) : Int) := by rw [wrap64_of (by omega) (by omega)]; omega
  have q1 : (bt b i).toNat ≤ 127 := by omega
  have q2 : i = 9 → (bt b i).toNat ≤ 1 := by intro h; have := h9 h; omega
  have p0 : (0 : Int) ≤ ((7 * i : Nat) : Int) := by omega
  have p1 : (0 : Int) ≤ ((i + 1 : Nat) : Int) := by omega
  have p2 : ((i + 1 : Nat) : Int) ≤ (b.size : Int) := by omega
  have em : (bt b i).toNat % 128 = (bt b i).toNat := by omega
  have hfit := fit_step hz hi9 q1 q2
  simp only [wire_TakeNum.j1]
  rw [if_neg (by decide), if_pos p0, or_step hz hi9 hr.1 (by omega) h9, ew, if_pos c, em, numFrom_low _ _ _ _ _ hlt (by rw [← bt_rd]; exact c), ← bt_rd, if_pos hfit, if_pos p1, if_pos p2, zag_bits hfit, Int.toNat_natCast]
  by_cases c0 : bt b i = 0
  · rw [if_pos c0]
    by_cases ci : (i : Int) > 0
    · rw [if_pos ci, if_pos ⟨by omega, by omega⟩]
    · rw [if_neg ci, if_neg (by omega)]
  · rw [if_neg c0, if_neg (by omega)]

theorem wire_take_high (b : ByteArray) (k i z : Nat) (M : Int) (hi9 : i ≤ 9) (hz : z < 128 ^ i) (h9 : i = 9 → bt b i ≤ 1) (c : ¬ bt b i < 128) :
    wire_TakeNum.j1 (k + 1) b (z : Int) ((7 * i : Nat) : Int) (i : Int) (bt b i) M (i : Int) false = wire_TakeNum.l0 k b ((z + 128 ^ i * ((bt b i).toNat % 128) : Nat) : Int) ((7 * (i + 1) : Nat) : Int) M ((i + 1 : Nat) : Int) := by
  have hr := bt_range b i
  have ew : wrap64 ((i : Int) + 1) = ((i + 1 : Nat) : Int) := by rw [wrap64_of (by omega) (by omega)]; omega
  have e7 : wrap64 (((7 * i : Nat) : Int) + 7) = ((7 * (i + 1) : Nat) : Int) := by rw [wrap64_of (by omega) (by omega)]; omega
  have p0 : (0 : Int) ≤ ((7 * i : Nat) : Int) := by omega
  simp only [wire_TakeNum.j1]
  rw [if_neg (by decide), if_pos p0, or_step hz hi9 hr.1 (by omega) h9, ew, e7, if_neg c]

theorem wire_take_loop (b : ByteArray) : ∀ (d i k z : Nat), min b.size 10 - i = d → i ≤ min b.size 10 → z < 128 ^ i → 2 * d < k →
    wire_TakeNum.l0 k b (z : Int) ((7 * i : Nat) : Int) ((min b.size 10 : Nat) : Int) (i : Int) = some (numFrom (bytesOf b) i z (fun z s => (zag z, b.extract s b.size, (0 : Int))) (0, ⟨#[]⟩, 2)) := by
  intro d
  induction d with
  | zero =>
    intro i k z hd hi hz hk
    obtain ⟨k, rfl⟩ : ∃ m, k = m + 1 := ⟨k - 1, by omega⟩
    simp only [wire_TakeNum.l0]
    rw [if_neg (by omega)]
    by_cases c : i = 10
    · subst c; rw [numFrom_far]
    · rw [numFrom_end _ _ _ _ _ (by rw [bytesOf_size]; omega)]
  | succ d ih =>
    intro i k z hd hi hz hk
    obtain ⟨k, rfl⟩ : ∃ m, k = m + 2 := ⟨k - 2, by omega⟩
    have hib : i < b.size := by omega
    have hi9 : i ≤ 9 := by omega
    have hlt : i < (bytesOf b).length := by rw [bytesOf_size]; exact hib
    simp only [wire_TakeNum.l0]
    rw [if_pos (by omega), if_pos (by omega), if_pos (by omega)]
    by_cases hn : i = 9 ∧ 1 < bt b i
    · obtain ⟨rfl, h1⟩ := hn
      rw [if_pos (by omega)]
      simp only [wire_TakeNum.j1]
      rw [decide_eq_true h1, if_pos rfl, numFrom_ninth _ _ _ _ hlt (by rw [← bt_rd]; exact h1)]
    · have h9 : i = 9 → bt b i ≤ 1 := fun h => by
        by_cases h1 : 1 < bt b i
        · exact absurd ⟨h, h1⟩ hn
        · omega
      have hj : (if (i : Int) = 9 then (wire_TakeNum.j1 (k + 1) b (z : Int) ((7 * i : Nat) : Int) (i : Int) (bt b i) ((min b.size 10 : Nat) : Int) (i : Int) (decide ((bt b i) > 1))) else (wire_TakeNum.j1 (k + 1) b (z : Int) ((7 * i : Nat) : Int) (i : Int) (bt b i) ((min b.size 10 : Nat) : Int) (i : Int) false)) = wire_TakeNum.j1 (k + 1) b (z : Int) ((7 * i : Nat) : Int) (i : Int) (bt b i) ((min b.size 10 : Nat) : Int) (i : Int) false := by
        split
        · have := h9 (by omega)
          rw [decide_eq_false (by omega)]
        · rfl
      rw [hj]
      by_cases c : bt b i < 128
      · exact wire_take_low b k i z _ hib hi9 hz h9 c
      · rw [wire_take_high b k i z _ hi9 hz h9 c, numFrom_high _ _ _ _ _ hlt (by rw [← bt_rd]; omega), ← bt_rd]
        refine ih (i + 1) k _ (by omega) (by omega) ?_ (by omega)
        have h2 : 128 ^ i * ((bt b i).toNat % 128) ≤ 128 ^ i * 127 := Nat.mul_le_mul_left _ (by omega)
        clear hj hn hk hd ih
        rw [Nat.pow_succ]
        omega

theorem wire_take_at (b : ByteArray) (k : Nat) (hk : 21 ≤ k) : wire_TakeNum.f k b = some (tnumR b) := by
  unfold wire_TakeNum.f
  rw [mn10]
  have := wire_take_loop b (min b.size 10) 0 k 0 (by omega) (by omega) (by omega) (by omega)
  refine Eq.trans this ?_
  rw [numFrom_zero]
  unfold tnumR tnum
  cases tk (bytesOf b) with
  | none => rfl
  | some p => rfl

theorem wire_take (b : ByteArray) : Ev (fun k => wire_TakeNum.f k b) (tnumR b) := ⟨21, fun k hk => wire_take_at b k hk⟩

/-! ### the reference's way -/

def tnumB (b : ByteArray) : Int × ByteArray × Bool := match tnum b with
  | none => (0, ⟨#[]⟩, false)
  | some (n, r) => (n, r, true)

theorem pv_take_step (l : List Int) (i : Nat) (h : i < l.length) : pv (l.take (i + 1)) = pv (l.take i) + 128 ^ i * ((l.getD i 0).toNat % 128) := by
  rw [take_snoc h, pv_append, List.length_take, Nat.min_eq_left (by omega)]
  simp [pv]

/-- some bytes' value, from one of them on upward -/
def up (l : List Int) (i n : Nat) : Nat := pv ((l.take (i + n)).drop i)

theorem up_step (l : List Int) (i n : Nat) (h : i < l.length) : up l i (n + 1) = (l.getD i 0).toNat % 128 + 128 * up l (i + 1) n := by
  unfold up
  rw [show i + (n + 1) = i + 1 + n by omega]
  have h1 : i < (l.take (i + 1 + n)).length := by rw [List.length_take]; omega
  rw [drop_cons h1, pv]
  congr 1
  have : (l.take (i + 1 + n)).getD i 0 = l.getD i 0 := by
    rw [List.getD_eq_getElem?_getD, List.getD_eq_getElem?_getD, List.getElem?_take_of_lt (by omega)]
  rw [this]

theorem up_zero (l : List Int) (n : Nat) : up l 0 n = pv (l.take n) := by unfold up; rw [Nat.zero_add, List.drop_zero]
theorem up_none (l : List Int) (i : Nat) : up l i 0 = 0 := by
  unfold up
  rw [Nat.add_zero, List.drop_eq_nil_of_le (by rw [List.length_take]; omega)]
  rfl

/-- what the reference tells of s bytes whose value, modulo 2 ^ 64, is v -/
def refEnd (b : ByteArray) (s v : Nat) : Int × ByteArray × Bool := if (bytesOf b).take s = vbs v then (zag v, b.extract s b.size, true) else (0, ⟨#[]⟩, false)

theorem ref_zag_odd {v : Nat} (h : v < 18446744073709551616) (c : v % 2 = 1) : wrap64 ((wrap64 (-(wrap64 (IntKind.u64.wrap (Int.tdiv (v : Int) 2))))) - 1) = zag v := by
  rw [Int.tdiv_eq_ediv_of_nonneg (by omega), u64_wrap]
  have e : (v : Int) / 2 % 18446744073709551616 = ((v / 2 : Nat) : Int) := by omega
  rw [e, wrap64_of (n := ((v / 2 : Nat) : Int)) (by omega) (by omega), wrap64_of (n := -((v / 2 : Nat) : Int)) (by omega) (by omega), wrap64_of (by omega) (by omega)]
  unfold zag
  rw [if_pos c]

theorem ref_zag_even {v : Nat} (h : v < 18446744073709551616) (c : ¬ v % 2 = 1) : wrap64 (IntKind.u64.wrap (Int.tdiv (v : Int) 2)) = zag v := by
  rw [Int.tdiv_eq_ediv_of_nonneg (by omega), u64_wrap]
  have e : (v : Int) / 2 % 18446744073709551616 = ((v / 2 : Nat) : Int) := by omega
  rw [e, wrap64_of (n := ((v / 2 : Nat) : Int)) (by omega) (by omega)]
  unfold zag
  rw [if_neg c]

theorem ref_cmp (b : ByteArray) (s v : Nat) (hs : s ≤ b.size) : ((num (zag v)).toList = (b.extract 0 s).toList) ↔ (bytesOf b).take s = vbs v := by
  rw [toList_iff, bytes_num, zig_zag, bytesOf_extract, List.drop_zero, Nat.sub_zero]
  exact eq_comm

theorem ref_end (b : ByteArray) (s v k : Nat) (hs : s ≤ b.size) (hv : v < 18446744073709551616) (hk : 12 ≤ k) :
    tabulariumref01_TakeNum.l1 k b (s : Int) (v : Int) (-1) = some (refEnd b s v) := by
  obtain ⟨k, rfl⟩ : ∃ m, k = m + 1 := ⟨k - 1, by omega⟩
  have hz := zag_range hv
  have q1 : (0 : Int) ≤ (s : Int) := by omega
  have q2 : (s : Int) ≤ (b.size : Int) := by omega
  have hm : Int.tmod (v : Int) 2 = ((v % 2 : Nat) : Int) := by rw [Int.tmod_eq_emod_of_nonneg (by omega)]; omega
  simp only [tabulariumref01_TakeNum.l1]
  rw [if_neg (by decide), hm]
  unfold refEnd
  by_cases c : v % 2 = 1
  · have cc : ((v % 2 : Nat) : Int) = 1 := by omega
    rw [if_pos cc, ref_zag_odd hv c, ref_num_at hz k (by omega)]
    simp only [Option.bind_some]
    rw [if_pos q1, if_pos q2, Int.toNat_natCast]
    by_cases e : (bytesOf b).take s = vbs v
    · rw [if_pos ((ref_cmp b s v hs).2 e), if_pos e]
    · rw [if_neg (fun h => e ((ref_cmp b s v hs).1 h)), if_neg e]
  · have cc : ¬ ((v % 2 : Nat) : Int) = 1 := by omega
    rw [if_neg cc, ref_zag_even hv c, ref_num_at hz k (by omega)]
    simp only [Option.bind_some]
    rw [if_pos q1, if_pos q2, Int.toNat_natCast]
    by_cases e : (bytesOf b).take s = vbs v
    · rw [if_pos ((ref_cmp b s v hs).2 e), if_pos e]
    · rw [if_neg (fun h => e ((ref_cmp b s v hs).1 h)), if_neg e]

theorem ref_horner_step {v : Nat} {c : Int} (h0 : 0 ≤ c) (h1 : c < 256) :
    IntKind.u64.wrap ((IntKind.u64.wrap ((v : Int) * 128)) + (IntKind.u64.wrap (Int.tmod c 128))) = (((c.toNat % 128 + 128 * v) % 18446744073709551616 : Nat) : Int) := by
  rw [Int.tmod_eq_emod_of_nonneg h0, u64_wrap, u64_wrap, u64_wrap]
  omega

theorem ref_horner (b : ByteArray) (s : Nat) (hs : s ≤ b.size) (h10 : s ≤ 10) : ∀ (i k : Nat), i ≤ s → 12 + i ≤ k →
    tabulariumref01_TakeNum.l1 k b (s : Int) ((up (bytesOf b) i (s - i) % 18446744073709551616 : Nat) : Int) ((i : Int) - 1) = some (refEnd b s (pv ((bytesOf b).take s) % 18446744073709551616)) := by
  intro i
  induction i with
  | zero =>
    intro k hi hk
    rw [up_zero, Nat.sub_zero]
    exact ref_end b s _ k hs (by omega) (by omega)
  | succ i ih =>
    intro k hi hk
    obtain ⟨k, rfl⟩ : ∃ m, k = m + 1 := ⟨k - 1, by omega⟩
    have hlt : i < (bytesOf b).length := by rw [bytesOf_size]; omega
    have e0 : ((i + 1 : Nat) : Int) - 1 = (i : Int) := by omega
    have hr := bt_range b i
    have q1 : (0 : Int) ≤ (i : Int) := by omega
    have q2 : (i : Int) < (b.size : Int) := by omega
    have e1 : wrap64 ((i : Int) - 1) = (i : Int) - 1 := wrap64_of (by omega) (by omega)
    have hu := up_step (bytesOf b) i (s - (i + 1)) hlt
    rw [show s - (i + 1) + 1 = s - i by omega, ← bt_rd] at hu
    have ih' := ih k (by omega) (by omega)
    rw [hu] at ih'
    rw [e0]
    simp only [tabulariumref01_TakeNum.l1]
    rw [if_pos (show (i : Int) ≥ 0 from q1), if_pos q1, if_pos q2, ref_horner_step hr.1 (by omega), e1]
    have em : ((bt b i).toNat % 128 + 128 * (up (bytesOf b) (i + 1) (s - (i + 1)) % 18446744073709551616)) % 18446744073709551616 = ((bt b i).toNat % 128 + 128 * up (bytesOf b) (i + 1) (s - (i + 1))) % 18446744073709551616 := by
      generalize up (bytesOf b) (i + 1) (s - (i + 1)) = u
      clear hu ih' ih hr e1
      omega
    rw [em]
    exact ih'

theorem refEnd_low (b : ByteArray) (i : Nat) (hi9 : i ≤ 9) (hib : i < b.size) (hall : ∀ j, j < i → 128 ≤ bt b j) (c : bt b i < 128) :
    refEnd b (i + 1) (pv ((bytesOf b).take (i + 1)) % 18446744073709551616) = numFrom (bytesOf b) i (pv ((bytesOf b).take i)) (fun z s => (zag z, b.extract s b.size, true)) (0, ⟨#[]⟩, false) := by
  have hlt : i < (bytesOf b).length := by rw [bytesOf_size]; exact hib
  have hr := bt_range b i
  have em : (bt b i).toNat % 128 = (bt b i).toNat := by omega
  have hpv := pv_take_step (bytesOf b) i hlt
  rw [← bt_rd, em] at hpv
  rw [numFrom_low _ _ _ _ _ hlt (by rw [← bt_rd]; exact c), ← bt_rd, ← hpv]
  have hall2 : ∀ j, j < i → ¬ (bytesOf b).getD j 0 < 128 := fun j hj h => by
    have := hall j hj
    rw [bt_rd] at this
    omega
  have htk : ∀ j, j ≤ i → tkr (((bytesOf b).drop (i - j))) = if 0 < j ∧ bt b i = 0 then none else some (up (bytesOf b) (i - j) (j + 1), j + 1) := by
    intro j
    induction j with
    | zero =>
      intro _
      rw [Nat.sub_zero, drop_cons hlt, tkr, if_pos (by rw [← bt_rd]; exact c), if_neg (by omega), up_step _ _ _ hlt, up_none, ← bt_rd, em]
      rfl
    | succ j ihj =>
      intro hj
      have hl2 : i - (j + 1) < (bytesOf b).length := by omega
      rw [drop_cons hl2, tkr, if_neg (hall2 _ (by omega)), show i - (j + 1) + 1 = i - j by omega, ihj (by omega), up_step _ _ (j + 1) hl2, show i - (j + 1) + 1 = i - j by omega]
      by_cases c0 : bt b i = 0
      · rw [if_pos (show 0 < j + 1 ∧ bt b i = 0 from ⟨by omega, c0⟩)]
        by_cases cj : 0 < j
        · rw [if_pos ⟨cj, c0⟩]
        · rw [if_neg (by omega)]
          simp only
          obtain rfl : j = 0 := by omega
          rw [Nat.sub_zero, up_step _ _ _ hlt, up_none, ← bt_rd, if_pos (by omega)]
      · rw [if_neg (by omega), if_neg (by omega)]
        simp only
        have hne : up (bytesOf b) (i - j) (j + 1) ≠ 0 := by
          clear ihj
          have : ∀ q, q ≤ i → up (bytesOf b) (i - q) (q + 1) ≠ 0 := by
            intro q
            induction q with
            | zero => intro _; rw [Nat.sub_zero, up_step _ _ _ hlt, up_none, ← bt_rd]; omega
            | succ q ihq =>
              intro hq
              have := ihq (by omega)
              rw [up_step _ _ _ (by omega), show i - (q + 1) + 1 = i - q by omega]
              omega
          exact this j (by omega)
        rw [if_neg hne]
  have ht := htk i (by omega)
  rw [Nat.sub_self, List.drop_zero, up_zero] at ht
  unfold refEnd
  by_cases c0 : 0 < i ∧ bt b i = 0
  · refine Eq.trans (if_neg ?_) (if_pos ⟨c0.1, by omega⟩).symm
    intro h
    have := tkr_vbs (pv ((bytesOf b).take (i + 1)) % 18446744073709551616) ((bytesOf b).drop (i + 1))
    rw [← h, List.take_append_drop, ht, if_pos c0] at this
    cases this
  · rw [if_neg (show ¬ (0 < i ∧ (bt b i).toNat = 0) by omega)]
    rw [if_neg c0] at ht
    obtain ⟨h1, _, _⟩ := tkr_back _ (by_bytesOf b) _ _ ht
    by_cases hf : pv ((bytesOf b).take (i + 1)) < 18446744073709551616
    · rw [if_pos hf, Nat.mod_eq_of_lt hf, if_pos h1]
    · rw [if_neg hf, if_neg]
      intro h
      have := vbs_inj (h1.symm.trans h)
      omega

theorem ref_take_loop (b : ByteArray) (hb : b.size ≤ 140737488351232) : ∀ (d i k : Nat), min b.size 10 - i = d → i ≤ min b.size 10 → (∀ j, j < i → 128 ≤ bt b j) → 2 * d + 30 < k →
    tabulariumref01_TakeNum.l0 k b ((i + 1 : Nat) : Int) = some (numFrom (bytesOf b) i (pv ((bytesOf b).take i)) (fun z s => (zag z, b.extract s b.size, true)) (0, ⟨#[]⟩, false)) := by
  intro d
  induction d with
  | zero =>
    intro i k hd hi _ hk
    obtain ⟨k, rfl⟩ : ∃ m, k = m + 2 := ⟨k - 2, by omega⟩
    simp only [tabulariumref01_TakeNum.l0]
    have hstop : tabulariumref01_TakeNum.j1 (k + 1) b ((i + 1 : Nat) : Int) false = some (0, (⟨#[]⟩ : ByteArray), false) := by
      simp only [tabulariumref01_TakeNum.j1]
      rw [if_neg (by decide)]
    by_cases c : i = 10
    · rw [if_neg (by omega), hstop]
      subst c; rw [numFrom_far]
    · rw [if_pos (by omega), decide_eq_false (by omega), hstop, numFrom_end _ _ _ _ _ (by rw [bytesOf_size]; omega)]
  | succ d ih =>
    intro i k hd hi hall hk
    obtain ⟨k, rfl⟩ : ∃ m, k = m + 2 := ⟨k - 2, by omega⟩
    have hib : i < b.size := by omega
    have hi9 : i ≤ 9 := by omega
    have hlt : i < (bytesOf b).length := by rw [bytesOf_size]; exact hib
    have e1 : wrap64 (((i + 1 : Nat) : Int) - 1) = (i : Int) := by rw [wrap64_of (by omega) (by omega)]; omega
    have e2 : wrap64 (((i + 1 : Nat) : Int) + 1) = ((i + 1 + 1 : Nat) : Int) := by rw [wrap64_of (by omega) (by omega)]; omega
    simp only [tabulariumref01_TakeNum.l0]
    rw [if_pos (by omega), decide_eq_true (by omega)]
    simp only [tabulariumref01_TakeNum.j1]
    rw [if_pos trivial, e1, e2, if_pos (by omega), if_pos (by omega)]
    by_cases c : bt b i < 128
    · rw [if_neg (by omega)]
      have hh := ref_horner b (i + 1) (by omega) (by omega) (i + 1) k (by omega) (by omega)
      rw [Nat.sub_self, up_none, show ((i + 1 : Nat) : Int) - 1 = (i : Int) by omega] at hh
      refine Eq.trans hh ?_
      rw [refEnd_low b i hi9 hib hall c]
    · rw [if_pos (by omega), numFrom_high _ _ _ _ _ hlt (by rw [← bt_rd]; omega), ← pv_take_step _ _ hlt]
      refine ih (i + 1) k (by omega) (by omega) ?_ (by omega)
      intro j hj
      by_cases cj : j = i
      · subst cj; omega
      · exact hall j (by omega)

theorem ref_take_at (b : ByteArray) (hb : b.size ≤ 140737488351232) (k : Nat) (hk : 60 ≤ k) : tabulariumref01_TakeNum.f k b = some (tnumB b) := by
  unfold tabulariumref01_TakeNum.f
  have := ref_take_loop b hb (min b.size 10) 0 k (by omega) (by omega) (fun j hj => absurd hj (by omega)) (by omega)
  refine Eq.trans this ?_
  rw [List.take_zero]
  rw [show pv [] = 0 from rfl, numFrom_zero]
  unfold tnumB tnum
  cases tk (bytesOf b) with
  | none => rfl
  | some p => rfl

theorem ref_take (b : ByteArray) (hb : b.size ≤ 140737488351232) : Ev (fun k => tabulariumref01_TakeNum.f k b) (tnumB b) := ⟨60, fun k hk => ref_take_at b hb k hk⟩

end Go.Proofs.Ytljllecpmllefaa.Sp
end

section

namespace Go.Proofs.Ytljllecpmllefaa.Sp
open Go.RowKit Go.Proofs.YtljllecpmllefaaW.PrintWords Go.Proofs.YtljllecpmllefaaW.PrintLast Go.Proofs.YtljllecpmllefaaW.PrintMore Go.Proofs.Ytljllecpmllefaa.P
set_option linter.unusedVariables false

/-- a text's bytes -/
def text (s : ByteArray) : Option ByteArray := if 4000 < s.size then none else some (num s.size ++ s)
/-- the text at the beginning -/
def ttext (b : ByteArray) : Option (ByteArray × ByteArray) := match tnum b with
  | none => none
  | some (n, r) => if n < 0 ∨ 4000 < n ∨ (r.size : Int) < n then none else some (r.extract 0 n.toNat, r.extract n.toNat r.size)

def textW (s : ByteArray) : ByteArray × Int := match text s with | none => (⟨#[]⟩, 4) | some b => (b, 0)
def textR (s : ByteArray) : ByteArray × Bool := match text s with | none => (⟨#[]⟩, false) | some b => (b, true)
def ttextW (b : ByteArray) : ByteArray × ByteArray × Int := match ttext b with | none => (⟨#[]⟩, ⟨#[]⟩, 2) | some (s, r) => (s, r, 0)
def ttextR (b : ByteArray) : ByteArray × ByteArray × Bool := match ttext b with | none => (⟨#[]⟩, ⟨#[]⟩, false) | some (s, r) => (s, r, true)

theorem num_size_le {n : Int} (h : -9223372036854775808 ≤ n ∧ n ≤ 9223372036854775807) : (num n).size ≤ 10 := by rw [num_size]; exact vbs_len10 (zig_lt h)

theorem wire_text_at (s : ByteArray) (hs : s.size ≤ 140737488355328) (k : Nat) (hk : 10 ≤ k) : wire_Text.f k s = some (textW s) := by
  have hr : -9223372036854775808 ≤ (s.size : Int) ∧ (s.size : Int) ≤ 9223372036854775807 := by omega
  have hz := num_size_le hr
  unfold wire_Text.f textW text
  by_cases c : 4000 < s.size
  · rw [if_pos (by omega), if_pos c]
  · rw [if_neg (by omega), wire_num_at hr k hk, if_neg c]
    simp only [Option.bind_some]
    rw [if_pos (by omega)]

theorem ref_text_at (s : ByteArray) (hs : s.size ≤ 140737488355328) (k : Nat) (hk : 11 ≤ k) : tabulariumref01_Text.f k s = some (textR s) := by
  have hr : -9223372036854775808 ≤ (s.size : Int) ∧ (s.size : Int) ≤ 9223372036854775807 := by omega
  have hz := num_size_le hr
  unfold tabulariumref01_Text.f textR text
  by_cases c : 4000 < s.size
  · rw [if_pos (by omega), if_pos c]
  · rw [if_neg (by omega), ref_num_at hr k hk, if_neg c]
    simp only [Option.bind_some]
    rw [if_pos (by omega)]

theorem wire_ttext_at (b : ByteArray) (k : Nat) (hk : 21 ≤ k) : wire_TakeText.f k b = some (ttextW b) := by
  unfold wire_TakeText.f ttextW ttext
  rw [wire_take_at b k hk]
  unfold tnumR
  cases e : tnum b with
  | none => simp
  | some p =>
    obtain ⟨n, r⟩ := p
    simp only [Option.bind_some]
    rw [if_pos trivial]
    unfold mn
    by_cases c1 : n < 0
    · rw [if_pos c1, if_pos (.inl c1)]
    · rw [if_neg c1]
      by_cases c2 : 4000 < n ∨ (r.size : Int) < n
      · rw [if_pos (show n < 0 ∨ 4000 < n ∨ (r.size : Int) < n from .inr c2), if_pos (show n > (if (r.size : Int) < 4000 then (r.size : Int) else 4000) by split <;> omega)]
      · rw [if_neg (show ¬ (n < 0 ∨ 4000 < n ∨ (r.size : Int) < n) by omega), if_neg (show ¬ n > (if (r.size : Int) < 4000 then (r.size : Int) else 4000) by split <;> omega), if_pos (by omega), if_pos (by omega)]

theorem ref_ttext_at (b : ByteArray) (hb : b.size ≤ 140737488351232) (k : Nat) (hk : 60 ≤ k) : tabulariumref01_TakeText.f k b = some (ttextR b) := by
  unfold tabulariumref01_TakeText.f ttextR ttext
  rw [ref_take_at b hb k hk]
  unfold tnumB
  cases e : tnum b with
  | none => simp
  | some p =>
    obtain ⟨n, r⟩ := p
    simp only [Option.bind_some]
    rw [if_pos trivial]
    by_cases c1 : n < 0
    · rw [if_pos c1, if_pos (.inl c1)]
    · rw [if_neg c1]
      by_cases c2 : 4000 < n
      · rw [if_pos c2, if_pos (.inr (.inl c2))]
      · rw [if_neg c2]
        by_cases c3 : (r.size : Int) < n
        · rw [if_pos c3, if_pos (.inr (.inr c3))]
        · rw [if_neg c3, if_neg (show ¬ (n < 0 ∨ 4000 < n ∨ (r.size : Int) < n) by omega), if_pos (by omega), if_pos (by omega)]

theorem ttext_text {s t : ByteArray} (h : text s = some t) (r : ByteArray) : ttext (t ++ r) = some (s, r) := by
  unfold text at h
  by_cases c : 4000 < s.size
  · rw [if_pos c] at h; cases h
  · rw [if_neg c] at h
    obtain rfl := Option.some.inj h
    unfold ttext
    rw [ByteArray.append_assoc, tnum_num (by omega)]
    simp only
    rw [ByteArray.size_append, if_neg (by omega), Int.toNat_natCast]
    congr 2
    · refine bytes_ext ?_
      rw [bytesOf_extract, bytesOf_append, List.drop_zero, Nat.sub_zero, List.take_left' (bytesOf_size s)]
    · refine bytes_ext ?_
      rw [bytesOf_extract, bytesOf_append, List.drop_left' (bytesOf_size s), List.take_of_length_le (by rw [bytesOf_size]; omega)]

theorem ttext_back {b s r : ByteArray} (h : ttext b = some (s, r)) : ∃ t, text s = some t ∧ b = t ++ r := by
  unfold ttext at h
  split at h
  · cases h
  · rename_i n q e
    split at h
    · cases h
    · rename_i hc
      obtain ⟨rfl, rfl⟩ : q.extract 0 n.toNat = s ∧ q.extract n.toNat q.size = r := by simpa using h
      obtain ⟨hb, hn⟩ := tnum_back e
      have hs : (q.extract 0 n.toNat).size = n.toNat := by rw [ByteArray.size_extract]; omega
      refine ⟨num n ++ q.extract 0 n.toNat, ?_, ?_⟩
      · unfold text
        rw [hs, if_neg (by omega)]
        have : ((n.toNat : Nat) : Int) = n := by omega
        rw [this]
      · rw [hb, ByteArray.append_assoc]
        congr 1
        refine bytes_ext ?_
        rw [bytesOf_append, bytesOf_extract, bytesOf_extract, List.drop_zero, Nat.sub_zero]
        rw [List.take_of_length_le (l := (bytesOf q).drop n.toNat) (by rw [List.length_drop, bytesOf_size]; omega), List.take_append_drop]

end Go.Proofs.Ytljllecpmllefaa.Sp
end
