/- Plain facts on the bytes of numbers: how a number is written in bytes of seven bits, and how it is read back. No program in sight. -/
import Derived.Test.YtjailboidlmadaaWMore
import Derived.Lib.Strings
import Derived.Laws.BitsAllLaws
import Derived.IntWalk
import Derived.Test.YtjailboidlmadaaPx6
import Derived.Test.YtjailboidlmadaaRG
import Derived.Test.YtjailboidlmadaaPx10
import Derived.Test.YtjailboidlmadaaPx12
section

namespace Go.Proofs.Ytjailboidlmadaa.Sp
open Go.RowKit Go.Proofs.YtjailboidlmadaaW.PrintWords Go.Proofs.YtjailboidlmadaaW.PrintLast Go.Proofs.YtjailboidlmadaaW.PrintMore

theorem wrap64_of {n : Int} (h0 : -9223372036854775808 ≤ n) (h1 : n ≤ 9223372036854775807) : wrap64 n = n := by unfold wrap64; omega

def By (l : List Int) : Prop := ∀ x ∈ l, 0 ≤ x ∧ x < 256

theorem By.tail {x : Int} {l : List Int} (h : By (x :: l)) : By l := fun y hy => h y (List.mem_cons_of_mem _ hy)
theorem By.head {x : Int} {l : List Int} (h : By (x :: l)) : 0 ≤ x ∧ x < 256 := h x List.mem_cons_self
theorem By.drop {l : List Int} (h : By l) (n : Nat) : By (l.drop n) := fun y hy => h y (List.mem_of_mem_drop hy)
theorem By.take {l : List Int} (h : By l) (n : Nat) : By (l.take n) := fun y hy => h y (List.mem_of_mem_take hy)
theorem By.append {l m : List Int} (h : By l) (h' : By m) : By (l ++ m) := fun y hy => (List.mem_append.1 hy).elim (h y) (h' y)

theorem by_bytesOf (s : ByteArray) : By (bytesOf s) := by
  intro x hx
  unfold bytesOf at hx
  obtain ⟨c, _, rfl⟩ := List.mem_map.1 hx
  have := c.toNat_lt
  omega

theorem bytesOf_strOfNums {l : List Int} (h : By l) : bytesOf (strOfNums l) = l := by
  unfold bytesOf
  rw [strOfNums_data, List.map_map]
  conv => rhs; rw [← List.map_id l]
  refine List.map_congr_left fun x hx => ?_
  have := h x hx
  simp only [Function.comp, id]
  rw [UInt8.toNat_ofNat_of_lt' (by show x.toNat < 256; omega)]
  omega

theorem strOfNums_bytesOf (s : ByteArray) : strOfNums (bytesOf s) = s := by
  unfold bytesOf strOfNums
  rw [List.map_map]
  have : (List.map ((fun n : Int => UInt8.ofNat n.toNat) ∘ fun b : UInt8 => (b.toNat : Int)) s.data.toList) = s.data.toList := by
    conv => rhs; rw [← List.map_id s.data.toList]
    refine List.map_congr_left fun x _ => ?_
    simp
  rw [this]

theorem bytes_ext {a b : ByteArray} (h : bytesOf a = bytesOf b) : a = b := by
  rw [← strOfNums_bytesOf a, ← strOfNums_bytesOf b, h]

theorem toList_iff (a b : ByteArray) : a.toList = b.toList ↔ bytesOf a = bytesOf b := by
  rw [ByteArray.toList_eq, ByteArray.toList_eq]
  constructor
  · intro h; unfold bytesOf; rw [h]
  · intro h; rw [bytes_ext h]

theorem toList_inj {a b : ByteArray} (h : a.toList = b.toList) : a = b := bytes_ext ((toList_iff a b).1 h)

theorem bytesOf_extract (s : ByteArray) (a b : Nat) : bytesOf (s.extract a b) = ((bytesOf s).drop a).take (b - a) := by
  unfold bytesOf
  rw [Lib.extract_data, List.map_take, List.map_drop]

theorem bytesOf_size (s : ByteArray) : (bytesOf s).length = s.size := bytesOf_length s

theorem bytesOf_append (a b : ByteArray) : bytesOf (a ++ b) = bytesOf a ++ bytesOf b := by
  unfold bytesOf
  rw [ByteArray.data_append, Array.toList_append, List.map_append]

theorem bytesOf_nil : bytesOf (⟨#[]⟩ : ByteArray) = [] := rfl

theorem bt_rd (s : ByteArray) (i : Nat) : bt s (i : Int) = (bytesOf s).getD i 0 := by
  rw [← rd_bytesOf]; unfold rd; simp

theorem drop_cons {l : List Int} {i : Nat} (h : i < l.length) : l.drop i = l.getD i 0 :: l.drop (i + 1) := by
  rw [List.drop_eq_getElem_cons h, List.getD_eq_getElem?_getD, List.getElem?_eq_getElem h]; rfl

theorem take_snoc {l : List Int} {i : Nat} (h : i < l.length) : l.take (i + 1) = l.take i ++ [l.getD i 0] := by
  rw [List.take_succ_eq_append_getElem h, List.getD_eq_getElem?_getD, List.getElem?_eq_getElem h]; rfl

/-- the value of some bytes of seven bits each -/
def pv : List Int → Nat
  | [] => 0
  | x :: xs => x.toNat % 128 + 128 * pv xs

theorem pv_append (l m : List Int) : pv (l ++ m) = pv l + 128 ^ l.length * pv m := by
  induction l with
  | nil => simp [pv]
  | cons x l ih =>
    rw [List.cons_append, pv, pv, ih, List.length_cons, Nat.mul_add, Nat.pow_succ, ← Nat.mul_assoc, Nat.mul_comm 128 (128 ^ l.length)]
    omega

theorem pv_lt (l : List Int) : pv l < 128 ^ l.length := by
  induction l with
  | nil => simp [pv]
  | cons x l ih =>
    rw [pv, List.length_cons, Nat.pow_succ]
    omega

/-- a number's bytes -/
def vbs (z : Nat) : List Int := if z < 128 then [(z : Int)] else ((z % 128 + 128 : Nat) : Int) :: vbs (z / 128)
  termination_by z
  decreasing_by omega

theorem vbs_lt {z : Nat} (h : z < 128) : vbs z = [(z : Int)] := by rw [vbs, if_pos h]
theorem vbs_ge {z : Nat} (h : 128 ≤ z) : vbs z = ((z % 128 + 128 : Nat) : Int) :: vbs (z / 128) := by rw [vbs, if_neg (by omega)]

theorem vbs_by (z : Nat) : By (vbs z) := by
  induction z using Nat.strongRecOn with
  | _ z ih =>
    by_cases h : z < 128
    · rw [vbs_lt h]; intro x hx; simp at hx; omega
    · rw [vbs_ge (by omega)]
      intro x hx
      rcases List.mem_cons.1 hx with rfl | hx
      · omega
      · exact ih (z / 128) (by omega) x hx

theorem vbs_ne (z : Nat) : vbs z ≠ [] := by
  by_cases h : z < 128
  · rw [vbs_lt h]; simp
  · rw [vbs_ge (by omega)]; simp

theorem vbs_pos (z : Nat) : 1 ≤ (vbs z).length := by
  have := vbs_ne z
  cases h : vbs z with
  | nil => exact absurd h this
  | cons => simp

theorem vbs_len (n : Nat) : ∀ z, 0 < n → z < 128 ^ n → (vbs z).length ≤ n := by
  induction n with
  | zero => intro z h; omega
  | succ n ih =>
    intro z _ hz
    by_cases h : z < 128
    · rw [vbs_lt h]; simp
    · rw [vbs_ge (by omega), List.length_cons]
      have : n ≠ 0 := by rintro rfl; simp at hz; omega
      have := ih (z / 128) (by omega) (by rw [Nat.pow_succ] at hz; omega)
      omega

theorem vbs_len_ge (n : Nat) : ∀ z, 128 ^ n ≤ z → n + 1 ≤ (vbs z).length := by
  induction n with
  | zero => intro z _; exact vbs_pos z
  | succ n ih =>
    intro z hz
    rw [Nat.pow_succ] at hz
    have : 0 < 128 ^ n := Nat.pow_pos (by omega)
    rw [vbs_ge (by omega), List.length_cons]
    have := ih (z / 128) (by omega)
    omega

theorem vbs_len10 {z : Nat} (h : z < 18446744073709551616) : (vbs z).length ≤ 10 := vbs_len 10 z (by omega) (by omega)

theorem pv_vbs (z : Nat) : pv (vbs z) = z := by
  induction z using Nat.strongRecOn with
  | _ z ih =>
    by_cases h : z < 128
    · rw [vbs_lt h]; simp [pv]; omega
    · rw [vbs_ge (by omega), pv, ih (z / 128) (by omega)]
      omega

theorem vbs_inj {a b : Nat} (h : vbs a = vbs b) : a = b := by rw [← pv_vbs a, ← pv_vbs b, h]

/-- the number at the beginning, however great, and how many bytes it has -/
def tkr : List Int → Option (Nat × Nat)
  | [] => none
  | x :: xs => if x < 128 then some (x.toNat, 1) else match tkr xs with
    | none => none
    | some (z, s) => if z = 0 then none else some (x.toNat % 128 + 128 * z, s + 1)

theorem tkr_vbs (z : Nat) : ∀ r, tkr (vbs z ++ r) = some (z, (vbs z).length) := by
  induction z using Nat.strongRecOn with
  | _ z ih =>
    intro r
    by_cases h : z < 128
    · rw [vbs_lt h]; simp [tkr]; omega
    · rw [vbs_ge (by omega), List.cons_append, tkr, if_neg (by omega), ih (z / 128) (by omega)]
      simp only
      rw [if_neg (by omega), List.length_cons]
      congr 2
      omega

theorem tkr_back : ∀ (l : List Int), By l → ∀ z s, tkr l = some (z, s) → l.take s = vbs z ∧ s = (vbs z).length ∧ s ≤ l.length := by
  intro l
  induction l with
  | nil => intro _ z s h; simp [tkr] at h
  | cons x l ih =>
    intro hb z s h
    rw [tkr] at h
    have hx := hb.head
    by_cases c : x < 128
    · rw [if_pos c] at h
      obtain ⟨rfl, rfl⟩ : x.toNat = z ∧ 1 = s := by simpa using h
      rw [vbs_lt (by omega)]
      simp
      omega
    · rw [if_neg c] at h
      cases e : tkr l with
      | none => rw [e] at h; simp at h
      | some p =>
        obtain ⟨z', s'⟩ := p
        rw [e] at h
        simp only at h
        by_cases c0 : z' = 0
        · rw [if_pos c0] at h; simp at h
        · rw [if_neg c0] at h
          obtain ⟨rfl, rfl⟩ : x.toNat % 128 + 128 * z' = z ∧ s' + 1 = s := by simpa using h
          obtain ⟨h1, h2, h3⟩ := ih hb.tail z' s' e
          have hq : (x.toNat % 128 + 128 * z') / 128 = z' := by omega
          rw [vbs_ge (by omega), hq, List.take_succ_cons, h1, List.length_cons, List.length_cons]
          refine ⟨?_, by omega, by omega⟩
          congr 1
          omega

/-- the number at the beginning, below 2 ^ 64 -/
def tk (l : List Int) : Option (Nat × Nat) := match tkr l with
  | none => none
  | some (z, s) => if z < 18446744073709551616 then some (z, s) else none

theorem tk_vbs {z : Nat} (h : z < 18446744073709551616) (r : List Int) : tk (vbs z ++ r) = some (z, (vbs z).length) := by
  rw [tk, tkr_vbs]; simp only; rw [if_pos h]

theorem tk_back {l : List Int} (hb : By l) {z s : Nat} (h : tk l = some (z, s)) : l.take s = vbs z ∧ s = (vbs z).length ∧ s ≤ l.length ∧ z < 18446744073709551616 := by
  unfold tk at h
  split at h
  · cases h
  · rename_i z' s' e
    split at h
    · obtain ⟨rfl, rfl⟩ : z' = z ∧ s' = s := by simpa using h
      obtain ⟨a, b, c⟩ := tkr_back l hb _ _ e
      exact ⟨a, b, c, by assumption⟩
    · cases h

theorem tk_eq {l : List Int} (hb : By l) {z s : Nat} (h : tk l = some (z, s)) : l = vbs z ++ l.drop s := by
  rw [← (tk_back hb h).1, List.take_append_drop]

/-- what is cut off in a number's bytes is none -/
theorem tkr_cut (z : Nat) : ∀ n, n < (vbs z).length → tkr ((vbs z).take n) = none := by
  induction z using Nat.strongRecOn with
  | _ z ih =>
    intro n hn
    by_cases h : z < 128
    · rw [vbs_lt h] at hn ⊢
      obtain rfl : n = 0 := by simp at hn; omega
      rfl
    · rw [vbs_ge (by omega)] at hn ⊢
      cases n with
      | zero => rfl
      | succ n =>
        rw [List.take_succ_cons, tkr, if_neg (by omega), ih (z / 128) (by omega) n (by rw [List.length_cons] at hn; omega)]

theorem tk_cut {z n : Nat} (h : n < (vbs z).length) : tk ((vbs z).take n) = none := by rw [tk, tkr_cut z n h]

/-- no number's bytes are the beginning of another one's -/
theorem vbs_apart {a b : Nat} {r s : List Int} (h : vbs a ++ r = vbs b ++ s) : a = b ∧ r = s := by
  have e := tkr_vbs a r
  rw [h, tkr_vbs b s] at e
  obtain ⟨rfl, _⟩ : b = a ∧ _ := by simpa using e
  exact ⟨rfl, List.append_cancel_left h⟩

/-- numbers turned into those from 0 on, and back -/
def zig (n : Int) : Nat := if n < 0 then (-2 * n - 1).toNat else (2 * n).toNat
def zag (z : Nat) : Int := if z % 2 = 1 then -((z / 2 : Nat) : Int) - 1 else ((z / 2 : Nat) : Int)

theorem zag_zig (n : Int) : zag (zig n) = n := by unfold zag zig; split <;> split <;> omega
theorem zig_zag (z : Nat) : zig (zag z) = z := by unfold zag zig; split <;> split <;> omega
theorem zig_inj {a b : Int} (h : zig a = zig b) : a = b := by rw [← zag_zig a, ← zag_zig b, h]
theorem zig_lt {n : Int} (h : -9223372036854775808 ≤ n ∧ n ≤ 9223372036854775807) : zig n < 18446744073709551616 := by unfold zig; split <;> omega
theorem zag_range {z : Nat} (h : z < 18446744073709551616) : -9223372036854775808 ≤ zag z ∧ zag z ≤ 9223372036854775807 := by unfold zag; split <;> omega

/-- a number's bytes, as a text -/
def num (n : Int) : ByteArray := strOfNums (vbs (zig n))
theorem bytes_num (n : Int) : bytesOf (num n) = vbs (zig n) := bytesOf_strOfNums (vbs_by _)
theorem num_size (n : Int) : (num n).size = (vbs (zig n)).length := strOfNums_size _

/-- the number at the beginning of a text -/
def tnum (b : ByteArray) : Option (Int × ByteArray) := match tk (bytesOf b) with
  | none => none
  | some (z, s) => some (zag z, b.extract s b.size)

theorem tnum_num {n : Int} (h : -9223372036854775808 ≤ n ∧ n ≤ 9223372036854775807) (r : ByteArray) : tnum (num n ++ r) = some (n, r) := by
  unfold tnum
  rw [bytesOf_append, bytes_num, tk_vbs (zig_lt h)]
  simp only [zag_zig]
  congr 2
  refine bytes_ext ?_
  rw [bytesOf_extract, bytesOf_append, bytes_num, List.drop_left, List.take_of_length_le]
  rw [ByteArray.size_append, num_size, bytesOf_size]
  omega

theorem tnum_back {b : ByteArray} {n : Int} {r : ByteArray} (h : tnum b = some (n, r)) : b = num n ++ r ∧ -9223372036854775808 ≤ n ∧ n ≤ 9223372036854775807 := by
  unfold tnum at h
  split at h
  · cases h
  · rename_i z s e
    obtain ⟨rfl, rfl⟩ : zag z = n ∧ b.extract s b.size = r := by simpa using h
    obtain ⟨h1, h2, h3, h4⟩ := tk_back (by_bytesOf b) e
    refine ⟨bytes_ext ?_, zag_range h4⟩
    rw [bytesOf_append, bytes_num, zig_zag, bytesOf_extract, ← h1]
    rw [List.take_of_length_le (l := (bytesOf b).drop s), List.take_append_drop]
    rw [List.length_drop, bytesOf_size]
    omega

end Go.Proofs.Ytjailboidlmadaa.Sp
end

section

namespace Go.Proofs.Ytjailboidlmadaa.Sp
open Go.RowKit Go.Proofs.YtjailboidlmadaaW.PrintWords Go.Proofs.YtjailboidlmadaaW.PrintLast Go.Proofs.YtjailboidlmadaaW.PrintMore

set_option maxRecDepth 20000 in
theorem or128 : ∀ a, a < 256 → a ||| 128 = a % 128 + 128 := by decide
set_option maxRecDepth 20000 in
theorem and127 : ∀ a, a < 256 → a &&& 127 = a % 128 := by decide

theorem u8_or128' {x : Int} (h0 : 0 ≤ x) (h1 : x < 256) : bits .or .u8 x 128 = x % 128 + 128 := by
  rw [u8_or x 128 h0 h1 (by omega) (by omega)]
  have := or128 x.toNat (by omega)
  show ((x.toNat ||| 128 : Nat) : Int) = _
  omega

theorem u8_and127' {x : Int} (h0 : 0 ≤ x) (h1 : x < 256) : bits .and .u8 x 127 = x % 128 := by
  rw [u8_and x 127 h0 h1 (by omega) (by omega)]
  have := and127 x.toNat (by omega)
  show ((x.toNat &&& 127 : Nat) : Int) = _
  omega

theorem u64_and1 {x : Int} (h0 : 0 ≤ x) (h1 : x < 18446744073709551616) : bits .and .u64 x 1 = x % 2 := by
  rw [u64_and x 1 h0 h1 (by omega) (by omega)]
  show ((x.toNat &&& 1 : Nat) : Int) = _
  rw [Nat.and_one_is_mod]
  omega

theorem u64_wrap (n : Int) : IntKind.u64.wrap n = n % 18446744073709551616 := by simp [IntKind.wrap, IntKind.bits, IntKind.signed]

theorem xor_ones (a : Nat) (h : a < 2 ^ 64) : a ^^^ 18446744073709551615 = 18446744073709551615 - a := by
  have h1 : (BitVec.ofNat 64 a ^^^ BitVec.allOnes 64).toNat = a ^^^ 18446744073709551615 := by
    rw [BitVec.toNat_xor, BitVec.toNat_ofNat, Nat.mod_eq_of_lt h, BitVec.toNat_allOnes]
  rw [BitVec.xor_allOnes, BitVec.toNat_not, BitVec.toNat_ofNat, Nat.mod_eq_of_lt h] at h1
  rw [← h1]

theorem u64_xor_ones {x : Int} (h0 : 0 ≤ x) (h1 : x < 18446744073709551616) : bits .xor .u64 x 18446744073709551615 = 18446744073709551615 - x := by
  rw [u64_xor x _ h0 h1 (by omega) (by omega)]
  have := xor_ones x.toNat (by omega)
  show ((x.toNat ^^^ 18446744073709551615 : Nat) : Int) = _
  omega

theorem u64_ones_xor {x : Int} (h0 : 0 ≤ x) (h1 : x < 18446744073709551616) : bits .xor .u64 18446744073709551615 x = 18446744073709551615 - x := by
  rw [u64_xor _ x (by omega) (by omega) h0 h1]
  have := xor_ones x.toNat (by omega)
  show ((18446744073709551615 ^^^ x.toNat : Nat) : Int) = _
  rw [Nat.xor_comm]
  omega

theorem u64_xor_zero {x : Int} (h0 : 0 ≤ x) (h1 : x < 18446744073709551616) : bits .xor .u64 x 0 = x := by
  rw [u64_xor x 0 h0 h1 (by omega) (by omega)]
  show ((x.toNat ^^^ 0 : Nat) : Int) = _
  rw [Nat.xor_zero]
  omega

theorem i64_xor_zero {x : Int} (h0 : 0 ≤ x) (h1 : x ≤ 9223372036854775807) : bits .xor .i64 x 0 = x := by
  unfold bits
  show IntKind.i64.wrap ((BitVec.ofInt 64 x ^^^ BitVec.ofInt 64 0).toNat : Int) = x
  have e : BitVec.ofInt 64 0 = 0#64 := by decide
  rw [e, BitVec.xor_zero, BitVec.toNat_ofInt, IntKind.wrap_i64]
  omega

theorem i64_xor_neg {x : Int} (h0 : 0 ≤ x) (h1 : x ≤ 9223372036854775807) : bits .xor .i64 x (-1) = -x - 1 := by
  unfold bits
  show IntKind.i64.wrap ((BitVec.ofInt 64 x ^^^ BitVec.ofInt 64 (-1)).toNat : Int) = _
  have e : BitVec.ofInt 64 (-1) = BitVec.allOnes 64 := by decide
  rw [e, BitVec.xor_allOnes, BitVec.toNat_not, BitVec.toNat_ofInt, IntKind.wrap_i64]
  omega

/-- what lies below is added -/
theorem u64_or_add {x y : Int} {i : Nat} (h0 : 0 ≤ x) (hx : x < 2 ^ i) (hy0 : 0 ≤ y) (hy : y * 2 ^ i < 18446744073709551616) (hi : i ≤ 64) : bits .or .u64 x (y * 2 ^ i) = x + y * 2 ^ i := by
  have hp : (0 : Int) < 2 ^ i := Int.pow_pos (by omega)
  have hx2 : x < 18446744073709551616 := by
    have h64 : 2 ^ i ≤ 2 ^ 64 := Nat.pow_le_pow_right (by omega) hi
    have : ((2 ^ i : Nat) : Int) = (2 : Int) ^ i := by rw [Int.natCast_pow]; rfl
    omega
  have hm : 0 ≤ y * 2 ^ i := Int.mul_nonneg hy0 (by omega)
  rw [u64_or x _ h0 hx2 hm hy, Nat.or_comm, nat_join i]
  · omega
  · have : (y * 2 ^ i).toNat = y.toNat * 2 ^ i := by
      obtain ⟨n, rfl⟩ := Int.eq_ofNat_of_zero_le hy0
      have : ((n : Int) * 2 ^ i) = ((n * 2 ^ i : Nat) : Int) := by rw [Int.natCast_mul, Int.natCast_pow]; rfl
      rw [this, Int.toNat_natCast, Int.toNat_natCast]
    rw [this, Nat.mul_mod_left]
  · have : ((2 ^ i : Nat) : Int) = (2 : Int) ^ i := by rw [Int.natCast_pow]; rfl
    omega

end Go.Proofs.Ytjailboidlmadaa.Sp
end

section

namespace Go.Proofs.Ytjailboidlmadaa.Sp
open Go.RowKit Go.Proofs.YtjailboidlmadaaW.PrintWords Go.Proofs.YtjailboidlmadaaW.PrintLast Go.Proofs.YtjailboidlmadaaW.PrintMore Go.Proofs.Ytjailboidlmadaa.P
set_option linter.unusedVariables false

theorem wire_num_loop (z : Nat) : ∀ (acc : List Int) (k : Nat), z < 18446744073709551616 → acc.length + (vbs z).length < 100 → (vbs z).length ≤ k → wire_Num.l0 k acc (z : Int) = some (strOfNums (acc ++ vbs z)) := by
  induction z using Nat.strongRecOn with
  | _ z ih =>
    intro acc k hz ha hk
    have hp := vbs_pos z
    obtain ⟨k, rfl⟩ : ∃ m, k = m + 1 := ⟨k - 1, by omega⟩
    by_cases h : z < 128
    · simp only [wire_Num.l0]
      rw [if_neg (by omega), if_pos (by omega), vbs_lt h]
      have : (z : Int) % 256 = z := by omega
      rw [this]
    · have e := vbs_ge (z := z) (by omega)
      rw [e, List.length_cons] at ha hk
      simp only [wire_Num.l0]
      rw [if_pos (by omega), if_pos (by omega), u8_or128' (by omega) (by omega)]
      have e1 : (z : Int) % 256 % 128 + 128 = ((z % 128 + 128 : Nat) : Int) := by omega
      have e2 : (z : Int) / 128 = ((z / 128 : Nat) : Int) := by omega
      rw [e1, e2, ih (z / 128) (by omega) _ k (by omega) (by rw [List.length_append]; simp; omega) (by omega), e]
      simp

theorem zig_bits {n : Int} (h : -9223372036854775808 ≤ n ∧ n ≤ 9223372036854775807) : Go.bits .xor .u64 (IntKind.u64.wrap ((IntKind.u64.wrap n) * 2)) (IntKind.u64.wrap (n / 9223372036854775808)) = (zig n : Int) := by
  unfold zig
  simp only [u64_wrap]
  split
  · have e1 : n / 9223372036854775808 % 18446744073709551616 = 18446744073709551615 := by omega
    rw [e1, u64_xor_ones (by omega) (by omega)]
    omega
  · have e1 : n / 9223372036854775808 % 18446744073709551616 = 0 := by omega
    rw [e1, u64_xor_zero (by omega) (by omega)]
    omega

theorem wire_num_at {n : Int} (h : -9223372036854775808 ≤ n ∧ n ≤ 9223372036854775807) (k : Nat) (hk : 10 ≤ k) : wire_Num.f k n = some (num n) := by
  unfold wire_Num.f
  have hl := vbs_len10 (zig_lt h)
  rw [zig_bits h, wire_num_loop (zig n) [] k (zig_lt h) (by simp; omega) (by omega)]
  simp [num]

theorem wire_num {n : Int} (h : -9223372036854775808 ≤ n ∧ n ≤ 9223372036854775807) : Ev (fun k => wire_Num.f k n) (num n) := ⟨10, fun k hk => wire_num_at h k hk⟩

/-- a text's bytes -/
def text (s : ByteArray) : Option ByteArray := if 4000 < s.size then none else some (num s.size ++ s)
/-- the text at the beginning -/
def textW (s : ByteArray) : ByteArray × Int := match text s with | none => (⟨#[]⟩, 4) | some b => (b, 0)
theorem num_size_le {n : Int} (h : -9223372036854775808 ≤ n ∧ n ≤ 9223372036854775807) : (num n).size ≤ 10 := by rw [num_size]; exact vbs_len10 (zig_lt h)

theorem wire_text_at (s : ByteArray) (hs : s.size ≤ 140737488355328) (k : Nat) (hk : 10 ≤ k) : wire_Text.f k s = some (textW s) := by
  have hr : -9223372036854775808 ≤ (s.size : Int) ∧ (s.size : Int) ≤ 9223372036854775807 := by omega
  have hz := num_size_le hr
  unfold wire_Text.f textW text
  by_cases c : 4000 < s.size
  · rw [if_pos (by omega), if_pos c]
  · rw [if_neg (by omega), wire_num_at hr k hk, if_neg c]
    simp only [Option.bind_some]
    rw [if_pos (by omega)]

theorem nil_append (b : ByteArray) : (⟨#[]⟩ : ByteArray) ++ b = b := bytes_ext (by rw [bytesOf_append, bytesOf_nil, List.nil_append])
theorem append_nil (b : ByteArray) : b ++ (⟨#[]⟩ : ByteArray) = b := bytes_ext (by rw [bytesOf_append, bytesOf_nil, List.append_nil])
theorem append_assoc3 (a b c : ByteArray) : a ++ b ++ c = a ++ (b ++ c) := bytes_ext (by rw [bytesOf_append, bytesOf_append, bytesOf_append, bytesOf_append, List.append_assoc])
theorem rd_nat (l : List Int) (i : Nat) : rd l (i : Int) = l.getD i 0 := by unfold rd; rw [Int.toNat_natCast]
theorem dropI {l : List Int} {i : Nat} (h : i < l.length) : l.drop i = l.getD i 0 :: l.drop (i + 1) := by
  rw [List.getD_eq_getElem?_getD, List.getElem?_eq_getElem h]
  simp
theorem getD_mem {l : List Int} {i : Nat} (h : i < l.length) : l.getD i 0 ∈ l := by
  rw [List.getD_eq_getElem?_getD, List.getElem?_eq_getElem h]
  simp

/-! ### numbers one behind the other -/
def I64 (n : Int) : Prop := -9223372036854775808 ≤ n ∧ n ≤ 9223372036854775807
def ncat : List Int → ByteArray
  | [] => ⟨#[]⟩
  | n :: l => num n ++ ncat l
theorem ncat_size : ∀ {l : List Int}, (∀ x ∈ l, I64 x) → (ncat l).size ≤ l.length * 10
  | [], _ => by simp [ncat, ByteArray.size]
  | n :: l, h => by
    have h1 := num_size_le (h n List.mem_cons_self)
    have h2 := ncat_size (l := l) (fun x hx => h x (List.mem_cons_of_mem _ hx))
    rw [ncat, ByteArray.size_append, List.length_cons]
    omega
theorem nums_loop (l : List Int) (hl : ∀ x ∈ l, I64 x) (hn : l.length ≤ 1000) : ∀ (d i k : Nat) (acc : ByteArray), l.length - i = d → i ≤ l.length → acc.size + d * 10 ≤ 140737488355328 → d + 11 ≤ k →
    edit_nums.l0 k l acc (i : Int) = some (acc ++ ncat (l.drop i)) := by
  intro d
  induction d with
  | zero =>
    intro i k acc hd hi hs hk
    obtain ⟨k, rfl⟩ : ∃ m, k = m + 1 := ⟨k - 1, by omega⟩
    rw [edit_nums.l0, if_neg (by omega), List.drop_eq_nil_of_le (by omega), ncat, append_nil]
  | succ d ih =>
    intro i k acc hd hi hs hk
    obtain ⟨k, rfl⟩ : ∃ m, k = m + 1 := ⟨k - 1, by omega⟩
    have hlt : i < l.length := by omega
    have hm := hl _ (getD_mem hlt)
    have hz := num_size_le hm
    rw [edit_nums.l0, if_pos (by omega), if_pos (by omega), rd_nat, wire_num_at hm k (by omega)]
    simp only [Option.bind_some]
    rw [if_pos (by omega), show wrap64 ((i : Int) + 1) = ((i + 1 : Nat) : Int) by unfold wrap64; omega, ih (i + 1) k _ (by omega) (by omega) (by rw [ByteArray.size_append]; omega) (by omega), dropI hlt, ncat, append_assoc3]
theorem nums_at (l : List Int) (hl : ∀ x ∈ l, I64 x) (hn : l.length ≤ 1000) (k : Nat) (hk : l.length + 11 ≤ k) : edit_nums.f k l = some (ncat l) := by
  unfold edit_nums.f
  have := nums_loop l hl hn l.length 0 k ⟨#[]⟩ (by omega) (by omega) (by simp [ByteArray.size]; omega) hk
  rw [nil_append, List.drop_zero] at this
  exact this

/-! ### right -/
structure RightP (k : Int) (p t : ByteArray) (c q n : Int) (l : List Int) : Prop where
  kind : 1 ≤ k ∧ k ≤ 10
  path : p.size ≤ 120
  dest : t.size ≤ 120
  rename : k = 4 ∨ t.toList = []
  cl : 0 ≤ c ∧ c ≤ 3
  call : 0 ≤ q ∧ q ≤ 9007199254740991
  n : rLeast k ≤ n ∧ n ≤ rMost k
  len : l.length ≤ 8
  lens : k = 5 ∨ k = 6 ∨ l.length = 0
  all : ∀ x ∈ l, 0 ≤ x ∧ x ≤ 9007199254740991
theorem any_odd (l : List Int) : l.any isOdd = false ↔ ∀ x ∈ l, 0 ≤ x ∧ x ≤ 9007199254740991 := by
  rw [List.any_eq_false]
  constructor
  · intro h x hx
    have := h x hx
    unfold isOdd at this
    simpa using this
  · intro h x hx
    have := h x hx
    unfold isOdd
    simpa using this
theorem right_iff (k : Int) (p t : ByteArray) (c q n : Int) (l : List Int) : rightB k p t c q n l = true ↔ RightP k p t c q n l := by
  unfold rightB
  simp only [Bool.and_eq_true, decide_eq_true_eq, Bool.not_eq_true', decide_eq_false_iff_not]
  rw [any_odd]
  constructor
  · rintro ⟨⟨⟨⟨h1, h2⟩, h3⟩, h4, h5, h6⟩, h7⟩
    refine ⟨h1, by omega, by omega, ?_, h4, h5, h6, by omega, by omega, h7⟩
    by_cases e : k = 4
    · exact .inl e
    · refine .inr ?_
      apply Classical.byContradiction
      intro ne
      exact h2 (.inr (.inr ⟨e, ne⟩))
  · rintro ⟨h1, h2, h3, h4, h5, h6, h7, h8, h9, h10⟩
    refine ⟨⟨⟨⟨h1, ?_⟩, by omega⟩, h5, h6, h7⟩, h10⟩
    rintro (a | a | ⟨a, b⟩)
    · omega
    · omega
    · rcases h4 with e | e
      · exact a e
      · exact b e
theorem lm_range (k : Int) : -1 ≤ rLeast k ∧ rLeast k ≤ 0 ∧ 0 ≤ rMost k ∧ rMost k ≤ 9007199254740991 := by
  unfold rLeast rMost
  split <;> split <;> omega
theorem RightP.wide {k : Int} {p t : ByteArray} {c q n : Int} {l : List Int} (h : RightP k p t c q n l) : I64 k ∧ I64 c ∧ I64 q ∧ I64 n ∧ I64 l.length ∧ ∀ x ∈ l, I64 x := by
  have := lm_range k
  have h1 := h.kind; have h2 := h.cl; have h3 := h.call; have h4 := h.n; have h5 := h.len
  refine ⟨?_, ?_, ?_, ?_, ?_, fun x hx => ?_⟩ <;> unfold I64
  · omega
  · omega
  · omega
  · omega
  · omega
  · have := h.all x hx; omega
theorem right_at (k : Int) (p t : ByteArray) (c q n : Int) (l : List Int) : edit_Right.f k p t c q n l = some (rightB k p t c q n l) := rfl

/-! ### the reference's -/
theorem not_right {k : Int} {p t : ByteArray} {c q n : Int} {l : List Int} (h : ¬ RightP k p t c q n l) : rightB k p t c q n l = false := by
  rw [← Bool.not_eq_true, right_iff]; exact h
/-! ### an edit's bytes -/
def textOf (s : ByteArray) : ByteArray := num s.size ++ s
theorem text_of {s : ByteArray} (h : s.size ≤ 4000) : text s = some (textOf s) := by unfold text textOf; rw [if_neg (by omega)]
theorem textOf_size {s : ByteArray} (h : s.size ≤ 120) : (textOf s).size ≤ 130 := by
  have := num_size_le (n := (s.size : Int)) (by omega)
  unfold textOf; rw [ByteArray.size_append]; omega
def encB (k : Int) (p t : ByteArray) (c q n : Int) (l : List Int) : ByteArray := num k ++ (textOf p ++ (textOf t ++ (num c ++ (num q ++ (num n ++ (num l.length ++ ncat l))))))
def encW (k : Int) (p t : ByteArray) (c q n : Int) (l : List Int) : ByteArray × Int := if rightB k p t c q n l = true then (encB k p t c q n l, 0) else (⟨#[]⟩, 1)
theorem encB_size {k : Int} {p t : ByteArray} {c q n : Int} {l : List Int} (h : RightP k p t c q n l) : (encB k p t c q n l).size ≤ 400 := by
  obtain ⟨w1, w2, w3, w4, w5, w6⟩ := h.wide
  have := num_size_le w1; have := num_size_le w2; have := num_size_le w3; have := num_size_le w4; have := num_size_le w5
  have := textOf_size h.path; have := textOf_size h.dest; have := ncat_size w6; have := h.len
  unfold encB
  simp only [ByteArray.size_append]
  omega
theorem wire_enc_at (k : Int) (p t : ByteArray) (c q n : Int) (l : List Int) (K : Nat) (hK : 40 ≤ K) : edit_Encode.f K k p t c q n l = some (encW k p t c q n l) := by
  unfold edit_Encode.f encW
  rw [right_at, Option.bind_some]
  by_cases e : rightB k p t c q n l = true
  · have h := (right_iff ..).1 e
    obtain ⟨w1, w2, w3, w4, w5, w6⟩ := h.wide
    have hp := h.path; have ht := h.dest; have hl := h.len
    have z1 := num_size_le w1; have z2 := num_size_le w2; have z3 := num_size_le w3; have z4 := num_size_le w4; have z5 := num_size_le w5
    have z6 := textOf_size hp; have z7 := textOf_size ht; have z8 := ncat_size w6
    rw [if_pos e, if_pos e, wire_text_at p (by omega) K (by omega), wire_text_at t (by omega) K (by omega)]
    unfold textW
    rw [text_of (by omega), text_of (by omega), nums_at [k] (by simpa using w1) (by simp) K (by simp; omega), nums_at [c, q, n, (l.length : Int)] (by simp; exact ⟨w2, w3, w4, w5⟩) (by simp) K (by simp; omega), nums_at l w6 (by omega) K (by omega)]
    simp only [Option.bind_some, ncat, append_nil]
    simp only [ByteArray.size_append]
    rw [if_pos (by omega), if_pos (by omega), if_pos (by omega), if_pos (by omega)]
    unfold encB
    simp only [append_assoc3]
  · rw [if_neg e, if_neg e]
end Go.Proofs.Ytjailboidlmadaa.Sp
end

section

namespace Go.Proofs.Ytjailboidlmadaa.Sp
open Go.RowKit Go.Proofs.Ytjailboidlmadaa.P Go.Proofs.YtjailboidlmadaaW.PrintWords Go.Proofs.YtjailboidlmadaaW.PrintLast Go.Proofs.YtjailboidlmadaaW.PrintMore
set_option linter.unusedVariables false

theorem ref_right_loop (kk : Int) (p t : ByteArray) (c q n : Int) (l : List Int) (hn : l.length ≤ 1000) : ∀ (d i k : Nat), l.length - i = d → i ≤ l.length → d + 1 ≤ k →
    tabulariumref10_Right.l0 k (i : Int) kk p t c q n l = some (!((l.drop i).any isOdd)) := by
  intro d
  induction d with
  | zero =>
    intro i k hd hi hk
    obtain ⟨k, rfl⟩ : ∃ m, k = m + 1 := ⟨k - 1, by omega⟩
    rw [tabulariumref10_Right.l0, if_neg (by omega), List.drop_eq_nil_of_le (by omega)]
    rfl
  | succ d ih =>
    intro i k hd hi hk
    obtain ⟨k, rfl⟩ : ∃ m, k = m + 1 := ⟨k - 1, by omega⟩
    have hlt : i < l.length := by omega
    rw [tabulariumref10_Right.l0, if_pos (by omega), if_pos (by omega), rd_nat, dropI hlt, List.any_cons]
    unfold isOdd
    by_cases c1 : l.getD i 0 < 0
    · rw [if_pos c1, decide_eq_false (by omega)]; rfl
    · rw [if_neg c1]
      by_cases c2 : l.getD i 0 > 9007199254740991
      · rw [if_pos c2, decide_eq_false (by omega)]; rfl
      · rw [if_neg c2, decide_eq_true (by omega), show wrap64 ((i : Int) + 1) = ((i + 1 : Nat) : Int) by unfold wrap64; omega, ih (i + 1) k (by omega) (by omega) (by omega)]
        unfold isOdd
        rfl
theorem ref_right_j4 (k : Int) (p t : ByteArray) (c q n : Int) (l : List Int) (b : Bool) (K : Nat) (hK : 20 ≤ K)
    (h : (b = false ∧ ((∀ x ∈ l, 0 ≤ x ∧ x ≤ 9007199254740991) → RightP k p t c q n l)) ∧ l.length ≤ 8 ∨ b = true ∧ ¬ RightP k p t c q n l) :
    tabulariumref10_Right.j4 K b k p t c q n l = some (rightB k p t c q n l) := by
  obtain ⟨K, rfl⟩ : ∃ m, K = m + 1 := ⟨K - 1, by omega⟩
  rw [tabulariumref10_Right.j4]
  rcases h with ⟨⟨rfl, h⟩, h8⟩ | ⟨rfl, h⟩
  · rw [if_neg (by decide)]
    have := ref_right_loop k p t c q n l (by omega) l.length 0 K (by omega) (by omega) (by omega)
    rw [List.drop_zero] at this
    refine this.trans ?_
    congr 1
    by_cases e : l.any isOdd = false
    · rw [e, (right_iff ..).2 (h ((any_odd l).1 e))]; rfl
    · rw [not_right (fun hr => e ((any_odd l).2 hr.all))]
      simp at e
      simpa using e
  · rw [if_pos rfl, not_right h]
theorem ref_right_j3 (k : Int) (p t : ByteArray) (c q n : Int) (l : List Int) (b : Bool) (K : Nat) (hK : 21 ≤ K)
    (h : (b = false ∧ (l.length ≤ 8 → (k = 5 ∨ k = 6 ∨ l.length = 0) → (∀ x ∈ l, 0 ≤ x ∧ x ≤ 9007199254740991) → RightP k p t c q n l)) ∨ b = true ∧ ¬ RightP k p t c q n l) :
    tabulariumref10_Right.j3 K b k p t c q n l = some (rightB k p t c q n l) := by
  obtain ⟨K, rfl⟩ : ∃ m, K = m + 1 := ⟨K - 1, by omega⟩
  rw [tabulariumref10_Right.j3]
  rcases h with ⟨rfl, h⟩ | ⟨rfl, h⟩
  · rw [if_neg (by decide)]
    by_cases c1 : (l.length : Int) > 8
    · rw [if_pos c1]; exact ref_right_j4 _ _ _ _ _ _ _ _ K (by omega) (.inr ⟨rfl, fun hr => by have := hr.len; omega⟩)
    · rw [if_neg c1]
      by_cases c2 : (l.length : Int) > 0
      · rw [if_pos c2]
        by_cases c3 : k = 5
        · rw [if_pos c3]; exact ref_right_j4 _ _ _ _ _ _ _ _ K (by omega) (.inl ⟨⟨rfl, h (by omega) (.inl c3)⟩, by omega⟩)
        · rw [if_neg c3]
          by_cases c4 : k = 6
          · rw [show (k != 6) = false by simp [c4]]; exact ref_right_j4 _ _ _ _ _ _ _ _ K (by omega) (.inl ⟨⟨rfl, h (by omega) (.inr (.inl c4))⟩, by omega⟩)
          · rw [show (k != 6) = true by simp [c4]]; exact ref_right_j4 _ _ _ _ _ _ _ _ K (by omega) (.inr ⟨rfl, fun hr => by have := hr.lens; omega⟩)
      · rw [if_neg c2]; exact ref_right_j4 _ _ _ _ _ _ _ _ K (by omega) (.inl ⟨⟨rfl, h (by omega) (.inr (.inr (by omega)))⟩, by omega⟩)
  · rw [if_pos rfl, not_right h]
theorem ref_right_j2 (lo hi k : Int) (p t : ByteArray) (c q n : Int) (l : List Int) (K : Nat) (hK : 22 ≤ K) (hlo : lo = rLeast k) (hhi : hi = rMost k)
    (h : rLeast k ≤ n ∧ n ≤ rMost k → l.length ≤ 8 → (k = 5 ∨ k = 6 ∨ l.length = 0) → (∀ x ∈ l, 0 ≤ x ∧ x ≤ 9007199254740991) → RightP k p t c q n l) :
    tabulariumref10_Right.j2 K lo hi k p t c q n l = some (rightB k p t c q n l) := by
  obtain ⟨K, rfl⟩ : ∃ m, K = m + 1 := ⟨K - 1, by omega⟩
  subst hlo; subst hhi
  rw [tabulariumref10_Right.j2]
  by_cases c1 : n < rLeast k
  · rw [if_pos c1]; exact ref_right_j3 _ _ _ _ _ _ _ _ K (by omega) (.inr ⟨rfl, fun hr => by have := hr.n; omega⟩)
  · rw [if_neg c1]
    by_cases c2 : n > rMost k
    · rw [decide_eq_true c2]; exact ref_right_j3 _ _ _ _ _ _ _ _ K (by omega) (.inr ⟨rfl, fun hr => by have := hr.n; omega⟩)
    · rw [decide_eq_false c2]; exact ref_right_j3 _ _ _ _ _ _ _ _ K (by omega) (.inl ⟨rfl, h ⟨by omega, by omega⟩⟩)
theorem ref_right_j1 (k : Int) (p t : ByteArray) (c q n : Int) (l : List Int) (b : Bool) (K : Nat) (hK : 23 ≤ K)
    (h : (b = false ∧ (rLeast k ≤ n ∧ n ≤ rMost k → l.length ≤ 8 → (k = 5 ∨ k = 6 ∨ l.length = 0) → (∀ x ∈ l, 0 ≤ x ∧ x ≤ 9007199254740991) → RightP k p t c q n l)) ∨ b = true ∧ ¬ RightP k p t c q n l) :
    tabulariumref10_Right.j1 K b k p t c q n l = some (rightB k p t c q n l) := by
  obtain ⟨K, rfl⟩ : ∃ m, K = m + 1 := ⟨K - 1, by omega⟩
  rw [tabulariumref10_Right.j1]
  rcases h with ⟨rfl, h⟩ | ⟨rfl, h⟩
  · rw [if_neg (by decide)]
    by_cases c7 : k = 7
    · rw [if_pos c7]; exact ref_right_j2 _ _ _ _ _ _ _ _ _ K (by omega) (by simp [rLeast, c7]) (by simp [rMost, c7]) h
    · rw [if_neg c7]
      by_cases c8 : k = 8
      · rw [if_pos c8]; exact ref_right_j2 _ _ _ _ _ _ _ _ _ K (by omega) (by simp [rLeast, c7]) (by simp [rMost, c8]) h
      · rw [if_neg c8]
        by_cases c9 : k = 9
        · rw [if_pos c9]; exact ref_right_j2 _ _ _ _ _ _ _ _ _ K (by omega) (by simp [rLeast, c7]) (by simp [rMost, c9]) h
        · rw [if_neg c9]; exact ref_right_j2 _ _ _ _ _ _ _ _ _ K (by omega) (by simp [rLeast, c7]) (by simp [rMost, c7, c8, c9]) h
  · rw [if_pos rfl, not_right h]
theorem ref_right_j0 (k : Int) (p t : ByteArray) (c q n : Int) (l : List Int) (b : Bool) (K : Nat) (hK : 24 ≤ K)
    (h : (b = false ∧ (1 ≤ k ∧ k ≤ 10) ∧ p.size ≤ 120 ∧ (0 ≤ c ∧ c ≤ 3) ∧ (0 ≤ q ∧ q ≤ 9007199254740991)) ∨ b = true ∧ ¬ RightP k p t c q n l) :
    tabulariumref10_Right.j0 K b k p t c q n l = some (rightB k p t c q n l) := by
  obtain ⟨K, rfl⟩ : ∃ m, K = m + 1 := ⟨K - 1, by omega⟩
  rw [tabulariumref10_Right.j0]
  rcases h with ⟨rfl, h1, h2, h3, h4⟩ | ⟨rfl, h⟩
  · rw [if_neg (by decide)]
    by_cases c1 : (t.size : Int) > 120
    · rw [if_pos c1]; exact ref_right_j1 _ _ _ _ _ _ _ _ K (by omega) (.inr ⟨rfl, fun hr => by have := hr.dest; omega⟩)
    · rw [if_neg c1]
      by_cases c4 : k = 4
      · rw [if_pos c4]; exact ref_right_j1 _ _ _ _ _ _ _ _ K (by omega) (.inl ⟨rfl, fun h5 h6 h7 h8 => ⟨h1, h2, by omega, .inl c4, h3, h4, h5, h6, h7, h8⟩⟩)
      · rw [if_neg c4]
        by_cases e : t.toList = ([] : List UInt8)
        · rw [show (t.toList != ([] : List UInt8)) = false by simp [e]]; exact ref_right_j1 _ _ _ _ _ _ _ _ K (by omega) (.inl ⟨rfl, fun h5 h6 h7 h8 => ⟨h1, h2, by omega, .inr e, h3, h4, h5, h6, h7, h8⟩⟩)
        · rw [show (t.toList != ([] : List UInt8)) = true by simp [e]]; exact ref_right_j1 _ _ _ _ _ _ _ _ K (by omega) (.inr ⟨rfl, fun hr => by have := hr.rename; simp_all⟩)
  · rw [if_pos rfl, not_right h]
theorem ref_right_at (k : Int) (p t : ByteArray) (c q n : Int) (l : List Int) (K : Nat) (hK : 24 ≤ K) : tabulariumref10_Right.f K k p t c q n l = some (rightB k p t c q n l) := by
  unfold tabulariumref10_Right.f
  by_cases c1 : k < 1
  · rw [if_pos c1]; exact ref_right_j0 _ _ _ _ _ _ _ _ K hK (.inr ⟨rfl, fun hr => by have := hr.kind; omega⟩)
  rw [if_neg c1]
  by_cases c2 : k > 10
  · rw [if_pos c2]; exact ref_right_j0 _ _ _ _ _ _ _ _ K hK (.inr ⟨rfl, fun hr => by have := hr.kind; omega⟩)
  rw [if_neg c2]
  by_cases c3 : (p.size : Int) > 120
  · rw [if_pos c3]; exact ref_right_j0 _ _ _ _ _ _ _ _ K hK (.inr ⟨rfl, fun hr => by have := hr.path; omega⟩)
  rw [if_neg c3]
  by_cases c4 : c < 0
  · rw [if_pos c4]; exact ref_right_j0 _ _ _ _ _ _ _ _ K hK (.inr ⟨rfl, fun hr => by have := hr.cl; omega⟩)
  rw [if_neg c4]
  by_cases c5 : c ≥ 4
  · rw [if_pos c5]; exact ref_right_j0 _ _ _ _ _ _ _ _ K hK (.inr ⟨rfl, fun hr => by have := hr.cl; omega⟩)
  rw [if_neg c5]
  by_cases c6 : q < 0
  · rw [if_pos c6]; exact ref_right_j0 _ _ _ _ _ _ _ _ K hK (.inr ⟨rfl, fun hr => by have := hr.call; omega⟩)
  rw [if_neg c6]
  by_cases c7 : q > 9007199254740991
  · rw [decide_eq_true c7]; exact ref_right_j0 _ _ _ _ _ _ _ _ K hK (.inr ⟨rfl, fun hr => by have := hr.call; omega⟩)
  · rw [decide_eq_false c7]; exact ref_right_j0 _ _ _ _ _ _ _ _ K hK (.inl ⟨rfl, ⟨by omega, by omega⟩, by omega, ⟨by omega, by omega⟩, by omega, by omega⟩)


/-! ### two edits are written alike just if they are alike -/
theorem num_apart {a b : Int} {x y : ByteArray} (h : num a ++ x = num b ++ y) : a = b ∧ x = y := by
  have h2 := congrArg bytesOf h
  rw [bytesOf_append, bytesOf_append, bytes_num, bytes_num] at h2
  obtain ⟨e1, e2⟩ := vbs_apart h2
  exact ⟨zig_inj e1, bytes_ext e2⟩
theorem textOf_apart {s t x y : ByteArray} (h : textOf s ++ x = textOf t ++ y) : s = t ∧ x = y := by
  unfold textOf at h
  rw [append_assoc3, append_assoc3] at h
  obtain ⟨e1, e2⟩ := num_apart h
  have h2 := congrArg bytesOf e2
  rw [bytesOf_append, bytesOf_append] at h2
  obtain ⟨e3, e4⟩ := List.append_inj h2 (by rw [bytesOf_size, bytesOf_size]; omega)
  exact ⟨bytes_ext e3, bytes_ext e4⟩
theorem ncat_apart : ∀ {l m : List Int}, l.length = m.length → ncat l = ncat m → l = m
  | [], [], _, _ => rfl
  | [], _ :: _, h, _ => by simp at h
  | _ :: _, [], h, _ => by simp at h
  | a :: l, b :: m, h, e => by
    rw [ncat, ncat] at e
    obtain ⟨e1, e2⟩ := num_apart e
    rw [e1, ncat_apart (by simpa using h) e2]
theorem encB_inj {k1 : Int} {p1 t1 : ByteArray} {c1 q1 n1 : Int} {l1 : List Int} {k2 : Int} {p2 t2 : ByteArray} {c2 q2 n2 : Int} {l2 : List Int} (h : (encB k1 p1 t1 c1 q1 n1 l1).toList = (encB k2 p2 t2 c2 q2 n2 l2).toList) :
    k1 = k2 ∧ p1 = p2 ∧ t1 = t2 ∧ c1 = c2 ∧ q1 = q2 ∧ n1 = n2 ∧ l1 = l2 := by
  have h := toList_inj h
  unfold encB at h
  obtain ⟨a1, h⟩ := num_apart h
  obtain ⟨a2, h⟩ := textOf_apart h
  obtain ⟨a3, h⟩ := textOf_apart h
  obtain ⟨a4, h⟩ := num_apart h
  obtain ⟨a5, h⟩ := num_apart h
  obtain ⟨a6, h⟩ := num_apart h
  obtain ⟨a7, h⟩ := num_apart h
  exact ⟨a1, a2, a3, a4, a5, a6, ncat_apart (by omega) h⟩
/-! ### the same? -/
theorem same_loop (k1 : Int) (p1 t1 : ByteArray) (c1 q1 n1 : Int) (l1 : List Int) (k2 : Int) (p2 t2 : ByteArray) (c2 q2 n2 : Int) (l2 : List Int) (hl : l1.length = l2.length) (hn : l1.length ≤ 1000) : ∀ (d i k : Nat), l1.length - i = d → i ≤ l1.length → l1.take i = l2.take i → d + 1 ≤ k →
    tabulariumref10_Same.l0 k (i : Int) k1 p1 t1 c1 q1 n1 l1 k2 p2 t2 c2 q2 n2 l2 = some (decide (l1 = l2)) := by
  intro d
  induction d with
  | zero =>
    intro i k hd hi ht hk
    obtain ⟨k, rfl⟩ : ∃ m, k = m + 1 := ⟨k - 1, by omega⟩
    rw [tabulariumref10_Same.l0, if_neg (by omega)]
    have : l1 = l2 := by
      rw [List.take_of_length_le (by omega), List.take_of_length_le (by omega)] at ht
      exact ht
    rw [decide_eq_true this]
  | succ d ih =>
    intro i k hd hi ht hk
    obtain ⟨k, rfl⟩ : ∃ m, k = m + 1 := ⟨k - 1, by omega⟩
    have h1 : i < l1.length := by omega
    have h2 : i < l2.length := by omega
    have hw : wrap64 ((i : Int) + 1) = ((i + 1 : Nat) : Int) := by unfold wrap64; omega
    rw [tabulariumref10_Same.l0, if_pos (by omega), if_pos (by omega), if_pos (by omega), rd_nat, rd_nat]
    by_cases he : l1.getD i 0 = l2.getD i 0
    · rw [if_pos he, hw]
      refine ih (i + 1) k (by omega) (by omega) ?_ (by omega)
      rw [take_snoc h1, take_snoc h2, ht, he]
    · rw [if_neg he, decide_eq_false (fun e => he (by rw [e]))]
theorem same_at (k1 : Int) (p1 t1 : ByteArray) (c1 q1 n1 : Int) (l1 : List Int) (k2 : Int) (p2 t2 : ByteArray) (c2 q2 n2 : Int) (l2 : List Int) (hn : l1.length ≤ 1000) :
    tabulariumref10_Same.f 1100 k1 p1 t1 c1 q1 n1 l1 k2 p2 t2 c2 q2 n2 l2 = some (decide (k1 = k2 ∧ p1 = p2 ∧ t1 = t2 ∧ c1 = c2 ∧ q1 = q2 ∧ n1 = n2 ∧ l1 = l2)) := by
  have hj : ∀ (b : Bool), tabulariumref10_Same.j0 1100 b k1 p1 t1 c1 q1 n1 l1 k2 p2 t2 c2 q2 n2 l2 = if b = true then some false else tabulariumref10_Same.l0 1099 0 k1 p1 t1 c1 q1 n1 l1 k2 p2 t2 c2 q2 n2 l2 := fun b => rfl
  unfold tabulariumref10_Same.f
  rw [hj, hj, if_pos rfl]
  by_cases e1 : k1 = k2
  · rw [if_pos e1]
    by_cases e2 : p1 = p2
    · rw [if_pos (by rw [e2])]
      by_cases e3 : t1 = t2
      · rw [if_pos (by rw [e3])]
        by_cases e4 : c1 = c2
        · rw [if_pos e4]
          by_cases e5 : q1 = q2
          · rw [if_pos e5]
            by_cases e6 : n1 = n2
            · rw [if_pos e6]
              by_cases e7 : l1.length = l2.length
              · rw [if_neg (by simp; omega)]
                have := same_loop k1 p1 t1 c1 q1 n1 l1 k2 p2 t2 c2 q2 n2 l2 e7 hn l1.length 0 1099 (by omega) (by omega) rfl (by omega)
                rw [show ((0 : Nat) : Int) = 0 from rfl] at this
                rw [this]
                congr 1
                exact decide_eq_decide.2 ⟨fun h => ⟨e1, e2, e3, e4, e5, e6, h⟩, fun h => h.2.2.2.2.2.2⟩
              · rw [if_pos (by simp; omega), decide_eq_false (fun h => e7 (by rw [h.2.2.2.2.2.2]))]
            · rw [if_neg e6, decide_eq_false (fun h => e6 h.2.2.2.2.2.1)]
          · rw [if_neg e5, decide_eq_false (fun h => e5 h.2.2.2.2.1)]
        · rw [if_neg e4, decide_eq_false (fun h => e4 h.2.2.2.1)]
      · rw [if_neg (fun h => e3 (toList_inj h)), decide_eq_false (fun h => e3 h.2.2.1)]
    · rw [if_neg (fun h => e2 (toList_inj h)), decide_eq_false (fun h => e2 h.2.1)]
  · rw [if_neg e1, decide_eq_false (fun h => e1 h.1)]
end Go.Proofs.Ytjailboidlmadaa.Sp
end
