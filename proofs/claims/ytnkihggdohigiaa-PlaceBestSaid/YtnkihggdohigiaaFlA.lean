/- Plain facts on the bytes of numbers: how a number is written in bytes of seven bits, and how it is read back. No program in sight. -/
import Derived.Test.YtnkihggdohigiaaWMore
import Derived.Lib.Strings
import Derived.Laws.BitsAllLaws
import Derived.IntWalk
import Derived.Test.YtnkihggdohigiaaFl
section

namespace Go.Proofs.Ytnkihggdohigiaa.Sp
open Go.RowKit Go.Proofs.YtnkihggdohigiaaW.PrintWords Go.Proofs.YtnkihggdohigiaaW.PrintLast Go.Proofs.YtnkihggdohigiaaW.PrintMore

theorem wrap64_of {n : Int} (h0 : -9223372036854775808 ≤ n) (h1 : n ≤ 9223372036854775807) : wrap64 n = n := by unfold wrap64; omega

def By (l : List Int) : Prop := ∀ x ∈ l, 0 ≤ x ∧ x < 256

theorem By.tail {x : Int} {l : List Int} (h : By (x :: l)) : By l := fun y hy => h y (List.mem_cons_of_mem _ hy)
theorem By.head {x : Int} {l : List Int} (h : By (x :: l)) : 0 ≤ x ∧ x < 256 := h x List.mem_cons_self
theorem By.drop {l : List Int} (h : By l) (n : Nat) : By (l.drop n) := fun y hy => h y (List.mem_of_mem_drop hy)
theorem By.take {l : List Int} (h : By l) (n : Nat) : By (l.take n) := fun y hy => h y (List.mem_of_mem_take hy)
theorem By.append {l m : List Int} (h : By l) (h' : By m) : By (l ++ m) := fun y hy => (List.mem_append.1 hy).elim (h y) (h' y)

theorem by_bytesOf (s : ByteArray) : By (bytesOf s) := by
  intro x hx
  unfold bytesOf at hx
  obtain ⟨c, _, rfl⟩ := List.mem_map.1 hx
  have := c.toNat_lt
  omega

theorem bytesOf_strOfNums {l : List Int} (h : By l) : bytesOf (strOfNums l) = l := by
  unfold bytesOf
  rw [strOfNums_data, List.map_map]
  conv => rhs; rw [← List.map_id l]
  refine List.map_congr_left fun x hx => ?_
  have := h x hx
  simp only [Function.comp, id]
  rw [UInt8.toNat_ofNat_of_lt' (by show x.toNat < 256; omega)]
  omega

theorem strOfNums_bytesOf (s : ByteArray) : strOfNums (bytesOf s) = s := by
  unfold bytesOf strOfNums
  rw [List.map_map]
  have : (List.map ((fun n : Int => UInt8.ofNat n.toNat) ∘ fun b : UInt8 => (b.toNat : Int)) s.data.toList) = s.data.toList := by
    conv => rhs; rw [← List.map_id s.data.toList]
    refine List.map_congr_left fun x _ => ?_
    simp
  rw [this]

theorem bytes_ext {a b : ByteArray} (h : bytesOf a = bytesOf b) : a = b := by
  rw [← strOfNums_bytesOf a, ← strOfNums_bytesOf b, h]

theorem toList_iff (a b : ByteArray) : a.toList = b.toList ↔ bytesOf a = bytesOf b := by
  rw [ByteArray.toList_eq, ByteArray.toList_eq]
  constructor
  · intro h; unfold bytesOf; rw [h]
  · intro h; rw [bytes_ext h]

theorem toList_inj {a b : ByteArray} (h : a.toList = b.toList) : a = b := bytes_ext ((toList_iff a b).1 h)

theorem bytesOf_extract (s : ByteArray) (a b : Nat) : bytesOf (s.extract a b) = ((bytesOf s).drop a).take (b - a) := by
  unfold bytesOf
  rw [Lib.extract_data, List.map_take, List.map_drop]

theorem bytesOf_size (s : ByteArray) : (bytesOf s).length = s.size := bytesOf_length s

theorem bytesOf_append (a b : ByteArray) : bytesOf (a ++ b) = bytesOf a ++ bytesOf b := by
  unfold bytesOf
  rw [ByteArray.data_append, Array.toList_append, List.map_append]

theorem bytesOf_nil : bytesOf (⟨#[]⟩ : ByteArray) = [] := rfl

theorem bt_rd (s : ByteArray) (i : Nat) : bt s (i : Int) = (bytesOf s).getD i 0 := by
  rw [← rd_bytesOf]; unfold rd; simp

theorem drop_cons {l : List Int} {i : Nat} (h : i < l.length) : l.drop i = l.getD i 0 :: l.drop (i + 1) := by
  rw [List.drop_eq_getElem_cons h, List.getD_eq_getElem?_getD, List.getElem?_eq_getElem h]; rfl

theorem take_snoc {l : List Int} {i : Nat} (h : i < l.length) : l.take (i + 1) = l.take i ++ [l.getD i 0] := by
  rw [List.take_succ_eq_append_getElem h, List.getD_eq_getElem?_getD, List.getElem?_eq_getElem h]; rfl

/-- the value of some bytes of seven bits each -/
def pv : List Int → Nat
  | [] => 0
  | x :: xs => x.toNat % 128 + 128 * pv xs

theorem pv_append (l m : List Int) : pv (l ++ m) = pv l + 128 ^ l.length * pv m := by
  induction l with
  | nil => simp [pv]
  | cons x l ih =>
    rw [List.cons_append, pv, pv, ih, List.length_cons, Nat.mul_add, Nat.pow_succ, ← Nat.mul_assoc, Nat.mul_comm 128 (128 ^ l.length)]
    omega

theorem pv_lt (l : List Int) : pv l < 128 ^ l.length := by
  induction l with
  | nil => simp [pv]
  | cons x l ih =>
    rw [pv, List.length_cons, Nat.pow_succ]
    omega

/-- a number's bytes -/
def vbs (z : Nat) : List Int := if z < 128 then [(z : Int)] else ((z % 128 + 128 : Nat) : Int) :: vbs (z / 128)
  termination_by z
  decreasing_by omega

theorem vbs_lt {z : Nat} (h : z < 128) : vbs z = [(z : Int)] := by rw [vbs, if_pos h]
theorem vbs_ge {z : Nat} (h : 128 ≤ z) : vbs z = ((z % 128 + 128 : Nat) : Int) :: vbs (z / 128) := by rw [vbs, if_neg (by omega)]

theorem vbs_by (z : Nat) : By (vbs z) := by
  induction z using Nat.strongRecOn with
  | _ z ih =>
    by_cases h : z < 128
    · rw [vbs_lt h]; intro x hx; simp at hx; omega
    · rw [vbs_ge (by omega)]
      intro x hx
      rcases List.mem_cons.1 hx with rfl | hx
      · omega
      · exact ih (z / 128) (by omega) x hx

theorem vbs_ne (z : Nat) : vbs z ≠ [] := by
  by_cases h : z < 128
  · rw [vbs_lt h]; simp
  · rw [vbs_ge (by omega)]; simp

theorem vbs_pos (z : Nat) : 1 ≤ (vbs z).length := by
  have := vbs_ne z
  cases h : vbs z with
  | nil => exact absurd h this
  | cons => simp

theorem vbs_len (n : Nat) : ∀ z, 0 < n → z < 128 ^ n → (vbs z).length ≤ n := by
  induction n with
  | zero => intro z h; omega
  | succ n ih =>
    intro z _ hz
    by_cases h : z < 128
    · rw [vbs_lt h]; simp
    · rw [vbs_ge (by omega), List.length_cons]
      have : n ≠ 0 := by rintro rfl; simp at hz; omega
      have := ih (z / 128) (by omega) (by rw [Nat.pow_succ] at hz; omega)
      omega

theorem vbs_len_ge (n : Nat) : ∀ z, 128 ^ n ≤ z → n + 1 ≤ (vbs z).length := by
  induction n with
  | zero => intro z _; exact vbs_pos z
  | succ n ih =>
    intro z hz
    rw [Nat.pow_succ] at hz
    have : 0 < 128 ^ n := Nat.pow_pos (by omega)
    rw [vbs_ge (by omega), List.length_cons]
    have := ih (z / 128) (by omega)
    omega

theorem vbs_len10 {z : Nat} (h : z < 18446744073709551616) : (vbs z).length ≤ 10 := vbs_len 10 z (by omega) (by omega)

theorem pv_vbs (z : Nat) : pv (vbs z) = z := by
  induction z using Nat.strongRecOn with
  | _ z ih =>
    by_cases h : z < 128
    · rw [vbs_lt h]; simp [pv]; omega
    · rw [vbs_ge (by omega), pv, ih (z / 128) (by omega)]
      omega

theorem vbs_inj {a b : Nat} (h : vbs a = vbs b) : a = b := by rw [← pv_vbs a, ← pv_vbs b, h]

/-- the number at the beginning, however great, and how many bytes it has -/
def tkr : List Int → Option (Nat × Nat)
  | [] => none
  | x :: xs => if x < 128 then some (x.toNat, 1) else match tkr xs with
    | none => none
    | some (z, s) => if z = 0 then none else some (x.toNat % 128 + 128 * z, s + 1)

theorem tkr_vbs (z : Nat) : ∀ r, tkr (vbs z ++ r) = some (z, (vbs z).length) := by
  induction z using Nat.strongRecOn with
  | _ z ih =>
    intro r
    by_cases h : z < 128
    · rw [vbs_lt h]; simp [tkr]; omega
    · rw [vbs_ge (by omega), List.cons_append, tkr, if_neg (by omega), ih (z / 128) (by omega)]
      simp only
      rw [if_neg (by omega), List.length_cons]
      congr 2
      omega

theorem tkr_back : ∀ (l : List Int), By l → ∀ z s, tkr l = some (z, s) → l.take s = vbs z ∧ s = (vbs z).length ∧ s ≤ l.length := by
  intro l
  induction l with
  | nil => intro _ z s h; simp [tkr] at h
  | cons x l ih =>
    intro hb z s h
    rw [tkr] at h
    have hx := hb.head
    by_cases c : x < 128
    · rw [if_pos c] at h
      obtain ⟨rfl, rfl⟩ : x.toNat = z ∧ 1 = s := by simpa using h
      rw [vbs_lt (by omega)]
      simp
      omega
    · rw [if_neg c] at h
      cases e : tkr l with
      | none => rw [e] at h; simp at h
      | some p =>
        obtain ⟨z', s'⟩ := p
        rw [e] at h
        simp only at h
        by_cases c0 : z' = 0
        · rw [if_pos c0] at h; simp at h
        · rw [if_neg c0] at h
          obtain ⟨rfl, rfl⟩ : x.toNat % 128 + 128 * z' = z ∧ s' + 1 = s := by simpa using h
          obtain ⟨h1, h2, h3⟩ := ih hb.tail z' s' e
          have hq : (x.toNat % 128 + 128 * z') / 128 = z' := by omega
          rw [vbs_ge (by omega), hq, List.take_succ_cons, h1, List.length_cons, List.length_cons]
          refine ⟨?_, by omega, by omega⟩
          congr 1
          omega

/-- the number at the beginning, below 2 ^ 64 -/
def tk (l : List Int) : Option (Nat × Nat) := match tkr l with
  | none => none
  | some (z, s) => if z < 18446744073709551616 then some (z, s) else none

theorem tk_vbs {z : Nat} (h : z < 18446744073709551616) (r : List Int) : tk (vbs z ++ r) = some (z, (vbs z).length) := by
  rw [tk, tkr_vbs]; simp only; rw [if_pos h]

theorem tk_back {l : List Int} (hb : By l) {z s : Nat} (h : tk l = some (z, s)) : l.take s = vbs z ∧ s = (vbs z).length ∧ s ≤ l.length ∧ z < 18446744073709551616 := by
  unfold tk at h
  split at h
  · cases h
  · rename_i z' s' e
    split at h
    · obtain ⟨rfl, rfl⟩ : z' = z ∧ s' = s := by simpa using h
      obtain ⟨a, b, c⟩ := tkr_back l hb _ _ e
      exact ⟨a, b, c, by assumption⟩
    · cases h

theorem tk_eq {l : List Int} (hb : By l) {z s : Nat} (h : tk l = some (z, s)) : l = vbs z ++ l.drop s := by
  rw [← (tk_back hb h).1, List.take_append_drop]

/-- what is cut off in a number's bytes is none -/
theorem tkr_cut (z : Nat) : ∀ n, n < (vbs z).length → tkr ((vbs z).take n) = none := by
  induction z using Nat.strongRecOn with
  | _ z ih =>
    intro n hn
    by_cases h : z < 128
    · rw [vbs_lt h] at hn ⊢
      obtain rfl : n = 0 := by simp at hn; omega
      rfl
    · rw [vbs_ge (by omega)] at hn ⊢
      cases n with
      | zero => rfl
      | succ n =>
        rw [List.take_succ_cons, tkr, if_neg (by omega), ih (z / 128) (by omega) n (by rw [List.length_cons] at hn; omega)]

theorem tk_cut {z n : Nat} (h : n < (vbs z).length) : tk ((vbs z).take n) = none := by rw [tk, tkr_cut z n h]

/-- no number's bytes are the beginning of another one's -/
theorem vbs_apart {a b : Nat} {r s : List Int} (h : vbs a ++ r = vbs b ++ s) : a = b ∧ r = s := by
  have e := tkr_vbs a r
  rw [h, tkr_vbs b s] at e
  obtain ⟨rfl, _⟩ : b = a ∧ _ := by simpa using e
  exact ⟨rfl, List.append_cancel_left h⟩

/-- numbers turned into those from 0 on, and back -/
def zig (n : Int) : Nat := if n < 0 then (-2 * n - 1).toNat else (2 * n).toNat
def zag (z : Nat) : Int := if z % 2 = 1 then -((z / 2 : Nat) : Int) - 1 else ((z / 2 : Nat) : Int)

theorem zag_zig (n : Int) : zag (zig n) = n := by unfold zag zig; split <;> split <;> omega
theorem zig_zag (z : Nat) : zig (zag z) = z := by unfold zag zig; split <;> split <;> omega
theorem zig_inj {a b : Int} (h : zig a = zig b) : a = b := by rw [← zag_zig a, ← zag_zig b, h]
theorem zig_lt {n : Int} (h : -9223372036854775808 ≤ n ∧ n ≤ 9223372036854775807) : zig n < 18446744073709551616 := by unfold zig; split <;> omega
theorem zag_range {z : Nat} (h : z < 18446744073709551616) : -9223372036854775808 ≤ zag z ∧ zag z ≤ 9223372036854775807 := by unfold zag; split <;> omega

/-- a number's bytes, as a text -/
def num (n : Int) : ByteArray := strOfNums (vbs (zig n))
theorem bytes_num (n : Int) : bytesOf (num n) = vbs (zig n) := bytesOf_strOfNums (vbs_by _)
theorem num_size (n : Int) : (num n).size = (vbs (zig n)).length := strOfNums_size _

/-- the number at the beginning of a text -/
def tnum (b : ByteArray) : Option (Int × ByteArray) := match tk (bytesOf b) with
  | none => none
  | some (z, s) => some (zag z, b.extract s b.size)

theorem tnum_num {n : Int} (h : -9223372036854775808 ≤ n ∧ n ≤ 9223372036854775807) (r : ByteArray) : tnum (num n ++ r) = some (n, r) := by
  unfold tnum
  rw [bytesOf_append, bytes_num, tk_vbs (zig_lt h)]
  simp only [zag_zig]
  congr 2
  refine bytes_ext ?_
  rw [bytesOf_extract, bytesOf_append, bytes_num, List.drop_left, List.take_of_length_le]
  rw [ByteArray.size_append, num_size, bytesOf_size]
  omega

theorem tnum_back {b : ByteArray} {n : Int} {r : ByteArray} (h : tnum b = some (n, r)) : b = num n ++ r ∧ -9223372036854775808 ≤ n ∧ n ≤ 9223372036854775807 := by
  unfold tnum at h
  split at h
  · cases h
  · rename_i z s e
    obtain ⟨rfl, rfl⟩ : zag z = n ∧ b.extract s b.size = r := by simpa using h
    obtain ⟨h1, h2, h3, h4⟩ := tk_back (by_bytesOf b) e
    refine ⟨bytes_ext ?_, zag_range h4⟩
    rw [bytesOf_append, bytes_num, zig_zag, bytesOf_extract, ← h1]
    rw [List.take_of_length_le (l := (bytesOf b).drop s), List.take_append_drop]
    rw [List.length_drop, bytesOf_size]
    omega

end Go.Proofs.Ytnkihggdohigiaa.Sp
end

section

namespace Go.Proofs.Ytnkihggdohigiaa.Sp
open Go.RowKit Go.Proofs.YtnkihggdohigiaaW.PrintWords Go.Proofs.YtnkihggdohigiaaW.PrintLast Go.Proofs.YtnkihggdohigiaaW.PrintMore

set_option maxRecDepth 20000 in
theorem or128 : ∀ a, a < 256 → a ||| 128 = a % 128 + 128 := by decide
set_option maxRecDepth 20000 in
theorem and127 : ∀ a, a < 256 → a &&& 127 = a % 128 := by decide

theorem u8_or128' {x : Int} (h0 : 0 ≤ x) (h1 : x < 256) : bits .or .u8 x 128 = x % 128 + 128 := by
  rw [u8_or x 128 h0 h1 (by omega) (by omega)]
  have := or128 x.toNat (by omega)
  show ((x.toNat ||| 128 : Nat) : Int) = _
  omega

theorem u8_and127' {x : Int} (h0 : 0 ≤ x) (h1 : x < 256) : bits .and .u8 x 127 = x % 128 := by
  rw [u8_and x 127 h0 h1 (by omega) (by omega)]
  have := and127 x.toNat (by omega)
  show ((x.toNat &&& 127 : Nat) : Int) = _
  omega

theorem u64_and1 {x : Int} (h0 : 0 ≤ x) (h1 : x < 18446744073709551616) : bits .and .u64 x 1 = x % 2 := by
  rw [u64_and x 1 h0 h1 (by omega) (by omega)]
  show ((x.toNat &&& 1 : Nat) : Int) = _
  rw [Nat.and_one_is_mod]
  omega

theorem u64_wrap (n : Int) : IntKind.u64.wrap n = n % 18446744073709551616 := by simp [IntKind.wrap, IntKind.bits, IntKind.signed]

theorem xor_ones (a : Nat) (h : a < 2 ^ 64) : a ^^^ 18446744073709551615 = 18446744073709551615 - a := by
  have h1 : (BitVec.ofNat 64 a ^^^ BitVec.allOnes 64).toNat = a ^^^ 18446744073709551615 := by
    rw [BitVec.toNat_xor, BitVec.toNat_ofNat, Nat.mod_eq_of_lt h, BitVec.toNat_allOnes]
  rw [BitVec.xor_allOnes, BitVec.toNat_not, BitVec.toNat_ofNat, Nat.mod_eq_of_lt h] at h1
  rw [← h1]

theorem u64_xor_ones {x : Int} (h0 : 0 ≤ x) (h1 : x < 18446744073709551616) : bits .xor .u64 x 18446744073709551615 = 18446744073709551615 - x := by
  rw [u64_xor x _ h0 h1 (by omega) (by omega)]
  have := xor_ones x.toNat (by omega)
  show ((x.toNat ^^^ 18446744073709551615 : Nat) : Int) = _
  omega

theorem u64_ones_xor {x : Int} (h0 : 0 ≤ x) (h1 : x < 18446744073709551616) : bits .xor .u64 18446744073709551615 x = 18446744073709551615 - x := by
  rw [u64_xor _ x (by omega) (by omega) h0 h1]
  have := xor_ones x.toNat (by omega)
  show ((18446744073709551615 ^^^ x.toNat : Nat) : Int) = _
  rw [Nat.xor_comm]
  omega

theorem u64_xor_zero {x : Int} (h0 : 0 ≤ x) (h1 : x < 18446744073709551616) : bits .xor .u64 x 0 = x := by
  rw [u64_xor x 0 h0 h1 (by omega) (by omega)]
  show ((x.toNat ^^^ 0 : Nat) : Int) = _
  rw [Nat.xor_zero]
  omega

theorem i64_xor_zero {x : Int} (h0 : 0 ≤ x) (h1 : x ≤ 9223372036854775807) : bits .xor .i64 x 0 = x := by
  unfold bits
  show IntKind.i64.wrap ((BitVec.ofInt 64 x ^^^ BitVec.ofInt 64 0).toNat : Int) = x
  have e : BitVec.ofInt 64 0 = 0#64 := by decide
  rw [e, BitVec.xor_zero, BitVec.toNat_ofInt, IntKind.wrap_i64]
  omega

theorem i64_xor_neg {x : Int} (h0 : 0 ≤ x) (h1 : x ≤ 9223372036854775807) : bits .xor .i64 x (-1) = -x - 1 := by
  unfold bits
  show IntKind.i64.wrap ((BitVec.ofInt 64 x ^^^ BitVec.ofInt 64 (-1)).toNat : Int) = _
  have e : BitVec.ofInt 64 (-1) = BitVec.allOnes 64 := by decide
  rw [e, BitVec.xor_allOnes, BitVec.toNat_not, BitVec.toNat_ofInt, IntKind.wrap_i64]
  omega

/-- what lies below is added -/
theorem u64_or_add {x y : Int} {i : Nat} (h0 : 0 ≤ x) (hx : x < 2 ^ i) (hy0 : 0 ≤ y) (hy : y * 2 ^ i < 18446744073709551616) (hi : i ≤ 64) : bits .or .u64 x (y * 2 ^ i) = x + y * 2 ^ i := by
  have hp : (0 : Int) < 2 ^ i := Int.pow_pos (by omega)
  have hx2 : x < 18446744073709551616 := by
    have h64 : 2 ^ i ≤ 2 ^ 64 := Nat.pow_le_pow_right (by omega) hi
    have : ((2 ^ i : Nat) : Int) = (2 : Int) ^ i := by rw [Int.natCast_pow]; rfl
    omega
  have hm : 0 ≤ y * 2 ^ i := Int.mul_nonneg hy0 (by omega)
  rw [u64_or x _ h0 hx2 hm hy, Nat.or_comm, nat_join i]
  · omega
  · have : (y * 2 ^ i).toNat = y.toNat * 2 ^ i := by
      obtain ⟨n, rfl⟩ := Int.eq_ofNat_of_zero_le hy0
      have : ((n : Int) * 2 ^ i) = ((n * 2 ^ i : Nat) : Int) := by rw [Int.natCast_mul, Int.natCast_pow]; rfl
      rw [this, Int.toNat_natCast, Int.toNat_natCast]
    rw [this, Nat.mul_mod_left]
  · have : ((2 ^ i : Nat) : Int) = (2 : Int) ^ i := by rw [Int.natCast_pow]; rfl
    omega

end Go.Proofs.Ytnkihggdohigiaa.Sp
end

section

namespace Go.Proofs.Ytnkihggdohigiaa.Fl
open Go.RowKit Go.Proofs.YtnkihggdohigiaaW.PrintWords
set_option linter.unusedVariables false

theorem V_at (e c : Nat) (h : (e = 0 ∧ c ≤ 2 * B) ∨ (B ≤ c ∧ c ≤ 2 * B)) : V (e * B + c) = c * 2 ^ e := by
  unfold V
  have hB : B = 4503599627370496 := rfl
  by_cases h1 : e * B + c < B
  · rw [if_pos h1]
    have : e = 0 := by
      rcases h with ⟨h, _⟩ | ⟨h, _⟩
      · exact h
      · omega
    subst this
    omega
  · rw [if_neg h1]
    by_cases h2 : c = 2 * B
    · subst h2
      have e1 : (e * B + 2 * B) / B = e + 2 := by rw [← Nat.add_mul, Nat.mul_div_cancel _ (by omega)]
      have e2 : (e * B + 2 * B) % B = 0 := by rw [← Nat.add_mul, Nat.mul_mod_left]
      rw [e1, e2, show e + 2 - 1 = e + 1 by omega, Nat.pow_succ, Nat.add_zero, Nat.mul_comm 2 B, Nat.mul_assoc, Nat.mul_comm 2 (2 ^ e)]
    · have hc : B ≤ c ∧ c < 2 * B := by
        rcases h with ⟨rfl, h⟩ | h
        · omega
        · omega
      have e1 : (e * B + c) / B = e + 1 := by
        rw [show e * B + c = (c - B) + B * (e + 1) by rw [Nat.mul_add, Nat.mul_comm B e]; omega, Nat.add_mul_div_left _ _ (by omega), Nat.div_eq_of_lt (by omega)]
        omega
      have e2 : (e * B + c) % B = c - B := by
        rw [show e * B + c = (c - B) + B * (e + 1) by rw [Nat.mul_add, Nat.mul_comm B e]; omega, Nat.add_mul_mod_self_left, Nat.mod_eq_of_lt (by omega)]
      rw [e1, e2, show e + 1 - 1 = e by omega, show B + (c - B) = c by omega]

/-- a whole number of units, half of a unit told to the even one -/
theorem cut_spec (s : Bool) (n d : Nat) : ∃ c, Ieee.Toward.even.cut s n d = c ∧ 2 * c * 2 ^ d ≤ 2 * n + 2 ^ d ∧ (2 * c * 2 ^ d = 2 * n + 2 ^ d → c % 2 = 0) ∧ 2 * n ≤ 2 * c * 2 ^ d + 2 ^ d ∧ (2 * n = 2 * c * 2 ^ d + 2 ^ d → c % 2 = 0) := by
  unfold Ieee.Toward.cut
  simp only [Nat.shiftLeft_eq, Nat.one_mul]
  by_cases h : d ≤ n.log2 + 2
  · rw [Nat.min_eq_left h]
    have hg : 0 < 2 ^ d := Nat.pow_pos (by omega)
    have hdm := Nat.div_add_mod n (2 ^ d)
    have hlt := Nat.mod_lt n hg
    generalize 2 ^ d = g at *
    generalize n / g = q at *
    generalize n % g = r at *
    have e0 : 2 * q * g = 2 * (g * q) := by rw [Nat.mul_assoc, Nat.mul_comm q g]
    have e1 : 2 * (q + 1) * g = 2 * (g * q) + 2 * g := by rw [Nat.mul_assoc, Nat.add_mul, Nat.mul_comm q g, Nat.mul_add, Nat.one_mul]
    by_cases c1 : g < 2 * r
    · refine ⟨q + 1, by simp [c1], ?_⟩
      rw [e1]
      refine ⟨?_, ?_, ?_, ?_⟩ <;> omega
    · by_cases c2 : g = 2 * r ∧ q % 2 = 1
      · refine ⟨q + 1, by simp [c2.1, c2.2], ?_⟩
        rw [e1]
        refine ⟨?_, ?_, ?_, ?_⟩ <;> omega
      · refine ⟨q, ?_, ?_⟩
        · by_cases c3 : g = 2 * r
          · have : q % 2 = 0 := by
              by_cases c4 : q % 2 = 1
              · exact absurd ⟨c3, c4⟩ c2
              · omega
            simp [c3, this]
          · simp [c1, c3]
        · rw [e0]
          refine ⟨?_, ?_, ?_, ?_⟩
          · omega
          · omega
          · omega
          · intro h4
            by_cases c4 : q % 2 = 1
            · exact absurd ⟨by omega, c4⟩ c2
            · omega
  · rw [Nat.min_eq_right (by omega)]
    refine ⟨0, ?_, ?_⟩
    · have hn : n < 2 ^ (n.log2 + 1) := Nat.lt_log2_self
      have hp : 2 ^ (n.log2 + 2) = 2 * 2 ^ (n.log2 + 1) := by rw [Nat.pow_succ]; omega
      rw [Nat.div_eq_of_lt (by omega), Nat.mod_eq_of_lt (by omega)]
      have c1 : ¬ 2 ^ (n.log2 + 2) < 2 * n := by omega
      simp [c1]
    · have hn : n < 2 ^ (n.log2 + 1) := Nat.lt_log2_self
      have hp : 2 ^ (n.log2 + 1) * 2 ≤ 2 ^ d := by rw [← Nat.pow_succ]; exact Nat.pow_le_pow_right (by omega) (by omega)
      refine ⟨?_, ?_, ?_, ?_⟩ <;> omega

/-- a rung's number, in units of '2 ^ -T' -/
def U (T r : Nat) : Nat := V r * 2 ^ (T - 1074)
theorem U_lt {T a b : Nat} (h : a < b) : U T a < U T b := Nat.mul_lt_mul_of_pos_right (V_lt h) (Nat.pow_pos (by omega))
theorem U_le {T a b : Nat} (h : a ≤ b) : U T a ≤ U T b := Nat.mul_le_mul_right _ (V_le h)

/-- r is the rung nearest to 'N / D' units -/
def Rnd (T N D r : Nat) : Prop := r ≤ inf ∧ (r < inf → 2 * N ≤ (U T r + U T (r + 1)) * D ∧ (2 * N = (U T r + U T (r + 1)) * D → r % 2 = 0)) ∧
  (0 < r → (U T (r - 1) + U T r) * D ≤ 2 * N ∧ ((U T (r - 1) + U T r) * D = 2 * N → r % 2 = 0))

/-- with more it is no less -/
theorem Rnd.mono {T N D r N' D' r' : Nat} (h : Rnd T N D r) (h' : Rnd T N' D' r') (hD : 0 < D) (hD' : 0 < D') (hq : N * D' ≤ N' * D) : r ≤ r' := by
  obtain ⟨a1, a2, a3⟩ := h
  obtain ⟨b1, b2, b3⟩ := h'
  refine Nat.le_of_not_lt fun hlt => ?_
  obtain ⟨p1, p2⟩ := a3 (by omega)
  obtain ⟨q1, q2⟩ := b2 (by omega)
  -- U(r-1) + U(r) over D is at most 2N; 2N' is at most U(r') + U(r'+1) over D'
  have m1 : U T r' ≤ U T (r - 1) := U_le (by omega)
  have m2 : U T (r' + 1) ≤ U T r := U_le (by omega)
  have h1 : (U T (r - 1) + U T r) * D * D' ≤ 2 * N * D' := Nat.mul_le_mul_right _ p1
  have h2 : 2 * N' * D ≤ (U T r' + U T (r' + 1)) * D' * D := Nat.mul_le_mul_right _ q1
  have h3 : 2 * N * D' ≤ 2 * N' * D := by rw [Nat.mul_assoc, Nat.mul_assoc]; omega
  have h4 : (U T r' + U T (r' + 1)) * D' * D ≤ (U T (r - 1) + U T r) * D * D' := by
    rw [Nat.mul_assoc, Nat.mul_assoc, Nat.mul_comm D' D]
    exact Nat.mul_le_mul_right _ (by omega)
  have e1 : (U T (r - 1) + U T r) * D = 2 * N := Nat.eq_of_mul_eq_mul_right hD' (by omega)
  have e2 : 2 * N' = (U T r' + U T (r' + 1)) * D' := Nat.eq_of_mul_eq_mul_right hD (by omega)
  have z1 := p2 e1
  have z2 := q2 e2
  by_cases c : r = r' + 1
  · omega
  · have m3 : U T (r' + 1) < U T r := U_lt (by omega)
    have : (U T r' + U T (r' + 1)) * (D' * D) < (U T (r - 1) + U T r) * (D' * D) := Nat.mul_lt_mul_of_pos_right (by omega) (Nat.mul_pos hD' hD)
    have e3 : (U T r' + U T (r' + 1)) * D' * D = (U T r' + U T (r' + 1)) * (D' * D) := Nat.mul_assoc ..
    have e4 : (U T (r - 1) + U T r) * D * D' = (U T (r - 1) + U T r) * (D' * D) := by rw [Nat.mul_assoc, Nat.mul_comm D D']
    omega

/-- a rung's own number -/
theorem Rnd.own {T r : Nat} (h : r ≤ inf) : Rnd T (U T r) 1 r := by
  refine ⟨h, fun _ => ?_, fun h0 => ?_⟩
  · have := U_lt (T := T) (show r < r + 1 by omega)
    exact ⟨by omega, fun h => by omega⟩
  · have := U_lt (T := T) (show r - 1 < r by omega)
    exact ⟨by omega, fun h => by omega⟩

theorem Rnd.scale {T N D r c : Nat} (hc : 0 < c) (h : Rnd T (N * c) (D * c) r) : Rnd T N D r := by
  obtain ⟨a1, a2, a3⟩ := h
  refine ⟨a1, fun hr => ?_, fun hr => ?_⟩
  · obtain ⟨p, q⟩ := a2 hr
    rw [← Nat.mul_assoc, ← Nat.mul_assoc] at p q
    exact ⟨Nat.le_of_mul_le_mul_right p hc, fun h => q (by rw [h])⟩
  · obtain ⟨p, q⟩ := a3 hr
    rw [← Nat.mul_assoc, ← Nat.mul_assoc] at p q
    exact ⟨Nat.le_of_mul_le_mul_right p hc, fun h => q (by rw [h])⟩

/-- the nearest word, in natural numbers -/
theorem nearest_nat (s : Bool) (mag k T : Nat) (hm : mag ≠ 0) :
    FloatKind.f64.format.nearest s mag ((k : Int) - T) = FloatKind.f64.format.word s (min (((k + mag.log2 + 1074) - (T + 52)) * B + Ieee.Toward.even.cut s (mag <<< ((1074 + k) - (((k + mag.log2 + 1074) - (T + 52)) + T))) ((((k + mag.log2 + 1074) - (T + 52)) + T) - (1074 + k))) inf) := by
  unfold Ieee.Format.nearest
  rw [if_neg hm]
  simp only [f_binade, f_inf, f_least]
  have hf : ((FloatKind.f64.format.fractionBits : Nat) : Int) = 52 := rfl
  rw [hf]
  generalize mag.log2 = L
  have hl : max ((k : Int) - T + (L : Int) - 52) (-1074) = (((k + L + 1074) - (T + 52) : Nat) : Int) - 1074 := by omega
  rw [hl]
  generalize (k + L + 1074) - (T + 52) = e
  have q1 : (((e : Nat) : Int) - 1074 - -1074).toNat = e := by omega
  have q2 : ((k : Int) - T - (((e : Nat) : Int) - 1074)).toNat = (1074 + k) - (e + T) := by omega
  have q3 : ((((e : Nat) : Int) - 1074) - ((k : Int) - T)).toNat = (e + T) - (1074 + k) := by omega
  rw [q1, q2, q3]

theorem V_up (e c : Nat) (h : (e = 0 ∧ c ≤ 2 * B) ∨ (B ≤ c ∧ c ≤ 2 * B)) : (c + 1) * 2 ^ e ≤ V (e * B + c + 1) ∧ (c < 2 * B → V (e * B + c + 1) = (c + 1) * 2 ^ e) := by
  have hB : B = 4503599627370496 := rfl
  by_cases c1 : c < 2 * B
  · have := V_at e (c + 1) (by omega)
    rw [← Nat.add_assoc] at this
    exact ⟨by omega, fun _ => this⟩
  · have hc : c = 2 * B := by omega
    have := V_at (e + 1) (B + 1) (by omega)
    rw [show (e + 1) * B + (B + 1) = e * B + c + 1 by rw [Nat.add_mul]; omega, Nat.pow_succ] at this
    refine ⟨?_, fun h => by omega⟩
    rw [this, hc]
    have : (B + 1) * (2 ^ e * 2) = (2 * B + 2) * 2 ^ e := by rw [Nat.mul_comm (2 ^ e) 2, ← Nat.mul_assoc]; congr 1
    rw [this]
    exact Nat.mul_le_mul_right _ (by omega)

theorem V_down (e c : Nat) (h : (e = 0 ∧ c ≤ 2 * B) ∨ (B ≤ c ∧ c ≤ 2 * B)) (h1 : ¬ (e ≠ 0 ∧ c = B)) (h0 : 0 < c) : V (e * B + c - 1) = (c - 1) * 2 ^ e := by
  have := V_at e (c - 1) (by omega)
  rw [← this]
  congr 1
  omega

theorem word_min {T N D r0 : Nat} (hD : 0 < D) (ha : 2 * N ≤ (U T r0 + U T (r0 + 1)) * D ∧ (2 * N = (U T r0 + U T (r0 + 1)) * D → r0 % 2 = 0))
    (hb : 0 < r0 → (U T (r0 - 1) + U T r0) * D ≤ 2 * N ∧ ((U T (r0 - 1) + U T r0) * D = 2 * N → r0 % 2 = 0)) : Rnd T N D (min r0 inf) := by
  by_cases c : r0 ≤ inf
  · rw [Nat.min_eq_left c]
    exact ⟨c, fun _ => ha, hb⟩
  · rw [Nat.min_eq_right (by omega)]
    refine ⟨Nat.le_refl _, fun h => absurd h (Nat.lt_irrefl _), fun h => ?_⟩
    obtain ⟨p, _⟩ := hb (by omega)
    have m1 : U T (inf - 1) ≤ U T (r0 - 1) := U_le (by omega)
    have m2 : U T inf < U T r0 := U_lt (by omega)
    have : (U T (inf - 1) + U T inf) * D < (U T (r0 - 1) + U T r0) * D := Nat.mul_lt_mul_of_pos_right (by omega) hD
    exact ⟨by omega, fun h => by omega⟩

theorem nearest_rnd (s : Bool) (mag k T N D : Nat) (ex : Prop) (hm : mag ≠ 0) (hT : 1074 ≤ T) (hD : 0 < D)
    (hH : ∀ j, (ex ∨ j % 2 = 0) → ((mag ≤ j ↔ N ≤ j * 2 ^ k * D) ∧ (j ≤ mag ↔ j * 2 ^ k * D ≤ N)))
    (hd : ex ∨ 1074 + k + 2 ≤ ((k + mag.log2 + 1074) - (T + 52)) + T) :
    ∃ r, FloatKind.f64.format.nearest s mag ((k : Int) - T) = FloatKind.f64.format.word s r ∧ Rnd T N D r := by
  have hB : B = 4503599627370496 := rfl
  have hlo : 2 ^ mag.log2 ≤ mag := Nat.log2_self_le hm
  have hhi : mag < 2 ^ (mag.log2 + 1) := Nat.lt_log2_self
  refine ⟨_, nearest_nat s mag k T hm, ?_⟩
  generalize mag.log2 = L at *
  obtain ⟨e, he⟩ : ∃ e, e = (k + L + 1074) - (T + 52) := ⟨_, rfl⟩
  rw [← he] at hd ⊢
  by_cases hd0 : e + T ≤ 1074 + k
  · -- nothing is dropped
    have hex : ex := hd.elim id (fun h => absurd h (by omega))
    rw [show (e + T) - (1074 + k) = 0 by omega]
    obtain ⟨up, hup⟩ : ∃ up, up = (1074 + k) - (e + T) := ⟨_, rfl⟩
    rw [← hup, Nat.shiftLeft_eq]
    obtain ⟨c, ec, c1, _, c3, _⟩ := cut_spec s (mag * 2 ^ up) 0
    rw [ec]
    obtain rfl : c = mag * 2 ^ up := by omega
    have hN : N = mag * 2 ^ k * D := by
      have h1 := (hH mag (.inl hex)).1.1 (Nat.le_refl _)
      have h2 := (hH mag (.inl hex)).2.1 (Nat.le_refl _)
      omega
    have hr : (e = 0 ∧ mag * 2 ^ up ≤ 2 * B) ∨ (B ≤ mag * 2 ^ up ∧ mag * 2 ^ up ≤ 2 * B) := by
      have hx : mag * 2 ^ up < 2 ^ (L + 1 + up) := by rw [Nat.pow_add]; exact Nat.mul_lt_mul_of_pos_right hhi (Nat.pow_pos (by omega))
      have hy : 2 ^ (L + up) ≤ mag * 2 ^ up := by rw [Nat.pow_add]; exact Nat.mul_le_mul_right _ hlo
      have hz : 2 ^ (L + 1 + up) ≤ 2 ^ 53 := Nat.pow_le_pow_right (by omega) (by omega)
      by_cases e0 : e = 0
      · left; exact ⟨e0, by omega⟩
      · right
        have : L + up = 52 := by omega
        rw [this] at hy
        omega
    have hv := V_at e (mag * 2 ^ up) hr
    have hU : U T (e * B + mag * 2 ^ up) * D = N := by
      unfold U
      have hq : mag * 2 ^ up * 2 ^ e * 2 ^ (T - 1074) = mag * 2 ^ k := by rw [Nat.mul_assoc, Nat.mul_assoc, ← Nat.pow_add, ← Nat.pow_add, show up + (e + (T - 1074)) = k by omega]
      rw [hv, hN, hq]
    refine word_min hD ⟨?_, ?_⟩ fun h0 => ⟨?_, ?_⟩
    · have := U_lt (T := T) (show e * B + mag * 2 ^ up < e * B + mag * 2 ^ up + 1 by omega)
      have := Nat.mul_lt_mul_of_pos_right this hD
      rw [Nat.add_mul]
      omega
    · have := U_lt (T := T) (show e * B + mag * 2 ^ up < e * B + mag * 2 ^ up + 1 by omega)
      have := Nat.mul_lt_mul_of_pos_right this hD
      rw [Nat.add_mul]
      intro h; omega
    · have := U_lt (T := T) (show e * B + mag * 2 ^ up - 1 < e * B + mag * 2 ^ up by omega)
      have := Nat.mul_lt_mul_of_pos_right this hD
      rw [Nat.add_mul]
      omega
    · have := U_lt (T := T) (show e * B + mag * 2 ^ up - 1 < e * B + mag * 2 ^ up by omega)
      have := Nat.mul_lt_mul_of_pos_right this hD
      rw [Nat.add_mul]
      intro h; omega
  · -- d + 1 digits are dropped
    rw [show (1074 + k) - (e + T) = 0 by omega, Nat.shiftLeft_zero]
    obtain ⟨d, hdd⟩ : ∃ d, d + 1 = (e + T) - (1074 + k) := ⟨(e + T) - (1074 + k) - 1, by omega⟩
    rw [← hdd]
    obtain ⟨c, ec, c1, c2, c3, c4⟩ := cut_spec s mag (d + 1)
    rw [ec]
    have hp : 2 ^ (d + 1) = 2 * 2 ^ d := by rw [Nat.pow_succ]; omega
    have hp0 : 0 < 2 ^ d := Nat.pow_pos (by omega)
    rw [hp] at c1 c2 c3 c4
    obtain ⟨Z, hZ⟩ : ∃ Z, Z = c * 2 ^ d := ⟨_, rfl⟩
    have z1 : 2 * c * (2 * 2 ^ d) = 4 * Z := by rw [hZ, Nat.mul_assoc, Nat.mul_left_comm c]; omega
    rw [z1] at c1 c2 c3 c4
    have hr : (e = 0 ∧ c ≤ 2 * B) ∨ (B ≤ c ∧ c ≤ 2 * B) := by
      have hx : 2 ^ (L + 1) ≤ 2 ^ 53 * (2 * 2 ^ d) := by
        rw [← hp, ← Nat.pow_add]; exact Nat.pow_le_pow_right (by omega) (by omega)
      have hc : c ≤ 2 * B := by
        refine Nat.le_of_not_lt fun h => ?_
        rw [hB] at h
        have : 9007199254740993 * 2 ^ d ≤ c * 2 ^ d := Nat.mul_le_mul_right _ (by omega)
        omega
      by_cases e0 : e = 0
      · exact .inl ⟨e0, hc⟩
      · right
        refine ⟨?_, hc⟩
        have hL : L = 52 + (d + 1) := by omega
        have hy : 2 ^ 52 * (2 * 2 ^ d) ≤ mag := by rw [← hp, ← Nat.pow_add, ← hL]; exact hlo
        refine Nat.le_of_not_lt fun h => ?_
        rw [hB] at h
        have : c * 2 ^ d ≤ 4503599627370495 * 2 ^ d := Nat.mul_le_mul_right _ (by omega)
        omega
    have hpar : (e * B + c) % 2 = c % 2 := by
      have : e * B = 2 * (e * 2251799813685248) := by rw [hB]; omega
      omega
    -- in multiples of X: half a unit times D
    obtain ⟨X, hX⟩ : ∃ X, X = 2 ^ d * 2 ^ k * D := ⟨_, rfl⟩
    have hG : 2 ^ e * 2 ^ (T - 1074) = 2 * (2 ^ d * 2 ^ k) := by
      rw [← Nat.pow_add, ← Nat.pow_add, Nat.mul_comm 2, ← Nat.pow_succ, show e + (T - 1074) = d + k + 1 by omega]
    have hUc : ∀ a : Nat, a * 2 ^ e * 2 ^ (T - 1074) * D = a * (2 * X) := by
      intro a
      rw [Nat.mul_assoc a, hG, hX, Nat.mul_assoc a, Nat.mul_assoc 2]
    have hj : ∀ a : Nat, a * 2 ^ d * 2 ^ k * D = a * X := by
      intro a
      rw [hX, Nat.mul_assoc a, Nat.mul_assoc a]
    have hXpos : 0 < X := by rw [hX]; exact Nat.mul_pos (Nat.mul_pos hp0 (Nat.pow_pos (by omega))) hD
    have hok : ∀ a : Nat, ex ∨ (a * 2 ^ d) % 2 = 0 := by
      intro a
      rcases hd with h | h
      · exact .inl h
      · right
        obtain ⟨f, rfl⟩ : ∃ f, d = f + 1 := ⟨d - 1, by omega⟩
        rw [Nat.pow_succ, ← Nat.mul_assoc, Nat.mul_mod_left]
    have hu0 : U T (e * B + c) * D = c * (2 * X) := by unfold U; rw [V_at e c hr, hUc]
    obtain ⟨v1, v2⟩ := V_up e c hr
    have hu1 : (c + 1) * (2 * X) ≤ U T (e * B + c + 1) * D := by
      rw [← hUc]
      unfold U
      exact Nat.mul_le_mul_right _ (Nat.mul_le_mul_right _ v1)
    have hu1' : c < 2 * B → U T (e * B + c + 1) * D = (c + 1) * (2 * X) := fun h => by
      rw [← hUc]
      unfold U
      rw [v2 h]
    obtain ⟨Y, hY⟩ : ∃ Y, Y = c * X := ⟨_, rfl⟩
    have y1 : c * (2 * X) = 2 * Y := by rw [hY, Nat.mul_left_comm]
    have y2 : (c + 1) * (2 * X) = 2 * Y + 2 * X := by rw [Nat.add_mul, y1]; omega
    have y3 : (2 * c + 1) * X = 2 * Y + X := by rw [Nat.add_mul, hY, Nat.mul_assoc]; omega
    have z3 : (2 * c + 1) * 2 ^ d = 2 * Z + 2 ^ d := by rw [Nat.add_mul, hZ, Nat.mul_assoc]; omega
    refine word_min hD ⟨?_, ?_⟩ fun h0 => ?_
    · have h1 := (hH ((2 * c + 1) * 2 ^ d) (hok _)).1.1 (by rw [z3]; omega)
      rw [hj, y3] at h1
      rw [Nat.add_mul, hu0, y1]
      omega
    · intro heq
      rw [hpar]
      by_cases cb : c < 2 * B
      · rw [Nat.add_mul, hu0, hu1' cb, y1, y2] at heq
        have h1 := (hH ((2 * c + 1) * 2 ^ d) (hok _)).2.2 (by rw [hj, y3]; omega)
        rw [z3] at h1
        exact c4 (by omega)
      · omega
    · by_cases cb : e ≠ 0 ∧ c = B
      · -- the least of a binade: the number is not below it
        have hL : L = 52 + (d + 1) := by omega
        have hy : (2 * c) * 2 ^ d ≤ mag := by
          rw [cb.2, hB, show 2 * 4503599627370496 = 2 ^ 53 by decide, ← Nat.pow_add, show 53 + d = L by omega]
          exact hlo
        have h1 := (hH ((2 * c) * 2 ^ d) (hok _)).2.1 hy
        rw [hj, Nat.mul_assoc, ← hY] at h1
        have := U_lt (T := T) (show e * B + c - 1 < e * B + c by omega)
        have := Nat.mul_lt_mul_of_pos_right this hD
        rw [hu0, y1] at this
        rw [Nat.add_mul, hu0, y1]
        exact ⟨by omega, fun h => by omega⟩
      · by_cases hc0 : c = 0
        · subst hc0
          exfalso
          rcases hr with ⟨h, _⟩ | ⟨h, _⟩
          · rw [h] at h0; omega
          · omega
        · have hdn := V_down e c hr cb (by omega)
          have hu2 : U T (e * B + c - 1) * D = (c - 1) * (2 * X) := by unfold U; rw [hdn, hUc]
          have y4 : (c - 1) * (2 * X) + 2 * X = 2 * Y := by
            rw [← y1]
            obtain ⟨f, rfl⟩ : ∃ f, c = f + 1 := ⟨c - 1, by omega⟩
            rw [Nat.add_sub_cancel, Nat.add_mul]; omega
          have y5 : (2 * c - 1) * X + X = 2 * Y := by
            obtain ⟨f, rfl⟩ : ∃ f, c = f + 1 := ⟨c - 1, by omega⟩
            rw [show 2 * (f + 1) - 1 = 2 * f + 1 by omega, hY, Nat.add_mul, Nat.add_mul, Nat.mul_assoc]; omega
          have z5 : (2 * c - 1) * 2 ^ d + 2 ^ d = 2 * Z := by
            obtain ⟨f, rfl⟩ : ∃ f, c = f + 1 := ⟨c - 1, by omega⟩
            rw [show 2 * (f + 1) - 1 = 2 * f + 1 by omega, hZ, Nat.add_mul, Nat.add_mul, Nat.mul_assoc]; omega
          have h1 := (hH ((2 * c - 1) * 2 ^ d) (hok _)).2.1 (by omega)
          rw [hj] at h1
          rw [Nat.add_mul, hu0, hu2, y1]
          refine ⟨by omega, fun heq => ?_⟩
          rw [hpar]
          have h2 := (hH ((2 * c - 1) * 2 ^ d) (hok _)).1.2 (by rw [hj]; omega)
          exact c2 (by omega)

end Go.Proofs.Ytnkihggdohigiaa.Fl
end

section

namespace Go.Proofs.Ytnkihggdohigiaa.Fl
open Go.RowKit Go.Proofs.YtnkihggdohigiaaW.PrintWords
set_option linter.unusedVariables false

theorem read_fin {x : Nat} (h : rung x < inf) : ∃ m : Nat, ∃ up : Nat, FloatKind.f64.format.read x = .number (neg x) m ((up : Int) - 1074) ∧ m * 2 ^ up = V (rung x) ∧ m < 9007199254740992 ∧ up ≤ 2045 := by
  unfold Ieee.Format.read
  simp only [f_binade, f_inf, f_sw, f_least]
  show ∃ m up, (if rung x < B then _ else _) = _ ∧ _
  unfold V
  have hB : B = 4503599627370496 := rfl
  by_cases c : rung x < B
  · rw [if_pos c]
    exact ⟨rung x, 0, rfl, by rw [if_pos c]; omega, by omega, by omega⟩
  · rw [if_neg c, if_pos (show x % sw < inf from h)]
    refine ⟨B + rung x % B, rung x / B - 1, ?_, by rw [if_neg c], ?_, ?_⟩
    · have e : (-1074 : Int) + ((rung x / B - 1 : Nat) : Int) = ((rung x / B - 1 : Nat) : Int) - 1074 := by omega
      rw [← e]
      rfl
    · have := Nat.mod_lt (rung x) (show 0 < B by omega)
      omega
    · unfold inf at h
      rw [hB]
      omega

theorem word_pos (r : Nat) (h : r ≤ inf) : rung (FloatKind.f64.format.word false r) = r ∧ neg (FloatKind.f64.format.word false r) = false := by
  unfold Ieee.Format.word rung neg sw
  unfold inf at h
  rw [if_neg (by decide)]
  refine ⟨by omega, ?_⟩
  rw [show r / 9223372036854775808 = 0 by omega]; rfl
theorem word_neg (r : Nat) (h : r ≤ inf) : rung (FloatKind.f64.format.word true r) = r ∧ neg (FloatKind.f64.format.word true r) = true := by
  unfold Ieee.Format.word rung neg
  rw [if_pos rfl, f_sw]
  unfold inf at h
  unfold sw
  refine ⟨by omega, ?_⟩
  rw [show (9223372036854775808 + r) / 9223372036854775808 = 1 by omega]; rfl
theorem word_at (s : Bool) (r : Nat) (h : r ≤ inf) : rung (FloatKind.f64.format.word s r) = r ∧ neg (FloatKind.f64.format.word s r) = s := by
  cases s
  · exact word_pos r h
  · exact word_neg r h
theorem key_word (s : Bool) (r : Nat) (h : r ≤ inf) : key (FloatKind.f64.format.word s r) = sg s r := by
  rw [key_sg, (word_at s r h).1, (word_at s r h).2]
theorem nan_word (s : Bool) (r : Nat) (h : r ≤ inf) : ¬ nan (FloatKind.f64.format.word s r) := by
  unfold nan; rw [(word_at s r h).1]; omega

theorem rnd_zero (T : Nat) (D : Nat) (hD : 0 < D) : Rnd T 0 D 0 := by
  refine ⟨by decide, fun _ => ⟨by omega, fun h => rfl⟩, fun h => absurd h (by omega)⟩

theorem nearest_zero (s : Bool) (p : Int) : FloatKind.f64.format.nearest s 0 p = FloatKind.f64.format.word s 0 := by
  unfold Ieee.Format.nearest; rw [if_pos rfl]

/-- an exact number of units -/
theorem nearest_exact (s : Bool) (mag k T : Nat) (hT : 1074 ≤ T) : ∃ r, FloatKind.f64.format.nearest s mag ((k : Int) - T) = FloatKind.f64.format.word s r ∧ Rnd T (mag * 2 ^ k) 1 r := by
  by_cases h : mag = 0
  · subst h
    refine ⟨0, nearest_zero s _, ?_⟩
    rw [Nat.zero_mul]; exact rnd_zero T 1 (by omega)
  · refine nearest_rnd s mag k T (mag * 2 ^ k) 1 True h hT (by omega) (fun j _ => ?_) (.inl trivial)
    have hp : 0 < 2 ^ k := Nat.pow_pos (by omega)
    rw [Nat.mul_one]
    exact ⟨⟨fun h => Nat.mul_le_mul_right _ h, fun h => Nat.le_of_mul_le_mul_right h hp⟩, ⟨fun h => Nat.mul_le_mul_right _ h, fun h => Nat.le_of_mul_le_mul_right h hp⟩⟩

theorem mul_rnd {x y : Nat} (hx : rung x < inf) (hy : rung y < inf) : ∃ r, FloatKind.f64.format.mul x y = some (FloatKind.f64.format.word (neg x ^^ neg y) r) ∧ Rnd 2148 (V (rung x) * V (rung y)) 1 r := by
  obtain ⟨m, i, e1, v1, _, _⟩ := read_fin hx
  obtain ⟨n, j, e2, v2, _, _⟩ := read_fin hy
  obtain ⟨r, h1, h2⟩ := nearest_exact (neg x ^^ neg y) (m * n) (i + j) 2148 (by omega)
  refine ⟨r, ?_, ?_⟩
  · unfold Ieee.Format.mul
    rw [e1, e2]
    simp only [Ieee.Datum.product, Option.map_some, Ieee.Format.write]
    rw [← h1]
    congr 2
    omega
  · rw [← v1, ← v2]
    have : m * 2 ^ i * (n * 2 ^ j) = m * n * 2 ^ (i + j) := by
      rw [Nat.pow_add, Nat.mul_assoc, Nat.mul_assoc, Nat.mul_left_comm (2 ^ i)]
    rw [this]
    exact h2

theorem div_even (D n a : Nat) (hn : 0 < n) : (2 * (D / n) + (D % n != 0).toNat ≤ 2 * a ↔ D ≤ a * n) ∧ (2 * a ≤ 2 * (D / n) + (D % n != 0).toNat ↔ a * n ≤ D) := by
  have h1 := Nat.div_add_mod D n
  have h2 := Nat.mod_lt D hn
  have h3 : (D % n != 0).toNat = if D % n = 0 then 0 else 1 := by by_cases c : D % n = 0 <;> simp [c]
  rw [h3]
  have h4 : a ≤ D / n ↔ a * n ≤ D := Nat.le_div_iff_mul_le hn
  have h5 : D / n * n ≤ D := Nat.div_mul_le_self D n
  have h6 : n * (D / n) = D / n * n := Nat.mul_comm ..
  constructor
  · constructor
    · intro h
      by_cases c : D % n = 0
      · rw [if_pos c] at h
        have : D / n * n ≤ a * n := Nat.mul_le_mul_right _ (by omega)
        omega
      · rw [if_neg c] at h
        have : (D / n + 1) * n ≤ a * n := Nat.mul_le_mul_right _ (by omega)
        rw [Nat.add_mul] at this
        omega
    · intro h
      by_cases c : D % n = 0
      · rw [if_pos c]
        have : ¬ a < D / n := fun q => by
          have : (a + 1) * n ≤ D / n * n := Nat.mul_le_mul_right _ q
          rw [Nat.add_mul] at this
          omega
        omega
      · rw [if_neg c]
        have : ¬ a ≤ D / n := fun q => by
          have : a * n ≤ D / n * n := Nat.mul_le_mul_right _ q
          omega
        omega
  · constructor
    · intro h
      exact h4.1 (by split at h <;> omega)
    · intro h
      have := h4.2 h
      split <;> omega

def TT : Nat := 4000
theorem TT_eq : TT = 4000 := rfl

theorem div_rnd {x y : Nat} (hx : rung x < inf) (hy : rung y < inf) (h0 : 0 < rung x) (h1 : 0 < rung y) :
    ∃ r, FloatKind.f64.format.div x y = some (FloatKind.f64.format.word (neg x ^^ neg y) r) ∧ Rnd TT (V (rung x) * 2 ^ TT) (V (rung y)) r := by
  have hT := TT_eq
  obtain ⟨m, i, e1, v1, bm, bi⟩ := read_fin hx
  obtain ⟨n, j, e2, v2, bn, bj⟩ := read_fin hy
  have hVx : 0 < V (rung x) := by have := V_lt h0; omega
  have hVy : 0 < V (rung y) := by have := V_lt h1; omega
  have hm : m ≠ 0 := by rintro rfl; rw [Nat.zero_mul] at v1; omega
  have hn : n ≠ 0 := by rintro rfl; rw [Nat.zero_mul] at v2; omega
  have ln : 2 ^ n.log2 ≤ n := Nat.log2_self_le hn
  have ln2 : n < 2 ^ (n.log2 + 1) := Nat.lt_log2_self
  have lm : 2 ^ m.log2 ≤ m := Nat.log2_self_le hm
  have bl : n.log2 ≤ 52 := by
    refine Nat.le_of_not_lt fun h => ?_
    have : 2 ^ 53 ≤ 2 ^ n.log2 := Nat.pow_le_pow_right (by omega) h
    omega
  obtain ⟨more, hmore⟩ : ∃ more, more = 54 + n.log2 - m.log2 := ⟨_, rfl⟩
  obtain ⟨D, hD⟩ : ∃ D, D = m * 2 ^ more := ⟨_, rfl⟩
  obtain ⟨mag, hmag⟩ : ∃ mag, mag = 2 * (D / n) + (D % n != 0).toNat := ⟨_, rfl⟩
  obtain ⟨k, hk⟩ : ∃ k, k = i + TT - j - more - 1 := ⟨_, rfl⟩
  have hn0 : 0 < n := Nat.pos_of_ne_zero hn
  have hDn : 2 ^ 53 ≤ D / n := by
    rw [Nat.le_div_iff_mul_le hn0]
    have a1 : 2 ^ 53 * n ≤ 2 ^ 53 * 2 ^ (n.log2 + 1) := Nat.mul_le_mul_left _ (by omega)
    have a2 : 2 ^ 53 * 2 ^ (n.log2 + 1) ≤ 2 ^ (m.log2 + more) := by rw [← Nat.pow_add]; exact Nat.pow_le_pow_right (by omega) (by omega)
    have a3 : 2 ^ (m.log2 + more) ≤ D := by rw [Nat.pow_add, hD]; exact Nat.mul_le_mul_right _ lm
    omega
  have hmag2 : 2 ^ 54 ≤ mag := by rw [hmag]; omega
  have hL : 54 ≤ mag.log2 := (Nat.le_log2 (by omega)).2 hmag2
  have hE : i + TT - more - 1 = k + j := by omega
  obtain ⟨r, g1, g2⟩ := nearest_rnd (neg x ^^ neg y) mag k TT (V (rung x) * 2 ^ TT) (V (rung y)) False (by omega) (by omega) hVy (fun q hq => by
    have hq : q % 2 = 0 := hq.elim False.elim id
    obtain ⟨a, rfl⟩ : ∃ a, q = 2 * a := ⟨q / 2, by omega⟩
    have hp : 0 < 2 ^ (k + j) := Nat.pow_pos (by omega)
    have p1 : V (rung x) * 2 ^ TT = 2 * D * 2 ^ (k + j) := by
      rw [← v1, hD, Nat.mul_assoc m, ← Nat.pow_add, Nat.mul_assoc 2, Nat.mul_assoc m, ← Nat.pow_add, Nat.mul_left_comm 2 m, Nat.mul_comm 2 (2 ^ _), ← Nat.pow_succ, show (more + (k + j)).succ = i + TT by omega]
    have p2 : 2 * a * 2 ^ k * V (rung y) = 2 * (a * n) * 2 ^ (k + j) := by
      rw [← v2, Nat.pow_add, Nat.mul_assoc 2, Nat.mul_assoc 2, Nat.mul_assoc 2, Nat.mul_assoc a, Nat.mul_assoc a, Nat.mul_left_comm n]
    have hde := div_even D n a hn0
    rw [p1, p2, hmag]
    constructor
    · rw [hde.1]
      exact ⟨fun h => Nat.mul_le_mul_right _ (by omega), fun h => by have := Nat.le_of_mul_le_mul_right h hp; omega⟩
    · rw [hde.2]
      exact ⟨fun h => Nat.mul_le_mul_right _ (by omega), fun h => by have := Nat.le_of_mul_le_mul_right h hp; omega⟩) (.inr (by omega))
  refine ⟨r, ?_, g2⟩
  unfold Ieee.Format.div
  rw [e1, e2]
  have hf : FloatKind.f64.format.fractionBits + 2 = 54 := rfl
  simp only [Ieee.Datum.quotient, hf]
  rw [if_neg hn, ← hmore, Nat.shiftLeft_eq, ← hD, ← hmag]
  simp only [Option.map_some, Ieee.Format.write]
  rw [← g1]
  congr 2
  omega

theorem Rnd.unique {T N D r r' : Nat} (hD : 0 < D) (h : Rnd T N D r) (h' : Rnd T N D r') : r = r' :=
  Nat.le_antisymm (h.mono h' hD hD (Nat.le_refl _)) (h'.mono h hD hD (Nat.le_refl _))

/-! ### whole numbers -/
theorem fi_nat (n T : Nat) (hT : 1074 ≤ T) : ∃ r, floatOfInt .f64 (n : Int) = FloatKind.f64.format.word false r ∧ Rnd T (n * 2 ^ T) 1 r := by
  obtain ⟨r, h1, h2⟩ := nearest_exact false n T T hT
  refine ⟨r, ?_, h2⟩
  unfold floatOfInt FloatKind.nearest FloatKind.encode Ieee.Format.write
  simp only
  rw [← h1, decide_eq_false (by omega), Int.natAbs_natCast]
  congr 1
  omega

end Go.Proofs.Ytnkihggdohigiaa.Fl
end
