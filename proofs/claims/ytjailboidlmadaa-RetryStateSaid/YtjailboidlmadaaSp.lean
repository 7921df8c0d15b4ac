/- Plain facts on the bytes of numbers: how a number is written in bytes of seven bits, and how it is read back. No program in sight. -/
import Derived.Test.YtjailboidlmadaaWMore
import Derived.Lib.Strings
namespace Go.Proofs.Ytjailboidlmadaa.Sp
open Go.RowKit Go.Proofs.YtjailboidlmadaaW.PrintWords Go.Proofs.YtjailboidlmadaaW.PrintLast Go.Proofs.YtjailboidlmadaaW.PrintMore

theorem wrap64_of {n : Int} (h0 : -9223372036854775808 ≤ n) (h1 : n ≤ 9223372036854775807) : wrap64 n = n := by unfold wrap64; omega

def By (l : List Int) : Prop := ∀ x ∈ l, 0 ≤ x ∧ x < 256

theorem By.tail {x : Int} {l : List Int} (h : By (x :: l)) : By l := fun y hy => h y (List.mem_cons_of_mem _ hy)
theorem By.head {x : Int} {l : List Int} (h : By (x :: l)) : 0 ≤ x ∧ x < 256 := h x List.mem_cons_self
theorem By.drop {l : List Int} (h : By l) (n : Nat) : By (l.drop n) := fun y hy => h y (List.mem_of_mem_drop hy)
theorem By.take {l : List Int} (h : By l) (n : Nat) : By (l.take n) := fun y hy => h y (List.mem_of_mem_take hy)
theorem By.append {l m : List Int} (h : By l) (h' : By m) : By (l ++ m) := fun y hy => (List.mem_append.1 hy).elim (h y) (h' y)

theorem by_bytesOf (s : ByteArray) : By (bytesOf s) := by
  intro x hx
  unfold bytesOf at hx
  obtain ⟨c, _, rfl⟩ := List.mem_map.1 hx
  have := c.toNat_lt
  omega

theorem bytesOf_strOfNums {l : List Int} (h : By l) : bytesOf (strOfNums l) = l := by
  unfold bytesOf
  rw [strOfNums_data, List.map_map]
  conv => rhs; rw [← List.map_id l]
  refine List.map_congr_left fun x hx => ?_
  have := h x hx
  simp only [Function.comp, id]
  rw [UInt8.toNat_ofNat_of_lt' (by show x.toNat < 256; omega)]
  omega

theorem strOfNums_bytesOf (s : ByteArray) : strOfNums (bytesOf s) = s := by
  unfold bytesOf strOfNums
  rw [List.map_map]
  have : (List.map ((fun n : Int => UInt8.ofNat n.toNat) ∘ fun b : UInt8 => (b.toNat : Int)) s.data.toList) = s.data.toList := by
    conv => rhs; rw [← List.map_id s.data.toList]
    refine List.map_congr_left fun x _ => ?_
    simp
  rw [this]

theorem bytes_ext {a b : ByteArray} (h : bytesOf a = bytesOf b) : a = b := by
  rw [← strOfNums_bytesOf a, ← strOfNums_bytesOf b, h]

theorem toList_iff (a b : ByteArray) : a.toList = b.toList ↔ bytesOf a = bytesOf b := by
  rw [ByteArray.toList_eq, ByteArray.toList_eq]
  constructor
  · intro h; unfold bytesOf; rw [h]
  · intro h; rw [bytes_ext h]

theorem toList_inj {a b : ByteArray} (h : a.toList = b.toList) : a = b := bytes_ext ((toList_iff a b).1 h)

theorem bytesOf_extract (s : ByteArray) (a b : Nat) : bytesOf (s.extract a b) = ((bytesOf s).drop a).take (b - a) := by
  unfold bytesOf
  rw [Lib.extract_data, List.map_take, List.map_drop]

theorem bytesOf_size (s : ByteArray) : (bytesOf s).length = s.size := bytesOf_length s

theorem bytesOf_append (a b : ByteArray) : bytesOf (a ++ b) = bytesOf a ++ bytesOf b := by
  unfold bytesOf
  rw [ByteArray.data_append, Array.toList_append, List.map_append]

theorem bytesOf_nil : bytesOf (⟨#[]⟩ : ByteArray) = [] := rfl

theorem bt_rd (s : ByteArray) (i : Nat) : bt s (i : Int) = (bytesOf s).getD i 0 := by
  rw [← rd_bytesOf]; unfold rd; simp

theorem drop_cons {l : List Int} {i : Nat} (h : i < l.length) : l.drop i = l.getD i 0 :: l.drop (i + 1) := by
  rw [List.drop_eq_getElem_cons h, List.getD_eq_getElem?_getD, List.getElem?_eq_getElem h]; rfl

theorem take_snoc {l : List Int} {i : Nat} (h : i < l.length) : l.take (i + 1) = l.take i ++ [l.getD i 0] := by
  rw [List.take_succ_eq_append_getElem h, List.getD_eq_getElem?_getD, List.getElem?_eq_getElem h]; rfl

/-- the value of some bytes of seven bits each -/
def pv : List Int → Nat
  | [] => 0
  | x :: xs => x.toNat % 128 + 128 * pv xs

theorem pv_append (l m : List Int) : pv (l ++ m) = pv l + 128 ^ l.length * pv m := by
  induction l with
  | nil => simp [pv]
  | cons x l ih =>
    rw [List.cons_append, pv, pv, ih, List.length_cons, Nat.mul_add, Nat.pow_succ, ← Nat.mul_assoc, Nat.mul_comm 128 (128 ^ l.length)]
    omega

theorem pv_lt (l : List Int) : pv l < 128 ^ l.length := by
  induction l with
  | nil => simp [pv]
  | cons x l ih =>
    rw [pv, List.length_cons, Nat.pow_succ]
    omega

/-- a number's bytes -/
def vbs (z : Nat) : List Int := if z < 128 then [(z : Int)] else ((z % 128 + 128 : Nat) : Int) :: vbs (z / 128)
  termination_by z
  decreasing_by omega

theorem vbs_lt {z : Nat} (h : z < 128) : vbs z = [(z : Int)] := by rw [vbs, if_pos h]
theorem vbs_ge {z : Nat} (h : 128 ≤ z) : vbs z = ((z % 128 + 128 : Nat) : Int) :: vbs (z / 128) := by rw [vbs, if_neg (by omega)]

theorem vbs_by (z : Nat) : By (vbs z) := by
  induction z using Nat.strongRecOn with
  | _ z ih =>
    by_cases h : z < 128
    · rw [vbs_lt h]; intro x hx; simp at hx; omega
    · rw [vbs_ge (by omega)]
      intro x hx
      rcases List.mem_cons.1 hx with rfl | hx
      · omega
      · exact ih (z / 128) (by omega) x hx

theorem vbs_ne (z : Nat) : vbs z ≠ [] := by
  by_cases h : z < 128
  · rw [vbs_lt h]; simp
  · rw [vbs_ge (by omega)]; simp

theorem vbs_pos (z : Nat) : 1 ≤ (vbs z).length := by
  have := vbs_ne z
  cases h : vbs z with
  | nil => exact absurd h this
  | cons => simp

theorem vbs_len (n : Nat) : ∀ z, 0 < n → z < 128 ^ n → (vbs z).length ≤ n := by
  induction n with
  | zero => intro z h; omega
  | succ n ih =>
    intro z _ hz
    by_cases h : z < 128
    · rw [vbs_lt h]; simp
    · rw [vbs_ge (by omega), List.length_cons]
      have : n ≠ 0 := by rintro rfl; simp at hz; omega
      have := ih (z / 128) (by omega) (by rw [Nat.pow_succ] at hz; omega)
      omega

theorem vbs_len_ge (n : Nat) : ∀ z, 128 ^ n ≤ z → n + 1 ≤ (vbs z).length := by
  induction n with
  | zero => intro z _; exact vbs_pos z
  | succ n ih =>
    intro z hz
    rw [Nat.pow_succ] at hz
    have : 0 < 128 ^ n := Nat.pow_pos (by omega)
    rw [vbs_ge (by omega), List.length_cons]
    have := ih (z / 128) (by omega)
    omega

theorem vbs_len10 {z : Nat} (h : z < 18446744073709551616) : (vbs z).length ≤ 10 := vbs_len 10 z (by omega) (by omega)

theorem pv_vbs (z : Nat) : pv (vbs z) = z := by
  induction z using Nat.strongRecOn with
  | _ z ih =>
    by_cases h : z < 128
    · rw [vbs_lt h]; simp [pv]; omega
    · rw [vbs_ge (by omega), pv, ih (z / 128) (by omega)]
      omega

theorem vbs_inj {a b : Nat} (h : vbs a = vbs b) : a = b := by rw [← pv_vbs a, ← pv_vbs b, h]

/-- the number at the beginning, however great, and how many bytes it has -/
def tkr : List Int → Option (Nat × Nat)
  | [] => none
  | x :: xs => if x < 128 then some (x.toNat, 1) else match tkr xs with
    | none => none
    | some (z, s) => if z = 0 then none else some (x.toNat % 128 + 128 * z, s + 1)

theorem tkr_vbs (z : Nat) : ∀ r, tkr (vbs z ++ r) = some (z, (vbs z).length) := by
  induction z using Nat.strongRecOn with
  | _ z ih =>
    intro r
    by_cases h : z < 128
    · rw [vbs_lt h]; simp [tkr]; omega
    · rw [vbs_ge (by omega), List.cons_append, tkr, if_neg (by omega), ih (z / 128) (by omega)]
      simp only
      rw [if_neg (by omega), List.length_cons]
      congr 2
      omega

theorem tkr_back : ∀ (l : List Int), By l → ∀ z s, tkr l = some (z, s) → l.take s = vbs z ∧ s = (vbs z).length ∧ s ≤ l.length := by
  intro l
  induction l with
  | nil => intro _ z s h; simp [tkr] at h
  | cons x l ih =>
    intro hb z s h
    rw [tkr] at h
    have hx := hb.head
    by_cases c : x < 128
    · rw [if_pos c] at h
      obtain ⟨rfl, rfl⟩ : x.toNat = z ∧ 1 = s := by simpa using h
      rw [vbs_lt (by omega)]
      simp
      omega
    · rw [if_neg c] at h
      cases e : tkr l with
      | none => rw [e] at h; simp at h
      | some p =>
        obtain ⟨z', s'⟩ := p
        rw [e] at h
        simp only at h
        by_cases c0 : z' = 0
        · rw [if_pos c0] at h; simp at h
        · rw [if_neg c0] at h
          obtain ⟨rfl, rfl⟩ : x.toNat % 128 + 128 * z' = z ∧ s' + 1 = s := by simpa using h
          obtain ⟨h1, h2, h3⟩ := ih hb.tail z' s' e
          have hq : (x.toNat % 128 + 128 * z') / 128 = z' := by omega
          rw [vbs_ge (by omega), hq, List.take_succ_cons, h1, List.length_cons, List.length_cons]
          refine ⟨?_, by omega, by omega⟩
          congr 1
          omega

/-- the number at the beginning, below 2 ^ 64 -/
def tk (l : List Int) : Option (Nat × Nat) := match tkr l with
  | none => none
  | some (z, s) => if z < 18446744073709551616 then some (z, s) else none

theorem tk_vbs {z : Nat} (h : z < 18446744073709551616) (r : List Int) : tk (vbs z ++ r) = some (z, (vbs z).length) := by
  rw [tk, tkr_vbs]; simp only; rw [if_pos h]

theorem tk_back {l : List Int} (hb : By l) {z s : Nat} (h : tk l = some (z, s)) : l.take s = vbs z ∧ s = (vbs z).length ∧ s ≤ l.length ∧ z < 18446744073709551616 := by
  unfold tk at h
  split at h
  · cases h
  · rename_i z' s' e
    split at h
    · obtain ⟨rfl, rfl⟩ : z' = z ∧ s' = s := by simpa using h
      obtain ⟨a, b, c⟩ := tkr_back l hb _ _ e
      exact ⟨a, b, c, by assumption⟩
    · cases h

theorem tk_eq {l : List Int} (hb : By l) {z s : Nat} (h : tk l = some (z, s)) : l = vbs z ++ l.drop s := by
  rw [← (tk_back hb h).1, List.take_append_drop]

/-- what is cut off in a number's bytes is none -/
theorem tkr_cut (z : Nat) : ∀ n, n < (vbs z).length → tkr ((vbs z).take n) = none := by
  induction z using Nat.strongRecOn with
  | _ z ih =>
    intro n hn
    by_cases h : z < 128
    · rw [vbs_lt h] at hn ⊢
      obtain rfl : n = 0 := by simp at hn; omega
      rfl
    · rw [vbs_ge (by omega)] at hn ⊢
      cases n with
      | zero => rfl
      | succ n =>
        rw [List.take_succ_cons, tkr, if_neg (by omega), ih (z / 128) (by omega) n (by rw [List.length_cons] at hn; omega)]

theorem tk_cut {z n : Nat} (h : n < (vbs z).length) : tk ((vbs z).take n) = none := by rw [tk, tkr_cut z n h]

/-- no number's bytes are the beginning of another one's -/
theorem vbs_apart {a b : Nat} {r s : List Int} (h : vbs a ++ r = vbs b ++ s) : a = b ∧ r = s := by
  have e := tkr_vbs a r
  rw [h, tkr_vbs b s] at e
  obtain ⟨rfl, _⟩ : b = a ∧ _ := by simpa using e
  exact ⟨rfl, List.append_cancel_left h⟩

/-- numbers turned into those from 0 on, and back -/
def zig (n : Int) : Nat := if n < 0 then (-2 * n - 1).toNat else (2 * n).toNat
def zag (z : Nat) : Int := if z % 2 = 1 then -((z / 2 : Nat) : Int) - 1 else ((z / 2 : Nat) : Int)

theorem zag_zig (n : Int) : zag (zig n) = n := by unfold zag zig; split <;> split <;> omega
theorem zig_zag (z : Nat) : zig (zag z) = z := by unfold zag zig; split <;> split <;> omega
theorem zig_inj {a b : Int} (h : zig a = zig b) : a = b := by rw [← zag_zig a, ← zag_zig b, h]
theorem zig_lt {n : Int} (h : -9223372036854775808 ≤ n ∧ n ≤ 9223372036854775807) : zig n < 18446744073709551616 := by unfold zig; split <;> omega
theorem zag_range {z : Nat} (h : z < 18446744073709551616) : -9223372036854775808 ≤ zag z ∧ zag z ≤ 9223372036854775807 := by unfold zag; split <;> omega

/-- a number's bytes, as a text -/
def num (n : Int) : ByteArray := strOfNums (vbs (zig n))
theorem bytes_num (n : Int) : bytesOf (num n) = vbs (zig n) := bytesOf_strOfNums (vbs_by _)
theorem num_size (n : Int) : (num n).size = (vbs (zig n)).length := strOfNums_size _

/-- the number at the beginning of a text -/
def tnum (b : ByteArray) : Option (Int × ByteArray) := match tk (bytesOf b) with
  | none => none
  | some (z, s) => some (zag z, b.extract s b.size)

theorem tnum_num {n : Int} (h : -9223372036854775808 ≤ n ∧ n ≤ 9223372036854775807) (r : ByteArray) : tnum (num n ++ r) = some (n, r) := by
  unfold tnum
  rw [bytesOf_append, bytes_num, tk_vbs (zig_lt h)]
  simp only [zag_zig]
  congr 2
  refine bytes_ext ?_
  rw [bytesOf_extract, bytesOf_append, bytes_num, List.drop_left, List.take_of_length_le]
  rw [ByteArray.size_append, num_size, bytesOf_size]
  omega

theorem tnum_back {b : ByteArray} {n : Int} {r : ByteArray} (h : tnum b = some (n, r)) : b = num n ++ r ∧ -9223372036854775808 ≤ n ∧ n ≤ 9223372036854775807 := by
  unfold tnum at h
  split at h
  · cases h
  · rename_i z s e
    obtain ⟨rfl, rfl⟩ : zag z = n ∧ b.extract s b.size = r := by simpa using h
    obtain ⟨h1, h2, h3, h4⟩ := tk_back (by_bytesOf b) e
    refine ⟨bytes_ext ?_, zag_range h4⟩
    rw [bytesOf_append, bytes_num, zig_zag, bytesOf_extract, ← h1]
    rw [List.take_of_length_le (l := (bytesOf b).drop s), List.take_append_drop]
    rw [List.length_drop, bytesOf_size]
    omega

end Go.Proofs.Ytjailboidlmadaa.Sp
