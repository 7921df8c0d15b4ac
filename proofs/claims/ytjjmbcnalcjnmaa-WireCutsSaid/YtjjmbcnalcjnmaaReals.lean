/- Plain facts on fractions as bytes: eight bytes, the greatest first; of what is no number, always the same ones. -/
import Derived.Test.YtjjmbcnalcjnmaaWire
import Derived.Test.YtjjmbcnalcjnmaaPx15
import Derived.Test.YtjjmbcnalcjnmaaPx12
import Derived.Test.YtjjmbcnalcjnmaaPx13
import Derived.Test.YtjjmbcnalcjnmaaPx14
namespace Go.Proofs.Ytjjmbcnalcjnmaa.Sp
open Go.RowKit Go.Proofs.Ytjjmbcnalcjnmaa.P Go.Proofs.YtjjmbcnalcjnmaaW.PrintWords Go.Proofs.YtjjmbcnalcjnmaaW.PrintLast Go.Proofs.YtjjmbcnalcjnmaaW.PrintMore
set_option linter.unusedVariables false

/-- the number whose bytes these are, the greatest first -/
def be (l : List Int) : Int := l.foldl (fun v c => v * 256 + c) 0
theorem be_snoc (l : List Int) (c : Int) : be (l ++ [c]) = be l * 256 + c := by unfold be; rw [List.foldl_append]; rfl

theorem real8_by (n : Int) : By (real8 n) := by
  intro x hx
  simp only [real8, List.mem_cons, List.mem_nil_iff, or_false] at hx
  rcases hx with rfl | rfl | rfl | rfl | rfl | rfl | rfl | rfl <;> omega
theorem real8_length (n : Int) : (real8 n).length = 8 := rfl

theorem be_real8 {n : Int} (h0 : 0 ≤ n) (h1 : n < 18446744073709551616) : be (real8 n) = n := by
  unfold be real8
  simp only [List.foldl_cons, List.foldl_nil]
  omega

theorem eight {l : List Int} (h : l.length = 8) : ∃ a b c d e f g i, l = [a, b, c, d, e, f, g, i] := by
  match l, h with
  | [a, b, c, d, e, f, g, i], _ => exact ⟨a, b, c, d, e, f, g, i, rfl⟩

theorem real8_be {l : List Int} (hb : By l) (h : l.length = 8) : real8 (be l) = l ∧ 0 ≤ be l ∧ be l < 18446744073709551616 := by
  obtain ⟨a, b, c, d, e, f, g, i, rfl⟩ := eight h
  have ha := hb a (by simp)
  have hb' := hb b (by simp)
  have hc := hb c (by simp)
  have hd := hb d (by simp)
  have he := hb e (by simp)
  have hf := hb f (by simp)
  have hg := hb g (by simp)
  have hi := hb i (by simp)
  unfold be real8
  simp only [List.foldl_cons, List.foldl_nil]
  refine ⟨?_, by omega, by omega⟩
  rw [List.cons.injEq, List.cons.injEq, List.cons.injEq, List.cons.injEq, List.cons.injEq, List.cons.injEq, List.cons.injEq, List.cons.injEq]
  refine ⟨by omega, by omega, by omega, by omega, by omega, by omega, by omega, by omega, rfl⟩

theorem or_shift {v c : Int} (h0 : 0 ≤ v) (h1 : v < 72057594037927936) (c0 : 0 ≤ c) (c1 : c < 256) : Go.bits .or .u64 (IntKind.u64.wrap (v * 256)) (IntKind.u64.wrap c) = v * 256 + c := by
  rw [u64_wrap, u64_wrap, Int.emod_eq_of_lt (by omega) (by omega), Int.emod_eq_of_lt (by omega) (by omega)]
  have := u64_or_add (x := c) (y := v) (i := 8) c0 (by simpa using c1) h0 (by omega) (by omega)
  have e : Go.bits .or .u64 (v * 256) c = Go.bits .or .u64 c (v * 256) := by
    unfold Go.bits
    simp only [BitVec.or_comm]
  rw [e, show (256 : Int) = 2 ^ 8 by rfl, this]
  omega

theorem pow256 {i : Nat} (h : i ≤ 7) : (256 : Int) ^ i ≤ 72057594037927936 := by
  rcases (show i = 0 ∨ i = 1 ∨ i = 2 ∨ i = 3 ∨ i = 4 ∨ i = 5 ∨ i = 6 ∨ i = 7 by omega) with rfl | rfl | rfl | rfl | rfl | rfl | rfl | rfl <;> decide

theorem fold_be {l : List Int} (hb : By l) : ∀ k, k ≤ 8 → k ≤ l.length → (l.take k).foldl realStep 0 = be (l.take k) ∧ 0 ≤ be (l.take k) ∧ be (l.take k) < 256 ^ k := by
  intro k
  induction k with
  | zero => intro _ _; exact ⟨rfl, by simp [be], by simp [be]⟩
  | succ k ih =>
    intro h8 hl
    obtain ⟨e, h0, h1⟩ := ih (by omega) (by omega)
    have hc := hb (l.getD k 0) (by rw [List.getD_eq_getElem?_getD, List.getElem?_eq_getElem (show k < l.length by omega)]; exact List.getElem_mem _)
    rw [take_snoc (show k < l.length by omega), List.foldl_append, be_snoc, e]
    generalize l.getD k 0 = c at *
    generalize be (l.take k) = v at *
    have h7 : v < 72057594037927936 := by
      have := pow256 (show k ≤ 7 by omega)
      omega
    refine ⟨?_, by omega, by rw [Int.pow_succ]; omega⟩
    show realStep v c = _
    exact or_shift h0 h7 hc.1 hc.2

theorem realOf_be (s : ByteArray) (h : 8 ≤ s.size) : realOf s = be ((bytesOf s).take 8) := by
  unfold realOf
  have hl : ((bytesOf s).take 8).length = 8 := by rw [List.length_take, bytesOf_size]; omega
  have := (fold_be ((by_bytesOf s).take 8) 8 (by omega) (by omega)).1
  rw [List.take_of_length_le (by omega)] at this
  rw [bytesOf_extract, List.drop_zero, Nat.sub_zero, this]

/-- the eight bytes that stand first -/
def first8 (s : ByteArray) : Int := be ((bytesOf s).take 8)
theorem first8_range (s : ByteArray) (h : 8 ≤ s.size) : 0 ≤ first8 s ∧ first8 s < 18446744073709551616 ∧ real8 (first8 s) = (bytesOf s).take 8 := by
  have hl : ((bytesOf s).take 8).length = 8 := by rw [List.length_take, bytesOf_size]; omega
  obtain ⟨a, b, c⟩ := real8_be ((by_bytesOf s).take 8) hl
  exact ⟨b, c, a⟩

theorem realBits_num {x : Nat} (h : (FloatKind.f64.format.order x x != some .eq) = false) : realBits x = (x : Int) := by unfold realBits; rw [if_neg (by rw [h]; decide)]
theorem realBits_nan {x : Nat} (h : (FloatKind.f64.format.order x x != some .eq) = true) : realBits x = 9221120237041090561 := by unfold realBits; rw [if_pos h]
theorem realBits_range {x : Nat} (h : x < 18446744073709551616) : 0 ≤ realBits x ∧ realBits x < 18446744073709551616 := by
  unfold realBits
  split <;> omega

/-- a fraction's bytes -/
def rbytes (x : Nat) : ByteArray := strOfNums (real8 (realBits x))
theorem rbytes_bytes (x : Nat) : bytesOf (rbytes x) = real8 (realBits x) := bytesOf_strOfNums (real8_by _)
theorem rbytes_size (x : Nat) : (rbytes x).size = 8 := by rw [← bytesOf_size, rbytes_bytes]; rfl
/-- the fraction that stands first -/
def treal (b : ByteArray) : Option (Nat × ByteArray) := if b.size < 8 then none else if realBits (first8 b).toNat = first8 b then some ((first8 b).toNat, b.extract 8 b.size) else none

def trealW (b : ByteArray) : Nat × ByteArray × Int := match treal b with | none => (0, ⟨#[]⟩, 2) | some (x, r) => (x, r, 0)
def trealR (b : ByteArray) : Nat × ByteArray × Bool := match treal b with | none => (0, ⟨#[]⟩, false) | some (x, r) => (x, r, true)

theorem wire_real_at (x : Nat) : wire_Real.f x = some (rbytes x) := rfl
theorem wire_treal_at (b : ByteArray) : wire_TakeReal.f b = some (trealW b) := by
  unfold wire_TakeReal.f trealW treal
  by_cases c : b.size < 8
  · rw [if_pos c, if_pos c]
  · rw [if_neg c, if_neg c, realOf_be b (by omega), show be ((bytesOf b).take 8) = first8 b from rfl]
    obtain ⟨h0, h1, _⟩ := first8_range b (by omega)
    by_cases c1 : (FloatKind.f64.format.order (first8 b).toNat (first8 b).toNat != some .eq) = true
    · rw [if_pos c1, realBits_nan c1]
      by_cases c2 : first8 b = 9221120237041090561
      · rw [if_pos c2, if_pos c2.symm]
      · rw [if_neg c2, if_neg (fun e => c2 e.symm)]
    · rw [if_neg c1, realBits_num (Bool.eq_false_iff.mpr c1), if_pos (by omega)]

theorem ref_real_go {x : Int} (h0 : 0 ≤ x) (h1 : x < 18446744073709551616) (k : Nat) : tabulariumref01_Real.j0 (k + 10) x = some (strOfNums (real8 x)) := by
  rw [show k + 10 = k + 9 + 1 from rfl, tabulariumref01_Real.j0]
  have e : ∀ s : Int, 0 ≤ s → s ≤ 56 → (shr .u64 x s) = x / 2 ^ s.toNat := fun s a b => by
    unfold shr
    rw [Nat.min_eq_left (show s.toNat ≤ IntKind.u64.bits by simp [IntKind.bits]; omega)]
  have w0 : wrap64 (8 * 7) = 56 := by unfold wrap64; omega
  have w1 : wrap64 (8 * 6) = 48 := by unfold wrap64; omega
  have w2 : wrap64 (8 * 5) = 40 := by unfold wrap64; omega
  have w3 : wrap64 (8 * 4) = 32 := by unfold wrap64; omega
  have w4 : wrap64 (8 * 3) = 24 := by unfold wrap64; omega
  have w5 : wrap64 (8 * 2) = 16 := by unfold wrap64; omega
  have w6 : wrap64 (8 * 1) = 8 := by unfold wrap64; omega
  have w7 : wrap64 (8 * 0) = 0 := by unfold wrap64; omega
  have v0 : wrap64 (7 - 1) = 6 := by unfold wrap64; omega
  have v1 : wrap64 (6 - 1) = 5 := by unfold wrap64; omega
  have v2 : wrap64 (5 - 1) = 4 := by unfold wrap64; omega
  have v3 : wrap64 (4 - 1) = 3 := by unfold wrap64; omega
  have v4 : wrap64 (3 - 1) = 2 := by unfold wrap64; omega
  have v5 : wrap64 (2 - 1) = 1 := by unfold wrap64; omega
  have v6 : wrap64 (1 - 1) = 0 := by unfold wrap64; omega
  have v7 : wrap64 (0 - 1) = -1 := by unfold wrap64; omega
  rw [show k + 9 = k + 8 + 1 from rfl, tabulariumref01_Real.l0, if_pos (by decide), w0, if_pos (by decide), if_pos (by decide), v0, e 56 (by decide) (by decide)]
  rw [show k + 8 = k + 7 + 1 from rfl, tabulariumref01_Real.l0, if_pos (by decide), w1, if_pos (by decide), if_pos (by simp), v1, e 48 (by decide) (by decide)]
  rw [show k + 7 = k + 6 + 1 from rfl, tabulariumref01_Real.l0, if_pos (by decide), w2, if_pos (by decide), if_pos (by simp), v2, e 40 (by decide) (by decide)]
  rw [show k + 6 = k + 5 + 1 from rfl, tabulariumref01_Real.l0, if_pos (by decide), w3, if_pos (by decide), if_pos (by simp), v3, e 32 (by decide) (by decide)]
  rw [show k + 5 = k + 4 + 1 from rfl, tabulariumref01_Real.l0, if_pos (by decide), w4, if_pos (by decide), if_pos (by simp), v4, e 24 (by decide) (by decide)]
  rw [show k + 4 = k + 3 + 1 from rfl, tabulariumref01_Real.l0, if_pos (by decide), w5, if_pos (by decide), if_pos (by simp), v5, e 16 (by decide) (by decide)]
  rw [show k + 3 = k + 2 + 1 from rfl, tabulariumref01_Real.l0, if_pos (by decide), w6, if_pos (by decide), if_pos (by simp), v6, e 8 (by decide) (by decide)]
  rw [show k + 2 = k + 1 + 1 from rfl, tabulariumref01_Real.l0, if_pos (by decide), w7, if_pos (by decide), if_pos (by simp), v7, e 0 (by decide) (by decide)]
  rw [tabulariumref01_Real.l0, if_neg (by decide)]
  unfold real8
  simp

theorem ref_real_at {x : Nat} (h : x < 18446744073709551616) (k : Nat) (hk : 10 ≤ k) : tabulariumref01_Real.f k x = some (rbytes x) := by
  obtain ⟨k, rfl⟩ : ∃ m, k = m + 10 := ⟨k - 10, by omega⟩
  unfold tabulariumref01_Real.f rbytes
  by_cases c : (FloatKind.f64.format.order x x != some .eq) = true
  · rw [if_pos c, realBits_nan c, ref_real_go (by omega) (by omega)]
  · rw [if_neg c, realBits_num (Bool.eq_false_iff.mpr c), ref_real_go (by omega) (by omega)]

theorem ref_treal_loop (b : ByteArray) (hb : 8 ≤ b.size) : ∀ (d i k : Nat), i + d = 8 → d + 12 ≤ k → tabulariumref01_TakeReal.l0 k b (be ((bytesOf b).take i)) (i : Int) = some (trealR b) := by
  intro d
  induction d with
  | zero =>
    intro i k hi hk
    obtain ⟨k, rfl⟩ : ∃ m, k = m + 1 := ⟨k - 1, by omega⟩
    obtain rfl : i = 8 := by omega
    obtain ⟨h0, h1, h2⟩ := first8_range b hb
    rw [tabulariumref01_TakeReal.l0, if_neg (by decide), show be ((bytesOf b).take 8) = first8 b from rfl, ref_real_at (by omega) k (by omega), Option.bind_some, if_pos (by decide), if_pos (by omega)]
    unfold trealR treal
    rw [if_neg (show ¬ b.size < 8 by omega)]
    have e : ((rbytes (first8 b).toNat).toList = (b.extract 0 8).toList) ↔ realBits (first8 b).toNat = first8 b := by
      rw [toList_iff, rbytes_bytes, bytesOf_extract, List.drop_zero, Nat.sub_zero, ← h2]
      constructor
      · intro h
        have := congrArg be h
        have hr := realBits_range (x := (first8 b).toNat) (by omega)
        rwa [be_real8 hr.1 hr.2, be_real8 h0 h1] at this
      · intro h; rw [h]
    by_cases c : realBits (first8 b).toNat = first8 b
    · rw [if_pos c, if_pos (e.2 c)]
    · rw [if_neg c, if_neg (fun h => c (e.1 h))]
  | succ d ih =>
    intro i k hi hk
    obtain ⟨k, rfl⟩ : ∃ m, k = m + 1 := ⟨k - 1, by omega⟩
    have hl : i < (bytesOf b).length := by rw [bytesOf_size]; omega
    obtain ⟨e, h0, h1⟩ := fold_be (by_bytesOf b) i (by omega) (by omega)
    have hc := by_bytesOf b ((bytesOf b).getD i 0) (by rw [List.getD_eq_getElem?_getD, List.getElem?_eq_getElem hl]; exact List.getElem_mem _)
    have h7 : be ((bytesOf b).take i) < 72057594037927936 := by
      have := pow256 (show i ≤ 7 by omega)
      omega
    rw [tabulariumref01_TakeReal.l0, if_pos (by omega), if_pos (by omega), if_pos (by omega), bt_rd, or_shift h0 h7 hc.1 hc.2, ← be_snoc, ← take_snoc hl, wrap64_of (by omega) (by omega)]
    exact ih (i + 1) k (by omega) (by omega)

theorem ref_treal_at (b : ByteArray) (k : Nat) (hk : 30 ≤ k) : tabulariumref01_TakeReal.f k b = some (trealR b) := by
  unfold tabulariumref01_TakeReal.f
  by_cases c : b.size < 8
  · rw [if_pos (by omega)]
    unfold trealR treal
    rw [if_pos c]
  · rw [if_neg (by omega)]
    exact ref_treal_loop b (by omega) 8 0 k (by omega) (by omega)

theorem same_self (x : Nat) : tabulariumref03_Same.f x x = some true := by
  unfold tabulariumref03_Same.f
  split <;> simp

/-- what was written is read -/
theorem treal_rbytes {x : Nat} (h : x < 18446744073709551616) (r : ByteArray) : ∃ y, treal (rbytes x ++ r) = some (y, r) ∧ (y : Int) = realBits x := by
  have hs : (rbytes x ++ r).size = 8 + r.size := by rw [ByteArray.size_append, rbytes_size]
  have hr := realBits_range h
  have hf : first8 (rbytes x ++ r) = realBits x := by
    unfold first8
    rw [bytesOf_append, rbytes_bytes, List.take_append_of_le_length (by rw [real8_length]; omega), List.take_of_length_le (by rw [real8_length]; omega), be_real8 hr.1 hr.2]
  refine ⟨(realBits x).toNat, ?_, by omega⟩
  unfold treal
  rw [if_neg (by omega), hf]
  have hb : realBits (realBits x).toNat = realBits x := by
    by_cases c : (FloatKind.f64.format.order x x != some .eq) = true
    · rw [realBits_nan c]; decide +kernel
    · have c' := Bool.eq_false_iff.mpr c
      rw [realBits_num c', Int.toNat_natCast, realBits_num c']
  rw [if_pos hb]
  have : (rbytes x ++ r).extract 8 (rbytes x ++ r).size = r := by
    apply bytes_ext
    rw [bytesOf_extract, bytesOf_append, rbytes_bytes, List.drop_append_of_le_length (by rw [real8_length]; omega), List.drop_of_length_le (by rw [real8_length]; omega), List.nil_append, List.take_of_length_le (by rw [bytesOf_size, hs]; omega)]
  rw [this]
/-- what is cut off is none -/
theorem treal_short {b : ByteArray} (h : b.size < 8) : treal b = none := by unfold treal; rw [if_pos h]

end Go.Proofs.Ytjjmbcnalcjnmaa.Sp
