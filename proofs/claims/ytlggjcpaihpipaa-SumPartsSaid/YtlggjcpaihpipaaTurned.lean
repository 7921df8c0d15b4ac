/- Plain facts on texts one byte of which is turned: their bytes, their sums; a sealed text with one byte turned is told. -/
import Derived.Test.YtlggjcpaihpipaaSeals
import Derived.Test.YtlggjcpaihpipaaBty
namespace Go.Proofs.Ytlggjcpaihpipaa.Sp
open Go.RowKit Go.Proofs.YtlggjcpaihpipaaW.PrintWords Go.Proofs.YtlggjcpaihpipaaW.PrintLast Go.Proofs.YtlggjcpaihpipaaW.PrintMore Go.Proofs.Ytlggjcpaihpipaa.P Go.Proofs.Ytlggjcpaihpipaa.Crc
set_option linter.unusedVariables false

theorem xor_u8 {y m : Int} (hy : 0 ≤ y ∧ y < 256) (hm : 1 ≤ m ∧ m < 256) : (0 ≤ Go.bits .xor .u8 y m ∧ Go.bits .xor .u8 y m < 256) ∧ Go.bits .xor .u8 y m ≠ y := by
  rw [u8_xor y m hy.1 hy.2 (by omega) (by omega)]
  have h1 : y.toNat ^^^ m.toNat < 2 ^ 8 := Nat.xor_lt_two_pow (by omega) (by omega)
  have h2 : y.toNat ^^^ m.toNat ≠ y.toNat := by
    intro h
    have : (y.toNat ^^^ m.toNat) ^^^ y.toNat = 0 := by rw [h, Nat.xor_self]
    rw [Nat.xor_comm y.toNat, Nat.xor_assoc, Nat.xor_self, Nat.xor_zero] at this
    omega
  refine ⟨⟨?_, ?_⟩, ?_⟩
  · show 0 ≤ ((y.toNat ^^^ m.toNat : Nat) : Int); omega
  · show ((y.toNat ^^^ m.toNat : Nat) : Int) < 256; omega
  · show ((y.toNat ^^^ m.toNat : Nat) : Int) ≠ y; omega
theorem bitOf_range {r : Int} (h0 : 0 ≤ r) (h1 : r < 8) : 1 ≤ bitOf r ∧ bitOf r < 256 := by
  rcases (show r = 0 ∨ r = 1 ∨ r = 2 ∨ r = 3 ∨ r = 4 ∨ r = 5 ∨ r = 6 ∨ r = 7 by omega) with rfl | rfl | rfl | rfl | rfl | rfl | rfl | rfl <;> decide +kernel

theorem by_get {l : List Int} (h : By l) {i : Nat} (hi : i < l.length) : 0 ≤ l.getD i 0 ∧ l.getD i 0 < 256 := by
  refine h _ ?_
  rw [List.getD_eq_getElem?_getD, List.getElem?_eq_getElem hi]
  exact List.getElem_mem hi
theorem bytes_turn (b : ByteArray) {i : Nat} {m : Int} (hi : i < b.size) (hm : 1 ≤ m ∧ m < 256) : bytesOf (turnAt b i m) = (bytesOf b).set i (Go.bits .xor .u8 ((bytesOf b).getD i 0) m) := by
  refine bytesOf_strOfNums ?_
  intro x hx
  rcases List.mem_or_eq_of_mem_set hx with h | rfl
  · exact by_bytesOf b x h
  · exact (xor_u8 (by_get (by_bytesOf b) (by rw [bytesOf_size]; exact hi)) hm).1
theorem turn_size (b : ByteArray) {i : Nat} {m : Int} (hi : i < b.size) (hm : 1 ≤ m ∧ m < 256) : (turnAt b i m).size = b.size := by
  rw [← bytesOf_size, bytes_turn b hi hm, List.length_set, bytesOf_size]
theorem turn_left (a b : ByteArray) {i : Nat} {m : Int} (hi : i < a.size) (hm : 1 ≤ m ∧ m < 256) : turnAt (a ++ b) i m = turnAt a i m ++ b := by
  refine bytes_ext ?_
  have hl : i < (bytesOf a).length := by rw [bytesOf_size]; exact hi
  rw [bytes_turn _ (by rw [ByteArray.size_append]; omega) hm, bytesOf_append, bytesOf_append, bytes_turn a hi hm, List.set_append_left _ _ hl, List.getD_eq_getElem?_getD, List.getElem?_append_left hl, List.getD_eq_getElem?_getD]
theorem turn_right (a b : ByteArray) {i : Nat} {m : Int} (hi : i < b.size) (hm : 1 ≤ m ∧ m < 256) : turnAt (a ++ b) (a.size + i) m = a ++ turnAt b i m := by
  refine bytes_ext ?_
  have hl : (bytesOf a).length ≤ a.size + i := by rw [bytesOf_size]; omega
  have he : a.size + i - (bytesOf a).length = i := by rw [bytesOf_size]; omega
  rw [bytes_turn _ (by rw [ByteArray.size_append]; omega) hm, bytesOf_append, bytesOf_append, bytes_turn b hi hm, List.set_append_right _ _ hl, List.getD_eq_getElem?_getD, List.getElem?_append_right hl, List.getD_eq_getElem?_getD, he]
theorem turn_at (b : ByteArray) {i : Nat} {m : Int} (hi : i < b.size) (hm : 1 ≤ m ∧ m < 256) : ∃ x y : Nat, x < 256 ∧ y < 256 ∧ x ≠ y ∧ nb b = (nb b).take i ++ [y] ++ (nb b).drop (i + 1) ∧ nb (turnAt b i m) = (nb b).take i ++ [x] ++ (nb b).drop (i + 1) := by
  have hl : i < (bytesOf b).length := by rw [bytesOf_size]; exact hi
  have hy := by_get (by_bytesOf b) hl
  have hx := xor_u8 hy hm
  have hn : i < (nb b).length := by rw [nb_size]; exact hi
  refine ⟨(Go.bits .xor .u8 ((bytesOf b).getD i 0) m).toNat, ((bytesOf b).getD i 0).toNat, by omega, by omega, by omega, ?_, ?_⟩
  · rw [nb_bytesOf, ← List.map_take, ← List.map_drop, ← List.map_singleton (f := Int.toNat), ← List.map_append, ← List.map_append]
    congr 1
    rw [List.append_assoc, List.singleton_append, List.getD_eq_getElem?_getD, List.getElem?_eq_getElem hl]
    simp
  · rw [nb_bytesOf, bytes_turn b hi hm, nb_bytesOf b, ← List.map_take, ← List.map_drop, ← List.map_singleton (f := Int.toNat), ← List.map_append, ← List.map_append]
    congr 1
    rw [List.set_eq_take_append_cons_drop, if_pos hl, List.append_assoc, List.singleton_append]
theorem turn_ne (b : ByteArray) {i : Nat} {m : Int} (hi : i < b.size) (hm : 1 ≤ m ∧ m < 256) : turnAt b i m ≠ b := by
  have hl : i < (bytesOf b).length := by rw [bytesOf_size]; exact hi
  have hx := (xor_u8 (by_get (by_bytesOf b) hl) hm).2
  intro e
  have h := bytes_turn b hi hm
  rw [e] at h
  have h2 := congrArg (fun l => l.getD i 0) h
  simp only [List.getD_eq_getElem?_getD, List.getElem?_set_self hl, Option.getD_some] at h2 hx
  exact hx h2.symm
theorem csum_turn (b : ByteArray) {i : Nat} {m : Int} (hi : i < b.size) (hm : 1 ≤ m ∧ m < 256) : csum (turnAt b i m) ≠ csum b := by
  obtain ⟨x, y, hx, hy, hne, h1, h2⟩ := turn_at b hi hm
  have hb := nb_lt b
  intro e
  unfold csum at e
  rw [h2] at e
  have h3 : crc (nb b) = crc ((nb b).take i ++ [y] ++ (nb b).drop (i + 1)) := congrArg crc h1
  rw [h3] at e
  have := crc_burst _ [x] [y] _ (fun c hc => hb c (List.mem_of_mem_take hc)) (by simpa using hx) (by simpa using hy) (fun c hc => hb c (List.mem_of_mem_drop hc)) rfl (by simp) e
  simp at this
  exact hne this
theorem take_all (b : ByteArray) (h : b.size = 4) : b.extract 0 4 = b := by
  refine nb_ext ?_
  rw [nb_extract, List.drop_zero, Nat.sub_zero, List.take_of_length_le (by rw [nb_size]; omega)]
theorem four_size' (s : ByteArray) : (four (csum s)).size = 4 := four_size _

theorem seal_form {s b : ByteArray} (h : seal_ s = some b) : s.size ≤ 4000 ∧ b = num s.size ++ (s ++ four (csum s)) := by
  unfold seal_ at h
  cases e : text s with
  | none => rw [e] at h; cases h
  | some q =>
    rw [e] at h
    obtain rfl := Option.some.inj h
    unfold text at e
    by_cases c : 4000 < s.size
    · rw [if_pos c] at e; cases e
    · rw [if_neg c] at e
      obtain rfl := Option.some.inj e
      exact ⟨by omega, by rw [ByteArray.append_assoc]⟩
theorem text_num {s : ByteArray} (h : s.size ≤ 4000) : text s = some (num s.size ++ s) := by unfold text; rw [if_neg (by omega)]
/-- one byte turned, of the text or of its sum: told -/
theorem topen_turn {s b : ByteArray} (h : seal_ s = some b) {q : Nat} {m : Int} (hq : q < s.size + 4) (hm : 1 ≤ m ∧ m < 256) : topen (turnAt b ((num s.size).size + q) m) = (⟨#[]⟩, ⟨#[]⟩, 3) := by
  obtain ⟨hs, rfl⟩ := seal_form h
  have hf := four_size' s
  rw [turn_right _ _ (by rw [ByteArray.size_append]; omega) hm]
  unfold topen
  rcases Nat.lt_or_ge q s.size with c | c
  · have hz := turn_size s c hm
    rw [turn_left _ _ c hm]
    have ht := text_num (s := turnAt s q m) (by omega)
    rw [hz] at ht
    rw [← ByteArray.append_assoc, ttext_text ht]
    simp only
    rw [if_neg (by omega), take_all _ hf, if_neg (fun e => csum_turn s c hm (four_inj (csum_lt _) (csum_lt _) e.symm))]
  · obtain ⟨r, rfl⟩ : ∃ r, q = s.size + r := ⟨q - s.size, by omega⟩
    rw [turn_right _ _ (by omega) hm, ← ByteArray.append_assoc, ttext_text (text_num hs)]
    have hz := turn_size (four (csum s)) (i := r) (by omega) hm
    simp only
    rw [if_neg (by omega), take_all _ (by omega), if_neg (turn_ne _ (by omega) hm)]

/-! ### what is cut off -/
theorem cut_low (a b : ByteArray) {m : Nat} (h : m ≤ a.size) : (a ++ b).extract 0 m = a.extract 0 m := by
  apply bytes_ext
  rw [bytesOf_extract, bytesOf_extract, bytesOf_append, List.drop_zero, List.drop_zero, Nat.sub_zero, List.take_append_of_le_length (by rw [bytesOf_size]; exact h)]
theorem cut_high (a b : ByteArray) {m : Nat} (h : a.size ≤ m) : (a ++ b).extract 0 m = a ++ b.extract 0 (m - a.size) := by
  apply bytes_ext
  rw [bytesOf_extract, bytesOf_append, bytesOf_append, bytesOf_extract, List.drop_zero, List.drop_zero, Nat.sub_zero, Nat.sub_zero, List.take_append, List.take_of_length_le (by rw [bytesOf_size]; exact h), bytesOf_size]
theorem cut_size (b : ByteArray) {m : Nat} (h : m ≤ b.size) : (b.extract 0 m).size = m := by rw [ByteArray.size_extract]; omega
theorem tnum_cut {n : Int} {m : Nat} (h : m < (num n).size) : tnum ((num n).extract 0 m) = none := by
  unfold tnum
  rw [num_size] at h
  rw [bytesOf_extract, bytes_num, List.drop_zero, Nat.sub_zero, tk_cut h]
theorem ttext_cut {s t : ByteArray} (h : text s = some t) {m : Nat} (hm : m < t.size) : ttext (t.extract 0 m) = none := by
  unfold text at h
  by_cases c : 4000 < s.size
  · rw [if_pos c] at h; cases h
  · rw [if_neg c] at h
    obtain rfl := Option.some.inj h
    rw [ByteArray.size_append] at hm
    unfold ttext
    rcases Nat.lt_or_ge m (num s.size).size with c1 | c1
    · rw [cut_low _ _ (by omega), tnum_cut c1]
    · rw [cut_high _ _ c1, tnum_num (by omega)]
      have hz : (s.extract 0 (m - (num s.size).size)).size = m - (num s.size).size := cut_size s (by omega)
      simp only
      rw [if_pos (by omega)]
theorem topen_cut {s b : ByteArray} (h : seal_ s = some b) {m : Nat} (hm : m < b.size) : topen (b.extract 0 m) = (⟨#[]⟩, ⟨#[]⟩, 2) := by
  obtain ⟨hs, rfl⟩ := seal_form h
  have hf := four_size' s
  rw [← ByteArray.append_assoc] at hm ⊢
  unfold topen
  rcases Nat.lt_or_ge m (num s.size ++ s).size with c | c
  · rw [cut_low _ _ (by omega), ttext_cut (text_num hs) c]
  · rw [cut_high _ _ c, ttext_text (text_num hs)]
    rw [ByteArray.size_append] at hm
    have hz : ((four (csum s)).extract 0 (m - (num s.size ++ s).size)).size = m - (num s.size ++ s).size := cut_size _ (by omega)
    simp only
    rw [if_pos (by omega)]

end Go.Proofs.Ytlggjcpaihpipaa.Sp
