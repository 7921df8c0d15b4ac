/- What package wire and its reference compute of texts, said by the plain facts on numbers' bytes. -/
import Derived.Test.YtecjdchjaoimfaaWire
import Derived.Test.YtecjdchjaoimfaaPx3
import Derived.Test.YtecjdchjaoimfaaPx7
import Derived.Test.YtecjdchjaoimfaaPx11
import Derived.Test.YtecjdchjaoimfaaPx14
namespace Go.Proofs.Ytecjdchjaoimfaa.Sp
open Go.RowKit Go.Proofs.YtecjdchjaoimfaaW.PrintWords Go.Proofs.YtecjdchjaoimfaaW.PrintLast Go.Proofs.YtecjdchjaoimfaaW.PrintMore Go.Proofs.Ytecjdchjaoimfaa.P
set_option linter.unusedVariables false

/-- a text's bytes -/
def text (s : ByteArray) : Option ByteArray := if 4000 < s.size then none else some (num s.size ++ s)
/-- the text at the beginning -/
def ttext (b : ByteArray) : Option (ByteArray × ByteArray) := match tnum b with
  | none => none
  | some (n, r) => if n < 0 ∨ 4000 < n ∨ (r.size : Int) < n then none else some (r.extract 0 n.toNat, r.extract n.toNat r.size)

def textW (s : ByteArray) : ByteArray × Int := match text s with | none => (⟨#[]⟩, 4) | some b => (b, 0)
def textR (s : ByteArray) : ByteArray × Bool := match text s with | none => (⟨#[]⟩, false) | some b => (b, true)
def ttextW (b : ByteArray) : ByteArray × ByteArray × Int := match ttext b with | none => (⟨#[]⟩, ⟨#[]⟩, 2) | some (s, r) => (s, r, 0)
def ttextR (b : ByteArray) : ByteArray × ByteArray × Bool := match ttext b with | none => (⟨#[]⟩, ⟨#[]⟩, false) | some (s, r) => (s, r, true)

theorem num_size_le {n : Int} (h : -9223372036854775808 ≤ n ∧ n ≤ 9223372036854775807) : (num n).size ≤ 10 := by rw [num_size]; exact vbs_len10 (zig_lt h)

theorem wire_text_at (s : ByteArray) (hs : s.size ≤ 140737488355328) (k : Nat) (hk : 10 ≤ k) : wire_Text.f k s = some (textW s) := by
  have hr : -9223372036854775808 ≤ (s.size : Int) ∧ (s.size : Int) ≤ 9223372036854775807 := by omega
  have hz := num_size_le hr
  unfold wire_Text.f textW text
  by_cases c : 4000 < s.size
  · rw [if_pos (by omega), if_pos c]
  · rw [if_neg (by omega), wire_num_at hr k hk, if_neg c]
    simp only [Option.bind_some]
    rw [if_pos (by omega)]

theorem ref_text_at (s : ByteArray) (hs : s.size ≤ 140737488355328) (k : Nat) (hk : 11 ≤ k) : tabulariumref01_Text.f k s = some (textR s) := by
  have hr : -9223372036854775808 ≤ (s.size : Int) ∧ (s.size : Int) ≤ 9223372036854775807 := by omega
  have hz := num_size_le hr
  unfold tabulariumref01_Text.f textR text
  by_cases c : 4000 < s.size
  · rw [if_pos (by omega), if_pos c]
  · rw [if_neg (by omega), ref_num_at hr k hk, if_neg c]
    simp only [Option.bind_some]
    rw [if_pos (by omega)]

theorem wire_ttext_at (b : ByteArray) (k : Nat) (hk : 21 ≤ k) : wire_TakeText.f k b = some (ttextW b) := by
  unfold wire_TakeText.f ttextW ttext
  rw [wire_take_at b k hk]
  unfold tnumR
  cases e : tnum b with
  | none => simp
  | some p =>
    obtain ⟨n, r⟩ := p
    simp only [Option.bind_some]
    rw [if_pos trivial]
    unfold mn
    by_cases c1 : n < 0
    · rw [if_pos c1, if_pos (.inl c1)]
    · rw [if_neg c1]
      by_cases c2 : 4000 < n ∨ (r.size : Int) < n
      · rw [if_pos (show n < 0 ∨ 4000 < n ∨ (r.size : Int) < n from .inr c2), if_pos (show n > (if (r.size : Int) < 4000 then (r.size : Int) else 4000) by split <;> omega)]
      · rw [if_neg (show ¬ (n < 0 ∨ 4000 < n ∨ (r.size : Int) < n) by omega), if_neg (show ¬ n > (if (r.size : Int) < 4000 then (r.size : Int) else 4000) by split <;> omega), if_pos (by omega), if_pos (by omega)]

theorem ref_ttext_at (b : ByteArray) (hb : b.size ≤ 140737488351232) (k : Nat) (hk : 60 ≤ k) : tabulariumref01_TakeText.f k b = some (ttextR b) := by
  unfold tabulariumref01_TakeText.f ttextR ttext
  rw [ref_take_at b hb k hk]
  unfold tnumB
  cases e : tnum b with
  | none => simp
  | some p =>
    obtain ⟨n, r⟩ := p
    simp only [Option.bind_some]
    rw [if_pos trivial]
    by_cases c1 : n < 0
    · rw [if_pos c1, if_pos (.inl c1)]
    · rw [if_neg c1]
      by_cases c2 : 4000 < n
      · rw [if_pos c2, if_pos (.inr (.inl c2))]
      · rw [if_neg c2]
        by_cases c3 : (r.size : Int) < n
        · rw [if_pos c3, if_pos (.inr (.inr c3))]
        · rw [if_neg c3, if_neg (show ¬ (n < 0 ∨ 4000 < n ∨ (r.size : Int) < n) by omega), if_pos (by omega), if_pos (by omega)]

theorem ttext_text {s t : ByteArray} (h : text s = some t) (r : ByteArray) : ttext (t ++ r) = some (s, r) := by
  unfold text at h
  by_cases c : 4000 < s.size
  · rw [if_pos c] at h; cases h
  · rw [if_neg c] at h
    obtain rfl := Option.some.inj h
    unfold ttext
    rw [ByteArray.append_assoc, tnum_num (by omega)]
    simp only
    rw [ByteArray.size_append, if_neg (by omega), Int.toNat_natCast]
    congr 2
    · refine bytes_ext ?_
      rw [bytesOf_extract, bytesOf_append, List.drop_zero, Nat.sub_zero, List.take_left' (bytesOf_size s)]
    · refine bytes_ext ?_
      rw [bytesOf_extract, bytesOf_append, List.drop_left' (bytesOf_size s), List.take_of_length_le (by rw [bytesOf_size]; omega)]

theorem ttext_back {b s r : ByteArray} (h : ttext b = some (s, r)) : ∃ t, text s = some t ∧ b = t ++ r := by
  unfold ttext at h
  split at h
  · cases h
  · rename_i n q e
    split at h
    · cases h
    · rename_i hc
      obtain ⟨rfl, rfl⟩ : q.extract 0 n.toNat = s ∧ q.extract n.toNat q.size = r := by simpa using h
      obtain ⟨hb, hn⟩ := tnum_back e
      have hs : (q.extract 0 n.toNat).size = n.toNat := by rw [ByteArray.size_extract]; omega
      refine ⟨num n ++ q.extract 0 n.toNat, ?_, ?_⟩
      · unfold text
        rw [hs, if_neg (by omega)]
        have : ((n.toNat : Nat) : Int) = n := by omega
        rw [this]
      · rw [hb, ByteArray.append_assoc]
        congr 1
        refine bytes_ext ?_
        rw [bytesOf_append, bytesOf_extract, bytesOf_extract, List.drop_zero, Nat.sub_zero]
        rw [List.take_of_length_le (l := (bytesOf q).drop n.toNat) (by rw [List.length_drop, bytesOf_size]; omega), List.take_append_drop]

end Go.Proofs.Ytecjdchjaoimfaa.Sp
