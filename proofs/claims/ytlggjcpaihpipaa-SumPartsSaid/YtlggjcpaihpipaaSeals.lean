/- What package sum and its reference compute of sealed texts. -/
import Derived.Test.YtlggjcpaihpipaaChunks
import Derived.Test.YtlggjcpaihpipaaTexts
import Derived.Test.YtlggjcpaihpipaaPx10
import Derived.Test.YtlggjcpaihpipaaPx15
import Derived.Test.YtlggjcpaihpipaaPx12
import Derived.Test.YtlggjcpaihpipaaPx18
namespace Go.Proofs.Ytlggjcpaihpipaa.Sp
open Go.RowKit Go.Proofs.YtlggjcpaihpipaaW.PrintWords Go.Proofs.YtlggjcpaihpipaaW.PrintLast Go.Proofs.YtlggjcpaihpipaaW.PrintMore Go.Proofs.Ytlggjcpaihpipaa.P Go.Proofs.Ytlggjcpaihpipaa.Crc
set_option linter.unusedVariables false

/-- a sum's four bytes -/
def four (v : Nat) : ByteArray := strOfNums [(v : Int) / 16777216, (v : Int) / 65536 % 256, (v : Int) / 256 % 256, (v : Int) % 256]
theorem bytes_four {v : Nat} (h : v < 4294967296) : bytesOf (four v) = [(v : Int) / 16777216, (v : Int) / 65536 % 256, (v : Int) / 256 % 256, (v : Int) % 256] := by
  refine bytesOf_strOfNums ?_
  intro x hx
  simp only [List.mem_cons, List.not_mem_nil, or_false] at hx
  omega
theorem four_size (v : Nat) : (four v).size = 4 := by unfold four; rw [strOfNums_size]; rfl
theorem four_inj {a b : Nat} (ha : a < 4294967296) (hb : b < 4294967296) (h : four a = four b) : a = b := by
  have := congrArg bytesOf h
  rw [bytes_four ha, bytes_four hb] at this
  simp only [List.cons.injEq, and_true] at this
  omega
theorem four_at {v : Nat} (h : v < 4294967296) : sum_four.f (v : Int) = some (four v) := by
  unfold sum_four.f four
  rw [if_pos (by omega)]
theorem ref_four_at {v : Nat} (h : v < 4294967296) : tabulariumref02_Four.f (v : Int) = some (four v) := by
  unfold tabulariumref02_Four.f four
  have : (v : Int) / 16777216 % 256 = (v : Int) / 16777216 := by omega
  rw [this]

/-- a text with its sum -/
def seal_ (s : ByteArray) : Option ByteArray := match text s with | none => none | some t => some (t ++ four (csum s))
def sealW (s : ByteArray) : ByteArray × Int := match seal_ s with | none => (⟨#[]⟩, 4) | some b => (b, 0)
def sealR (s : ByteArray) : ByteArray × Bool := match seal_ s with | none => (⟨#[]⟩, false) | some b => (b, true)

theorem text_size {s t : ByteArray} (h : text s = some t) : s.size ≤ 4000 ∧ s.size + 1 ≤ t.size ∧ t.size ≤ s.size + 10 := by
  unfold text at h
  by_cases c : 4000 < s.size
  · rw [if_pos c] at h; cases h
  · rw [if_neg c] at h
    obtain rfl := Option.some.inj h
    have h1 := num_size_le (n := (s.size : Int)) (by omega)
    have h2 : 1 ≤ (num (s.size : Int)).size := by rw [num_size]; exact vbs_pos _
    rw [ByteArray.size_append]
    omega

theorem seal_at (s : ByteArray) (hs : s.size ≤ 140737488355328) (k : Nat) (hk : 10 ≤ k) : sum_Seal.f k s = some (sealW s) := by
  unfold sum_Seal.f sealW seal_
  rw [wire_text_at s hs k hk]
  rw [Option.bind_some]
  unfold textW
  cases e : text s with
  | none => simp
  | some t =>
    have hz := text_size e
    simp only
    rw [if_pos trivial, sum_at s hs]
    rw [Option.bind_some]
    rw [four_at (csum_lt s)]
    rw [Option.bind_some]
    rw [if_pos (by rw [four_size]; omega)]

theorem ref_seal_at (s : ByteArray) (hs : s.size ≤ 140737488355328) (k : Nat) (hk : 10 * s.size + 100 < k) : tabulariumref02_Seal.f k s = some (sealR s) := by
  unfold tabulariumref02_Seal.f sealR seal_
  rw [ref_text_at s hs k (by omega)]
  rw [Option.bind_some]
  unfold textR
  cases e : text s with
  | none => simp
  | some t =>
    have hz := text_size e
    simp only
    rw [if_pos trivial, ref_sum_at s hs k (by omega)]
    rw [Option.bind_some]
    rw [ref_four_at (csum_lt s)]
    rw [Option.bind_some]
    rw [if_pos (by rw [four_size]; omega)]

/-- what the bytes of a text with its sum tell: the text, the rest, the error -/
def topen (b : ByteArray) : ByteArray × ByteArray × Int := match ttext b with
  | none => (⟨#[]⟩, ⟨#[]⟩, 2)
  | some (s, r) => if r.size < 4 then (⟨#[]⟩, ⟨#[]⟩, 2) else if r.extract 0 4 = four (csum s) then (s, r.extract 4 r.size, 0) else (⟨#[]⟩, ⟨#[]⟩, 3)

theorem ttext_size {b s r : ByteArray} (h : ttext b = some (s, r)) : s.size ≤ 4000 ∧ r.size ≤ b.size := by
  obtain ⟨t, ht, rfl⟩ := ttext_back h
  have := text_size ht
  rw [ByteArray.size_append]
  omega

theorem open_at (b : ByteArray) (k : Nat) (hk : 30 ≤ k) : sum_Open.f k b = some (topen b) := by
  obtain ⟨k, rfl⟩ : ∃ m, k = m + 1 := ⟨k - 1, by omega⟩
  unfold sum_Open.f topen
  rw [wire_ttext_at b _ (by omega)]
  rw [Option.bind_some]
  unfold ttextW
  cases e : ttext b with
  | none =>
    simp only [sum_Open.j0]
    rw [if_neg (by decide)]
    rfl
  | some p =>
    obtain ⟨s, r⟩ := p
    have hz := ttext_size e
    simp only [sum_Open.j0]
    rw [if_pos trivial]
    by_cases c : r.size < 4
    · rw [if_pos c, decide_eq_true (by omega), if_pos rfl]
    · rw [if_neg c, decide_eq_false (by omega), if_neg (by decide), if_pos (by decide), if_pos (by omega), sum_at s (by omega)]
      rw [Option.bind_some]
      rw [four_at (csum_lt s)]
      rw [Option.bind_some]
      by_cases h : r.extract 0 4 = four (csum s)
      · rw [if_pos h, if_pos (by rw [h])]
      · rw [if_neg h, if_neg (fun h2 => h (toList_inj h2))]

theorem ref_open_at (b : ByteArray) (hb : b.size ≤ 140737488351232) (k : Nat) (hk : 40100 + 0 * b.size < k) : tabulariumref02_Open.f k b = some (topen b) := by
  obtain ⟨k, rfl⟩ : ∃ m, k = m + 1 := ⟨k - 1, by omega⟩
  unfold tabulariumref02_Open.f topen
  rw [ref_ttext_at b hb _ (by omega)]
  rw [Option.bind_some]
  unfold ttextR
  cases e : ttext b with
  | none =>
    simp only [tabulariumref02_Open.j0]
    rw [if_neg (by decide)]
    rfl
  | some p =>
    obtain ⟨s, r⟩ := p
    have hz := ttext_size e
    have hk2 : 10 * s.size < k := by omega
    simp only [tabulariumref02_Open.j0]
    rw [if_pos trivial]
    by_cases c : r.size < 4
    · rw [if_pos c, decide_eq_true (by omega), if_pos rfl]
    · rw [if_neg c, decide_eq_false (by omega), if_neg (by decide), if_pos (by decide), if_pos (by omega), ref_sum_at s (by omega) k hk2]
      rw [Option.bind_some]
      rw [ref_four_at (csum_lt s)]
      rw [Option.bind_some]
      by_cases h : r.extract 0 4 = four (csum s)
      · rw [if_pos h, if_pos (by rw [h])]
      · rw [if_neg h, if_neg (fun h2 => h (toList_inj h2))]

theorem topen_seal {s t : ByteArray} (h : seal_ s = some t) (r : ByteArray) : topen (t ++ r) = (s, r, 0) := by
  unfold seal_ at h
  cases e : text s with
  | none => rw [e] at h; cases h
  | some q =>
    rw [e] at h
    obtain rfl := Option.some.inj h
    unfold topen
    rw [ByteArray.append_assoc, ttext_text e]
    simp only
    have h4 : (four (csum s) ++ r).extract 0 4 = four (csum s) := by
      refine nb_ext ?_
      rw [nb_extract, nb_append, List.drop_zero, Nat.sub_zero, List.take_left' (by rw [nb_size, four_size])]
    have hr : (four (csum s) ++ r).extract 4 (four (csum s) ++ r).size = r := by
      refine nb_ext ?_
      rw [nb_extract, nb_append, List.drop_left' (by rw [nb_size, four_size]), List.take_of_length_le]
      rw [nb_size, ByteArray.size_append, four_size]
      omega
    rw [if_neg (by rw [ByteArray.size_append, four_size]; omega), if_pos h4, hr]

end Go.Proofs.Ytlggjcpaihpipaa.Sp
