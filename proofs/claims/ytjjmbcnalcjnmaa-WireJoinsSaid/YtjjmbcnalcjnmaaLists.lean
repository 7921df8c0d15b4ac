/- Plain facts on lists of texts as bytes: how many there are, and each. -/
import Derived.Test.YtjjmbcnalcjnmaaTexts
import Derived.Test.YtjjmbcnalcjnmaaPx17
import Derived.Test.YtjjmbcnalcjnmaaPx21
namespace Go.Proofs.Ytjjmbcnalcjnmaa.Sp
open Go.RowKit Go.Proofs.Ytjjmbcnalcjnmaa.P Go.Proofs.YtjjmbcnalcjnmaaW.PrintWords Go.Proofs.YtjjmbcnalcjnmaaW.PrintLast Go.Proofs.YtjjmbcnalcjnmaaW.PrintMore
set_option linter.unusedVariables false

theorem rdOf_nat (l : List ByteArray) (i : Nat) : rdOf ByteArray.empty l (i : Int) = l.getD i ByteArray.empty := by unfold rdOf; rw [Int.toNat_natCast]
theorem dropB {l : List ByteArray} {i : Nat} (h : i < l.length) : l.drop i = l.getD i ByteArray.empty :: l.drop (i + 1) := by
  rw [List.getD_eq_getElem?_getD, List.getElem?_eq_getElem h]
  simp
theorem nil_append (b : ByteArray) : (⟨#[]⟩ : ByteArray) ++ b = b := bytes_ext (by rw [bytesOf_append, bytesOf_nil, List.nil_append])
theorem append_nil (b : ByteArray) : b ++ (⟨#[]⟩ : ByteArray) = b := bytes_ext (by rw [bytesOf_append, bytesOf_nil, List.append_nil])
theorem append_assoc3 (a b c : ByteArray) : a ++ b ++ c = a ++ (b ++ c) := bytes_ext (by rw [bytesOf_append, bytesOf_append, bytesOf_append, bytesOf_append, List.append_assoc])

/-- the texts one behind the other, each as it is written -/
def texts : List ByteArray → Option ByteArray
  | [] => some ⟨#[]⟩
  | s :: l => (text s).bind fun t => (texts l).map (t ++ ·)
def join (l : List ByteArray) : Option ByteArray := if 1000 < l.length then none else (texts l).map (num l.length ++ ·)
def joinW (l : List ByteArray) : ByteArray × Int := match join l with | none => (⟨#[]⟩, 4) | some b => (b, 0)
def joinR (l : List ByteArray) : ByteArray × Bool := match join l with | none => (⟨#[]⟩, false) | some b => (b, true)

theorem text_size {s t : ByteArray} (h : text s = some t) : t.size ≤ 4010 := by
  unfold text at h
  by_cases c : 4000 < s.size
  · rw [if_pos c] at h; cases h
  · rw [if_neg c] at h
    obtain rfl := Option.some.inj h
    rw [ByteArray.size_append]
    have := num_size_le (n := (s.size : Int)) (by omega)
    omega
theorem texts_size : ∀ (l : List ByteArray) (b : ByteArray), texts l = some b → b.size ≤ l.length * 4010
  | [], b, h => by obtain rfl := Option.some.inj h; exact Nat.zero_le _
  | s :: l, b, h => by
    simp only [texts] at h
    obtain ⟨t, ht, h⟩ := Option.bind_eq_some_iff.mp h
    obtain ⟨q, hq, rfl⟩ := Option.map_eq_some_iff.mp h
    have h1 := text_size ht
    have h2 := texts_size l q hq
    rw [ByteArray.size_append, List.length_cons]
    omega

theorem wire_join_loop (l : List ByteArray) (hs : ∀ s ∈ l, s.size ≤ 140737488351232) (hl : l.length ≤ 1000) : ∀ (d i k : Nat) (acc : ByteArray), l.length - i = d → i ≤ l.length → acc.size ≤ 10 + i * 4010 → d + 12 ≤ k →
    wire_Join.l0 k l acc (i : Int) = some (match texts (l.drop i) with | none => (⟨#[]⟩, 4) | some b => (acc ++ b, 0)) := by
  intro d
  induction d with
  | zero =>
    intro i k acc hd hi ha hk
    obtain ⟨k, rfl⟩ : ∃ m, k = m + 1 := ⟨k - 1, by omega⟩
    rw [wire_Join.l0, if_neg (by omega), List.drop_of_length_le (by omega)]
    simp only [texts]
    rw [append_nil]
  | succ d ih =>
    intro i k acc hd hi ha hk
    obtain ⟨k, rfl⟩ : ∃ m, k = m + 1 := ⟨k - 1, by omega⟩
    have hm : l.getD i ByteArray.empty ∈ l := by
      rw [List.getD_eq_getElem?_getD, List.getElem?_eq_getElem (show i < l.length by omega)]
      exact List.getElem_mem _
    have hz := hs _ hm
    rw [wire_Join.l0, if_pos (by omega), if_pos (by omega), rdOf_nat, dropB (show i < l.length by omega)]
    generalize l.getD i ByteArray.empty = s at *
    rw [wire_text_at s (by omega) k (by omega), Option.bind_some]
    simp only [texts]
    unfold textW
    cases e : text s with
    | none => simp
    | some t =>
      have ht := text_size e
      rw [if_pos rfl, if_pos (show acc.size + t.size ≤ 140737488355328 by omega), wrap64_of (by omega) (by omega), show ((i : Int) + 1) = ((i + 1 : Nat) : Int) by omega]
      simp only
      rw [ih (i + 1) k (acc ++ t) (by omega) (by omega) (by rw [ByteArray.size_append]; omega) (by omega), Option.bind_some]
      cases texts (l.drop (i + 1)) with
      | none => rfl
      | some b => simp only [Option.map_some]; rw [append_assoc3]

theorem wire_join_at (l : List ByteArray) (hs : ∀ s ∈ l, s.size ≤ 140737488351232) (k : Nat) (hk : 1020 ≤ k) : wire_Join.f k l = some (joinW l) := by
  unfold wire_Join.f joinW join
  by_cases c : 1000 < l.length
  · rw [if_pos (by omega), if_pos c]
  · rw [if_neg (by omega), if_neg c, wire_num_at (by omega) k (by omega), Option.bind_some]
    have := num_size_le (n := (l.length : Int)) (by omega)
    rw [if_pos (by omega)]
    have := wire_join_loop l hs (by omega) l.length 0 k (num l.length) (by omega) (by omega) (by omega) (by omega)
    rw [List.drop_zero] at this
    rw [show (0 : Int) = ((0 : Nat) : Int) from rfl, this]
    cases texts l <;> rfl

/-- so many texts out of bytes -/
def untexts : Nat → ByteArray → Option (List ByteArray × ByteArray)
  | 0, b => some ([], b)
  | n + 1, b => (ttext b).bind fun (s, r) => (untexts n r).map fun (l, q) => (s :: l, q)
def split (b : ByteArray) : Option (List ByteArray) := (tnum b).bind fun (n, r) => if n < 0 ∨ 1000 < n then none else (untexts n.toNat r).bind fun (l, q) => if q.size = 0 then some l else none
def splitW (b : ByteArray) : List ByteArray × Int := match split b with | none => ([], 2) | some l => (l, 0)
def splitR (b : ByteArray) : List ByteArray × Bool := match split b with | none => ([], false) | some l => (l, true)

theorem empty_iff (b : ByteArray) : (b.toList = ([] : List UInt8)) ↔ b.size = 0 := by
  rw [ByteArray.toList_eq, ← bytesOf_size]
  unfold bytesOf
  rw [List.length_map]
  cases b.data.toList <;> simp

theorem wire_split_loop (n : Nat) (hn : n ≤ 1000) : ∀ (d i k : Nat) (b : ByteArray) (acc : List ByteArray), n - i = d → i ≤ n → acc.length = i → d + 30 ≤ k →
    wire_Split.l0 k b acc (n : Int) (i : Int) = some (match (untexts d b).bind fun (l, q) => if q.size = 0 then some l else none with | none => ([], 2) | some l => (acc ++ l, 0)) := by
  intro d
  induction d with
  | zero =>
    intro i k b acc hd hi ha hk
    obtain ⟨k, rfl⟩ : ∃ m, k = m + 1 := ⟨k - 1, by omega⟩
    rw [wire_Split.l0, if_neg (by omega)]
    simp only [untexts, Option.bind_some]
    by_cases c : b.size = 0
    · rw [if_pos ((empty_iff b).2 c), if_pos c]; simp
    · rw [if_neg (fun h => c ((empty_iff b).1 h)), if_neg c]
  | succ d ih =>
    intro i k b acc hd hi ha hk
    obtain ⟨k, rfl⟩ : ∃ m, k = m + 1 := ⟨k - 1, by omega⟩
    rw [wire_Split.l0, if_pos (by omega), wire_ttext_at b k (by omega), Option.bind_some]
    simp only [untexts]
    unfold ttextW
    cases e : ttext b with
    | none => simp
    | some p =>
      obtain ⟨s, r⟩ := p
      simp only [Option.bind_some]
      rw [if_pos trivial, if_pos (show acc.length < 8796093022208 by omega), wrap64_of (by omega) (by omega), show ((i : Int) + 1) = ((i + 1 : Nat) : Int) by omega, ih (i + 1) k r (acc ++ [s]) (by omega) (by omega) (by rw [List.length_append, ha]; rfl) (by omega)]
      cases untexts d r with
      | none => rfl
      | some p =>
        obtain ⟨l, q⟩ := p
        simp only [Option.bind_some, Option.map_some]
        by_cases c : q.size = 0
        · simp only [if_pos c, List.append_assoc, List.singleton_append]
        · simp only [if_neg c]

theorem wire_split_at (b : ByteArray) (k : Nat) (hk : 1040 ≤ k) : wire_Split.f k b = some (splitW b) := by
  obtain ⟨k, rfl⟩ : ∃ m, k = m + 1 := ⟨k - 1, by omega⟩
  unfold wire_Split.f
  rw [wire_take_at b (k + 1) (by omega), Option.bind_some]
  unfold tnumR splitW split
  cases e : tnum b with
  | none => simp [wire_Split.j0]
  | some p =>
    obtain ⟨n, r⟩ := p
    simp only [Option.bind_some]
    rw [if_pos trivial]
    by_cases c : n < 0
    · rw [if_pos c, if_pos (Or.inl c), wire_Split.j0, if_pos rfl]
    · rw [if_neg c]
      by_cases c2 : 1000 < n
      · rw [if_pos (Or.inr c2), show decide (n > 1000) = true from decide_eq_true c2, wire_Split.j0, if_pos rfl]
      · rw [if_neg (by omega), show decide (n > 1000) = false from decide_eq_false c2, wire_Split.j0, if_neg (by decide)]
        obtain ⟨m, rfl⟩ := Int.eq_ofNat_of_zero_le (show 0 ≤ n by omega)
        have := wire_split_loop m (by omega) m 0 k r [] (by omega) (by omega) rfl (by omega)
        rw [show (0 : Int) = ((0 : Nat) : Int) from rfl, this, Int.toNat_natCast]
        cases (untexts m r).bind fun (l, q) => if q.size = 0 then some l else none <;> simp

end Go.Proofs.Ytjjmbcnalcjnmaa.Sp
