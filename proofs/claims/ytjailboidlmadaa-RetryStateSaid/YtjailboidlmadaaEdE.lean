/- What package edit writes, said by the plain facts on numbers' bytes (the writing half of Wire, Texts and Edits). -/
import Derived.Test.YtjailboidlmadaaBits
import Derived.Test.YtjailboidlmadaaPx6
namespace Go.Proofs.Ytjailboidlmadaa.Sp
open Go.RowKit Go.Proofs.YtjailboidlmadaaW.PrintWords Go.Proofs.YtjailboidlmadaaW.PrintLast Go.Proofs.YtjailboidlmadaaW.PrintMore Go.Proofs.Ytjailboidlmadaa.P
set_option linter.unusedVariables false

theorem wire_num_loop (z : Nat) : ∀ (acc : List Int) (k : Nat), z < 18446744073709551616 → acc.length + (vbs z).length < 100 → (vbs z).length ≤ k → wire_Num.l0 k acc (z : Int) = some (strOfNums (acc ++ vbs z)) := by
  induction z using Nat.strongRecOn with
  | _ z ih =>
    intro acc k hz ha hk
    have hp := vbs_pos z
    obtain ⟨k, rfl⟩ : ∃ m, k = m + 1 := ⟨k - 1, by omega⟩
    by_cases h : z < 128
    · simp only [wire_Num.l0]
      rw [if_neg (by omega), if_pos (by omega), vbs_lt h]
      have : (z : Int) % 256 = z := by omega
      rw [this]
    · have e := vbs_ge (z := z) (by omega)
      rw [e, List.length_cons] at ha hk
      simp only [wire_Num.l0]
      rw [if_pos (by omega), if_pos (by omega), u8_or128' (by omega) (by omega)]
      have e1 : (z : Int) % 256 % 128 + 128 = ((z % 128 + 128 : Nat) : Int) := by omega
      have e2 : (z : Int) / 128 = ((z / 128 : Nat) : Int) := by omega
      rw [e1, e2, ih (z / 128) (by omega) _ k (by omega) (by rw [List.length_append]; simp; omega) (by omega), e]
      simp

theorem zig_bits {n : Int} (h : -9223372036854775808 ≤ n ∧ n ≤ 9223372036854775807) : Go.bits .xor .u64 (IntKind.u64.wrap ((IntKind.u64.wrap n) * 2)) (IntKind.u64.wrap (n / 9223372036854775808)) = (zig n : Int) := by
  unfold zig
  simp only [u64_wrap]
  split
  · have e1 : n / 9223372036854775808 % 18446744073709551616 = 18446744073709551615 := by omega
    rw [e1, u64_xor_ones (by omega) (by omega)]
    omega
  · have e1 : n / 9223372036854775808 % 18446744073709551616 = 0 := by omega
    rw [e1, u64_xor_zero (by omega) (by omega)]
    omega

theorem wire_num_at {n : Int} (h : -9223372036854775808 ≤ n ∧ n ≤ 9223372036854775807) (k : Nat) (hk : 10 ≤ k) : wire_Num.f k n = some (num n) := by
  unfold wire_Num.f
  have hl := vbs_len10 (zig_lt h)
  rw [zig_bits h, wire_num_loop (zig n) [] k (zig_lt h) (by simp; omega) (by omega)]
  simp [num]

theorem wire_num {n : Int} (h : -9223372036854775808 ≤ n ∧ n ≤ 9223372036854775807) : Ev (fun k => wire_Num.f k n) (num n) := ⟨10, fun k hk => wire_num_at h k hk⟩

/-- a text's bytes -/
def text (s : ByteArray) : Option ByteArray := if 4000 < s.size then none else some (num s.size ++ s)
/-- the text at the beginning -/
def textW (s : ByteArray) : ByteArray × Int := match text s with | none => (⟨#[]⟩, 4) | some b => (b, 0)
theorem num_size_le {n : Int} (h : -9223372036854775808 ≤ n ∧ n ≤ 9223372036854775807) : (num n).size ≤ 10 := by rw [num_size]; exact vbs_len10 (zig_lt h)

theorem wire_text_at (s : ByteArray) (hs : s.size ≤ 140737488355328) (k : Nat) (hk : 10 ≤ k) : wire_Text.f k s = some (textW s) := by
  have hr : -9223372036854775808 ≤ (s.size : Int) ∧ (s.size : Int) ≤ 9223372036854775807 := by omega
  have hz := num_size_le hr
  unfold wire_Text.f textW text
  by_cases c : 4000 < s.size
  · rw [if_pos (by omega), if_pos c]
  · rw [if_neg (by omega), wire_num_at hr k hk, if_neg c]
    simp only [Option.bind_some]
    rw [if_pos (by omega)]

theorem nil_append (b : ByteArray) : (⟨#[]⟩ : ByteArray) ++ b = b := bytes_ext (by rw [bytesOf_append, bytesOf_nil, List.nil_append])
theorem append_nil (b : ByteArray) : b ++ (⟨#[]⟩ : ByteArray) = b := bytes_ext (by rw [bytesOf_append, bytesOf_nil, List.append_nil])
theorem append_assoc3 (a b c : ByteArray) : a ++ b ++ c = a ++ (b ++ c) := bytes_ext (by rw [bytesOf_append, bytesOf_append, bytesOf_append, bytesOf_append, List.append_assoc])
theorem rd_nat (l : List Int) (i : Nat) : rd l (i : Int) = l.getD i 0 := by unfold rd; rw [Int.toNat_natCast]
theorem dropI {l : List Int} {i : Nat} (h : i < l.length) : l.drop i = l.getD i 0 :: l.drop (i + 1) := by
  rw [List.getD_eq_getElem?_getD, List.getElem?_eq_getElem h]
  simp
theorem getD_mem {l : List Int} {i : Nat} (h : i < l.length) : l.getD i 0 ∈ l := by
  rw [List.getD_eq_getElem?_getD, List.getElem?_eq_getElem h]
  simp

/-! ### numbers one behind the other -/
def I64 (n : Int) : Prop := -9223372036854775808 ≤ n ∧ n ≤ 9223372036854775807
def ncat : List Int → ByteArray
  | [] => ⟨#[]⟩
  | n :: l => num n ++ ncat l
theorem ncat_size : ∀ {l : List Int}, (∀ x ∈ l, I64 x) → (ncat l).size ≤ l.length * 10
  | [], _ => by simp [ncat, ByteArray.size]
  | n :: l, h => by
    have h1 := num_size_le (h n List.mem_cons_self)
    have h2 := ncat_size (l := l) (fun x hx => h x (List.mem_cons_of_mem _ hx))
    rw [ncat, ByteArray.size_append, List.length_cons]
    omega
theorem nums_loop (l : List Int) (hl : ∀ x ∈ l, I64 x) (hn : l.length ≤ 1000) : ∀ (d i k : Nat) (acc : ByteArray), l.length - i = d → i ≤ l.length → acc.size + d * 10 ≤ 140737488355328 → d + 11 ≤ k →
    edit_nums.l0 k l acc (i : Int) = some (acc ++ ncat (l.drop i)) := by
  intro d
  induction d with
  | zero =>
    intro i k acc hd hi hs hk
    obtain ⟨k, rfl⟩ : ∃ m, k = m + 1 := ⟨k - 1, by omega⟩
    rw [edit_nums.l0, if_neg (by omega), List.drop_eq_nil_of_le (by omega), ncat, append_nil]
  | succ d ih =>
    intro i k acc hd hi hs hk
    obtain ⟨k, rfl⟩ : ∃ m, k = m + 1 := ⟨k - 1, by omega⟩
    have hlt : i < l.length := by omega
    have hm := hl _ (getD_mem hlt)
    have hz := num_size_le hm
    rw [edit_nums.l0, if_pos (by omega), if_pos (by omega), rd_nat, wire_num_at hm k (by omega)]
    simp only [Option.bind_some]
    rw [if_pos (by omega), show wrap64 ((i : Int) + 1) = ((i + 1 : Nat) : Int) by unfold wrap64; omega, ih (i + 1) k _ (by omega) (by omega) (by rw [ByteArray.size_append]; omega) (by omega), dropI hlt, ncat, append_assoc3]
theorem nums_at (l : List Int) (hl : ∀ x ∈ l, I64 x) (hn : l.length ≤ 1000) (k : Nat) (hk : l.length + 11 ≤ k) : edit_nums.f k l = some (ncat l) := by
  unfold edit_nums.f
  have := nums_loop l hl hn l.length 0 k ⟨#[]⟩ (by omega) (by omega) (by simp [ByteArray.size]; omega) hk
  rw [nil_append, List.drop_zero] at this
  exact this

/-! ### right -/
structure RightP (k : Int) (p t : ByteArray) (c q n : Int) (l : List Int) : Prop where
  kind : 1 ≤ k ∧ k ≤ 10
  path : p.size ≤ 120
  dest : t.size ≤ 120
  rename : k = 4 ∨ t.toList = []
  cl : 0 ≤ c ∧ c ≤ 3
  call : 0 ≤ q ∧ q ≤ 9007199254740991
  n : rLeast k ≤ n ∧ n ≤ rMost k
  len : l.length ≤ 8
  lens : k = 5 ∨ k = 6 ∨ l.length = 0
  all : ∀ x ∈ l, 0 ≤ x ∧ x ≤ 9007199254740991
theorem any_odd (l : List Int) : l.any isOdd = false ↔ ∀ x ∈ l, 0 ≤ x ∧ x ≤ 9007199254740991 := by
  rw [List.any_eq_false]
  constructor
  · intro h x hx
    have := h x hx
    unfold isOdd at this
    simpa using this
  · intro h x hx
    have := h x hx
    unfold isOdd
    simpa using this
theorem right_iff (k : Int) (p t : ByteArray) (c q n : Int) (l : List Int) : rightB k p t c q n l = true ↔ RightP k p t c q n l := by
  unfold rightB
  simp only [Bool.and_eq_true, decide_eq_true_eq, Bool.not_eq_true', decide_eq_false_iff_not]
  rw [any_odd]
  constructor
  · rintro ⟨⟨⟨⟨h1, h2⟩, h3⟩, h4, h5, h6⟩, h7⟩
    refine ⟨h1, by omega, by omega, ?_, h4, h5, h6, by omega, by omega, h7⟩
    by_cases e : k = 4
    · exact .inl e
    · refine .inr ?_
      apply Classical.byContradiction
      intro ne
      exact h2 (.inr (.inr ⟨e, ne⟩))
  · rintro ⟨h1, h2, h3, h4, h5, h6, h7, h8, h9, h10⟩
    refine ⟨⟨⟨⟨h1, ?_⟩, by omega⟩, h5, h6, h7⟩, h10⟩
    rintro (a | a | ⟨a, b⟩)
    · omega
    · omega
    · rcases h4 with e | e
      · exact a e
      · exact b e
theorem lm_range (k : Int) : -1 ≤ rLeast k ∧ rLeast k ≤ 0 ∧ 0 ≤ rMost k ∧ rMost k ≤ 9007199254740991 := by
  unfold rLeast rMost
  split <;> split <;> omega
theorem RightP.wide {k : Int} {p t : ByteArray} {c q n : Int} {l : List Int} (h : RightP k p t c q n l) : I64 k ∧ I64 c ∧ I64 q ∧ I64 n ∧ I64 l.length ∧ ∀ x ∈ l, I64 x := by
  have := lm_range k
  have h1 := h.kind; have h2 := h.cl; have h3 := h.call; have h4 := h.n; have h5 := h.len
  refine ⟨?_, ?_, ?_, ?_, ?_, fun x hx => ?_⟩ <;> unfold I64
  · omega
  · omega
  · omega
  · omega
  · omega
  · have := h.all x hx; omega
theorem right_at (k : Int) (p t : ByteArray) (c q n : Int) (l : List Int) : edit_Right.f k p t c q n l = some (rightB k p t c q n l) := rfl

/-! ### the reference's -/
theorem not_right {k : Int} {p t : ByteArray} {c q n : Int} {l : List Int} (h : ¬ RightP k p t c q n l) : rightB k p t c q n l = false := by
  rw [← Bool.not_eq_true, right_iff]; exact h
/-! ### an edit's bytes -/
def textOf (s : ByteArray) : ByteArray := num s.size ++ s
theorem text_of {s : ByteArray} (h : s.size ≤ 4000) : text s = some (textOf s) := by unfold text textOf; rw [if_neg (by omega)]
theorem textOf_size {s : ByteArray} (h : s.size ≤ 120) : (textOf s).size ≤ 130 := by
  have := num_size_le (n := (s.size : Int)) (by omega)
  unfold textOf; rw [ByteArray.size_append]; omega
def encB (k : Int) (p t : ByteArray) (c q n : Int) (l : List Int) : ByteArray := num k ++ (textOf p ++ (textOf t ++ (num c ++ (num q ++ (num n ++ (num l.length ++ ncat l))))))
def encW (k : Int) (p t : ByteArray) (c q n : Int) (l : List Int) : ByteArray × Int := if rightB k p t c q n l = true then (encB k p t c q n l, 0) else (⟨#[]⟩, 1)
theorem encB_size {k : Int} {p t : ByteArray} {c q n : Int} {l : List Int} (h : RightP k p t c q n l) : (encB k p t c q n l).size ≤ 400 := by
  obtain ⟨w1, w2, w3, w4, w5, w6⟩ := h.wide
  have := num_size_le w1; have := num_size_le w2; have := num_size_le w3; have := num_size_le w4; have := num_size_le w5
  have := textOf_size h.path; have := textOf_size h.dest; have := ncat_size w6; have := h.len
  unfold encB
  simp only [ByteArray.size_append]
  omega
theorem wire_enc_at (k : Int) (p t : ByteArray) (c q n : Int) (l : List Int) (K : Nat) (hK : 40 ≤ K) : edit_Encode.f K k p t c q n l = some (encW k p t c q n l) := by
  unfold edit_Encode.f encW
  rw [right_at, Option.bind_some]
  by_cases e : rightB k p t c q n l = true
  · have h := (right_iff ..).1 e
    obtain ⟨w1, w2, w3, w4, w5, w6⟩ := h.wide
    have hp := h.path; have ht := h.dest; have hl := h.len
    have z1 := num_size_le w1; have z2 := num_size_le w2; have z3 := num_size_le w3; have z4 := num_size_le w4; have z5 := num_size_le w5
    have z6 := textOf_size hp; have z7 := textOf_size ht; have z8 := ncat_size w6
    rw [if_pos e, if_pos e, wire_text_at p (by omega) K (by omega), wire_text_at t (by omega) K (by omega)]
    unfold textW
    rw [text_of (by omega), text_of (by omega), nums_at [k] (by simpa using w1) (by simp) K (by simp; omega), nums_at [c, q, n, (l.length : Int)] (by simp; exact ⟨w2, w3, w4, w5⟩) (by simp) K (by simp; omega), nums_at l w6 (by omega) K (by omega)]
    simp only [Option.bind_some, ncat, append_nil]
    simp only [ByteArray.size_append]
    rw [if_pos (by omega), if_pos (by omega), if_pos (by omega), if_pos (by omega)]
    unfold encB
    simp only [append_assoc3]
  · rw [if_neg e, if_neg e]
end Go.Proofs.Ytjailboidlmadaa.Sp
