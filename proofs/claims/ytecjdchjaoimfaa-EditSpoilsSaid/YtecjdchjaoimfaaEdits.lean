/- Plain facts on an edit's bytes: what package edit writes and reads. -/
import Derived.Test.YtecjdchjaoimfaaTexts
import Derived.Test.YtecjdchjaoimfaaPx5
import Derived.Test.YtecjdchjaoimfaaPx8
import Derived.Test.YtecjdchjaoimfaaPx17
namespace Go.Proofs.Ytecjdchjaoimfaa.Sp
open Go.RowKit Go.Proofs.Ytecjdchjaoimfaa.P Go.Proofs.YtecjdchjaoimfaaW.PrintWords Go.Proofs.YtecjdchjaoimfaaW.PrintLast Go.Proofs.YtecjdchjaoimfaaW.PrintMore
set_option linter.unusedVariables false

theorem nil_append (b : ByteArray) : (⟨#[]⟩ : ByteArray) ++ b = b := bytes_ext (by rw [bytesOf_append, bytesOf_nil, List.nil_append])
theorem append_nil (b : ByteArray) : b ++ (⟨#[]⟩ : ByteArray) = b := bytes_ext (by rw [bytesOf_append, bytesOf_nil, List.append_nil])
theorem append_assoc3 (a b c : ByteArray) : a ++ b ++ c = a ++ (b ++ c) := bytes_ext (by rw [bytesOf_append, bytesOf_append, bytesOf_append, bytesOf_append, List.append_assoc])
theorem cut_low (a b : ByteArray) {m : Nat} (h : m ≤ a.size) : (a ++ b).extract 0 m = a.extract 0 m := by
  apply bytes_ext
  rw [bytesOf_extract, bytesOf_extract, bytesOf_append, List.drop_zero, List.drop_zero, Nat.sub_zero, List.take_append_of_le_length (by rw [bytesOf_size]; exact h)]
theorem cut_high (a b : ByteArray) {m : Nat} (h : a.size ≤ m) : (a ++ b).extract 0 m = a ++ b.extract 0 (m - a.size) := by
  apply bytes_ext
  rw [bytesOf_extract, bytesOf_append, bytesOf_append, bytesOf_extract, List.drop_zero, List.drop_zero, Nat.sub_zero, Nat.sub_zero, List.take_append, List.take_of_length_le (by rw [bytesOf_size]; exact h), bytesOf_size]
theorem cut_size (b : ByteArray) {m : Nat} (h : m ≤ b.size) : (b.extract 0 m).size = m := by rw [ByteArray.size_extract]; omega
theorem tnum_cut {n : Int} {m : Nat} (h : m < (num n).size) : tnum ((num n).extract 0 m) = none := by
  unfold tnum
  rw [num_size] at h
  rw [bytesOf_extract, bytes_num, List.drop_zero, Nat.sub_zero, tk_cut h]
theorem ttext_cut {s t : ByteArray} (h : text s = some t) {m : Nat} (hm : m < t.size) : ttext (t.extract 0 m) = none := by
  unfold text at h
  by_cases c : 4000 < s.size
  · rw [if_pos c] at h; cases h
  · rw [if_neg c] at h
    obtain rfl := Option.some.inj h
    rw [ByteArray.size_append] at hm
    unfold ttext
    rcases Nat.lt_or_ge m (num s.size).size with c1 | c1
    · rw [cut_low _ _ (by omega), tnum_cut c1]
    · rw [cut_high _ _ c1, tnum_num (by omega)]
      have hz : (s.extract 0 (m - (num s.size).size)).size = m - (num s.size).size := cut_size s (by omega)
      simp only
      rw [if_pos (by omega)]
theorem empty_iff (b : ByteArray) : (b.toList = ([] : List UInt8)) ↔ b.size = 0 := by
  rw [ByteArray.toList_eq]
  constructor
  · intro h
    have := congrArg List.length h
    simpa using this
  · intro h
    apply List.eq_nil_of_length_eq_zero
    simpa using h
theorem rd_nat (l : List Int) (i : Nat) : rd l (i : Int) = l.getD i 0 := by unfold rd; rw [Int.toNat_natCast]
theorem dropI {l : List Int} {i : Nat} (h : i < l.length) : l.drop i = l.getD i 0 :: l.drop (i + 1) := by
  rw [List.getD_eq_getElem?_getD, List.getElem?_eq_getElem h]
  simp
theorem getD_mem {l : List Int} {i : Nat} (h : i < l.length) : l.getD i 0 ∈ l := by
  rw [List.getD_eq_getElem?_getD, List.getElem?_eq_getElem h]
  simp

/-! ### numbers one behind the other -/
def I64 (n : Int) : Prop := -9223372036854775808 ≤ n ∧ n ≤ 9223372036854775807
def ncat : List Int → ByteArray
  | [] => ⟨#[]⟩
  | n :: l => num n ++ ncat l
theorem ncat_size : ∀ {l : List Int}, (∀ x ∈ l, I64 x) → (ncat l).size ≤ l.length * 10
  | [], _ => by simp [ncat, ByteArray.size]
  | n :: l, h => by
    have h1 := num_size_le (h n List.mem_cons_self)
    have h2 := ncat_size (l := l) (fun x hx => h x (List.mem_cons_of_mem _ hx))
    rw [ncat, ByteArray.size_append, List.length_cons]
    omega
theorem nums_loop (l : List Int) (hl : ∀ x ∈ l, I64 x) (hn : l.length ≤ 1000) : ∀ (d i k : Nat) (acc : ByteArray), l.length - i = d → i ≤ l.length → acc.size + d * 10 ≤ 140737488355328 → d + 11 ≤ k →
    edit_nums.l0 k l acc (i : Int) = some (acc ++ ncat (l.drop i)) := by
  intro d
  induction d with
  | zero =>
    intro i k acc hd hi hs hk
    obtain ⟨k, rfl⟩ : ∃ m, k = m + 1 := ⟨k - 1, by omega⟩
    rw [edit_nums.l0, if_neg (by omega), List.drop_eq_nil_of_le (by omega), ncat, append_nil]
  | succ d ih =>
    intro i k acc hd hi hs hk
    obtain ⟨k, rfl⟩ : ∃ m, k = m + 1 := ⟨k - 1, by omega⟩
    have hlt : i < l.length := by omega
    have hm := hl _ (getD_mem hlt)
    have hz := num_size_le hm
    rw [edit_nums.l0, if_pos (by omega), if_pos (by omega), rd_nat, wire_num_at hm k (by omega)]
    simp only [Option.bind_some]
    rw [if_pos (by omega), show wrap64 ((i : Int) + 1) = ((i + 1 : Nat) : Int) by unfold wrap64; omega, ih (i + 1) k _ (by omega) (by omega) (by rw [ByteArray.size_append]; omega) (by omega), dropI hlt, ncat, append_assoc3]
theorem nums_at (l : List Int) (hl : ∀ x ∈ l, I64 x) (hn : l.length ≤ 1000) (k : Nat) (hk : l.length + 11 ≤ k) : edit_nums.f k l = some (ncat l) := by
  unfold edit_nums.f
  have := nums_loop l hl hn l.length 0 k ⟨#[]⟩ (by omega) (by omega) (by simp [ByteArray.size]; omega) hk
  rw [nil_append, List.drop_zero] at this
  exact this

/-! ### right -/
structure RightP (k : Int) (p t : ByteArray) (c q n : Int) (l : List Int) : Prop where
  kind : 1 ≤ k ∧ k ≤ 10
  path : p.size ≤ 120
  dest : t.size ≤ 120
  rename : k = 4 ∨ t.toList = []
  cl : 0 ≤ c ∧ c ≤ 3
  call : 0 ≤ q ∧ q ≤ 9007199254740991
  n : rLeast k ≤ n ∧ n ≤ rMost k
  len : l.length ≤ 8
  lens : k = 5 ∨ k = 6 ∨ l.length = 0
  all : ∀ x ∈ l, 0 ≤ x ∧ x ≤ 9007199254740991
theorem any_odd (l : List Int) : l.any isOdd = false ↔ ∀ x ∈ l, 0 ≤ x ∧ x ≤ 9007199254740991 := by
  rw [List.any_eq_false]
  constructor
  · intro h x hx
    have := h x hx
    unfold isOdd at this
    simpa using this
  · intro h x hx
    have := h x hx
    unfold isOdd
    simpa using this
theorem right_iff (k : Int) (p t : ByteArray) (c q n : Int) (l : List Int) : rightB k p t c q n l = true ↔ RightP k p t c q n l := by
  unfold rightB
  simp only [Bool.and_eq_true, decide_eq_true_eq, Bool.not_eq_true', decide_eq_false_iff_not]
  rw [any_odd]
  constructor
  · rintro ⟨⟨⟨⟨h1, h2⟩, h3⟩, h4, h5, h6⟩, h7⟩
    refine ⟨h1, by omega, by omega, ?_, h4, h5, h6, by omega, by omega, h7⟩
    by_cases e : k = 4
    · exact .inl e
    · refine .inr ?_
      apply Classical.byContradiction
      intro ne
      exact h2 (.inr (.inr ⟨e, ne⟩))
  · rintro ⟨h1, h2, h3, h4, h5, h6, h7, h8, h9, h10⟩
    refine ⟨⟨⟨⟨h1, ?_⟩, by omega⟩, h5, h6, h7⟩, h10⟩
    rintro (a | a | ⟨a, b⟩)
    · omega
    · omega
    · rcases h4 with e | e
      · exact a e
      · exact b e
theorem lm_range (k : Int) : -1 ≤ rLeast k ∧ rLeast k ≤ 0 ∧ 0 ≤ rMost k ∧ rMost k ≤ 9007199254740991 := by
  unfold rLeast rMost
  split <;> split <;> omega
theorem RightP.wide {k : Int} {p t : ByteArray} {c q n : Int} {l : List Int} (h : RightP k p t c q n l) : I64 k ∧ I64 c ∧ I64 q ∧ I64 n ∧ I64 l.length ∧ ∀ x ∈ l, I64 x := by
  have := lm_range k
  have h1 := h.kind; have h2 := h.cl; have h3 := h.call; have h4 := h.n; have h5 := h.len
  refine ⟨?_, ?_, ?_, ?_, ?_, fun x hx => ?_⟩ <;> unfold I64
  · omega
  · omega
  · omega
  · omega
  · omega
  · have := h.all x hx; omega
theorem right_at (k : Int) (p t : ByteArray) (c q n : Int) (l : List Int) : edit_Right.f k p t c q n l = some (rightB k p t c q n l) := rfl

/-! ### the reference's -/
theorem not_right {k : Int} {p t : ByteArray} {c q n : Int} {l : List Int} (h : ¬ RightP k p t c q n l) : rightB k p t c q n l = false := by
  rw [← Bool.not_eq_true, right_iff]; exact h
/-! ### an edit's bytes -/
def textOf (s : ByteArray) : ByteArray := num s.size ++ s
theorem text_of {s : ByteArray} (h : s.size ≤ 4000) : text s = some (textOf s) := by unfold text textOf; rw [if_neg (by omega)]
theorem textOf_size {s : ByteArray} (h : s.size ≤ 120) : (textOf s).size ≤ 130 := by
  have := num_size_le (n := (s.size : Int)) (by omega)
  unfold textOf; rw [ByteArray.size_append]; omega
def encB (k : Int) (p t : ByteArray) (c q n : Int) (l : List Int) : ByteArray := num k ++ (textOf p ++ (textOf t ++ (num c ++ (num q ++ (num n ++ (num l.length ++ ncat l))))))
def encW (k : Int) (p t : ByteArray) (c q n : Int) (l : List Int) : ByteArray × Int := if rightB k p t c q n l = true then (encB k p t c q n l, 0) else (⟨#[]⟩, 1)
theorem encB_size {k : Int} {p t : ByteArray} {c q n : Int} {l : List Int} (h : RightP k p t c q n l) : (encB k p t c q n l).size ≤ 400 := by
  obtain ⟨w1, w2, w3, w4, w5, w6⟩ := h.wide
  have := num_size_le w1; have := num_size_le w2; have := num_size_le w3; have := num_size_le w4; have := num_size_le w5
  have := textOf_size h.path; have := textOf_size h.dest; have := ncat_size w6; have := h.len
  unfold encB
  simp only [ByteArray.size_append]
  omega
theorem wire_enc_at (k : Int) (p t : ByteArray) (c q n : Int) (l : List Int) (K : Nat) (hK : 40 ≤ K) : edit_Encode.f K k p t c q n l = some (encW k p t c q n l) := by
  unfold edit_Encode.f encW
  rw [right_at, Option.bind_some]
  by_cases e : rightB k p t c q n l = true
  · have h := (right_iff ..).1 e
    obtain ⟨w1, w2, w3, w4, w5, w6⟩ := h.wide
    have hp := h.path; have ht := h.dest; have hl := h.len
    have z1 := num_size_le w1; have z2 := num_size_le w2; have z3 := num_size_le w3; have z4 := num_size_le w4; have z5 := num_size_le w5
    have z6 := textOf_size hp; have z7 := textOf_size ht; have z8 := ncat_size w6
    rw [if_pos e, if_pos e, wire_text_at p (by omega) K (by omega), wire_text_at t (by omega) K (by omega)]
    unfold textW
    rw [text_of (by omega), text_of (by omega), nums_at [k] (by simpa using w1) (by simp) K (by simp; omega), nums_at [c, q, n, (l.length : Int)] (by simp; exact ⟨w2, w3, w4, w5⟩) (by simp) K (by simp; omega), nums_at l w6 (by omega) K (by omega)]
    simp only [Option.bind_some, ncat, append_nil]
    simp only [ByteArray.size_append]
    rw [if_pos (by omega), if_pos (by omega), if_pos (by omega), if_pos (by omega)]
    unfold encB
    simp only [append_assoc3]
  · rw [if_neg e, if_neg e]
/-! ### reading -/
def unums : Nat → ByteArray → Option (List Int × ByteArray)
  | 0, b => some ([], b)
  | n + 1, b => match tnum b with
    | none => none
    | some (v, r) => match unums n r with
      | none => none
      | some (l, q) => some (v :: l, q)
structure Ed where
  k : Int
  p : ByteArray
  t : ByteArray
  c : Int
  q : Int
  n : Int
  l : List Int
deriving DecidableEq
def dec8 (k : Int) (p t : ByteArray) (c q n m : Int) (b : ByteArray) : Option Ed :=
  if m < 0 ∨ 8 < m then none else match unums m.toNat b with
    | none => none
    | some (l, r) => if r.size = 0 ∧ rightB k p t c q n l = true then some ⟨k, p, t, c, q, n, l⟩ else none
def dec7 (k : Int) (p t : ByteArray) (c q n : Int) (b : ByteArray) : Option Ed := match tnum b with | none => none | some (m, b) => dec8 k p t c q n m b
def dec6 (k : Int) (p t : ByteArray) (c q : Int) (b : ByteArray) : Option Ed := match tnum b with | none => none | some (n, b) => dec7 k p t c q n b
def dec5 (k : Int) (p t : ByteArray) (c : Int) (b : ByteArray) : Option Ed := match tnum b with | none => none | some (q, b) => dec6 k p t c q b
def dec4 (k : Int) (p t : ByteArray) (b : ByteArray) : Option Ed := match tnum b with | none => none | some (c, b) => dec5 k p t c b
def dec3 (k : Int) (p : ByteArray) (b : ByteArray) : Option Ed := match ttext b with | none => none | some (t, b) => dec4 k p t b
def dec2 (k : Int) (b : ByteArray) : Option Ed := match ttext b with | none => none | some (p, b) => dec3 k p b
def dec (b : ByteArray) : Option Ed := match tnum b with | none => none | some (k, b) => dec2 k b
def decW : Option Ed → Int × ByteArray × ByteArray × Int × Int × Int × List Int × Int
  | none => (0, ⟨#[]⟩, ⟨#[]⟩, 0, 0, 0, [], 2)
  | some e => (e.k, e.p, e.t, e.c, e.q, e.n, e.l, 0)
theorem dec_loop_no (m : Nat) (hm : m ≤ 8) : ∀ (d i k : Nat) (r : ByteArray) (l : List Int), m - i = d → i ≤ m → l.length + d ≤ 100 → d + 30 ≤ k →
    ∃ r' l', edit_Decode.l0 k r false l (m : Int) (i : Int) = some (r', false, l') := by
  intro d
  induction d with
  | zero =>
    intro i k r l hd hi hl hk
    obtain ⟨k, rfl⟩ : ∃ m, k = m + 1 := ⟨k - 1, by omega⟩
    exact ⟨r, l, by rw [edit_Decode.l0, if_neg (by omega)]⟩
  | succ d ih =>
    intro i k r l hd hi hl hk
    obtain ⟨k, rfl⟩ : ∃ m, k = m + 1 := ⟨k - 1, by omega⟩
    obtain ⟨r', l', h⟩ := ih (i + 1) k (tnumR r).2.1 (l ++ [(tnumR r).1]) (by omega) (by omega) (by rw [List.length_append]; simp; omega) (by omega)
    refine ⟨r', l', ?_⟩
    rw [edit_Decode.l0, if_pos (by omega), wire_take_at r k (by omega)]
    simp only [Option.bind_some]
    rw [if_pos (by omega), show wrap64 ((i : Int) + 1) = ((i + 1 : Nat) : Int) by unfold wrap64; omega, Bool.false_and]
    exact h
theorem dec_loop_yes (m : Nat) (hm : m ≤ 8) : ∀ (d i k : Nat) (r : ByteArray) (l : List Int), m - i = d → i ≤ m → l.length + d ≤ 100 → d + 30 ≤ k →
    ∃ z, edit_Decode.l0 k r true l (m : Int) (i : Int) = some z ∧ (match unums d r with | none => z.2.1 = false | some (s, q) => z = (q, true, l ++ s)) := by
  intro d
  induction d with
  | zero =>
    intro i k r l hd hi hl hk
    obtain ⟨k, rfl⟩ : ∃ m, k = m + 1 := ⟨k - 1, by omega⟩
    refine ⟨(r, true, l), by rw [edit_Decode.l0, if_neg (by omega)], ?_⟩
    simp [unums]
  | succ d ih =>
    intro i k r l hd hi hl hk
    obtain ⟨k, rfl⟩ : ∃ m, k = m + 1 := ⟨k - 1, by omega⟩
    rw [edit_Decode.l0, if_pos (by omega), wire_take_at r k (by omega)]
    simp only [Option.bind_some]
    rw [if_pos (by omega), show wrap64 ((i : Int) + 1) = ((i + 1 : Nat) : Int) by unfold wrap64; omega, Bool.true_and]
    unfold unums tnumR
    cases e : tnum r with
    | none =>
      obtain ⟨r', l', h⟩ := dec_loop_no m hm d (i + 1) k (⟨#[]⟩ : ByteArray) (l ++ [0]) (by omega) (by omega) (by rw [List.length_append]; simp; omega) (by omega)
      exact ⟨_, h, rfl⟩
    | some p =>
      obtain ⟨v, r2⟩ := p
      obtain ⟨z, h, hz⟩ := ih (i + 1) k r2 (l ++ [v]) (by omega) (by omega) (by rw [List.length_append]; simp; omega) (by omega)
      refine ⟨z, h, ?_⟩
      simp only
      cases e2 : unums d r2 with
      | none => rw [e2] at hz; exact hz
      | some s =>
        obtain ⟨s, q⟩ := s
        rw [e2] at hz
        simp only at hz ⊢
        rw [hz, List.append_assoc]; rfl
theorem dec_g_no (K : Nat) (k : Int) (p t : ByteArray) (c q n m : Int) (b : ByteArray) (f : Bool) (hf : f = false) : edit_Decode.g K k p t c q n m b f = some (decW none) := by
  subst hf
  unfold edit_Decode.g
  rw [if_pos (.inl rfl)]; rfl
theorem dec_g_yes (K : Nat) (k : Int) (p t : ByteArray) (c q n m : Int) (b : ByteArray) (f : Bool) (hf : f = true) (hK : 40 ≤ K) : edit_Decode.g K k p t c q n m b f = some (decW (dec8 k p t c q n m b)) := by
  subst hf
  unfold edit_Decode.g dec8
  by_cases c1 : m < 0 ∨ 8 < m
  · rw [if_pos (.inr c1), if_pos c1]; rfl
  · rw [if_neg (by simp; omega), if_neg c1]
    obtain ⟨z, h, hz⟩ := dec_loop_yes m.toNat (by omega) m.toNat 0 K b [] (by omega) (by omega) (by simp; omega) (by omega)
    rw [show ((m.toNat : Nat) : Int) = m by omega, show ((0 : Nat) : Int) = 0 from rfl] at h
    rw [h, Option.bind_some]
    cases e : unums m.toNat b with
    | none =>
      rw [e] at hz
      simp only at hz
      rw [if_neg (by rw [hz]; simp)]; rfl
    | some s =>
      obtain ⟨s, r⟩ := s
      rw [e] at hz
      simp only at hz
      subst hz
      simp only [List.nil_append]
      by_cases c2 : r.size = 0 ∧ rightB k p t c q n s = true
      · rw [if_pos ⟨trivial, (empty_iff r).2 c2.1, c2.2⟩, if_pos c2]; rfl
      · rw [if_neg (fun h => c2 ⟨(empty_iff r).1 h.2.1, h.2.2⟩), if_neg c2]; rfl
theorem wire_dec_at (b : ByteArray) (K : Nat) (hK : 40 ≤ K) : edit_Decode.f K b = some (decW (dec b)) := by
  unfold edit_Decode.f dec
  rw [wire_take_at b K (by omega)]; simp only [Option.bind_some]; unfold tnumR
  cases e1 : tnum b with
  | none =>
    rw [wire_ttext_at _ K (by omega)]; simp only [Option.bind_some]
    rw [wire_ttext_at _ K (by omega)]; simp only [Option.bind_some]
    rw [wire_take_at _ K (by omega)]; simp only [Option.bind_some]
    rw [wire_take_at _ K (by omega)]; simp only [Option.bind_some]
    rw [wire_take_at _ K (by omega)]; simp only [Option.bind_some]
    rw [wire_take_at _ K (by omega)]; simp only [Option.bind_some]
    exact dec_g_no _ _ _ _ _ _ _ _ _ _ (by simp)
  | some x1 =>
  obtain ⟨k, b1⟩ := x1
  simp only
  rw [wire_ttext_at b1 K (by omega)]; simp only [Option.bind_some]; unfold ttextW dec2
  cases e2 : ttext b1 with
  | none =>
    rw [wire_ttext_at _ K (by omega)]; simp only [Option.bind_some]
    rw [wire_take_at _ K (by omega)]; simp only [Option.bind_some]
    rw [wire_take_at _ K (by omega)]; simp only [Option.bind_some]
    rw [wire_take_at _ K (by omega)]; simp only [Option.bind_some]
    rw [wire_take_at _ K (by omega)]; simp only [Option.bind_some]
    exact dec_g_no _ _ _ _ _ _ _ _ _ _ (by simp)
  | some x2 =>
  obtain ⟨p, b2⟩ := x2
  simp only
  rw [wire_ttext_at b2 K (by omega)]; simp only [Option.bind_some]; unfold ttextW dec3
  cases e3 : ttext b2 with
  | none =>
    rw [wire_take_at _ K (by omega)]; simp only [Option.bind_some]
    rw [wire_take_at _ K (by omega)]; simp only [Option.bind_some]
    rw [wire_take_at _ K (by omega)]; simp only [Option.bind_some]
    rw [wire_take_at _ K (by omega)]; simp only [Option.bind_some]
    exact dec_g_no _ _ _ _ _ _ _ _ _ _ (by simp)
  | some x3 =>
  obtain ⟨t, b3⟩ := x3
  simp only
  rw [wire_take_at b3 K (by omega)]; simp only [Option.bind_some]; unfold tnumR dec4
  cases e4 : tnum b3 with
  | none =>
    rw [wire_take_at _ K (by omega)]; simp only [Option.bind_some]
    rw [wire_take_at _ K (by omega)]; simp only [Option.bind_some]
    rw [wire_take_at _ K (by omega)]; simp only [Option.bind_some]
    exact dec_g_no _ _ _ _ _ _ _ _ _ _ (by simp)
  | some x4 =>
  obtain ⟨c, b4⟩ := x4
  simp only
  rw [wire_take_at b4 K (by omega)]; simp only [Option.bind_some]; unfold tnumR dec5
  cases e5 : tnum b4 with
  | none =>
    rw [wire_take_at _ K (by omega)]; simp only [Option.bind_some]
    rw [wire_take_at _ K (by omega)]; simp only [Option.bind_some]
    exact dec_g_no _ _ _ _ _ _ _ _ _ _ (by simp)
  | some x5 =>
  obtain ⟨q, b5⟩ := x5
  simp only
  rw [wire_take_at b5 K (by omega)]; simp only [Option.bind_some]; unfold tnumR dec6
  cases e6 : tnum b5 with
  | none =>
    rw [wire_take_at _ K (by omega)]; simp only [Option.bind_some]
    exact dec_g_no _ _ _ _ _ _ _ _ _ _ (by simp)
  | some x6 =>
  obtain ⟨n, b6⟩ := x6
  simp only
  rw [wire_take_at b6 K (by omega)]; simp only [Option.bind_some]; unfold tnumR dec7
  cases e7 : tnum b6 with
  | none => exact dec_g_no _ _ _ _ _ _ _ _ _ _ (by simp)
  | some x7 =>
  obtain ⟨m, b7⟩ := x7
  exact dec_g_yes _ _ _ _ _ _ _ _ _ _ (by simp) hK

/-! ### the reference reads -/
theorem tnum_rest {b r : ByteArray} {n : Int} (h : tnum b = some (n, r)) : r.size ≤ b.size := by
  obtain ⟨rfl, _⟩ := tnum_back h
  rw [ByteArray.size_append]; omega
theorem ttext_rest {b s r : ByteArray} (h : ttext b = some (s, r)) : r.size ≤ b.size := by
  obtain ⟨t, _, rfl⟩ := ttext_back h
  rw [ByteArray.size_append]; omega
/-! ### what was written is read -/
theorem unums_ncat : ∀ (l : List Int) (r : ByteArray), (∀ x ∈ l, I64 x) → unums l.length (ncat l ++ r) = some (l, r)
  | [], r, _ => by rw [ncat, nil_append]; rfl
  | x :: l, r, h => by
    rw [List.length_cons, unums, ncat, append_assoc3, tnum_num (h x List.mem_cons_self)]
    simp only
    rw [unums_ncat l r (fun y hy => h y (List.mem_cons_of_mem _ hy))]
theorem unums_cut : ∀ (l : List Int), (∀ x ∈ l, I64 x) → ∀ m, m < (ncat l).size → unums l.length ((ncat l).extract 0 m) = none
  | [], _, m, hm => by simp [ncat, ByteArray.size] at hm
  | x :: l, h, m, hm => by
    have hx := h x List.mem_cons_self
    rw [ncat, ByteArray.size_append] at hm
    rw [List.length_cons, unums, ncat]
    rcases Nat.lt_or_ge m (num x).size with c | c
    · rw [cut_low _ _ (by omega), tnum_cut c]
    · rw [cut_high _ _ c, tnum_num hx]
      simp only
      rw [unums_cut l (fun y hy => h y (List.mem_cons_of_mem _ hy)) _ (by omega)]
theorem dec_enc {k : Int} {p t : ByteArray} {c q n : Int} {l : List Int} (h : RightP k p t c q n l) : dec (encB k p t c q n l) = some ⟨k, p, t, c, q, n, l⟩ := by
  obtain ⟨w1, w2, w3, w4, w5, w6⟩ := h.wide
  have hp := h.path; have ht := h.dest; have hl := h.len
  unfold dec encB; rw [tnum_num w1]; simp only
  unfold dec2; rw [ttext_text (text_of (by omega))]; simp only
  unfold dec3; rw [ttext_text (text_of (by omega))]; simp only
  unfold dec4; rw [tnum_num w2]; simp only
  unfold dec5; rw [tnum_num w3]; simp only
  unfold dec6; rw [tnum_num w4]; simp only
  unfold dec7; rw [tnum_num w5]; simp only
  unfold dec8
  have hu := unums_ncat l ⟨#[]⟩ w6
  rw [append_nil] at hu
  rw [if_neg (by omega), Int.toNat_natCast, hu]
  simp only
  rw [if_pos ⟨rfl, (right_iff ..).2 h⟩]
theorem unums_back : ∀ (n : Nat) (b : ByteArray) (l : List Int) (r : ByteArray), unums n b = some (l, r) → b = ncat l ++ r ∧ l.length = n
  | 0, b, l, r, h => by
    obtain ⟨rfl, rfl⟩ : [] = l ∧ b = r := by simpa [unums] using h
    rw [ncat, nil_append]; exact ⟨rfl, rfl⟩
  | n + 1, b, l, r, h => by
    unfold unums at h
    cases e : tnum b with
    | none => rw [e] at h; cases h
    | some x =>
      obtain ⟨v, b2⟩ := x
      rw [e] at h
      simp only at h
      cases e2 : unums n b2 with
      | none => rw [e2] at h; cases h
      | some y =>
        obtain ⟨s, q⟩ := y
        rw [e2] at h
        obtain ⟨rfl, rfl⟩ : v :: s = l ∧ q = r := by simpa using h
        obtain ⟨rfl, rfl⟩ := unums_back n b2 s q e2
        obtain ⟨rfl, _⟩ := tnum_back e
        exact ⟨by rw [ncat, append_assoc3], rfl⟩
theorem dec_back {b : ByteArray} {e : Ed} (h : dec b = some e) : RightP e.k e.p e.t e.c e.q e.n e.l ∧ b = encB e.k e.p e.t e.c e.q e.n e.l := by
  unfold dec at h
  cases e1 : tnum b with
  | none => rw [e1] at h; cases h
  | some x1 =>
  obtain ⟨k, b1⟩ := x1
  rw [e1] at h; simp only at h; unfold dec2 at h
  cases e2 : ttext b1 with
  | none => rw [e2] at h; cases h
  | some x2 =>
  obtain ⟨p, b2⟩ := x2
  rw [e2] at h; simp only at h; unfold dec3 at h
  cases e3 : ttext b2 with
  | none => rw [e3] at h; cases h
  | some x3 =>
  obtain ⟨t, b3⟩ := x3
  rw [e3] at h; simp only at h; unfold dec4 at h
  cases e4 : tnum b3 with
  | none => rw [e4] at h; cases h
  | some x4 =>
  obtain ⟨c, b4⟩ := x4
  rw [e4] at h; simp only at h; unfold dec5 at h
  cases e5 : tnum b4 with
  | none => rw [e5] at h; cases h
  | some x5 =>
  obtain ⟨q, b5⟩ := x5
  rw [e5] at h; simp only at h; unfold dec6 at h
  cases e6 : tnum b5 with
  | none => rw [e6] at h; cases h
  | some x6 =>
  obtain ⟨n, b6⟩ := x6
  rw [e6] at h; simp only at h; unfold dec7 at h
  cases e7 : tnum b6 with
  | none => rw [e7] at h; cases h
  | some x7 =>
  obtain ⟨m, b7⟩ := x7
  rw [e7] at h; simp only at h; unfold dec8 at h
  by_cases c1 : m < 0 ∨ 8 < m
  · rw [if_pos c1] at h; cases h
  rw [if_neg c1] at h
  cases e8 : unums m.toNat b7 with
  | none => rw [e8] at h; cases h
  | some x8 =>
  obtain ⟨l, r⟩ := x8
  rw [e8] at h; simp only at h
  by_cases c2 : r.size = 0 ∧ rightB k p t c q n l = true
  · rw [if_pos c2] at h
    obtain rfl := Option.some.inj h
    have hr := (right_iff ..).1 c2.2
    refine ⟨hr, ?_⟩
    obtain ⟨h1, _⟩ := tnum_back e1
    obtain ⟨t2, g2, h2⟩ := ttext_back e2
    obtain ⟨t3, g3, h3⟩ := ttext_back e3
    obtain ⟨h4, _⟩ := tnum_back e4
    obtain ⟨h5, _⟩ := tnum_back e5
    obtain ⟨h6, _⟩ := tnum_back e6
    obtain ⟨h7, _⟩ := tnum_back e7
    obtain ⟨h8, h9⟩ := unums_back _ _ _ _ e8
    have hp := hr.path; have ht := hr.dest
    rw [text_of (by omega)] at g2 g3
    obtain rfl := Option.some.inj g2
    obtain rfl := Option.some.inj g3
    have hr0 : r = ⟨#[]⟩ := by
      apply toList_inj
      rw [(empty_iff r).2 c2.1, (empty_iff _).2 (by rfl)]
    subst hr0
    rw [append_nil] at h8
    have hm : m = (l.length : Int) := by omega
    unfold encB
    simp only
    rw [h1, h2, h3, h4, h5, h6, h7, h8, hm]
  · rw [if_neg c2] at h; cases h
theorem dec_cut {k : Int} {p t : ByteArray} {c q n : Int} {l : List Int} (h : RightP k p t c q n l) {m : Nat} (hm : m < (encB k p t c q n l).size) : dec ((encB k p t c q n l).extract 0 m) = none := by
  obtain ⟨w1, w2, w3, w4, w5, w6⟩ := h.wide
  have hp := h.path; have ht := h.dest; have hl := h.len
  have gp := text_of (s := p) (by omega)
  have gt := text_of (s := t) (by omega)
  unfold encB at hm ⊢
  simp only [ByteArray.size_append] at hm
  unfold dec
  rcases Nat.lt_or_ge m (num k).size with c1 | c1
  · rw [cut_low _ _ (by omega), tnum_cut c1]
  rw [cut_high _ _ c1, tnum_num w1]; simp only; unfold dec2
  obtain ⟨m1, hm1⟩ : ∃ m1, m1 = m - (num k).size := ⟨_, rfl⟩
  rw [← hm1]
  rcases Nat.lt_or_ge m1 (textOf p).size with c2 | c2
  · rw [cut_low _ _ (by omega), ttext_cut gp c2]
  rw [cut_high _ _ c2, ttext_text gp]; simp only; unfold dec3
  obtain ⟨m2, hm2⟩ : ∃ m2, m2 = m1 - (textOf p).size := ⟨_, rfl⟩
  rw [← hm2]
  rcases Nat.lt_or_ge m2 (textOf t).size with c3 | c3
  · rw [cut_low _ _ (by omega), ttext_cut gt c3]
  rw [cut_high _ _ c3, ttext_text gt]; simp only; unfold dec4
  obtain ⟨m3, hm3⟩ : ∃ m3, m3 = m2 - (textOf t).size := ⟨_, rfl⟩
  rw [← hm3]
  rcases Nat.lt_or_ge m3 (num c).size with c4 | c4
  · rw [cut_low _ _ (by omega), tnum_cut c4]
  rw [cut_high _ _ c4, tnum_num w2]; simp only; unfold dec5
  obtain ⟨m4, hm4⟩ : ∃ m4, m4 = m3 - (num c).size := ⟨_, rfl⟩
  rw [← hm4]
  rcases Nat.lt_or_ge m4 (num q).size with c5 | c5
  · rw [cut_low _ _ (by omega), tnum_cut c5]
  rw [cut_high _ _ c5, tnum_num w3]; simp only; unfold dec6
  obtain ⟨m5, hm5⟩ : ∃ m5, m5 = m4 - (num q).size := ⟨_, rfl⟩
  rw [← hm5]
  rcases Nat.lt_or_ge m5 (num n).size with c6 | c6
  · rw [cut_low _ _ (by omega), tnum_cut c6]
  rw [cut_high _ _ c6, tnum_num w4]; simp only; unfold dec7
  obtain ⟨m6, hm6⟩ : ∃ m6, m6 = m5 - (num n).size := ⟨_, rfl⟩
  rw [← hm6]
  rcases Nat.lt_or_ge m6 (num l.length).size with c7 | c7
  · rw [cut_low _ _ (by omega), tnum_cut c7]
  rw [cut_high _ _ c7, tnum_num w5]; simp only; unfold dec8
  rw [if_neg (by omega), Int.toNat_natCast, unums_cut l w6 _ (by omega)]

/-! ### the same -/
theorem numbers_loop (a b : List Int) (hl : a.length = b.length) (hz : a.length ≤ maxLen) : ∀ (d i k : Nat), a.length - i = d → i ≤ a.length → d + 1 ≤ k → tabulariumlaw10_numbers.l0 k a b (i : Int) = some (decide (a.drop i = b.drop i)) := by
  intro d
  unfold maxLen at hz
  induction d with
  | zero =>
    intro i k hd hi hk
    obtain ⟨k, rfl⟩ : ∃ m, k = m + 1 := ⟨k - 1, by omega⟩
    rw [tabulariumlaw10_numbers.l0, if_neg (by omega), List.drop_eq_nil_of_le (by omega), List.drop_eq_nil_of_le (by omega)]
    simp
  | succ d ih =>
    intro i k hd hi hk
    obtain ⟨k, rfl⟩ : ∃ m, k = m + 1 := ⟨k - 1, by omega⟩
    have h1 : i < a.length := by omega
    have h2 : i < b.length := by omega
    rw [tabulariumlaw10_numbers.l0, if_pos (by omega), if_pos (by omega), if_pos (by omega), rd_nat, rd_nat, dropI h1, dropI h2]
    by_cases e : a.getD i 0 = b.getD i 0
    · rw [if_pos e, show wrap64 ((i : Int) + 1) = ((i + 1 : Nat) : Int) by unfold wrap64; omega, ih (i + 1) k (by omega) (by omega) (by omega)]
      simp only [e, List.cons.injEq, true_and]
    · rw [if_neg e]
      simp only [List.cons.injEq, e, false_and, decide_false]
theorem numbers_at (a b : List Int) (hz : a.length ≤ maxLen) (k : Nat) (hk : a.length + 1 ≤ k) : tabulariumlaw10_numbers.f k a b = some (decide (a = b)) := by
  unfold tabulariumlaw10_numbers.f
  by_cases h : a.length = b.length
  · rw [if_pos (by omega)]
    exact numbers_loop a b h hz a.length 0 k (by omega) (by omega) hk
  · rw [if_neg (by omega)]
    have : a ≠ b := fun e => h (by rw [e])
    simp [this]
theorem same_at (k1 : Int) (p1 t1 : ByteArray) (c1 q1 n1 : Int) (l1 : List Int) (k2 : Int) (p2 t2 : ByteArray) (c2 q2 n2 : Int) (l2 : List Int) (hz : l1.length ≤ maxLen) (K : Nat) (hK : l1.length + 1 ≤ K) :
    tabulariumlaw10_same.f K k1 p1 t1 c1 q1 n1 l1 k2 p2 t2 c2 q2 n2 l2 = some (decide ((⟨k1, p1, t1, c1, q1, n1, l1⟩ : Ed) = ⟨k2, p2, t2, c2, q2, n2, l2⟩)) := by
  have hd : ∀ {p : Prop} [Decidable p], ¬ p → some false = some (decide p) := fun h => by rw [decide_eq_false h]
  unfold tabulariumlaw10_same.f
  rw [numbers_at l1 l2 hz K hK, Option.bind_some]
  by_cases e : l1 = l2
  · rw [if_pos (decide_eq_true e)]
    by_cases a1 : k1 = k2
    · rw [if_pos a1]
      by_cases a2 : p1 = p2
      · rw [if_pos (by rw [a2])]
        by_cases a3 : t1 = t2
        · rw [if_pos (by rw [a3])]
          by_cases a4 : c1 = c2
          · rw [if_pos a4]
            by_cases a5 : q1 = q2
            · rw [if_pos a5]
              subst e a1 a2 a3 a4 a5
              by_cases a6 : n1 = n2
              · subst a6; simp
              · rw [show (n1 == n2) = false by simpa using a6]; exact hd (fun h => a6 (congrArg Ed.n h))
            · rw [if_neg a5]; exact hd (fun h => a5 (congrArg Ed.q h))
          · rw [if_neg a4]; exact hd (fun h => a4 (congrArg Ed.c h))
        · rw [if_neg (fun h => a3 (toList_inj h))]; exact hd (fun h => a3 (congrArg Ed.t h))
      · rw [if_neg (fun h => a2 (toList_inj h))]; exact hd (fun h => a2 (congrArg Ed.p h))
    · rw [if_neg a1]; exact hd (fun h => a1 (congrArg Ed.k h))
  · rw [if_neg (by simpa using e)]; exact hd (fun h => e (congrArg Ed.l h))

end Go.Proofs.Ytecjdchjaoimfaa.Sp
