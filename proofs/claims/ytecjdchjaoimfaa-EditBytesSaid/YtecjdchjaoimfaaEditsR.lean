/- What the reference of package edit writes and reads. -/
import Derived.Test.YtecjdchjaoimfaaEdits
import Derived.Test.YtecjdchjaoimfaaPx12
import Derived.Test.YtecjdchjaoimfaaPx15
namespace Go.Proofs.Ytecjdchjaoimfaa.Sp
open Go.RowKit Go.Proofs.Ytecjdchjaoimfaa.P Go.Proofs.YtecjdchjaoimfaaW.PrintWords Go.Proofs.YtecjdchjaoimfaaW.PrintLast Go.Proofs.YtecjdchjaoimfaaW.PrintMore
set_option linter.unusedVariables false

theorem ref_right_loop (kk : Int) (p t : ByteArray) (c q n : Int) (l : List Int) (hn : l.length ≤ 1000) : ∀ (d i k : Nat), l.length - i = d → i ≤ l.length → d + 1 ≤ k →
    tabulariumref10_Right.l0 k (i : Int) kk p t c q n l = some (!((l.drop i).any isOdd)) := by
  intro d
  induction d with
  | zero =>
    intro i k hd hi hk
    obtain ⟨k, rfl⟩ : ∃ m, k = m + 1 := ⟨k - 1, by omega⟩
    rw [tabulariumref10_Right.l0, if_neg (by omega), List.drop_eq_nil_of_le (by omega)]
    rfl
  | succ d ih =>
    intro i k hd hi hk
    obtain ⟨k, rfl⟩ : ∃ m, k = m + 1 := ⟨k - 1, by omega⟩
    have hlt : i < l.length := by omega
    rw [tabulariumref10_Right.l0, if_pos (by omega), if_pos (by omega), rd_nat, dropI hlt, List.any_cons]
    unfold isOdd
    by_cases c1 : l.getD i 0 < 0
    · rw [if_pos c1, decide_eq_false (by omega)]; rfl
    · rw [if_neg c1]
      by_cases c2 : l.getD i 0 > 9007199254740991
      · rw [if_pos c2, decide_eq_false (by omega)]; rfl
      · rw [if_neg c2, decide_eq_true (by omega), show wrap64 ((i : Int) + 1) = ((i + 1 : Nat) : Int) by unfold wrap64; omega, ih (i + 1) k (by omega) (by omega) (by omega)]
        unfold isOdd
        rfl
theorem ref_right_j4 (k : Int) (p t : ByteArray) (c q n : Int) (l : List Int) (b : Bool) (K : Nat) (hK : 20 ≤ K)
    (h : (b = false ∧ ((∀ x ∈ l, 0 ≤ x ∧ x ≤ 9007199254740991) → RightP k p t c q n l)) ∧ l.length ≤ 8 ∨ b = true ∧ ¬ RightP k p t c q n l) :
    tabulariumref10_Right.j4 K b k p t c q n l = some (rightB k p t c q n l) := by
  obtain ⟨K, rfl⟩ : ∃ m, K = m + 1 := ⟨K - 1, by omega⟩
  rw [tabulariumref10_Right.j4]
  rcases h with ⟨⟨rfl, h⟩, h8⟩ | ⟨rfl, h⟩
  · rw [if_neg (by decide)]
    have := ref_right_loop k p t c q n l (by omega) l.length 0 K (by omega) (by omega) (by omega)
    rw [List.drop_zero] at this
    refine this.trans ?_
    congr 1
    by_cases e : l.any isOdd = false
    · rw [e, (right_iff ..).2 (h ((any_odd l).1 e))]; rfl
    · rw [not_right (fun hr => e ((any_odd l).2 hr.all))]
      simp at e
      simpa using e
  · rw [if_pos rfl, not_right h]
theorem ref_right_j3 (k : Int) (p t : ByteArray) (c q n : Int) (l : List Int) (b : Bool) (K : Nat) (hK : 21 ≤ K)
    (h : (b = false ∧ (l.length ≤ 8 → (k = 5 ∨ k = 6 ∨ l.length = 0) → (∀ x ∈ l, 0 ≤ x ∧ x ≤ 9007199254740991) → RightP k p t c q n l)) ∨ b = true ∧ ¬ RightP k p t c q n l) :
    tabulariumref10_Right.j3 K b k p t c q n l = some (rightB k p t c q n l) := by
  obtain ⟨K, rfl⟩ : ∃ m, K = m + 1 := ⟨K - 1, by omega⟩
  rw [tabulariumref10_Right.j3]
  rcases h with ⟨rfl, h⟩ | ⟨rfl, h⟩
  · rw [if_neg (by decide)]
    by_cases c1 : (l.length : Int) > 8
    · rw [if_pos c1]; exact ref_right_j4 _ _ _ _ _ _ _ _ K (by omega) (.inr ⟨rfl, fun hr => by have := hr.len; omega⟩)
    · rw [if_neg c1]
      by_cases c2 : (l.length : Int) > 0
      · rw [if_pos c2]
        by_cases c3 : k = 5
        · rw [if_pos c3]; exact ref_right_j4 _ _ _ _ _ _ _ _ K (by omega) (.inl ⟨⟨rfl, h (by omega) (.inl c3)⟩, by omega⟩)
        · rw [if_neg c3]
          by_cases c4 : k = 6
          · rw [show (k != 6) = false by simp [c4]]; exact ref_right_j4 _ _ _ _ _ _ _ _ K (by omega) (.inl ⟨⟨rfl, h (by omega) (.inr (.inl c4))⟩, by omega⟩)
          · rw [show (k != 6) = true by simp [c4]]; exact ref_right_j4 _ _ _ _ _ _ _ _ K (by omega) (.inr ⟨rfl, fun hr => by have := hr.lens; omega⟩)
      · rw [if_neg c2]; exact ref_right_j4 _ _ _ _ _ _ _ _ K (by omega) (.inl ⟨⟨rfl, h (by omega) (.inr (.inr (by omega)))⟩, by omega⟩)
  · rw [if_pos rfl, not_right h]
theorem ref_right_j2 (lo hi k : Int) (p t : ByteArray) (c q n : Int) (l : List Int) (K : Nat) (hK : 22 ≤ K) (hlo : lo = rLeast k) (hhi : hi = rMost k)
    (h : rLeast k ≤ n ∧ n ≤ rMost k → l.length ≤ 8 → (k = 5 ∨ k = 6 ∨ l.length = 0) → (∀ x ∈ l, 0 ≤ x ∧ x ≤ 9007199254740991) → RightP k p t c q n l) :
    tabulariumref10_Right.j2 K lo hi k p t c q n l = some (rightB k p t c q n l) := by
  obtain ⟨K, rfl⟩ : ∃ m, K = m + 1 := ⟨K - 1, by omega⟩
  subst hlo; subst hhi
  rw [tabulariumref10_Right.j2]
  by_cases c1 : n < rLeast k
  · rw [if_pos c1]; exact ref_right_j3 _ _ _ _ _ _ _ _ K (by omega) (.inr ⟨rfl, fun hr => by have := hr.n; omega⟩)
  · rw [if_neg c1]
    by_cases c2 : n > rMost k
    · rw [decide_eq_true c2]; exact ref_right_j3 _ _ _ _ _ _ _ _ K (by omega) (.inr ⟨rfl, fun hr => by have := hr.n; omega⟩)
    · rw [decide_eq_false c2]; exact ref_right_j3 _ _ _ _ _ _ _ _ K (by omega) (.inl ⟨rfl, h ⟨by omega, by omega⟩⟩)
theorem ref_right_j1 (k : Int) (p t : ByteArray) (c q n : Int) (l : List Int) (b : Bool) (K : Nat) (hK : 23 ≤ K)
    (h : (b = false ∧ (rLeast k ≤ n ∧ n ≤ rMost k → l.length ≤ 8 → (k = 5 ∨ k = 6 ∨ l.length = 0) → (∀ x ∈ l, 0 ≤ x ∧ x ≤ 9007199254740991) → RightP k p t c q n l)) ∨ b = true ∧ ¬ RightP k p t c q n l) :
    tabulariumref10_Right.j1 K b k p t c q n l = some (rightB k p t c q n l) := by
  obtain ⟨K, rfl⟩ : ∃ m, K = m + 1 := ⟨K - 1, by omega⟩
  rw [tabulariumref10_Right.j1]
  rcases h with ⟨rfl, h⟩ | ⟨rfl, h⟩
  · rw [if_neg (by decide)]
    by_cases c7 : k = 7
    · rw [if_pos c7]; exact ref_right_j2 _ _ _ _ _ _ _ _ _ K (by omega) (by simp [rLeast, c7]) (by simp [rMost, c7]) h
    · rw [if_neg c7]
      by_cases c8 : k = 8
      · rw [if_pos c8]; exact ref_right_j2 _ _ _ _ _ _ _ _ _ K (by omega) (by simp [rLeast, c7]) (by simp [rMost, c8]) h
      · rw [if_neg c8]
        by_cases c9 : k = 9
        · rw [if_pos c9]; exact ref_right_j2 _ _ _ _ _ _ _ _ _ K (by omega) (by simp [rLeast, c7]) (by simp [rMost, c9]) h
        · rw [if_neg c9]; exact ref_right_j2 _ _ _ _ _ _ _ _ _ K (by omega) (by simp [rLeast, c7]) (by simp [rMost, c7, c8, c9]) h
  · rw [if_pos rfl, not_right h]
theorem ref_right_j0 (k : Int) (p t : ByteArray) (c q n : Int) (l : List Int) (b : Bool) (K : Nat) (hK : 24 ≤ K)
    (h : (b = false ∧ (1 ≤ k ∧ k ≤ 10) ∧ p.size ≤ 120 ∧ (0 ≤ c ∧ c ≤ 3) ∧ (0 ≤ q ∧ q ≤ 9007199254740991)) ∨ b = true ∧ ¬ RightP k p t c q n l) :
    tabulariumref10_Right.j0 K b k p t c q n l = some (rightB k p t c q n l) := by
  obtain ⟨K, rfl⟩ : ∃ m, K = m + 1 := ⟨K - 1, by omega⟩
  rw [tabulariumref10_Right.j0]
  rcases h with ⟨rfl, h1, h2, h3, h4⟩ | ⟨rfl, h⟩
  · rw [if_neg (by decide)]
    by_cases c1 : (t.size : Int) > 120
    · rw [if_pos c1]; exact ref_right_j1 _ _ _ _ _ _ _ _ K (by omega) (.inr ⟨rfl, fun hr => by have := hr.dest; omega⟩)
    · rw [if_neg c1]
      by_cases c4 : k = 4
      · rw [if_pos c4]; exact ref_right_j1 _ _ _ _ _ _ _ _ K (by omega) (.inl ⟨rfl, fun h5 h6 h7 h8 => ⟨h1, h2, by omega, .inl c4, h3, h4, h5, h6, h7, h8⟩⟩)
      · rw [if_neg c4]
        by_cases e : t.toList = ([] : List UInt8)
        · rw [show (t.toList != ([] : List UInt8)) = false by simp [e]]; exact ref_right_j1 _ _ _ _ _ _ _ _ K (by omega) (.inl ⟨rfl, fun h5 h6 h7 h8 => ⟨h1, h2, by omega, .inr e, h3, h4, h5, h6, h7, h8⟩⟩)
        · rw [show (t.toList != ([] : List UInt8)) = true by simp [e]]; exact ref_right_j1 _ _ _ _ _ _ _ _ K (by omega) (.inr ⟨rfl, fun hr => by have := hr.rename; simp_all⟩)
  · rw [if_pos rfl, not_right h]
theorem ref_right_at (k : Int) (p t : ByteArray) (c q n : Int) (l : List Int) (K : Nat) (hK : 24 ≤ K) : tabulariumref10_Right.f K k p t c q n l = some (rightB k p t c q n l) := by
  unfold tabulariumref10_Right.f
  by_cases c1 : k < 1
  · rw [if_pos c1]; exact ref_right_j0 _ _ _ _ _ _ _ _ K hK (.inr ⟨rfl, fun hr => by have := hr.kind; omega⟩)
  rw [if_neg c1]
  by_cases c2 : k > 10
  · rw [if_pos c2]; exact ref_right_j0 _ _ _ _ _ _ _ _ K hK (.inr ⟨rfl, fun hr => by have := hr.kind; omega⟩)
  rw [if_neg c2]
  by_cases c3 : (p.size : Int) > 120
  · rw [if_pos c3]; exact ref_right_j0 _ _ _ _ _ _ _ _ K hK (.inr ⟨rfl, fun hr => by have := hr.path; omega⟩)
  rw [if_neg c3]
  by_cases c4 : c < 0
  · rw [if_pos c4]; exact ref_right_j0 _ _ _ _ _ _ _ _ K hK (.inr ⟨rfl, fun hr => by have := hr.cl; omega⟩)
  rw [if_neg c4]
  by_cases c5 : c ≥ 4
  · rw [if_pos c5]; exact ref_right_j0 _ _ _ _ _ _ _ _ K hK (.inr ⟨rfl, fun hr => by have := hr.cl; omega⟩)
  rw [if_neg c5]
  by_cases c6 : q < 0
  · rw [if_pos c6]; exact ref_right_j0 _ _ _ _ _ _ _ _ K hK (.inr ⟨rfl, fun hr => by have := hr.call; omega⟩)
  rw [if_neg c6]
  by_cases c7 : q > 9007199254740991
  · rw [decide_eq_true c7]; exact ref_right_j0 _ _ _ _ _ _ _ _ K hK (.inr ⟨rfl, fun hr => by have := hr.call; omega⟩)
  · rw [decide_eq_false c7]; exact ref_right_j0 _ _ _ _ _ _ _ _ K hK (.inl ⟨rfl, ⟨by omega, by omega⟩, by omega, ⟨by omega, by omega⟩, by omega, by omega⟩)

def encR (k : Int) (p t : ByteArray) (c q n : Int) (l : List Int) : ByteArray × Bool := if rightB k p t c q n l = true then (encB k p t c q n l, true) else (⟨#[]⟩, false)
theorem ref_enc_loop (a : Int) (p t : ByteArray) (c q n : Int) (l : List Int) (hl : ∀ x ∈ l, I64 x) (hn : l.length ≤ 1000) : ∀ (d i k : Nat) (acc : ByteArray), l.length - i = d → i ≤ l.length → acc.size + d * 10 ≤ 140737488355328 → d + 12 ≤ k →
    tabulariumref10_Encode.l0 k acc (i : Int) a p t c q n l = some (acc ++ ncat (l.drop i), true) := by
  intro d
  induction d with
  | zero =>
    intro i k acc hd hi hs hk
    obtain ⟨k, rfl⟩ : ∃ m, k = m + 1 := ⟨k - 1, by omega⟩
    rw [tabulariumref10_Encode.l0, if_neg (by omega), List.drop_eq_nil_of_le (by omega), ncat, append_nil]
  | succ d ih =>
    intro i k acc hd hi hs hk
    obtain ⟨k, rfl⟩ : ∃ m, k = m + 1 := ⟨k - 1, by omega⟩
    have hlt : i < l.length := by omega
    have hm := hl _ (getD_mem hlt)
    have hz := num_size_le hm
    rw [tabulariumref10_Encode.l0, if_pos (by omega), if_pos (by omega), rd_nat, ref_num_at hm k (by omega)]
    simp only [Option.bind_some]
    rw [if_pos (by omega), show wrap64 ((i : Int) + 1) = ((i + 1 : Nat) : Int) by unfold wrap64; omega, ih (i + 1) k _ (by omega) (by omega) (by rw [ByteArray.size_append]; omega) (by omega), dropI hlt, ncat, append_assoc3]
theorem ref_enc_at (k : Int) (p t : ByteArray) (c q n : Int) (l : List Int) (K : Nat) (hK : 40 ≤ K) : tabulariumref10_Encode.f K k p t c q n l = some (encR k p t c q n l) := by
  unfold tabulariumref10_Encode.f encR
  rw [ref_right_at _ _ _ _ _ _ _ K (by omega), Option.bind_some]
  by_cases e : rightB k p t c q n l = true
  · have h := (right_iff ..).1 e
    obtain ⟨w1, w2, w3, w4, w5, w6⟩ := h.wide
    have hp := h.path; have ht := h.dest; have hl := h.len
    have z1 := num_size_le w1; have z2 := num_size_le w2; have z3 := num_size_le w3; have z4 := num_size_le w4; have z5 := num_size_le w5
    have z6 := textOf_size hp; have z7 := textOf_size ht; have z8 := ncat_size w6
    rw [if_pos e, if_pos e, ref_text_at p (by omega) K (by omega), ref_text_at t (by omega) K (by omega)]
    unfold textR
    rw [text_of (by omega), text_of (by omega), ref_num_at w1 K (by omega), ref_num_at w2 K (by omega), ref_num_at w3 K (by omega), ref_num_at w4 K (by omega), ref_num_at w5 K (by omega)]
    simp only [Option.bind_some]
    have hloop := fun acc h1 => ref_enc_loop k p t c q n l w6 (by omega) l.length 0 K acc (by omega) (by omega) h1 (by omega)
    rw [List.drop_zero] at hloop
    simp only [ByteArray.size_append]
    rw [if_pos (by omega), if_pos (by omega), if_pos (by omega), if_pos (by omega), if_pos (by omega), if_pos (by omega)]
    refine (hloop _ (by simp only [ByteArray.size_append]; omega)).trans ?_
    unfold encB
    simp only [append_assoc3]
  · rw [if_neg e, if_neg e]

def decR : Option Ed → Int × ByteArray × ByteArray × Int × Int × Int × List Int × Bool
  | none => (0, ⟨#[]⟩, ⟨#[]⟩, 0, 0, 0, [], false)
  | some e => (e.k, e.p, e.t, e.c, e.q, e.n, e.l, true)

def decEnd (k : Int) (p t : ByteArray) (c q n : Int) (l : List Int) : Option (List Int × ByteArray) → Option Ed
  | none => none
  | some (s, r) => if r.size = 0 ∧ rightB k p t c q n (l ++ s) = true then some ⟨k, p, t, c, q, n, l ++ s⟩ else none
theorem ref_dec_loop (m : Nat) (hm : m ≤ 8) (a : Int) (p t : ByteArray) (c q n : Int) : ∀ (d i k : Nat) (r : ByteArray) (l : List Int), r.size ≤ 140737488351232 → m - i = d → i ≤ m → l.length + d ≤ 100 → d + 70 ≤ k →
    tabulariumref10_Decode.l0 k r (m : Int) (i : Int) a p t c q n l = some (decR (decEnd a p t c q n l (unums d r))) := by
  intro d
  induction d with
  | zero =>
    intro i k r l hr hd hi hl hk
    obtain ⟨k, rfl⟩ : ∃ m, k = m + 1 := ⟨k - 1, by omega⟩
    rw [tabulariumref10_Decode.l0, if_neg (by omega), ref_right_at _ _ _ _ _ _ _ k (by omega), Option.bind_some, unums]
    simp only [decEnd, List.append_nil]
    by_cases c1 : rightB a p t c q n l = true
    · rw [if_pos c1]
      by_cases c2 : r.size = 0
      · rw [if_pos ((empty_iff r).2 c2), if_pos ⟨c2, c1⟩]; rfl
      · rw [if_neg (fun h => c2 ((empty_iff r).1 h)), if_neg (fun h => c2 h.1)]; rfl
    · rw [if_neg c1, if_neg (fun h => c1 h.2)]; rfl
  | succ d ih =>
    intro i k r l hr hd hi hl hk
    obtain ⟨k, rfl⟩ : ∃ m, k = m + 1 := ⟨k - 1, by omega⟩
    rw [tabulariumref10_Decode.l0, if_pos (by omega), ref_take_at r hr k (by omega)]
    simp only [Option.bind_some]
    unfold tnumB unums
    cases e : tnum r with
    | none => simp [decEnd, decR]
    | some x =>
      obtain ⟨v, r2⟩ := x
      simp only
      rw [if_pos trivial, if_pos (by omega), show wrap64 ((i : Int) + 1) = ((i + 1 : Nat) : Int) by unfold wrap64; omega, ih (i + 1) k r2 (l ++ [v]) (by have := tnum_rest e; omega) (by omega) (by omega) (by rw [List.length_append]; simp; omega) (by omega)]
      cases e2 : unums d r2 with
      | none => rfl
      | some s =>
        obtain ⟨s, r3⟩ := s
        simp only [decEnd, List.append_assoc, List.singleton_append]
theorem ref_dec_j0 (k : Int) (p t : ByteArray) (c q n m : Int) (b : ByteArray) (f : Bool) (K : Nat) (hK : 100 ≤ K) (hb : b.size ≤ 140737488351232) (hf : f = decide (m < 0 ∨ 8 < m)) :
    tabulariumref10_Decode.j0 K k b p t c q n m f = some (decR (dec8 k p t c q n m b)) := by
  subst hf
  obtain ⟨K, rfl⟩ : ∃ m, K = m + 1 := ⟨K - 1, by omega⟩
  rw [tabulariumref10_Decode.j0]
  unfold dec8
  by_cases c1 : m < 0 ∨ 8 < m
  · rw [if_pos (decide_eq_true c1), if_pos c1]; rfl
  · rw [if_neg (by simpa using c1), if_neg c1]
    have h := ref_dec_loop m.toNat (by omega) k p t c q n m.toNat 0 K b [] hb (by omega) (by omega) (by simp; omega) (by omega)
    rw [show ((m.toNat : Nat) : Int) = m by omega, show ((0 : Nat) : Int) = 0 from rfl] at h
    rw [h]
    cases e : unums m.toNat b with
    | none => rfl
    | some s => obtain ⟨s, r⟩ := s; simp only [decEnd, List.nil_append]
theorem ref_dec_no (k : Int) (p t : ByteArray) (c q n m : Int) (b : ByteArray) (K : Nat) (hK : 100 ≤ K) : tabulariumref10_Decode.j0 K k b p t c q n m true = some (decR none) := by
  obtain ⟨K, rfl⟩ : ∃ m, K = m + 1 := ⟨K - 1, by omega⟩
  rw [tabulariumref10_Decode.j0, if_pos rfl]; rfl
theorem ref_dec_at (b : ByteArray) (hb : b.size ≤ 140737488351232) (K : Nat) (hK : 100 ≤ K) : tabulariumref10_Decode.f K b = some (decR (dec b)) := by
  have hz : (⟨#[]⟩ : ByteArray).size ≤ 140737488351232 := by decide
  have no := fun k p t c q n m b => ref_dec_no k p t c q n m b K hK
  have zt : ∀ b, b.size ≤ 140737488351232 → (tnumB b).2.1.size ≤ 140737488351232 := by intro b hb; unfold tnumB; split <;> first | exact hz | (rename_i h; have := tnum_rest h; simp only; omega)
  have zx : ∀ b, b.size ≤ 140737488351232 → (ttextR b).2.1.size ≤ 140737488351232 := by intro b hb; unfold ttextR; split <;> first | exact hz | (rename_i h; have := ttext_rest h; simp only; omega)
  unfold tabulariumref10_Decode.f dec
  rw [ref_take_at b hb K (by omega)]; simp only [Option.bind_some]; unfold tnumB
  cases e1 : tnum b with
  | none =>
    rw [ref_ttext_at _ hz K (by omega)]; simp only [Option.bind_some]
    have z1 := zx _ hz
    rw [ref_ttext_at _ z1 K (by omega)]; simp only [Option.bind_some]
    have z2 := zx _ z1
    rw [ref_take_at _ z2 K (by omega)]; simp only [Option.bind_some]
    rw [ref_take_at _ (zt _ z2) K (by omega)]; simp only [Option.bind_some]
    rw [ref_take_at _ (zt _ (zt _ z2)) K (by omega)]; simp only [Option.bind_some]
    rw [ref_take_at _ (zt _ (zt _ (zt _ z2))) K (by omega)]; simp only [Option.bind_some]
    rw [if_neg (by decide)]
    exact no ..
  | some x1 =>
  obtain ⟨k, b1⟩ := x1
  have hb1 : b1.size ≤ 140737488351232 := Nat.le_trans (tnum_rest e1) hb
  simp only
  rw [ref_ttext_at b1 hb1 K (by omega)]; simp only [Option.bind_some]
  rw [ref_ttext_at _ (zx _ hb1) K (by omega)]; simp only [Option.bind_some]
  rw [ref_take_at _ (zx _ (zx _ hb1)) K (by omega)]; simp only [Option.bind_some]
  rw [ref_take_at _ (zt _ (zx _ (zx _ hb1))) K (by omega)]; simp only [Option.bind_some]
  rw [ref_take_at _ (zt _ (zt _ (zx _ (zx _ hb1)))) K (by omega)]; simp only [Option.bind_some]
  rw [ref_take_at _ (zt _ (zt _ (zt _ (zx _ (zx _ hb1))))) K (by omega)]; simp only [Option.bind_some]
  rw [if_pos trivial]
  unfold dec2
  cases e2 : ttext b1 with
  | none => rw [show ttextR b1 = (⟨#[]⟩, ⟨#[]⟩, false) by unfold ttextR; rw [e2]]; simp only; rw [if_neg (by decide)]; exact no ..
  | some x2 =>
  obtain ⟨p, b2⟩ := x2
  have hb2 : b2.size ≤ 140737488351232 := Nat.le_trans (ttext_rest e2) hb1
  rw [show ttextR b1 = (p, b2, true) by unfold ttextR; rw [e2]]; simp only; rw [if_pos trivial]
  unfold dec3
  cases e3 : ttext b2 with
  | none => rw [show ttextR b2 = (⟨#[]⟩, ⟨#[]⟩, false) by unfold ttextR; rw [e3]]; simp only; rw [if_neg (by decide)]; exact no ..
  | some x3 =>
  obtain ⟨t, b3⟩ := x3
  have hb3 : b3.size ≤ 140737488351232 := Nat.le_trans (ttext_rest e3) hb2
  rw [show ttextR b2 = (t, b3, true) by unfold ttextR; rw [e3]]; simp only; rw [if_pos trivial]
  unfold dec4
  cases e4 : tnum b3 with
  | none => rw [show tnumB b3 = (0, ⟨#[]⟩, false) by unfold tnumB; rw [e4]]; simp only; rw [if_neg (by decide)]; exact no ..
  | some x4 =>
  obtain ⟨c, b4⟩ := x4
  have hb4 : b4.size ≤ 140737488351232 := Nat.le_trans (tnum_rest e4) hb3
  rw [show tnumB b3 = (c, b4, true) by unfold tnumB; rw [e4]]; simp only; rw [if_pos trivial]
  unfold dec5
  cases e5 : tnum b4 with
  | none => rw [show tnumB b4 = (0, ⟨#[]⟩, false) by unfold tnumB; rw [e5]]; simp only; rw [if_neg (by decide)]; exact no ..
  | some x5 =>
  obtain ⟨q, b5⟩ := x5
  have hb5 : b5.size ≤ 140737488351232 := Nat.le_trans (tnum_rest e5) hb4
  rw [show tnumB b4 = (q, b5, true) by unfold tnumB; rw [e5]]; simp only; rw [if_pos trivial]
  unfold dec6
  cases e6 : tnum b5 with
  | none => rw [show tnumB b5 = (0, ⟨#[]⟩, false) by unfold tnumB; rw [e6]]; simp only; rw [if_neg (by decide)]; exact no ..
  | some x6 =>
  obtain ⟨n, b6⟩ := x6
  have hb6 : b6.size ≤ 140737488351232 := Nat.le_trans (tnum_rest e6) hb5
  rw [show tnumB b5 = (n, b6, true) by unfold tnumB; rw [e6]]; simp only; rw [if_pos trivial]
  unfold dec7
  cases e7 : tnum b6 with
  | none => rw [show tnumB b6 = (0, ⟨#[]⟩, false) by unfold tnumB; rw [e7]]; simp only; rw [if_neg (by decide)]; exact no ..
  | some x7 =>
  obtain ⟨m, b7⟩ := x7
  have hb7 : b7.size ≤ 140737488351232 := Nat.le_trans (tnum_rest e7) hb6
  rw [show tnumB b6 = (m, b7, true) by unfold tnumB; rw [e7]]; simp only; rw [if_pos trivial]
  by_cases c1 : m < 0
  · rw [if_pos c1]; exact ref_dec_j0 _ _ _ _ _ _ _ _ _ K hK hb7 (by simp [c1])
  · rw [if_neg c1]; exact ref_dec_j0 _ _ _ _ _ _ _ _ _ K hK hb7 (by simp [c1])


end Go.Proofs.Ytecjdchjaoimfaa.Sp
