/- Plain facts on CRC-32, over natural numbers: it is linear, each step can be turned back, and so four bytes side by side tell. No program in sight. -/
import Derived.Test.YtljllecpmllefaaSpA
import Derived.Laws.BitsAllLaws
import Derived.Test.YtljllecpmllefaaPx4
import Derived.Test.YtljllecpmllefaaPx15
import Derived.Test.YtljllecpmllefaaPx8
import Derived.Test.YtljllecpmllefaaPx5
import Derived.Test.YtljllecpmllefaaPx17
import Derived.Test.YtljllecpmllefaaPx26
import Derived.Test.YtljllecpmllefaaPx11
import Derived.KernelRfl
section

namespace Go.Proofs.Ytljllecpmllefaa.Crc
open Go.RowKit Go.Proofs.Ytljllecpmllefaa.Sp Go.Proofs.YtljllecpmllefaaW.PrintWords Go.Proofs.YtljllecpmllefaaW.PrintLast Go.Proofs.YtljllecpmllefaaW.PrintMore

def poly : Nat := 3988292384
def s1 (v : Nat) : Nat := if v % 2 = 1 then v / 2 ^^^ poly else v / 2
def sN : Nat → Nat → Nat
  | 0, v => v
  | n + 1, v => s1 (sN n v)

theorem poly_lt : poly < 2 ^ 32 := by decide

theorem s1_lt {v : Nat} (h : v < 2 ^ 32) : s1 v < 2 ^ 32 := by
  unfold s1
  split
  · exact Nat.xor_lt_two_pow (by omega) poly_lt
  · omega

theorem sN_lt (n : Nat) : ∀ {v : Nat}, v < 2 ^ 32 → sN n v < 2 ^ 32 := by
  induction n with
  | zero => intro v h; exact h
  | succ n ih => intro v h; exact s1_lt (ih h)

theorem sN_add (m n : Nat) (v : Nat) : sN (m + n) v = sN m (sN n v) := by
  induction m with
  | zero => rw [Nat.zero_add]; rfl
  | succ m ih => rw [Nat.succ_add]; show s1 (sN (m + n) v) = s1 (sN m (sN n v)); rw [ih]

theorem xor_half (a b : Nat) : (a ^^^ b) / 2 = a / 2 ^^^ b / 2 := by
  have := Nat.shiftRight_xor_distrib (a := a) (b := b) (i := 1)
  simpa [Nat.shiftRight_succ] using this

theorem xor_odd (a b : Nat) : (a ^^^ b) % 2 = (a + b) % 2 := by
  have h := Nat.testBit_xor a b 0
  simp only [Nat.testBit_zero] at h
  have h1 := Nat.mod_two_eq_zero_or_one a
  have h2 := Nat.mod_two_eq_zero_or_one b
  have h3 := Nat.mod_two_eq_zero_or_one (a ^^^ b)
  rcases h1 with h1 | h1 <;> rcases h2 with h2 | h2 <;> rcases h3 with h3 | h3 <;> simp [h1, h2, h3] at h <;> omega

theorem s1_xor (a b : Nat) : s1 (a ^^^ b) = s1 a ^^^ s1 b := by
  unfold s1
  rw [xor_odd, xor_half]
  have h1 := Nat.mod_two_eq_zero_or_one a
  have h2 := Nat.mod_two_eq_zero_or_one b
  rcases h1 with h1 | h1 <;> rcases h2 with h2 | h2
  · rw [if_neg (by omega), if_neg (by omega), if_neg (by omega)]
  · rw [if_pos (by omega), if_neg (by omega), if_pos (by omega), Nat.xor_assoc]
  · rw [if_pos (by omega), if_pos (by omega), if_neg (by omega), Nat.xor_assoc, Nat.xor_assoc, Nat.xor_comm poly]
  · rw [if_neg (by omega), if_pos (by omega), if_pos (by omega)]
    rw [Nat.xor_assoc, ← Nat.xor_assoc poly, Nat.xor_comm poly, Nat.xor_assoc (b / 2), Nat.xor_self, Nat.xor_zero]

theorem sN_xor (n a b : Nat) : sN n (a ^^^ b) = sN n a ^^^ sN n b := by
  induction n with
  | zero => rfl
  | succ n ih => show s1 (sN n (a ^^^ b)) = s1 (sN n a) ^^^ s1 (sN n b); rw [ih, s1_xor]

theorem s1_zero {v : Nat} (h : v < 2 ^ 32) (e : s1 v = 0) : v = 0 := by
  unfold s1 at e
  split at e
  · have : v / 2 = poly := by
      have h2 : (v / 2 ^^^ poly) ^^^ poly = poly := by rw [e, Nat.zero_xor]
      rw [Nat.xor_assoc, Nat.xor_self, Nat.xor_zero] at h2
      exact h2
    unfold poly at this
    omega
  · omega

theorem sN_zero (n : Nat) : ∀ {v : Nat}, v < 2 ^ 32 → sN n v = 0 → v = 0 := by
  induction n with
  | zero => intro v _ e; exact e
  | succ n ih => intro v h e; exact ih h (s1_zero (sN_lt n h) e)

theorem xor_eq_zero {a b : Nat} (h : a ^^^ b = 0) : a = b := by
  have : (a ^^^ b) ^^^ b = b := by rw [h, Nat.zero_xor]
  rw [Nat.xor_assoc, Nat.xor_self, Nat.xor_zero] at this
  exact this

theorem sN_inj (n : Nat) {a b : Nat} (ha : a < 2 ^ 32) (hb : b < 2 ^ 32) (h : sN n a = sN n b) : a = b := by
  refine xor_eq_zero (sN_zero n (Nat.xor_lt_two_pow ha hb) ?_)
  rw [sN_xor, h, Nat.xor_self]

theorem s1_double (m : Nat) : s1 (2 * m) = m := by unfold s1; rw [if_neg (by omega)]; omega

theorem sN_shift (n : Nat) : ∀ m, sN n (2 ^ n * m) = m := by
  induction n with
  | zero => intro m; show 2 ^ 0 * m = m; omega
  | succ n ih =>
    intro m
    show s1 (sN n (2 ^ (n + 1) * m)) = m
    rw [Nat.pow_succ, Nat.mul_assoc, ih, s1_double]

/-- a byte -/
def step (v c : Nat) : Nat := sN 8 (v ^^^ c)
theorem step_lt {v c : Nat} (h : v < 2 ^ 32) (hc : c < 256) : step v c < 2 ^ 32 := sN_lt 8 (Nat.xor_lt_two_pow h (by omega))
theorem step_inj {a b c : Nat} (ha : a < 2 ^ 32) (hb : b < 2 ^ 32) (hc : c < 256) (h : step a c = step b c) : a = b := by
  have := sN_inj 8 (Nat.xor_lt_two_pow ha (by omega)) (Nat.xor_lt_two_pow hb (by omega)) h
  refine xor_eq_zero ?_
  have h2 : (a ^^^ c) ^^^ (b ^^^ c) = 0 := by rw [this, Nat.xor_self]
  rwa [Nat.xor_comm b c, Nat.xor_assoc, ← Nat.xor_assoc c c, Nat.xor_self, Nat.zero_xor] at h2

/-- some bytes -/
def run (v : Nat) (l : List Nat) : Nat := l.foldl step v
theorem run_append (v : Nat) (l m : List Nat) : run v (l ++ m) = run (run v l) m := by unfold run; rw [List.foldl_append]
theorem run_lt (l : List Nat) : ∀ {v : Nat}, v < 2 ^ 32 → (∀ c ∈ l, c < 256) → run v l < 2 ^ 32 := by
  induction l with
  | nil => intro v h _; exact h
  | cons c l ih => intro v h hl; exact ih (step_lt h (hl c List.mem_cons_self)) (fun d hd => hl d (List.mem_cons_of_mem _ hd))
theorem run_inj (l : List Nat) : ∀ {a b : Nat}, a < 2 ^ 32 → b < 2 ^ 32 → (∀ c ∈ l, c < 256) → run a l = run b l → a = b := by
  induction l with
  | nil => intro a b _ _ _ h; exact h
  | cons c l ih =>
    intro a b ha hb hl h
    have hc := hl c List.mem_cons_self
    exact step_inj ha hb hc (ih (step_lt ha hc) (step_lt hb hc) (fun d hd => hl d (List.mem_cons_of_mem _ hd)) h)

/-- bytes as one number, the first the lowest -/
def word : List Nat → Nat
  | [] => 0
  | c :: l => c + 256 * word l

theorem word_lt (l : List Nat) (h : ∀ c ∈ l, c < 256) : word l < 256 ^ l.length := by
  induction l with
  | nil => simp [word]
  | cons c l ih =>
    have h1 := ih (fun d hd => h d (List.mem_cons_of_mem _ hd))
    have h2 := h c List.mem_cons_self
    rw [word, List.length_cons, Nat.pow_succ]
    omega

theorem word_inj : ∀ (l m : List Nat), l.length = m.length → (∀ c ∈ l, c < 256) → (∀ c ∈ m, c < 256) → word l = word m → l = m := by
  intro l
  induction l with
  | nil => intro m h _ _ _; cases m with | nil => rfl | cons => simp at h
  | cons c l ih =>
    intro m h hl hm e
    cases m with
    | nil => simp at h
    | cons d m =>
      have h1 := hl c List.mem_cons_self
      have h2 := hm d List.mem_cons_self
      rw [word, word] at e
      have e1 : c = d := by omega
      have e2 : word l = word m := by omega
      rw [e1, ih m (by simpa using h) (fun d hd => hl d (List.mem_cons_of_mem _ hd)) (fun d hd => hm d (List.mem_cons_of_mem _ hd)) e2]

theorem low_xor {c m : Nat} (hc : c < 256) : c ^^^ 256 * m = c + 256 * m := by
  have h := Nat.two_pow_add_eq_or_of_lt (i := 8) (b := c) (by omega) m
  have h2 : 2 ^ 8 * m ||| c = 2 ^ 8 * m ^^^ c := by
    apply Nat.eq_of_testBit_eq
    intro j
    rw [Nat.testBit_or, Nat.testBit_xor]
    by_cases hj : j < 8
    · have : (2 ^ 8 * m).testBit j = false := by rw [Nat.testBit_two_pow_mul]; simp; omega
      rw [this]; simp
    · have : c.testBit j = false := Nat.testBit_lt_two_pow (Nat.lt_of_lt_of_le (by omega : c < 2 ^ 8) (Nat.pow_le_pow_right (by omega) (by omega)))
      rw [this]; simp
  rw [Nat.xor_comm]
  show 2 ^ 8 * m ^^^ c = _
  rw [← h2, ← h]
  omega

theorem run_word : ∀ (l : List Nat) (v : Nat), (∀ c ∈ l, c < 256) → run v l = sN (8 * l.length) (v ^^^ word l) := by
  intro l
  induction l with
  | nil => intro v _; rw [word, Nat.xor_zero]; rfl
  | cons c l ih =>
    intro v h
    have h1 := h c List.mem_cons_self
    have hl : ∀ d ∈ l, d < 256 := fun d hd => h d (List.mem_cons_of_mem _ hd)
    show run (step v c) l = _
    rw [ih _ hl, word, List.length_cons, Nat.mul_add, Nat.mul_one, sN_add]
    congr 1
    rw [← low_xor h1, ← Nat.xor_assoc, sN_xor]
    unfold step
    congr 1
    exact (sN_shift 8 (word l)).symm

/-- four bytes side by side tell -/
theorem burst (p l m q : List Nat) {v : Nat} (hv : v < 2 ^ 32) (hp : ∀ c ∈ p, c < 256) (hl : ∀ c ∈ l, c < 256) (hm : ∀ c ∈ m, c < 256) (hq : ∀ c ∈ q, c < 256) (hlen : l.length = m.length) (h4 : l.length ≤ 4)
    (h : run v (p ++ l ++ q) = run v (p ++ m ++ q)) : l = m := by
  rw [run_append, run_append, run_append, run_append] at h
  have hs := run_lt p hv hp
  have h1 := run_inj q (run_lt l hs hl) (run_lt m hs hm) hq h
  rw [run_word l _ hl, run_word m _ hm, hlen] at h1
  have w1 : word l < 2 ^ 32 := Nat.lt_of_lt_of_le (word_lt l hl) (by have := Nat.pow_le_pow_right (n := 256) (by omega) h4; omega)
  have w2 : word m < 2 ^ 32 := Nat.lt_of_lt_of_le (word_lt m hm) (by have := Nat.pow_le_pow_right (n := 256) (by omega) (hlen ▸ h4); omega)
  have h2 := sN_inj _ (Nat.xor_lt_two_pow hs w1) (Nat.xor_lt_two_pow hs w2) h1
  refine word_inj l m hlen hl hm (xor_eq_zero ?_)
  have h3 : (run v p ^^^ word l) ^^^ (run v p ^^^ word m) = 0 := by rw [h2, Nat.xor_self]
  rwa [Nat.xor_comm (run v p) (word l), Nat.xor_assoc, ← Nat.xor_assoc (run v p) (run v p), Nat.xor_self, Nat.zero_xor] at h3

/-- the sum of some bytes -/
def crc (l : List Nat) : Nat := run 4294967295 l ^^^ 4294967295
theorem crc_lt (l : List Nat) (h : ∀ c ∈ l, c < 256) : crc l < 2 ^ 32 := Nat.xor_lt_two_pow (run_lt l (by decide) h) (by decide)
theorem crc_burst (p l m q : List Nat) (hp : ∀ c ∈ p, c < 256) (hl : ∀ c ∈ l, c < 256) (hm : ∀ c ∈ m, c < 256) (hq : ∀ c ∈ q, c < 256) (hlen : l.length = m.length) (h4 : l.length ≤ 4)
    (h : crc (p ++ l ++ q) = crc (p ++ m ++ q)) : l = m := by
  refine burst p l m q (v := 4294967295) (by decide) hp hl hm hq hlen h4 ?_
  unfold crc at h
  have h2 : (run 4294967295 (p ++ l ++ q) ^^^ 4294967295) ^^^ 4294967295 = (run 4294967295 (p ++ m ++ q) ^^^ 4294967295) ^^^ 4294967295 := by rw [h]
  rwa [Nat.xor_assoc, Nat.xor_self, Nat.xor_zero, Nat.xor_assoc, Nat.xor_self, Nat.xor_zero] at h2

end Go.Proofs.Ytljllecpmllefaa.Crc
end

section

namespace Go.Proofs.Ytljllecpmllefaa.Sp
open Go.RowKit Go.Proofs.YtljllecpmllefaaW.PrintWords Go.Proofs.YtljllecpmllefaaW.PrintLast Go.Proofs.YtljllecpmllefaaW.PrintMore Go.Proofs.Ytljllecpmllefaa.P Go.Proofs.Ytljllecpmllefaa.Crc
set_option linter.unusedVariables false

/-- a text's bytes as natural numbers -/
def nb (s : ByteArray) : List Nat := s.data.toList.map UInt8.toNat
theorem nb_lt (s : ByteArray) : ∀ c ∈ nb s, c < 256 := by
  intro c hc
  obtain ⟨x, _, rfl⟩ := List.mem_map.1 hc
  exact x.toNat_lt
theorem nb_size (s : ByteArray) : (nb s).length = s.size := by unfold nb; rw [List.length_map, data_length]
theorem bytesOf_nb (s : ByteArray) : bytesOf s = (nb s).map (fun n : Nat => (n : Int)) := by unfold bytesOf nb; rw [List.map_map]; rfl
theorem nb_bytesOf (s : ByteArray) : nb s = (bytesOf s).map Int.toNat := by
  rw [bytesOf_nb, List.map_map]
  conv => lhs; rw [← List.map_id (nb s)]
  exact List.map_congr_left fun x _ => by simp
theorem nb_extract (s : ByteArray) (a b : Nat) : nb (s.extract a b) = ((nb s).drop a).take (b - a) := by
  unfold nb; rw [Lib.extract_data, List.map_take, List.map_drop]
theorem nb_append (a b : ByteArray) : nb (a ++ b) = nb a ++ nb b := by unfold nb; rw [ByteArray.data_append, Array.toList_append, List.map_append]
theorem nb_ext {a b : ByteArray} (h : nb a = nb b) : a = b := bytes_ext (by rw [bytesOf_nb, bytesOf_nb, h])
theorem bt_nb (s : ByteArray) (i : Nat) : bt s (i : Int) = (((nb s).getD i 0 : Nat) : Int) := by
  rw [bt_rd, bytesOf_nb, List.getD_eq_getElem?_getD, List.getD_eq_getElem?_getD, List.getElem?_map]
  cases (nb s)[i]? <;> rfl
theorem nb_nil : nb (⟨#[]⟩ : ByteArray) = [] := rfl

/-! ### the sum -/
theorem and_poly_neg (b : Nat) (h : b < 2) : (3988292384 &&& (if b = 1 then 4294967295 else 0)) = if b = 1 then 3988292384 else 0 := by
  have : b = 0 ∨ b = 1 := by omega
  rcases this with rfl | rfl <;> decide

theorem crc1_nat (v : Nat) (h : v < 2 ^ 32) : crc1 (v : Int) = ((s1 v : Nat) : Int) := by
  unfold crc1 s1
  have e1 : Go.bits .and .u32 (v : Int) 1 = ((v % 2 : Nat) : Int) := by
    have := u32_and_nat v 1 (by omega) (by omega)
    rw [Nat.and_one_is_mod] at this
    exact this
  rw [e1]
  by_cases c : v % 2 = 1
  · rw [if_pos c, c]
    have e2 : -((1 : Nat) : Int) % 4294967296 = ((4294967295 : Nat) : Int) := by decide
    have e3 : (3988292384 : Int) = ((3988292384 : Nat) : Int) := rfl
    have e4 : (v : Int) / 2 = ((v / 2 : Nat) : Int) := by omega
    rw [e2, e3, u32_and_nat _ _ (by omega) (by omega), e4, u32_xor_nat _ _ (by omega) (by decide)]
    rfl
  · have c0 : v % 2 = 0 := by omega
    rw [if_neg c, c0]
    have e2 : -((0 : Nat) : Int) % 4294967296 = ((0 : Nat) : Int) := by decide
    have e3 : (3988292384 : Int) = ((3988292384 : Nat) : Int) := rfl
    have e4 : (v : Int) / 2 = ((v / 2 : Nat) : Int) := by omega
    rw [e2, e3, u32_and_nat _ _ (by omega) (by omega), e4, u32_xor_nat _ _ (by omega) (by decide)]
    rw [Nat.and_zero, Nat.xor_zero]

theorem crcN_nat (n v : Nat) (h : v < 2 ^ 32) : crcN n (v : Int) = ((sN n v : Nat) : Int) := by
  induction n with
  | zero => rfl
  | succ n ih => rw [crcN, ih, crc1_nat _ (sN_lt n h)]; rfl

theorem crcByte_nat (v c : Nat) (h : v < 2 ^ 32) (hc : c < 256) : crcByte (v : Int) (c : Int) = ((Crc.step v c : Nat) : Int) := by
  unfold crcByte Crc.step
  have e : (c : Int) % 4294967296 = (c : Int) := by omega
  rw [e, u32_xor_nat v c (by omega) (by omega), crcN_nat 8 _ (Nat.xor_lt_two_pow h (by omega))]

theorem crc_fold : ∀ (l : List Nat) (v : Nat), v < 2 ^ 32 → (∀ c ∈ l, c < 256) → (l.map (fun n : Nat => (n : Int))).foldl crcByte (v : Int) = ((Crc.run v l : Nat) : Int) := by
  intro l
  induction l with
  | nil => intro v _ _; rfl
  | cons c l ih =>
    intro v h hl
    have hc := hl c List.mem_cons_self
    rw [List.map_cons, List.foldl_cons, crcByte_nat v c h hc, ih _ (step_lt h hc) (fun d hd => hl d (List.mem_cons_of_mem _ hd))]
    rfl

/-- the sum of a text -/
def csum (s : ByteArray) : Nat := crc (nb s)
theorem csum_lt (s : ByteArray) : csum s < 4294967296 := crc_lt _ (nb_lt s)

theorem sum_at (s : ByteArray) (h : s.size ≤ 140737488355328) : sum_Sum.f s = some ((csum s : Nat) : Int) := by
  unfold sum_Sum.f csum crc
  rw [if_pos h, bytesOf_nb]
  have := crc_fold (nb s) 4294967295 (by decide) (nb_lt s)
  rw [show ((4294967295 : Nat) : Int) = 4294967295 from rfl] at this
  rw [this]
  have h2 := u32_xor_nat 4294967295 (Crc.run 4294967295 (nb s)) (by decide) (run_lt _ (by decide) (nb_lt s))
  rw [show ((4294967295 : Nat) : Int) = 4294967295 from rfl] at h2
  rw [h2, Nat.xor_comm]

theorem ref_bit (v : Nat) (h : v < 2 ^ 32) (k : Nat) (s : ByteArray) (i j : Int) :
    (if (Int.tmod (v : Int) 2) = 1 then (tabulariumref02_Sum.l1 k s (Go.bits .xor .u32 ((Int.tdiv (v : Int) 2) % 4294967296) 3988292384) i j) else (tabulariumref02_Sum.l1 k s ((Int.tdiv (v : Int) 2) % 4294967296) i j)) = tabulariumref02_Sum.l1 k s ((s1 v : Nat) : Int) i j := by
  have e1 : Int.tmod (v : Int) 2 = ((v % 2 : Nat) : Int) := by rw [Int.tmod_eq_emod_of_nonneg (by omega)]; omega
  have e2 : Int.tdiv (v : Int) 2 % 4294967296 = ((v / 2 : Nat) : Int) := by rw [Int.tdiv_eq_ediv_of_nonneg (by omega)]; omega
  rw [e1, e2]
  unfold s1
  by_cases c : v % 2 = 1
  · rw [if_pos (by omega), if_pos c]
    have := u32_xor_nat (v / 2) 3988292384 (by omega) (by decide)
    rw [show ((3988292384 : Nat) : Int) = 3988292384 from rfl] at this
    rw [this]
    rfl
  · rw [if_neg (by omega), if_neg c]

theorem ref_bits (s : ByteArray) (i : Int) : ∀ (d m k v : Nat), 8 - m = d → m ≤ 8 → v < 2 ^ 32 →
    tabulariumref02_Sum.l1 (k + d + 1) s (v : Int) i (m : Int) = tabulariumref02_Sum.l0 k s ((sN d v : Nat) : Int) (wrap64 (i + 1)) := by
  intro d
  induction d with
  | zero =>
    intro m k v hd hm hv
    simp only [tabulariumref02_Sum.l1]
    rw [if_neg (by omega)]
    rfl
  | succ d ih =>
    intro m k v hd hm hv
    have e : wrap64 ((m : Int) + 1) = ((m + 1 : Nat) : Int) := by unfold wrap64; omega
    obtain ⟨q, hq⟩ : ∃ q, q = k + d + 1 := ⟨_, rfl⟩
    rw [show k + (d + 1) + 1 = q + 1 by omega]
    simp only [tabulariumref02_Sum.l1]
    rw [if_pos (by omega), ref_bit v hv, e, hq, ih (m + 1) k (s1 v) (by omega) (by omega) (s1_lt hv)]
    rw [show sN d (s1 v) = sN (d + 1) v from (sN_add d 1 v).symm]

theorem ref_sum_loop (s : ByteArray) (hs : s.size ≤ 140737488355328) : ∀ (d i k v : Nat), s.size - i = d → i ≤ s.size → v < 2 ^ 32 → 10 * d < k →
    tabulariumref02_Sum.l0 k s (v : Int) (i : Int) = some (((Crc.run v ((nb s).drop i) ^^^ 4294967295 : Nat) : Int)) := by
  intro d
  induction d with
  | zero =>
    intro i k v hd hi hv hk
    obtain ⟨k, rfl⟩ : ∃ m, k = m + 1 := ⟨k - 1, by omega⟩
    simp only [tabulariumref02_Sum.l0]
    rw [if_neg (by omega), List.drop_eq_nil_of_le (by rw [nb_size]; omega)]
    have := u32_xor_nat 4294967295 v (by decide) hv
    rw [show ((4294967295 : Nat) : Int) = 4294967295 from rfl] at this
    rw [this, Nat.xor_comm]
    rfl
  | succ d ih =>
    intro i k v hd hi hv hk
    obtain ⟨k, rfl⟩ : ∃ m, k = m + 8 + 1 + 1 := ⟨k - 10, by omega⟩
    have hlt : i < (nb s).length := by rw [nb_size]; omega
    have hc : (nb s).getD i 0 < 256 := by
      rw [List.getD_eq_getElem?_getD, List.getElem?_eq_getElem hlt]
      exact nb_lt s _ (List.getElem_mem hlt)
    have hdrop : (nb s).drop i = (nb s).getD i 0 :: (nb s).drop (i + 1) := by
      rw [List.drop_eq_getElem_cons hlt, List.getD_eq_getElem?_getD, List.getElem?_eq_getElem hlt]; rfl
    have e : wrap64 ((i : Int) + 1) = ((i + 1 : Nat) : Int) := by clear ih hdrop; unfold wrap64; omega
    have e2 : bt s (i : Int) % 4294967296 = (((nb s).getD i 0 : Nat) : Int) := by rw [bt_nb]; omega
    simp only [tabulariumref02_Sum.l0]
    rw [if_pos (by omega), if_pos (by omega), e2, u32_xor_nat _ _ (by omega) (by omega)]
    have := ref_bits s (i : Int) 8 0 k (v ^^^ (nb s).getD i 0) rfl (by omega) (Nat.xor_lt_two_pow hv (by omega))
    refine Eq.trans this ?_
    rw [e, ih (i + 1) k _ (by omega) (by omega) (sN_lt 8 (Nat.xor_lt_two_pow hv (by omega))) (by omega), hdrop]
    rfl

theorem ref_sum_at (s : ByteArray) (hs : s.size ≤ 140737488355328) (k : Nat) (hk : 10 * s.size < k) : tabulariumref02_Sum.f k s = some ((csum s : Nat) : Int) := by
  unfold tabulariumref02_Sum.f csum crc
  exact ref_sum_loop s hs s.size 0 k 4294967295 (by omega) (by omega) (by decide) hk

end Go.Proofs.Ytljllecpmllefaa.Sp
end

section

namespace Go.Proofs.Ytljllecpmllefaa.Sp
open Go.RowKit Go.Proofs.YtljllecpmllefaaW.PrintWords Go.Proofs.YtljllecpmllefaaW.PrintLast Go.Proofs.YtljllecpmllefaaW.PrintMore Go.Proofs.Ytljllecpmllefaa.P Go.Proofs.Ytljllecpmllefaa.Crc
set_option linter.unusedVariables false

/-- a sum's four bytes -/
def four (v : Nat) : ByteArray := strOfNums [(v : Int) / 16777216, (v : Int) / 65536 % 256, (v : Int) / 256 % 256, (v : Int) % 256]
theorem bytes_four {v : Nat} (h : v < 4294967296) : bytesOf (four v) = [(v : Int) / 16777216, (v : Int) / 65536 % 256, (v : Int) / 256 % 256, (v : Int) % 256] := by
  refine bytesOf_strOfNums ?_
  intro x hx
  simp only [List.mem_cons, List.not_mem_nil, or_false] at hx
  omega
theorem four_size (v : Nat) : (four v).size = 4 := by unfold four; rw [strOfNums_size]; rfl
theorem four_inj {a b : Nat} (ha : a < 4294967296) (hb : b < 4294967296) (h : four a = four b) : a = b := by
  have := congrArg bytesOf h
  rw [bytes_four ha, bytes_four hb] at this
  simp only [List.cons.injEq, and_true] at this
  omega
theorem four_at {v : Nat} (h : v < 4294967296) : sum_four.f (v : Int) = some (four v) := by
  unfold sum_four.f four
  rw [if_pos (by omega)]
theorem ref_four_at {v : Nat} (h : v < 4294967296) : tabulariumref02_Four.f (v : Int) = some (four v) := by
  unfold tabulariumref02_Four.f four
  have : (v : Int) / 16777216 % 256 = (v : Int) / 16777216 := by omega
  rw [this]

/-- a text with its sum -/
def seal_ (s : ByteArray) : Option ByteArray := match text s with | none => none | some t => some (t ++ four (csum s))
def sealW (s : ByteArray) : ByteArray × Int := match seal_ s with | none => (⟨#[]⟩, 4) | some b => (b, 0)
def sealR (s : ByteArray) : ByteArray × Bool := match seal_ s with | none => (⟨#[]⟩, false) | some b => (b, true)

theorem text_size {s t : ByteArray} (h : text s = some t) : s.size ≤ 4000 ∧ s.size + 1 ≤ t.size ∧ t.size ≤ s.size + 10 := by
  unfold text at h
  by_cases c : 4000 < s.size
  · rw [if_pos c] at h; cases h
  · rw [if_neg c] at h
    obtain rfl := Option.some.inj h
    have h1 := num_size_le (n := (s.size : Int)) (by omega)
    have h2 : 1 ≤ (num (s.size : Int)).size := by rw [num_size]; exact vbs_pos _
    rw [ByteArray.size_append]
    omega

theorem seal_at (s : ByteArray) (hs : s.size ≤ 140737488355328) (k : Nat) (hk : 10 ≤ k) : sum_Seal.f k s = some (sealW s) := by
  unfold sum_Seal.f sealW seal_
  rw [wire_text_at s hs k hk]
  rw [Option.bind_some]
  unfold textW
  cases e : text s with
  | none => simp
  | some t =>
    have hz := text_size e
    simp only
    rw [if_pos trivial, sum_at s hs]
    rw [Option.bind_some]
    rw [four_at (csum_lt s)]
    rw [Option.bind_some]
    rw [if_pos (by rw [four_size]; omega)]

theorem ref_seal_at (s : ByteArray) (hs : s.size ≤ 140737488355328) (k : Nat) (hk : 10 * s.size + 100 < k) : tabulariumref02_Seal.f k s = some (sealR s) := by
  unfold tabulariumref02_Seal.f sealR seal_
  rw [ref_text_at s hs k (by omega)]
  rw [Option.bind_some]
  unfold textR
  cases e : text s with
  | none => simp
  | some t =>
    have hz := text_size e
    simp only
    rw [if_pos trivial, ref_sum_at s hs k (by omega)]
    rw [Option.bind_some]
    rw [ref_four_at (csum_lt s)]
    rw [Option.bind_some]
    rw [if_pos (by rw [four_size]; omega)]

/-- what the bytes of a text with its sum tell: the text, the rest, the error -/
def topen (b : ByteArray) : ByteArray × ByteArray × Int := match ttext b with
  | none => (⟨#[]⟩, ⟨#[]⟩, 2)
  | some (s, r) => if r.size < 4 then (⟨#[]⟩, ⟨#[]⟩, 2) else if r.extract 0 4 = four (csum s) then (s, r.extract 4 r.size, 0) else (⟨#[]⟩, ⟨#[]⟩, 3)

theorem ttext_size {b s r : ByteArray} (h : ttext b = some (s, r)) : s.size ≤ 4000 ∧ r.size ≤ b.size := by
  obtain ⟨t, ht, rfl⟩ := ttext_back h
  have := text_size ht
  rw [ByteArray.size_append]
  omega

theorem open_at (b : ByteArray) (k : Nat) (hk : 30 ≤ k) : sum_Open.f k b = some (topen b) := by
  obtain ⟨k, rfl⟩ : ∃ m, k = m + 1 := ⟨k - 1, by omega⟩
  unfold sum_Open.f topen
  rw [wire_ttext_at b _ (by omega)]
  rw [Option.bind_some]
  unfold ttextW
  cases e : ttext b with
  | none =>
    simp only [sum_Open.j0]
    rw [if_neg (by decide)]
    rfl
  | some p =>
    obtain ⟨s, r⟩ := p
    have hz := ttext_size e
    simp only [sum_Open.j0]
    rw [if_pos trivial]
    by_cases c : r.size < 4
    · rw [if_pos c, decide_eq_true (by omega), if_pos rfl]
    · rw [if_neg c, decide_eq_false (by omega), if_neg (by decide), if_pos (by decide), if_pos (by omega), sum_at s (by omega)]
      rw [Option.bind_some]
      rw [four_at (csum_lt s)]
      rw [Option.bind_some]
      by_cases h : r.extract 0 4 = four (csum s)
      · rw [if_pos h, if_pos (by rw [h])]
      · rw [if_neg h, if_neg (fun h2 => h (toList_inj h2))]

theorem ref_open_at (b : ByteArray) (hb : b.size ≤ 140737488351232) (k : Nat) (hk : 40100 + 0 * b.size < k) : tabulariumref02_Open.f k b = some (topen b) := by
  obtain ⟨k, rfl⟩ : ∃ m, k = m + 1 := ⟨k - 1, by omega⟩
  unfold tabulariumref02_Open.f topen
  rw [ref_ttext_at b hb _ (by omega)]
  rw [Option.bind_some]
  unfold ttextR
  cases e : ttext b with
  | none =>
    simp only [tabulariumref02_Open.j0]
    rw [if_neg (by decide)]
    rfl
  | some p =>
    obtain ⟨s, r⟩ := p
    have hz := ttext_size e
    have hk2 : 10 * s.size < k := by omega
    simp only [tabulariumref02_Open.j0]
    rw [if_pos trivial]
    by_cases c : r.size < 4
    · rw [if_pos c, decide_eq_true (by omega), if_pos rfl]
    · rw [if_neg c, decide_eq_false (by omega), if_neg (by decide), if_pos (by decide), if_pos (by omega), ref_sum_at s (by omega) k hk2]
      rw [Option.bind_some]
      rw [ref_four_at (csum_lt s)]
      rw [Option.bind_some]
      by_cases h : r.extract 0 4 = four (csum s)
      · rw [if_pos h, if_pos (by rw [h])]
      · rw [if_neg h, if_neg (fun h2 => h (toList_inj h2))]

theorem topen_seal {s t : ByteArray} (h : seal_ s = some t) (r : ByteArray) : topen (t ++ r) = (s, r, 0) := by
  unfold seal_ at h
  cases e : text s with
  | none => rw [e] at h; cases h
  | some q =>
    rw [e] at h
    obtain rfl := Option.some.inj h
    unfold topen
    rw [ByteArray.append_assoc, ttext_text e]
    simp only
    have h4 : (four (csum s) ++ r).extract 0 4 = four (csum s) := by
      refine nb_ext ?_
      rw [nb_extract, nb_append, List.drop_zero, Nat.sub_zero, List.take_left' (by rw [nb_size, four_size])]
    have hr : (four (csum s) ++ r).extract 4 (four (csum s) ++ r).size = r := by
      refine nb_ext ?_
      rw [nb_extract, nb_append, List.drop_left' (by rw [nb_size, four_size]), List.take_of_length_le]
      rw [nb_size, ByteArray.size_append, four_size]
      omega
    rw [if_neg (by rw [ByteArray.size_append, four_size]; omega), if_pos h4, hr]

end Go.Proofs.Ytljllecpmllefaa.Sp
end

section

namespace Go.Proofs.Ytljllecpmllefaa.Sp
open Go.RowKit Go.Proofs.YtljllecpmllefaaW.PrintWords Go.Proofs.YtljllecpmllefaaW.PrintLast Go.Proofs.YtljllecpmllefaaW.PrintMore Go.Proofs.Ytljllecpmllefaa.P
theorem ex18 : tabulariumlaw18_examples.f 40 = some true := by kernel_rfl
theorem examples_at (k : Nat) (hk : 40 ≤ k) : tabulariumlaw18_examples.f k = some true := at_rounds tabulariumlaw18_examples.mono hk ex18
end Go.Proofs.Ytljllecpmllefaa.Sp
end
