/- Plain facts on CRC-32, over natural numbers: it is linear, each step can be turned back, and so four bytes side by side tell. No program in sight. -/
import Derived.Test.YtlggjcpaihpipaaSp
import Derived.Laws.BitsAllLaws
namespace Go.Proofs.Ytlggjcpaihpipaa.Crc
open Go.RowKit Go.Proofs.Ytlggjcpaihpipaa.Sp Go.Proofs.YtlggjcpaihpipaaW.PrintWords Go.Proofs.YtlggjcpaihpipaaW.PrintLast Go.Proofs.YtlggjcpaihpipaaW.PrintMore

def poly : Nat := 3988292384
def s1 (v : Nat) : Nat := if v % 2 = 1 then v / 2 ^^^ poly else v / 2
def sN : Nat → Nat → Nat
  | 0, v => v
  | n + 1, v => s1 (sN n v)

theorem poly_lt : poly < 2 ^ 32 := by decide

theorem s1_lt {v : Nat} (h : v < 2 ^ 32) : s1 v < 2 ^ 32 := by
  unfold s1
  split
  · exact Nat.xor_lt_two_pow (by omega) poly_lt
  · omega

theorem sN_lt (n : Nat) : ∀ {v : Nat}, v < 2 ^ 32 → sN n v < 2 ^ 32 := by
  induction n with
  | zero => intro v h; exact h
  | succ n ih => intro v h; exact s1_lt (ih h)

theorem sN_add (m n : Nat) (v : Nat) : sN (m + n) v = sN m (sN n v) := by
  induction m with
  | zero => rw [Nat.zero_add]; rfl
  | succ m ih => rw [Nat.succ_add]; show s1 (sN (m + n) v) = s1 (sN m (sN n v)); rw [ih]

theorem xor_half (a b : Nat) : (a ^^^ b) / 2 = a / 2 ^^^ b / 2 := by
  have := Nat.shiftRight_xor_distrib (a := a) (b := b) (i := 1)
  simpa [Nat.shiftRight_succ] using this

theorem xor_odd (a b : Nat) : (a ^^^ b) % 2 = (a + b) % 2 := by
  have h := Nat.testBit_xor a b 0
  simp only [Nat.testBit_zero] at h
  have h1 := Nat.mod_two_eq_zero_or_one a
  have h2 := Nat.mod_two_eq_zero_or_one b
  have h3 := Nat.mod_two_eq_zero_or_one (a ^^^ b)
  rcases h1 with h1 | h1 <;> rcases h2 with h2 | h2 <;> rcases h3 with h3 | h3 <;> simp [h1, h2, h3] at h <;> omega

theorem s1_xor (a b : Nat) : s1 (a ^^^ b) = s1 a ^^^ s1 b := by
  unfold s1
  rw [xor_odd, xor_half]
  have h1 := Nat.mod_two_eq_zero_or_one a
  have h2 := Nat.mod_two_eq_zero_or_one b
  rcases h1 with h1 | h1 <;> rcases h2 with h2 | h2
  · rw [if_neg (by omega), if_neg (by omega), if_neg (by omega)]
  · rw [if_pos (by omega), if_neg (by omega), if_pos (by omega), Nat.xor_assoc]
  · rw [if_pos (by omega), if_pos (by omega), if_neg (by omega), Nat.xor_assoc, Nat.xor_assoc, Nat.xor_comm poly]
  · rw [if_neg (by omega), if_pos (by omega), if_pos (by omega)]
    rw [Nat.xor_assoc, ← Nat.xor_assoc poly, Nat.xor_comm poly, Nat.xor_assoc (b / 2), Nat.xor_self, Nat.xor_zero]

theorem sN_xor (n a b : Nat) : sN n (a ^^^ b) = sN n a ^^^ sN n b := by
  induction n with
  | zero => rfl
  | succ n ih => show s1 (sN n (a ^^^ b)) = s1 (sN n a) ^^^ s1 (sN n b); rw [ih, s1_xor]

theorem s1_zero {v : Nat} (h : v < 2 ^ 32) (e : s1 v = 0) : v = 0 := by
  unfold s1 at e
  split at e
  · have : v / 2 = poly := by
      have h2 : (v / 2 ^^^ poly) ^^^ poly = poly := by rw [e, Nat.zero_xor]
      rw [Nat.xor_assoc, Nat.xor_self, Nat.xor_zero] at h2
      exact h2
    unfold poly at this
    omega
  · omega

theorem sN_zero (n : Nat) : ∀ {v : Nat}, v < 2 ^ 32 → sN n v = 0 → v = 0 := by
  induction n with
  | zero => intro v _ e; exact e
  | succ n ih => intro v h e; exact ih h (s1_zero (sN_lt n h) e)

theorem xor_eq_zero {a b : Nat} (h : a ^^^ b = 0) : a = b := by
  have : (a ^^^ b) ^^^ b = b := by rw [h, Nat.zero_xor]
  rw [Nat.xor_assoc, Nat.xor_self, Nat.xor_zero] at this
  exact this

theorem sN_inj (n : Nat) {a b : Nat} (ha : a < 2 ^ 32) (hb : b < 2 ^ 32) (h : sN n a = sN n b) : a = b := by
  refine xor_eq_zero (sN_zero n (Nat.xor_lt_two_pow ha hb) ?_)
  rw [sN_xor, h, Nat.xor_self]

theorem s1_double (m : Nat) : s1 (2 * m) = m := by unfold s1; rw [if_neg (by omega)]; omega

theorem sN_shift (n : Nat) : ∀ m, sN n (2 ^ n * m) = m := by
  induction n with
  | zero => intro m; show 2 ^ 0 * m = m; omega
  | succ n ih =>
    intro m
    show s1 (sN n (2 ^ (n + 1) * m)) = m
    rw [Nat.pow_succ, Nat.mul_assoc, ih, s1_double]

/-- a byte -/
def step (v c : Nat) : Nat := sN 8 (v ^^^ c)
theorem step_lt {v c : Nat} (h : v < 2 ^ 32) (hc : c < 256) : step v c < 2 ^ 32 := sN_lt 8 (Nat.xor_lt_two_pow h (by omega))
theorem step_inj {a b c : Nat} (ha : a < 2 ^ 32) (hb : b < 2 ^ 32) (hc : c < 256) (h : step a c = step b c) : a = b := by
  have := sN_inj 8 (Nat.xor_lt_two_pow ha (by omega)) (Nat.xor_lt_two_pow hb (by omega)) h
  refine xor_eq_zero ?_
  have h2 : (a ^^^ c) ^^^ (b ^^^ c) = 0 := by rw [this, Nat.xor_self]
  rwa [Nat.xor_comm b c, Nat.xor_assoc, ← Nat.xor_assoc c c, Nat.xor_self, Nat.zero_xor] at h2

/-- some bytes -/
def run (v : Nat) (l : List Nat) : Nat := l.foldl step v
theorem run_append (v : Nat) (l m : List Nat) : run v (l ++ m) = run (run v l) m := by unfold run; rw [List.foldl_append]
theorem run_lt (l : List Nat) : ∀ {v : Nat}, v < 2 ^ 32 → (∀ c ∈ l, c < 256) → run v l < 2 ^ 32 := by
  induction l with
  | nil => intro v h _; exact h
  | cons c l ih => intro v h hl; exact ih (step_lt h (hl c List.mem_cons_self)) (fun d hd => hl d (List.mem_cons_of_mem _ hd))
theorem run_inj (l : List Nat) : ∀ {a b : Nat}, a < 2 ^ 32 → b < 2 ^ 32 → (∀ c ∈ l, c < 256) → run a l = run b l → a = b := by
  induction l with
  | nil => intro a b _ _ _ h; exact h
  | cons c l ih =>
    intro a b ha hb hl h
    have hc := hl c List.mem_cons_self
    exact step_inj ha hb hc (ih (step_lt ha hc) (step_lt hb hc) (fun d hd => hl d (List.mem_cons_of_mem _ hd)) h)

/-- bytes as one number, the first the lowest -/
def word : List Nat → Nat
  | [] => 0
  | c :: l => c + 256 * word l

theorem word_lt (l : List Nat) (h : ∀ c ∈ l, c < 256) : word l < 256 ^ l.length := by
  induction l with
  | nil => simp [word]
  | cons c l ih =>
    have h1 := ih (fun d hd => h d (List.mem_cons_of_mem _ hd))
    have h2 := h c List.mem_cons_self
    rw [word, List.length_cons, Nat.pow_succ]
    omega

theorem word_inj : ∀ (l m : List Nat), l.length = m.length → (∀ c ∈ l, c < 256) → (∀ c ∈ m, c < 256) → word l = word m → l = m := by
  intro l
  induction l with
  | nil => intro m h _ _ _; cases m with | nil => rfl | cons => simp at h
  | cons c l ih =>
    intro m h hl hm e
    cases m with
    | nil => simp at h
    | cons d m =>
      have h1 := hl c List.mem_cons_self
      have h2 := hm d List.mem_cons_self
      rw [word, word] at e
      have e1 : c = d := by omega
      have e2 : word l = word m := by omega
      rw [e1, ih m (by simpa using h) (fun d hd => hl d (List.mem_cons_of_mem _ hd)) (fun d hd => hm d (List.mem_cons_of_mem _ hd)) e2]

theorem low_xor {c m : Nat} (hc : c < 256) : c ^^^ 256 * m = c + 256 * m := by
  have h := Nat.two_pow_add_eq_or_of_lt (i := 8) (b := c) (by omega) m
  have h2 : 2 ^ 8 * m ||| c = 2 ^ 8 * m ^^^ c := by
    apply Nat.eq_of_testBit_eq
    intro j
    rw [Nat.testBit_or, Nat.testBit_xor]
    by_cases hj : j < 8
    · have : (2 ^ 8 * m).testBit j = false := by rw [Nat.testBit_two_pow_mul]; simp; omega
      rw [this]; simp
    · have : c.testBit j = false := Nat.testBit_lt_two_pow (Nat.lt_of_lt_of_le (by omega : c < 2 ^ 8) (Nat.pow_le_pow_right (by omega) (by omega)))
      rw [this]; simp
  rw [Nat.xor_comm]
  show 2 ^ 8 * m ^^^ c = _
  rw [← h2, ← h]
  omega

theorem run_word : ∀ (l : List Nat) (v : Nat), (∀ c ∈ l, c < 256) → run v l = sN (8 * l.length) (v ^^^ word l) := by
  intro l
  induction l with
  | nil => intro v _; rw [word, Nat.xor_zero]; rfl
  | cons c l ih =>
    intro v h
    have h1 := h c List.mem_cons_self
    have hl : ∀ d ∈ l, d < 256 := fun d hd => h d (List.mem_cons_of_mem _ hd)
    show run (step v c) l = _
    rw [ih _ hl, word, List.length_cons, Nat.mul_add, Nat.mul_one, sN_add]
    congr 1
    rw [← low_xor h1, ← Nat.xor_assoc, sN_xor]
    unfold step
    congr 1
    exact (sN_shift 8 (word l)).symm

/-- four bytes side by side tell -/
theorem burst (p l m q : List Nat) {v : Nat} (hv : v < 2 ^ 32) (hp : ∀ c ∈ p, c < 256) (hl : ∀ c ∈ l, c < 256) (hm : ∀ c ∈ m, c < 256) (hq : ∀ c ∈ q, c < 256) (hlen : l.length = m.length) (h4 : l.length ≤ 4)
    (h : run v (p ++ l ++ q) = run v (p ++ m ++ q)) : l = m := by
  rw [run_append, run_append, run_append, run_append] at h
  have hs := run_lt p hv hp
  have h1 := run_inj q (run_lt l hs hl) (run_lt m hs hm) hq h
  rw [run_word l _ hl, run_word m _ hm, hlen] at h1
  have w1 : word l < 2 ^ 32 := Nat.lt_of_lt_of_le (word_lt l hl) (by have := Nat.pow_le_pow_right (n := 256) (by omega) h4; omega)
  have w2 : word m < 2 ^ 32 := Nat.lt_of_lt_of_le (word_lt m hm) (by have := Nat.pow_le_pow_right (n := 256) (by omega) (hlen ▸ h4); omega)
  have h2 := sN_inj _ (Nat.xor_lt_two_pow hs w1) (Nat.xor_lt_two_pow hs w2) h1
  refine word_inj l m hlen hl hm (xor_eq_zero ?_)
  have h3 : (run v p ^^^ word l) ^^^ (run v p ^^^ word m) = 0 := by rw [h2, Nat.xor_self]
  rwa [Nat.xor_comm (run v p) (word l), Nat.xor_assoc, ← Nat.xor_assoc (run v p) (run v p), Nat.xor_self, Nat.zero_xor] at h3

/-- the sum of some bytes -/
def crc (l : List Nat) : Nat := run 4294967295 l ^^^ 4294967295
theorem crc_lt (l : List Nat) (h : ∀ c ∈ l, c < 256) : crc l < 2 ^ 32 := Nat.xor_lt_two_pow (run_lt l (by decide) h) (by decide)
theorem crc_burst (p l m q : List Nat) (hp : ∀ c ∈ p, c < 256) (hl : ∀ c ∈ l, c < 256) (hm : ∀ c ∈ m, c < 256) (hq : ∀ c ∈ q, c < 256) (hlen : l.length = m.length) (h4 : l.length ≤ 4)
    (h : crc (p ++ l ++ q) = crc (p ++ m ++ q)) : l = m := by
  refine burst p l m q (v := 4294967295) (by decide) hp hl hm hq hlen h4 ?_
  unfold crc at h
  have h2 : (run 4294967295 (p ++ l ++ q) ^^^ 4294967295) ^^^ 4294967295 = (run 4294967295 (p ++ m ++ q) ^^^ 4294967295) ^^^ 4294967295 := by rw [h]
  rwa [Nat.xor_assoc, Nat.xor_self, Nat.xor_zero, Nat.xor_assoc, Nat.xor_self, Nat.xor_zero] at h2

end Go.Proofs.Ytlggjcpaihpipaa.Crc
