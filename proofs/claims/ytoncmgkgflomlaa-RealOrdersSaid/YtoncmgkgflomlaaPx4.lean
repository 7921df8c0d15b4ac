/- The Go functions of this seat as plain Lean functions, and for each the proof that its call gives what the plain function gives. Printed by a program of this session. -/
import Derived.Test.YtoncmgkgflomlaaPx0
import Derived.Test.YtoncmgkgflomlaaPx1
namespace Go.Proofs.Ytoncmgkgflomlaa.P
open Go.RowKit Go.Proofs.YtoncmgkgflomlaaW.PrintWords Go.Proofs.YtoncmgkgflomlaaW.PrintLast Go.Proofs.YtoncmgkgflomlaaW.PrintMore
attribute [local go_sem] max2_int min2_int max_two min_two max_three min_three max_four min_four   -- for this text's walks alone
set_option linter.unusedVariables false
set_option linter.unusedSimpArgs false

/-! ### real_Sort: function 26 -/
section
open Go.Shelf Go.Lib Go.Sort
/-! #### the stable sort's parts, plain -/
namespace St
variable {α : Type} [Inhabited α]
/-- swapRange from place i on, r to go -/
def swapFrom (a b : Nat) : Nat → Nat → Array α → Array α
  | 0, _, d => d
  | r + 1, i, d => swapFrom a b r (i + 1) (Go.Sort.swp d (a + i) (b + i))
def swapR (d : Array α) (a b n : Nat) : Array α := swapFrom a b n 0 d
theorem swapFrom_size (a b : Nat) : ∀ r i (d : Array α), (swapFrom a b r i d).size = d.size
  | 0, _, _ => rfl
  | r + 1, i, d => by rw [swapFrom, swapFrom_size a b r, Go.Sort.size_swp]
theorem swapR_size (d : Array α) (a b n : Nat) : (swapR d a b n).size = d.size := swapFrom_size _ _ _ _ _
/-- rotate: the lengths of both sides, with a bound on the rounds -/
def rotFrom (m : Nat) : Nat → Nat → Nat → Array α → Array α
  | 0, _, _, d => d
  | f + 1, i, j, d => if i = j then swapR d (m - i) m i else if j < i then rotFrom m f (i - j) j (swapR d (m - i) m j) else rotFrom m f i (j - i) (swapR d (m - i) (m + j - i) i)
def rot (d : Array α) (a m b : Nat) : Array α := rotFrom m (b - a + 1) (m - a) (b - m) d
theorem rotFrom_size (m : Nat) : ∀ f i j (d : Array α), (rotFrom m f i j d).size = d.size
  | 0, _, _, _ => rfl
  | f + 1, i, j, d => by
    rw [rotFrom]
    split
    · exact swapR_size _ _ _ _
    · split
      · rw [rotFrom_size m f, swapR_size]
      · rw [rotFrom_size m f, swapR_size]
theorem rot_size (d : Array α) (a m b : Nat) : (rot d a m b).size = d.size := rotFrom_size _ _ _ _ _
/-- a search in halves: q tells whether to go on to the right -/
def bs (q : Nat → Bool) : Nat → Nat → Nat → Nat
  | 0, i, _ => i
  | f + 1, i, j => if i < j then (if q ((i + j) / 2) = true then bs q f ((i + j) / 2 + 1) j else bs q f i ((i + j) / 2)) else i
theorem bs_range (q : Nat → Bool) : ∀ f i j, i ≤ j → i ≤ bs q f i j ∧ bs q f i j ≤ j
  | 0, i, j, h => ⟨Nat.le_refl _, h⟩
  | f + 1, i, j, h => by
    rw [bs]
    split
    · split
      · have := bs_range q f ((i + j) / 2 + 1) j (by omega); omega
      · have := bs_range q f i ((i + j) / 2) (by omega); omega
    · omega
/-- one element carried to the right, r places; to the left -/
def shR : Nat → Nat → Array α → Array α
  | 0, _, d => d
  | r + 1, k, d => shR r (k + 1) (Go.Sort.swp d k (k + 1))
def shL : Nat → Nat → Array α → Array α
  | 0, _, d => d
  | r + 1, k, d => shL r (k - 1) (Go.Sort.swp d k (k - 1))
theorem shR_size : ∀ r k (d : Array α), (shR r k d).size = d.size
  | 0, _, _ => rfl
  | r + 1, k, d => by rw [shR, shR_size r, Go.Sort.size_swp]
theorem shL_size : ∀ r k (d : Array α), (shL r k d).size = d.size
  | 0, _, _ => rfl
  | r + 1, k, d => by rw [shL, shL_size r, Go.Sort.size_swp]
/-- symMerge: where it is cut -/
def symLo (a m b : Nat) : Nat := if (a + b) / 2 < m then (a + b) / 2 + m - b else a
def symHi (a m b : Nat) : Nat := if (a + b) / 2 < m then (a + b) / 2 else m
def symS (lt : α → α → Bool) (d : Array α) (a m b : Nat) : Nat := bs (fun c => !lt d[(a + b) / 2 + m - 1 - c]! d[c]!) (symHi a m b - symLo a m b) (symLo a m b) (symHi a m b)
def symR (d : Array α) (s m e : Nat) : Array α := if s < m ∧ m < e then rot d s m e else d
theorem symR_size (d : Array α) (s m e : Nat) : (symR d s m e).size = d.size := by
  unfold symR; split
  · exact rot_size _ _ _ _
  · rfl
/-- symMerge of [a, m) and [m, b), f rounds deep -/
def symM (lt : α → α → Bool) : Nat → Nat → Nat → Nat → Array α → Array α
  | 0, _, _, _, d => d
  | f + 1, a, m, b, d =>
    if m - a = 1 then shR (bs (fun h => lt d[h]! d[a]!) (b - m) m b - 1 - a) a d
    else if b - m = 1 then shL (m - bs (fun h => !lt d[m]! d[h]!) (m - a) a m) m d
    else if (a + b) / 2 < (a + b) / 2 + m - symS lt d a m b ∧ (a + b) / 2 + m - symS lt d a m b < b then
      symM lt f ((a + b) / 2) ((a + b) / 2 + m - symS lt d a m b) b (if a < symS lt d a m b ∧ symS lt d a m b < (a + b) / 2 then symM lt f a (symS lt d a m b) ((a + b) / 2) (symR d (symS lt d a m b) m ((a + b) / 2 + m - symS lt d a m b)) else symR d (symS lt d a m b) m ((a + b) / 2 + m - symS lt d a m b))
    else (if a < symS lt d a m b ∧ symS lt d a m b < (a + b) / 2 then symM lt f a (symS lt d a m b) ((a + b) / 2) (symR d (symS lt d a m b) m ((a + b) / 2 + m - symS lt d a m b)) else symR d (symS lt d a m b) m ((a + b) / 2 + m - symS lt d a m b))
theorem symM_size (lt : α → α → Bool) : ∀ f a m b (d : Array α), (symM lt f a m b d).size = d.size
  | 0, _, _, _, _ => rfl
  | f + 1, a, m, b, d => by
    have key : ∀ (p : Prop) [Decidable p] (x y : Array α) (n : Nat), x.size = n → y.size = n → (if p then x else y).size = n := by
      intro p _ x y n h1 h2; split <;> assumption
    have h1 : (if a < symS lt d a m b ∧ symS lt d a m b < (a + b) / 2 then symM lt f a (symS lt d a m b) ((a + b) / 2) (symR d (symS lt d a m b) m ((a + b) / 2 + m - symS lt d a m b)) else symR d (symS lt d a m b) m ((a + b) / 2 + m - symS lt d a m b)).size = d.size :=
      key _ _ _ _ (by rw [symM_size lt f, symR_size]) (symR_size _ _ _ _)
    rw [symM]
    exact key _ _ _ _ (shR_size _ _ _) (key _ _ _ _ (shL_size _ _ _) (key _ _ _ _ (by rw [symM_size lt f]; exact h1) h1))
end St
set_option maxHeartbeats 4000000 in
set_option maxRecDepth 1000000 in
theorem st_swap (g : Nat) (cb : Array Value) (blk off cap sz a b n : Nat) (d0 d : Array Nat) (w0 w : World) (R : Row1 (Value.float .f64) w0 blk off d0) (hd : d.size = sz) (hs : d0.size = sz) (S : SW (Value.float .f64) w0 blk off d w) (ha : a + n ≤ sz) (hb : b + n ≤ sz) (hsz : sz < 4611686018427387904) :
    Calls Try.prog 45 #[.slice (some ⟨blk, off, none⟩) sz cap, .int .i64 a, .int .i64 b, .int .i64 n, .func (.func g) #[] cb] w fun e w' => e = .returned (.tuple #[]) ∧ SW (Value.float .f64) w0 blk off (St.swapR d a b n) w' := by
  have hst := R.hO.store Try.prog
  have mixed : Try.prog.follows .mixedOrders = true := by kernel_rfl
  have S0 : Aside (SW (Value.float .f64) w0 blk off d w) := S
  clear S
  go_enter Try.func45, Try.ntmps45
  go_wp2
  go_loopg [10] (n + 1) (fun kx s10 wr => ∃ (k : Nat) (dk : Array Nat), s10 = .int .i64 k ∧ k ≤ n ∧ Aside0 (kx + k = n + 1) ∧ dk.size = sz ∧ Aside (SW (Value.float .f64) w0 blk off dk wr) ∧ Aside0 (St.swapFrom a b (n - k) k dk = St.swapR d a b n))
  case atStart => exact ⟨0, d, rfl, Nat.zero_le _, ⟨rfl⟩, hd, S0, ⟨rfl⟩⟩
  case round =>
    clear S0
    obtain ⟨k, dk, rfl, hk, HQ, hds, S1, HE⟩ := hrel
    by_cases hlt : k < n
    · have hltz : (k : Int) < (n : Int) := by omega
      obtain ⟨i, hi⟩ : ∃ i, i = a + k := ⟨_, rfl⟩
      obtain ⟨j, hj⟩ : ∃ j, j = b + k := ⟨_, rfl⟩
      have ea : ((a : Int) + (k : Int)).toNat = i := by omega
      have pa : (0 : Int) ≤ (a : Int) + (k : Int) := by omega
      have ba : (a : Int) + (k : Int) < (sz : Int) := by omega
      have ra : IntKind.i64.wrap ((a : Int) + (k : Int)) = (a : Int) + (k : Int) := by rw [IntKind.wrap_i64]; omega
      have ec : ((b : Int) + (k : Int)).toNat = j := by omega
      have pc : (0 : Int) ≤ (b : Int) + (k : Int) := by omega
      have bc : (b : Int) + (k : Int) < (sz : Int) := by omega
      have rc : IntKind.i64.wrap ((b : Int) + (k : Int)) = (b : Int) + (k : Int) := by rw [IntKind.wrap_i64]; omega
      have hi2 : i < dk.size := by omega
      have hj2 : j < dk.size := by omega
      have HI := Aside0.mk hi
      have HJ := Aside0.mk hj
      obtain ⟨x, hx⟩ : ∃ x, x = dk[i]! := ⟨_, rfl⟩
      obtain ⟨y, hy⟩ : ∃ y, y = dk[j]! := ⟨_, rfl⟩
      have S2 : Aside (SW (Value.float .f64) w0 blk off (Go.Sort.swp dk i j) ((wr.setCell ⟨blk, off + i, none⟩ ((Value.float .f64) y)).setCell ⟨blk, off + j, none⟩ ((Value.float .f64) x)).drew) := by rw [hx, hy]; exact S1.out.swapped R i j hi2 hj2
      have ca := S1.out.c1 R (by omega) i hi2
      have cb_ := S1.out.c1 R (by omega) j hj2
      have fa := S1.out.f1 R (by omega) i hi2
      have fb := S1.out.f1 R (by omega) j hj2
      obtain ⟨u, cc⟩ := S1.out.c2 R (by omega) i j hi2 hj2 ((Value.float .f64) y)
      rw [← hx] at ca
      rw [← hy] at cb_
      clear S1 hx hy hi hj
      go_upto_region 3 with (fail)
      go_region
      clear ca cb_ cc fa fb
      generalize ((wr.setCell ⟨blk, off + i, none⟩ ((Value.float .f64) y)).setCell ⟨blk, off + j, none⟩ ((Value.float .f64) x)).drew = w2 at S2 ⊢
      clear ea ec
      go_wp2
      go_roundg (gk - 1)
      case measure => have := HQ.out; omega
      case rel =>
        exact ⟨k + 1, Go.Sort.swp dk i j, by go_num, by omega, ⟨by have := HQ.out; omega⟩, by rw [Go.Sort.size_swp]; exact hds, S2, ⟨by have h := HE.out; rw [show n - k = (n - (k + 1)) + 1 by omega, St.swapFrom] at h; rw [HI.out, HJ.out]; exact h⟩⟩
    · obtain rfl : k = n := by omega
      have hltz : ¬ (k : Int) < (k : Int) := by omega
      go_wp2
      go_end0
      exact ⟨rfl, by have h := HE.out; rw [Nat.sub_self, St.swapFrom] at h; rw [← h]; exact S1.out⟩
set_option maxHeartbeats 4000000 in
set_option maxRecDepth 1000000 in
theorem st_rot (g : Nat) (cb : Array Value) (blk off cap sz a m b : Nat) (d0 d : Array Nat) (w0 w : World) (R : Row1 (Value.float .f64) w0 blk off d0) (hd : d.size = sz) (hs : d0.size = sz) (S : SW (Value.float .f64) w0 blk off d w) (ham : a < m) (hmb : m < b) (hb : b ≤ sz) (hsz : sz < 4611686018427387904) :
    Calls Try.prog 44 #[.slice (some ⟨blk, off, none⟩) sz cap, .int .i64 a, .int .i64 m, .int .i64 b, .func (.func g) #[] cb] w fun e w' => e = .returned (.tuple #[]) ∧ SW (Value.float .f64) w0 blk off (St.rot d a m b) w' := by
  have S0 : Aside (SW (Value.float .f64) w0 blk off d w) := S
  clear S
  go_enter Try.func44, Try.ntmps44
  go_wp2
  go_loopg [10, 11] (b - a + 1) (fun kx s10 s11 wr => ∃ (i j : Nat) (dk : Array Nat), s10 = .int .i64 i ∧ s11 = .int .i64 j ∧ Aside0 (1 ≤ i ∧ 1 ≤ j ∧ i ≤ m ∧ m + j ≤ sz) ∧ Aside0 (i + j ≤ kx) ∧ dk.size = sz ∧ Aside (SW (Value.float .f64) w0 blk off dk wr) ∧ Aside0 (St.rotFrom m kx i j dk = St.rot d a m b))
  case atStart => exact ⟨m - a, b - m, d, by congr 1; omega, by congr 1; omega, ⟨by omega⟩, ⟨by omega⟩, hd, S0, ⟨rfl⟩⟩
  case round =>
    clear S0
    obtain ⟨i, j, dk, rfl, rfl, HI, HK, hds, S1, HE⟩ := hrel
    obtain ⟨h1, h2, h3, h4⟩ := HI.out
    have hk := HK.out
    obtain ⟨kx, rfl⟩ : ∃ q, gk = q + 1 := ⟨gk - 1, by omega⟩
    obtain ⟨q, hq⟩ : ∃ q, q = m - i := ⟨_, rfl⟩
    have hq1 : (m : Int) - (i : Int) = (q : Int) := by omega
    have HQ := Aside0.mk hq
    clear hq
    have hE := HE.out
    rw [St.rotFrom] at hE
    by_cases e : i = j
    · subst e
      rw [if_pos rfl] at hE
      have HE' := Aside0.mk hE
      have b1 : ((i : Int) != (i : Int)) = false := by simp
      clear hE HE
      go_wp2_with (go_at_call 45; refine (st_swap g cb blk off cap sz q m i d0 dk w0 _ R hds hs S1.out (by have := HQ.out; omega) (by omega) hsz).mono ?_; rintro e_ w2 ⟨rfl, hS⟩)
      go_end0
      exact ⟨rfl, by rw [← HE'.out, ← HQ.out]; exact hS⟩
    · rw [if_neg e] at hE
      have b1 : ((i : Int) != (j : Int)) = true := by simp; omega
      by_cases c : j < i
      · rw [if_pos c] at hE
        have HE' := Aside0.mk hE
        have hc : (j : Int) < (i : Int) := by omega
        have hij : (i : Int) - (j : Int) = ((i - j : Nat) : Int) := by omega
        clear hE HE
        have HIJ := Aside0.mk hij
        clear hij
        go_wp2_with (go_at_call 45; refine (st_swap g cb blk off cap sz q m j d0 dk w0 _ R hds hs S1.out (by have := HQ.out; omega) (by omega) hsz).mono ?_; rintro e_ w2 ⟨rfl, hS⟩; have S2 : Aside (SW (Value.float .f64) w0 blk off (St.swapR dk q m j) w2) := hS; clear hS)
        go_roundg kx
        case measure => omega
        case rel => exact ⟨i - j, j, St.swapR dk q m j, by rw [HIJ.out], rfl, ⟨by omega⟩, ⟨by omega⟩, by rw [St.swapR_size]; exact hds, S2, ⟨by rw [HQ.out]; exact HE'.out⟩⟩
      · rw [if_neg c] at hE
        have HE' := Aside0.mk hE
        have hc : ¬ (j : Int) < (i : Int) := by omega
        have hji : (j : Int) - (i : Int) = ((j - i : Nat) : Int) := by omega
        obtain ⟨p, hp⟩ : ∃ p, p = m + j - i := ⟨_, rfl⟩
        have hp1 : (m : Int) + (j : Int) - (i : Int) = (p : Int) := by omega
        have HP := Aside0.mk hp
        clear hE HE hp
        have HJI := Aside0.mk hji
        clear hji
        go_wp2_with (go_at_call 45; refine (st_swap g cb blk off cap sz q p i d0 dk w0 _ R hds hs S1.out (by have := HQ.out; omega) (by have := HP.out; omega) hsz).mono ?_; rintro e_ w2 ⟨rfl, hS⟩; have S2 : Aside (SW (Value.float .f64) w0 blk off (St.swapR dk q p i) w2) := hS; clear hS)
        go_roundg kx
        case measure => omega
        case rel => exact ⟨i, j - i, St.swapR dk q p i, rfl, by rw [HJI.out], ⟨by omega⟩, ⟨by omega⟩, by rw [St.swapR_size]; exact hds, S2, ⟨by rw [HQ.out, HP.out]; exact HE'.out⟩⟩
set_option maxHeartbeats 8000000 in
set_option maxRecDepth 1000000 in
theorem st_symA (g : Nat) (cb : Array Value) (cf : Nat → Nat → Int) (blk off cap sz f a m b : Nat) (d0 d : Array Nat) (w0 w : World) (eg : ∀ args w, (callFunc g args).run Try.prog w = .ok (.enter g args) w) (hcmp : CmpLays1 Try.prog g cb (Value.float .f64) cf blk off sz w0)
    (R : Row1 (Value.float .f64) w0 blk off d0) (hd : d.size = sz) (hs : d0.size = sz) (S : SW (Value.float .f64) w0 blk off d w) (hma : m - a = 1) (hmb : m < b) (hb : b ≤ sz) (hsz : sz < 1152921504606846976) :
    Calls Try.prog 43 #[.slice (some ⟨blk, off, none⟩) sz cap, .int .i64 a, .int .i64 m, .int .i64 b, .func (.func g) #[] cb] w fun e w' => e = .returned (.tuple #[]) ∧ SW (Value.float .f64) w0 blk off (St.symM (ltOf cf) (f + 1) a m b d) w' := by
  have HG : Aside0 (St.symM (ltOf cf) (f + 1) a m b d = St.shR (St.bs (fun h => ltOf cf d[h]! d[a]!) (b - m) m b - 1 - a) a d) := ⟨by rw [St.symM, if_pos hma]⟩
  have hst := R.hO.store Try.prog
  have mixed : Try.prog.follows .mixedOrders = true := by kernel_rfl
  have S0 : Aside (SW (Value.float .f64) w0 blk off d w) := S
  have HC : Aside _ := hcmp
  have HMB := Aside0.mk hmb
  clear S hcmp
  have ham : (m : Int) - (a : Int) = 1 := by omega
  have HMA := Aside0.mk hma
  obtain ⟨I0, hI0⟩ : ∃ I0, I0 = St.bs (fun h => ltOf cf d[h]! d[a]!) (b - m) m b := ⟨_, rfl⟩
  have hI1 := St.bs_range (fun h => ltOf cf d[h]! d[a]!) (b - m) m b (by omega)
  rw [← hI0] at hI1
  have HI0 := Aside0.mk hI0
  clear hI0
  go_enter Try.func43, Try.ntmps43
  go_wp2
  go_loopg [10, 11] (b - m) (fun kx s10 s11 wr => ∃ (i j : Nat), s10 = .int .i64 i ∧ s11 = .int .i64 j ∧ Aside0 (m ≤ i ∧ i ≤ j ∧ j ≤ b) ∧ Aside0 (j - i ≤ kx) ∧ Aside (SW (Value.float .f64) w0 blk off d wr) ∧ Aside0 (St.bs (fun h => ltOf cf d[h]! d[a]!) kx i j = I0))
  case atStart => exact ⟨m, b, rfl, rfl, ⟨by omega⟩, ⟨Nat.le_refl _⟩, S0, ⟨HI0.out.symm⟩⟩
  case round =>
    clear S0
    obtain ⟨i, j, rfl, rfl, HI, HK, S1, HE⟩ := hrel
    obtain ⟨h1, h2, h3⟩ := HI.out
    have hk := HK.out
    by_cases hlt : i < j
    · have hltz : (i : Int) < (j : Int) := by omega
      obtain ⟨kx, rfl⟩ : ∃ q, gk = q + 1 := ⟨gk - 1, by omega⟩
      have hE := HE.out
      rw [St.bs, if_pos hlt] at hE
      obtain ⟨h, hh⟩ : ∃ h, h = (i + j) / 2 := ⟨_, rfl⟩
      rw [← hh] at hE
      have hhi : i ≤ h ∧ h < j := by omega
      have HH := Aside0.mk hh
      have HE' := Aside0.mk hE
      clear hh hE HE
      go_upto_region 4 with (fail)
      go_cut [12] (fun v12 wd => v12 = .int .i64 h ∧ wd = wr)
      case first =>
        go_wp2
        go_meet
        case rel => exact ⟨by congr 1; have := HH.out; omega, rfl⟩
      case rest =>
        obtain ⟨rfl, rfl⟩ := hcut
        have ph : (h : Int) < (sz : Int) := by omega
        have pa : (a : Int) < (sz : Int) := by omega
        obtain ⟨x, hx⟩ : ∃ x, x = d[h]! := ⟨_, rfl⟩
        obtain ⟨y, hy⟩ : ∃ y, y = d[a]! := ⟨_, rfl⟩
        have l1 := S1.out.cl R (by omega) h (by omega)
        have l2 := S1.out.cl R (by omega) a (by omega)
        rw [← hx] at l1
        rw [← hy] at l2
        have hc := S1.out.cmp HC.out (by omega) x y
        have hlt2 : ltOf cf d[h]! d[a]! = decide (cf x y < 0) := by rw [hx, hy]; rfl
        rw [hlt2] at HE'
        clear hx hy hlt2
        cases hv : decide (cf x y < 0) with
        | true =>
          rw [hv, if_pos rfl] at HE'
          have hv2 : cf x y < 0 := of_decide_eq_true hv
          go_upto_region 5 with (fail)
          go_quiet_grown (first | (go_at_fn g; refine Calls.grown_of (hc _ _)))
          have S2 : Aside (SW (Value.float .f64) w0 blk off d (grow (wc.drewN nq) osq)) := S1.out.grown nq osq
          clear l1 l2 hc S1
          generalize grow (wc.drewN nq) osq = w2 at S2 ⊢
          clear nq osq
          go_wp2
          go_roundg kx
          case measure => omega
          case rel => exact ⟨h + 1, j, by go_num, rfl, ⟨by omega⟩, ⟨by omega⟩, S2, HE'⟩
        | false =>
          rw [hv, if_neg (by decide)] at HE'
          have hv2 : ¬ cf x y < 0 := of_decide_eq_false hv
          go_upto_region 5 with (fail)
          go_quiet_grown (first | (go_at_fn g; refine Calls.grown_of (hc _ _)))
          have S2 : Aside (SW (Value.float .f64) w0 blk off d (grow (wc.drewN nq) osq)) := S1.out.grown nq osq
          clear l1 l2 hc S1
          generalize grow (wc.drewN nq) osq = w2 at S2 ⊢
          clear nq osq
          go_wp2
          go_roundg kx
          case measure => omega
          case rel => exact ⟨i, h, rfl, rfl, ⟨by omega⟩, ⟨by omega⟩, S2, HE'⟩
    · have hltz : ¬ (i : Int) < (j : Int) := by omega
      obtain ⟨e0, he0⟩ : ∃ e0, e0 = i := ⟨_, rfl⟩
      have hiI : i = I0 := by
        have hE := HE.out
        cases gk with
        | zero => rw [St.bs] at hE; exact hE
        | succ q => rw [St.bs, if_neg hlt] at hE; exact hE
      have HG2 : Aside0 (St.symM (ltOf cf) (f + 1) a m b d = St.shR (i - 1 - a) a d) := ⟨by rw [HG.out, ← HI0.out, hiI]⟩
      clear HE hiI he0 e0
      go_wp2
      go_loopg [13] (i - a) (fun kq s13 wq => ∃ (k : Nat) (dk : Array Nat), s13 = .int .i64 k ∧ Aside0 (a ≤ k ∧ k + 1 ≤ i) ∧ Aside0 (kq + k = i) ∧ dk.size = sz ∧ Aside (SW (Value.float .f64) w0 blk off dk wq) ∧ Aside0 (St.shR (i - 1 - k) k dk = St.shR (i - 1 - a) a d))
      case atStart => exact ⟨a, d, rfl, ⟨by omega⟩, ⟨by omega⟩, hd, S1, ⟨rfl⟩⟩
      case round =>
        clear S1
        obtain ⟨k, dk, rfl, HK2, HQ, hds, S1, HE⟩ := hrel
        obtain ⟨k1, k2⟩ := HK2.out
        have hq := HQ.out
        by_cases hlt2 : k + 1 < i
        · have p1 : (k : Int) < (i : Int) - 1 := by omega
          obtain ⟨j2, hj2⟩ : ∃ j2, j2 = k + 1 := ⟨_, rfl⟩
          have ba : (k : Int) < (sz : Int) := by omega
          have rc : IntKind.i64.wrap ((k : Int) + 1) = (k : Int) + 1 := by rw [IntKind.wrap_i64]; omega
          have ec : ((k : Int) + 1).toNat = j2 := by omega
          have pc : (0 : Int) ≤ (k : Int) + 1 := by omega
          have bc : (k : Int) + 1 < (sz : Int) := by omega
          have hi2 : k < dk.size := by omega
          have hj3 : j2 < dk.size := by omega
          obtain ⟨x, hx⟩ : ∃ x, x = dk[k]! := ⟨_, rfl⟩
          obtain ⟨y, hy⟩ : ∃ y, y = dk[j2]! := ⟨_, rfl⟩
          have S2 : Aside (SW (Value.float .f64) w0 blk off (Go.Sort.swp dk k j2) ((wr.setCell ⟨blk, off + k, none⟩ ((Value.float .f64) y)).setCell ⟨blk, off + j2, none⟩ ((Value.float .f64) x)).drew) := by rw [hx, hy]; exact S1.out.swapped R k j2 hi2 hj3
          have ca := S1.out.c1 R (by omega) k hi2
          have cb_ := S1.out.c1 R (by omega) j2 hj3
          have fa := S1.out.f1 R (by omega) k hi2
          have fb := S1.out.f1 R (by omega) j2 hj3
          obtain ⟨u, cc⟩ := S1.out.c2 R (by omega) k j2 hi2 hj3 ((Value.float .f64) y)
          rw [← hx] at ca
          rw [← hy] at cb_
          have HJ := Aside0.mk hj2
          clear S1 hx hy hj2
          go_upto_region 11 with (fail)
          go_region
          clear ca cb_ cc fa fb
          generalize ((wr.setCell ⟨blk, off + k, none⟩ ((Value.float .f64) y)).setCell ⟨blk, off + j2, none⟩ ((Value.float .f64) x)).drew = w2 at S2 ⊢
          clear ec
          go_wp2
          go_roundg (gk - 1)
          case measure => omega
          case rel => exact ⟨k + 1, Go.Sort.swp dk k j2, by go_num, ⟨by omega⟩, ⟨by omega⟩, by rw [Go.Sort.size_swp]; exact hds, S2, ⟨by have h := HE.out; rw [show i - 1 - k = (i - 1 - (k + 1)) + 1 by omega, St.shR] at h; rw [HJ.out]; exact h⟩⟩
        · have p1 : ¬ (k : Int) < (i : Int) - 1 := by omega
          go_wp2
          (try simp only [Exit.inBlock, Exit.then]); refine bodyPost_ret (results_none rfl _ _ _) rfl ?_
          exact ⟨rfl, by have h := HE.out; rw [show i - 1 - k = 0 by omega, St.shR] at h; rw [HG2.out, ← h]; exact S1.out⟩
set_option maxHeartbeats 8000000 in
set_option maxRecDepth 1000000 in
theorem st_symB (g : Nat) (cb : Array Value) (cf : Nat → Nat → Int) (blk off cap sz f a m b : Nat) (d0 d : Array Nat) (w0 w : World) (eg : ∀ args w, (callFunc g args).run Try.prog w = .ok (.enter g args) w) (hcmp : CmpLays1 Try.prog g cb (Value.float .f64) cf blk off sz w0)
    (R : Row1 (Value.float .f64) w0 blk off d0) (hd : d.size = sz) (hs : d0.size = sz) (S : SW (Value.float .f64) w0 blk off d w) (hma : m - a ≠ 1) (ham0 : a < m) (hbm : b - m = 1) (hb : b ≤ sz) (hsz : sz < 1152921504606846976) :
    Calls Try.prog 43 #[.slice (some ⟨blk, off, none⟩) sz cap, .int .i64 a, .int .i64 m, .int .i64 b, .func (.func g) #[] cb] w fun e w' => e = .returned (.tuple #[]) ∧ SW (Value.float .f64) w0 blk off (St.symM (ltOf cf) (f + 1) a m b d) w' := by
  have HG : Aside0 (St.symM (ltOf cf) (f + 1) a m b d = St.shL (m - St.bs (fun h => !ltOf cf d[m]! d[h]!) (m - a) a m) m d) := ⟨by rw [St.symM, if_neg hma, if_pos hbm]⟩
  have hst := R.hO.store Try.prog
  have mixed : Try.prog.follows .mixedOrders = true := by kernel_rfl
  have S0 : Aside (SW (Value.float .f64) w0 blk off d w) := S
  have HC : Aside _ := hcmp
  clear S hcmp
  obtain ⟨ma, hma2⟩ : ∃ q : Nat, (m : Int) - (a : Int) = (q : Int) := ⟨m - a, by omega⟩
  have hma3 : ((ma : Int) == 1) = false := by simp; omega
  have hbm2 : (b : Int) - (m : Int) = 1 := by omega
  obtain ⟨I0, hI0⟩ : ∃ I0, I0 = St.bs (fun h => !ltOf cf d[m]! d[h]!) (m - a) a m := ⟨_, rfl⟩
  have hI1 := St.bs_range (fun h => !ltOf cf d[m]! d[h]!) (m - a) a m (by omega)
  rw [← hI0] at hI1
  have HI0 := Aside0.mk hI0
  clear hI0
  go_enter Try.func43, Try.ntmps43
  go_wp2
  go_loopg [14, 15] (m - a) (fun kx s10 s11 wr => ∃ (i j : Nat), s10 = .int .i64 i ∧ s11 = .int .i64 j ∧ Aside0 (a ≤ i ∧ i ≤ j ∧ j ≤ m) ∧ Aside0 (j - i ≤ kx) ∧ Aside (SW (Value.float .f64) w0 blk off d wr) ∧ Aside0 (St.bs (fun h => !ltOf cf d[m]! d[h]!) kx i j = I0))
  case atStart => exact ⟨a, m, rfl, rfl, ⟨by omega⟩, ⟨Nat.le_refl _⟩, S0, ⟨HI0.out.symm⟩⟩
  case round =>
    clear S0
    obtain ⟨i, j, rfl, rfl, HI, HK, S1, HE⟩ := hrel
    obtain ⟨h1, h2, h3⟩ := HI.out
    have hk := HK.out
    by_cases hlt : i < j
    · have hltz : (i : Int) < (j : Int) := by omega
      obtain ⟨kx, rfl⟩ : ∃ q, gk = q + 1 := ⟨gk - 1, by omega⟩
      have hE := HE.out
      rw [St.bs, if_pos hlt] at hE
      obtain ⟨h, hh⟩ : ∃ h, h = (i + j) / 2 := ⟨_, rfl⟩
      rw [← hh] at hE
      have hhi : i ≤ h ∧ h < j := by omega
      have HH := Aside0.mk hh
      have HE' := Aside0.mk hE
      clear hh hE HE
      go_upto_region 16 with (fail)
      go_cut [16] (fun v12 wd => v12 = .int .i64 h ∧ wd = wr)
      case first =>
        go_wp2
        go_meet
        case rel => exact ⟨by congr 1; have := HH.out; omega, rfl⟩
      case rest =>
        obtain ⟨rfl, rfl⟩ := hcut
        have ph : (h : Int) < (sz : Int) := by omega
        have pa : (m : Int) < (sz : Int) := by omega
        obtain ⟨x, hx⟩ : ∃ x, x = d[m]! := ⟨_, rfl⟩
        obtain ⟨y, hy⟩ : ∃ y, y = d[h]! := ⟨_, rfl⟩
        have l1 := S1.out.cl R (by omega) m (by omega)
        have l2 := S1.out.cl R (by omega) h (by omega)
        rw [← hx] at l1
        rw [← hy] at l2
        have hc := S1.out.cmp HC.out (by omega) x y
        have hlt2 : ltOf cf d[m]! d[h]! = decide (cf x y < 0) := by rw [hx, hy]; rfl
        rw [hlt2] at HE'
        clear hx hy hlt2
        cases hv : decide (cf x y < 0) with
        | true =>
          rw [hv, if_neg (by decide)] at HE'
          have hv2 : cf x y < 0 := of_decide_eq_true hv
          go_upto_region 17 with (fail)
          go_quiet_grown (first | (go_at_fn g; refine Calls.grown_of (hc _ _)))
          have S2 : Aside (SW (Value.float .f64) w0 blk off d (grow (wc.drewN nq) osq)) := S1.out.grown nq osq
          clear l1 l2 hc S1
          generalize grow (wc.drewN nq) osq = w2 at S2 ⊢
          clear nq osq
          go_wp2
          go_roundg kx
          case measure => omega
          case rel => exact ⟨i, h, rfl, rfl, ⟨by omega⟩, ⟨by omega⟩, S2, HE'⟩
        | false =>
          rw [hv, if_pos (by decide)] at HE'
          have hv2 : ¬ cf x y < 0 := of_decide_eq_false hv
          go_upto_region 17 with (fail)
          go_quiet_grown (first | (go_at_fn g; refine Calls.grown_of (hc _ _)))
          have S2 : Aside (SW (Value.float .f64) w0 blk off d (grow (wc.drewN nq) osq)) := S1.out.grown nq osq
          clear l1 l2 hc S1
          generalize grow (wc.drewN nq) osq = w2 at S2 ⊢
          clear nq osq
          go_wp2
          go_roundg kx
          case measure => omega
          case rel => exact ⟨h + 1, j, by go_num, rfl, ⟨by omega⟩, ⟨by omega⟩, S2, HE'⟩
    · have hltz : ¬ (i : Int) < (j : Int) := by omega
      obtain ⟨e0, he0⟩ : ∃ e0, e0 = i := ⟨_, rfl⟩
      have hiI : i = I0 := by
        have hE := HE.out
        cases gk with
        | zero => rw [St.bs] at hE; exact hE
        | succ q => rw [St.bs, if_neg hlt] at hE; exact hE
      have HG2 : Aside0 (St.symM (ltOf cf) (f + 1) a m b d = St.shL (m - i) m d) := ⟨by rw [HG.out, ← HI0.out, hiI]⟩
      clear HE hiI he0 e0
      go_wp2
      go_loopg [17] (m - i) (fun kq s13 wq => ∃ (k : Nat) (dk : Array Nat), s13 = .int .i64 k ∧ Aside0 (i ≤ k ∧ k ≤ m) ∧ Aside0 (kq + i = k) ∧ dk.size = sz ∧ Aside (SW (Value.float .f64) w0 blk off dk wq) ∧ Aside0 (St.shL (k - i) k dk = St.shL (m - i) m d))
      case atStart => exact ⟨m, d, rfl, ⟨by omega⟩, ⟨by omega⟩, hd, S1, ⟨rfl⟩⟩
      case round =>
        clear S1
        obtain ⟨k, dk, rfl, HK2, HQ, hds, S1, HE⟩ := hrel
        obtain ⟨k1, k2⟩ := HK2.out
        have hq := HQ.out
        by_cases hlt2 : i < k
        · have p1 : (i : Int) < (k : Int) := by omega
          obtain ⟨j2, hj2⟩ : ∃ j2, j2 = k - 1 := ⟨_, rfl⟩
          have ba : (k : Int) < (sz : Int) := by omega
          have rc : IntKind.i64.wrap ((k : Int) - 1) = (k : Int) - 1 := by rw [IntKind.wrap_i64]; omega
          have ec : ((k : Int) - 1).toNat = j2 := by omega
          have pc : (0 : Int) ≤ (k : Int) - 1 := by omega
          have bc : (k : Int) - 1 < (sz : Int) := by omega
          have pk : (1 : Int) ≤ (k : Int) := by omega
          have pk2 : 1 ≤ k := by omega
          have hi2 : k < dk.size := by omega
          have hj3 : j2 < dk.size := by omega
          have hjm : (k : Int) - 1 = ((k - 1 : Nat) : Int) := by omega
          have HJM := Aside0.mk hjm
          clear hjm
          obtain ⟨x, hx⟩ : ∃ x, x = dk[k]! := ⟨_, rfl⟩
          obtain ⟨y, hy⟩ : ∃ y, y = dk[j2]! := ⟨_, rfl⟩
          have S2 : Aside (SW (Value.float .f64) w0 blk off (Go.Sort.swp dk k j2) ((wr.setCell ⟨blk, off + k, none⟩ ((Value.float .f64) y)).setCell ⟨blk, off + j2, none⟩ ((Value.float .f64) x)).drew) := by rw [hx, hy]; exact S1.out.swapped R k j2 hi2 hj3
          have ca := S1.out.c1 R (by omega) k hi2
          have cb_ := S1.out.c1 R (by omega) j2 hj3
          have fa := S1.out.f1 R (by omega) k hi2
          have fb := S1.out.f1 R (by omega) j2 hj3
          obtain ⟨u, cc⟩ := S1.out.c2 R (by omega) k j2 hi2 hj3 ((Value.float .f64) y)
          rw [← hx] at ca
          rw [← hy] at cb_
          have HJ := Aside0.mk hj2
          clear S1 hx hy hj2
          go_upto_region 23 with (fail)
          go_region
          clear ca cb_ cc fa fb
          generalize ((wr.setCell ⟨blk, off + k, none⟩ ((Value.float .f64) y)).setCell ⟨blk, off + j2, none⟩ ((Value.float .f64) x)).drew = w2 at S2 ⊢
          clear ec
          go_wp2
          go_roundg (gk - 1)
          case measure => omega
          case rel => exact ⟨k - 1, Go.Sort.swp dk k j2, by first | rw [HJM.out] | rfl, ⟨by omega⟩, ⟨by omega⟩, by rw [Go.Sort.size_swp]; exact hds, S2, ⟨by have h := HE.out; rw [show k - i = (k - 1 - i) + 1 by omega, St.shL] at h; rw [HJ.out]; exact h⟩⟩
        · have p1 : ¬ (i : Int) < (k : Int) := by omega
          go_wp2
          (try simp only [Exit.inBlock, Exit.then]); refine bodyPost_ret (results_none rfl _ _ _) rfl ?_
          exact ⟨rfl, by have h := HE.out; rw [show k - i = 0 by omega, St.shL] at h; rw [HG2.out, ← h]; exact S1.out⟩
noncomputable def stSnd : Nat → Code → Code
  | 0, c => c
  | n + 1, .seq _ b => stSnd n b
  | _ + 1, c => c
/-- symMerge's code behind its first n statements -/
noncomputable def stRest (n : Nat) : Code := stSnd n (Try.f43.body.getD .skip)
set_option maxHeartbeats 8000000 in
set_option maxRecDepth 1000000 in
theorem st_tail3 (g : Nat) (cb : Array Value) (cf : Nat → Nat → Int) (blk off cap sz f a m b mid s e : Nat) (d0 d : Array Nat) (w0 w : World) (R : Row1 (Value.float .f64) w0 blk off d0) (hd : d.size = sz) (hs : d0.size = sz) (S : SW (Value.float .f64) w0 blk off d w) (hb : b ≤ sz) (hsz : sz < 1152921504606846976)
    (IH : ∀ (a' m' b' : Nat) (d' : Array Nat) (w' : World), SW (Value.float .f64) w0 blk off d' w' → d'.size = sz → a' < m' → m' < b' → b' ≤ sz → b' - a' < b - a →
      Calls Try.prog 43 #[.slice (some ⟨blk, off, none⟩) sz cap, .int .i64 a', .int .i64 m', .int .i64 b', .func (.func g) #[] cb] w' fun e w'' => e = .returned (.tuple #[]) ∧ SW (Value.float .f64) w0 blk off (St.symM (ltOf cf) f a' m' b' d') w'')
    (g2 : a ≤ s) (g3 : e ≤ b) (g4 : mid ≤ e) (g5 : s ≤ m) (g6 : s ≤ mid) (g7 : m ≤ e) (ham : a < m) (hmb : m < b) (hm1 : a < mid) (hm2 : mid < b) {c5 c6 c7 c8 c9 c10 c11 c12 c13 c14 c15 c16 c17 c19 c21 c22 c23 c25 c26 c27 c28 c29 c30 c31 c32 c33 c34 c35 c36 c37 c38 c39 c40 c41 c42 c43 c44 c45 c46 c47 c48 c49 c50 c51 c52 c53 c54 c55 c56 c57 c58 c59 c60 c61 c62 c63 c64 c65 c66 c67 c68 c69 c70 c71 c72 c73 c74 c75 c76 c77 c78 c79 c80 c81 c82 c83 c84 c85 c86 c87 c88 c89 c90 c91 c92 c93 c94 c95 c96 c97 c98 c99 c100 c101 c102 c103 c104 c105 c106 c107 c108 c109 c110 c111 c112 c113 c114 c115 c116 c117 c118 c119 c120 c121 c122 c123 c124 c125 c126 c127 c128 c129 c130 c131 c132 c133 c134 c135 c136 c137 c138 c139 c140 c141 c142 c143 c144 c145 c146 c147 c148 c149 c150 c151 c152 c153 c154 c155 c156 c157 c158 c159 c160 c161 c162 c163 c164 c165 c166 c167 c168 c169 c170 c171 c172 c173 c174 c175 c176 c177 c178 c179 c180 c181 c182 c183 c184 c185 c186 c187 c188 c189 c190 c191 c192 c193 c194 c195 c196 c197 c198 c199 c200 c201 c202 c203 c204 c205 c206 c207 c208 c209 c210 c211 c212 c213 c214 c215 c216 c217 c218 c219 : Value}  (D : Array Nat) (hD : (if mid < e ∧ e < b then St.symM (ltOf cf) f mid e b (d) else (d)) = D) :
    Code.wp Try.prog (stRest 11) (bodyPost Try.prog Try.f43 fun e_ w' => e_ = .returned (.tuple #[]) ∧ SW (Value.float .f64) w0 blk off D w') ⟨(List.toArray ((Value.slice (some ⟨blk, off, none⟩) sz cap) :: (Value.int .i64 a) :: (Value.int .i64 m) :: (Value.int .i64 b) :: (Value.func (.func g) #[] cb) :: c5 :: c6 :: c7 :: c8 :: c9 :: c10 :: c11 :: c12 :: c13 :: c14 :: c15 :: c16 :: c17 :: (Value.int .i64 mid) :: c19 :: (Value.int .i64 s) :: c21 :: c22 :: c23 :: (Value.int .i64 e) :: c25 :: c26 :: c27 :: c28 :: c29 :: c30 :: c31 :: c32 :: c33 :: c34 :: c35 :: c36 :: c37 :: c38 :: c39 :: c40 :: c41 :: c42 :: c43 :: c44 :: c45 :: c46 :: c47 :: c48 :: c49 :: c50 :: c51 :: c52 :: c53 :: c54 :: c55 :: c56 :: c57 :: c58 :: c59 :: c60 :: c61 :: c62 :: c63 :: c64 :: c65 :: c66 :: c67 :: c68 :: c69 :: c70 :: c71 :: c72 :: c73 :: c74 :: c75 :: c76 :: c77 :: c78 :: c79 :: c80 :: c81 :: c82 :: c83 :: c84 :: c85 :: c86 :: c87 :: c88 :: c89 :: c90 :: c91 :: c92 :: c93 :: c94 :: c95 :: c96 :: c97 :: c98 :: c99 :: c100 :: c101 :: c102 :: c103 :: c104 :: c105 :: c106 :: c107 :: c108 :: c109 :: c110 :: c111 :: c112 :: c113 :: c114 :: c115 :: c116 :: c117 :: c118 :: c119 :: c120 :: c121 :: c122 :: c123 :: c124 :: c125 :: c126 :: c127 :: c128 :: c129 :: c130 :: c131 :: c132 :: c133 :: c134 :: c135 :: c136 :: c137 :: c138 :: c139 :: c140 :: c141 :: c142 :: c143 :: c144 :: c145 :: c146 :: c147 :: c148 :: c149 :: c150 :: c151 :: c152 :: c153 :: c154 :: c155 :: c156 :: c157 :: c158 :: c159 :: c160 :: c161 :: c162 :: c163 :: c164 :: c165 :: c166 :: c167 :: c168 :: c169 :: c170 :: c171 :: c172 :: c173 :: c174 :: c175 :: c176 :: c177 :: c178 :: c179 :: c180 :: c181 :: c182 :: c183 :: c184 :: c185 :: c186 :: c187 :: c188 :: c189 :: c190 :: c191 :: c192 :: c193 :: c194 :: c195 :: c196 :: c197 :: c198 :: c199 :: c200 :: c201 :: c202 :: c203 :: c204 :: c205 :: c206 :: c207 :: c208 :: c209 :: c210 :: c211 :: c212 :: c213 :: c214 :: c215 :: c216 :: c217 :: c218 :: c219 :: [])), []⟩ w := by
  have S1 : Aside (SW (Value.float .f64) w0 blk off d w) := S
  have HIH := Aside0.mk IH
  clear S IH
  have HB2 := Aside0.mk g2
  have HD := Aside0.mk hD
  clear hD
  conv => arg 2; whnf
  go_upto_region 43 with (fail)
  go_cut [213] (fun v_ wd => v_ = .bool (decide (mid < e ∧ e < b)) ∧ wd = w)
  case first =>
    by_cases c1 : mid < e
    · have c1z : decide ((mid : Int) < (e : Int)) = true := decide_eq_true (by omega)
      have c1y : decide (mid < e) = true := decide_eq_true c1
      by_cases c2 : e < b
      · have c2z : decide ((e : Int) < (b : Int)) = true := decide_eq_true (by omega)
        have c2y : decide (e < b) = true := decide_eq_true c2
        have D_ := Aside0.mk (decide_eq_true (show mid < e ∧ e < b from ⟨c1, c2⟩))
        clear c1 c2
        go_wp2
        go_meet
        case rel => exact ⟨by rw [D_.out], rfl⟩
      · have c2z : decide ((e : Int) < (b : Int)) = false := decide_eq_false (by omega)
        have c2y : decide (e < b) = false := decide_eq_false c2
        have D_ := Aside0.mk (decide_eq_false (show ¬ (mid < e ∧ e < b) by omega))
        clear c1 c2
        go_wp2
        go_meet
        case rel => exact ⟨by rw [D_.out], rfl⟩
    · have c1z : decide ((mid : Int) < (e : Int)) = false := decide_eq_false (by omega)
      have c1y : decide (mid < e) = false := decide_eq_false c1
      have D_ := Aside0.mk (decide_eq_false (show ¬ (mid < e ∧ e < b) by omega))
      clear c1
      go_wp2
      go_meet
      case rel => exact ⟨by rw [D_.out], rfl⟩
  case rest =>
    obtain ⟨rfl, rfl⟩ := hcut
    apply_assumption
    by_cases c : mid < e ∧ e < b
    · rw [decide_eq_true c]
      have CC := Aside0.mk c
      clear c
      go_wp2_with (go_at_call 43; refine (HIH.out mid e b d _ S1.out hd CC.out.1 CC.out.2 hb (by omega)).mono ?_; rintro e_ w5 ⟨rfl, hS⟩; have S5 : Aside (SW (Value.float .f64) w0 blk off (St.symM (ltOf cf) f mid e b d) w5) := hS; clear hS)
      go_end0
      exact ⟨rfl, by rw [← HD.out, if_pos CC.out]; exact S5.out⟩
    · rw [decide_eq_false c]
      have CC := Aside0.mk c
      clear c
      go_wp2
      go_end0
      exact ⟨rfl, by rw [← HD.out, if_neg CC.out]; exact S1.out⟩
set_option maxHeartbeats 8000000 in
set_option maxRecDepth 1000000 in
theorem st_tail2 (g : Nat) (cb : Array Value) (cf : Nat → Nat → Int) (blk off cap sz f a m b mid s e : Nat) (d0 d : Array Nat) (w0 w : World) (R : Row1 (Value.float .f64) w0 blk off d0) (hd : d.size = sz) (hs : d0.size = sz) (S : SW (Value.float .f64) w0 blk off d w) (hb : b ≤ sz) (hsz : sz < 1152921504606846976)
    (IH : ∀ (a' m' b' : Nat) (d' : Array Nat) (w' : World), SW (Value.float .f64) w0 blk off d' w' → d'.size = sz → a' < m' → m' < b' → b' ≤ sz → b' - a' < b - a →
      Calls Try.prog 43 #[.slice (some ⟨blk, off, none⟩) sz cap, .int .i64 a', .int .i64 m', .int .i64 b', .func (.func g) #[] cb] w' fun e w'' => e = .returned (.tuple #[]) ∧ SW (Value.float .f64) w0 blk off (St.symM (ltOf cf) f a' m' b' d') w'')
    (g2 : a ≤ s) (g3 : e ≤ b) (g4 : mid ≤ e) (g5 : s ≤ m) (g6 : s ≤ mid) (g7 : m ≤ e) (ham : a < m) (hmb : m < b) (hm1 : a < mid) (hm2 : mid < b) {c5 c6 c7 c8 c9 c10 c11 c12 c13 c14 c15 c16 c17 c19 c21 c22 c23 c25 c26 c27 c28 c29 c30 c31 c32 c33 c34 c35 c36 c37 c38 c39 c40 c41 c42 c43 c44 c45 c46 c47 c48 c49 c50 c51 c52 c53 c54 c55 c56 c57 c58 c59 c60 c61 c62 c63 c64 c65 c66 c67 c68 c69 c70 c71 c72 c73 c74 c75 c76 c77 c78 c79 c80 c81 c82 c83 c84 c85 c86 c87 c88 c89 c90 c91 c92 c93 c94 c95 c96 c97 c98 c99 c100 c101 c102 c103 c104 c105 c106 c107 c108 c109 c110 c111 c112 c113 c114 c115 c116 c117 c118 c119 c120 c121 c122 c123 c124 c125 c126 c127 c128 c129 c130 c131 c132 c133 c134 c135 c136 c137 c138 c139 c140 c141 c142 c143 c144 c145 c146 c147 c148 c149 c150 c151 c152 c153 c154 c155 c156 c157 c158 c159 c160 c161 c162 c163 c164 c165 c166 c167 c168 c169 c170 c171 c172 c173 c174 c175 c176 c177 c178 c179 c180 c181 c182 c183 c184 c185 c186 c187 c188 c189 c190 c191 c192 c193 c194 c195 c196 c197 c198 c199 c200 c201 c202 c203 c204 c205 c206 c207 c208 c209 c210 c211 c212 c213 c214 c215 c216 c217 c218 c219 : Value}  (D : Array Nat) (hD : (if mid < e ∧ e < b then St.symM (ltOf cf) f mid e b ((if a < s ∧ s < mid then St.symM (ltOf cf) f a s mid d else d)) else ((if a < s ∧ s < mid then St.symM (ltOf cf) f a s mid d else d))) = D) :
    Code.wp Try.prog (stRest 10) (bodyPost Try.prog Try.f43 fun e_ w' => e_ = .returned (.tuple #[]) ∧ SW (Value.float .f64) w0 blk off D w') ⟨(List.toArray ((Value.slice (some ⟨blk, off, none⟩) sz cap) :: (Value.int .i64 a) :: (Value.int .i64 m) :: (Value.int .i64 b) :: (Value.func (.func g) #[] cb) :: c5 :: c6 :: c7 :: c8 :: c9 :: c10 :: c11 :: c12 :: c13 :: c14 :: c15 :: c16 :: c17 :: (Value.int .i64 mid) :: c19 :: (Value.int .i64 s) :: c21 :: c22 :: c23 :: (Value.int .i64 e) :: c25 :: c26 :: c27 :: c28 :: c29 :: c30 :: c31 :: c32 :: c33 :: c34 :: c35 :: c36 :: c37 :: c38 :: c39 :: c40 :: c41 :: c42 :: c43 :: c44 :: c45 :: c46 :: c47 :: c48 :: c49 :: c50 :: c51 :: c52 :: c53 :: c54 :: c55 :: c56 :: c57 :: c58 :: c59 :: c60 :: c61 :: c62 :: c63 :: c64 :: c65 :: c66 :: c67 :: c68 :: c69 :: c70 :: c71 :: c72 :: c73 :: c74 :: c75 :: c76 :: c77 :: c78 :: c79 :: c80 :: c81 :: c82 :: c83 :: c84 :: c85 :: c86 :: c87 :: c88 :: c89 :: c90 :: c91 :: c92 :: c93 :: c94 :: c95 :: c96 :: c97 :: c98 :: c99 :: c100 :: c101 :: c102 :: c103 :: c104 :: c105 :: c106 :: c107 :: c108 :: c109 :: c110 :: c111 :: c112 :: c113 :: c114 :: c115 :: c116 :: c117 :: c118 :: c119 :: c120 :: c121 :: c122 :: c123 :: c124 :: c125 :: c126 :: c127 :: c128 :: c129 :: c130 :: c131 :: c132 :: c133 :: c134 :: c135 :: c136 :: c137 :: c138 :: c139 :: c140 :: c141 :: c142 :: c143 :: c144 :: c145 :: c146 :: c147 :: c148 :: c149 :: c150 :: c151 :: c152 :: c153 :: c154 :: c155 :: c156 :: c157 :: c158 :: c159 :: c160 :: c161 :: c162 :: c163 :: c164 :: c165 :: c166 :: c167 :: c168 :: c169 :: c170 :: c171 :: c172 :: c173 :: c174 :: c175 :: c176 :: c177 :: c178 :: c179 :: c180 :: c181 :: c182 :: c183 :: c184 :: c185 :: c186 :: c187 :: c188 :: c189 :: c190 :: c191 :: c192 :: c193 :: c194 :: c195 :: c196 :: c197 :: c198 :: c199 :: c200 :: c201 :: c202 :: c203 :: c204 :: c205 :: c206 :: c207 :: c208 :: c209 :: c210 :: c211 :: c212 :: c213 :: c214 :: c215 :: c216 :: c217 :: c218 :: c219 :: [])), []⟩ w := by
  have S1 : Aside (SW (Value.float .f64) w0 blk off d w) := S
  have HIH := Aside0.mk IH
  clear S IH
  have HB2 := Aside0.mk g2
  have HD := Aside0.mk hD
  clear hD
  conv => arg 2; whnf
  go_upto_region 41 with (fail)
  go_cut [199] (fun v_ wd => v_ = .bool (decide (a < s ∧ s < mid)) ∧ wd = w)
  case first =>
    by_cases c1 : a < s
    · have c1z : decide ((a : Int) < (s : Int)) = true := decide_eq_true (by omega)
      have c1y : decide (a < s) = true := decide_eq_true c1
      by_cases c2 : s < mid
      · have c2z : decide ((s : Int) < (mid : Int)) = true := decide_eq_true (by omega)
        have c2y : decide (s < mid) = true := decide_eq_true c2
        have D_ := Aside0.mk (decide_eq_true (show a < s ∧ s < mid from ⟨c1, c2⟩))
        clear c1 c2
        go_wp2
        go_meet
        case rel => exact ⟨by rw [D_.out], rfl⟩
      · have c2z : decide ((s : Int) < (mid : Int)) = false := decide_eq_false (by omega)
        have c2y : decide (s < mid) = false := decide_eq_false c2
        have D_ := Aside0.mk (decide_eq_false (show ¬ (a < s ∧ s < mid) by omega))
        clear c1 c2
        go_wp2
        go_meet
        case rel => exact ⟨by rw [D_.out], rfl⟩
    · have c1z : decide ((a : Int) < (s : Int)) = false := decide_eq_false (by omega)
      have c1y : decide (a < s) = false := decide_eq_false c1
      have D_ := Aside0.mk (decide_eq_false (show ¬ (a < s ∧ s < mid) by omega))
      clear c1
      go_wp2
      go_meet
      case rel => exact ⟨by rw [D_.out], rfl⟩
  case rest =>
    obtain ⟨rfl, rfl⟩ := hcut
    go_upto_if 199 with (fail)
    go_cut [] (fun wd => Aside (SW (Value.float .f64) w0 blk off ((if a < s ∧ s < mid then St.symM (ltOf cf) f a s mid d else d)) wd))
    case first =>
      by_cases c : a < s ∧ s < mid
      · have HR_ := Aside0.mk (show ((if a < s ∧ s < mid then St.symM (ltOf cf) f a s mid d else d)) = St.symM (ltOf cf) f a s mid d by rw [if_pos c])
        rw [decide_eq_true c]
        have CC := Aside0.mk c
        clear c
        go_wp2_with (go_at_call 43; refine (HIH.out a s mid d _ S1.out hd CC.out.1 CC.out.2 (by omega) (by omega)).mono ?_; rintro e_ w5 ⟨rfl, hS⟩; have S5 : Aside (SW (Value.float .f64) w0 blk off (St.symM (ltOf cf) f a s mid d) w5) := hS; clear hS)
        go_meet
        case rel => rw [HR_.out]; exact S5
      · have HR_ := Aside0.mk (show ((if a < s ∧ s < mid then St.symM (ltOf cf) f a s mid d else d)) = d by rw [if_neg c])
        rw [decide_eq_false c]
        clear c
        go_wp2
        go_meet
        case rel => rw [HR_.out]; exact S1
    case rest =>
      have S2 := hcut
      clear hcut S1
      apply_assumption
      exact st_tail3 g cb cf blk off cap sz f a m b mid s e d0 _ w0 _ R (by split <;> first | exact hd | (rw [St.symM_size]; exact hd)) hs S2.out hb hsz HIH.out HB2.out g3 g4 g5 g6 g7 ham hmb hm1 hm2 D HD.out
set_option maxHeartbeats 8000000 in
set_option maxRecDepth 1000000 in
theorem st_tail1 (g : Nat) (cb : Array Value) (cf : Nat → Nat → Int) (blk off cap sz f a m b mid s e : Nat) (d0 d : Array Nat) (w0 w : World) (R : Row1 (Value.float .f64) w0 blk off d0) (hd : d.size = sz) (hs : d0.size = sz) (S : SW (Value.float .f64) w0 blk off d w) (hb : b ≤ sz) (hsz : sz < 1152921504606846976)
    (IH : ∀ (a' m' b' : Nat) (d' : Array Nat) (w' : World), SW (Value.float .f64) w0 blk off d' w' → d'.size = sz → a' < m' → m' < b' → b' ≤ sz → b' - a' < b - a →
      Calls Try.prog 43 #[.slice (some ⟨blk, off, none⟩) sz cap, .int .i64 a', .int .i64 m', .int .i64 b', .func (.func g) #[] cb] w' fun e w'' => e = .returned (.tuple #[]) ∧ SW (Value.float .f64) w0 blk off (St.symM (ltOf cf) f a' m' b' d') w'')
    (g2 : a ≤ s) (g3 : e ≤ b) (g4 : mid ≤ e) (g5 : s ≤ m) (g6 : s ≤ mid) (g7 : m ≤ e) (ham : a < m) (hmb : m < b) (hm1 : a < mid) (hm2 : mid < b) {c5 c6 c7 c8 c9 c10 c11 c12 c13 c14 c15 c16 c17 c19 c21 c22 c23 c25 c26 c27 c28 c29 c30 c31 c32 c33 c34 c35 c36 c37 c38 c39 c40 c41 c42 c43 c44 c45 c46 c47 c48 c49 c50 c51 c52 c53 c54 c55 c56 c57 c58 c59 c60 c61 c62 c63 c64 c65 c66 c67 c68 c69 c70 c71 c72 c73 c74 c75 c76 c77 c78 c79 c80 c81 c82 c83 c84 c85 c86 c87 c88 c89 c90 c91 c92 c93 c94 c95 c96 c97 c98 c99 c100 c101 c102 c103 c104 c105 c106 c107 c108 c109 c110 c111 c112 c113 c114 c115 c116 c117 c118 c119 c120 c121 c122 c123 c124 c125 c126 c127 c128 c129 c130 c131 c132 c133 c134 c135 c136 c137 c138 c139 c140 c141 c142 c143 c144 c145 c146 c147 c148 c149 c150 c151 c152 c153 c154 c155 c156 c157 c158 c159 c160 c161 c162 c163 c164 c165 c166 c167 c168 c169 c170 c171 c172 c173 c174 c175 c176 c177 c178 c179 c180 c181 c182 c183 c184 c185 c186 c187 c188 c189 c190 c191 c192 c193 c194 c195 c196 c197 c198 c199 c200 c201 c202 c203 c204 c205 c206 c207 c208 c209 c210 c211 c212 c213 c214 c215 c216 c217 c218 c219 : Value}  (D : Array Nat) (hD : (if mid < e ∧ e < b then St.symM (ltOf cf) f mid e b ((if a < s ∧ s < mid then St.symM (ltOf cf) f a s mid (St.symR d s m e) else (St.symR d s m e))) else ((if a < s ∧ s < mid then St.symM (ltOf cf) f a s mid (St.symR d s m e) else (St.symR d s m e)))) = D) :
    Code.wp Try.prog (stRest 9) (bodyPost Try.prog Try.f43 fun e_ w' => e_ = .returned (.tuple #[]) ∧ SW (Value.float .f64) w0 blk off D w') ⟨(List.toArray ((Value.slice (some ⟨blk, off, none⟩) sz cap) :: (Value.int .i64 a) :: (Value.int .i64 m) :: (Value.int .i64 b) :: (Value.func (.func g) #[] cb) :: c5 :: c6 :: c7 :: c8 :: c9 :: c10 :: c11 :: c12 :: c13 :: c14 :: c15 :: c16 :: c17 :: (Value.int .i64 mid) :: c19 :: (Value.int .i64 s) :: c21 :: c22 :: c23 :: (Value.int .i64 e) :: c25 :: c26 :: c27 :: c28 :: c29 :: c30 :: c31 :: c32 :: c33 :: c34 :: c35 :: c36 :: c37 :: c38 :: c39 :: c40 :: c41 :: c42 :: c43 :: c44 :: c45 :: c46 :: c47 :: c48 :: c49 :: c50 :: c51 :: c52 :: c53 :: c54 :: c55 :: c56 :: c57 :: c58 :: c59 :: c60 :: c61 :: c62 :: c63 :: c64 :: c65 :: c66 :: c67 :: c68 :: c69 :: c70 :: c71 :: c72 :: c73 :: c74 :: c75 :: c76 :: c77 :: c78 :: c79 :: c80 :: c81 :: c82 :: c83 :: c84 :: c85 :: c86 :: c87 :: c88 :: c89 :: c90 :: c91 :: c92 :: c93 :: c94 :: c95 :: c96 :: c97 :: c98 :: c99 :: c100 :: c101 :: c102 :: c103 :: c104 :: c105 :: c106 :: c107 :: c108 :: c109 :: c110 :: c111 :: c112 :: c113 :: c114 :: c115 :: c116 :: c117 :: c118 :: c119 :: c120 :: c121 :: c122 :: c123 :: c124 :: c125 :: c126 :: c127 :: c128 :: c129 :: c130 :: c131 :: c132 :: c133 :: c134 :: c135 :: c136 :: c137 :: c138 :: c139 :: c140 :: c141 :: c142 :: c143 :: c144 :: c145 :: c146 :: c147 :: c148 :: c149 :: c150 :: c151 :: c152 :: c153 :: c154 :: c155 :: c156 :: c157 :: c158 :: c159 :: c160 :: c161 :: c162 :: c163 :: c164 :: c165 :: c166 :: c167 :: c168 :: c169 :: c170 :: c171 :: c172 :: c173 :: c174 :: c175 :: c176 :: c177 :: c178 :: c179 :: c180 :: c181 :: c182 :: c183 :: c184 :: c185 :: c186 :: c187 :: c188 :: c189 :: c190 :: c191 :: c192 :: c193 :: c194 :: c195 :: c196 :: c197 :: c198 :: c199 :: c200 :: c201 :: c202 :: c203 :: c204 :: c205 :: c206 :: c207 :: c208 :: c209 :: c210 :: c211 :: c212 :: c213 :: c214 :: c215 :: c216 :: c217 :: c218 :: c219 :: [])), []⟩ w := by
  have S1 : Aside (SW (Value.float .f64) w0 blk off d w) := S
  have HIH := Aside0.mk IH
  clear S IH
  have HB2 := Aside0.mk g2
  have HD := Aside0.mk hD
  clear hD
  conv => arg 2; whnf
  go_upto_region 39 with (fail)
  go_cut [185] (fun v_ wd => v_ = .bool (decide (s < m ∧ m < e)) ∧ wd = w)
  case first =>
    by_cases c1 : s < m
    · have c1z : decide ((s : Int) < (m : Int)) = true := decide_eq_true (by omega)
      have c1y : decide (s < m) = true := decide_eq_true c1
      by_cases c2 : m < e
      · have c2z : decide ((m : Int) < (e : Int)) = true := decide_eq_true (by omega)
        have c2y : decide (m < e) = true := decide_eq_true c2
        have D_ := Aside0.mk (decide_eq_true (show s < m ∧ m < e from ⟨c1, c2⟩))
        clear c1 c2
        go_wp2
        go_meet
        case rel => exact ⟨by rw [D_.out], rfl⟩
      · have c2z : decide ((m : Int) < (e : Int)) = false := decide_eq_false (by omega)
        have c2y : decide (m < e) = false := decide_eq_false c2
        have D_ := Aside0.mk (decide_eq_false (show ¬ (s < m ∧ m < e) by omega))
        clear c1 c2
        go_wp2
        go_meet
        case rel => exact ⟨by rw [D_.out], rfl⟩
    · have c1z : decide ((s : Int) < (m : Int)) = false := decide_eq_false (by omega)
      have c1y : decide (s < m) = false := decide_eq_false c1
      have D_ := Aside0.mk (decide_eq_false (show ¬ (s < m ∧ m < e) by omega))
      clear c1
      go_wp2
      go_meet
      case rel => exact ⟨by rw [D_.out], rfl⟩
  case rest =>
    obtain ⟨rfl, rfl⟩ := hcut
    go_upto_if 185 with (fail)
    go_cut [] (fun wd => Aside (SW (Value.float .f64) w0 blk off (St.symR d s m e) wd))
    case first =>
      by_cases c : s < m ∧ m < e
      · have HR_ := Aside0.mk (show (St.symR d s m e) = St.rot d s m e by unfold St.symR; rw [if_pos c])
        rw [decide_eq_true c]
        have CC := Aside0.mk c
        clear c
        go_wp2_with (go_at_call 44; refine (st_rot g cb blk off cap sz s m e d0 d w0 _ R hd hs S1.out CC.out.1 CC.out.2 (by omega) (by omega)).mono ?_; rintro e_ w5 ⟨rfl, hS⟩; have S5 : Aside (SW (Value.float .f64) w0 blk off (St.rot d s m e) w5) := hS; clear hS)
        go_meet
        case rel => rw [HR_.out]; exact S5
      · have HR_ := Aside0.mk (show (St.symR d s m e) = d by unfold St.symR; rw [if_neg c])
        rw [decide_eq_false c]
        clear c
        go_wp2
        go_meet
        case rel => rw [HR_.out]; exact S1
    case rest =>
      have S2 := hcut
      clear hcut S1
      apply_assumption
      exact st_tail2 g cb cf blk off cap sz f a m b mid s e d0 _ w0 _ R (by rw [St.symR_size]; exact hd) hs S2.out hb hsz HIH.out HB2.out g3 g4 g5 g6 g7 ham hmb hm1 hm2 D HD.out
set_option maxHeartbeats 16000000 in
set_option maxRecDepth 1000000 in
theorem st_symC (g : Nat) (cb : Array Value) (cf : Nat → Nat → Int) (blk off cap sz f a m b : Nat) (d0 d : Array Nat) (w0 w : World) (eg : ∀ args w, (callFunc g args).run Try.prog w = .ok (.enter g args) w) (hcmp : CmpLays1 Try.prog g cb (Value.float .f64) cf blk off sz w0)
    (R : Row1 (Value.float .f64) w0 blk off d0) (hd : d.size = sz) (hs : d0.size = sz) (S : SW (Value.float .f64) w0 blk off d w) (hma : m - a ≠ 1) (ham : a < m) (hbm : b - m ≠ 1) (hmb : m < b) (hb : b ≤ sz) (hsz : sz < 1152921504606846976)
    (IH : ∀ (a' m' b' : Nat) (d' : Array Nat) (w' : World), SW (Value.float .f64) w0 blk off d' w' → d'.size = sz → a' < m' → m' < b' → b' ≤ sz → b' - a' < b - a →
      Calls Try.prog 43 #[.slice (some ⟨blk, off, none⟩) sz cap, .int .i64 a', .int .i64 m', .int .i64 b', .func (.func g) #[] cb] w' fun e w'' => e = .returned (.tuple #[]) ∧ SW (Value.float .f64) w0 blk off (St.symM (ltOf cf) f a' m' b' d') w'') :
    Calls Try.prog 43 #[.slice (some ⟨blk, off, none⟩) sz cap, .int .i64 a, .int .i64 m, .int .i64 b, .func (.func g) #[] cb] w fun e w' => e = .returned (.tuple #[]) ∧ SW (Value.float .f64) w0 blk off (St.symM (ltOf cf) (f + 1) a m b d) w' := by
  have HG : Aside0 _ := Aside0.mk (St.symM.eq_2 (ltOf cf) a m b d f)
  have hst := R.hO.store Try.prog
  have mixed : Try.prog.follows .mixedOrders = true := by kernel_rfl
  have S0 : Aside (SW (Value.float .f64) w0 blk off d w) := S
  have HC : Aside _ := hcmp
  have HIH := Aside0.mk IH
  clear S hcmp IH
  obtain ⟨q1, hq1⟩ : ∃ q : Nat, (m : Int) - (a : Int) = (q : Int) := ⟨m - a, by omega⟩
  have hq2 : ((q1 : Int) == 1) = false := by simp; omega
  obtain ⟨q3, hq3⟩ : ∃ q : Nat, (b : Int) - (m : Int) = (q : Int) := ⟨b - m, by omega⟩
  have hq4 : ((q3 : Int) == 1) = false := by simp; omega
  obtain ⟨mid, hmid⟩ : ∃ q, q = (a + b) / 2 := ⟨_, rfl⟩
  obtain ⟨lo, hlo⟩ : ∃ q, q = St.symLo a m b := ⟨_, rfl⟩
  obtain ⟨hi, hhi⟩ : ∃ q, q = St.symHi a m b := ⟨_, rfl⟩
  have hlo2 : lo = if mid < m then mid + m - b else a := by rw [hlo, hmid]; rfl
  have hhi2 : hi = if mid < m then mid else m := by rw [hhi, hmid]; rfl
  have hmid1 : a < mid ∧ mid < b := by omega
  have hmid2 : 2 * mid ≤ a + b ∧ a + b ≤ 2 * mid + 1 := by omega
  obtain ⟨s, hsE⟩ : ∃ q, q = St.symS (ltOf cf) d a m b := ⟨_, rfl⟩
  have hsr : lo ≤ s ∧ s ≤ hi := by rw [hsE, hlo, hhi]; exact St.bs_range _ _ _ _ (by rw [← hlo, ← hhi, hlo2, hhi2]; split <;> omega)
  have hloR : (mid < m → lo = mid + m - b ∧ hi = mid) ∧ (¬ mid < m → lo = a ∧ hi = m) := by
    constructor
    · intro h; rw [hlo2, hhi2, if_pos h, if_pos h]; exact ⟨rfl, rfl⟩
    · intro h; rw [hlo2, hhi2, if_neg h, if_neg h]; exact ⟨rfl, rfl⟩
  have HS : Aside0 (St.bs (fun c => !ltOf cf d[mid + m - 1 - c]! d[c]!) (hi - lo) lo hi = s) := ⟨by rw [hsE, hlo, hhi, hmid]; rfl⟩
  have HG2 : Aside0 (St.symM (ltOf cf) (f + 1) a m b d = if mid < mid + m - s ∧ mid + m - s < b then St.symM (ltOf cf) f mid (mid + m - s) b (if a < s ∧ s < mid then St.symM (ltOf cf) f a s mid (St.symR d s m (mid + m - s)) else St.symR d s m (mid + m - s)) else (if a < s ∧ s < mid then St.symM (ltOf cf) f a s mid (St.symR d s m (mid + m - s)) else St.symR d s m (mid + m - s))) := ⟨by rw [St.symM, if_neg hma, if_neg hbm, hsE, hmid]⟩
  have HLO := Aside0.mk hloR
  have HMID := Aside0.mk hmid
  have HSR := Aside0.mk hsr
  clear HG hmid hlo hhi hlo2 hhi2 hsE hloR hsr
  go_enter Try.func43, Try.ntmps43
  go_upto_region 24 with (fail)
  go_cut [18] (fun v18 wd => v18 = .int .i64 mid ∧ wd = w)
  case first =>
    go_wp2
    go_meet
    case rel => exact ⟨by congr 1; have := HMID.out; omega, rfl⟩
  case rest =>
    obtain ⟨rfl, rfl⟩ := hcut
    go_upto_if 140 with (fail)
    go_cut [20, 21] (fun v20 v21 wd => v20 = .int .i64 lo ∧ v21 = .int .i64 hi ∧ wd = wc)
    case first =>
      by_cases c : mid < m
      · obtain ⟨e1, e2⟩ := HLO.out.1 c
        have c1 : (mid : Int) < (m : Int) := by omega
        have E1 := Aside0.mk (show (mid : Int) + (m : Int) - (b : Int) = (lo : Int) by omega)
        subst e2
        go_wp2
        go_meet
        case rel => exact ⟨by rw [E1.out], rfl, rfl⟩
      · obtain ⟨e1, e2⟩ := HLO.out.2 c
        have c1 : ¬ (mid : Int) < (m : Int) := by omega
        subst e1
        subst e2
        go_wp2
        go_meet
        case rel => exact ⟨rfl, rfl, rfl⟩
    case rest =>
      obtain ⟨rfl, rfl, rfl⟩ := hcut
      obtain ⟨p, hp⟩ : ∃ p, p = mid + m - 1 := ⟨_, rfl⟩
      have hp1 : (mid : Int) + (m : Int) - 1 = (p : Int) := by omega
      have HP1 := Aside0.mk hp1
      have HP := Aside0.mk hp
      clear hp1 hp
      go_upto_region 32 with (fail)
      go_cut [22] (fun v22 wd => v22 = .int .i64 p ∧ wd = wc)
      case first =>
        go_wp2
        go_meet
        case rel => exact ⟨by rw [HP1.out], rfl⟩
      case rest =>
        obtain ⟨rfl, rfl⟩ := hcut
        go_wp2
        go_loopg [20, 21] (hi - lo) (fun kx s10 s11 wr => ∃ (i j : Nat), s10 = .int .i64 i ∧ s11 = .int .i64 j ∧ Aside0 (lo ≤ i ∧ i ≤ j ∧ j ≤ hi) ∧ Aside0 (j - i ≤ kx) ∧ Aside (SW (Value.float .f64) w0 blk off d wr) ∧ Aside0 (St.bs (fun c => !ltOf cf d[mid + m - 1 - c]! d[c]!) kx i j = s))
        case atStart => exact ⟨lo, hi, rfl, rfl, ⟨by have := HSR.out; omega⟩, ⟨Nat.le_refl _⟩, S0, HS⟩
        case round =>
          clear S0
          obtain ⟨i, j, rfl, rfl, HI, HK, S1, HE⟩ := hrel
          obtain ⟨h1, h2, h3⟩ := HI.out
          have hk := HK.out
          by_cases hlt : i < j
          · have hltz : (i : Int) < (j : Int) := by omega
            obtain ⟨kx, rfl⟩ : ∃ q, gk = q + 1 := ⟨gk - 1, by omega⟩
            have hE := HE.out
            rw [St.bs, if_pos hlt] at hE
            obtain ⟨h, hh⟩ : ∃ h, h = (i + j) / 2 := ⟨_, rfl⟩
            rw [← hh] at hE
            have hhi : i ≤ h ∧ h < j := by omega
            have hjs : j ≤ sz := by
              by_cases c : mid < m
              · have := HLO.out.1 c; omega
              · have := HLO.out.2 c; omega
            have hpr : mid + m - 1 - h < sz ∧ h + 1 ≤ mid + m := by
              by_cases c : mid < m
              · have := HLO.out.1 c; omega
              · have := HLO.out.2 c; omega
            have HH := Aside0.mk hh
            have HE' := Aside0.mk hE
            clear hh hE HE
            go_upto_region 34 with (fail)
            go_cut [23] (fun v23 wd => v23 = .int .i64 h ∧ wd = wr)
            case first =>
              go_wp2
              go_meet
              case rel => exact ⟨by congr 1; have := HH.out; omega, rfl⟩
            case rest =>
              obtain ⟨rfl, rfl⟩ := hcut
              obtain ⟨pc, hpc⟩ : ∃ q, q = mid + m - 1 - h := ⟨_, rfl⟩
              rw [← hpc] at HE'
              have ph : (h : Int) < (sz : Int) := by omega
              have hpv := HP.out
              have ra : IntKind.i64.wrap ((p : Int) - (h : Int)) = (p : Int) - (h : Int) := by rw [IntKind.wrap_i64]; omega
              have ea : ((p : Int) - (h : Int)).toNat = pc := by omega
              have eb : p - h = pc := by omega
              have pa : (0 : Int) ≤ (p : Int) - (h : Int) := by omega
              have pa2 : (h : Int) ≤ (p : Int) := by omega
              have pa3 : h ≤ p := by omega
              have ba : (p : Int) - (h : Int) < (sz : Int) := by omega
              have hpc2 : pc < sz := by omega
              clear hpc hpv
              obtain ⟨x, hx⟩ : ∃ x, x = d[pc]! := ⟨_, rfl⟩
              obtain ⟨y, hy⟩ : ∃ y, y = d[h]! := ⟨_, rfl⟩
              have l1 := S1.out.cl R (by omega) pc (by omega)
              have l2 := S1.out.cl R (by omega) h (by omega)
              rw [← hx] at l1
              rw [← hy] at l2
              have hc := S1.out.cmp HC.out (by omega) x y
              have hlt2 : ltOf cf d[pc]! d[h]! = decide (cf x y < 0) := by rw [hx, hy]; rfl
              rw [hlt2] at HE'
              clear hx hy hlt2
              cases hv : decide (cf x y < 0) with
              | true =>
                rw [hv, if_neg (by decide)] at HE'
                have hv2 : cf x y < 0 := of_decide_eq_true hv
                go_upto_region 35 with (fail)
                go_quiet_grown (first | (go_at_fn g; refine Calls.grown_of (hc _ _)))
                have S2 : Aside (SW (Value.float .f64) w0 blk off d (grow (wc.drewN nq) osq)) := S1.out.grown nq osq
                clear l1 l2 hc S1
                generalize grow (wc.drewN nq) osq = w2 at S2 ⊢
                clear nq osq
                go_wp2
                go_roundg kx
                case measure => omega
                case rel => exact ⟨i, h, rfl, rfl, ⟨by omega⟩, ⟨by omega⟩, S2, HE'⟩
              | false =>
                rw [hv, if_pos (by decide)] at HE'
                have hv2 : ¬ cf x y < 0 := of_decide_eq_false hv
                go_upto_region 35 with (fail)
                go_quiet_grown (first | (go_at_fn g; refine Calls.grown_of (hc _ _)))
                have S2 : Aside (SW (Value.float .f64) w0 blk off d (grow (wc.drewN nq) osq)) := S1.out.grown nq osq
                clear l1 l2 hc S1
                generalize grow (wc.drewN nq) osq = w2 at S2 ⊢
                clear nq osq
                go_wp2
                go_roundg kx
                case measure => omega
                case rel => exact ⟨h + 1, j, by go_num, rfl, ⟨by omega⟩, ⟨by omega⟩, S2, HE'⟩
          · have hltz : ¬ (i : Int) < (j : Int) := by omega
            have hiI : i = s := by
              have hE := HE.out
              cases gk with
              | zero => rw [St.bs] at hE; exact hE
              | succ q => rw [St.bs, if_neg hlt] at hE; exact hE
            obtain rfl := hiI
            clear HE
            obtain ⟨e, he⟩ : ∃ e, e = mid + m - i := ⟨_, rfl⟩
            have hie : i ≤ mid + m ∧ a ≤ i ∧ e ≤ b ∧ mid ≤ e ∧ i ≤ m ∧ i ≤ mid ∧ m ≤ e := by
              have := HSR.out
              by_cases c : mid < m
              · have := HLO.out.1 c; omega
              · have := HLO.out.2 c; omega
            have hez : (mid : Int) + (m : Int) - (i : Int) = (e : Int) := by omega
            rw [← he] at HG2
            have HEZ := Aside0.mk hez
            have HIE := Aside0.mk hie
            clear he hez hie
            go_upto_region 38 with (fail)
            go_cut [24] (fun v24 wd => v24 = .int .i64 e ∧ wd = wr)
            case first =>
              go_wp2
              go_meet
              case rel => exact ⟨by rw [HEZ.out, show wrap64 (e : Int) = (e : Int) from by have := HIE.out; unfold wrap64; omega], rfl⟩
            case rest =>
              obtain ⟨rfl, rfl⟩ := hcut
              apply_assumption
              obtain ⟨g1, g2, g3, g4, g5, g6, g7⟩ := HIE.out
              exact st_tail1 g cb cf blk off cap sz f a m b mid i e d0 d w0 wc R hd hs S1.out hb hsz HIH.out g2 g3 g4 g5 g6 g7 ham hmb hmid1.1 hmid1.2 _ HG2.out.symm
theorem st_ins_lay : SlLaysF.n20 Try.prog ⟨fun | 20 => 42 | n => n, fun | 0 => 0 | 3 => 3 | 4 => 4 | 22 => 33 | 24 => 22 | 25 => 24 | n => n, fun | n => n⟩ := {
  mixed := by kernel_rfl
  f20 := ⟨ "slices.insertionSortCmpFunc[float64]", by kernel_rfl, Try.func42.trans (congrArg some (by kernel_rfl))⟩
  t0 := Try.underlying0
  a0 := Try.isAgg0
  z0 := Try.sizeOf0
  v0 := Try.zeroValue0
  t3 := Try.underlying3
  a3 := Try.isAgg3
  z3 := Try.sizeOf3
  v3 := Try.zeroValue3
  t4 := Try.underlying4
  a4 := Try.isAgg4
  z4 := Try.sizeOf4
  v4 := Try.zeroValue4
  t22 := Try.underlying33
  a22 := Try.isAgg33
  z22 := Try.sizeOf33
  v22 := Try.zeroValue33
  a24 := Try.isAgg22
  z24 := Try.sizeOf22
  t25 := Try.underlying24
  a25 := Try.isAgg24
  z25 := Try.sizeOf24
  v25 := Try.zeroValue24 }
/-- insertionSort of a part of the row -/
theorem st_ins (g : Nat) (cb : Array Value) (cf : Nat → Nat → Int) (blk off cap sz a b : Nat) (d0 d : Array Nat) (w0 w : World) (eg : ∀ args w, (callFunc g args).run Try.prog w = .ok (.enter g args) w) (hcmp : CmpLays1 Try.prog g cb (Value.float .f64) cf blk off sz w0)
    (R : Row1 (Value.float .f64) w0 blk off d0) (hd : d.size = sz) (hs : d0.size = sz) (S : SW (Value.float .f64) w0 blk off d w) (hab : a ≤ b) (hb : b ≤ sz) (hsz : sz < 1152921504606846976) :
    Calls Try.prog 42 #[.slice (some ⟨blk, off, none⟩) sz cap, .int .i64 a, .int .i64 b, .func (.func g) #[] cb] w fun e w' => e = .returned (.tuple #[]) ∧ SW (Value.float .f64) w0 blk off (Go.Sort.insertionSort (ltOf cf) d a b) w' := by
  subst hd
  exact Any.insertionSortCmpFunc_s st_ins_lay (Value.float .f64) cf g cb blk off cap a b d0 d w0 w eg (by rw [hs]; exact hcmp) R hs S hab hb (by omega)
/-- symMerge, whole -/
theorem st_sym (g : Nat) (cb : Array Value) (cf : Nat → Nat → Int) (blk off cap sz : Nat) (d0 : Array Nat) (w0 : World) (eg : ∀ args w, (callFunc g args).run Try.prog w = .ok (.enter g args) w) (hcmp : CmpLays1 Try.prog g cb (Value.float .f64) cf blk off sz w0)
    (R : Row1 (Value.float .f64) w0 blk off d0) (hs : d0.size = sz) (hsz : sz < 1152921504606846976) :
    ∀ (f a m b : Nat) (d : Array Nat) (w : World), b - a ≤ f → SW (Value.float .f64) w0 blk off d w → d.size = sz → a < m → m < b → b ≤ sz →
    Calls Try.prog 43 #[.slice (some ⟨blk, off, none⟩) sz cap, .int .i64 a, .int .i64 m, .int .i64 b, .func (.func g) #[] cb] w fun e w' => e = .returned (.tuple #[]) ∧ SW (Value.float .f64) w0 blk off (St.symM (ltOf cf) f a m b d) w'
  | 0, a, m, b, d, w, hf, S, hd, ham, hmb, hb => absurd hf (by omega)
  | f + 1, a, m, b, d, w, hf, S, hd, ham, hmb, hb => by
    by_cases h1 : m - a = 1
    · exact st_symA g cb cf blk off cap sz f a m b d0 d w0 w eg hcmp R hd hs S h1 hmb hb hsz
    · by_cases h2 : b - m = 1
      · exact st_symB g cb cf blk off cap sz f a m b d0 d w0 w eg hcmp R hd hs S h1 ham h2 hb hsz
      · exact st_symC g cb cf blk off cap sz f a m b d0 d w0 w eg hcmp R hd hs S h1 ham h2 hmb hb hsz (fun a' m' b' d' w' S' hd' h1' h2' h3' h4' => st_sym g cb cf blk off cap sz d0 w0 eg hcmp R hs hsz f a' m' b' d' w' (by omega) S' hd' h1' h2' h3')
/-! #### the stable sort, whole: plain -/
namespace St
variable {α : Type} [Inhabited α]
theorem insInner_size (lt : α → α → Bool) (a : Nat) : ∀ j (d : Array α), (Go.Sort.insInner lt a j d).size = d.size
  | 0, d => by rw [Go.Sort.insInner]
  | j + 1, d => by
    rw [Go.Sort.insInner]
    split
    · rw [insInner_size lt a j, Go.Sort.size_swp]
    · rfl
theorem insOuter_size (lt : α → α → Bool) (a b : Nat) : ∀ n i (d : Array α), b - i ≤ n → (Go.Sort.insOuter lt a b i d).size = d.size
  | 0, i, d, h => by rw [Go.Sort.insOuter, if_neg (by omega)]
  | n + 1, i, d, h => by
    rw [Go.Sort.insOuter]
    split
    · rw [insOuter_size lt a b n _ _ (by omega), insInner_size]
    · rfl
theorem ins_size (lt : α → α → Bool) (d : Array α) (a b : Nat) : (Go.Sort.insertionSort lt d a b).size = d.size := insOuter_size lt a b _ _ d (Nat.le_refl _)
/-- blocks of k, each sorted by insertion -/
def blkFrom (lt : α → α → Bool) (k n : Nat) : Nat → Nat → Array α → Array α
  | 0, a, d => Go.Sort.insertionSort lt d a n
  | f + 1, a, d => if a + k ≤ n then blkFrom lt k n f (a + k) (Go.Sort.insertionSort lt d a (a + k)) else Go.Sort.insertionSort lt d a n
/-- the last pair of blocks of k -/
def mrgEnd (lt : α → α → Bool) (k n a : Nat) (d : Array α) : Array α := if a + k < n then symM lt n a (a + k) n d else d
/-- pairs of blocks of k merged -/
def mrgFrom (lt : α → α → Bool) (k n : Nat) : Nat → Nat → Array α → Array α
  | 0, a, d => mrgEnd lt k n a d
  | f + 1, a, d => if a + 2 * k ≤ n then mrgFrom lt k n f (a + 2 * k) (symM lt n a (a + k) (a + 2 * k) d) else mrgEnd lt k n a d
def stbFrom (lt : α → α → Bool) (n : Nat) : Nat → Nat → Array α → Array α
  | 0, _, d => d
  | f + 1, k, d => if k < n then stbFrom lt n f (2 * k) (mrgFrom lt k n n 0 d) else d
def stab (lt : α → α → Bool) (n : Nat) (d : Array α) : Array α := stbFrom lt n n 20 (blkFrom lt 20 n n 0 d)
end St
set_option maxHeartbeats 8000000 in
set_option maxRecDepth 1000000 in
theorem st_stable (g : Nat) (cb : Array Value) (cf : Nat → Nat → Int) (blk off cap sz : Nat) (d0 d : Array Nat) (w0 w : World) (eg : ∀ args w, (callFunc g args).run Try.prog w = .ok (.enter g args) w) (hcmp : CmpLays1 Try.prog g cb (Value.float .f64) cf blk off sz w0)
    (R : Row1 (Value.float .f64) w0 blk off d0) (hd : d.size = sz) (hs : d0.size = sz) (S : SW (Value.float .f64) w0 blk off d w) (hsz : sz < 1152921504606846976) :
    Calls Try.prog 41 #[.slice (some ⟨blk, off, none⟩) sz cap, .int .i64 sz, .func (.func g) #[] cb] w fun e w' => e = .returned (.tuple #[]) ∧ SW (Value.float .f64) w0 blk off (St.stab (ltOf cf) sz d) w' := by
  have INS := Aside0.mk (fun (a b : Nat) (d : Array Nat) (w : World) (S : SW (Value.float .f64) w0 blk off d w) (hd : d.size = sz) (hab : a ≤ b) (hb : b ≤ sz) => st_ins g cb cf blk off cap sz a b d0 d w0 w eg hcmp R hd hs S hab hb hsz)
  have SYM := Aside0.mk (fun (a m b : Nat) (d : Array Nat) (w : World) (S : SW (Value.float .f64) w0 blk off d w) (hd : d.size = sz) (ham : a < m) (hmb : m < b) (hb : b ≤ sz) => st_sym g cb cf blk off cap sz d0 w0 eg hcmp R hs hsz sz a m b d w (by omega) S hd ham hmb hb)
  have S0 : Aside (SW (Value.float .f64) w0 blk off d w) := S
  clear S hcmp eg R
  obtain ⟨T, hT⟩ : ∃ T, T = St.stab (ltOf cf) sz d := ⟨_, rfl⟩
  rw [← hT]
  have HT := Aside0.mk hT
  clear hT
  go_enter Try.func41, Try.ntmps41
  go_wp2
  go_loopg [7, 8] sz (fun kx s7 s8 wr => ∃ (a b : Nat) (dk : Array Nat), s7 = .int .i64 a ∧ s8 = .int .i64 b ∧ Aside0 (b = a + 20 ∧ a ≤ sz) ∧ Aside0 (sz - a ≤ kx) ∧ dk.size = sz ∧ Aside (SW (Value.float .f64) w0 blk off dk wr) ∧ Aside0 (St.blkFrom (ltOf cf) 20 sz kx a dk = St.blkFrom (ltOf cf) 20 sz sz 0 d))
  case atStart => exact ⟨0, 20, d, rfl, rfl, ⟨by omega⟩, ⟨by omega⟩, hd, S0, ⟨rfl⟩⟩
  case round =>
    clear S0
    obtain ⟨a, b, dk, rfl, rfl, HI, HK, hds, S1, HE⟩ := hrel
    obtain ⟨h1, h2⟩ := HI.out
    have hk := HK.out
    have H1 := Aside0.mk h1
    by_cases c : b ≤ sz
    · have cz : (b : Int) ≤ (sz : Int) := by omega
      obtain ⟨kx, rfl⟩ : ∃ q, gk = q + 1 := ⟨gk - 1, by omega⟩
      have hE := HE.out
      rw [St.blkFrom, ← h1, if_pos c] at hE
      have HE' := Aside0.mk hE
      clear hE HE h1
      go_wp2_with (go_at_call 42; refine (INS.out a b dk _ S1.out hds (by have := H1.out; omega) c).mono ?_; rintro e_ w2 ⟨rfl, hS⟩; have S2 : Aside (SW (Value.float .f64) w0 blk off (Go.Sort.insertionSort (ltOf cf) dk a b) w2) := hS; clear hS)
      go_roundg kx
      case measure => omega
      case rel => exact ⟨b, b + 20, Go.Sort.insertionSort (ltOf cf) dk a b, by first | rfl | go_num, by go_num, ⟨by omega⟩, ⟨by have := H1.out; omega⟩, by rw [St.ins_size]; exact hds, S2, HE'⟩
    · have cz : ¬ (b : Int) ≤ (sz : Int) := by omega
      have hE : Go.Sort.insertionSort (ltOf cf) dk a sz = St.blkFrom (ltOf cf) 20 sz sz 0 d := by
        rw [← HE.out]
        cases gk with
        | zero => rw [St.blkFrom]
        | succ q => rw [St.blkFrom, if_neg (by omega)]
      have HE' := Aside0.mk hE
      clear hE HE h1
      go_wp2_with (go_at_call 42; refine (INS.out a sz dk _ S1.out hds h2 (Nat.le_refl _)).mono ?_; rintro e_ w2 ⟨rfl, hS⟩; have S2 : Aside (SW (Value.float .f64) w0 blk off (Go.Sort.insertionSort (ltOf cf) dk a sz) w2) := hS; clear hS)
      have hd1 : (Go.Sort.insertionSort (ltOf cf) dk a sz).size = sz := by rw [St.ins_size]; exact hds
      generalize Go.Sort.insertionSort (ltOf cf) dk a sz = d1 at S2 HE' hd1
      clear hds S1 HI HK hk cz c h2 H1
      go_loopg [6, 7, 8, 9] sz (fun kx s6 s7 s8 s9 wr => ∃ (k : Nat) (dk : Array Nat), s6 = .int .i64 k ∧ Aside0 (20 ≤ k ∧ k ≤ 2 * sz + 20) ∧ Aside0 (sz - k ≤ kx) ∧ dk.size = sz ∧ Aside (SW (Value.float .f64) w0 blk off dk wr) ∧ Aside0 (St.stbFrom (ltOf cf) sz kx k dk = T))
      case atStart => exact ⟨20, d1, rfl, ⟨by omega⟩, ⟨by omega⟩, hd1, S2, ⟨by rw [HE'.out, HT.out]; rfl⟩⟩
      case round =>
        clear S2 HE' hd1
        obtain ⟨k, dk, rfl, HI, HK, hds, S1, HE⟩ := hrel
        obtain ⟨h1, h2⟩ := HI.out
        have hk := HK.out
        by_cases c : k < sz
        · have cz : (k : Int) < (sz : Int) := by omega
          obtain ⟨kx, rfl⟩ : ∃ q, gk = q + 1 := ⟨gk - 1, by omega⟩
          obtain ⟨k2, hk2⟩ : ∃ q, q = 2 * k := ⟨_, rfl⟩
          have z1 : (2 : Int) * (k : Int) = (k2 : Int) := by omega
          have z2 : (k : Int) * (2 : Int) = (k2 : Int) := by omega
          have hE := HE.out
          rw [St.stbFrom, if_pos c, ← hk2] at hE
          have HE' := Aside0.mk hE
          have HK2 := Aside0.mk hk2
          clear hE HE hk2
          go_wp2
          go_loopg [7, 8] sz (fun ky s7 s8 wr2 => ∃ (a b : Nat) (dj : Array Nat), s7 = .int .i64 a ∧ s8 = .int .i64 b ∧ Aside0 (b = a + k2 ∧ a ≤ sz) ∧ Aside0 (sz - a ≤ ky) ∧ dj.size = sz ∧ Aside (SW (Value.float .f64) w0 blk off dj wr2) ∧ Aside0 (St.mrgFrom (ltOf cf) k sz ky a dj = St.mrgFrom (ltOf cf) k sz sz 0 dk))
          case atStart => exact ⟨0, k2, dk, rfl, by first | rfl | go_num, ⟨by omega⟩, ⟨by omega⟩, hds, S1, ⟨rfl⟩⟩
          case round =>
            clear S1
            obtain ⟨a, b, dj, rfl, rfl, HJ, HL, hdj, SJ, HM⟩ := hrel
            obtain ⟨j1, j2⟩ := HJ.out
            have hl := HL.out
            obtain ⟨m, hm⟩ : ∃ q, q = a + k := ⟨_, rfl⟩
            have z3 : (a : Int) + (k : Int) = (m : Int) := by omega
            have HMM := Aside0.mk hm
            by_cases c2 : b ≤ sz
            · have c2z : (b : Int) ≤ (sz : Int) := by omega
              obtain ⟨ky, rfl⟩ : ∃ q, gk = q + 1 := ⟨gk - 1, by have := HK2.out; omega⟩
              have hM := HM.out
              rw [St.mrgFrom, ← HK2.out, ← j1, if_pos c2, ← hm] at hM
              have HM' := Aside0.mk hM
              have J1 := Aside0.mk j1
              obtain ⟨b2, hb2⟩ : ∃ q, q = b + k2 := ⟨_, rfl⟩
              have z4 : (b : Int) + (k2 : Int) = (b2 : Int) := by omega
              have HB2 := Aside0.mk hb2
              clear hM HM j1 hm hb2
              go_wp2_with (go_at_call 43; refine (SYM.out a m b dj _ SJ.out hdj (by have := HMM.out; omega) (by have := HMM.out; have := J1.out; have := HK2.out; omega) c2).mono ?_; rintro e_ w2 ⟨rfl, hS⟩; have S2 : Aside (SW (Value.float .f64) w0 blk off (St.symM (ltOf cf) sz a m b dj) w2) := hS; clear hS)
              go_roundg ky
              case measure => omega
              case rel => exact ⟨b, b2, St.symM (ltOf cf) sz a m b dj, by first | rfl | go_num, by first | rfl | go_num, ⟨⟨HB2.out, c2⟩⟩, ⟨by have := J1.out; have := HK2.out; omega⟩, by rw [St.symM_size]; exact hdj, S2, HM'⟩
            · have c2z : ¬ (b : Int) ≤ (sz : Int) := by omega
              have hM : St.mrgEnd (ltOf cf) k sz a dj = St.mrgFrom (ltOf cf) k sz sz 0 dk := by
                rw [← HM.out]
                cases gk with
                | zero => rw [St.mrgFrom]
                | succ q => rw [St.mrgFrom, if_neg (by have := HK2.out; omega)]
              rw [← hM, St.mrgEnd, ← hm] at HE'
              have J1 := Aside0.mk j1
              clear hM HM j1 hm
              by_cases c3 : m < sz
              · have c3z : (m : Int) < (sz : Int) := by omega
                have hF := HE'.out
                rw [if_pos c3] at hF
                have HF := Aside0.mk hF
                clear hF HE'
                go_wp2_with (go_at_call 43; refine (SYM.out a m sz dj _ SJ.out hdj (by have := HMM.out; omega) c3 (Nat.le_refl _)).mono ?_; rintro e_ w2 ⟨rfl, hS⟩; have S2 : Aside (SW (Value.float .f64) w0 blk off (St.symM (ltOf cf) sz a m sz dj) w2) := hS; clear hS)
                go_roundg kx
                case measure => omega
                case rel => exact ⟨k2, St.symM (ltOf cf) sz a m sz dj, by first | rfl | go_num, ⟨by have := HK2.out; omega⟩, ⟨by have := HK2.out; omega⟩, by rw [St.symM_size]; exact hdj, S2, HF⟩
              · have c3z : ¬ (m : Int) < (sz : Int) := by omega
                have hF := HE'.out
                rw [if_neg c3] at hF
                have HF := Aside0.mk hF
                clear hF HE'
                go_wp2
                go_roundg kx
                case measure => omega
                case rel => exact ⟨k2, dj, by first | rfl | go_num, ⟨by have := HK2.out; omega⟩, ⟨by have := HK2.out; omega⟩, hdj, SJ, HF⟩
        · have cz : ¬ (k : Int) < (sz : Int) := by omega
          have hE : dk = T := by
            rw [← HE.out]
            cases gk with
            | zero => rw [St.stbFrom]
            | succ q => rw [St.stbFrom, if_neg c]
          have HE' := Aside0.mk hE
          clear hE HE
          go_wp2
          go_end0
          exact ⟨rfl, by rw [← HE'.out]; exact S1.out⟩
/-! #### real.Sort -/
/-- an empty row: nothing is done -/
theorem st_stable0 (A : Option Addr) (c g : Nat) (cb : Array Value) (w : World) :
    Calls Try.prog 41 #[.slice A 0 c, .int .i64 0, .func (.func g) #[] cb] w fun e w' => e = .returned (.tuple #[]) ∧ w' = w := by
  go_enter Try.func41, Try.ntmps41
  go_wp2
  go_rounds 1
  go_rounds 1
  go_rounds 1
  go_end0
  exact ⟨rfl, rfl⟩
theorem st_sort0 (A : Option Addr) (c g : Nat) (cb : Array Value) (w : World) :
    Calls Try.prog 36 #[.slice A 0 c, .func (.func g) #[] cb] w fun e w' => e = .returned (.tuple #[]) ∧ w' = w := by
  go_enter Try.func36, Try.ntmps36
  go_wp2_with (go_at_call 41; refine (st_stable0 A c g cb _).mono ?_; rintro e_ w2 ⟨rfl, rfl⟩)
  go_end0
  exact ⟨rfl, rfl⟩
theorem st_sort (g : Nat) (cb : Array Value) (cf : Nat → Nat → Int) (blk off cap sz : Nat) (d0 : Array Nat) (w0 : World) (eg : ∀ args w, (callFunc g args).run Try.prog w = .ok (.enter g args) w) (hcmp : CmpLays1 Try.prog g cb (Value.float .f64) cf blk off sz w0)
    (R : Row1 (Value.float .f64) w0 blk off d0) (hs : d0.size = sz) (hsz : sz < 1152921504606846976) :
    Calls Try.prog 36 #[.slice (some ⟨blk, off, none⟩) sz cap, .func (.func g) #[] cb] w0 fun e w' => e = .returned (.tuple #[]) ∧ SW (Value.float .f64) w0 blk off (St.stab (ltOf cf) sz d0) w' := by
  have hcon := st_stable g cb cf blk off cap sz d0 d0 w0 w0 eg hcmp R hs hs (SW.start R.hH) hsz
  generalize St.stab (ltOf cf) sz d0 = T at hcon ⊢
  clear hcmp eg R
  go_enter Try.func36, Try.ntmps36
  go_wp2_with (go_at_call 41; refine hcon.mono ?_; rintro e_ w2 ⟨rfl, hS⟩)
  go_end0
  exact ⟨rfl, hS⟩
set_option maxHeartbeats 4000000 in
theorem st_clone (A0 : Option Addr) (c0 : Nat) (l0 : List Nat) (w : World) (hr0 : Kd.C Kd.f64 w A0 l0.length l0) (hc0 : l0.length ≤ c0) (hl : l0.length ≤ 17592186044416) :
    Calls Try.prog 35 #[.slice A0 l0.length c0] w fun e w' => ∃ v0_ : Value, e = .returned v0_ ∧ Kd.R Kd.f64 22 w' w.heap.size (fun _ => True) v0_ l0 ∧ Below w.heap.size w w' := by
  have HR0 := Aside0.mk hr0
  have HC0 := Aside0.mk hc0
  clear hr0 hc0
  have HB := Aside0.mk (Below.refl w.heap.size w)
  cases A0 with
  | none =>
    have qe : ∀ (w : World) (a : Option Addr) (n c n' c' : Nat), (binOp .eql 33 (.slice a n c) (.slice none n' c')).run Try.prog w = .ok (.bool a.isNone) w := fun w a n c n' c' => Lib.run_eql_slice_nil w _ _ a n c n' c' Try.underlying33
    have hn : l0 = [] := by
      cases l0 with
      | nil => rfl
      | cons a b =>
        obtain ⟨ad, e, _⟩ := HR0.out.2.2 (by simp)
        cases e
    subst hn
    go_enter Try.func35, Try.ntmps35
    go_wp2
    go_ret
    exact ⟨_, rfl, Kd.R_nil _ _ _ _ _, HB.out⟩
  | some ad =>
    have qe : ∀ (w : World) (a : Option Addr) (n c n' c' : Nat), (binOp .eql 33 (.slice a n c) (.slice none n' c')).run Try.prog w = .ok (.bool a.isNone) w := fun w a n c n' c' => Lib.run_eql_slice_nil w _ _ a n c n' c' Try.underlying33
    go_enter Try.func35, Try.ntmps35
    have hown := World.ownsRow_made (base := w.heap.size) (e := 22) (size := 1) w #[] 0 (Nat.le_refl _) (Nat.zero_le _) rfl
    have HW := Aside0.mk hown
    clear hown
    go_wp2_with ((with_reducible refine gate_builtin (b := .append) (xs := #[.tmp 5, .tmp 6]) rfl ?_); at_builtin; refine Kd.R_append_rows Kd.f64 (w0 := w) w.heap.size rfl (.tmp 5) (.tmp 6) 33 22 (.float .f64 0) 8 rfl Try.underlying33 info22 rfl (by decide) (by omega) (.slice (some ⟨w.heap.size, 0, none⟩) 0 0) ([] : List Nat) l0 _ _ _ (fun _ => True) (fun _ => False) rfl rfl ?aO ?aR (fun _ _ h => h) (fun _ h => h.elim) ?aF ?aB ?aS ?aL ?_)
    case aO => exact ⟨fun _ _ => trivial, [], HW.out, Reps.none _ _⟩
    case aR => exact Kd.C_alloc HR0.out _
    case aF => exact fun _ _ => trivial
    case aB => exact below_alloc HB.out _
    case aS => exact below_size (below_alloc HB.out _)
    case aL => simp; omega
    intro v1 w1 ho hb hg hat
    go_wp2
    go_ret
    exact ⟨v1, rfl, ho, hb⟩
/-- the order as a number -/
def ordF (x y : Nat) : Int := (real_Order.f x y).getD 0
theorem some_ite {α : Type} {p : Prop} [Decidable p] {a b : Option α} (ha : ∃ n, a = some n) (hb : ∃ n, b = some n) : ∃ n, (if p then a else b) = some n := by split <;> assumption
theorem some_bind {α β : Type} {a : Option α} {f : α → Option β} (ha : ∃ n, a = some n) (hf : ∀ n, ∃ m, f n = some m) : ∃ m, a.bind f = some m := by
  obtain ⟨n, rfl⟩ := ha
  exact hf n
theorem rank_some (x : Nat) : ∃ n, real_rank.f x = some n := by
  unfold real_rank.f
  refine some_bind ⟨_, math_IsNaN.f.eq_1 x⟩ fun t => some_ite ⟨_, rfl⟩ (some_bind ⟨_, math_Signbit.f.eq_1 x⟩ fun t => some_ite ⟨_, rfl⟩ ⟨_, rfl⟩)
theorem ord_some (x y : Nat) : real_Order.f x y = some (ordF x y) := by
  have : ∃ n, real_Order.f x y = some n := by
    unfold real_Order.f
    exact some_bind (rank_some x) fun t => some_bind (rank_some y) fun t' => some_ite ⟨_, rfl⟩ (some_ite ⟨_, rfl⟩ ⟨_, rfl⟩)
  obtain ⟨n, hn⟩ := this
  unfold ordF
  rw [hn, Option.getD_some]
namespace St
variable {α : Type} [Inhabited α]
theorem blkFrom_size (lt : α → α → Bool) (k n : Nat) : ∀ f a (d : Array α), (blkFrom lt k n f a d).size = d.size
  | 0, a, d => by rw [blkFrom, ins_size]
  | f + 1, a, d => by
    rw [blkFrom]
    split
    · rw [blkFrom_size lt k n f, ins_size]
    · rw [ins_size]
theorem mrgEnd_size (lt : α → α → Bool) (k n a : Nat) (d : Array α) : (mrgEnd lt k n a d).size = d.size := by
  rw [mrgEnd]
  split
  · exact symM_size _ _ _ _ _ _
  · rfl
theorem mrgFrom_size (lt : α → α → Bool) (k n : Nat) : ∀ f a (d : Array α), (mrgFrom lt k n f a d).size = d.size
  | 0, a, d => by rw [mrgFrom, mrgEnd_size]
  | f + 1, a, d => by
    rw [mrgFrom]
    split
    · rw [mrgFrom_size lt k n f, symM_size]
    · rw [mrgEnd_size]
theorem stbFrom_size (lt : α → α → Bool) (n : Nat) : ∀ f k (d : Array α), (stbFrom lt n f k d).size = d.size
  | 0, _, d => rfl
  | f + 1, k, d => by
    rw [stbFrom]
    split
    · rw [stbFrom_size lt n f, mrgFrom_size]
    · rfl
theorem stab_size (lt : α → α → Bool) (n : Nat) (d : Array α) : (stab lt n d).size = d.size := by rw [stab, stbFrom_size, blkFrom_size]
end St
theorem reps_down {α : Type} {enc : α → Value} (xs : List α) (cs : List Value) (h : Reps (fun (x : α) (cs : List Value) => cs = [enc x]) 1 xs cs) : cs = xs.map enc := by
  obtain ⟨hl, hr⟩ := h
  apply List.ext_getElem?
  intro j
  rw [List.getElem?_map]
  cases hx : xs[j]? with
  | none =>
    have := List.getElem?_eq_none_iff.1 hx
    rw [List.getElem?_eq_none (by omega)]; rfl
  | some x =>
    have h1 := hr j x hx
    have h0 : ((cs.drop (j * 1)).take 1)[0]? = some (enc x) := by rw [h1]; rfl
    rw [List.getElem?_take_of_lt (by omega), List.getElem?_drop] at h0
    simpa using h0
theorem ord_lays (blk off size : Nat) (w : World) : CmpLays1 Try.prog 13 #[] (Value.float .f64) ordF blk off size w :=
  fun m os dk _ x y => (real_Order.calls x y (ordF x y) _ (ord_some x y)).mono fun _ _ ⟨he, n, hn⟩ => ⟨he, n, #[], by rw [hn, grow_empty]⟩
/-- real.Sort: the stable sort of the row -/
def real_Sort.f (l : List Nat) : Option (List Nat) := if l.length ≤ 17592186044416 then some (St.stab (ltOf ordF) l.length l.toArray).toList else none
/-- behind the sort the same slice holds the sorted list -/
theorem sorted_own {w w1 w2 : World} {g cap n : Nat} {ys : List Nat} {inner : List Value} {l0 : List Nat} (hB : RowKit.Below w.heap.size w w1) (ho : w1.ownsRow w.heap.size 22 1 (.slice (some ⟨g, 0, none⟩) n cap) n inner) (hi : inner = l0.map (Value.float .f64)) (hg : g < w1.heap.size) (hbg : w.heap.size ≤ g) (hy : ys.length = n)
    (hS : SW (Value.float .f64) w1 g 0 ys.toArray w2) : Kd.R Kd.f64 22 w2 w.heap.size (fun _ => True) (.slice (some ⟨g, 0, none⟩) n cap) ys ∧ RowKit.Below w.heap.size w w2 := by
  obtain ⟨m, os, rfl⟩ := hS
  subst hi
  have hp := Lib.ownsRow_putRow (q := m) (k := n) ho hy (Nat.le_refl _)
  rw [List.take_of_length_le (by omega)] at hp
  have hsz : g < (putRow (Value.float .f64) (Go.Sort.ahead w1 m) g 0 ys.toArray).heap.size := by rw [size_putRow]; exact hg
  have hm := own_move (w1 := sortWorld (Value.float .f64) w1 g 0 m ys.toArray os) hp (fun k hk => by
    have hk' : g = k := by simpa [Value.ownBlock] using hk
    subst hk'
    exact heap_grow_old _ _ hsz)
  subst hy
  refine ⟨⟨fun _ _ => trivial, _, hm, Kd.reps_scalar ys⟩, ?_⟩
  have hb2 := Lib.below_putRow (enc := Value.float .f64) (q := m) (d := ys.toArray) hB hbg
  refine hb2.trans ⟨rfl, rfl, rfl, by simp [sortWorld, grow], fun k hk => ?_⟩
  exact heap_grow_old _ _ (Nat.lt_of_lt_of_le hk (Nat.le_trans hb2.size (by omega)))
set_option maxHeartbeats 4000000 in
theorem real_Sort.calls (A0 : Option Addr) (c0 : Nat) (l0 : List Nat) (r : List Nat) (w : World) (hr0 : Kd.C Kd.f64 w A0 l0.length l0) (hc0 : l0.length ≤ c0) (h : real_Sort.f l0 = some r) :
    Calls Try.prog 26 #[.slice A0 l0.length c0] w fun e w' => ∃ v0_ : Value, e = .returned (v0_) ∧ Kd.R Kd.f64 22 w' w.heap.size (fun _ => True) v0_ r ∧ RowKit.Below w.heap.size w w' := by
  have HR0 := Aside0.mk hr0
  have HC0 := Aside0.mk hc0
  clear hr0 hc0
  have hl : l0.length ≤ 17592186044416 := by
    unfold real_Sort.f at h
    split at h
    · assumption
    · cases h
  have hr : r = (St.stab (ltOf ordF) l0.length l0.toArray).toList := by
    unfold real_Sort.f at h
    rw [if_pos hl] at h
    exact (Option.some.inj h).symm
  have HL := Aside0.mk hl
  have HRR := Aside0.mk hr
  have hlen : r.length = l0.length := by rw [hr, Array.length_toList, St.stab_size]; simp
  have HLN := Aside0.mk hlen
  clear h hl hr hlen
  have eg : ∀ args w, (callFunc 13 args).run Try.prog w = .ok (.enter 13 args) w := enters_of Try.func13 (by kernel_rfl) rfl
  go_enter Try.func26, Try.ntmps26
  go_wp2_with (first | (go_at_call 35; fail) | (go_at_call 36; fail))
  go_at_call 35
  refine (st_clone A0 c0 l0 _ HR0.out HC0.out HL.out).mono ?_
  rintro e w1 ⟨v1, rfl, ho, hb⟩
  obtain ⟨A1, c1, rfl⟩ := Kd.R_slice ho
  have HO := Aside0.mk ho
  have HB := Aside0.mk hb
  clear ho hb
  go_wp2_with (first | (go_at_call 36; fail))
  by_cases h0 : l0.length = 0
  · have e0 : l0 = [] := List.eq_nil_of_length_eq_zero h0
    have er : r = [] := List.eq_nil_of_length_eq_zero (by rw [HLN.out, h0])
    subst e0 er
    go_at_call 36
    refine (st_sort0 A1 c1 13 #[] _).mono ?_
    rintro e w2 ⟨rfl, rfl⟩
    go_wp2
    go_ret
    exact ⟨_, rfl, HO.out, HB.out⟩
  · obtain ⟨_, inner, hown, hrep⟩ := HO.out
    have hi := reps_down (enc := Value.float .f64) l0 inner (hrep.imp_ (fun _ _ h => h))
    subst hi
    obtain ⟨g, cap, hv, hbg, hg, hn, hm, _, hH⟩ := Lib.holds_of_ownsRow hown (by intro e; injection e with _ e; exact h0 e)
    injection hv with hv1 _ hv3
    subst hv1 hv3
    have hsort := st_sort 13 #[] ordF g 0 c1 l0.length l0.toArray w1 eg (ord_lays g 0 _ w1) ⟨fun _ => rfl, hH, hg⟩ (by simp) (by have := HL.out; omega)
    have hT : St.stab (ltOf ordF) l0.length l0.toArray = r.toArray := by rw [HRR.out]
    rw [hT] at hsort
    have HS := Aside0.mk hsort
    have HH := Aside0.mk hown
    clear hsort hown hT hH hrep
    go_at_call 36
    refine HS.out.mono ?_
    rintro e w2 ⟨rfl, hS⟩
    have hfin := Aside0.mk (sorted_own HB.out HH.out rfl hg hbg HLN.out hS)
    clear hS HS
    go_wp2
    go_ret
    exact ⟨_, rfl, hfin.out.1, hfin.out.2⟩
end

end Go.Proofs.Ytoncmgkgflomlaa.P
