/- The Go functions of this seat as plain Lean functions, and for each the proof that its call gives what the plain function gives. Printed by a program of this session. -/
import Derived.Test.YtnkihggdohigiaaPx0
import Derived.Test.YtnkihggdohigiaaPx1
import Derived.Test.YtnkihggdohigiaaPx2
import Derived.Test.YtnkihggdohigiaaPx3
import Derived.Test.YtnkihggdohigiaaPx4
import Derived.Test.YtnkihggdohigiaaPx5
namespace Go.Proofs.Ytnkihggdohigiaa.P
open Go.RowKit Go.Proofs.YtnkihggdohigiaaW.PrintWords Go.Proofs.YtnkihggdohigiaaW.PrintLast Go.Proofs.YtnkihggdohigiaaW.PrintMore
attribute [local go_sem] max2_int min2_int max_two min_two max_three min_three max_four min_four   -- for this text's walks alone
set_option linter.unusedVariables false
set_option linter.unusedSimpArgs false

/-! ### place_Targets: function 10 -/
section
open Go.Shelf Go.Lib Go.Sort
/-! #### the stable sort's parts, plain -/
namespace St
variable {α : Type} [Inhabited α]
/-- swapRange from place i on, r to go -/
def swapFrom (a b : Nat) : Nat → Nat → Array α → Array α
  | 0, _, d => d
  | r + 1, i, d => swapFrom a b r (i + 1) (Go.Sort.swp d (a + i) (b + i))
def swapR (d : Array α) (a b n : Nat) : Array α := swapFrom a b n 0 d
theorem swapFrom_size (a b : Nat) : ∀ r i (d : Array α), (swapFrom a b r i d).size = d.size
  | 0, _, _ => rfl
  | r + 1, i, d => by rw [swapFrom, swapFrom_size a b r, Go.Sort.size_swp]
theorem swapR_size (d : Array α) (a b n : Nat) : (swapR d a b n).size = d.size := swapFrom_size _ _ _ _ _
/-- rotate: the lengths of both sides, with a bound on the rounds -/
def rotFrom (m : Nat) : Nat → Nat → Nat → Array α → Array α
  | 0, _, _, d => d
  | f + 1, i, j, d => if i = j then swapR d (m - i) m i else if j < i then rotFrom m f (i - j) j (swapR d (m - i) m j) else rotFrom m f i (j - i) (swapR d (m - i) (m + j - i) i)
def rot (d : Array α) (a m b : Nat) : Array α := rotFrom m (b - a + 1) (m - a) (b - m) d
theorem rotFrom_size (m : Nat) : ∀ f i j (d : Array α), (rotFrom m f i j d).size = d.size
  | 0, _, _, _ => rfl
  | f + 1, i, j, d => by
    rw [rotFrom]
    split
    · exact swapR_size _ _ _ _
    · split
      · rw [rotFrom_size m f, swapR_size]
      · rw [rotFrom_size m f, swapR_size]
theorem rot_size (d : Array α) (a m b : Nat) : (rot d a m b).size = d.size := rotFrom_size _ _ _ _ _
/-- a search in halves: q tells whether to go on to the right -/
def bs (q : Nat → Bool) : Nat → Nat → Nat → Nat
  | 0, i, _ => i
  | f + 1, i, j => if i < j then (if q ((i + j) / 2) = true then bs q f ((i + j) / 2 + 1) j else bs q f i ((i + j) / 2)) else i
theorem bs_range (q : Nat → Bool) : ∀ f i j, i ≤ j → i ≤ bs q f i j ∧ bs q f i j ≤ j
  | 0, i, j, h => ⟨Nat.le_refl _, h⟩
  | f + 1, i, j, h => by
    rw [bs]
    split
    · split
      · have := bs_range q f ((i + j) / 2 + 1) j (by omega); omega
      · have := bs_range q f i ((i + j) / 2) (by omega); omega
    · omega
/-- one element carried to the right, r places; to the left -/
def shR : Nat → Nat → Array α → Array α
  | 0, _, d => d
  | r + 1, k, d => shR r (k + 1) (Go.Sort.swp d k (k + 1))
def shL : Nat → Nat → Array α → Array α
  | 0, _, d => d
  | r + 1, k, d => shL r (k - 1) (Go.Sort.swp d k (k - 1))
theorem shR_size : ∀ r k (d : Array α), (shR r k d).size = d.size
  | 0, _, _ => rfl
  | r + 1, k, d => by rw [shR, shR_size r, Go.Sort.size_swp]
theorem shL_size : ∀ r k (d : Array α), (shL r k d).size = d.size
  | 0, _, _ => rfl
  | r + 1, k, d => by rw [shL, shL_size r, Go.Sort.size_swp]
/-- symMerge: where it is cut -/
def symLo (a m b : Nat) : Nat := if (a + b) / 2 < m then (a + b) / 2 + m - b else a
def symHi (a m b : Nat) : Nat := if (a + b) / 2 < m then (a + b) / 2 else m
def symS (lt : α → α → Bool) (d : Array α) (a m b : Nat) : Nat := bs (fun c => !lt d[(a + b) / 2 + m - 1 - c]! d[c]!) (symHi a m b - symLo a m b) (symLo a m b) (symHi a m b)
def symR (d : Array α) (s m e : Nat) : Array α := if s < m ∧ m < e then rot d s m e else d
theorem symR_size (d : Array α) (s m e : Nat) : (symR d s m e).size = d.size := by
  unfold symR; split
  · exact rot_size _ _ _ _
  · rfl
/-- symMerge of [a, m) and [m, b), f rounds deep -/
def symM (lt : α → α → Bool) : Nat → Nat → Nat → Nat → Array α → Array α
  | 0, _, _, _, d => d
  | f + 1, a, m, b, d =>
    if m - a = 1 then shR (bs (fun h => lt d[h]! d[a]!) (b - m) m b - 1 - a) a d
    else if b - m = 1 then shL (m - bs (fun h => !lt d[m]! d[h]!) (m - a) a m) m d
    else if (a + b) / 2 < (a + b) / 2 + m - symS lt d a m b ∧ (a + b) / 2 + m - symS lt d a m b < b then
      symM lt f ((a + b) / 2) ((a + b) / 2 + m - symS lt d a m b) b (if a < symS lt d a m b ∧ symS lt d a m b < (a + b) / 2 then symM lt f a (symS lt d a m b) ((a + b) / 2) (symR d (symS lt d a m b) m ((a + b) / 2 + m - symS lt d a m b)) else symR d (symS lt d a m b) m ((a + b) / 2 + m - symS lt d a m b))
    else (if a < symS lt d a m b ∧ symS lt d a m b < (a + b) / 2 then symM lt f a (symS lt d a m b) ((a + b) / 2) (symR d (symS lt d a m b) m ((a + b) / 2 + m - symS lt d a m b)) else symR d (symS lt d a m b) m ((a + b) / 2 + m - symS lt d a m b))
theorem symM_size (lt : α → α → Bool) : ∀ f a m b (d : Array α), (symM lt f a m b d).size = d.size
  | 0, _, _, _, _ => rfl
  | f + 1, a, m, b, d => by
    have key : ∀ (p : Prop) [Decidable p] (x y : Array α) (n : Nat), x.size = n → y.size = n → (if p then x else y).size = n := by
      intro p _ x y n h1 h2; split <;> assumption
    have h1 : (if a < symS lt d a m b ∧ symS lt d a m b < (a + b) / 2 then symM lt f a (symS lt d a m b) ((a + b) / 2) (symR d (symS lt d a m b) m ((a + b) / 2 + m - symS lt d a m b)) else symR d (symS lt d a m b) m ((a + b) / 2 + m - symS lt d a m b)).size = d.size :=
      key _ _ _ _ (by rw [symM_size lt f, symR_size]) (symR_size _ _ _ _)
    rw [symM]
    exact key _ _ _ _ (shR_size _ _ _) (key _ _ _ _ (shL_size _ _ _) (key _ _ _ _ (by rw [symM_size lt f]; exact h1) h1))
end St
variable {β : Type} [Inhabited β] {enc : β → Value}
set_option maxHeartbeats 4000000 in
set_option maxRecDepth 1000000 in
theorem st_swap (g : Nat) (cb : Array Value) (blk off cap sz a b n : Nat) (d0 d : Array β) (w0 w : World) (R : Row1 enc w0 blk off d0) (hd : d.size = sz) (hs : d0.size = sz) (S : SW enc w0 blk off d w) (ha : a + n ≤ sz) (hb : b + n ≤ sz) (hsz : sz < 4611686018427387904) :
    Calls Try.prog 44 #[.slice (some ⟨blk, off, none⟩) sz cap, .int .i64 a, .int .i64 b, .int .i64 n, .func (.func g) #[] cb] w fun e w' => e = .returned (.tuple #[]) ∧ SW enc w0 blk off (St.swapR d a b n) w' := by
  have hcl0 := R.hO.cells
  simp only [Value.cells] at hcl0
  have hst := R.hO.store Try.prog
  have mixed : Try.prog.follows .mixedOrders = true := by kernel_rfl
  have S0 : Aside (SW enc w0 blk off d w) := S
  clear S
  go_enter Try.func44, Try.ntmps44
  go_wp2
  go_loopg [10] (n + 1) (fun kx s10 wr => ∃ (k : Nat) (dk : Array β), s10 = .int .i64 k ∧ k ≤ n ∧ Aside0 (kx + k = n + 1) ∧ dk.size = sz ∧ Aside (SW enc w0 blk off dk wr) ∧ Aside0 (St.swapFrom a b (n - k) k dk = St.swapR d a b n))
  case atStart => exact ⟨0, d, rfl, Nat.zero_le _, ⟨rfl⟩, hd, S0, ⟨rfl⟩⟩
  case round =>
    clear S0
    obtain ⟨k, dk, rfl, hk, HQ, hds, S1, HE⟩ := hrel
    by_cases hlt : k < n
    · have hltz : (k : Int) < (n : Int) := by omega
      obtain ⟨i, hi⟩ : ∃ i, i = a + k := ⟨_, rfl⟩
      obtain ⟨j, hj⟩ : ∃ j, j = b + k := ⟨_, rfl⟩
      have ea : ((a : Int) + (k : Int)).toNat = i := by omega
      have pa : (0 : Int) ≤ (a : Int) + (k : Int) := by omega
      have ba : (a : Int) + (k : Int) < (sz : Int) := by omega
      have ra : IntKind.i64.wrap ((a : Int) + (k : Int)) = (a : Int) + (k : Int) := by rw [IntKind.wrap_i64]; omega
      have ec : ((b : Int) + (k : Int)).toNat = j := by omega
      have pc : (0 : Int) ≤ (b : Int) + (k : Int) := by omega
      have bc : (b : Int) + (k : Int) < (sz : Int) := by omega
      have rc : IntKind.i64.wrap ((b : Int) + (k : Int)) = (b : Int) + (k : Int) := by rw [IntKind.wrap_i64]; omega
      have hi2 : i < dk.size := by omega
      have hj2 : j < dk.size := by omega
      have HI := Aside0.mk hi
      have HJ := Aside0.mk hj
      obtain ⟨x, hx⟩ : ∃ x, x = dk[i]! := ⟨_, rfl⟩
      obtain ⟨y, hy⟩ : ∃ y, y = dk[j]! := ⟨_, rfl⟩
      have S2 : Aside (SW enc w0 blk off (Go.Sort.swp dk i j) ((wr.setCell ⟨blk, off + i, none⟩ (enc y)).setCell ⟨blk, off + j, none⟩ (enc x)).drew) := by rw [hx, hy]; exact S1.out.swapped R i j hi2 hj2
      have ca := S1.out.c1 R (by omega) i hi2
      have cb_ := S1.out.c1 R (by omega) j hj2
      have fa := S1.out.f1 R (by omega) i hi2
      have fb := S1.out.f1 R (by omega) j hj2
      obtain ⟨u, cc⟩ := S1.out.c2 R (by omega) i j hi2 hj2 (enc y)
      rw [← hx] at ca
      rw [← hy] at cb_
      clear S1 hx hy hi hj
      go_upto_region 3 with (fail)
      go_region
      clear ca cb_ cc fa fb
      generalize ((wr.setCell ⟨blk, off + i, none⟩ (enc y)).setCell ⟨blk, off + j, none⟩ (enc x)).drew = w2 at S2 ⊢
      clear ea ec
      go_wp2
      go_roundg (gk - 1)
      case measure => have := HQ.out; omega
      case rel =>
        exact ⟨k + 1, Go.Sort.swp dk i j, by go_num, by omega, ⟨by have := HQ.out; omega⟩, by rw [Go.Sort.size_swp]; exact hds, S2, ⟨by have h := HE.out; rw [show n - k = (n - (k + 1)) + 1 by omega, St.swapFrom] at h; rw [HI.out, HJ.out]; exact h⟩⟩
    · obtain rfl : k = n := by omega
      have hltz : ¬ (k : Int) < (k : Int) := by omega
      go_wp2
      go_end0
      exact ⟨rfl, by have h := HE.out; rw [Nat.sub_self, St.swapFrom] at h; rw [← h]; exact S1.out⟩
set_option maxHeartbeats 4000000 in
set_option maxRecDepth 1000000 in
theorem st_rot (g : Nat) (cb : Array Value) (blk off cap sz a m b : Nat) (d0 d : Array β) (w0 w : World) (R : Row1 enc w0 blk off d0) (hd : d.size = sz) (hs : d0.size = sz) (S : SW enc w0 blk off d w) (ham : a < m) (hmb : m < b) (hb : b ≤ sz) (hsz : sz < 4611686018427387904) :
    Calls Try.prog 43 #[.slice (some ⟨blk, off, none⟩) sz cap, .int .i64 a, .int .i64 m, .int .i64 b, .func (.func g) #[] cb] w fun e w' => e = .returned (.tuple #[]) ∧ SW enc w0 blk off (St.rot d a m b) w' := by
  have S0 : Aside (SW enc w0 blk off d w) := S
  clear S
  go_enter Try.func43, Try.ntmps43
  go_wp2
  go_loopg [10, 11] (b - a + 1) (fun kx s10 s11 wr => ∃ (i j : Nat) (dk : Array β), s10 = .int .i64 i ∧ s11 = .int .i64 j ∧ Aside0 (1 ≤ i ∧ 1 ≤ j ∧ i ≤ m ∧ m + j ≤ sz) ∧ Aside0 (i + j ≤ kx) ∧ dk.size = sz ∧ Aside (SW enc w0 blk off dk wr) ∧ Aside0 (St.rotFrom m kx i j dk = St.rot d a m b))
  case atStart => exact ⟨m - a, b - m, d, by congr 1; omega, by congr 1; omega, ⟨by omega⟩, ⟨by omega⟩, hd, S0, ⟨rfl⟩⟩
  case round =>
    clear S0
    obtain ⟨i, j, dk, rfl, rfl, HI, HK, hds, S1, HE⟩ := hrel
    obtain ⟨h1, h2, h3, h4⟩ := HI.out
    have hk := HK.out
    obtain ⟨kx, rfl⟩ : ∃ q, gk = q + 1 := ⟨gk - 1, by omega⟩
    obtain ⟨q, hq⟩ : ∃ q, q = m - i := ⟨_, rfl⟩
    have hq1 : (m : Int) - (i : Int) = (q : Int) := by omega
    have HQ := Aside0.mk hq
    clear hq
    have hE := HE.out
    rw [St.rotFrom] at hE
    by_cases e : i = j
    · subst e
      rw [if_pos rfl] at hE
      have HE' := Aside0.mk hE
      have b1 : ((i : Int) != (i : Int)) = false := by simp
      clear hE HE
      go_wp2_with (go_at_call 44; refine (st_swap g cb blk off cap sz q m i d0 dk w0 _ R hds hs S1.out (by have := HQ.out; omega) (by omega) hsz).mono ?_; rintro e_ w2 ⟨rfl, hS⟩)
      go_end0
      exact ⟨rfl, by rw [← HE'.out, ← HQ.out]; exact hS⟩
    · rw [if_neg e] at hE
      have b1 : ((i : Int) != (j : Int)) = true := by simp; omega
      by_cases c : j < i
      · rw [if_pos c] at hE
        have HE' := Aside0.mk hE
        have hc : (j : Int) < (i : Int) := by omega
        have hij : (i : Int) - (j : Int) = ((i - j : Nat) : Int) := by omega
        clear hE HE
        have HIJ := Aside0.mk hij
        clear hij
        go_wp2_with (go_at_call 44; refine (st_swap g cb blk off cap sz q m j d0 dk w0 _ R hds hs S1.out (by have := HQ.out; omega) (by omega) hsz).mono ?_; rintro e_ w2 ⟨rfl, hS⟩; have S2 : Aside (SW enc w0 blk off (St.swapR dk q m j) w2) := hS; clear hS)
        go_roundg kx
        case measure => omega
        case rel => exact ⟨i - j, j, St.swapR dk q m j, by rw [HIJ.out], rfl, ⟨by omega⟩, ⟨by omega⟩, by rw [St.swapR_size]; exact hds, S2, ⟨by rw [HQ.out]; exact HE'.out⟩⟩
      · rw [if_neg c] at hE
        have HE' := Aside0.mk hE
        have hc : ¬ (j : Int) < (i : Int) := by omega
        have hji : (j : Int) - (i : Int) = ((j - i : Nat) : Int) := by omega
        obtain ⟨p, hp⟩ : ∃ p, p = m + j - i := ⟨_, rfl⟩
        have hp1 : (m : Int) + (j : Int) - (i : Int) = (p : Int) := by omega
        have HP := Aside0.mk hp
        clear hE HE hp
        have HJI := Aside0.mk hji
        clear hji
        go_wp2_with (go_at_call 44; refine (st_swap g cb blk off cap sz q p i d0 dk w0 _ R hds hs S1.out (by have := HQ.out; omega) (by have := HP.out; omega) hsz).mono ?_; rintro e_ w2 ⟨rfl, hS⟩; have S2 : Aside (SW enc w0 blk off (St.swapR dk q p i) w2) := hS; clear hS)
        go_roundg kx
        case measure => omega
        case rel => exact ⟨i, j - i, St.swapR dk q p i, rfl, by rw [HJI.out], ⟨by omega⟩, ⟨by omega⟩, by rw [St.swapR_size]; exact hds, S2, ⟨by rw [HQ.out, HP.out]; exact HE'.out⟩⟩
set_option maxHeartbeats 8000000 in
set_option maxRecDepth 1000000 in
theorem st_symA (g : Nat) (cb : Array Value) (cf : β → β → Int) (blk off cap sz f a m b : Nat) (d0 d : Array β) (w0 w : World) (eg : ∀ args w, (callFunc g args).run Try.prog w = .ok (.enter g args) w) (hcmp : CmpLays1 Try.prog g cb enc cf blk off sz w0)
    (R : Row1 enc w0 blk off d0) (hd : d.size = sz) (hs : d0.size = sz) (S : SW enc w0 blk off d w) (hma : m - a = 1) (hmb : m < b) (hb : b ≤ sz) (hsz : sz < 1152921504606846976) :
    Calls Try.prog 40 #[.slice (some ⟨blk, off, none⟩) sz cap, .int .i64 a, .int .i64 m, .int .i64 b, .func (.func g) #[] cb] w fun e w' => e = .returned (.tuple #[]) ∧ SW enc w0 blk off (St.symM (ltOf cf) (f + 1) a m b d) w' := by
  have HG : Aside0 (St.symM (ltOf cf) (f + 1) a m b d = St.shR (St.bs (fun h => ltOf cf d[h]! d[a]!) (b - m) m b - 1 - a) a d) := ⟨by rw [St.symM, if_pos hma]⟩
  have hcl0 := R.hO.cells
  simp only [Value.cells] at hcl0
  have hst := R.hO.store Try.prog
  have mixed : Try.prog.follows .mixedOrders = true := by kernel_rfl
  have S0 : Aside (SW enc w0 blk off d w) := S
  have HC : Aside _ := hcmp
  have HMB := Aside0.mk hmb
  clear S hcmp
  have ham : (m : Int) - (a : Int) = 1 := by omega
  have HMA := Aside0.mk hma
  obtain ⟨I0, hI0⟩ : ∃ I0, I0 = St.bs (fun h => ltOf cf d[h]! d[a]!) (b - m) m b := ⟨_, rfl⟩
  have hI1 := St.bs_range (fun h => ltOf cf d[h]! d[a]!) (b - m) m b (by omega)
  rw [← hI0] at hI1
  have HI0 := Aside0.mk hI0
  clear hI0
  go_enter Try.func40, Try.ntmps40
  go_wp2
  go_loopg [10, 11] (b - m) (fun kx s10 s11 wr => ∃ (i j : Nat), s10 = .int .i64 i ∧ s11 = .int .i64 j ∧ Aside0 (m ≤ i ∧ i ≤ j ∧ j ≤ b) ∧ Aside0 (j - i ≤ kx) ∧ Aside (SW enc w0 blk off d wr) ∧ Aside0 (St.bs (fun h => ltOf cf d[h]! d[a]!) kx i j = I0))
  case atStart => exact ⟨m, b, rfl, rfl, ⟨by omega⟩, ⟨Nat.le_refl _⟩, S0, ⟨HI0.out.symm⟩⟩
  case round =>
    clear S0
    obtain ⟨i, j, rfl, rfl, HI, HK, S1, HE⟩ := hrel
    obtain ⟨h1, h2, h3⟩ := HI.out
    have hk := HK.out
    by_cases hlt : i < j
    · have hltz : (i : Int) < (j : Int) := by omega
      obtain ⟨kx, rfl⟩ : ∃ q, gk = q + 1 := ⟨gk - 1, by omega⟩
      have hE := HE.out
      rw [St.bs, if_pos hlt] at hE
      obtain ⟨h, hh⟩ : ∃ h, h = (i + j) / 2 := ⟨_, rfl⟩
      rw [← hh] at hE
      have hhi : i ≤ h ∧ h < j := by omega
      have HH := Aside0.mk hh
      have HE' := Aside0.mk hE
      clear hh hE HE
      go_upto_region 4 with (fail)
      go_cut [12] (fun v12 wd => v12 = .int .i64 h ∧ wd = wr)
      case first =>
        go_wp2
        go_meet
        case rel => exact ⟨by congr 1; have := HH.out; omega, rfl⟩
      case rest =>
        obtain ⟨rfl, rfl⟩ := hcut
        have ph : (h : Int) < (sz : Int) := by omega
        have pa : (a : Int) < (sz : Int) := by omega
        obtain ⟨x, hx⟩ : ∃ x, x = d[h]! := ⟨_, rfl⟩
        obtain ⟨y, hy⟩ : ∃ y, y = d[a]! := ⟨_, rfl⟩
        have l1 := S1.out.cl R (by omega) h (by omega)
        have l2 := S1.out.cl R (by omega) a (by omega)
        rw [← hx] at l1
        rw [← hy] at l2
        have hc := S1.out.cmp HC.out (by omega) x y
        have hlt2 : ltOf cf d[h]! d[a]! = decide (cf x y < 0) := by rw [hx, hy]; rfl
        rw [hlt2] at HE'
        clear hx hy hlt2
        cases hv : decide (cf x y < 0) with
        | true =>
          rw [hv, if_pos rfl] at HE'
          have hv2 : cf x y < 0 := of_decide_eq_true hv
          go_upto_region 5 with (fail)
          go_quiet_grown (first | (go_at_fn g; refine Calls.grown_of (hc _ _)))
          have S2 : Aside (SW enc w0 blk off d (grow (wc.drewN nq) osq)) := S1.out.grown nq osq
          clear l1 l2 hc S1
          generalize grow (wc.drewN nq) osq = w2 at S2 ⊢
          clear nq osq
          go_wp2
          go_roundg kx
          case measure => omega
          case rel => exact ⟨h + 1, j, by go_num, rfl, ⟨by omega⟩, ⟨by omega⟩, S2, HE'⟩
        | false =>
          rw [hv, if_neg (by decide)] at HE'
          have hv2 : ¬ cf x y < 0 := of_decide_eq_false hv
          go_upto_region 5 with (fail)
          go_quiet_grown (first | (go_at_fn g; refine Calls.grown_of (hc _ _)))
          have S2 : Aside (SW enc w0 blk off d (grow (wc.drewN nq) osq)) := S1.out.grown nq osq
          clear l1 l2 hc S1
          generalize grow (wc.drewN nq) osq = w2 at S2 ⊢
          clear nq osq
          go_wp2
          go_roundg kx
          case measure => omega
          case rel => exact ⟨i, h, rfl, rfl, ⟨by omega⟩, ⟨by omega⟩, S2, HE'⟩
    · have hltz : ¬ (i : Int) < (j : Int) := by omega
      obtain ⟨e0, he0⟩ : ∃ e0, e0 = i := ⟨_, rfl⟩
      have hiI : i = I0 := by
        have hE := HE.out
        cases gk with
        | zero => rw [St.bs] at hE; exact hE
        | succ q => rw [St.bs, if_neg hlt] at hE; exact hE
      have HG2 : Aside0 (St.symM (ltOf cf) (f + 1) a m b d = St.shR (i - 1 - a) a d) := ⟨by rw [HG.out, ← HI0.out, hiI]⟩
      clear HE hiI he0 e0
      go_wp2
      go_loopg [13] (i - a) (fun kq s13 wq => ∃ (k : Nat) (dk : Array β), s13 = .int .i64 k ∧ Aside0 (a ≤ k ∧ k + 1 ≤ i) ∧ Aside0 (kq + k = i) ∧ dk.size = sz ∧ Aside (SW enc w0 blk off dk wq) ∧ Aside0 (St.shR (i - 1 - k) k dk = St.shR (i - 1 - a) a d))
      case atStart => exact ⟨a, d, rfl, ⟨by omega⟩, ⟨by omega⟩, hd, S1, ⟨rfl⟩⟩
      case round =>
        clear S1
        obtain ⟨k, dk, rfl, HK2, HQ, hds, S1, HE⟩ := hrel
        obtain ⟨k1, k2⟩ := HK2.out
        have hq := HQ.out
        by_cases hlt2 : k + 1 < i
        · have p1 : (k : Int) < (i : Int) - 1 := by omega
          obtain ⟨j2, hj2⟩ : ∃ j2, j2 = k + 1 := ⟨_, rfl⟩
          have ba : (k : Int) < (sz : Int) := by omega
          have rc : IntKind.i64.wrap ((k : Int) + 1) = (k : Int) + 1 := by rw [IntKind.wrap_i64]; omega
          have ec : ((k : Int) + 1).toNat = j2 := by omega
          have pc : (0 : Int) ≤ (k : Int) + 1 := by omega
          have bc : (k : Int) + 1 < (sz : Int) := by omega
          have hi2 : k < dk.size := by omega
          have hj3 : j2 < dk.size := by omega
          obtain ⟨x, hx⟩ : ∃ x, x = dk[k]! := ⟨_, rfl⟩
          obtain ⟨y, hy⟩ : ∃ y, y = dk[j2]! := ⟨_, rfl⟩
          have S2 : Aside (SW enc w0 blk off (Go.Sort.swp dk k j2) ((wr.setCell ⟨blk, off + k, none⟩ (enc y)).setCell ⟨blk, off + j2, none⟩ (enc x)).drew) := by rw [hx, hy]; exact S1.out.swapped R k j2 hi2 hj3
          have ca := S1.out.c1 R (by omega) k hi2
          have cb_ := S1.out.c1 R (by omega) j2 hj3
          have fa := S1.out.f1 R (by omega) k hi2
          have fb := S1.out.f1 R (by omega) j2 hj3
          obtain ⟨u, cc⟩ := S1.out.c2 R (by omega) k j2 hi2 hj3 (enc y)
          rw [← hx] at ca
          rw [← hy] at cb_
          have HJ := Aside0.mk hj2
          clear S1 hx hy hj2
          go_upto_region 11 with (fail)
          go_region
          clear ca cb_ cc fa fb
          generalize ((wr.setCell ⟨blk, off + k, none⟩ (enc y)).setCell ⟨blk, off + j2, none⟩ (enc x)).drew = w2 at S2 ⊢
          clear ec
          go_wp2
          go_roundg (gk - 1)
          case measure => omega
          case rel => exact ⟨k + 1, Go.Sort.swp dk k j2, by go_num, ⟨by omega⟩, ⟨by omega⟩, by rw [Go.Sort.size_swp]; exact hds, S2, ⟨by have h := HE.out; rw [show i - 1 - k = (i - 1 - (k + 1)) + 1 by omega, St.shR] at h; rw [HJ.out]; exact h⟩⟩
        · have p1 : ¬ (k : Int) < (i : Int) - 1 := by omega
          go_wp2
          (try simp only [Exit.inBlock, Exit.then]); refine bodyPost_ret (results_none rfl _ _ _) rfl ?_
          exact ⟨rfl, by have h := HE.out; rw [show i - 1 - k = 0 by omega, St.shR] at h; rw [HG2.out, ← h]; exact S1.out⟩
set_option maxHeartbeats 8000000 in
set_option maxRecDepth 1000000 in
theorem st_symB (g : Nat) (cb : Array Value) (cf : β → β → Int) (blk off cap sz f a m b : Nat) (d0 d : Array β) (w0 w : World) (eg : ∀ args w, (callFunc g args).run Try.prog w = .ok (.enter g args) w) (hcmp : CmpLays1 Try.prog g cb enc cf blk off sz w0)
    (R : Row1 enc w0 blk off d0) (hd : d.size = sz) (hs : d0.size = sz) (S : SW enc w0 blk off d w) (hma : m - a ≠ 1) (ham0 : a < m) (hbm : b - m = 1) (hb : b ≤ sz) (hsz : sz < 1152921504606846976) :
    Calls Try.prog 40 #[.slice (some ⟨blk, off, none⟩) sz cap, .int .i64 a, .int .i64 m, .int .i64 b, .func (.func g) #[] cb] w fun e w' => e = .returned (.tuple #[]) ∧ SW enc w0 blk off (St.symM (ltOf cf) (f + 1) a m b d) w' := by
  have HG : Aside0 (St.symM (ltOf cf) (f + 1) a m b d = St.shL (m - St.bs (fun h => !ltOf cf d[m]! d[h]!) (m - a) a m) m d) := ⟨by rw [St.symM, if_neg hma, if_pos hbm]⟩
  have hcl0 := R.hO.cells
  simp only [Value.cells] at hcl0
  have hst := R.hO.store Try.prog
  have mixed : Try.prog.follows .mixedOrders = true := by kernel_rfl
  have S0 : Aside (SW enc w0 blk off d w) := S
  have HC : Aside _ := hcmp
  clear S hcmp
  obtain ⟨ma, hma2⟩ : ∃ q : Nat, (m : Int) - (a : Int) = (q : Int) := ⟨m - a, by omega⟩
  have hma3 : ((ma : Int) == 1) = false := by simp; omega
  have hbm2 : (b : Int) - (m : Int) = 1 := by omega
  obtain ⟨I0, hI0⟩ : ∃ I0, I0 = St.bs (fun h => !ltOf cf d[m]! d[h]!) (m - a) a m := ⟨_, rfl⟩
  have hI1 := St.bs_range (fun h => !ltOf cf d[m]! d[h]!) (m - a) a m (by omega)
  rw [← hI0] at hI1
  have HI0 := Aside0.mk hI0
  clear hI0
  go_enter Try.func40, Try.ntmps40
  go_wp2
  go_loopg [14, 15] (m - a) (fun kx s10 s11 wr => ∃ (i j : Nat), s10 = .int .i64 i ∧ s11 = .int .i64 j ∧ Aside0 (a ≤ i ∧ i ≤ j ∧ j ≤ m) ∧ Aside0 (j - i ≤ kx) ∧ Aside (SW enc w0 blk off d wr) ∧ Aside0 (St.bs (fun h => !ltOf cf d[m]! d[h]!) kx i j = I0))
  case atStart => exact ⟨a, m, rfl, rfl, ⟨by omega⟩, ⟨Nat.le_refl _⟩, S0, ⟨HI0.out.symm⟩⟩
  case round =>
    clear S0
    obtain ⟨i, j, rfl, rfl, HI, HK, S1, HE⟩ := hrel
    obtain ⟨h1, h2, h3⟩ := HI.out
    have hk := HK.out
    by_cases hlt : i < j
    · have hltz : (i : Int) < (j : Int) := by omega
      obtain ⟨kx, rfl⟩ : ∃ q, gk = q + 1 := ⟨gk - 1, by omega⟩
      have hE := HE.out
      rw [St.bs, if_pos hlt] at hE
      obtain ⟨h, hh⟩ : ∃ h, h = (i + j) / 2 := ⟨_, rfl⟩
      rw [← hh] at hE
      have hhi : i ≤ h ∧ h < j := by omega
      have HH := Aside0.mk hh
      have HE' := Aside0.mk hE
      clear hh hE HE
      go_upto_region 16 with (fail)
      go_cut [16] (fun v12 wd => v12 = .int .i64 h ∧ wd = wr)
      case first =>
        go_wp2
        go_meet
        case rel => exact ⟨by congr 1; have := HH.out; omega, rfl⟩
      case rest =>
        obtain ⟨rfl, rfl⟩ := hcut
        have ph : (h : Int) < (sz : Int) := by omega
        have pa : (m : Int) < (sz : Int) := by omega
        obtain ⟨x, hx⟩ : ∃ x, x = d[m]! := ⟨_, rfl⟩
        obtain ⟨y, hy⟩ : ∃ y, y = d[h]! := ⟨_, rfl⟩
        have l1 := S1.out.cl R (by omega) m (by omega)
        have l2 := S1.out.cl R (by omega) h (by omega)
        rw [← hx] at l1
        rw [← hy] at l2
        have hc := S1.out.cmp HC.out (by omega) x y
        have hlt2 : ltOf cf d[m]! d[h]! = decide (cf x y < 0) := by rw [hx, hy]; rfl
        rw [hlt2] at HE'
        clear hx hy hlt2
        cases hv : decide (cf x y < 0) with
        | true =>
          rw [hv, if_neg (by decide)] at HE'
          have hv2 : cf x y < 0 := of_decide_eq_true hv
          go_upto_region 17 with (fail)
          go_quiet_grown (first | (go_at_fn g; refine Calls.grown_of (hc _ _)))
          have S2 : Aside (SW enc w0 blk off d (grow (wc.drewN nq) osq)) := S1.out.grown nq osq
          clear l1 l2 hc S1
          generalize grow (wc.drewN nq) osq = w2 at S2 ⊢
          clear nq osq
          go_wp2
          go_roundg kx
          case measure => omega
          case rel => exact ⟨i, h, rfl, rfl, ⟨by omega⟩, ⟨by omega⟩, S2, HE'⟩
        | false =>
          rw [hv, if_pos (by decide)] at HE'
          have hv2 : ¬ cf x y < 0 := of_decide_eq_false hv
          go_upto_region 17 with (fail)
          go_quiet_grown (first | (go_at_fn g; refine Calls.grown_of (hc _ _)))
          have S2 : Aside (SW enc w0 blk off d (grow (wc.drewN nq) osq)) := S1.out.grown nq osq
          clear l1 l2 hc S1
          generalize grow (wc.drewN nq) osq = w2 at S2 ⊢
          clear nq osq
          go_wp2
          go_roundg kx
          case measure => omega
          case rel => exact ⟨h + 1, j, by go_num, rfl, ⟨by omega⟩, ⟨by omega⟩, S2, HE'⟩
    · have hltz : ¬ (i : Int) < (j : Int) := by omega
      obtain ⟨e0, he0⟩ : ∃ e0, e0 = i := ⟨_, rfl⟩
      have hiI : i = I0 := by
        have hE := HE.out
        cases gk with
        | zero => rw [St.bs] at hE; exact hE
        | succ q => rw [St.bs, if_neg hlt] at hE; exact hE
      have HG2 : Aside0 (St.symM (ltOf cf) (f + 1) a m b d = St.shL (m - i) m d) := ⟨by rw [HG.out, ← HI0.out, hiI]⟩
      clear HE hiI he0 e0
      go_wp2
      go_loopg [17] (m - i) (fun kq s13 wq => ∃ (k : Nat) (dk : Array β), s13 = .int .i64 k ∧ Aside0 (i ≤ k ∧ k ≤ m) ∧ Aside0 (kq + i = k) ∧ dk.size = sz ∧ Aside (SW enc w0 blk off dk wq) ∧ Aside0 (St.shL (k - i) k dk = St.shL (m - i) m d))
      case atStart => exact ⟨m, d, rfl, ⟨by omega⟩, ⟨by omega⟩, hd, S1, ⟨rfl⟩⟩
      case round =>
        clear S1
        obtain ⟨k, dk, rfl, HK2, HQ, hds, S1, HE⟩ := hrel
        obtain ⟨k1, k2⟩ := HK2.out
        have hq := HQ.out
        by_cases hlt2 : i < k
        · have p1 : (i : Int) < (k : Int) := by omega
          obtain ⟨j2, hj2⟩ : ∃ j2, j2 = k - 1 := ⟨_, rfl⟩
          have ba : (k : Int) < (sz : Int) := by omega
          have rc : IntKind.i64.wrap ((k : Int) - 1) = (k : Int) - 1 := by rw [IntKind.wrap_i64]; omega
          have ec : ((k : Int) - 1).toNat = j2 := by omega
          have pc : (0 : Int) ≤ (k : Int) - 1 := by omega
          have bc : (k : Int) - 1 < (sz : Int) := by omega
          have pk : (1 : Int) ≤ (k : Int) := by omega
          have pk2 : 1 ≤ k := by omega
          have hi2 : k < dk.size := by omega
          have hj3 : j2 < dk.size := by omega
          have hjm : (k : Int) - 1 = ((k - 1 : Nat) : Int) := by omega
          have HJM := Aside0.mk hjm
          clear hjm
          obtain ⟨x, hx⟩ : ∃ x, x = dk[k]! := ⟨_, rfl⟩
          obtain ⟨y, hy⟩ : ∃ y, y = dk[j2]! := ⟨_, rfl⟩
          have S2 : Aside (SW enc w0 blk off (Go.Sort.swp dk k j2) ((wr.setCell ⟨blk, off + k, none⟩ (enc y)).setCell ⟨blk, off + j2, none⟩ (enc x)).drew) := by rw [hx, hy]; exact S1.out.swapped R k j2 hi2 hj3
          have ca := S1.out.c1 R (by omega) k hi2
          have cb_ := S1.out.c1 R (by omega) j2 hj3
          have fa := S1.out.f1 R (by omega) k hi2
          have fb := S1.out.f1 R (by omega) j2 hj3
          obtain ⟨u, cc⟩ := S1.out.c2 R (by omega) k j2 hi2 hj3 (enc y)
          rw [← hx] at ca
          rw [← hy] at cb_
          have HJ := Aside0.mk hj2
          clear S1 hx hy hj2
          go_upto_region 23 with (fail)
          go_region
          clear ca cb_ cc fa fb
          generalize ((wr.setCell ⟨blk, off + k, none⟩ (enc y)).setCell ⟨blk, off + j2, none⟩ (enc x)).drew = w2 at S2 ⊢
          clear ec
          go_wp2
          go_roundg (gk - 1)
          case measure => omega
          case rel => exact ⟨k - 1, Go.Sort.swp dk k j2, by first | rw [HJM.out] | rfl, ⟨by omega⟩, ⟨by omega⟩, by rw [Go.Sort.size_swp]; exact hds, S2, ⟨by have h := HE.out; rw [show k - i = (k - 1 - i) + 1 by omega, St.shL] at h; rw [HJ.out]; exact h⟩⟩
        · have p1 : ¬ (i : Int) < (k : Int) := by omega
          go_wp2
          (try simp only [Exit.inBlock, Exit.then]); refine bodyPost_ret (results_none rfl _ _ _) rfl ?_
          exact ⟨rfl, by have h := HE.out; rw [show k - i = 0 by omega, St.shL] at h; rw [HG2.out, ← h]; exact S1.out⟩
noncomputable def stSnd : Nat → Code → Code
  | 0, c => c
  | n + 1, .seq _ b => stSnd n b
  | _ + 1, c => c
/-- symMerge's code behind its first n statements -/
noncomputable def stRest (n : Nat) : Code := stSnd n (Try.f40.body.getD .skip)
set_option maxHeartbeats 8000000 in
set_option maxRecDepth 1000000 in
theorem st_tail3 (g : Nat) (cb : Array Value) (cf : β → β → Int) (blk off cap sz f a m b mid s e : Nat) (d0 d : Array β) (w0 w : World) (R : Row1 enc w0 blk off d0) (hd : d.size = sz) (hs : d0.size = sz) (S : SW enc w0 blk off d w) (hb : b ≤ sz) (hsz : sz < 1152921504606846976)
    (IH : ∀ (a' m' b' : Nat) (d' : Array β) (w' : World), SW enc w0 blk off d' w' → d'.size = sz → a' < m' → m' < b' → b' ≤ sz → b' - a' < b - a →
      Calls Try.prog 40 #[.slice (some ⟨blk, off, none⟩) sz cap, .int .i64 a', .int .i64 m', .int .i64 b', .func (.func g) #[] cb] w' fun e w'' => e = .returned (.tuple #[]) ∧ SW enc w0 blk off (St.symM (ltOf cf) f a' m' b' d') w'')
    (g2 : a ≤ s) (g3 : e ≤ b) (g4 : mid ≤ e) (g5 : s ≤ m) (g6 : s ≤ mid) (g7 : m ≤ e) (ham : a < m) (hmb : m < b) (hm1 : a < mid) (hm2 : mid < b) {c5 c6 c7 c8 c9 c10 c11 c12 c13 c14 c15 c16 c17 c19 c21 c22 c23 c25 c26 c27 c28 c29 c30 c31 c32 c33 c34 c35 c36 c37 c38 c39 c40 c41 c42 c43 c44 c45 c46 c47 c48 c49 c50 c51 c52 c53 c54 c55 c56 c57 c58 c59 c60 c61 c62 c63 c64 c65 c66 c67 c68 c69 c70 c71 c72 c73 c74 c75 c76 c77 c78 c79 c80 c81 c82 c83 c84 c85 c86 c87 c88 c89 c90 c91 c92 c93 c94 c95 c96 c97 c98 c99 c100 c101 c102 c103 c104 c105 c106 c107 c108 c109 c110 c111 c112 c113 c114 c115 c116 c117 c118 c119 c120 c121 c122 c123 c124 c125 c126 c127 c128 c129 c130 c131 c132 c133 c134 c135 c136 c137 c138 c139 c140 c141 c142 c143 c144 c145 c146 c147 c148 c149 c150 c151 c152 c153 c154 c155 c156 c157 c158 c159 c160 c161 c162 c163 c164 c165 c166 c167 c168 c169 c170 c171 c172 c173 c174 c175 c176 c177 c178 c179 c180 c181 c182 c183 c184 c185 c186 c187 c188 c189 c190 c191 c192 c193 c194 c195 c196 c197 c198 c199 c200 c201 c202 c203 c204 c205 c206 c207 c208 c209 c210 c211 c212 c213 c214 c215 c216 c217 c218 c219 : Value}  (D : Array β) (hD : (if mid < e ∧ e < b then St.symM (ltOf cf) f mid e b (d) else (d)) = D) :
    Code.wp Try.prog (stRest 11) (bodyPost Try.prog Try.f40 fun e_ w' => e_ = .returned (.tuple #[]) ∧ SW enc w0 blk off D w') ⟨(List.toArray ((Value.slice (some ⟨blk, off, none⟩) sz cap) :: (Value.int .i64 a) :: (Value.int .i64 m) :: (Value.int .i64 b) :: (Value.func (.func g) #[] cb) :: c5 :: c6 :: c7 :: c8 :: c9 :: c10 :: c11 :: c12 :: c13 :: c14 :: c15 :: c16 :: c17 :: (Value.int .i64 mid) :: c19 :: (Value.int .i64 s) :: c21 :: c22 :: c23 :: (Value.int .i64 e) :: c25 :: c26 :: c27 :: c28 :: c29 :: c30 :: c31 :: c32 :: c33 :: c34 :: c35 :: c36 :: c37 :: c38 :: c39 :: c40 :: c41 :: c42 :: c43 :: c44 :: c45 :: c46 :: c47 :: c48 :: c49 :: c50 :: c51 :: c52 :: c53 :: c54 :: c55 :: c56 :: c57 :: c58 :: c59 :: c60 :: c61 :: c62 :: c63 :: c64 :: c65 :: c66 :: c67 :: c68 :: c69 :: c70 :: c71 :: c72 :: c73 :: c74 :: c75 :: c76 :: c77 :: c78 :: c79 :: c80 :: c81 :: c82 :: c83 :: c84 :: c85 :: c86 :: c87 :: c88 :: c89 :: c90 :: c91 :: c92 :: c93 :: c94 :: c95 :: c96 :: c97 :: c98 :: c99 :: c100 :: c101 :: c102 :: c103 :: c104 :: c105 :: c106 :: c107 :: c108 :: c109 :: c110 :: c111 :: c112 :: c113 :: c114 :: c115 :: c116 :: c117 :: c118 :: c119 :: c120 :: c121 :: c122 :: c123 :: c124 :: c125 :: c126 :: c127 :: c128 :: c129 :: c130 :: c131 :: c132 :: c133 :: c134 :: c135 :: c136 :: c137 :: c138 :: c139 :: c140 :: c141 :: c142 :: c143 :: c144 :: c145 :: c146 :: c147 :: c148 :: c149 :: c150 :: c151 :: c152 :: c153 :: c154 :: c155 :: c156 :: c157 :: c158 :: c159 :: c160 :: c161 :: c162 :: c163 :: c164 :: c165 :: c166 :: c167 :: c168 :: c169 :: c170 :: c171 :: c172 :: c173 :: c174 :: c175 :: c176 :: c177 :: c178 :: c179 :: c180 :: c181 :: c182 :: c183 :: c184 :: c185 :: c186 :: c187 :: c188 :: c189 :: c190 :: c191 :: c192 :: c193 :: c194 :: c195 :: c196 :: c197 :: c198 :: c199 :: c200 :: c201 :: c202 :: c203 :: c204 :: c205 :: c206 :: c207 :: c208 :: c209 :: c210 :: c211 :: c212 :: c213 :: c214 :: c215 :: c216 :: c217 :: c218 :: c219 :: [])), []⟩ w := by
  have S1 : Aside (SW enc w0 blk off d w) := S
  have HIH := Aside0.mk IH
  clear S IH
  have HB2 := Aside0.mk g2
  have HD := Aside0.mk hD
  clear hD
  conv => arg 2; whnf
  go_upto_region 43 with (fail)
  go_cut [213] (fun v_ wd => v_ = .bool (decide (mid < e ∧ e < b)) ∧ wd = w)
  case first =>
    by_cases c1 : mid < e
    · have c1z : decide ((mid : Int) < (e : Int)) = true := decide_eq_true (by omega)
      have c1y : decide (mid < e) = true := decide_eq_true c1
      by_cases c2 : e < b
      · have c2z : decide ((e : Int) < (b : Int)) = true := decide_eq_true (by omega)
        have c2y : decide (e < b) = true := decide_eq_true c2
        have D_ := Aside0.mk (decide_eq_true (show mid < e ∧ e < b from ⟨c1, c2⟩))
        clear c1 c2
        go_wp2
        go_meet
        case rel => exact ⟨by rw [D_.out], rfl⟩
      · have c2z : decide ((e : Int) < (b : Int)) = false := decide_eq_false (by omega)
        have c2y : decide (e < b) = false := decide_eq_false c2
        have D_ := Aside0.mk (decide_eq_false (show ¬ (mid < e ∧ e < b) by omega))
        clear c1 c2
        go_wp2
        go_meet
        case rel => exact ⟨by rw [D_.out], rfl⟩
    · have c1z : decide ((mid : Int) < (e : Int)) = false := decide_eq_false (by omega)
      have c1y : decide (mid < e) = false := decide_eq_false c1
      have D_ := Aside0.mk (decide_eq_false (show ¬ (mid < e ∧ e < b) by omega))
      clear c1
      go_wp2
      go_meet
      case rel => exact ⟨by rw [D_.out], rfl⟩
  case rest =>
    obtain ⟨rfl, rfl⟩ := hcut
    apply_assumption
    by_cases c : mid < e ∧ e < b
    · rw [decide_eq_true c]
      have CC := Aside0.mk c
      clear c
      go_wp2_with (go_at_call 40; refine (HIH.out mid e b d _ S1.out hd CC.out.1 CC.out.2 hb (by omega)).mono ?_; rintro e_ w5 ⟨rfl, hS⟩; have S5 : Aside (SW enc w0 blk off (St.symM (ltOf cf) f mid e b d) w5) := hS; clear hS)
      go_end0
      exact ⟨rfl, by rw [← HD.out, if_pos CC.out]; exact S5.out⟩
    · rw [decide_eq_false c]
      have CC := Aside0.mk c
      clear c
      go_wp2
      go_end0
      exact ⟨rfl, by rw [← HD.out, if_neg CC.out]; exact S1.out⟩
set_option maxHeartbeats 8000000 in
set_option maxRecDepth 1000000 in
theorem st_tail2 (g : Nat) (cb : Array Value) (cf : β → β → Int) (blk off cap sz f a m b mid s e : Nat) (d0 d : Array β) (w0 w : World) (R : Row1 enc w0 blk off d0) (hd : d.size = sz) (hs : d0.size = sz) (S : SW enc w0 blk off d w) (hb : b ≤ sz) (hsz : sz < 1152921504606846976)
    (IH : ∀ (a' m' b' : Nat) (d' : Array β) (w' : World), SW enc w0 blk off d' w' → d'.size = sz → a' < m' → m' < b' → b' ≤ sz → b' - a' < b - a →
      Calls Try.prog 40 #[.slice (some ⟨blk, off, none⟩) sz cap, .int .i64 a', .int .i64 m', .int .i64 b', .func (.func g) #[] cb] w' fun e w'' => e = .returned (.tuple #[]) ∧ SW enc w0 blk off (St.symM (ltOf cf) f a' m' b' d') w'')
    (g2 : a ≤ s) (g3 : e ≤ b) (g4 : mid ≤ e) (g5 : s ≤ m) (g6 : s ≤ mid) (g7 : m ≤ e) (ham : a < m) (hmb : m < b) (hm1 : a < mid) (hm2 : mid < b) {c5 c6 c7 c8 c9 c10 c11 c12 c13 c14 c15 c16 c17 c19 c21 c22 c23 c25 c26 c27 c28 c29 c30 c31 c32 c33 c34 c35 c36 c37 c38 c39 c40 c41 c42 c43 c44 c45 c46 c47 c48 c49 c50 c51 c52 c53 c54 c55 c56 c57 c58 c59 c60 c61 c62 c63 c64 c65 c66 c67 c68 c69 c70 c71 c72 c73 c74 c75 c76 c77 c78 c79 c80 c81 c82 c83 c84 c85 c86 c87 c88 c89 c90 c91 c92 c93 c94 c95 c96 c97 c98 c99 c100 c101 c102 c103 c104 c105 c106 c107 c108 c109 c110 c111 c112 c113 c114 c115 c116 c117 c118 c119 c120 c121 c122 c123 c124 c125 c126 c127 c128 c129 c130 c131 c132 c133 c134 c135 c136 c137 c138 c139 c140 c141 c142 c143 c144 c145 c146 c147 c148 c149 c150 c151 c152 c153 c154 c155 c156 c157 c158 c159 c160 c161 c162 c163 c164 c165 c166 c167 c168 c169 c170 c171 c172 c173 c174 c175 c176 c177 c178 c179 c180 c181 c182 c183 c184 c185 c186 c187 c188 c189 c190 c191 c192 c193 c194 c195 c196 c197 c198 c199 c200 c201 c202 c203 c204 c205 c206 c207 c208 c209 c210 c211 c212 c213 c214 c215 c216 c217 c218 c219 : Value}  (D : Array β) (hD : (if mid < e ∧ e < b then St.symM (ltOf cf) f mid e b ((if a < s ∧ s < mid then St.symM (ltOf cf) f a s mid d else d)) else ((if a < s ∧ s < mid then St.symM (ltOf cf) f a s mid d else d))) = D) :
    Code.wp Try.prog (stRest 10) (bodyPost Try.prog Try.f40 fun e_ w' => e_ = .returned (.tuple #[]) ∧ SW enc w0 blk off D w') ⟨(List.toArray ((Value.slice (some ⟨blk, off, none⟩) sz cap) :: (Value.int .i64 a) :: (Value.int .i64 m) :: (Value.int .i64 b) :: (Value.func (.func g) #[] cb) :: c5 :: c6 :: c7 :: c8 :: c9 :: c10 :: c11 :: c12 :: c13 :: c14 :: c15 :: c16 :: c17 :: (Value.int .i64 mid) :: c19 :: (Value.int .i64 s) :: c21 :: c22 :: c23 :: (Value.int .i64 e) :: c25 :: c26 :: c27 :: c28 :: c29 :: c30 :: c31 :: c32 :: c33 :: c34 :: c35 :: c36 :: c37 :: c38 :: c39 :: c40 :: c41 :: c42 :: c43 :: c44 :: c45 :: c46 :: c47 :: c48 :: c49 :: c50 :: c51 :: c52 :: c53 :: c54 :: c55 :: c56 :: c57 :: c58 :: c59 :: c60 :: c61 :: c62 :: c63 :: c64 :: c65 :: c66 :: c67 :: c68 :: c69 :: c70 :: c71 :: c72 :: c73 :: c74 :: c75 :: c76 :: c77 :: c78 :: c79 :: c80 :: c81 :: c82 :: c83 :: c84 :: c85 :: c86 :: c87 :: c88 :: c89 :: c90 :: c91 :: c92 :: c93 :: c94 :: c95 :: c96 :: c97 :: c98 :: c99 :: c100 :: c101 :: c102 :: c103 :: c104 :: c105 :: c106 :: c107 :: c108 :: c109 :: c110 :: c111 :: c112 :: c113 :: c114 :: c115 :: c116 :: c117 :: c118 :: c119 :: c120 :: c121 :: c122 :: c123 :: c124 :: c125 :: c126 :: c127 :: c128 :: c129 :: c130 :: c131 :: c132 :: c133 :: c134 :: c135 :: c136 :: c137 :: c138 :: c139 :: c140 :: c141 :: c142 :: c143 :: c144 :: c145 :: c146 :: c147 :: c148 :: c149 :: c150 :: c151 :: c152 :: c153 :: c154 :: c155 :: c156 :: c157 :: c158 :: c159 :: c160 :: c161 :: c162 :: c163 :: c164 :: c165 :: c166 :: c167 :: c168 :: c169 :: c170 :: c171 :: c172 :: c173 :: c174 :: c175 :: c176 :: c177 :: c178 :: c179 :: c180 :: c181 :: c182 :: c183 :: c184 :: c185 :: c186 :: c187 :: c188 :: c189 :: c190 :: c191 :: c192 :: c193 :: c194 :: c195 :: c196 :: c197 :: c198 :: c199 :: c200 :: c201 :: c202 :: c203 :: c204 :: c205 :: c206 :: c207 :: c208 :: c209 :: c210 :: c211 :: c212 :: c213 :: c214 :: c215 :: c216 :: c217 :: c218 :: c219 :: [])), []⟩ w := by
  have S1 : Aside (SW enc w0 blk off d w) := S
  have HIH := Aside0.mk IH
  clear S IH
  have HB2 := Aside0.mk g2
  have HD := Aside0.mk hD
  clear hD
  conv => arg 2; whnf
  go_upto_region 41 with (fail)
  go_cut [199] (fun v_ wd => v_ = .bool (decide (a < s ∧ s < mid)) ∧ wd = w)
  case first =>
    by_cases c1 : a < s
    · have c1z : decide ((a : Int) < (s : Int)) = true := decide_eq_true (by omega)
      have c1y : decide (a < s) = true := decide_eq_true c1
      by_cases c2 : s < mid
      · have c2z : decide ((s : Int) < (mid : Int)) = true := decide_eq_true (by omega)
        have c2y : decide (s < mid) = true := decide_eq_true c2
        have D_ := Aside0.mk (decide_eq_true (show a < s ∧ s < mid from ⟨c1, c2⟩))
        clear c1 c2
        go_wp2
        go_meet
        case rel => exact ⟨by rw [D_.out], rfl⟩
      · have c2z : decide ((s : Int) < (mid : Int)) = false := decide_eq_false (by omega)
        have c2y : decide (s < mid) = false := decide_eq_false c2
        have D_ := Aside0.mk (decide_eq_false (show ¬ (a < s ∧ s < mid) by omega))
        clear c1 c2
        go_wp2
        go_meet
        case rel => exact ⟨by rw [D_.out], rfl⟩
    · have c1z : decide ((a : Int) < (s : Int)) = false := decide_eq_false (by omega)
      have c1y : decide (a < s) = false := decide_eq_false c1
      have D_ := Aside0.mk (decide_eq_false (show ¬ (a < s ∧ s < mid) by omega))
      clear c1
      go_wp2
      go_meet
      case rel => exact ⟨by rw [D_.out], rfl⟩
  case rest =>
    obtain ⟨rfl, rfl⟩ := hcut
    go_upto_if 199 with (fail)
    go_cut [] (fun wd => Aside (SW enc w0 blk off ((if a < s ∧ s < mid then St.symM (ltOf cf) f a s mid d else d)) wd))
    case first =>
      by_cases c : a < s ∧ s < mid
      · have HR_ := Aside0.mk (show ((if a < s ∧ s < mid then St.symM (ltOf cf) f a s mid d else d)) = St.symM (ltOf cf) f a s mid d by rw [if_pos c])
        rw [decide_eq_true c]
        have CC := Aside0.mk c
        clear c
        go_wp2_with (go_at_call 40; refine (HIH.out a s mid d _ S1.out hd CC.out.1 CC.out.2 (by omega) (by omega)).mono ?_; rintro e_ w5 ⟨rfl, hS⟩; have S5 : Aside (SW enc w0 blk off (St.symM (ltOf cf) f a s mid d) w5) := hS; clear hS)
        go_meet
        case rel => rw [HR_.out]; exact S5
      · have HR_ := Aside0.mk (show ((if a < s ∧ s < mid then St.symM (ltOf cf) f a s mid d else d)) = d by rw [if_neg c])
        rw [decide_eq_false c]
        clear c
        go_wp2
        go_meet
        case rel => rw [HR_.out]; exact S1
    case rest =>
      have S2 := hcut
      clear hcut S1
      apply_assumption
      exact st_tail3 g cb cf blk off cap sz f a m b mid s e d0 _ w0 _ R (by split <;> first | exact hd | (rw [St.symM_size]; exact hd)) hs S2.out hb hsz HIH.out HB2.out g3 g4 g5 g6 g7 ham hmb hm1 hm2 D HD.out
set_option maxHeartbeats 8000000 in
set_option maxRecDepth 1000000 in
theorem st_tail1 (g : Nat) (cb : Array Value) (cf : β → β → Int) (blk off cap sz f a m b mid s e : Nat) (d0 d : Array β) (w0 w : World) (R : Row1 enc w0 blk off d0) (hd : d.size = sz) (hs : d0.size = sz) (S : SW enc w0 blk off d w) (hb : b ≤ sz) (hsz : sz < 1152921504606846976)
    (IH : ∀ (a' m' b' : Nat) (d' : Array β) (w' : World), SW enc w0 blk off d' w' → d'.size = sz → a' < m' → m' < b' → b' ≤ sz → b' - a' < b - a →
      Calls Try.prog 40 #[.slice (some ⟨blk, off, none⟩) sz cap, .int .i64 a', .int .i64 m', .int .i64 b', .func (.func g) #[] cb] w' fun e w'' => e = .returned (.tuple #[]) ∧ SW enc w0 blk off (St.symM (ltOf cf) f a' m' b' d') w'')
    (g2 : a ≤ s) (g3 : e ≤ b) (g4 : mid ≤ e) (g5 : s ≤ m) (g6 : s ≤ mid) (g7 : m ≤ e) (ham : a < m) (hmb : m < b) (hm1 : a < mid) (hm2 : mid < b) {c5 c6 c7 c8 c9 c10 c11 c12 c13 c14 c15 c16 c17 c19 c21 c22 c23 c25 c26 c27 c28 c29 c30 c31 c32 c33 c34 c35 c36 c37 c38 c39 c40 c41 c42 c43 c44 c45 c46 c47 c48 c49 c50 c51 c52 c53 c54 c55 c56 c57 c58 c59 c60 c61 c62 c63 c64 c65 c66 c67 c68 c69 c70 c71 c72 c73 c74 c75 c76 c77 c78 c79 c80 c81 c82 c83 c84 c85 c86 c87 c88 c89 c90 c91 c92 c93 c94 c95 c96 c97 c98 c99 c100 c101 c102 c103 c104 c105 c106 c107 c108 c109 c110 c111 c112 c113 c114 c115 c116 c117 c118 c119 c120 c121 c122 c123 c124 c125 c126 c127 c128 c129 c130 c131 c132 c133 c134 c135 c136 c137 c138 c139 c140 c141 c142 c143 c144 c145 c146 c147 c148 c149 c150 c151 c152 c153 c154 c155 c156 c157 c158 c159 c160 c161 c162 c163 c164 c165 c166 c167 c168 c169 c170 c171 c172 c173 c174 c175 c176 c177 c178 c179 c180 c181 c182 c183 c184 c185 c186 c187 c188 c189 c190 c191 c192 c193 c194 c195 c196 c197 c198 c199 c200 c201 c202 c203 c204 c205 c206 c207 c208 c209 c210 c211 c212 c213 c214 c215 c216 c217 c218 c219 : Value}  (D : Array β) (hD : (if mid < e ∧ e < b then St.symM (ltOf cf) f mid e b ((if a < s ∧ s < mid then St.symM (ltOf cf) f a s mid (St.symR d s m e) else (St.symR d s m e))) else ((if a < s ∧ s < mid then St.symM (ltOf cf) f a s mid (St.symR d s m e) else (St.symR d s m e)))) = D) :
    Code.wp Try.prog (stRest 9) (bodyPost Try.prog Try.f40 fun e_ w' => e_ = .returned (.tuple #[]) ∧ SW enc w0 blk off D w') ⟨(List.toArray ((Value.slice (some ⟨blk, off, none⟩) sz cap) :: (Value.int .i64 a) :: (Value.int .i64 m) :: (Value.int .i64 b) :: (Value.func (.func g) #[] cb) :: c5 :: c6 :: c7 :: c8 :: c9 :: c10 :: c11 :: c12 :: c13 :: c14 :: c15 :: c16 :: c17 :: (Value.int .i64 mid) :: c19 :: (Value.int .i64 s) :: c21 :: c22 :: c23 :: (Value.int .i64 e) :: c25 :: c26 :: c27 :: c28 :: c29 :: c30 :: c31 :: c32 :: c33 :: c34 :: c35 :: c36 :: c37 :: c38 :: c39 :: c40 :: c41 :: c42 :: c43 :: c44 :: c45 :: c46 :: c47 :: c48 :: c49 :: c50 :: c51 :: c52 :: c53 :: c54 :: c55 :: c56 :: c57 :: c58 :: c59 :: c60 :: c61 :: c62 :: c63 :: c64 :: c65 :: c66 :: c67 :: c68 :: c69 :: c70 :: c71 :: c72 :: c73 :: c74 :: c75 :: c76 :: c77 :: c78 :: c79 :: c80 :: c81 :: c82 :: c83 :: c84 :: c85 :: c86 :: c87 :: c88 :: c89 :: c90 :: c91 :: c92 :: c93 :: c94 :: c95 :: c96 :: c97 :: c98 :: c99 :: c100 :: c101 :: c102 :: c103 :: c104 :: c105 :: c106 :: c107 :: c108 :: c109 :: c110 :: c111 :: c112 :: c113 :: c114 :: c115 :: c116 :: c117 :: c118 :: c119 :: c120 :: c121 :: c122 :: c123 :: c124 :: c125 :: c126 :: c127 :: c128 :: c129 :: c130 :: c131 :: c132 :: c133 :: c134 :: c135 :: c136 :: c137 :: c138 :: c139 :: c140 :: c141 :: c142 :: c143 :: c144 :: c145 :: c146 :: c147 :: c148 :: c149 :: c150 :: c151 :: c152 :: c153 :: c154 :: c155 :: c156 :: c157 :: c158 :: c159 :: c160 :: c161 :: c162 :: c163 :: c164 :: c165 :: c166 :: c167 :: c168 :: c169 :: c170 :: c171 :: c172 :: c173 :: c174 :: c175 :: c176 :: c177 :: c178 :: c179 :: c180 :: c181 :: c182 :: c183 :: c184 :: c185 :: c186 :: c187 :: c188 :: c189 :: c190 :: c191 :: c192 :: c193 :: c194 :: c195 :: c196 :: c197 :: c198 :: c199 :: c200 :: c201 :: c202 :: c203 :: c204 :: c205 :: c206 :: c207 :: c208 :: c209 :: c210 :: c211 :: c212 :: c213 :: c214 :: c215 :: c216 :: c217 :: c218 :: c219 :: [])), []⟩ w := by
  have S1 : Aside (SW enc w0 blk off d w) := S
  have HIH := Aside0.mk IH
  clear S IH
  have HB2 := Aside0.mk g2
  have HD := Aside0.mk hD
  clear hD
  conv => arg 2; whnf
  go_upto_region 39 with (fail)
  go_cut [185] (fun v_ wd => v_ = .bool (decide (s < m ∧ m < e)) ∧ wd = w)
  case first =>
    by_cases c1 : s < m
    · have c1z : decide ((s : Int) < (m : Int)) = true := decide_eq_true (by omega)
      have c1y : decide (s < m) = true := decide_eq_true c1
      by_cases c2 : m < e
      · have c2z : decide ((m : Int) < (e : Int)) = true := decide_eq_true (by omega)
        have c2y : decide (m < e) = true := decide_eq_true c2
        have D_ := Aside0.mk (decide_eq_true (show s < m ∧ m < e from ⟨c1, c2⟩))
        clear c1 c2
        go_wp2
        go_meet
        case rel => exact ⟨by rw [D_.out], rfl⟩
      · have c2z : decide ((m : Int) < (e : Int)) = false := decide_eq_false (by omega)
        have c2y : decide (m < e) = false := decide_eq_false c2
        have D_ := Aside0.mk (decide_eq_false (show ¬ (s < m ∧ m < e) by omega))
        clear c1 c2
        go_wp2
        go_meet
        case rel => exact ⟨by rw [D_.out], rfl⟩
    · have c1z : decide ((s : Int) < (m : Int)) = false := decide_eq_false (by omega)
      have c1y : decide (s < m) = false := decide_eq_false c1
      have D_ := Aside0.mk (decide_eq_false (show ¬ (s < m ∧ m < e) by omega))
      clear c1
      go_wp2
      go_meet
      case rel => exact ⟨by rw [D_.out], rfl⟩
  case rest =>
    obtain ⟨rfl, rfl⟩ := hcut
    go_upto_if 185 with (fail)
    go_cut [] (fun wd => Aside (SW enc w0 blk off (St.symR d s m e) wd))
    case first =>
      by_cases c : s < m ∧ m < e
      · have HR_ := Aside0.mk (show (St.symR d s m e) = St.rot d s m e by unfold St.symR; rw [if_pos c])
        rw [decide_eq_true c]
        have CC := Aside0.mk c
        clear c
        go_wp2_with (go_at_call 43; refine (st_rot g cb blk off cap sz s m e d0 d w0 _ R hd hs S1.out CC.out.1 CC.out.2 (by omega) (by omega)).mono ?_; rintro e_ w5 ⟨rfl, hS⟩; have S5 : Aside (SW enc w0 blk off (St.rot d s m e) w5) := hS; clear hS)
        go_meet
        case rel => rw [HR_.out]; exact S5
      · have HR_ := Aside0.mk (show (St.symR d s m e) = d by unfold St.symR; rw [if_neg c])
        rw [decide_eq_false c]
        clear c
        go_wp2
        go_meet
        case rel => rw [HR_.out]; exact S1
    case rest =>
      have S2 := hcut
      clear hcut S1
      apply_assumption
      exact st_tail2 g cb cf blk off cap sz f a m b mid s e d0 _ w0 _ R (by rw [St.symR_size]; exact hd) hs S2.out hb hsz HIH.out HB2.out g3 g4 g5 g6 g7 ham hmb hm1 hm2 D HD.out
set_option maxHeartbeats 16000000 in
set_option maxRecDepth 1000000 in
theorem st_symC (g : Nat) (cb : Array Value) (cf : β → β → Int) (blk off cap sz f a m b : Nat) (d0 d : Array β) (w0 w : World) (eg : ∀ args w, (callFunc g args).run Try.prog w = .ok (.enter g args) w) (hcmp : CmpLays1 Try.prog g cb enc cf blk off sz w0)
    (R : Row1 enc w0 blk off d0) (hd : d.size = sz) (hs : d0.size = sz) (S : SW enc w0 blk off d w) (hma : m - a ≠ 1) (ham : a < m) (hbm : b - m ≠ 1) (hmb : m < b) (hb : b ≤ sz) (hsz : sz < 1152921504606846976)
    (IH : ∀ (a' m' b' : Nat) (d' : Array β) (w' : World), SW enc w0 blk off d' w' → d'.size = sz → a' < m' → m' < b' → b' ≤ sz → b' - a' < b - a →
      Calls Try.prog 40 #[.slice (some ⟨blk, off, none⟩) sz cap, .int .i64 a', .int .i64 m', .int .i64 b', .func (.func g) #[] cb] w' fun e w'' => e = .returned (.tuple #[]) ∧ SW enc w0 blk off (St.symM (ltOf cf) f a' m' b' d') w'') :
    Calls Try.prog 40 #[.slice (some ⟨blk, off, none⟩) sz cap, .int .i64 a, .int .i64 m, .int .i64 b, .func (.func g) #[] cb] w fun e w' => e = .returned (.tuple #[]) ∧ SW enc w0 blk off (St.symM (ltOf cf) (f + 1) a m b d) w' := by
  have HG : Aside0 _ := Aside0.mk (St.symM.eq_2 (ltOf cf) a m b d f)
  have hcl0 := R.hO.cells
  simp only [Value.cells] at hcl0
  have hst := R.hO.store Try.prog
  have mixed : Try.prog.follows .mixedOrders = true := by kernel_rfl
  have S0 : Aside (SW enc w0 blk off d w) := S
  have HC : Aside _ := hcmp
  have HIH := Aside0.mk IH
  clear S hcmp IH
  obtain ⟨q1, hq1⟩ : ∃ q : Nat, (m : Int) - (a : Int) = (q : Int) := ⟨m - a, by omega⟩
  have hq2 : ((q1 : Int) == 1) = false := by simp; omega
  obtain ⟨q3, hq3⟩ : ∃ q : Nat, (b : Int) - (m : Int) = (q : Int) := ⟨b - m, by omega⟩
  have hq4 : ((q3 : Int) == 1) = false := by simp; omega
  obtain ⟨mid, hmid⟩ : ∃ q, q = (a + b) / 2 := ⟨_, rfl⟩
  obtain ⟨lo, hlo⟩ : ∃ q, q = St.symLo a m b := ⟨_, rfl⟩
  obtain ⟨hi, hhi⟩ : ∃ q, q = St.symHi a m b := ⟨_, rfl⟩
  have hlo2 : lo = if mid < m then mid + m - b else a := by rw [hlo, hmid]; rfl
  have hhi2 : hi = if mid < m then mid else m := by rw [hhi, hmid]; rfl
  have hmid1 : a < mid ∧ mid < b := by omega
  have hmid2 : 2 * mid ≤ a + b ∧ a + b ≤ 2 * mid + 1 := by omega
  obtain ⟨s, hsE⟩ : ∃ q, q = St.symS (ltOf cf) d a m b := ⟨_, rfl⟩
  have hsr : lo ≤ s ∧ s ≤ hi := by rw [hsE, hlo, hhi]; exact St.bs_range _ _ _ _ (by rw [← hlo, ← hhi, hlo2, hhi2]; split <;> omega)
  have hloR : (mid < m → lo = mid + m - b ∧ hi = mid) ∧ (¬ mid < m → lo = a ∧ hi = m) := by
    constructor
    · intro h; rw [hlo2, hhi2, if_pos h, if_pos h]; exact ⟨rfl, rfl⟩
    · intro h; rw [hlo2, hhi2, if_neg h, if_neg h]; exact ⟨rfl, rfl⟩
  have HS : Aside0 (St.bs (fun c => !ltOf cf d[mid + m - 1 - c]! d[c]!) (hi - lo) lo hi = s) := ⟨by rw [hsE, hlo, hhi, hmid]; rfl⟩
  have HG2 : Aside0 (St.symM (ltOf cf) (f + 1) a m b d = if mid < mid + m - s ∧ mid + m - s < b then St.symM (ltOf cf) f mid (mid + m - s) b (if a < s ∧ s < mid then St.symM (ltOf cf) f a s mid (St.symR d s m (mid + m - s)) else St.symR d s m (mid + m - s)) else (if a < s ∧ s < mid then St.symM (ltOf cf) f a s mid (St.symR d s m (mid + m - s)) else St.symR d s m (mid + m - s))) := ⟨by rw [St.symM, if_neg hma, if_neg hbm, hsE, hmid]⟩
  have HLO := Aside0.mk hloR
  have HMID := Aside0.mk hmid
  have HSR := Aside0.mk hsr
  clear HG hmid hlo hhi hlo2 hhi2 hsE hloR hsr
  go_enter Try.func40, Try.ntmps40
  go_upto_region 24 with (fail)
  go_cut [18] (fun v18 wd => v18 = .int .i64 mid ∧ wd = w)
  case first =>
    go_wp2
    go_meet
    case rel => exact ⟨by congr 1; have := HMID.out; omega, rfl⟩
  case rest =>
    obtain ⟨rfl, rfl⟩ := hcut
    go_upto_if 140 with (fail)
    go_cut [20, 21] (fun v20 v21 wd => v20 = .int .i64 lo ∧ v21 = .int .i64 hi ∧ wd = wc)
    case first =>
      by_cases c : mid < m
      · obtain ⟨e1, e2⟩ := HLO.out.1 c
        have c1 : (mid : Int) < (m : Int) := by omega
        have E1 := Aside0.mk (show (mid : Int) + (m : Int) - (b : Int) = (lo : Int) by omega)
        subst e2
        go_wp2
        go_meet
        case rel => exact ⟨by rw [E1.out], rfl, rfl⟩
      · obtain ⟨e1, e2⟩ := HLO.out.2 c
        have c1 : ¬ (mid : Int) < (m : Int) := by omega
        subst e1
        subst e2
        go_wp2
        go_meet
        case rel => exact ⟨rfl, rfl, rfl⟩
    case rest =>
      obtain ⟨rfl, rfl, rfl⟩ := hcut
      obtain ⟨p, hp⟩ : ∃ p, p = mid + m - 1 := ⟨_, rfl⟩
      have hp1 : (mid : Int) + (m : Int) - 1 = (p : Int) := by omega
      have HP1 := Aside0.mk hp1
      have HP := Aside0.mk hp
      clear hp1 hp
      go_upto_region 32 with (fail)
      go_cut [22] (fun v22 wd => v22 = .int .i64 p ∧ wd = wc)
      case first =>
        go_wp2
        go_meet
        case rel => exact ⟨by rw [HP1.out], rfl⟩
      case rest =>
        obtain ⟨rfl, rfl⟩ := hcut
        go_wp2
        go_loopg [20, 21] (hi - lo) (fun kx s10 s11 wr => ∃ (i j : Nat), s10 = .int .i64 i ∧ s11 = .int .i64 j ∧ Aside0 (lo ≤ i ∧ i ≤ j ∧ j ≤ hi) ∧ Aside0 (j - i ≤ kx) ∧ Aside (SW enc w0 blk off d wr) ∧ Aside0 (St.bs (fun c => !ltOf cf d[mid + m - 1 - c]! d[c]!) kx i j = s))
        case atStart => exact ⟨lo, hi, rfl, rfl, ⟨by have := HSR.out; omega⟩, ⟨Nat.le_refl _⟩, S0, HS⟩
        case round =>
          clear S0
          obtain ⟨i, j, rfl, rfl, HI, HK, S1, HE⟩ := hrel
          obtain ⟨h1, h2, h3⟩ := HI.out
          have hk := HK.out
          by_cases hlt : i < j
          · have hltz : (i : Int) < (j : Int) := by omega
            obtain ⟨kx, rfl⟩ : ∃ q, gk = q + 1 := ⟨gk - 1, by omega⟩
            have hE := HE.out
            rw [St.bs, if_pos hlt] at hE
            obtain ⟨h, hh⟩ : ∃ h, h = (i + j) / 2 := ⟨_, rfl⟩
            rw [← hh] at hE
            have hhi : i ≤ h ∧ h < j := by omega
            have hjs : j ≤ sz := by
              by_cases c : mid < m
              · have := HLO.out.1 c; omega
              · have := HLO.out.2 c; omega
            have hpr : mid + m - 1 - h < sz ∧ h + 1 ≤ mid + m := by
              by_cases c : mid < m
              · have := HLO.out.1 c; omega
              · have := HLO.out.2 c; omega
            have HH := Aside0.mk hh
            have HE' := Aside0.mk hE
            clear hh hE HE
            go_upto_region 34 with (fail)
            go_cut [23] (fun v23 wd => v23 = .int .i64 h ∧ wd = wr)
            case first =>
              go_wp2
              go_meet
              case rel => exact ⟨by congr 1; have := HH.out; omega, rfl⟩
            case rest =>
              obtain ⟨rfl, rfl⟩ := hcut
              obtain ⟨pc, hpc⟩ : ∃ q, q = mid + m - 1 - h := ⟨_, rfl⟩
              rw [← hpc] at HE'
              have ph : (h : Int) < (sz : Int) := by omega
              have hpv := HP.out
              have ra : IntKind.i64.wrap ((p : Int) - (h : Int)) = (p : Int) - (h : Int) := by rw [IntKind.wrap_i64]; omega
              have ea : ((p : Int) - (h : Int)).toNat = pc := by omega
              have eb : p - h = pc := by omega
              have pa : (0 : Int) ≤ (p : Int) - (h : Int) := by omega
              have pa2 : (h : Int) ≤ (p : Int) := by omega
              have pa3 : h ≤ p := by omega
              have ba : (p : Int) - (h : Int) < (sz : Int) := by omega
              have hpc2 : pc < sz := by omega
              clear hpc hpv
              obtain ⟨x, hx⟩ : ∃ x, x = d[pc]! := ⟨_, rfl⟩
              obtain ⟨y, hy⟩ : ∃ y, y = d[h]! := ⟨_, rfl⟩
              have l1 := S1.out.cl R (by omega) pc (by omega)
              have l2 := S1.out.cl R (by omega) h (by omega)
              rw [← hx] at l1
              rw [← hy] at l2
              have hc := S1.out.cmp HC.out (by omega) x y
              have hlt2 : ltOf cf d[pc]! d[h]! = decide (cf x y < 0) := by rw [hx, hy]; rfl
              rw [hlt2] at HE'
              clear hx hy hlt2
              cases hv : decide (cf x y < 0) with
              | true =>
                rw [hv, if_neg (by decide)] at HE'
                have hv2 : cf x y < 0 := of_decide_eq_true hv
                go_upto_region 35 with (fail)
                go_quiet_grown (first | (go_at_fn g; refine Calls.grown_of (hc _ _)))
                have S2 : Aside (SW enc w0 blk off d (grow (wc.drewN nq) osq)) := S1.out.grown nq osq
                clear l1 l2 hc S1
                generalize grow (wc.drewN nq) osq = w2 at S2 ⊢
                clear nq osq
                go_wp2
                go_roundg kx
                case measure => omega
                case rel => exact ⟨i, h, rfl, rfl, ⟨by omega⟩, ⟨by omega⟩, S2, HE'⟩
              | false =>
                rw [hv, if_pos (by decide)] at HE'
                have hv2 : ¬ cf x y < 0 := of_decide_eq_false hv
                go_upto_region 35 with (fail)
                go_quiet_grown (first | (go_at_fn g; refine Calls.grown_of (hc _ _)))
                have S2 : Aside (SW enc w0 blk off d (grow (wc.drewN nq) osq)) := S1.out.grown nq osq
                clear l1 l2 hc S1
                generalize grow (wc.drewN nq) osq = w2 at S2 ⊢
                clear nq osq
                go_wp2
                go_roundg kx
                case measure => omega
                case rel => exact ⟨h + 1, j, by go_num, rfl, ⟨by omega⟩, ⟨by omega⟩, S2, HE'⟩
          · have hltz : ¬ (i : Int) < (j : Int) := by omega
            have hiI : i = s := by
              have hE := HE.out
              cases gk with
              | zero => rw [St.bs] at hE; exact hE
              | succ q => rw [St.bs, if_neg hlt] at hE; exact hE
            obtain rfl := hiI
            clear HE
            obtain ⟨e, he⟩ : ∃ e, e = mid + m - i := ⟨_, rfl⟩
            have hie : i ≤ mid + m ∧ a ≤ i ∧ e ≤ b ∧ mid ≤ e ∧ i ≤ m ∧ i ≤ mid ∧ m ≤ e := by
              have := HSR.out
              by_cases c : mid < m
              · have := HLO.out.1 c; omega
              · have := HLO.out.2 c; omega
            have hez : (mid : Int) + (m : Int) - (i : Int) = (e : Int) := by omega
            rw [← he] at HG2
            have HEZ := Aside0.mk hez
            have HIE := Aside0.mk hie
            clear he hez hie
            go_upto_region 38 with (fail)
            go_cut [24] (fun v24 wd => v24 = .int .i64 e ∧ wd = wr)
            case first =>
              go_wp2
              go_meet
              case rel => exact ⟨by rw [HEZ.out, show wrap64 (e : Int) = (e : Int) from by have := HIE.out; unfold wrap64; omega], rfl⟩
            case rest =>
              obtain ⟨rfl, rfl⟩ := hcut
              apply_assumption
              obtain ⟨g1, g2, g3, g4, g5, g6, g7⟩ := HIE.out
              exact st_tail1 g cb cf blk off cap sz f a m b mid i e d0 d w0 wc R hd hs S1.out hb hsz HIH.out g2 g3 g4 g5 g6 g7 ham hmb hmid1.1 hmid1.2 _ HG2.out.symm
theorem st_ins_lay : SlLaysF.n20 Try.prog ⟨fun | 20 => 39 | n => n, fun | 0 => 0 | 3 => 3 | 4 => 4 | 22 => 23 | 24 => 3 | 25 => 42 | n => n, fun | n => n⟩ := {
  mixed := by kernel_rfl
  f20 := ⟨ "slices.insertionSortCmpFunc[int]", by kernel_rfl, Try.func39.trans (congrArg some (by kernel_rfl))⟩
  t0 := Try.underlying0
  a0 := Try.isAgg0
  z0 := Try.sizeOf0
  v0 := Try.zeroValue0
  t3 := Try.underlying3
  a3 := Try.isAgg3
  z3 := Try.sizeOf3
  v3 := Try.zeroValue3
  t4 := Try.underlying4
  a4 := Try.isAgg4
  z4 := Try.sizeOf4
  v4 := Try.zeroValue4
  t22 := Try.underlying23
  a22 := Try.isAgg23
  z22 := Try.sizeOf23
  v22 := Try.zeroValue23
  a24 := Try.isAgg3
  z24 := Try.sizeOf3
  t25 := Try.underlying42
  a25 := Try.isAgg42
  z25 := Try.sizeOf42
  v25 := Try.zeroValue42 }
/-- insertionSort of a part of the row -/
theorem st_ins (g : Nat) (cb : Array Value) (cf : β → β → Int) (blk off cap sz a b : Nat) (d0 d : Array β) (w0 w : World) (eg : ∀ args w, (callFunc g args).run Try.prog w = .ok (.enter g args) w) (hcmp : CmpLays1 Try.prog g cb enc cf blk off sz w0)
    (R : Row1 enc w0 blk off d0) (hd : d.size = sz) (hs : d0.size = sz) (S : SW enc w0 blk off d w) (hab : a ≤ b) (hb : b ≤ sz) (hsz : sz < 1152921504606846976) :
    Calls Try.prog 39 #[.slice (some ⟨blk, off, none⟩) sz cap, .int .i64 a, .int .i64 b, .func (.func g) #[] cb] w fun e w' => e = .returned (.tuple #[]) ∧ SW enc w0 blk off (Go.Sort.insertionSort (ltOf cf) d a b) w' := by
  subst hd
  exact Any.insertionSortCmpFunc_s st_ins_lay enc cf g cb blk off cap a b d0 d w0 w eg (by rw [hs]; exact hcmp) R hs S hab hb (by omega)
/-- symMerge, whole -/
theorem st_sym (g : Nat) (cb : Array Value) (cf : β → β → Int) (blk off cap sz : Nat) (d0 : Array β) (w0 : World) (eg : ∀ args w, (callFunc g args).run Try.prog w = .ok (.enter g args) w) (hcmp : CmpLays1 Try.prog g cb enc cf blk off sz w0)
    (R : Row1 enc w0 blk off d0) (hs : d0.size = sz) (hsz : sz < 1152921504606846976) :
    ∀ (f a m b : Nat) (d : Array β) (w : World), b - a ≤ f → SW enc w0 blk off d w → d.size = sz → a < m → m < b → b ≤ sz →
    Calls Try.prog 40 #[.slice (some ⟨blk, off, none⟩) sz cap, .int .i64 a, .int .i64 m, .int .i64 b, .func (.func g) #[] cb] w fun e w' => e = .returned (.tuple #[]) ∧ SW enc w0 blk off (St.symM (ltOf cf) f a m b d) w'
  | 0, a, m, b, d, w, hf, S, hd, ham, hmb, hb => absurd hf (by omega)
  | f + 1, a, m, b, d, w, hf, S, hd, ham, hmb, hb => by
    by_cases h1 : m - a = 1
    · exact st_symA g cb cf blk off cap sz f a m b d0 d w0 w eg hcmp R hd hs S h1 hmb hb hsz
    · by_cases h2 : b - m = 1
      · exact st_symB g cb cf blk off cap sz f a m b d0 d w0 w eg hcmp R hd hs S h1 ham h2 hb hsz
      · exact st_symC g cb cf blk off cap sz f a m b d0 d w0 w eg hcmp R hd hs S h1 ham h2 hmb hb hsz (fun a' m' b' d' w' S' hd' h1' h2' h3' h4' => st_sym g cb cf blk off cap sz d0 w0 eg hcmp R hs hsz f a' m' b' d' w' (by omega) S' hd' h1' h2' h3')
/-! #### the stable sort, whole: plain -/
namespace St
variable {α : Type} [Inhabited α]
theorem insInner_size (lt : α → α → Bool) (a : Nat) : ∀ j (d : Array α), (Go.Sort.insInner lt a j d).size = d.size
  | 0, d => by rw [Go.Sort.insInner]
  | j + 1, d => by
    rw [Go.Sort.insInner]
    split
    · rw [insInner_size lt a j, Go.Sort.size_swp]
    · rfl
theorem insOuter_size (lt : α → α → Bool) (a b : Nat) : ∀ n i (d : Array α), b - i ≤ n → (Go.Sort.insOuter lt a b i d).size = d.size
  | 0, i, d, h => by rw [Go.Sort.insOuter, if_neg (by omega)]
  | n + 1, i, d, h => by
    rw [Go.Sort.insOuter]
    split
    · rw [insOuter_size lt a b n _ _ (by omega), insInner_size]
    · rfl
theorem ins_size (lt : α → α → Bool) (d : Array α) (a b : Nat) : (Go.Sort.insertionSort lt d a b).size = d.size := insOuter_size lt a b _ _ d (Nat.le_refl _)
/-- blocks of k, each sorted by insertion -/
def blkFrom (lt : α → α → Bool) (k n : Nat) : Nat → Nat → Array α → Array α
  | 0, a, d => Go.Sort.insertionSort lt d a n
  | f + 1, a, d => if a + k ≤ n then blkFrom lt k n f (a + k) (Go.Sort.insertionSort lt d a (a + k)) else Go.Sort.insertionSort lt d a n
/-- the last pair of blocks of k -/
def mrgEnd (lt : α → α → Bool) (k n a : Nat) (d : Array α) : Array α := if a + k < n then symM lt n a (a + k) n d else d
/-- pairs of blocks of k merged -/
def mrgFrom (lt : α → α → Bool) (k n : Nat) : Nat → Nat → Array α → Array α
  | 0, a, d => mrgEnd lt k n a d
  | f + 1, a, d => if a + 2 * k ≤ n then mrgFrom lt k n f (a + 2 * k) (symM lt n a (a + k) (a + 2 * k) d) else mrgEnd lt k n a d
def stbFrom (lt : α → α → Bool) (n : Nat) : Nat → Nat → Array α → Array α
  | 0, _, d => d
  | f + 1, k, d => if k < n then stbFrom lt n f (2 * k) (mrgFrom lt k n n 0 d) else d
def stab (lt : α → α → Bool) (n : Nat) (d : Array α) : Array α := stbFrom lt n n 20 (blkFrom lt 20 n n 0 d)
end St
set_option maxHeartbeats 8000000 in
set_option maxRecDepth 1000000 in
theorem st_stable (g : Nat) (cb : Array Value) (cf : β → β → Int) (blk off cap sz : Nat) (d0 d : Array β) (w0 w : World) (eg : ∀ args w, (callFunc g args).run Try.prog w = .ok (.enter g args) w) (hcmp : CmpLays1 Try.prog g cb enc cf blk off sz w0)
    (R : Row1 enc w0 blk off d0) (hd : d.size = sz) (hs : d0.size = sz) (S : SW enc w0 blk off d w) (hsz : sz < 1152921504606846976) :
    Calls Try.prog 31 #[.slice (some ⟨blk, off, none⟩) sz cap, .int .i64 sz, .func (.func g) #[] cb] w fun e w' => e = .returned (.tuple #[]) ∧ SW enc w0 blk off (St.stab (ltOf cf) sz d) w' := by
  have INS := Aside0.mk (fun (a b : Nat) (d : Array β) (w : World) (S : SW enc w0 blk off d w) (hd : d.size = sz) (hab : a ≤ b) (hb : b ≤ sz) => st_ins g cb cf blk off cap sz a b d0 d w0 w eg hcmp R hd hs S hab hb hsz)
  have SYM := Aside0.mk (fun (a m b : Nat) (d : Array β) (w : World) (S : SW enc w0 blk off d w) (hd : d.size = sz) (ham : a < m) (hmb : m < b) (hb : b ≤ sz) => st_sym g cb cf blk off cap sz d0 w0 eg hcmp R hs hsz sz a m b d w (by omega) S hd ham hmb hb)
  have S0 : Aside (SW enc w0 blk off d w) := S
  clear S hcmp eg R
  obtain ⟨T, hT⟩ : ∃ T, T = St.stab (ltOf cf) sz d := ⟨_, rfl⟩
  rw [← hT]
  have HT := Aside0.mk hT
  clear hT
  go_enter Try.func31, Try.ntmps31
  go_wp2
  go_loopg [7, 8] sz (fun kx s7 s8 wr => ∃ (a b : Nat) (dk : Array β), s7 = .int .i64 a ∧ s8 = .int .i64 b ∧ Aside0 (b = a + 20 ∧ a ≤ sz) ∧ Aside0 (sz - a ≤ kx) ∧ dk.size = sz ∧ Aside (SW enc w0 blk off dk wr) ∧ Aside0 (St.blkFrom (ltOf cf) 20 sz kx a dk = St.blkFrom (ltOf cf) 20 sz sz 0 d))
  case atStart => exact ⟨0, 20, d, rfl, rfl, ⟨by omega⟩, ⟨by omega⟩, hd, S0, ⟨rfl⟩⟩
  case round =>
    clear S0
    obtain ⟨a, b, dk, rfl, rfl, HI, HK, hds, S1, HE⟩ := hrel
    obtain ⟨h1, h2⟩ := HI.out
    have hk := HK.out
    have H1 := Aside0.mk h1
    by_cases c : b ≤ sz
    · have cz : (b : Int) ≤ (sz : Int) := by omega
      obtain ⟨kx, rfl⟩ : ∃ q, gk = q + 1 := ⟨gk - 1, by omega⟩
      have hE := HE.out
      rw [St.blkFrom, ← h1, if_pos c] at hE
      have HE' := Aside0.mk hE
      clear hE HE h1
      go_wp2_with (go_at_call 39; refine (INS.out a b dk _ S1.out hds (by have := H1.out; omega) c).mono ?_; rintro e_ w2 ⟨rfl, hS⟩; have S2 : Aside (SW enc w0 blk off (Go.Sort.insertionSort (ltOf cf) dk a b) w2) := hS; clear hS)
      go_roundg kx
      case measure => omega
      case rel => exact ⟨b, b + 20, Go.Sort.insertionSort (ltOf cf) dk a b, by first | rfl | go_num, by go_num, ⟨by omega⟩, ⟨by have := H1.out; omega⟩, by rw [St.ins_size]; exact hds, S2, HE'⟩
    · have cz : ¬ (b : Int) ≤ (sz : Int) := by omega
      have hE : Go.Sort.insertionSort (ltOf cf) dk a sz = St.blkFrom (ltOf cf) 20 sz sz 0 d := by
        rw [← HE.out]
        cases gk with
        | zero => rw [St.blkFrom]
        | succ q => rw [St.blkFrom, if_neg (by omega)]
      have HE' := Aside0.mk hE
      clear hE HE h1
      go_wp2_with (go_at_call 39; refine (INS.out a sz dk _ S1.out hds h2 (Nat.le_refl _)).mono ?_; rintro e_ w2 ⟨rfl, hS⟩; have S2 : Aside (SW enc w0 blk off (Go.Sort.insertionSort (ltOf cf) dk a sz) w2) := hS; clear hS)
      have hd1 : (Go.Sort.insertionSort (ltOf cf) dk a sz).size = sz := by rw [St.ins_size]; exact hds
      generalize Go.Sort.insertionSort (ltOf cf) dk a sz = d1 at S2 HE' hd1
      clear hds S1 HI HK hk cz c h2 H1
      go_loopg [6, 7, 8, 9] sz (fun kx s6 s7 s8 s9 wr => ∃ (k : Nat) (dk : Array β), s6 = .int .i64 k ∧ Aside0 (20 ≤ k ∧ k ≤ 2 * sz + 20) ∧ Aside0 (sz - k ≤ kx) ∧ dk.size = sz ∧ Aside (SW enc w0 blk off dk wr) ∧ Aside0 (St.stbFrom (ltOf cf) sz kx k dk = T))
      case atStart => exact ⟨20, d1, rfl, ⟨by omega⟩, ⟨by omega⟩, hd1, S2, ⟨by rw [HE'.out, HT.out]; rfl⟩⟩
      case round =>
        clear S2 HE' hd1
        obtain ⟨k, dk, rfl, HI, HK, hds, S1, HE⟩ := hrel
        obtain ⟨h1, h2⟩ := HI.out
        have hk := HK.out
        by_cases c : k < sz
        · have cz : (k : Int) < (sz : Int) := by omega
          obtain ⟨kx, rfl⟩ : ∃ q, gk = q + 1 := ⟨gk - 1, by omega⟩
          obtain ⟨k2, hk2⟩ : ∃ q, q = 2 * k := ⟨_, rfl⟩
          have z1 : (2 : Int) * (k : Int) = (k2 : Int) := by omega
          have z2 : (k : Int) * (2 : Int) = (k2 : Int) := by omega
          have hE := HE.out
          rw [St.stbFrom, if_pos c, ← hk2] at hE
          have HE' := Aside0.mk hE
          have HK2 := Aside0.mk hk2
          clear hE HE hk2
          go_wp2
          go_loopg [7, 8] sz (fun ky s7 s8 wr2 => ∃ (a b : Nat) (dj : Array β), s7 = .int .i64 a ∧ s8 = .int .i64 b ∧ Aside0 (b = a + k2 ∧ a ≤ sz) ∧ Aside0 (sz - a ≤ ky) ∧ dj.size = sz ∧ Aside (SW enc w0 blk off dj wr2) ∧ Aside0 (St.mrgFrom (ltOf cf) k sz ky a dj = St.mrgFrom (ltOf cf) k sz sz 0 dk))
          case atStart => exact ⟨0, k2, dk, rfl, by first | rfl | go_num, ⟨by omega⟩, ⟨by omega⟩, hds, S1, ⟨rfl⟩⟩
          case round =>
            clear S1
            obtain ⟨a, b, dj, rfl, rfl, HJ, HL, hdj, SJ, HM⟩ := hrel
            obtain ⟨j1, j2⟩ := HJ.out
            have hl := HL.out
            obtain ⟨m, hm⟩ : ∃ q, q = a + k := ⟨_, rfl⟩
            have z3 : (a : Int) + (k : Int) = (m : Int) := by omega
            have HMM := Aside0.mk hm
            by_cases c2 : b ≤ sz
            · have c2z : (b : Int) ≤ (sz : Int) := by omega
              obtain ⟨ky, rfl⟩ : ∃ q, gk = q + 1 := ⟨gk - 1, by have := HK2.out; omega⟩
              have hM := HM.out
              rw [St.mrgFrom, ← HK2.out, ← j1, if_pos c2, ← hm] at hM
              have HM' := Aside0.mk hM
              have J1 := Aside0.mk j1
              obtain ⟨b2, hb2⟩ : ∃ q, q = b + k2 := ⟨_, rfl⟩
              have z4 : (b : Int) + (k2 : Int) = (b2 : Int) := by omega
              have HB2 := Aside0.mk hb2
              clear hM HM j1 hm hb2
              go_wp2_with (go_at_call 40; refine (SYM.out a m b dj _ SJ.out hdj (by have := HMM.out; omega) (by have := HMM.out; have := J1.out; have := HK2.out; omega) c2).mono ?_; rintro e_ w2 ⟨rfl, hS⟩; have S2 : Aside (SW enc w0 blk off (St.symM (ltOf cf) sz a m b dj) w2) := hS; clear hS)
              go_roundg ky
              case measure => omega
              case rel => exact ⟨b, b2, St.symM (ltOf cf) sz a m b dj, by first | rfl | go_num, by first | rfl | go_num, ⟨⟨HB2.out, c2⟩⟩, ⟨by have := J1.out; have := HK2.out; omega⟩, by rw [St.symM_size]; exact hdj, S2, HM'⟩
            · have c2z : ¬ (b : Int) ≤ (sz : Int) := by omega
              have hM : St.mrgEnd (ltOf cf) k sz a dj = St.mrgFrom (ltOf cf) k sz sz 0 dk := by
                rw [← HM.out]
                cases gk with
                | zero => rw [St.mrgFrom]
                | succ q => rw [St.mrgFrom, if_neg (by have := HK2.out; omega)]
              rw [← hM, St.mrgEnd, ← hm] at HE'
              have J1 := Aside0.mk j1
              clear hM HM j1 hm
              by_cases c3 : m < sz
              · have c3z : (m : Int) < (sz : Int) := by omega
                have hF := HE'.out
                rw [if_pos c3] at hF
                have HF := Aside0.mk hF
                clear hF HE'
                go_wp2_with (go_at_call 40; refine (SYM.out a m sz dj _ SJ.out hdj (by have := HMM.out; omega) c3 (Nat.le_refl _)).mono ?_; rintro e_ w2 ⟨rfl, hS⟩; have S2 : Aside (SW enc w0 blk off (St.symM (ltOf cf) sz a m sz dj) w2) := hS; clear hS)
                go_roundg kx
                case measure => omega
                case rel => exact ⟨k2, St.symM (ltOf cf) sz a m sz dj, by first | rfl | go_num, ⟨by have := HK2.out; omega⟩, ⟨by have := HK2.out; omega⟩, by rw [St.symM_size]; exact hdj, S2, HF⟩
              · have c3z : ¬ (m : Int) < (sz : Int) := by omega
                have hF := HE'.out
                rw [if_neg c3] at hF
                have HF := Aside0.mk hF
                clear hF HE'
                go_wp2
                go_roundg kx
                case measure => omega
                case rel => exact ⟨k2, dj, by first | rfl | go_num, ⟨by have := HK2.out; omega⟩, ⟨by have := HK2.out; omega⟩, hdj, SJ, HF⟩
        · have cz : ¬ (k : Int) < (sz : Int) := by omega
          have hE : dk = T := by
            rw [← HE.out]
            cases gk with
            | zero => rw [St.stbFrom]
            | succ q => rw [St.stbFrom, if_neg c]
          have HE' := Aside0.mk hE
          clear hE HE
          go_wp2
          go_end0
          exact ⟨rfl, by rw [← HE'.out]; exact S1.out⟩
/-! #### real.Sort -/
/-- an empty row: nothing is done -/
theorem st_stable0 (A : Option Addr) (c g : Nat) (cb : Array Value) (w : World) :
    Calls Try.prog 31 #[.slice A 0 c, .int .i64 0, .func (.func g) #[] cb] w fun e w' => e = .returned (.tuple #[]) ∧ w' = w := by
  go_enter Try.func31, Try.ntmps31
  go_wp2
  go_rounds 1
  go_rounds 1
  go_rounds 1
  go_end0
  exact ⟨rfl, rfl⟩
theorem st_sort0 (A : Option Addr) (c g : Nat) (cb : Array Value) (w : World) :
    Calls Try.prog 20 #[.slice A 0 c, .func (.func g) #[] cb] w fun e w' => e = .returned (.tuple #[]) ∧ w' = w := by
  go_enter Try.func20, Try.ntmps20
  go_wp2_with (go_at_call 31; refine (st_stable0 A c g cb _).mono ?_; rintro e_ w2 ⟨rfl, rfl⟩)
  go_end0
  exact ⟨rfl, rfl⟩
theorem st_sort (g : Nat) (cb : Array Value) (cf : β → β → Int) (blk off cap sz : Nat) (d0 : Array β) (w0 : World) (eg : ∀ args w, (callFunc g args).run Try.prog w = .ok (.enter g args) w) (hcmp : CmpLays1 Try.prog g cb enc cf blk off sz w0)
    (R : Row1 enc w0 blk off d0) (hs : d0.size = sz) (hsz : sz < 1152921504606846976) :
    Calls Try.prog 20 #[.slice (some ⟨blk, off, none⟩) sz cap, .func (.func g) #[] cb] w0 fun e w' => e = .returned (.tuple #[]) ∧ SW enc w0 blk off (St.stab (ltOf cf) sz d0) w' := by
  have hcon := st_stable g cb cf blk off cap sz d0 d0 w0 w0 eg hcmp R hs hs (SW.start R.hH) hsz
  generalize St.stab (ltOf cf) sz d0 = T at hcon ⊢
  clear hcmp eg R
  go_enter Try.func20, Try.ntmps20
  go_wp2_with (go_at_call 31; refine hcon.mono ?_; rintro e_ w2 ⟨rfl, hS⟩)
  go_end0
  exact ⟨rfl, hS⟩
end
section
open Go.Shelf Go.Lib Go.Sort
/-- a call that draws and makes, and no more -/
def Gro (w w' : World) : Prop := ∃ n os, w' = grow (w.drewN n) os
theorem Gro.refl (w : World) : Gro w w := ⟨0, #[], by rw [grow_empty]; rfl⟩
theorem Gro.trans {a b c : World} (h1 : Gro a b) (h2 : Gro b c) : Gro a c := by
  obtain ⟨n, os, rfl⟩ := h1
  obtain ⟨m, os', rfl⟩ := h2
  exact ⟨n + m, os ++ os', by rw [show (grow (a.drewN n) os).drewN m = grow ((a.drewN n).drewN m) os from rfl, grow_grow, World.drewN_drewN]⟩
theorem Gro.drewN (w : World) (n : Nat) : Gro w (w.drewN n) := ⟨n, #[], by rw [grow_empty]⟩
theorem Gro.drew (w : World) : Gro w w.drew := ⟨1, #[], by rw [grow_empty]; rfl⟩
theorem Gro.alloc (w : World) (o : Obj) : Gro w (w.alloc o) := ⟨0, #[o], by rw [← alloc_eq_grow]; rfl⟩
theorem Gro.of0 {w w' : World} (h : Drawn0 w w') : Gro w w' := by
  obtain ⟨n, rfl⟩ := h
  exact Gro.drewN w n
set_option maxHeartbeats 4000000 in
theorem share_gro (k : Nat) (a0_0 : Nat) (a0_1 : Nat) (a0_2 : Nat) (r : Nat) (w : World) (h : place_share.f k a0_0 a0_1 a0_2 = some r) :
    Calls Try.prog 23 #[.agg #[.float .f64 a0_0, .float .f64 a0_1, .float .f64 a0_2]] w fun e w' => e = .returned (.float .f64 r) ∧ Gro w w' := by
  have hu26 := Try.underlying26
  have H : ((real_Share.f k a0_1 a0_0).bind fun t104 => (some t104)) = some r := h
  clear h
  obtain ⟨t, A, H⟩ := Option.bind_eq_some_iff.mp H
  obtain rfl := Option.some.inj H
  have HA := Aside0.mk A
  clear A H
  go_enter Try.func23, Try.ntmps23
  go_wp2_with (go_at_call 32; refine (real_Share.calls k a0_1 a0_0 t _ HA.out).mono ?_; rintro e w' ⟨rfl, nd, rfl⟩)
  go_ret
  exact ⟨rfl, (Gro.alloc _ _).trans (Gro.drewN _ _)⟩
set_option maxHeartbeats 4000000 in
theorem busy_gro (k : Nat) (a0_0 : Nat) (a0_1 : Nat) (a0_2 : Nat) (r : Nat) (w : World) (h : place_busy.f k a0_0 a0_1 a0_2 = some r) :
    Calls Try.prog 27 #[.agg #[.float .f64 a0_0, .float .f64 a0_1, .float .f64 a0_2]] w fun e w' => e = .returned (.float .f64 r) ∧ Gro w w' := by
  have hu26 := Try.underlying26
  by_cases c : (FloatKind.f64.format.order a0_2 a0_2 != some .eq) = true
  · have hr : r = 4607182418800017408 := by
      unfold place_busy.f at h
      rw [if_pos c] at h
      exact (Option.some.inj h).symm
    subst hr
    clear h
    go_enter Try.func27, Try.ntmps27
    go_wp2
    go_ret
    exact ⟨rfl, Gro.alloc _ _⟩
  · have hA : real_Clamp.f k a0_2 0 4607182418800017408 = some r := by
      unfold place_busy.f at h
      rw [if_neg c] at h
      obtain ⟨t, A, H⟩ := Option.bind_eq_some_iff.mp h
      obtain rfl := Option.some.inj H
      exact A
    replace c := Bool.eq_false_iff.mpr c
    have HA := Aside0.mk hA
    clear h hA
    go_enter Try.func27, Try.ntmps27
    go_wp2_with (go_at_call 35; refine (real_Clamp.calls k a0_2 0 4607182418800017408 r _ HA.out).mono ?_; rintro e w' ⟨rfl, nd, rfl⟩)
    go_ret
    exact ⟨rfl, (Gro.alloc _ _).trans (Gro.drewN _ _)⟩
theorem Gro.of_below {w w' : World} (h : RowKit.Below w.heap.size w w') (hd : w.drawn ≤ w'.drawn) : Gro w w' := by
  refine ⟨w'.drawn - w.drawn, w'.heap.extract w.heap.size w'.heap.size, ?_⟩
  have hh : w'.heap = w.heap ++ w'.heap.extract w.heap.size w'.heap.size := by
    apply Array.ext_getElem?
    intro i
    have hz := h.size
    by_cases c : i < w.heap.size
    · rw [h.block i c, Array.getElem?_append_left c]
    · rw [Array.getElem?_append_right (by omega), Array.getElem?_extract]
      by_cases c2 : i < w'.heap.size
      · rw [if_pos (by omega), show w.heap.size + (i - w.heap.size) = i by omega]
      · rw [if_neg (by omega)]
        exact Array.getElem?_eq_none (by omega)
  have ht := h.tape
  have ho := h.os
  have hq := h.output
  have e : w.drawn + (w'.drawn - w.drawn) = w'.drawn := by omega
  cases w
  cases w'
  simp only at hh ht ho hq e
  subst ht ho hq
  simp only [grow, World.drewN, World.mk.injEq]
  exact ⟨hh, trivial, e.symm, trivial, trivial⟩
structure Gr.Below (B : Nat) (w w' : World) : Prop where
  b : RowKit.Below B w w'
  d : w.drawn ≤ w'.drawn
theorem Gr.Below.refl (B : Nat) (w : World) : Below B w w := ⟨RowKit.Below.refl B w, Nat.le_refl _⟩
theorem Gr.below_alloc {w W : World} (h : Below w.heap.size w W) (o : Obj) : Below w.heap.size w (W.alloc o) := ⟨Go.Proofs.YtnkihggdohigiaaW.PrintWords.below_alloc h.b o, h.d⟩
theorem Gr.pw_below_drewN {B : Nat} {w W : World} (h : Below B w W) (n : Nat) : Below B w (W.drewN n) := ⟨Go.Proofs.YtnkihggdohigiaaW.PrintWords.pw_below_drewN h.b n, Nat.le_trans h.d (Nat.le_add_right _ _)⟩
theorem Gr.blk_below {w w1 : World} {g : Nat} {o : Obj} (h : w.heap[g]? = some o) (hb : Below w.heap.size w w1) : w1.heap[g]? = some o := Go.Proofs.YtnkihggdohigiaaW.PrintWords.blk_below h hb.b
theorem Gr.below_size {w W : World} (h : Below w.heap.size w W) : w.heap.size ≤ W.heap.size := h.b.size
theorem Gr.below_step {w W w2 : World} (h : Below w.heap.size w W) (k : Below W.heap.size W w2) : Below w.heap.size w w2 := ⟨Go.Proofs.YtnkihggdohigiaaW.PrintWords.below_step h.b k.b, Nat.le_trans h.d k.d⟩
theorem Gr.below_set {w W : World} {g j : Nat} {v : Value} (h : Below w.heap.size w W) (hg : w.heap.size ≤ g) : Below w.heap.size w (W.setCell ⟨g, j, none⟩ v) := ⟨Go.Proofs.YtnkihggdohigiaaW.PrintWords.below_set h.b hg, by rw [World.drawn_setCell]; exact h.d⟩
theorem Gr.below_drew1 {base : Nat} {w W : World} (h : Below base w W) : Below base w W.drew := ⟨Go.Proofs.YtnkihggdohigiaaW.PrintWords.below_drew1 h.b, Nat.le_trans h.d (Nat.le_succ _)⟩
theorem Gr.box_event {P : Program} {ops : Array Oper} {rest : List Oper} {o : Oper} {a : Act} {Q : Exit → Act → World → Prop} {W : World} (hgd : o.guard = none) {N : Tmp} (_hd : o.dst = some N) {cs : Array Value} {t : TypeId}
    (hrun : (execOp a.eval o).run P W = .ok (.value (.pointer (some ⟨W.heap.size, 0, none⟩))) (W.alloc (.cells cs t (0, 0))))
    (h : ∀ g, g = W.heap.size → ∀ w1, w1.heap[g]? = some (.cells cs t (0, 0)) → Below W.heap.size W w1 → wpList P ops Q rest (a.put o.dst (.pointer (some ⟨g, 0, none⟩))) w1) : wpList P ops Q (o :: rest) a W :=
  Kd.event_run hgd hrun (h _ rfl _ (blk_new W _) (below_alloc (Below.refl _ _) _))
theorem Gr.Kd.R_lit_step {α : Type} {P : Program} {ops : Array Oper} {o : Oper} {a : Act} {W : World} {Kc : Act → World → Prop} {Q : Exit → Act → World → Prop} (d : Kd α) {w0 : World} (base e : Nat) (hw : Region.wanted o (yielded ops a.tmps) = true) {N : Tmp} (hd : o.dst = some N) {xs : List α} {inner : List Value} {ok okp : Nat → Prop}
    (hrun : (execOp a.eval o).run P W = .ok (.value (.slice (some ⟨W.heap.size, 0, none⟩) xs.length xs.length)) (W.alloc (.cells inner.toArray e)))
    (hrep : Reps (d.M W base okp) d.sz xs inner) (hok : ∀ k, okp k → ok k) (hfresh : ok W.heap.size) (HB : Below base w0 W) (hbase : base ≤ W.heap.size) (hm : xs.length ≤ 9223372036854775807)
    (h : ∀ v1 w1, d.R e w1 base ok v1 xs → Below base w0 w1 → W.grownBy w1 none → (∃ b, v1.ownBlock = some b ∧ W.heap.size ≤ b) → Kc (a.put o.dst v1) w1) : if Region.wanted o (yielded ops a.tmps) = true then Oper.wp P o a W Kc Q else Kc (a.put o.dst undef) W := by
  refine event_step hw hrun (h _ _ ⟨fun k hk => ?_, inner, ?_, ?_⟩ ⟨HB.b.alloc hbase _, HB.d⟩ (World.grownBy_alloc W _ none) ⟨W.heap.size, by simp [Value.ownBlock], Nat.le_refl _⟩)
  · have : W.heap.size = k := by simpa [Value.ownBlock] using hk
    subst this
    exact hfresh
  · have h2 := World.ownsRow_lit (base := base) (e := e) (size := d.sz) W inner.toArray xs.length hbase (by simpa [maxLen] using hm) (by simpa using hrep.1)
    simpa using h2
  · refine hrep.imp_ (fun p c hp => d.M_mono (fun k hk => ⟨hok k hk.1, fun he => ?_⟩) (Kd.M_below (d.M_bound hp) (Go.Proofs.YtnkihggdohigiaaW.PrintWords.below_alloc (RowKit.Below.refl _ _) _)))
    have h3 : k = W.heap.size := by simpa [Value.ownBlock] using he
    have := hk.2.2.1
    omega
theorem Gr.Below.of_gro {w w' : World} (h : Gro w w') : Below w.heap.size w w' := by
  obtain ⟨n, os, rfl⟩ := h
  exact ⟨⟨rfl, rfl, rfl, by simp [grow, World.drewN], fun k hk => heap_grow_old _ _ hk⟩, Nat.le_add_right _ _⟩
theorem Gr.place_share.calls (k : Nat) (a0_0 : Nat) (a0_1 : Nat) (a0_2 : Nat) (r : Nat) (w : World) (h : place_share.f k a0_0 a0_1 a0_2 = some r) :
    Calls Try.prog 23 #[.agg #[.float .f64 a0_0, .float .f64 a0_1, .float .f64 a0_2]] w fun e w' => e = .returned (.float .f64 r) ∧ Below w.heap.size w w' := (share_gro k a0_0 a0_1 a0_2 r w h).mono fun _ _ ⟨he, hg⟩ => ⟨he, Below.of_gro hg⟩
theorem Gr.place_busy.calls (k : Nat) (a0_0 : Nat) (a0_1 : Nat) (a0_2 : Nat) (r : Nat) (w : World) (h : place_busy.f k a0_0 a0_1 a0_2 = some r) :
    Calls Try.prog 27 #[.agg #[.float .f64 a0_0, .float .f64 a0_1, .float .f64 a0_2]] w fun e w' => e = .returned (.float .f64 r) ∧ Below w.heap.size w w' := (busy_gro k a0_0 a0_1 a0_2 r w h).mono fun _ _ ⟨he, hg⟩ => ⟨he, Below.of_gro hg⟩
set_option maxHeartbeats 8000000 in
set_option maxRecDepth 100000 in
theorem Gr.place_Before.calls (k : Nat) (a0_0 : Nat) (a0_1 : Nat) (a0_2 : Nat) (a1_0 : Nat) (a1_1 : Nat) (a1_2 : Nat) (r : Int) (w : World) (h : place_Before.f k a0_0 a0_1 a0_2 a1_0 a1_1 a1_2 = some r) :
    Calls Try.prog 17 #[.agg #[.float .f64 a0_0, .float .f64 a0_1, .float .f64 a0_2], .agg #[.float .f64 a1_0, .float .f64 a1_1, .float .f64 a1_2]] w fun e w' => e = .returned (.int .i64 r) ∧ Below w.heap.size w w' := by
  have hu26 := Try.underlying26
  have HB := Aside0.mk (Below.refl w.heap.size w)
  have H : ((place_share.f k a0_0 a0_1 a0_2).bind fun t121 => ((place_share.f k a1_0 a1_1 a1_2).bind fun t122 => ((real_Order.f t121 t122).bind fun t123 => ((place_busy.f k a0_0 a0_1 a0_2).bind fun t124 => ((place_busy.f k a1_0 a1_1 a1_2).bind fun t125 => ((real_Order.f t124 t125).bind fun t126 => ((cmp_Or_int.f k (([t123, t126] : List Int))).bind fun t130 => (some t130)))))))) = some r := h
  clear h
  replace H := Option.bind_eq_some_iff.mp H
  obtain ⟨t121, A30, H⟩ := H
  replace H : ((place_share.f k a1_0 a1_1 a1_2).bind fun t122 => ((real_Order.f t121 t122).bind fun t123 => ((place_busy.f k a0_0 a0_1 a0_2).bind fun t124 => ((place_busy.f k a1_0 a1_1 a1_2).bind fun t125 => ((real_Order.f t124 t125).bind fun t126 => ((cmp_Or_int.f k (([t123, t126] : List Int))).bind fun t130 => (some t130))))))) = some r := H
  have A3 := Aside0.mk A30
  clear A30
  replace H := Option.bind_eq_some_iff.mp H
  obtain ⟨t122, A40, H⟩ := H
  replace H : ((real_Order.f t121 t122).bind fun t123 => ((place_busy.f k a0_0 a0_1 a0_2).bind fun t124 => ((place_busy.f k a1_0 a1_1 a1_2).bind fun t125 => ((real_Order.f t124 t125).bind fun t126 => ((cmp_Or_int.f k (([t123, t126] : List Int))).bind fun t130 => (some t130)))))) = some r := H
  have A4 := Aside0.mk A40
  clear A40
  replace H := Option.bind_eq_some_iff.mp H
  obtain ⟨t123, A50, H⟩ := H
  replace H : ((place_busy.f k a0_0 a0_1 a0_2).bind fun t124 => ((place_busy.f k a1_0 a1_1 a1_2).bind fun t125 => ((real_Order.f t124 t125).bind fun t126 => ((cmp_Or_int.f k (([t123, t126] : List Int))).bind fun t130 => (some t130))))) = some r := H
  have A5 := Aside0.mk A50
  clear A50
  replace H := Option.bind_eq_some_iff.mp H
  obtain ⟨t124, A60, H⟩ := H
  replace H : ((place_busy.f k a1_0 a1_1 a1_2).bind fun t125 => ((real_Order.f t124 t125).bind fun t126 => ((cmp_Or_int.f k (([t123, t126] : List Int))).bind fun t130 => (some t130)))) = some r := H
  have A6 := Aside0.mk A60
  clear A60
  replace H := Option.bind_eq_some_iff.mp H
  obtain ⟨t125, A70, H⟩ := H
  replace H : ((real_Order.f t124 t125).bind fun t126 => ((cmp_Or_int.f k (([t123, t126] : List Int))).bind fun t130 => (some t130))) = some r := H
  have A7 := Aside0.mk A70
  clear A70
  replace H := Option.bind_eq_some_iff.mp H
  obtain ⟨t126, A80, H⟩ := H
  replace H : ((cmp_Or_int.f k (([t123, t126] : List Int))).bind fun t130 => (some t130)) = some r := H
  have A8 := Aside0.mk A80
  clear A80
  obtain ⟨y127, hy127⟩ : ∃ y_ : List Int, y_ = (([t123, t126] : List Int)) := ⟨_, rfl⟩
  replace H : ((cmp_Or_int.f k y127).bind fun t130 => (some t130)) = some r := by first | (rw [hy127]; with_reducible exact H) | (have H2_ := (Option.bind_some _ _).symm.trans H; rw [hy127]; with_reducible exact H2_) | (have H2_ := (Option.bind_some _ _).symm.trans H; with_reducible exact H2_) | with_reducible exact H | (rw [hy127]; exact H) | exact H
  have Ny127 := Aside0.mk hy127
  clear hy127
  replace H := Option.bind_eq_some_iff.mp H
  obtain ⟨t130, A90, H⟩ := H
  replace H : (some t130) = some r := H
  have A9 := Aside0.mk A90
  clear A90
  obtain rfl := Option.some.inj H
  go_enter Try.func17, Try.ntmps17
  try go_wp2_with (first | ((with_reducible refine gate_dst (N := 2) rfl ?_); refine box_event ?hg (N := 2) ?hd (cs := #[.float .f64 a0_0, .float .f64 a0_1, .float .f64 a0_2]) (t := 26) ?hr ?_; (case hd => rfl); (case hg => rfl); (case hr => first | (go_simp; done) | (go_simp; rfl)); intro gb119 hg w10 hbox hb; have n0_ := Aside0.mk (below_step (by repeat (first | (with_reducible first | exact HB.out | apply below_alloc | apply pw_below_drewN | apply below_drew1) | exact HB.out)) hb); have n1_ := Aside0.mk (hbox); have n2_ := Aside0.mk ((by rw [hg]; exact (below_size (by repeat (first | (with_reducible first | exact HB.out | apply below_alloc | apply pw_below_drewN | apply below_drew1) | exact HB.out))) : w.heap.size ≤ gb119)); have n3_ := Aside0.mk ((by rw [hg]; exact (below_size (by repeat (first | (with_reducible first | exact HB.out | apply below_alloc | apply pw_below_drewN | apply below_drew1) | exact HB.out))) : w.heap.size ≤ gb119)); clear HB; have HB := n0_; have BK119 := n1_; have GW119 := n2_; have GE119 := n3_; clear n0_ n1_ n2_ n3_; clear hb hbox hg) | ((with_reducible refine gate_dst (N := 3) rfl ?_); refine box_event ?hg (N := 3) ?hd (cs := #[.float .f64 a1_0, .float .f64 a1_1, .float .f64 a1_2]) (t := 26) ?hr ?_; (case hd => rfl); (case hg => rfl); (case hr => first | (go_simp; done) | (go_simp; rfl)); intro gb120 hg w11 hbox hb; have n0_ := Aside0.mk (blk_below (g := gb119) (o := .cells #[.float .f64 a0_0, .float .f64 a0_1, .float .f64 a0_2] 26 (0, 0)) (by (with_reducible repeat (first | refine blk_drewN ?_ _ | refine blk_drew ?_ | refine blk_alloc ?_ _)); exact BK119.out) hb); have n1_ := Aside0.mk (below_step (by repeat (first | (with_reducible first | exact HB.out | apply below_alloc | apply pw_below_drewN | apply below_drew1 | refine below_set ?_ GE119.out) | exact HB.out)) hb); have n2_ := Aside0.mk (hbox); have n3_ := Aside0.mk ((by rw [hg]; exact (below_size (by repeat (first | (with_reducible first | exact HB.out | apply below_alloc | apply pw_below_drewN | apply below_drew1 | refine below_set ?_ GE119.out) | exact HB.out))) : w.heap.size ≤ gb120)); have n4_ := Aside0.mk ((by rw [hg]; exact (below_size (by repeat (first | (with_reducible first | exact HB.out | apply below_alloc | apply pw_below_drewN | apply below_drew1 | refine below_set ?_ GE119.out) | exact HB.out))) : w.heap.size ≤ gb120)); have n5_ := Aside0.mk ((by rw [hg]; exact Nat.ne_of_lt (blk_lt (g := gb119) (o := .cells #[.float .f64 a0_0, .float .f64 a0_1, .float .f64 a0_2] 26 (0, 0)) (by (with_reducible repeat (first | refine blk_drewN ?_ _ | refine blk_drew ?_ | refine blk_alloc ?_ _)); exact BK119.out)) : gb119 ≠ gb120)); have n6_ := Aside0.mk ((by rw [hg]; exact Nat.ne_of_gt (blk_lt (g := gb119) (o := .cells #[.float .f64 a0_0, .float .f64 a0_1, .float .f64 a0_2] 26 (0, 0)) (by (with_reducible repeat (first | refine blk_drewN ?_ _ | refine blk_drew ?_ | refine blk_alloc ?_ _)); exact BK119.out)) : gb120 ≠ gb119)); clear BK119; clear HB; have BK119 := n0_; have HB := n1_; have BK120 := n2_; have GW120 := n3_; have GE120 := n4_; have NB119_120 := n5_; have NB120_119 := n6_; clear n0_ n1_ n2_ n3_ n4_ n5_ n6_; clear hb hbox hg))
  have n0_ := Aside0.mk (blk_drew BK119.out)
  have n1_ := Aside0.mk (blk_drew BK120.out)
  have n2_ := Aside0.mk (below_drew1 HB.out)
  clear BK119
  clear BK120
  clear HB
  have BK119 := n0_
  have BK120 := n1_
  have HB := n2_
  clear n0_ n1_ n2_
  refine start_ (n := 13) (S := fun w' => w'.cell? ⟨gb119, 0, none⟩ = some (.float .f64 a0_0) ∧ w'.cell? ⟨gb119, 1, none⟩ = some (.float .f64 a0_1) ∧ w'.cell? ⟨gb119, 2, none⟩ = some (.float .f64 a0_2) ∧ w'.cell? ⟨gb120, 0, none⟩ = some (.float .f64 a1_0) ∧ w'.cell? ⟨gb120, 1, none⟩ = some (.float .f64 a1_1) ∧ w'.cell? ⟨gb120, 2, none⟩ = some (.float .f64 a1_2)) (ds := []) #[false, false, false, false, false, false, false, false, false, false, false, false, false] (by kernel_rfl) rfl rfl ⟨(blk_cell BK119.out 0).trans rfl, (blk_cell BK119.out 1).trans rfl, (blk_cell BK119.out 2).trans rfl, (blk_cell BK120.out 0).trans rfl, (blk_cell BK120.out 1).trans rfl, (blk_cell BK120.out 2).trans rfl⟩ (fun hHeld => ?_); refine with_tabW place_Before.tab1 place_Before.bits1 (fun HT_ HW_ => ?_)
  generalize w11.drew = w12 at BK119 BK120 HB hHeld ⊢
  refine take_ (i := 0) (N := some 5) (v := ?_) (a' := ?_) #[true, false, false, false, false, false, false, false, false, false, false, false, false] rfl rfl (take_ofW HT_.out HW_.out (by kernel_rfl)) (fun _ _ _ h => h) (Or.inl ⟨by rfl, ?_⟩) hHeld ?_ ?_
  rotate_left
  · rintro w' ⟨s0, s1, s2, s3, s4, s5⟩
    go_simp
    with_reducible rfl
  rotate_left
  · simp only [Act.put, List.setIfInBounds_toArray, List.set_cons_zero, List.set_cons_succ, i64_w, i32_w]
    rfl
  refine take_ (i := 2) (N := some 7) (v := ?_) (a' := ?_) #[true, false, true, false, false, false, false, false, false, false, false, false, false] rfl rfl (take_ofW HT_.out HW_.out (by kernel_rfl)) (fun _ _ _ h => h) (Or.inl ⟨by rfl, ?_⟩) hHeld ?_ ?_
  rotate_left
  · rintro w' ⟨s0, s1, s2, s3, s4, s5⟩
    go_simp
    with_reducible rfl
  rotate_left
  · simp only [Act.put, List.setIfInBounds_toArray, List.set_cons_zero, List.set_cons_succ, i64_w, i32_w]
    rfl
  refine take_ (i := 5) (N := some 10) (v := ?_) (a' := ?_) #[true, false, true, false, false, true, false, false, false, false, false, false, false] rfl rfl (take_ofW HT_.out HW_.out (by kernel_rfl)) (fun _ _ _ h => h) (Or.inl ⟨by rfl, ?_⟩) hHeld ?_ ?_
  rotate_left
  · rintro w' ⟨s0, s1, s2, s3, s4, s5⟩
    go_simp
    with_reducible rfl
  rotate_left
  · simp only [Act.put, List.setIfInBounds_toArray, List.set_cons_zero, List.set_cons_succ, i64_w, i32_w]
    rfl
  refine take_ (i := 7) (N := some 12) (v := ?_) (a' := ?_) #[true, false, true, false, false, true, false, true, false, false, false, false, false] rfl rfl (take_ofW HT_.out HW_.out (by kernel_rfl)) (fun _ _ _ h => h) (Or.inl ⟨by rfl, ?_⟩) hHeld ?_ ?_
  rotate_left
  · rintro w' ⟨s0, s1, s2, s3, s4, s5⟩
    go_simp
    with_reducible rfl
  rotate_left
  · simp only [Act.put, List.setIfInBounds_toArray, List.set_cons_zero, List.set_cons_succ, i64_w, i32_w]
    rfl
  refine one_ (i := 1) (N := some 6) #[true, true, true, false, false, true, false, true, false, false, false, false, false] rfl rfl (one_of HT_.out (by kernel_rfl)) (by decide) (fun K hK => ?_)
  refine goes_ Try.func23 (by kernel_rfl) rfl #[.agg #[.float .f64 a0_0, .float .f64 a0_1, .float .f64 a0_2]] (by rfl) rfl rfl (by (try simp only [List.map_toArray, List.map_cons, List.map_nil]); first | done | rfl | (simp only [List.length_drop, List.length_take]; rfl)) ?_
  with_reducible refine (place_share.calls k a0_0 a0_1 a0_2 t121 _ A3.out).mono ?_
  rintro e w13 ⟨rfl, hb⟩
  refine ⟨_, rfl, ?_⟩
  have n0_ := Aside0.mk (blk_below (g := gb119) (o := .cells #[.float .f64 a0_0, .float .f64 a0_1, .float .f64 a0_2] 26 (0, 0)) (by (with_reducible repeat (first | refine blk_drewN ?_ _ | refine blk_drew ?_ | refine blk_alloc ?_ _)); exact BK119.out) hb)
  have n1_ := Aside0.mk (blk_below (g := gb120) (o := .cells #[.float .f64 a1_0, .float .f64 a1_1, .float .f64 a1_2] 26 (0, 0)) (by (with_reducible repeat (first | refine blk_drewN ?_ _ | refine blk_drew ?_ | refine blk_alloc ?_ _)); exact BK120.out) hb)
  have n2_ := Aside0.mk (below_step (by repeat (first | (with_reducible first | exact HB.out | apply below_alloc | apply pw_below_drewN | apply below_drew1 | refine below_set ?_ GE119.out | refine below_set ?_ GE120.out) | exact HB.out)) hb)
  clear BK119
  clear BK120
  clear HB
  have BK119 := n0_
  have BK120 := n1_
  have HB := n2_
  clear n0_ n1_ n2_
  (try clear hb)
  (try clear hb2)
  (try clear hk)
  (try clear hi)
  refine hK.out _ _ ⟨(blk_cell BK119.out 0).trans rfl, (blk_cell BK119.out 1).trans rfl, (blk_cell BK119.out 2).trans rfl, (blk_cell BK120.out 0).trans rfl, (blk_cell BK120.out 1).trans rfl, (blk_cell BK120.out 2).trans rfl⟩ (fun hHeld => ?_)
  clear hK K
  refine norm_ (a' := ?_) ?_ ?_
  rotate_left
  · show Act.put _ (some 6) _ = _
    simp only [Act.put, List.setIfInBounds_toArray, List.set_cons_zero, List.set_cons_succ, i64_w, i32_w]
    rfl
  refine one_ (i := 3) (N := some 8) #[true, true, true, true, false, true, false, true, false, false, false, false, false] rfl rfl (one_of HT_.out (by kernel_rfl)) (by decide) (fun K hK => ?_)
  refine goes_ Try.func23 (by kernel_rfl) rfl #[.agg #[.float .f64 a1_0, .float .f64 a1_1, .float .f64 a1_2]] (by rfl) rfl rfl (by (try simp only [List.map_toArray, List.map_cons, List.map_nil]); first | done | rfl | (simp only [List.length_drop, List.length_take]; rfl)) ?_
  with_reducible refine (place_share.calls k a1_0 a1_1 a1_2 t122 _ A4.out).mono ?_
  rintro e w14 ⟨rfl, hb⟩
  refine ⟨_, rfl, ?_⟩
  have n0_ := Aside0.mk (blk_below (g := gb119) (o := .cells #[.float .f64 a0_0, .float .f64 a0_1, .float .f64 a0_2] 26 (0, 0)) (by (with_reducible repeat (first | refine blk_drewN ?_ _ | refine blk_drew ?_ | refine blk_alloc ?_ _)); exact BK119.out) hb)
  have n1_ := Aside0.mk (blk_below (g := gb120) (o := .cells #[.float .f64 a1_0, .float .f64 a1_1, .float .f64 a1_2] 26 (0, 0)) (by (with_reducible repeat (first | refine blk_drewN ?_ _ | refine blk_drew ?_ | refine blk_alloc ?_ _)); exact BK120.out) hb)
  have n2_ := Aside0.mk (below_step (by repeat (first | (with_reducible first | exact HB.out | apply below_alloc | apply pw_below_drewN | apply below_drew1 | refine below_set ?_ GE119.out | refine below_set ?_ GE120.out) | exact HB.out)) hb)
  clear BK119
  clear BK120
  clear HB
  have BK119 := n0_
  have BK120 := n1_
  have HB := n2_
  clear n0_ n1_ n2_
  (try clear hb)
  (try clear hb2)
  (try clear hk)
  (try clear hi)
  refine hK.out _ _ ⟨(blk_cell BK119.out 0).trans rfl, (blk_cell BK119.out 1).trans rfl, (blk_cell BK119.out 2).trans rfl, (blk_cell BK120.out 0).trans rfl, (blk_cell BK120.out 1).trans rfl, (blk_cell BK120.out 2).trans rfl⟩ (fun hHeld => ?_)
  clear hK K
  refine norm_ (a' := ?_) ?_ ?_
  rotate_left
  · show Act.put _ (some 8) _ = _
    simp only [Act.put, List.setIfInBounds_toArray, List.set_cons_zero, List.set_cons_succ, i64_w, i32_w]
    rfl
  refine one_ (i := 4) (N := some 9) #[true, true, true, true, true, true, false, true, false, false, false, false, false] rfl rfl (one_of HT_.out (by kernel_rfl)) (by decide) (fun K hK => ?_)
  refine goes_ Try.func26 (by kernel_rfl) rfl #[.float .f64 t121, .float .f64 t122] (by rfl) rfl rfl (by (try simp only [List.map_toArray, List.map_cons, List.map_nil]); first | done | rfl | (simp only [List.length_drop, List.length_take]; rfl)) ?_
  with_reducible refine (real_Order.calls t121 t122 t123 _ A5.out).mono ?_
  rintro e w' ⟨rfl, ⟨nd, rfl⟩⟩
  refine ⟨_, rfl, ?_⟩
  refine hK.out _ _ ⟨(blk_cell BK119.out 0).trans rfl, (blk_cell BK119.out 1).trans rfl, (blk_cell BK119.out 2).trans rfl, (blk_cell BK120.out 0).trans rfl, (blk_cell BK120.out 1).trans rfl, (blk_cell BK120.out 2).trans rfl⟩ (fun hHeld => ?_)
  clear hK K
  refine norm_ (a' := ?_) ?_ ?_
  rotate_left
  · show Act.put _ (some 9) _ = _
    simp only [Act.put, List.setIfInBounds_toArray, List.set_cons_zero, List.set_cons_succ, i64_w, i32_w]
    rfl
  refine one_ (i := 6) (N := some 11) #[true, true, true, true, true, true, true, true, false, false, false, false, false] rfl rfl (one_of HT_.out (by kernel_rfl)) (by decide) (fun K hK => ?_)
  refine goes_ Try.func27 (by kernel_rfl) rfl #[.agg #[.float .f64 a0_0, .float .f64 a0_1, .float .f64 a0_2]] (by rfl) rfl rfl (by (try simp only [List.map_toArray, List.map_cons, List.map_nil]); first | done | rfl | (simp only [List.length_drop, List.length_take]; rfl)) ?_
  with_reducible refine (place_busy.calls k a0_0 a0_1 a0_2 t124 _ A6.out).mono ?_
  rintro e w15 ⟨rfl, hb⟩
  refine ⟨_, rfl, ?_⟩
  have n0_ := Aside0.mk (blk_below (g := gb119) (o := .cells #[.float .f64 a0_0, .float .f64 a0_1, .float .f64 a0_2] 26 (0, 0)) (by (with_reducible repeat (first | refine blk_drewN ?_ _ | refine blk_drew ?_ | refine blk_alloc ?_ _)); exact BK119.out) hb)
  have n1_ := Aside0.mk (blk_below (g := gb120) (o := .cells #[.float .f64 a1_0, .float .f64 a1_1, .float .f64 a1_2] 26 (0, 0)) (by (with_reducible repeat (first | refine blk_drewN ?_ _ | refine blk_drew ?_ | refine blk_alloc ?_ _)); exact BK120.out) hb)
  have n2_ := Aside0.mk (below_step (by repeat (first | (with_reducible first | exact HB.out | apply below_alloc | apply pw_below_drewN | apply below_drew1 | refine below_set ?_ GE119.out | refine below_set ?_ GE120.out) | exact HB.out)) hb)
  clear BK119
  clear BK120
  clear HB
  have BK119 := n0_
  have BK120 := n1_
  have HB := n2_
  clear n0_ n1_ n2_
  (try clear hb)
  (try clear hb2)
  (try clear hk)
  (try clear hi)
  refine hK.out _ _ ⟨(blk_cell BK119.out 0).trans rfl, (blk_cell BK119.out 1).trans rfl, (blk_cell BK119.out 2).trans rfl, (blk_cell BK120.out 0).trans rfl, (blk_cell BK120.out 1).trans rfl, (blk_cell BK120.out 2).trans rfl⟩ (fun hHeld => ?_)
  clear hK K
  refine norm_ (a' := ?_) ?_ ?_
  rotate_left
  · show Act.put _ (some 11) _ = _
    simp only [Act.put, List.setIfInBounds_toArray, List.set_cons_zero, List.set_cons_succ, i64_w, i32_w]
    rfl
  refine one_ (i := 8) (N := some 13) #[true, true, true, true, true, true, true, true, true, false, false, false, false] rfl rfl (one_of HT_.out (by kernel_rfl)) (by decide) (fun K hK => ?_)
  refine goes_ Try.func27 (by kernel_rfl) rfl #[.agg #[.float .f64 a1_0, .float .f64 a1_1, .float .f64 a1_2]] (by rfl) rfl rfl (by (try simp only [List.map_toArray, List.map_cons, List.map_nil]); first | done | rfl | (simp only [List.length_drop, List.length_take]; rfl)) ?_
  with_reducible refine (place_busy.calls k a1_0 a1_1 a1_2 t125 _ A7.out).mono ?_
  rintro e w16 ⟨rfl, hb⟩
  refine ⟨_, rfl, ?_⟩
  have n0_ := Aside0.mk (blk_below (g := gb119) (o := .cells #[.float .f64 a0_0, .float .f64 a0_1, .float .f64 a0_2] 26 (0, 0)) (by (with_reducible repeat (first | refine blk_drewN ?_ _ | refine blk_drew ?_ | refine blk_alloc ?_ _)); exact BK119.out) hb)
  have n1_ := Aside0.mk (blk_below (g := gb120) (o := .cells #[.float .f64 a1_0, .float .f64 a1_1, .float .f64 a1_2] 26 (0, 0)) (by (with_reducible repeat (first | refine blk_drewN ?_ _ | refine blk_drew ?_ | refine blk_alloc ?_ _)); exact BK120.out) hb)
  have n2_ := Aside0.mk (below_step (by repeat (first | (with_reducible first | exact HB.out | apply below_alloc | apply pw_below_drewN | apply below_drew1 | refine below_set ?_ GE119.out | refine below_set ?_ GE120.out) | exact HB.out)) hb)
  clear BK119
  clear BK120
  clear HB
  have BK119 := n0_
  have BK120 := n1_
  have HB := n2_
  clear n0_ n1_ n2_
  (try clear hb)
  (try clear hb2)
  (try clear hk)
  (try clear hi)
  refine hK.out _ _ ⟨(blk_cell BK119.out 0).trans rfl, (blk_cell BK119.out 1).trans rfl, (blk_cell BK119.out 2).trans rfl, (blk_cell BK120.out 0).trans rfl, (blk_cell BK120.out 1).trans rfl, (blk_cell BK120.out 2).trans rfl⟩ (fun hHeld => ?_)
  clear hK K
  refine norm_ (a' := ?_) ?_ ?_
  rotate_left
  · show Act.put _ (some 13) _ = _
    simp only [Act.put, List.setIfInBounds_toArray, List.set_cons_zero, List.set_cons_succ, i64_w, i32_w]
    rfl
  refine one_ (i := 9) (N := some 14) #[true, true, true, true, true, true, true, true, true, true, false, false, false] rfl rfl (one_of HT_.out (by kernel_rfl)) (by decide) (fun K hK => ?_)
  refine goes_ Try.func26 (by kernel_rfl) rfl #[.float .f64 t124, .float .f64 t125] (by rfl) rfl rfl (by (try simp only [List.map_toArray, List.map_cons, List.map_nil]); first | done | rfl | (simp only [List.length_drop, List.length_take]; rfl)) ?_
  with_reducible refine (real_Order.calls t124 t125 t126 _ A8.out).mono ?_
  rintro e w' ⟨rfl, ⟨nd, rfl⟩⟩
  refine ⟨_, rfl, ?_⟩
  refine hK.out _ _ ⟨(blk_cell BK119.out 0).trans rfl, (blk_cell BK119.out 1).trans rfl, (blk_cell BK119.out 2).trans rfl, (blk_cell BK120.out 0).trans rfl, (blk_cell BK120.out 1).trans rfl, (blk_cell BK120.out 2).trans rfl⟩ (fun hHeld => ?_)
  clear hK K
  refine norm_ (a' := ?_) ?_ ?_
  rotate_left
  · show Act.put _ (some 14) _ = _
    simp only [Act.put, List.setIfInBounds_toArray, List.set_cons_zero, List.set_cons_succ, i64_w, i32_w]
    rfl
  refine one_ (i := 10) (N := some 15) #[true, true, true, true, true, true, true, true, true, true, true, false, false] rfl rfl (one_of HT_.out (by kernel_rfl)) (by decide) (fun K hK => ?_)
  refine Kd.R_lit_step (Kd.int .i64) _ 3 ?hg (N := 15) ?hd (xs := ([t123, t126] : List Int)) (inner := [.int .i64 t123, .int .i64 t126]) (ok := fun _ => True) (okp := fun _ => True) ?hr ?hp (fun _ hk => hk) trivial (Below.refl _ _) (Nat.le_refl _) (by simp) ?_; (case hd => rfl); (case hg => rfl); (case hr => first | (go_simp; done) | (go_simp; rfl)); (case hp => exact (Reps.one (show Kd.M (Kd.int .i64) _ _ _ t123 [.int .i64 t123] from rfl) (Reps.one (show Kd.M (Kd.int .i64) _ _ _ t126 [.int .i64 t126] from rfl) (Reps.none _ _))))
  intro v128 w17 ho18 hb hg_ hnew_
  clear hg_ hnew_
  (first | rw [← Ny127.out] at ho18 | (simp only [Int.reduceToNat] at ho18; rw [← Ny127.out] at ho18))
  have n0_ := Aside0.mk (Kd.R_lower ho18 (below_size (by repeat (first | (with_reducible first | exact HB.out | apply below_alloc | apply pw_below_drewN | apply below_drew1 | refine below_set ?_ GE119.out | refine below_set ?_ GE120.out) | exact HB.out))))
  have n1_ := Aside0.mk (blk_below (g := gb119) (o := .cells #[.float .f64 a0_0, .float .f64 a0_1, .float .f64 a0_2] 26 (0, 0)) (by (with_reducible repeat (first | refine blk_drewN ?_ _ | refine blk_drew ?_ | refine blk_alloc ?_ _)); exact BK119.out) hb)
  have n2_ := Aside0.mk (blk_below (g := gb120) (o := .cells #[.float .f64 a1_0, .float .f64 a1_1, .float .f64 a1_2] 26 (0, 0)) (by (with_reducible repeat (first | refine blk_drewN ?_ _ | refine blk_drew ?_ | refine blk_alloc ?_ _)); exact BK120.out) hb)
  have n3_ := Aside0.mk (below_step (by repeat (first | (with_reducible first | exact HB.out | apply below_alloc | apply pw_below_drewN | apply below_drew1 | refine below_set ?_ GE119.out | refine below_set ?_ GE120.out) | exact HB.out)) hb)
  clear BK119
  clear BK120
  clear HB
  have HO129 := n0_
  have BK119 := n1_
  have BK120 := n2_
  have HB := n3_
  clear n0_ n1_ n2_ n3_
  clear hb ho18
  obtain ⟨Ao19, co19, eo19⟩ := Kd.R_slice HO129.out
  (first | subst eo19 | (injection eo19 with f1_ f2_ f3_; have f4_ := f1_.symm; have f5_ := f3_.symm; clear f1_ f2_ f3_; subst f4_; subst f5_))
  refine hK.out _ _ ⟨(blk_cell BK119.out 0).trans rfl, (blk_cell BK119.out 1).trans rfl, (blk_cell BK119.out 2).trans rfl, (blk_cell BK120.out 0).trans rfl, (blk_cell BK120.out 1).trans rfl, (blk_cell BK120.out 2).trans rfl⟩ (fun hHeld => ?_)
  clear hK K
  refine norm_ (a' := ?_) ?_ ?_
  rotate_left
  · show Act.put _ (some 15) _ = _
    simp only [Act.put, List.setIfInBounds_toArray, List.set_cons_zero, List.set_cons_succ, i64_w, i32_w]
    rfl
  refine one_ (i := 11) (N := some 16) #[true, true, true, true, true, true, true, true, true, true, true, true, false] rfl rfl (one_of HT_.out (by kernel_rfl)) (by decide) (fun K hK => ?_)
  refine goes_ Try.func25 (by kernel_rfl) rfl #[.slice Ao19 y127.length co19] (by rfl) rfl rfl (by (try simp only [List.map_toArray, List.map_cons, List.map_nil]); first | done | rfl | (simp only [List.length_drop, List.length_take]; rfl)) ?_
  with_reducible refine (cmp_Or_int.calls k _ _ y127 t130 _ ?side1 ?side2 A9.out).mono ?_
  (case side1 => repeat (first | exact (Kd.R_reads' HO129.out).2.2 | (with_reducible refine Kd.C_alloc ?_ _) | (with_reducible refine Kd.C_drewN ?_ _) | (with_reducible refine Kd.C_drew ?_)))
  (case side2 => exact (Kd.R_reads' HO129.out).2.1)
  rintro e w' ⟨rfl, ⟨nd, rfl⟩⟩
  refine ⟨_, rfl, ?_⟩
  refine hK.out _ _ ⟨(blk_cell BK119.out 0).trans rfl, (blk_cell BK119.out 1).trans rfl, (blk_cell BK119.out 2).trans rfl, (blk_cell BK120.out 0).trans rfl, (blk_cell BK120.out 1).trans rfl, (blk_cell BK120.out 2).trans rfl⟩ (fun hHeld => ?_)
  clear hK K
  refine norm_ (a' := ?_) ?_ ?_
  rotate_left
  · show Act.put _ (some 16) _ = _
    simp only [Act.put, List.setIfInBounds_toArray, List.set_cons_zero, List.set_cons_succ, i64_w, i32_w]
    rfl
  refine pure_ (i := 12) (N := some 4) (v := ?_) (a' := ?_) #[true, true, true, true, true, true, true, true, true, true, true, true, true] rfl rfl (any_of HT_.out (by kernel_rfl)) (fun _ _ _ h => h) (Or.inl ⟨by rfl, ?_⟩) ?_ ?_
  rotate_left
  · intro w'
    go_simp
    with_reducible rfl
  rotate_left
  · simp only [Act.put, List.setIfInBounds_toArray, List.set_cons_zero, List.set_cons_succ, i64_w, i32_w]
    rfl
  refine done_ (done_of HT_.out (by kernel_rfl)) ?_
  try go_wp2
  go_ret
  exact ⟨by first | rfl | (simp [errW_none, errW_some] <;> rfl) | (simp [*, errW_none, errW_some] <;> rfl), by repeat (first | (with_reducible first | exact HB.out | apply below_alloc | apply pw_below_drewN | apply below_drew1 | refine below_set ?_ GE119.out | refine below_set ?_ GE120.out) | exact HB.out)⟩
theorem before_gro (k : Nat) (a0_0 : Nat) (a0_1 : Nat) (a0_2 : Nat) (a1_0 : Nat) (a1_1 : Nat) (a1_2 : Nat) (r : Int) (w : World) (h : place_Before.f k a0_0 a0_1 a0_2 a1_0 a1_1 a1_2 = some r) :
    Calls Try.prog 17 #[.agg #[.float .f64 a0_0, .float .f64 a0_1, .float .f64 a0_2], .agg #[.float .f64 a1_0, .float .f64 a1_1, .float .f64 a1_2]] w fun e w' => e = .returned (.int .i64 r) ∧ Gro w w' :=
  (Gr.place_Before.calls k a0_0 a0_1 a0_2 a1_0 a1_1 a1_2 r w h).mono fun _ _ ⟨he, hb⟩ => ⟨he, Gro.of_below hb.b hb.d⟩
set_option maxHeartbeats 4000000 in
theorem clos_gro (k gb c0 : Nat) (A0 : Option Addr) (l0 : List S26) (x y : Int) (r : Int) (W : World) (hbox : W.cell? ⟨gb, 0, none⟩ = some (.slice A0 l0.length c0)) (hC : Kd.C k26 W A0 l0.length l0) (hx0 : 0 ≤ x) (hx : x < (l0.length : Int)) (hy0 : 0 ≤ y) (hy : y < (l0.length : Int))
    (h : place_Before.f k (rd_T26 l0 x).f0 (rd_T26 l0 x).f1 (rd_T26 l0 x).f2 (rd_T26 l0 y).f0 (rd_T26 l0 y).f1 (rd_T26 l0 y).f2 = some r) :
    Calls Try.prog 21 #[.int .i64 x, .int .i64 y, .pointer (some ⟨gb, 0, none⟩)] W fun e w' => e = .returned (.int .i64 r) ∧ Gro W w' := by
  have hu26 := Try.underlying26
  have mixed : Try.prog.follows .mixedOrders = true := by kernel_rfl
  obtain ⟨ad, rfl, x0, x1, x2⟩ := at_T26 hC x hx0 hx
  obtain ⟨ad', e, y0, y1, y2⟩ := at_T26 hC y hy0 hy
  cases e
  have cb := fun n os => cell_grown (World.block_lt_of_cell? W _ hbox) hbox n os
  have cx0 := fun n os => cell_grown (World.block_lt_of_cell? W _ x0) x0 n os
  have cx1 := fun n os => cell_grown (World.block_lt_of_cell? W _ x1) x1 n os
  have cx2 := fun n os => cell_grown (World.block_lt_of_cell? W _ x2) x2 n os
  have cy0 := fun n os => cell_grown (World.block_lt_of_cell? W _ y0) y0 n os
  have cy1 := fun n os => cell_grown (World.block_lt_of_cell? W _ y1) y1 n os
  have cy2 := fun n os => cell_grown (World.block_lt_of_cell? W _ y2) y2 n os
  have hT := fun w => before_gro k _ _ _ _ _ _ r w h
  clear x0 x1 x2 y0 y1 y2 h hC hbox
  replace hx0 := eq_true hx0
  replace hx := eq_true hx
  replace hy0 := eq_true hy0
  replace hy := eq_true hy
  go_enter Try.func21, Try.ntmps21
  go_wp2
  go_quiet_grown (first | (go_at_call 17; refine Calls.grown_of (hT _)))
  go_wp2
  go_ret
  exact ⟨rfl, nq, osq, rfl⟩
namespace St
variable {α : Type} [Inhabited α]
theorem blkFrom_size (lt : α → α → Bool) (k n : Nat) : ∀ f a (d : Array α), (blkFrom lt k n f a d).size = d.size
  | 0, a, d => by rw [blkFrom, ins_size]
  | f + 1, a, d => by
    rw [blkFrom]
    split
    · rw [blkFrom_size lt k n f, ins_size]
    · rw [ins_size]
theorem mrgEnd_size (lt : α → α → Bool) (k n a : Nat) (d : Array α) : (mrgEnd lt k n a d).size = d.size := by
  rw [mrgEnd]
  split
  · exact symM_size _ _ _ _ _ _
  · rfl
theorem mrgFrom_size (lt : α → α → Bool) (k n : Nat) : ∀ f a (d : Array α), (mrgFrom lt k n f a d).size = d.size
  | 0, a, d => by rw [mrgFrom, mrgEnd_size]
  | f + 1, a, d => by
    rw [mrgFrom]
    split
    · rw [mrgFrom_size lt k n f, symM_size]
    · rw [mrgEnd_size]
theorem stbFrom_size (lt : α → α → Bool) (n : Nat) : ∀ f k (d : Array α), (stbFrom lt n f k d).size = d.size
  | 0, _, d => rfl
  | f + 1, k, d => by
    rw [stbFrom]
    split
    · rw [stbFrom_size lt n f, mrgFrom_size]
    · rfl
theorem stab_size (lt : α → α → Bool) (n : Nat) (d : Array α) : (stab lt n d).size = d.size := by rw [stab, stbFrom_size, blkFrom_size]
end St
theorem reps_down {α : Type} {enc : α → Value} (xs : List α) (cs : List Value) (h : Reps (fun (x : α) (cs : List Value) => cs = [enc x]) 1 xs cs) : cs = xs.map enc := by
  obtain ⟨hl, hr⟩ := h
  apply List.ext_getElem?
  intro j
  rw [List.getElem?_map]
  cases hx : xs[j]? with
  | none =>
    have := List.getElem?_eq_none_iff.1 hx
    rw [List.getElem?_eq_none (by omega)]; rfl
  | some x =>
    have h1 := hr j x hx
    have h0 : ((cs.drop (j * 1)).take 1)[0]? = some (enc x) := by rw [h1]; rfl
    rw [List.getElem?_take_of_lt (by omega), List.getElem?_drop] at h0
    simpa using h0
/-- one of the places below n, as a value -/
def encL (n x : Nat) : Value := .int .i64 ((x % n : Nat) : Int)
/-- the rounds that suffice -/
def place_Targets.fuel (l2 : List Int) : Nat := l2.length + 10
def place_Targets.ord (k : Nat) (l0 : List S26) (x y : Int) : Option Int := place_Before.f k (rd_T26 l0 x).f0 (rd_T26 l0 x).f1 (rd_T26 l0 x).f2 (rd_T26 l0 y).f0 (rd_T26 l0 y).f1 (rd_T26 l0 y).f2
def place_Targets.cmp (k : Nat) (l0 : List S26) (x y : Nat) : Int := (place_Targets.ord k l0 ((x % l0.length : Nat) : Int) ((y % l0.length : Nat) : Int)).getD 0
/-- who fits and is not barred, from place i on, n to go -/
def place_Targets.pick (k : Nat) (l0 : List S26) (l2 : List Int) : Nat → List Int → Int → Option (List Int)
  | 0, acc, _ => some acc
  | n + 1, acc, i => (place_Fit.f k (rd_T26 l0 i).f0 (rd_T26 l0 i).f1 (rd_T26 l0 i).f2).bind fun b => if b = true then (slices_Contains_int_int.f k l2 i).bind fun c => (if c = true then place_Targets.pick k l0 l2 n acc (i + 1) else place_Targets.pick k l0 l2 n (acc ++ [i]) (i + 1)) else place_Targets.pick k l0 l2 n acc (i + 1)
/-- in the order of Before, stable -/
def place_Targets.sorted (k : Nat) (l0 : List S26) (out : List Int) : List Int := (St.stab (ltOf (place_Targets.cmp k l0)) out.length (out.map Int.toNat).toArray).toList.map fun y => ((y % l0.length : Nat) : Int)
def place_Targets.f (l0 : List (S26)) (a1 : Int) (l2 : List Int) : Option (List Int) :=
  if l0.length < 17592186044416 ∧ (∀ x, x < l0.length → ∀ y, y < l0.length → (place_Targets.ord (place_Targets.fuel l2) l0 ((x : Nat) : Int) ((y : Nat) : Int)).isSome = true) then
    (place_Targets.pick (place_Targets.fuel l2) l0 l2 l0.length [] 0).bind fun out => some ((place_Targets.sorted (place_Targets.fuel l2) l0 out).take (mn (out.length : Int) (mx a1 0)).toNat)
  else none
theorem place_Targets.pick_in (k : Nat) (l0 : List S26) (l2 : List Int) : ∀ n acc i out, place_Targets.pick k l0 l2 n acc i = some out → i + n = l0.length → 0 ≤ i → (∀ x ∈ acc, 0 ≤ x ∧ x < (l0.length : Int)) → ∀ x ∈ out, 0 ≤ x ∧ x < (l0.length : Int)
  | 0, acc, i, out, h, _, _, ha => by
    rw [place_Targets.pick] at h
    obtain rfl := Option.some.inj h
    exact ha
  | n + 1, acc, i, out, h, hi, h0, ha => by
    rw [place_Targets.pick] at h
    obtain ⟨b, _, h⟩ := Option.bind_eq_some_iff.mp h
    split at h
    · obtain ⟨c, _, h⟩ := Option.bind_eq_some_iff.mp h
      split at h
      · exact place_Targets.pick_in k l0 l2 n _ _ out h (by omega) (by omega) ha
      · refine place_Targets.pick_in k l0 l2 n _ _ out h (by omega) (by omega) (fun x hx => ?_)
        rcases List.mem_append.1 hx with hx | hx
        · exact ha x hx
        · obtain rfl := List.mem_singleton.1 hx
          omega
    · exact place_Targets.pick_in k l0 l2 n _ _ out h (by omega) (by omega) ha
theorem place_Targets.pick_len (k : Nat) (l0 : List S26) (l2 : List Int) : ∀ n acc i out, place_Targets.pick k l0 l2 n acc i = some out → out.length ≤ acc.length + n
  | 0, acc, i, out, h => by
    rw [place_Targets.pick] at h
    obtain rfl := Option.some.inj h
    omega
  | n + 1, acc, i, out, h => by
    rw [place_Targets.pick] at h
    obtain ⟨b, _, h⟩ := Option.bind_eq_some_iff.mp h
    split at h
    · obtain ⟨c, _, h⟩ := Option.bind_eq_some_iff.mp h
      split at h
      · have := place_Targets.pick_len k l0 l2 n _ _ out h; omega
      · have := place_Targets.pick_len k l0 l2 n _ _ out h
        rw [List.length_append, List.length_singleton] at this
        omega
    · have := place_Targets.pick_len k l0 l2 n _ _ out h; omega
theorem clos_lays {k gb c0 blk size : Nat} {A0 : Option Addr} {l0 : List S26} {w1 w2 : World} (hB : RowKit.Below w1.heap.size w1 w2) (hbg : w1.heap.size ≤ blk) (hl : 0 < l0.length) (hbox : w1.cell? ⟨gb, 0, none⟩ = some (.slice A0 l0.length c0)) (hC : Kd.C k26 w1 A0 l0.length l0)
    (hall : ∀ x, x < l0.length → ∀ y, y < l0.length → (place_Targets.ord k l0 ((x : Nat) : Int) ((y : Nat) : Int)).isSome = true) : CmpLays1 Try.prog 21 #[.pointer (some ⟨gb, 0, none⟩)] (encL l0.length) (place_Targets.cmp k l0) blk 0 size w2 := by
  intro m os dk _ x y
  have hb2 := Lib.below_putRow (enc := encL l0.length) (q := m) (d := dk) hB hbg
  have hb3 : RowKit.Below w1.heap.size w1 (sortWorld (encL l0.length) w2 blk 0 m dk os) := hb2.trans ⟨rfl, rfl, rfl, by simp [sortWorld, grow], fun k hk => heap_grow_old _ _ (Nat.lt_of_lt_of_le hk hb2.size)⟩
  have hx := Nat.mod_lt x hl
  have hy := Nat.mod_lt y hl
  have e : place_Targets.ord k l0 ((x % l0.length : Nat) : Int) ((y % l0.length : Nat) : Int) = some (place_Targets.cmp k l0 x y) := by
    have := hall _ hx _ hy
    unfold place_Targets.cmp
    exact (Option.some_get this).symm.trans (by rw [Option.getD_eq_iff.2 (Or.inl (Option.some_get this).symm)])
  exact clos_gro k gb c0 A0 l0 _ _ _ _ ((hb3.cell (World.block_lt_of_cell? w1 _ hbox)).trans hbox) (Kd.C_below hC hb3) (by omega) (by omega) (by omega) (by omega) e
theorem place_Targets.rows (n : Nat) (out : List Int) (h : ∀ x ∈ out, 0 ≤ x ∧ x < (n : Int)) : (out.map Int.toNat).map (encL n) = out.map (Value.int .i64) := by
  rw [List.map_map]
  refine List.map_congr_left (fun x hx => ?_)
  obtain ⟨h0, h1⟩ := h x hx
  show Value.int .i64 ((x.toNat % n : Nat) : Int) = Value.int .i64 x
  rw [Nat.mod_eq_of_lt (by omega), Int.toNat_of_nonneg h0]
/-- behind the sort the same slice holds the sorted row -/
theorem place_Targets.own {w w1 w2 : World} {g cap n N : Nat} {ys zs : List Nat} {inner : List Value} (hB : RowKit.Below w.heap.size w w1) (ho : w1.ownsRow w.heap.size 3 1 (.slice (some ⟨g, 0, none⟩) n cap) n inner) (hi : inner = zs.map (encL N)) (hg : g < w1.heap.size) (hbg : w.heap.size ≤ g) (hy : ys.length = n)
    (hS : SW (encL N) w1 g 0 ys.toArray w2) : Kd.R (Kd.int .i64) 3 w2 w.heap.size (fun _ => True) (.slice (some ⟨g, 0, none⟩) n cap) (ys.map fun y => ((y % N : Nat) : Int)) ∧ RowKit.Below w.heap.size w w2 := by
  obtain ⟨m, os, rfl⟩ := hS
  subst hi
  have hp := Lib.ownsRow_putRow (q := m) (k := n) ho hy (Nat.le_refl _)
  rw [List.take_of_length_le (by omega)] at hp
  have hsz : g < (putRow (encL N) (Go.Sort.ahead w1 m) g 0 ys.toArray).heap.size := by rw [size_putRow]; exact hg
  have hm := own_move (w1 := sortWorld (encL N) w1 g 0 m ys.toArray os) hp (fun k hk => by
    have hk' : g = k := by simpa [Value.ownBlock] using hk
    subst hk'
    exact heap_grow_old _ _ hsz)
  have e : ys.map (encL N) = (ys.map fun y => ((y % N : Nat) : Int)).map (Value.int .i64) := by
    rw [List.map_map]
    rfl
  rw [e] at hm
  have hl : (ys.map fun y => ((y % N : Nat) : Int)).length = n := by rw [List.length_map, hy]
  refine ⟨⟨fun _ _ => trivial, _, by rw [hl]; exact hm, Kd.reps_scalar (ys.map fun y => ((y % N : Nat) : Int))⟩, ?_⟩
  have hb2 := Lib.below_putRow (enc := encL N) (q := m) (d := ys.toArray) hB hbg
  refine hb2.trans ⟨rfl, rfl, rfl, by simp [sortWorld, grow], fun k hk => ?_⟩
  exact heap_grow_old _ _ (Nat.lt_of_lt_of_le hk (Nat.le_trans hb2.size (by omega)))
set_option maxHeartbeats 8000000 in
set_option maxRecDepth 100000 in
theorem place_Targets.calls (A0 : Option Addr) (c0 : Nat) (l0 : List (S26)) (a1 : Int) (A2 : Option Addr) (c2 : Nat) (l2 : List Int) (r : List Int) (w : World) (hr0 : Kd.C k26 w A0 l0.length l0) (hc0 : l0.length ≤ c0) (hr2 : Kd.C (Kd.int .i64) w A2 l2.length l2) (hc2 : l2.length ≤ c2) (h : place_Targets.f l0 a1 l2 = some r) :
    Calls Try.prog 10 #[.slice A0 l0.length c0, .int .i64 a1, .slice A2 l2.length c2] w fun e w' => ∃ v0_ : Value, e = .returned (v0_) ∧ Kd.R (Kd.int .i64) 3 w' w.heap.size (fun _ => True) v0_ r ∧ RowKit.Below w.heap.size w w' := by
  have hu26 := Try.underlying26
  have HR0 := Aside0.mk hr0
  have HC2 := Aside0.mk hc2
  have HR2 := Aside0.mk hr2
  clear hr0 hc0 hr2 hc2
  have HB := Aside0.mk (RowKit.Below.refl w.heap.size w)
  unfold place_Targets.f at h
  by_cases hok : l0.length < 17592186044416 ∧ (∀ x, x < l0.length → ∀ y, y < l0.length → (place_Targets.ord (place_Targets.fuel l2) l0 ((x : Nat) : Int) ((y : Nat) : Int)).isSome = true)
  · rw [if_pos hok] at h
    obtain ⟨out, hp, h⟩ := Option.bind_eq_some_iff.mp h
    obtain rfl := Option.some.inj h
    have HL := Aside0.mk hok.1
    have HALL := Aside0.mk hok.2
    have HP := Aside0.mk hp
    clear hok h hp
    generalize hk : place_Targets.fuel l2 = k at HALL HP ⊢
    clear hk
    go_enter Try.func10, Try.ntmps10
    go_wp2_with ((with_reducible refine gate_dst (N := 3) rfl ?_); refine box_event ?hg (N := 3) ?hd (cs := #[.slice A0 l0.length c0]) (t := 22) ?hr ?_; (case hd => rfl); (case hg => rfl); (case hr => first | (go_simp; done) | (go_simp; rfl)); intro gb hg w10 hbox hb; have n0_ := Aside0.mk hb; have hcx : w10.cell? ⟨gb, 0, none⟩ = some (.slice A0 l0.length c0) := (blk_cell hbox 0).trans rfl; clear HB; have HB0 := n0_; clear n0_; clear hb hbox hg)
    have HRw := Aside0.mk (Kd.C_below HR0.out HB0.out)
    have HR2w := Aside0.mk (Kd.C_below HR2.out HB0.out)
    have HCX := Aside0.mk hcx
    clear HR0 HR2 hcx
    have HRG := Aside0.mk (place_Targets.pick_in k l0 l2 l0.length [] 0 out HP.out (by omega) (by omega) (by simp))
    have eg : ∀ args w, (callFunc 21 args).run Try.prog w = .ok (.enter 21 args) w := enters_of Try.func21 (by kernel_rfl) rfl
    go_loopg [7, 11] l0.length (fun kq v7 v11 w' => ∃ (x7 : List Int) (x11 : Int), v11 = .int .i64 x11 ∧ Aside0 (x11 + kq = l0.length ∧ 0 ≤ x11 ∧ x7.length + kq ≤ l0.length) ∧ Aside0 (place_Targets.pick k l0 l2 kq x7 x11 = some out) ∧ Aside0 (Kd.R (Kd.int .i64) 3 w' w10.heap.size (fun _ => True) v7 x7) ∧ Aside0 (RowKit.Below w10.heap.size w10 w'))
    case atStart => exact ⟨[], 0, rfl, ⟨by omega, by omega, by simp⟩, HP, ⟨Kd.R_nil _ _ _ _ _⟩, ⟨RowKit.Below.refl _ _⟩⟩
    case round =>
      clear HP
      obtain ⟨x7, x11, rfl, HI, HA, HO, HB⟩ := hrel
      cases gk with
      | zero =>
        have c0b : decide (x11 < (l0.length : Int)) = false := decide_eq_false (by have := HI.out; omega)
        have eo : x7 = out := by
          have := HA.out
          rw [place_Targets.pick] at this
          exact Option.some.inj this
        subst eo
        obtain ⟨Ao, co, eov⟩ := Kd.R_slice HO.out
        subst eov
        obtain ⟨jm, hjm⟩ : ∃ j_ : Int, mx a1 0 = j_ := ⟨_, rfl⟩
        have hjm0 : 0 ≤ jm := by rw [← hjm]; unfold mx; split <;> omega
        have hjm_ : (if a1 < 0 then 0 else a1) = jm := hjm
        obtain ⟨jn, hjn⟩ : ∃ j_ : Int, mn (x7.length : Int) jm = j_ := ⟨_, rfl⟩
        have hjn_ : (if jm < (x7.length : Int) then jm else (x7.length : Int)) = jn := hjn
        have hj0 : 0 ≤ jn := by rw [← hjn_]; split <;> omega
        have hj1 : jn ≤ (x7.length : Int) := by rw [← hjn_]; split <;> omega
        have HJE : Aside0 (mn (x7.length : Int) (mx a1 0) = jn) := ⟨by rw [hjm, hjn]⟩
        obtain ⟨i0, hi0, _, hsz, _⟩ := info_parts info3
        have hcut := cut_to (P := Try.prog) 23 3 .i64 Try.underlying23 hi0 Ao x7.length co jn hj0 hj1 (Kd.R_reads' HO.out).2.1
        have fin : ∀ w2, Kd.R (Kd.int .i64) 3 w2 w10.heap.size (fun _ => True) (.slice Ao x7.length co) (place_Targets.sorted k l0 x7) → RowKit.Below w10.heap.size w10 w2 → (place_Targets.sorted k l0 x7).length = x7.length → Kd.R (Kd.int .i64) 3 w2 w.heap.size (fun _ => True) (.slice Ao jn.toNat co) ((place_Targets.sorted k l0 x7).take jn.toNat) ∧ RowKit.Below w.heap.size w w2 :=
          fun w2 h1 h2 h3 => ⟨Kd.R_lower (Kd.R_take h1 (by omega)) (below_size HB0.out), below_step HB0.out h2⟩
        have hlen : (place_Targets.sorted k l0 x7).length = x7.length := by unfold place_Targets.sorted; rw [List.length_map, Array.length_toList, St.stab_size]; simp
        have FIN := Aside0.mk fin
        have HLEN := Aside0.mk hlen
        clear fin hlen hsz hjm hjn hjm0
        replace hj0 := eq_true hj0
        replace hj1 := eq_true hj1
        go_wp2_with (first | (go_at_call 20; fail))
        by_cases h0 : x7.length = 0
        · have e0 : x7 = [] := List.eq_nil_of_length_eq_zero h0
          have es : place_Targets.sorted k l0 x7 = [] := List.eq_nil_of_length_eq_zero (by rw [HLEN.out, h0])
          have hO : Kd.R (Kd.int .i64) 3 wr w10.heap.size (fun _ => True) (.slice Ao x7.length co) (place_Targets.sorted k l0 x7) := by rw [es]; exact e0 ▸ HO.out
          have hs0 : Calls Try.prog 20 #[.slice Ao x7.length co, .func (.func 21) #[] #[.pointer (some ⟨gb, 0, none⟩)]] wr fun e w' => e = .returned (.tuple #[]) ∧ w' = wr := by rw [h0]; exact st_sort0 Ao co 21 #[.pointer (some ⟨gb, 0, none⟩)] wr
          have ej : jn = 0 := by have h1 := of_eq_true hj0; have h2 := of_eq_true hj1; omega
          have hres := FIN.out wr hO HB.out HLEN.out
          rw [ej] at hres
          replace hres := Aside0.mk hres
          have EJ := Aside0.mk ej
          clear ej
          have HS0 := Aside0.mk hs0
          clear hO hs0
          go_at_call 20
          refine HS0.out.mono ?_
          rintro e w2 ⟨rfl, rfl⟩
          go_wp2
          go_ret
          exact ⟨_, rfl, by rw [HJE.out, EJ.out]; exact hres.out.1, hres.out.2⟩
        · obtain ⟨_, inner, hown, hrep⟩ := HO.out
          have hi := reps_down (enc := Value.int .i64) x7 inner (hrep.imp_ (fun _ _ h => h))
          subst hi
          have hrows := place_Targets.rows l0.length x7 HRG.out
          rw [← hrows] at hown
          obtain ⟨g, cap, hv, hbg, hg, hn, hm, _, hH⟩ := Lib.holds_of_ownsRow hown (by intro e; injection e with _ e; exact h0 e)
          injection hv with hv1 _ hv3
          subst hv1 hv3
          have hl0 : 0 < l0.length := by have := HI.out; omega
          have hsort := st_sort 21 #[.pointer (some ⟨gb, 0, none⟩)] (place_Targets.cmp k l0) g 0 co x7.length (x7.map Int.toNat).toArray wr eg (clos_lays HB.out hbg hl0 HCX.out HRw.out HALL.out) ⟨fun _ => rfl, hH, hg⟩ (by simp) (by have := HI.out; have := HL.out; omega)
          have HS := Aside0.mk hsort
          have HH := Aside0.mk hown
          clear hsort hown hH hrep hrows
          go_at_call 20
          refine HS.out.mono ?_
          rintro e w2 ⟨rfl, hS⟩
          have hfin := place_Targets.own (ys := (St.stab (ltOf (place_Targets.cmp k l0)) x7.length (x7.map Int.toNat).toArray).toList) HB.out HH.out rfl hg hbg (by rw [Array.length_toList, St.stab_size]; simp) hS
          have hres := Aside0.mk (FIN.out w2 hfin.1 hfin.2 HLEN.out)
          clear hS HS hfin
          go_wp2
          go_ret
          exact ⟨_, rfl, by rw [HJE.out]; exact hres.out.1, hres.out.2⟩
      | succ k1 =>
        obtain ⟨i1, i2, i3⟩ := HI.out
        have H := HA.out
        clear HA
        rw [place_Targets.pick] at H
        obtain ⟨b, A1, H⟩ := Option.bind_eq_some_iff.mp H
        have A1 := Aside0.mk A1
        have c0b : decide (x11 < (l0.length : Int)) = true := decide_eq_true (by omega)
        obtain ⟨ad, rfl, y0, y1, y2⟩ := at_T26 HRw.out x11 i2 (by omega)
        replace y0 := (HB.out.cell (World.block_lt_of_cell? w10 _ y0)).trans y0
        replace y1 := (HB.out.cell (World.block_lt_of_cell? w10 _ y1)).trans y1
        replace y2 := (HB.out.cell (World.block_lt_of_cell? w10 _ y2)).trans y2
        have hcx := (HB.out.cell (World.block_lt_of_cell? w10 _ HCX.out)).trans HCX.out
        have p0 := eq_true i2
        have p1 : (x11 < (l0.length : Int)) = True := eq_true (by omega)
        cases b with
        | false =>
          rw [if_neg (by decide)] at H
          have H' := Aside0.mk H
          clear H
          go_wp2_with (((with_reducible refine gate_callee (f := 15) rfl ?_); refine goesL_ (some 18) rfl rfl Try.func15 (by kernel_rfl) rfl #[.agg #[.float .f64 ((rd_T26 l0 x11).f0), .float .f64 ((rd_T26 l0 x11).f1), .float .f64 ((rd_T26 l0 x11).f2)]] rfl (by (try simp only [List.map_toArray, List.map_cons, List.map_nil]); first | done | rfl) ?_; (with_reducible refine (place_Fit.calls k ((rd_T26 l0 x11).f0) ((rd_T26 l0 x11).f1) ((rd_T26 l0 x11).f2) false _ A1.out).mono ?_); rintro e w7 ⟨rfl, hb⟩; refine ⟨_, rfl, ?_⟩; have n0_ := Aside0.mk (Kd.R_below (by (with_reducible repeat (first | apply Kd.R_alloc | apply Kd.R_drewN | apply Kd.R_drew)); exact HO.out) hb); have n1_ := Aside0.mk (below_step (by repeat (first | (with_reducible first | exact HB.out | apply below_alloc | apply pw_below_drewN | apply below_drew1) | exact HB.out)) hb); clear HO; clear HB; have HO := n0_; have HB := n1_; clear n0_ n1_; (try clear hb)))
          go_roundg k1
          case measure => omega
          case rel => exact ⟨x7, x11 + 1, by first | rfl | (rw [show wrap64 (x11 + 1) = x11 + 1 by unfold wrap64; have := HL.out; omega]), ⟨by have := HI.out; first | omega | (simp only [List.length_append, List.length_singleton]; omega)⟩, H', ⟨(by (with_reducible repeat (first | apply Kd.R_alloc | apply Kd.R_drewN | apply Kd.R_drew)); exact HO.out)⟩, ⟨(by repeat (first | (with_reducible first | exact HB.out | apply below_alloc | apply pw_below_drewN | apply below_drew1) | exact HB.out))⟩⟩
        | true =>
          rw [if_pos rfl] at H
          obtain ⟨c, A2', H⟩ := Option.bind_eq_some_iff.mp H
          have A2' := Aside0.mk A2'
          cases c with
          | true =>
            rw [if_pos rfl] at H
            have H' := Aside0.mk H
            clear H
            go_wp2_with (first | ((with_reducible refine gate_callee (f := 15) rfl ?_); refine goesL_ (some 18) rfl rfl Try.func15 (by kernel_rfl) rfl #[.agg #[.float .f64 ((rd_T26 l0 x11).f0), .float .f64 ((rd_T26 l0 x11).f1), .float .f64 ((rd_T26 l0 x11).f2)]] rfl (by (try simp only [List.map_toArray, List.map_cons, List.map_nil]); first | done | rfl) ?_; (with_reducible refine (place_Fit.calls k ((rd_T26 l0 x11).f0) ((rd_T26 l0 x11).f1) ((rd_T26 l0 x11).f2) true _ A1.out).mono ?_); rintro e w7 ⟨rfl, hb⟩; refine ⟨_, rfl, ?_⟩; have n0_ := Aside0.mk (Kd.R_below (by (with_reducible repeat (first | apply Kd.R_alloc | apply Kd.R_drewN | apply Kd.R_drew)); exact HO.out) hb); have n1_ := Aside0.mk (below_step (by repeat (first | (with_reducible first | exact HB.out | apply below_alloc | apply pw_below_drewN | apply below_drew1) | exact HB.out)) hb); clear HO; clear HB; have HO := n0_; have HB := n1_; clear n0_ n1_; (try clear hb)) | (go_at_call 19; (refine (slices_Contains_int_int.calls k A2 c2 l2 x11 true _ (Kd.C_below HR2w.out (by repeat (first | (with_reducible first | exact HB.out | apply below_alloc | apply pw_below_drewN | apply below_drew1) | exact HB.out))) HC2.out A2'.out).mono ?_); rintro e w' ⟨rfl, ⟨nd, rfl⟩⟩))
            go_roundg k1
            case measure => omega
            case rel => exact ⟨x7, x11 + 1, by first | rfl | (rw [show wrap64 (x11 + 1) = x11 + 1 by unfold wrap64; have := HL.out; omega]), ⟨by have := HI.out; first | omega | (simp only [List.length_append, List.length_singleton]; omega)⟩, H', ⟨(by (with_reducible repeat (first | apply Kd.R_alloc | apply Kd.R_drewN | apply Kd.R_drew)); exact HO.out)⟩, ⟨(by repeat (first | (with_reducible first | exact HB.out | apply below_alloc | apply pw_below_drewN | apply below_drew1) | exact HB.out))⟩⟩
          | false =>
            rw [if_neg (by decide)] at H
            have H' := Aside0.mk H
            clear H
            go_wp2_with (first | ((with_reducible refine gate_callee (f := 15) rfl ?_); refine goesL_ (some 18) rfl rfl Try.func15 (by kernel_rfl) rfl #[.agg #[.float .f64 ((rd_T26 l0 x11).f0), .float .f64 ((rd_T26 l0 x11).f1), .float .f64 ((rd_T26 l0 x11).f2)]] rfl (by (try simp only [List.map_toArray, List.map_cons, List.map_nil]); first | done | rfl) ?_; (with_reducible refine (place_Fit.calls k ((rd_T26 l0 x11).f0) ((rd_T26 l0 x11).f1) ((rd_T26 l0 x11).f2) true _ A1.out).mono ?_); rintro e w7 ⟨rfl, hb⟩; refine ⟨_, rfl, ?_⟩; have n0_ := Aside0.mk (Kd.R_below (by (with_reducible repeat (first | apply Kd.R_alloc | apply Kd.R_drewN | apply Kd.R_drew)); exact HO.out) hb); have n1_ := Aside0.mk (below_step (by repeat (first | (with_reducible first | exact HB.out | apply below_alloc | apply pw_below_drewN | apply below_drew1) | exact HB.out)) hb); clear HO; clear HB; have HO := n0_; have HB := n1_; clear n0_ n1_; (try clear hb)) | (go_at_call 19; (refine (slices_Contains_int_int.calls k A2 c2 l2 x11 false _ (Kd.C_below HR2w.out (by repeat (first | (with_reducible first | exact HB.out | apply below_alloc | apply pw_below_drewN | apply below_drew1) | exact HB.out))) HC2.out A2'.out).mono ?_); rintro e w' ⟨rfl, ⟨nd, rfl⟩⟩) | ((with_reducible refine gate_builtin (b := .append) (xs := #[.tmp 25, .tmp 27]) rfl ?_); at_builtin; refine Kd.R_append (Kd.int .i64) (w0 := w10) w10.heap.size rfl (.tmp 25) (.tmp 27) 23 3 (.int .i64 0) 8 rfl Try.underlying23 info3 rfl (by decide) (by omega) _ x7 x11 [.int .i64 x11] (fun _ => True) (fun _ => False) rfl rfl ?aP (fun _ hk => hk.elim) ?aF ?aO ?aB ?aS ?aL ?_; (case aP => exact rfl); (case aB => exact (by repeat (first | (with_reducible first | exact HB.out | apply below_alloc | apply pw_below_drewN | apply below_drew1) | exact HB.out))); (case aF => exact (fun _ _ => trivial)); (case aO => exact (by (with_reducible repeat (first | apply Kd.R_alloc | apply Kd.R_drewN | apply Kd.R_drew)); exact HO.out)); (case aS => exact (below_size (by repeat (first | (with_reducible first | exact HB.out | apply below_alloc | apply pw_below_drewN | apply below_drew1) | exact HB.out)))); (case aL => have := HL.out; omega); intro v190 w36 ho hb hg hat; have n1_ := Aside0.mk hb; have n3_ := Aside0.mk ho; clear HO; clear HB; have HB := n1_; have HO := n3_; clear n1_ n3_; clear ho hb hg hat))
            go_roundg k1
            case measure => omega
            case rel => exact ⟨x7 ++ [x11], x11 + 1, by first | rfl | (rw [show wrap64 (x11 + 1) = x11 + 1 by unfold wrap64; have := HL.out; omega]), ⟨by have := HI.out; first | omega | (simp only [List.length_append, List.length_singleton]; omega)⟩, H', ⟨(by (with_reducible repeat (first | apply Kd.R_alloc | apply Kd.R_drewN | apply Kd.R_drew)); exact HO.out)⟩, ⟨(by repeat (first | (with_reducible first | exact HB.out | apply below_alloc | apply pw_below_drewN | apply below_drew1) | exact HB.out))⟩⟩
  · rw [if_neg hok] at h
    cases h
end

end Go.Proofs.Ytnkihggdohigiaa.P
