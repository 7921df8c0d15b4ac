/- The Go functions of this seat as plain Lean functions, and for each the proof that its call gives what the plain function gives. Printed by a program of this session. -/
import Derived.Test.YtjailboidlmadaaPx0
namespace Go.Proofs.Ytjailboidlmadaa.P
open Go.RowKit Go.Proofs.YtjailboidlmadaaW.PrintWords Go.Proofs.YtjailboidlmadaaW.PrintLast Go.Proofs.YtjailboidlmadaaW.PrintMore
attribute [local go_sem] max2_int min2_int max_two min_two max_three min_three max_four min_four   -- for this text's walks alone
set_option linter.unusedVariables false
set_option linter.unusedSimpArgs false

/-! ### edit_Right: function 22 -/
/-- does a number lie between two others? -/
def inB (n lo hi : Int) : Bool := decide (lo ≤ n ∧ n ≤ hi)
/-- a length that may not be -/
def isOdd (n : Int) : Bool := !(decide (0 ≤ n ∧ n ≤ 9007199254740991))
def rLeast (k : Int) : Int := if k = 7 then -1 else 0
def rMost (k : Int) : Int := if k = 7 ∨ k = 8 ∨ k = 9 then 9007199254740991 else 0
/-- may it be an edit? -/
def rightB (k : Int) (p t : ByteArray) (c q n : Int) (l : List Int) : Bool :=
 decide (1 ≤ k ∧ k ≤ 10) && !(decide (120 < p.size ∨ 120 < t.size ∨ (k ≠ 4 ∧ t.toList ≠ []))) && !(decide ((k ≠ 5 ∧ k ≠ 6 ∧ 0 < l.length) ∨ 8 < l.length)) && decide ((0 ≤ c ∧ c ≤ 3) ∧ (0 ≤ q ∧ q ≤ 9007199254740991) ∧ (rLeast k ≤ n ∧ n ≤ rMost k)) && !(l.any isOdd)
def edit_Right.f (a0_0 : Int) (a0_1 : ByteArray) (a0_2 : ByteArray) (a0_3 : Int) (a0_4 : Int) (a0_5 : Int) (l0_6 : List Int) : Option Bool := some (rightB a0_0 a0_1 a0_2 a0_3 a0_4 a0_5 l0_6)
set_option maxHeartbeats 4000000 in
theorem in_calls (n lo hi : Int) (w : World) : Calls Try.prog 34 #[.int .i64 n, .int .i64 lo, .int .i64 hi] w fun e w' => e = .returned (.bool (decide (lo ≤ n ∧ n ≤ hi))) ∧ w' = w := by
 by_cases c1 : lo ≤ n
 ·
  have c1b : decide (lo ≤ n) = true := decide_eq_true c1
  by_cases c2 : n ≤ hi
  ·
   rw [decide_eq_true (show lo ≤ n ∧ n ≤ hi from ⟨c1, c2⟩)]
   have c2b : decide (n ≤ hi) = true := decide_eq_true c2
   clear c1 c2
   go_enter Try.func34, Try.ntmps34
   go_wp2
   go_ret
   exact ⟨rfl, rfl⟩
  ·
   rw [decide_eq_false (show ¬ (lo ≤ n ∧ n ≤ hi) from fun h => c2 h.2)]
   have c2b : decide (n ≤ hi) = false := decide_eq_false c2
   clear c1 c2
   go_enter Try.func34, Try.ntmps34
   go_wp2
   go_ret
   exact ⟨rfl, rfl⟩
 ·
  rw [decide_eq_false (show ¬ (lo ≤ n ∧ n ≤ hi) from fun h => c1 h.1)]
  have c1b : decide (lo ≤ n) = false := decide_eq_false c1
  clear c1
  go_enter Try.func34, Try.ntmps34
  go_wp2
  go_ret
  exact ⟨rfl, rfl⟩
theorem inb_calls (n lo hi : Int) (w : World) : Calls Try.prog 34 #[.int .i64 n, .int .i64 lo, .int .i64 hi] w fun e w' => e = .returned (.bool (inB n lo hi)) ∧ w' = w := in_calls n lo hi w
set_option maxHeartbeats 4000000 in
theorem odd_calls (n : Int) (b : Nat) (w : World) (hb : w.cell? ⟨b, 0, none⟩ = some (.func (.func 34) #[] #[])) :
  Calls Try.prog 35 #[.int .i64 n, .pointer (some ⟨b, 0, none⟩)] w fun e w' => e = .returned (.bool (isOdd n)) ∧ w' = w := by
 have T := in_calls n 0 9007199254740991 w
 unfold isOdd
 cases hv : decide (0 ≤ n ∧ n ≤ 9007199254740991) with
 | true =>
  rw [hv] at T
  clear hv
  go_enter Try.func35, Try.ntmps35
  go_wp2_with (go_at_call 34; refine T.mono ?_; rintro e w' ⟨rfl, rfl⟩)
  go_ret
  exact ⟨rfl, rfl⟩
 | false =>
  rw [hv] at T
  clear hv
  go_enter Try.func35, Try.ntmps35
  go_wp2_with (go_at_call 34; refine T.mono ?_; rintro e w' ⟨rfl, rfl⟩)
  go_ret
  exact ⟨rfl, rfl⟩
set_option maxHeartbeats 4000000 in
theorem idx_calls (A : Option Addr) (c : Nat) (l : List Int) (b : Nat) (w : World) (hr : Kd.C (Kd.int .i64) w A l.length l) (hl : (l.length : Int) ≤ 9223372036854775807) (hb : w.cell? ⟨b, 0, none⟩ = some (.func (.func 34) #[] #[])) :
  Calls Try.prog 41 #[.slice A l.length c, .func (.func 35) #[] #[.pointer (some ⟨b, 0, none⟩)]] w fun e w' => (∃ i : Int, e = .returned (.int .i64 i) ∧ decide (0 ≤ i) = l.any isOdd) ∧ w' = w := by
 have HR := Aside0.mk hr
 have HL := Aside0.mk hl
 clear hr hl
 have T := fun n => odd_calls n b w hb
 go_enter Try.func41, Try.ntmps41
 go_wp2
 go_loopg [8] (l.length + 1) (fun gq i w' => ∃ k : Nat, k ≤ l.length ∧ i = .int .i64 k ∧ (l.take k).any isOdd = false ∧ Aside0 (gq + k = l.length + 1) ∧ w = w')
 case atStart => exact ⟨0, Nat.zero_le _, rfl, rfl, ⟨rfl⟩, rfl⟩
 case round =>
  obtain ⟨k, hk, rfl, hno, HG, rfl⟩ := hrel
  have HN := Aside0.mk hno
  clear hno
  by_cases hlt : k < l.length
  ·
   obtain ⟨ad, e1, hx⟩ := Kd.at_int HR.out (k : Int) (by omega) (by omega)
   cases e1
   have hx' : w.cell? (ad.add k) = some (.int .i64 (rd l (k : Int))) := by simpa using hx
   have p1 := eq_true (show (0 : Int) ≤ (k : Int) by omega)
   have p2 := eq_true (show (k : Int) < (l.length : Int) by omega)
   have p3 := eq_true hlt
   have HT := Aside0.mk hlt
   have hs : (l.take (k + 1)).any isOdd = isOdd (rd l (k : Int)) := by
    rw [List.take_succ_eq_append_getElem hlt, List.any_append, HN.out]
    unfold rd
    rw [List.getD_eq_getElem?_getD, Int.toNat_natCast, List.getElem?_eq_getElem hlt]
    simp
   have HS := Aside0.mk hs
   clear hs
   cases hodd : isOdd (rd l (k : Int)) with
   | true =>
    have HO := Aside0.mk (show l.any isOdd = true by
     rw [hodd] at HS
     have := HS.out
     rw [List.any_eq_true] at this ⊢
     obtain ⟨x, hx, hy⟩ := this
     exact ⟨x, List.mem_of_mem_take hx, hy⟩)
    have T1 := T (rd l (k : Int))
    rw [hodd] at T1
    go_wp2_with (go_at_call 35; refine T1.mono ?_; rintro e w' ⟨rfl, rfl⟩)
    go_ret
    exact ⟨⟨_, rfl, by rw [HO.out]; exact decide_eq_true (by omega)⟩, rfl⟩
   | false =>
    have T1 := T (rd l (k : Int))
    rw [hodd] at T1 HS
    go_wp2_with (go_at_call 35; refine T1.mono ?_; rintro e w' ⟨rfl, rfl⟩)
    have hw : wrap64 ((k : Int) + 1) = (k : Int) + 1 := by unfold wrap64; have := HL.out; have := HT.out; omega
    go_roundg (gk - 1)
    case measure => have := HT.out; have := HG.out; omega
    case rel => exact ⟨k + 1, HT.out, congrArg (Value.int .i64) hw, HS.out, ⟨by have := HT.out; have := HG.out; omega⟩, rfl⟩
  ·
   obtain rfl : k = l.length := by omega
   go_wp2
   go_ret
   exact ⟨⟨_, rfl, by have := HN.out; rw [List.take_length] at this; rw [this]; rfl⟩, rfl⟩
set_option maxHeartbeats 4000000 in
theorem cont_calls (A : Option Addr) (c : Nat) (l : List Int) (b : Nat) (w : World) (hr : Kd.C (Kd.int .i64) w A l.length l) (hl : (l.length : Int) ≤ 9223372036854775807) (hb : w.cell? ⟨b, 0, none⟩ = some (.func (.func 34) #[] #[])) :
  Calls Try.prog 36 #[.slice A l.length c, .func (.func 35) #[] #[.pointer (some ⟨b, 0, none⟩)]] w fun e w' => e = .returned (.bool (l.any isOdd)) ∧ w' = w := by
 have T := idx_calls A c l b w hr hl hb
 clear hr hl hb
 obtain ⟨b0, hb0⟩ : ∃ b0, l.any isOdd = b0 := ⟨_, rfl⟩
 rw [hb0] at T ⊢
 clear hb0
 go_enter Try.func36, Try.ntmps36
 go_wp2_with (go_at_call 41; fail)
 go_at_call 41
 refine T.mono ?_
 rintro e w' ⟨⟨i, rfl, hi⟩, rfl⟩
 go_wp2
 go_ret
 exact ⟨rfl, rfl⟩
set_option maxHeartbeats 16000000 in
set_option maxRecDepth 100000 in
theorem edit_Right.calls (a0_0 : Int) (a0_1 : ByteArray) (a0_2 : ByteArray) (a0_3 : Int) (a0_4 : Int) (a0_5 : Int) (A0_6 : Option Addr) (c0_6 : Nat) (l0_6 : List Int) (r : Bool) (w : World) (hr0_6 : Kd.C (Kd.int .i64) w A0_6 l0_6.length l0_6) (hc0_6 : l0_6.length ≤ c0_6) (h : edit_Right.f a0_0 a0_1 a0_2 a0_3 a0_4 a0_5 l0_6 = some r) :
  Calls Try.prog 22 #[.agg #[.int .i64 a0_0, .string a0_1, .string a0_2, .int .i64 a0_3, .int .i64 a0_4, .int .i64 a0_5, .slice A0_6 l0_6.length c0_6]] w fun e w' => e = .returned (.bool r) ∧ Below w.heap.size w w' := by
 have hr := Aside0.mk (Option.some.inj h)
 clear h
 have HR := Aside0.mk hr0_6
 clear hr0_6 hc0_6
 have W0 := ∀ x : Nat, x = x
 have HB := Aside0.mk (below_alloc (below_alloc (Below.refl w.heap.size w) (.cells #[.int .i64 a0_0, .string a0_1, .string a0_2, .int .i64 a0_3, .int .i64 a0_4, .int .i64 a0_5, .slice A0_6 l0_6.length c0_6] 28)) (.cells #[.func (.func 34) #[] #[]] 82))
 go_enter Try.func22, Try.ntmps22
 go_upto_block 0 with (fail)
 go_cut [4, 5] (fun v4 v5 wc => (1 ≤ a0_0 ∧ a0_0 ≤ 10) ∧ v4 = .int .i64 (rLeast a0_0) ∧ v5 = .int .i64 (rMost a0_0) ∧ wc = ((w.alloc (.cells #[.int .i64 a0_0, .string a0_1, .string a0_2, .int .i64 a0_3, .int .i64 a0_4, .int .i64 a0_5, .slice A0_6 l0_6.length c0_6] 28)).alloc (.cells #[.func (.func 34) #[] #[]] 82)))
 case first =>
  rcases (show a0_0 = 7 ∨ a0_0 = 8 ∨ a0_0 = 9 ∨ a0_0 = 1 ∨ a0_0 = 2 ∨ a0_0 = 3 ∨ a0_0 = 4 ∨ a0_0 = 5 ∨ a0_0 = 6 ∨ a0_0 = 10 ∨ (a0_0 < 1 ∨ 10 < a0_0) by omega) with rfl | rfl | rfl | rfl | rfl | rfl | rfl | rfl | rfl | rfl | hk
  iterate 10
   ·
    go_wp2
    go_meet
    case rel => exact ⟨by decide, rfl, rfl, rfl⟩
  ·
   have hB := Aside0.mk HB.out
   have hf : r = false := by
    rw [← hr.out, rightB, decide_eq_false (show ¬ (1 ≤ a0_0 ∧ a0_0 ≤ 10) by omega)]
    rfl
   subst hf
   have e1 : (a0_0 == 1) = false := beq_eq_false_iff_ne.mpr (by omega)
   have e2 : (a0_0 == 2) = false := beq_eq_false_iff_ne.mpr (by omega)
   have e3 : (a0_0 == 3) = false := beq_eq_false_iff_ne.mpr (by omega)
   have e4 : (a0_0 == 4) = false := beq_eq_false_iff_ne.mpr (by omega)
   have e5 : (a0_0 == 5) = false := beq_eq_false_iff_ne.mpr (by omega)
   have e6 : (a0_0 == 6) = false := beq_eq_false_iff_ne.mpr (by omega)
   have e7 : (a0_0 == 7) = false := beq_eq_false_iff_ne.mpr (by omega)
   have e8 : (a0_0 == 8) = false := beq_eq_false_iff_ne.mpr (by omega)
   have e9 : (a0_0 == 9) = false := beq_eq_false_iff_ne.mpr (by omega)
   have e10 : (a0_0 == 10) = false := beq_eq_false_iff_ne.mpr (by omega)
   clear hk
   go_wp2
   go_ret
   exact ⟨rfl, hB.out⟩
 case rest =>
  obtain ⟨hk, rfl, rfl, rfl⟩ := hcut
  have HK := Aside0.mk hk
  clear hk
  go_upto_region 17 with (fail)
  go_cut [41] (fun v41 wc => v41 = .bool (decide (120 < a0_1.size ∨ 120 < a0_2.size ∨ (a0_0 ≠ 4 ∧ a0_2.toList ≠ []))) ∧ wc = ((w.alloc (.cells #[.int .i64 a0_0, .string a0_1, .string a0_2, .int .i64 a0_3, .int .i64 a0_4, .int .i64 a0_5, .slice A0_6 l0_6.length c0_6] 28)).alloc (.cells #[.func (.func 34) #[] #[]] 82)))
  case first =>
   by_cases q1 : 120 < a0_1.size
   ·
    have D_ := Aside0.mk (decide_eq_true (show 120 < a0_1.size ∨ 120 < a0_2.size ∨ (a0_0 ≠ 4 ∧ a0_2.toList ≠ []) from Or.inl q1))
    have q1b : decide ((120 : Int) < (a0_1.size : Int)) = true := decide_eq_true (by omega)
    clear q1
    go_wp2
    go_meet
    case rel => exact ⟨by rw [D_.out], rfl⟩
   ·
    have q1b : decide ((120 : Int) < (a0_1.size : Int)) = false := decide_eq_false (by omega)
    by_cases q2 : 120 < a0_2.size
    ·
     have D_ := Aside0.mk (decide_eq_true (show 120 < a0_1.size ∨ 120 < a0_2.size ∨ (a0_0 ≠ 4 ∧ a0_2.toList ≠ []) from Or.inr (Or.inl q2)))
     have q2b : decide ((120 : Int) < (a0_2.size : Int)) = true := decide_eq_true (by omega)
     clear q1 q2
     go_wp2
     go_meet
     case rel => exact ⟨by rw [D_.out], rfl⟩
    ·
     have q2b : decide ((120 : Int) < (a0_2.size : Int)) = false := decide_eq_false (by omega)
     by_cases q3 : a0_0 = 4
     ·
      have D_ := Aside0.mk (decide_eq_false (show ¬ (120 < a0_1.size ∨ 120 < a0_2.size ∨ (a0_0 ≠ 4 ∧ a0_2.toList ≠ [])) by rintro (h | h | h); exact q1 h; exact q2 h; exact h.1 q3))
      have q3b : (a0_0 != 4) = false := bne_eq_false_iff_eq.mpr q3
      have q3c : (a0_0 == 4) = true := beq_iff_eq.mpr q3
      clear q1 q2 q3
      go_wp2
      go_meet
      case rel => exact ⟨by rw [D_.out], rfl⟩
     ·
      have q3b : (a0_0 != 4) = true := bne_iff_ne.mpr q3
      have q3c : (a0_0 == 4) = false := beq_eq_false_iff_ne.mpr q3
      by_cases q4 : a0_2.toList = []
      ·
       have D_ := Aside0.mk (decide_eq_false (show ¬ (120 < a0_1.size ∨ 120 < a0_2.size ∨ (a0_0 ≠ 4 ∧ a0_2.toList ≠ [])) by rintro (h | h | h); exact q1 h; exact q2 h; exact h.2 q4))
       have q4b : (a0_2.toList != ([] : List UInt8)) = false := bne_eq_false_iff_eq.mpr q4
       have q4c : (a0_2.toList == ([] : List UInt8)) = true := beq_iff_eq.mpr q4
       clear q1 q2 q3 q4
       go_wp2
       go_meet
       case rel => exact ⟨by rw [D_.out], rfl⟩
      ·
       have D_ := Aside0.mk (decide_eq_true (show 120 < a0_1.size ∨ 120 < a0_2.size ∨ (a0_0 ≠ 4 ∧ a0_2.toList ≠ []) from Or.inr (Or.inr ⟨q3, q4⟩)))
       have q4b : (a0_2.toList != ([] : List UInt8)) = true := bne_iff_ne.mpr q4
       have q4c : (a0_2.toList == ([] : List UInt8)) = false := beq_eq_false_iff_ne.mpr q4
       clear q1 q2 q3 q4
       go_wp2
       go_meet
       case rel => exact ⟨by rw [D_.out], rfl⟩
  case rest =>
   obtain ⟨rfl, rfl⟩ := hcut
   by_cases cA : (120 < a0_1.size ∨ 120 < a0_2.size ∨ (a0_0 ≠ 4 ∧ a0_2.toList ≠ []))
   ·
    rw [decide_eq_true cA]
    have hf : r = false := by
     rw [← hr.out, rightB, decide_eq_true cA]
     simp
    subst hf
    clear cA
    have hB := Aside0.mk HB.out
    go_wp2
    go_ret
    exact ⟨rfl, hB.out⟩
   ·
    rw [decide_eq_false cA]
    have CA := Aside0.mk cA
    clear cA
    go_upto_region 19 with (fail)
    go_cut [61] (fun v61 wc => v61 = .bool (decide ((a0_0 ≠ 5 ∧ a0_0 ≠ 6 ∧ 0 < l0_6.length) ∨ 8 < l0_6.length)) ∧ wc = ((w.alloc (.cells #[.int .i64 a0_0, .string a0_1, .string a0_2, .int .i64 a0_3, .int .i64 a0_4, .int .i64 a0_5, .slice A0_6 l0_6.length c0_6] 28)).alloc (.cells #[.func (.func 34) #[] #[]] 82)))
    case first =>
     have fin : ∀ b : Bool, decide ((0 : Int) < (l0_6.length : Int)) = b → decide (0 < l0_6.length) = b := fun b h => by rw [← h]; congr 1; exact propext (by omega)
     by_cases q2 : 8 < l0_6.length
     ·
      have D_ := Aside0.mk (decide_eq_true (show ((a0_0 ≠ 5 ∧ a0_0 ≠ 6 ∧ 0 < l0_6.length) ∨ 8 < l0_6.length) from Or.inr q2))
      have q2b : decide ((8 : Int) < (l0_6.length : Int)) = true := decide_eq_true (by omega)
      have q2c : decide ((0 : Int) < (l0_6.length : Int)) = true := decide_eq_true (by omega)
      have q2d : decide (8 < l0_6.length) = true := decide_eq_true (by omega)
      have q2e : decide (0 < l0_6.length) = true := decide_eq_true (by omega)
      by_cases q3 : a0_0 = 5
      ·
       have q3b : (a0_0 != 5) = false := bne_eq_false_iff_eq.mpr q3
       have q3c : (a0_0 == 5) = true := beq_iff_eq.mpr q3
       clear q2 q3 fin
       go_wp2
       go_meet
       case rel => exact ⟨by rw [D_.out], rfl⟩
      ·
       have q3b : (a0_0 != 5) = true := bne_iff_ne.mpr q3
       have q3c : (a0_0 == 5) = false := beq_eq_false_iff_ne.mpr q3
       by_cases q4 : a0_0 = 6
       ·
        have q4b : (a0_0 != 6) = false := bne_eq_false_iff_eq.mpr q4
        have q4c : (a0_0 == 6) = true := beq_iff_eq.mpr q4
        clear q2 q3 q4 fin
        go_wp2
        go_meet
        case rel => exact ⟨by rw [D_.out], rfl⟩
       ·
        have q4b : (a0_0 != 6) = true := bne_iff_ne.mpr q4
        have q4c : (a0_0 == 6) = false := beq_eq_false_iff_ne.mpr q4
        clear q2 q3 q4 fin
        go_wp2
        go_meet
        case rel => exact ⟨by rw [D_.out], rfl⟩
     ·
      have q2b : decide ((8 : Int) < (l0_6.length : Int)) = false := decide_eq_false (by omega)
      have q2d : decide (8 < l0_6.length) = false := decide_eq_false (by omega)
      by_cases q3 : a0_0 = 5
      ·
       have D_ := Aside0.mk (decide_eq_false (show ¬ ((a0_0 ≠ 5 ∧ a0_0 ≠ 6 ∧ 0 < l0_6.length) ∨ 8 < l0_6.length) by rintro (h | h); exact h.1 q3; exact q2 h))
       have q3b : (a0_0 != 5) = false := bne_eq_false_iff_eq.mpr q3
       have q3c : (a0_0 == 5) = true := beq_iff_eq.mpr q3
       clear q2 q3 fin
       go_wp2
       go_meet
       case rel => exact ⟨by rw [D_.out], rfl⟩
      ·
       have q3b : (a0_0 != 5) = true := bne_iff_ne.mpr q3
       have q3c : (a0_0 == 5) = false := beq_eq_false_iff_ne.mpr q3
       by_cases q4 : a0_0 = 6
       ·
        have D_ := Aside0.mk (decide_eq_false (show ¬ ((a0_0 ≠ 5 ∧ a0_0 ≠ 6 ∧ 0 < l0_6.length) ∨ 8 < l0_6.length) by rintro (h | h); exact h.2.1 q4; exact q2 h))
        have q4b : (a0_0 != 6) = false := bne_eq_false_iff_eq.mpr q4
        have q4c : (a0_0 == 6) = true := beq_iff_eq.mpr q4
        clear q2 q3 q4 fin
        go_wp2
        go_meet
        case rel => exact ⟨by rw [D_.out], rfl⟩
       ·
        have q4b : (a0_0 != 6) = true := bne_iff_ne.mpr q4
        have q4c : (a0_0 == 6) = false := beq_eq_false_iff_ne.mpr q4
        by_cases q5 : 0 < l0_6.length
        ·
         have D_ := Aside0.mk (decide_eq_true (show ((a0_0 ≠ 5 ∧ a0_0 ≠ 6 ∧ 0 < l0_6.length) ∨ 8 < l0_6.length) from Or.inl ⟨q3, q4, q5⟩))
         have q5b : decide ((0 : Int) < (l0_6.length : Int)) = true := decide_eq_true (by omega)
         have q5c := fin _ q5b
         clear q2 q3 q4 q5 fin
         go_wp2
         go_meet
         case rel => exact ⟨by rw [D_.out], rfl⟩
        ·
         have D_ := Aside0.mk (decide_eq_false (show ¬ ((a0_0 ≠ 5 ∧ a0_0 ≠ 6 ∧ 0 < l0_6.length) ∨ 8 < l0_6.length) by rintro (h | h); exact q5 h.2.2; exact q2 h))
         have q5b : decide ((0 : Int) < (l0_6.length : Int)) = false := decide_eq_false (by omega)
         have q5c := fin _ q5b
         clear q2 q3 q4 q5 fin
         go_wp2
         go_meet
         case rel => exact ⟨by rw [D_.out], rfl⟩
    case rest =>
     obtain ⟨rfl, rfl⟩ := hcut
     by_cases cB : ((a0_0 ≠ 5 ∧ a0_0 ≠ 6 ∧ 0 < l0_6.length) ∨ 8 < l0_6.length)
     ·
      rw [decide_eq_true cB]
      have hf : r = false := by
       rw [← hr.out, rightB, decide_eq_true cB]
       simp
      subst hf
      clear cB
      have hB := Aside0.mk HB.out
      go_wp2
      go_ret
      exact ⟨rfl, hB.out⟩
     ·
      rw [decide_eq_false cB]
      have hl : (l0_6.length : Int) ≤ 9223372036854775807 := by omega
      have hR : rightB a0_0 a0_1 a0_2 a0_3 a0_4 a0_5 l0_6 = (decide ((0 ≤ a0_3 ∧ a0_3 ≤ 3) ∧ (0 ≤ a0_4 ∧ a0_4 ≤ 9007199254740991) ∧ (rLeast a0_0 ≤ a0_5 ∧ a0_5 ≤ rMost a0_0)) && !(l0_6.any isOdd)) := by
       rw [rightB, decide_eq_true HK.out, decide_eq_false CA.out, decide_eq_false cB]
       simp
      rw [hR] at hr
      clear cB CA HK hR
      have T := fun n lo hi => inb_calls n lo hi ((w.alloc (.cells #[.int .i64 a0_0, .string a0_1, .string a0_2, .int .i64 a0_3, .int .i64 a0_4, .int .i64 a0_5, .slice A0_6 l0_6.length c0_6] 28)).alloc (.cells #[.func (.func 34) #[] #[]] 82))
      have TC := cont_calls A0_6 c0_6 l0_6 (w.heap.size + 1) ((w.alloc (.cells #[.int .i64 a0_0, .string a0_1, .string a0_2, .int .i64 a0_3, .int .i64 a0_4, .int .i64 a0_5, .slice A0_6 l0_6.length c0_6] 28)).alloc (.cells #[.func (.func 34) #[] #[]] 82)) (Kd.C_alloc (Kd.C_alloc HR.out _) _) hl (by simp)
      clear hl HR
      have HBo := Aside0.mk HB.out
      clear HB
      by_cases g3 : 0 ≤ a0_3 ∧ a0_3 ≤ 3
      ·
       have g3b : inB a0_3 0 3 = true := decide_eq_true g3
       by_cases g4 : 0 ≤ a0_4 ∧ a0_4 ≤ 9007199254740991
       ·
        have g4b : inB a0_4 0 9007199254740991 = true := decide_eq_true g4
        by_cases g5 : rLeast a0_0 ≤ a0_5 ∧ a0_5 ≤ rMost a0_0
        ·
         have g5b : inB a0_5 (rLeast a0_0) (rMost a0_0) = true := decide_eq_true g5
         rw [decide_eq_true (show (0 ≤ a0_3 ∧ a0_3 ≤ 3) ∧ (0 ≤ a0_4 ∧ a0_4 ≤ 9007199254740991) ∧ (rLeast a0_0 ≤ a0_5 ∧ a0_5 ≤ rMost a0_0) from ⟨g3, g4, g5⟩), Bool.true_and] at hr
         clear g3 g4 g5
         obtain ⟨b0, hb0⟩ : ∃ b0, l0_6.any isOdd = b0 := ⟨_, rfl⟩
         rw [hb0] at TC hr
         clear hb0
         obtain rfl := hr.out
         clear hr
         cases b0 <;>
         ·
          go_wp2_with (first | (go_at_call 34; refine (T _ _ _).mono ?_; rintro e w' ⟨rfl, rfl⟩) | (go_at_call 36; refine TC.mono ?_; rintro e w' ⟨rfl, rfl⟩))
          go_ret
          exact ⟨rfl, HBo.out⟩
        ·
         have g5b : inB a0_5 (rLeast a0_0) (rMost a0_0) = false := decide_eq_false g5
         rw [decide_eq_false (show ¬ ((0 ≤ a0_3 ∧ a0_3 ≤ 3) ∧ (0 ≤ a0_4 ∧ a0_4 ≤ 9007199254740991) ∧ (rLeast a0_0 ≤ a0_5 ∧ a0_5 ≤ rMost a0_0)) from fun h => g5 h.2.2), Bool.false_and] at hr
         obtain rfl := hr.out
         clear g3 g4 g5 hr TC
         go_wp2_with (go_at_call 34; refine (T _ _ _).mono ?_; rintro e w' ⟨rfl, rfl⟩)
         go_ret
         exact ⟨rfl, HBo.out⟩
       ·
        have g4b : inB a0_4 0 9007199254740991 = false := decide_eq_false g4
        rw [decide_eq_false (show ¬ ((0 ≤ a0_3 ∧ a0_3 ≤ 3) ∧ (0 ≤ a0_4 ∧ a0_4 ≤ 9007199254740991) ∧ (rLeast a0_0 ≤ a0_5 ∧ a0_5 ≤ rMost a0_0)) from fun h => g4 h.2.1), Bool.false_and] at hr
        obtain rfl := hr.out
        clear g3 g4 hr TC
        go_wp2_with (go_at_call 34; refine (T _ _ _).mono ?_; rintro e w' ⟨rfl, rfl⟩)
        go_ret
        exact ⟨rfl, HBo.out⟩
      ·
       have g3b : inB a0_3 0 3 = false := decide_eq_false g3
       rw [decide_eq_false (show ¬ ((0 ≤ a0_3 ∧ a0_3 ≤ 3) ∧ (0 ≤ a0_4 ∧ a0_4 ≤ 9007199254740991) ∧ (rLeast a0_0 ≤ a0_5 ∧ a0_5 ≤ rMost a0_0)) from fun h => g3 h.1), Bool.false_and] at hr
       obtain rfl := hr.out
       clear g3 hr TC
       go_wp2_with (go_at_call 34; refine (T _ _ _).mono ?_; rintro e w' ⟨rfl, rfl⟩)
       go_ret
       exact ⟨rfl, HBo.out⟩

end Go.Proofs.Ytjailboidlmadaa.P
