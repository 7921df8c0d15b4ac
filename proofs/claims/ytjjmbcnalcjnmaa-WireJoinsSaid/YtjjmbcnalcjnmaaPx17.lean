/- The Go functions of this seat as plain Lean functions, and for each the proof that its call gives what the plain function gives. Printed by a program of this session. -/
import Derived.Test.YtjjmbcnalcjnmaaPx0
import Derived.Test.YtjjmbcnalcjnmaaPx2
import Derived.Test.YtjjmbcnalcjnmaaPx9
import Derived.Test.YtjjmbcnalcjnmaaPx16
namespace Go.Proofs.Ytjjmbcnalcjnmaa.P
open Go.RowKit Go.Proofs.YtjjmbcnalcjnmaaW.PrintWords Go.Proofs.YtjjmbcnalcjnmaaW.PrintLast Go.Proofs.YtjjmbcnalcjnmaaW.PrintMore
attribute [local go_sem] max2_int min2_int max_two min_two max_three min_three max_four min_four   -- for this text's walks alone
set_option linter.unusedVariables false
set_option linter.unusedSimpArgs false

/-! ### wire_Join: function 26 -/
def wire_Join.l0 : Nat → List ByteArray → ByteArray → Int → Option (ByteArray × Int)
  | 0, _, _, _ => none
  | k + 1, l, acc, i => if i < (l.length : Int) then (if 0 ≤ i then ((wire_Text.f k (rdOf ByteArray.empty l i)).bind fun bt => if bt.2 = 0 then (if acc.size + bt.1.size ≤ 140737488355328 then wire_Join.l0 k l (acc ++ bt.1) (wrap64 (i + 1)) else none) else some ((⟨#[]⟩ : ByteArray), bt.2)) else none) else some (acc, 0)
def wire_Join.f (k : Nat) (l : List ByteArray) : Option (ByteArray × Int) := if (l.length : Int) > 1000 then some ((⟨#[]⟩ : ByteArray), 4) else (wire_Num.f k (l.length : Int)).bind fun t => if t.size ≤ 140737488355328 then wire_Join.l0 k l t 0 else none
theorem wire_Join.mono_l : ∀ k l acc i, LeO (wire_Join.l0 k l acc i) (wire_Join.l0 (k + 1) l acc i)
  | 0, _, _, _ => LeO.none _
  | k + 1, l, acc, i => by
    rw [wire_Join.l0, wire_Join.l0]
    exact LeO.ite (LeO.ite (LeO.bind (wire_Text.mono _ k) fun bt => LeO.ite (LeO.ite (wire_Join.mono_l k _ _ _) (LeO.refl _)) (LeO.refl _)) (LeO.refl _)) (LeO.refl _)
theorem wire_Join.mono : ∀ l k, LeO (wire_Join.f k l) (wire_Join.f (k + 1) l) := by
  intro l k
  unfold wire_Join.f
  exact LeO.ite (LeO.refl _) (LeO.bind (wire_Num.mono _ k) fun t => LeO.ite (wire_Join.mono_l k _ _ _) (LeO.refl _))
theorem bld_app (a b : ByteArray) : Lib.strCells a ++ Lib.strCells b = Lib.strCells (a ++ b) := by simp [Lib.strCells]
set_option maxHeartbeats 8000000 in
set_option maxRecDepth 100000 in
theorem wire_Join.calls (k : Nat) (A0 : Option Addr) (c0 : Nat) (l0 : List ByteArray) (r1 : ByteArray) (r2 : Int) (w : World) (hr0 : Kd.C Kd.string w A0 l0.length l0) (hc0 : l0.length ≤ c0) (h : wire_Join.f k l0 = some (r1, r2)) :
    Calls Try.prog 26 #[.slice A0 l0.length c0] w fun e w' => e = .returned (.tuple #[.string r1, .int .i64 r2]) ∧ Below w.heap.size w w' := by
  have HR0 := Aside0.mk hr0
  have HC0 := Aside0.mk hc0
  clear hr0 hc0
  unfold wire_Join.f at h
  by_cases c2 : (l0.length : Int) > 1000
  · rw [if_pos c2] at h
    have c2b0 : decide (1000 < (l0.length : Int)) = true := decide_eq_true c2
    have c2b1 : decide (1000 < l0.length) = true := decide_eq_true (by omega)
    clear c2
    simp only [Option.some.injEq, Prod.mk.injEq] at h
    obtain ⟨rfl, rfl⟩ := h
    go_enter Try.func26, Try.ntmps26
    go_wp2
    go_ret2
    exact ⟨rfl, Below.refl _ _⟩
  · rw [if_neg c2] at h
    have c2b0 : decide (1000 < (l0.length : Int)) = false := decide_eq_false c2
    have c2b1 : decide (1000 < l0.length) = false := decide_eq_false (by omega)
    clear c2
    obtain ⟨t, A3, h⟩ := Option.bind_eq_some_iff.mp h
    replace h : (if t.size ≤ 140737488355328 then wire_Join.l0 k l0 t 0 else none) = some (r1, r2) := h
    by_cases c3 : t.size ≤ 140737488355328
    · rw [if_pos c3] at h
      have H' := Aside0.mk h
      have A3 := Aside0.mk A3
      clear h
      have HF := Aside0.mk (Lib.fresh_isBuilder 67 5 w)
      go_enter Try.func26, Try.ntmps26
      go_wp2_with (go_at_call 15; fail)
      go_at_call 15
      refine (wire_Num.calls k _ t _ A3.out).mono ?_
      rintro e w1 ⟨rfl, hb1⟩
      have HI := Aside0.mk (bld_below HF.out hb1)
      have HB := Aside0.mk (below_then (below_alloc (Below.refl w.heap.size w) (.cells #[.pointer none, .slice none 0 0] 67)) (by simp) hb1)
      clear HF hb1
      go_wp2_with (go_at_call 33; fail)
      go_at_call 33
      refine (bld_write _ _ _ t _ HI.out (by simpa using c3) HB.out.size).mono ?_
      rintro e w2 ⟨rfl, hi, hb2⟩
      have HI2 : Aside0 (Lib.IsBuilder 67 5 w.heap.size w.heap.size (Lib.strCells t) w2) := ⟨Or.inr (by simpa using hi)⟩
      have HB2 := Aside0.mk (HB.out.trans hb2)
      clear HI HB hi hb2
      go_wp2
      go_loopg [18] k (fun kq v18 w' => ∃ (acc : ByteArray) (i : Int), v18 = .int .i64 i ∧ Aside0 (wire_Join.l0 kq l0 acc i = some (r1, r2)) ∧ Aside0 (kq ≤ k) ∧ Aside0 (acc.size ≤ 140737488355328) ∧ Aside0 (Lib.IsBuilder 67 5 w.heap.size w.heap.size (Lib.strCells acc) w') ∧ Aside0 (Below w.heap.size w w'))
      case atStart => exact ⟨t, 0, rfl, H', ⟨Nat.le_refl _⟩, ⟨c3⟩, HI2, HB2⟩
      case round =>
        clear H' HI2 HB2 A3 c3
        obtain ⟨acc, i, rfl, HA, HK1, HZ, HI, HB⟩ := hrel
        cases gk with
        | zero => exact absurd HA.out (by simp [wire_Join.l0])
        | succ k1 =>
          have H := HA.out
          clear HA
          simp only [wire_Join.l0] at H
          by_cases c5 : i < (l0.length : Int)
          · rw [if_pos c5] at H
            have c5b0 : decide (i < (l0.length : Int)) = true := decide_eq_true c5
            by_cases c6 : 0 ≤ i
            · rw [if_pos c6] at H
              obtain ⟨⟨t1, t2⟩, A7, H⟩ := Option.bind_eq_some_iff.mp H
              replace H : (if t2 = 0 then (if acc.size + t1.size ≤ 140737488355328 then wire_Join.l0 k1 l0 (acc ++ t1) (wrap64 (i + 1)) else none) else some ((⟨#[]⟩ : ByteArray), t2)) = some (r1, r2) := H
              have A7 := Aside0.mk A7
              obtain ⟨ad175, e175, hx175_0⟩ := Kd.at_string HR0.out i c6 c5
              cases e175
              replace hx175_0 := (HB.out.cell (World.block_lt_of_cell? w _ hx175_0)).trans hx175_0
              have p175 := eq_true c6
              have q175 := eq_true c5
              clear c5 c6
              by_cases c8 : t2 = 0
              · rw [if_pos c8] at H
                have c8b : (t2 == 0) = true := beq_iff_eq.mpr c8
                have c8c : (t2 != 0) = false := bne_eq_false_iff_eq.mpr c8
                by_cases c9 : acc.size + t1.size ≤ 140737488355328
                · rw [if_pos c9] at H
                  have H' := Aside0.mk H
                  clear H
                  go_wp2_with (go_at_call 17; fail)
                  go_at_call 17
                  refine (wire_Text.calls k1 _ t1 t2 _ A7.out).mono ?_
                  rintro e w3 ⟨rfl, hb3⟩
                  have HI3 := Aside0.mk (bld_below HI.out hb3)
                  have HB3 := Aside0.mk (below_then HB.out HB.out.size hb3)
                  clear HI HB hb3
                  go_wp2_with (go_at_call 33; fail)
                  go_at_call 33
                  refine (bld_write _ _ _ t1 _ HI3.out (by rw [Lib.strCells_length]; exact c9) HB3.out.size).mono ?_
                  rintro e w4 ⟨rfl, hi, hb4⟩
                  rw [bld_app] at hi
                  have HI4 : Aside0 (Lib.IsBuilder 67 5 w.heap.size w.heap.size (Lib.strCells (acc ++ t1)) w4) := ⟨Or.inr hi⟩
                  have HB4 := Aside0.mk (HB3.out.trans hb4)
                  clear HI3 HB3 hi hb4
                  go_wp2
                  go_roundg k1
                  case measure => have := HK1.out; omega
                  case rel => exact ⟨acc ++ t1, wrap64 (i + 1), by first | rfl | (simp; done) | (simp [*]; done), H', ⟨by have := HK1.out; omega⟩, ⟨by rw [ByteArray.size_append]; exact c9⟩, HI4, HB4⟩
                · rw [if_neg c9] at H
                  cases H
              · rw [if_neg c8] at H
                have c8b : (t2 == 0) = false := beq_eq_false_iff_ne.mpr c8
                have c8c : (t2 != 0) = true := bne_iff_ne.mpr c8
                simp only [Option.some.injEq, Prod.mk.injEq] at H
                obtain ⟨rfl, rfl⟩ := H
                go_wp2_with (go_at_call 17; fail)
                go_at_call 17
                refine (wire_Text.calls k1 _ t1 t2 _ A7.out).mono ?_
                rintro e w3 ⟨rfl, hb3⟩
                have HB3 := Aside0.mk (below_then HB.out HB.out.size hb3)
                clear HI HB hb3
                go_wp2
                go_ret2
                exact ⟨rfl, HB3.out⟩
            · rw [if_neg c6] at H
              cases H
          · rw [if_neg c5] at H
            have c5b0 : decide (i < (l0.length : Int)) = false := decide_eq_false c5
            clear c5
            simp only [Option.some.injEq, Prod.mk.injEq] at H
            obtain ⟨rfl, rfl⟩ := H
            go_wp2_with (go_at_call 34; fail)
            go_at_call 34
            refine (bld_string _ _ acc _ HI.out HB.out.size).mono ?_
            rintro e w3 ⟨rfl, hb3⟩
            have HB3 := Aside0.mk (HB.out.trans hb3)
            clear HI HB hb3
            go_wp2
            go_ret2
            exact ⟨rfl, HB3.out⟩
    · rw [if_neg c3] at h
      cases h

end Go.Proofs.Ytjjmbcnalcjnmaa.P
