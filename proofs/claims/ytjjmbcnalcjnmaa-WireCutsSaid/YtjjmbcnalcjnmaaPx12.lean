/- The Go functions of this seat as plain Lean functions, and for each the proof that its call gives what the plain function gives. Printed by a program of this session. -/
import Derived.Test.YtjjmbcnalcjnmaaPx0
namespace Go.Proofs.Ytjjmbcnalcjnmaa.P
open Go.RowKit Go.Proofs.YtjjmbcnalcjnmaaW.PrintWords Go.Proofs.YtjjmbcnalcjnmaaW.PrintLast Go.Proofs.YtjjmbcnalcjnmaaW.PrintMore
attribute [local go_sem] max2_int min2_int max_two min_two max_three min_three max_four min_four   -- for this text's walks alone
set_option linter.unusedVariables false
set_option linter.unusedSimpArgs false

-- NOT PRINTED: function 31 (math_Float64frombits)

/-! ### wire_TakeReal: function 21 -/
/-- a number out of its bytes, the greatest first -/
def realStep (v c : Int) : Int := Go.bits .or .u64 (IntKind.u64.wrap (v * 256)) (IntKind.u64.wrap c)
def realOf (s : ByteArray) : Int := (bytesOf (s.extract 0 8)).foldl realStep 0
def wire_TakeReal.f (a0 : ByteArray) : Option (Nat × ByteArray × Int) := if a0.size < 8 then some (0, (⟨#[]⟩ : ByteArray), 2) else if (FloatKind.f64.format.order (realOf a0).toNat (realOf a0).toNat != some .eq) = true then (if realOf a0 = 9221120237041090561 then some ((realOf a0).toNat, a0.extract 8 a0.size, 0) else some (0, (⟨#[]⟩ : ByteArray), 2)) else some ((realOf a0).toNat, a0.extract 8 a0.size, 0)
theorem real_step (s : ByteArray) (k : Nat) (h : k < s.size) : ((bytesOf s).take (k + 1)).foldl realStep 0 = realStep (((bytesOf s).take k).foldl realStep 0) ((s.data[k].toNat : Nat) : Int) := by
  have hl : k < (bytesOf s).length := by rw [bytesOf_length]; exact h
  rw [List.take_succ_eq_append_getElem hl, List.foldl_append]
  simp [bytesOf]
set_option maxHeartbeats 4000000 in
set_option maxRecDepth 100000 in
theorem wire_TakeReal.calls (a0 : ByteArray) (r1 : Nat) (r2 : ByteArray) (r3 : Int) (w : World) (h : wire_TakeReal.f a0 = some (r1, r2, r3)) :
    Calls Try.prog 21 #[.string a0] w fun e w' => e = .returned (.tuple #[.float .f64 r1, .string r2, .int .i64 r3]) ∧ Below w.heap.size w w' := by
  have hx := x31
  unfold wire_TakeReal.f at h
  by_cases c1 : a0.size < 8
  · rw [if_pos c1] at h
    obtain ⟨rfl, rfl, rfl⟩ : (0 : Nat) = r1 ∧ (⟨#[]⟩ : ByteArray) = r2 ∧ (2 : Int) = r3 := by simpa using h
    clear h
    go_enter Try.func21, Try.ntmps21
    go_wp2
    go_ret3
    exact ⟨rfl, Below.refl _ _⟩
  · rw [if_neg c1] at h
    have H := Aside0.mk h
    clear h
    have hs8 : (a0.extract 0 8).size = 8 := by simp; omega
    have hN := Aside0.mk (show realOf a0 = ((bytesOf (a0.extract 0 8)).take 8).foldl realStep 0 by rw [List.take_of_length_le (by rw [bytesOf_length, hs8]; omega)]; rfl)
    obtain ⟨s8, hs⟩ : ∃ s, s = a0.extract 0 8 := ⟨_, rfl⟩
    have hs' := hs.symm
    clear hs
    rw [hs'] at hs8 hN
    have kb := fun W => print_bytes (P := Try.prog) 9 61 5 Try.underlying9 Try.underlying61 Try.underlying5 s8 W
    have hB := Aside0.mk (bytes_below (Below.refl w.heap.size w) (Nat.le_refl _) 5 s8)
    have HC := Lib.hid (fun i hi => Lib.bytesWorld_cell w 5 s8 i hi)
    have c1' : (8 : Int) ≤ (a0.size : Int) := by omega
    have c1n := eq_true (show 8 ≤ a0.size by omega)
    have c1d : decide ((8 : Int) ≤ (a0.size : Int)) = true := decide_eq_true c1'
    have c1e : decide ((a0.size : Int) < 8) = false := decide_eq_false (by omega)
    replace c1' := eq_true c1'
    go_enter Try.func21, Try.ntmps21
    go_wp2
    go_loop [5, 15] (fun v i => ∃ k : Nat, k ≤ 8 ∧ i = .int .i64 k ∧ v = .int .u64 (((bytesOf s8).take k).foldl realStep 0)) (fun _ i => 8 - (intOf i).toNat)
    case atStart => exact ⟨0, Nat.zero_le _, rfl, rfl⟩
    case round =>
      obtain ⟨k, hk, rfl, rfl⟩ := hrel
      by_cases hlt : k < 8
      · have hcell := HC.out k (by rw [hs8]; exact hlt)
        have HS := Lib.hid (real_step s8 k (by rw [hs8]; exact hlt))
        obtain ⟨V, hV⟩ : ∃ V, V = ((bytesOf s8).take k).foldl realStep 0 := ⟨_, rfl⟩
        have HV := Lib.hid hV
        rw [← hV]
        clear hV
        go_wp2
        go_round
        case rel => exact ⟨k + 1, by omega, by go_num, by rw [HS.out, ← HV.out]; rfl⟩
        case measure => simp [intOf]; omega
      · obtain rfl : k = 8 := by omega
        rw [← hN.out]
        have H := H.out
        by_cases c2 : (FloatKind.f64.format.order (realOf a0).toNat (realOf a0).toNat != some .eq) = true
        · rw [if_pos c2] at H
          by_cases c3 : realOf a0 = 9221120237041090561
          · rw [if_pos c3] at H
            obtain ⟨rfl, rfl, rfl⟩ : (realOf a0).toNat = r1 ∧ a0.extract 8 a0.size = r2 ∧ (0 : Int) = r3 := by simpa using H
            clear H
            have c3b := beq_iff_eq.mpr c3
            have c3c : (realOf a0 != 9221120237041090561) = false := bne_eq_false_iff_eq.mpr c3
            go_wp2
            go_region
            go_wp2
            go_ret3
            exact ⟨by rw [c3]; rfl, below_drew1 hB.out⟩
          · rw [if_neg c3] at H
            obtain ⟨rfl, rfl, rfl⟩ : (0 : Nat) = r1 ∧ (⟨#[]⟩ : ByteArray) = r2 ∧ (2 : Int) = r3 := by simpa using H
            clear H
            have c3b := beq_eq_false_iff_ne.mpr c3
            have c3c : (realOf a0 != 9221120237041090561) = true := bne_iff_ne.mpr c3
            go_wp2
            go_ret3
            exact ⟨rfl, hB.out⟩
        · rw [if_neg c2] at H
          replace c2 := Bool.eq_false_iff.mpr c2
          obtain ⟨rfl, rfl, rfl⟩ : (realOf a0).toNat = r1 ∧ a0.extract 8 a0.size = r2 ∧ (0 : Int) = r3 := by simpa using H
          clear H
          go_wp2
          go_region
          go_wp2
          go_ret3
          exact ⟨rfl, below_drew1 hB.out⟩
  

-- NOT PRINTED: function 32 (math_Float64bits)

end Go.Proofs.Ytjjmbcnalcjnmaa.P
