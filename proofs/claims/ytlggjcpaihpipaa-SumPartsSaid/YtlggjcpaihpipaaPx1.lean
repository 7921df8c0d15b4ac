/- The Go functions of this seat as plain Lean functions, and for each the proof that its call gives what the plain function gives. Printed by a program of this session. -/
import Derived.Test.YtlggjcpaihpipaaPx0
namespace Go.Proofs.Ytlggjcpaihpipaa.P
open Go.RowKit Go.Proofs.YtlggjcpaihpipaaW.PrintWords Go.Proofs.YtlggjcpaihpipaaW.PrintLast Go.Proofs.YtlggjcpaihpipaaW.PrintMore
attribute [local go_sem] max2_int min2_int max_two min_two max_three min_three max_four min_four   -- for this text's walks alone
set_option linter.unusedVariables false
set_option linter.unusedSimpArgs false

/-! ### sum_Sum: function 13 -/
def crc1 (v : Int) : Int := Go.bits .xor .u32 (v / 2) (Go.bits .and .u32 3988292384 (-(Go.bits .and .u32 v 1) % 4294967296))
def crcN : Nat → Int → Int
  | 0, v => v
  | n + 1, v => crc1 (crcN n v)
def crcByte (v c : Int) : Int := crcN 8 (Go.bits .xor .u32 v (c % 4294967296))
def sum_Sum.f (a0 : ByteArray) : Option Int := if a0.size ≤ 140737488355328 then some (Go.bits .xor .u32 4294967295 ((bytesOf a0).foldl crcByte 4294967295)) else none
theorem crc_step (a0 : ByteArray) (k : Nat) (h : k < a0.size) : ((bytesOf a0).take (k + 1)).foldl crcByte 4294967295 = crcByte (((bytesOf a0).take k).foldl crcByte 4294967295) ((a0.data[k].toNat : Nat) : Int) := by
  have hl : k < (bytesOf a0).length := by rw [bytesOf_length]; exact h
  rw [List.take_succ_eq_append_getElem hl, List.foldl_append]
  simp [bytesOf]
set_option maxHeartbeats 1000000 in
theorem sum_Sum.calls (a0 : ByteArray) (r : Int) (w : World) (h : sum_Sum.f a0 = some r) : Calls Try.prog 13 #[.string a0] w fun e w' => e = .returned (.int .u32 r) ∧ Below w.heap.size w w' := by
  unfold sum_Sum.f at h
  by_cases hs : a0.size ≤ 140737488355328
  · rw [if_pos hs] at h
    obtain rfl := Option.some.inj h
    have kb := fun W => print_bytes (P := Try.prog) 9 30 5 Try.underlying9 Try.underlying30 Try.underlying5 a0 W
    have hB := Aside0.mk (bytes_below (Below.refl w.heap.size w) (Nat.le_refl _) 5 a0)
    have hc := fun i hi => Lib.bytesWorld_cell w 5 a0 i hi
    have HC := Lib.hid hc
    clear hc h
    go_enter Try.func13, Try.ntmps13
    go_wp2
    go_loop [3, 9] (fun v i => ∃ k : Nat, k ≤ a0.size ∧ i = .int .i64 k ∧ v = .int .u32 (((bytesOf a0).take k).foldl crcByte 4294967295)) (fun _ i => a0.size - (intOf i).toNat)
    case atStart => exact ⟨0, Nat.zero_le _, rfl, rfl⟩
    case round =>
      obtain ⟨k, hk, rfl, rfl⟩ := hrel
      by_cases hlt : k < a0.size
      · have hcell := HC.out k hlt
        have HS := Lib.hid (crc_step a0 k hlt)
        obtain ⟨V, hV⟩ : ∃ V, V = ((bytesOf a0).take k).foldl crcByte 4294967295 := ⟨_, rfl⟩
        have HV := Lib.hid hV
        rw [← hV]
        clear hV
        go_wp2
        go_loop [3, 17] (fun v j => ∃ m : Nat, m ≤ 8 ∧ j = .int .i64 m ∧ v = .int .u32 (crcN m (bits BinOp.xor IntKind.u32 V ((a0.data[k].toNat : Int) % 4294967296)))) (fun _ j => 8 - (intOf j).toNat)
        case atStart => exact ⟨0, Nat.zero_le _, rfl, rfl⟩
        case round =>
          obtain ⟨m, hm, rfl, rfl⟩ := hrel
          obtain ⟨U, hU⟩ : ∃ U, U = crcN m (bits BinOp.xor IntKind.u32 V ((a0.data[k].toNat : Int) % 4294967296)) := ⟨_, rfl⟩
          have HU := Lib.hid hU
          rw [← hU]
          clear hU
          by_cases hm8 : m < 8
          · go_wp2
            go_round
            case rel => exact ⟨m + 1, by omega, by go_num, by rw [crcN, ← HU.out, crc1]⟩
            case measure => simp [intOf]; omega
          · go_wp2
            go_round
            case rel =>
              obtain rfl : m = 8 := by omega
              exact ⟨k + 1, by omega, by go_num, by rw [HS.out, ← HV.out, crcByte, ← HU.out]⟩
            case measure => simp [intOf]; omega
      · go_wp2
        go_ret
        have hsz : a0.size ≤ k := by omega
        exact ⟨by rw [List.take_of_length_le (by rw [bytesOf_length]; exact hsz)]; rfl, hB.out⟩
  · rw [if_neg hs] at h; cases h

end Go.Proofs.Ytlggjcpaihpipaa.P
