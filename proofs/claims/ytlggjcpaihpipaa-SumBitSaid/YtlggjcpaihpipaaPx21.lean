/- The Go functions of this seat as plain Lean functions, and for each the proof that its call gives what the plain function gives. Printed by a program of this session. -/
import Derived.Test.YtlggjcpaihpipaaPx0
import Derived.Test.YtlggjcpaihpipaaPx4
import Derived.Test.YtlggjcpaihpipaaPx10
import Derived.Test.YtlggjcpaihpipaaPx15
namespace Go.Proofs.Ytlggjcpaihpipaa.P
open Go.RowKit Go.Proofs.YtlggjcpaihpipaaW.PrintWords Go.Proofs.YtlggjcpaihpipaaW.PrintLast Go.Proofs.YtlggjcpaihpipaaW.PrintMore
attribute [local go_sem] max2_int min2_int max_two min_two max_three min_three max_four min_four   -- for this text's walks alone
set_option linter.unusedVariables false
set_option linter.unusedSimpArgs false

/-! ### tabulariumlaw02_SumBit: function 8 -/
/-- what the law needs: the plain facts -/
def tabulariumlaw02_SumBit.Pure : Prop := ∀ (a0 : ByteArray) (a1 a2 : Int), a0.size ≤ 140737488351232 → (Lit.int .i64 a1).wf = true → (Lit.int .i64 a2).wf = true → ∃ k, tabulariumlaw02_examples.f k = some true ∧ ∃ b e, sum_Seal.f k a0 = some (b, e) ∧
  (e ≠ 0 ∨ e = 0 ∧ 3000 < a0.size ∨ e = 0 ∧ a0.size ≤ 3000 ∧ a0.size + 5 ≤ b.size ∧ b.size ≤ a0.size + 100 ∧
    (∃ s r, sum_Open.f k (turnAt b (b.size - a0.size - 4 + (nn a1 % (8 * (a0.size + 4)) / 8).toNat) (bitOf (nn a1 % (8 * (a0.size + 4)) % 8))) = some (s, r, 3)) ∧
    (∃ s r, sum_Open.f k (b.extract 0 (nn a2 % b.size).toNat) = some (s, r, 2)))
set_option maxHeartbeats 4000000 in
set_option maxRecDepth 100000 in
theorem tabulariumlaw02_SumBit.walk (P : tabulariumlaw02_SumBit.Pure) (a0 : ByteArray) (a1 : Int) (a2 : Int) (w : World) (w0 : a0.size ≤ 140737488351232) (w1 : (Lit.int .i64 a1).wf = true) (w2 : (Lit.int .i64 a2).wf = true) :
    Calls Try.prog 8 #[.string a0, .int .i64 a1, .int .i64 a2] w fun e w' => e = .returned (.bool true) ∧ Below w.heap.size w w' := by
  obtain ⟨k, hx0, b, e, hs0, hc⟩ := P a0 a1 a2 w0 w1 w2
  have HX := Aside0.mk hx0
  have HS := Aside0.mk hs0
  clear hx0 hs0 P
  have HB := Aside0.mk (Below.refl w.heap.size w)
  rcases hc with hc | ⟨rfl, hc⟩ | ⟨rfl, h3, hb1, hb2, ⟨s1, r1, ho1⟩, ⟨s2, r2, ho2⟩⟩
  · have c1 : (e != 0) = true := bne_iff_ne.mpr hc
    clear hc
    go_enter Try.func8, Try.ntmps8
    go_wp2_with (first | (go_at_call 9; (with_reducible refine (tabulariumlaw02_examples.calls k true _ HX.out).mono ?_); rintro e_ w3 ⟨rfl, hb⟩; have HB1 := Aside0.mk (below_step HB.out hb); clear hb) | (go_at_call 17; (with_reducible refine (sum_Seal.calls k a0 b e _ HS.out).mono ?_); rintro e_ w4 ⟨rfl, hb⟩; have HB2 := Aside0.mk (below_step HB1.out hb); clear hb))
    go_ret
    exact ⟨rfl, HB2.out⟩
  · have c1 : decide ((3000 : Int) < (a0.size : Int)) = true := decide_eq_true (by omega)
    clear hc
    go_enter Try.func8, Try.ntmps8
    go_wp2_with (first | (go_at_call 9; (with_reducible refine (tabulariumlaw02_examples.calls k true _ HX.out).mono ?_); rintro e_ w3 ⟨rfl, hb⟩; have HB1 := Aside0.mk (below_step HB.out hb); clear hb) | (go_at_call 17; (with_reducible refine (sum_Seal.calls k a0 b 0 _ HS.out).mono ?_); rintro e_ w4 ⟨rfl, hb⟩; have HB2 := Aside0.mk (below_step HB1.out hb); clear hb))
    go_ret
    exact ⟨rfl, HB2.out⟩
  · have HO1 := Aside0.mk ho1
    have HO2 := Aside0.mk ho2
    clear ho1 ho2
    have W1 := Aside0.mk w1
    have W2 := Aside0.mk w2
    have hn := nn_range w1
    have hm := nn_range w2
    have r1_ : -9223372036854775808 ≤ a1 ∧ a1 ≤ 9223372036854775807 := by simpa [Lit.wf, IntKind.min, IntKind.max, IntKind.signed, IntKind.bits] using w1
    have r2_ : -9223372036854775808 ≤ a2 ∧ a2 ≤ 9223372036854775807 := by simpa [Lit.wf, IntKind.min, IntKind.max, IntKind.signed, IntKind.bits] using w2
    clear w1 w2
    have c1 : decide ((3000 : Int) < (a0.size : Int)) = false := decide_eq_false (by omega)
    go_enter Try.func8, Try.ntmps8
    go_upto_if 33 with (first | (go_at_call 9; (with_reducible refine (tabulariumlaw02_examples.calls k true _ HX.out).mono ?_); rintro e_ w3 ⟨rfl, hb⟩; have HB1 := Aside0.mk (below_step HB.out hb); clear hb) | (go_at_call 17; (with_reducible refine (sum_Seal.calls k a0 b 0 _ HS.out).mono ?_); rintro e_ w4 ⟨rfl, hb⟩; have HB2 := Aside0.mk (below_step HB1.out hb); clear hb))
    go_cut [1] (fun v1 wc => v1 = .int .i64 (nn a1) ∧ wc = w4)
    case first =>
      by_cases c2 : a1 < 0
      · have E_ := Aside0.mk (show -(a1 + 1) = nn a1 by unfold nn; rw [if_pos c2])
        go_wp2
        go_meet
        case rel => exact ⟨by rw [E_.out], rfl⟩
      · have E_ := Aside0.mk (nn_pos c2)
        go_wp2
        go_meet
        case rel => exact ⟨by rw [← E_.out], rfl⟩
    case rest =>
      obtain ⟨rfl, rfl⟩ := hcut
      clear r1_
      go_upto_if 38 with (fail)
      go_cut [2] (fun v2 wd => v2 = .int .i64 (nn a2) ∧ wd = wc)
      case first =>
        by_cases c2 : a2 < 0
        · have E_ := Aside0.mk (show -(a2 + 1) = nn a2 by unfold nn; rw [if_pos c2])
          go_wp2
          go_meet
          case rel => exact ⟨by rw [E_.out], rfl⟩
        · have E_ := Aside0.mk (nn_pos c2)
          go_wp2
          go_meet
          case rel => exact ⟨by rw [← E_.out], rfl⟩
      case rest =>
        obtain ⟨rfl, rfl⟩ := hcut
        clear r2_ W1 W2
        obtain ⟨B, hBe⟩ : ∃ B : Nat, (B : Int) = nn a1 % (8 * ((a0.size : Int) + 4)) := ⟨(nn a1 % (8 * ((a0.size : Int) + 4))).toNat, Int.toNat_of_nonneg (Int.emod_nonneg _ (by omega))⟩
        have hB2 : B < 8 * (a0.size + 4) := by have := Int.emod_lt_of_pos (nn a1) (show 0 < 8 * ((a0.size : Int) + 4) by omega); omega
        have HBe := Aside0.mk hBe
        clear hBe
        obtain ⟨C, hCe⟩ : ∃ C : Nat, (C : Int) = nn a2 % (b.size : Int) := ⟨(nn a2 % (b.size : Int)).toNat, Int.toNat_of_nonneg (Int.emod_nonneg _ (by omega))⟩
        have hC2 : C < b.size := by have := Int.emod_lt_of_pos (nn a2) (show 0 < (b.size : Int) by omega); omega
        have HCe := Aside0.mk hCe
        clear hCe
        obtain ⟨F, hF⟩ : ∃ F : Nat, F = b.size - a0.size - 4 := ⟨_, rfl⟩
        have hB8 : ((B : Int) / 8).toNat = B / 8 := by omega
        have HF := Aside0.mk (show ((b.size : Int) - (a0.size : Int) - 4) = (F : Int) by omega)
        have hF2 : F + a0.size + 4 = b.size := by omega
        rw [← HBe.out, ← hF, hB8] at HO1
        clear hB8
        have hc0 : 0 ≤ nn a2 % (b.size : Int) := by rw [← HCe.out]; omega
        have hc1 : nn a2 % (b.size : Int) ≤ (b.size : Int) := by rw [← HCe.out]; omega
        have kb := fun W => print_bytes (P := Try.prog) 9 30 5 Try.underlying9 Try.underlying30 Try.underlying5 b W
        clear hF
        go_upto_region 13 with (fail)
        go_cut [1, 10, 11] (fun v1 v10 v11 wd => v1 = .int .i64 (B : Int) ∧ v10 = .int .i64 (F : Int) ∧ ∃ g c, v11 = .slice (some ⟨g, 0, none⟩) b.size c ∧ b.size ≤ c ∧ BRow 5 wd g (bytesOf b) ∧ w.heap.size ≤ g ∧ Below w.heap.size w wd)
        case first =>
          go_wp2
          go_meet
          case rel => exact ⟨by rw [HBe.out], by rw [HF.out], _, _, rfl, grownCap_ge _ _ _ _, BRow.new _ _ b, HB2.out.size, bytes_below HB2.out HB2.out.size _ b⟩
        case rest =>
          obtain ⟨rfl, rfl, g, c, rfl, hc, hrow, hg, hb⟩ := hcut
          have HB3 := Aside0.mk hb
          have HR := Aside0.mk hrow
          have HG := Aside0.mk hg
          clear hb hrow hg kb
          have HL := Aside0.mk (bytesOf_length b)
          have hq : F + B / 8 < b.size := by omega
          have hcell := HR.out.cell (F + B / 8) (by rw [HL.out]; exact hq)
          have hfz := HR.out.frozen (F + B / 8) (by rw [HL.out]; exact hq)
          have hA : IntKind.i64.wrap ((B : Int) / 8) = (B : Int) / 8 := IntWalk.i64_in _ (by omega)
          have hBs : IntKind.i64.wrap ((F : Int) + (B : Int) / 8) = (F : Int) + (B : Int) / 8 := IntWalk.i64_in _ (by omega)
          have hs0 : 0 ≤ (F : Int) + (B : Int) / 8 := by omega
          have hs3 : (F : Int) + (B : Int) / 8 < (b.size : Int) := by omega
          have hs4 : ((F : Int) + (B : Int) / 8).toNat = F + B / 8 := by omega
          obtain ⟨M, hM⟩ : ∃ M, M = bitOf ((B : Int) % 8) := ⟨_, rfl⟩
          have HM := Aside0.mk hM
          clear hM
          have hM2 : IntKind.u8.wrap (2 ^ ((B : Int) % 8).toNat) = M := by
            have h_ := shl_small (k := .u8) (x := 1) (y := (B : Int) % 8) HM.out.symm (by show (B : Int) % 8 ≤ 8; omega)
            rw [Int.one_mul] at h_
            exact h_
          have hM3 : IntKind.u8.wrap (2 ^ min ((B : Int) % 8).toNat 8) = M := by rw [Nat.min_eq_left (by omega)]; exact hM2
          have hb8 : (B : Int) % 8 < 8 := by omega
          have hb0 : 0 ≤ (B : Int) % 8 := by omega
          go_upto_region 14 with (fail)
          go_cut [11] (fun v11 wd => v11 = .slice (some ⟨g, 0, none⟩) b.size c ∧ BRow 5 wd g ((bytesOf b).set (F + B / 8) (Go.bits .xor .u8 ((bytesOf b).getD (F + B / 8) 0) M)) ∧ Below w.heap.size w wd)
          case first =>
            go_region
            go_wp2
            go_meet
            case rel => exact ⟨rfl, by rw [List.getD_eq_getElem?_getD]; exact (HR.out.set _ _).below (below_drew1 (Below.refl _ _)), below_drew1 (below_set HB3.out HG.out)⟩
          case rest =>
            obtain ⟨rfl, hr4, hb4⟩ := hcut
            have kt := hr4.text (P := Try.prog) 30 9 Try.underlying30 Try.underlying5 Try.underlying9 c
            rw [List.length_set, HL.out] at kt
            obtain ⟨tx, htx⟩ : ∃ tx, tx = strOfNums ((bytesOf b).set (F + B / 8) (Go.bits .xor .u8 ((bytesOf b).getD (F + B / 8) 0) M)) := ⟨_, rfl⟩
            rw [← htx] at kt
            have HT := Aside0.mk (show sum_Open.f k tx = some (s1, r1, 3) by rw [htx, HM.out]; exact HO1.out)
            have HB4 := Aside0.mk hb4
            clear hb4 hr4 hcell hfz htx
            go_wp2_with (first | (go_at_call 19; (with_reducible refine (sum_Open.calls k tx s1 r1 3 _ HT.out).mono ?_); rintro e_ w5 ⟨rfl, hb⟩; have HB5 := Aside0.mk (below_step HB4.out hb); clear hb) | (go_at_call 19; (with_reducible refine (sum_Open.calls k _ s2 r2 2 _ HO2.out).mono ?_); rintro e_ w6 ⟨rfl, hb⟩; have HB6 := Aside0.mk (below_step HB5.out hb); clear hb))
            go_ret
            exact ⟨rfl, HB6.out⟩

-- NOT PRINTED: function 4 (tabulariumlaw02_SumParts)

-- NOT PRINTED: function 5 (tabulariumlaw02_SumBurst)

end Go.Proofs.Ytlggjcpaihpipaa.P
