/- The Go functions of this seat as plain Lean functions, and for each the proof that its call gives what the plain function gives. Printed by a program of this session. -/
import Derived.Test.YtlggjcpaihpipaaPx0
import Derived.Test.YtlggjcpaihpipaaPx1
import Derived.Test.YtlggjcpaihpipaaPx4
namespace Go.Proofs.Ytlggjcpaihpipaa.P
open Go.RowKit Go.Proofs.YtlggjcpaihpipaaW.PrintWords Go.Proofs.YtlggjcpaihpipaaW.PrintLast Go.Proofs.YtlggjcpaihpipaaW.PrintMore
attribute [local go_sem] max2_int min2_int max_two min_two max_three min_three max_four min_four   -- for this text's walks alone
set_option linter.unusedVariables false
set_option linter.unusedSimpArgs false

/-! ### tabulariumlaw02_SumBurst: function 5 -/
/-- some bytes that stand side by side, put anew -/
def bset (l : List Int) (p : Nat) (z : List Int) : Nat → List Int
  | 0 => l
  | n + 1 => (bset l p z n).set (p + n) (nn (z.getD n 0) % 256)
theorem bset_length (l : List Int) (p : Nat) (z : List Int) (n : Nat) : (bset l p z n).length = l.length := by
  induction n with
  | zero => rfl
  | succ n ih => rw [bset, List.length_set, ih]
/-- how many -/
def bmany (z : List Int) (p m : Nat) : Nat := min (min z.length 4) (m - p)
/-- what the law needs: the plain facts -/
def tabulariumlaw02_SumBurst.Pure : Prop := ∀ (a0 : ByteArray) (a1 : Int) (l2 : List Int), a0.size ≤ 140737488351232 → (Lit.int .i64 a1).wf = true → l2.length ≤ maxLen → l2.length * 8 ≤ 140737488351232 → (∀ x ∈ l2, (Lit.int .i64 x).wf = true) → ∃ k, tabulariumlaw02_examples.f k = some true ∧
  (a0.toList = [] ∨ a0.toList ≠ [] ∧ 0 < a0.size ∧ ∃ c1 c2, sum_Sum.f (strOfNums (bset (bytesOf a0) (nn a1 % (a0.size : Int)).toNat l2 (bmany l2 (nn a1 % (a0.size : Int)).toNat a0.size))) = some c1 ∧ sum_Sum.f a0 = some c2 ∧
    (((strOfNums (bset (bytesOf a0) (nn a1 % (a0.size : Int)).toNat l2 (bmany l2 (nn a1 % (a0.size : Int)).toNat a0.size))).toList == a0.toList) == (c1 == c2)) = true)
set_option maxHeartbeats 4000000 in
set_option maxRecDepth 100000 in
theorem tabulariumlaw02_SumBurst.walk (P : tabulariumlaw02_SumBurst.Pure) (a0 : ByteArray) (a1 : Int) (a2 : Option Addr) (len2 cap2 : Nat) (z2 : List Int) (w : World) (w0 : a0.size ≤ 140737488351232) (w1 : (Lit.int .i64 a1).wf = true) (w2 : (a2 = none ∧ len2 = 0 ∧ cap2 = 0 ∧ z2 = []) ∨ ∃ x, a2 = some x ∧ len2 ≤ cap2 ∧ cap2 ≤ maxLen ∧ z2.length = cap2 ∧ (∀ i, i < z2.length → w.cell? (x.add i) = some (.int .i64 (z2.getD i 0))) ∧ ∀ n ∈ z2, (Lit.int .i64 n).wf = true) (y2 : len2 * 8 ≤ 140737488351232) :
    Calls Try.prog 5 #[.string a0, .int .i64 a1, .slice a2 len2 cap2] w fun e w' => e = .returned (.bool true) ∧ Below w.heap.size w w' := by
  obtain ⟨l2, rfl, hr2, hm2, hw2, hc2⟩ := ReadsInt.ofRowC w2
  obtain ⟨k, hx0, hc⟩ := P a0 a1 l2 w0 w1 hm2 y2 hw2
  have HX := Aside0.mk hx0
  have HW2 := Aside0.mk hw2
  have HR2 := Aside0.mk (Kd.C_of_reads (d := (0 : Int)) (h1 := fun _ => rfl) hr2)
  have HC2 := Aside0.mk hc2
  have HM2 := Aside0.mk hm2
  clear hx0 P hw2 hr2 hc2 hm2 w2
  have HB := Aside0.mk (Below.refl w.heap.size w)
  have W1 := Aside0.mk w1
  have hn := nn_range w1
  have r1_ : -9223372036854775808 ≤ a1 ∧ a1 ≤ 9223372036854775807 := by simpa [Lit.wf, IntKind.min, IntKind.max, IntKind.signed, IntKind.bits] using w1
  have HC := Aside0.mk hc
  clear w1 hc
  go_enter Try.func5, Try.ntmps5
  go_upto_if 13 with (go_at_call 9; (with_reducible refine (tabulariumlaw02_examples.calls k true _ HX.out).mono ?_); rintro e_ w3 ⟨rfl, hb⟩; have HB1 := Aside0.mk (below_step HB.out hb); clear hb)
  go_cut [1] (fun v1 wd => v1 = .int .i64 (nn a1) ∧ wd = w3)
  case first =>
    by_cases c2 : a1 < 0
    · have E_ := Aside0.mk (show -(a1 + 1) = nn a1 by unfold nn; rw [if_pos c2])
      go_wp2
      go_meet
      case rel => exact ⟨by rw [E_.out], rfl⟩
    · have E_ := Aside0.mk (nn_pos c2)
      go_wp2
      go_meet
      case rel => exact ⟨by rw [← E_.out], rfl⟩
  case rest =>
    obtain ⟨rfl, rfl⟩ := hcut
    clear r1_ W1
    rcases HC.out with h0 | ⟨h0, h1, c1, c2, hs1, hs2, he⟩
    · have e1 : (a0.toList == ([] : List UInt8)) = true := beq_iff_eq.mpr h0
      have e2 : (a0.toList != ([] : List UInt8)) = false := bne_eq_false_iff_eq.mpr h0
      clear HC
      go_wp2
      go_ret
      exact ⟨rfl, HB1.out⟩
    · have e1 : (a0.toList == ([] : List UInt8)) = false := beq_eq_false_iff_ne.mpr h0
      have e2 : (a0.toList != ([] : List UInt8)) = true := bne_iff_ne.mpr h0
      have HS2 := Aside0.mk hs2
      have H0 := Aside0.mk h0
      clear HC hs2 h0
      obtain ⟨p, hp⟩ : ∃ p : Nat, nn a1 % (a0.size : Int) = (p : Int) := ⟨(nn a1 % (a0.size : Int)).toNat, (Int.toNat_of_nonneg (Int.emod_nonneg _ (by omega))).symm⟩
      have hp2 : p < a0.size := by have := Int.emod_lt_of_pos (nn a1) (show 0 < (a0.size : Int) by omega); omega
      rw [hp, Int.toNat_natCast] at hs1 he
      have HP := Aside0.mk hp
      obtain ⟨N, hN⟩ : ∃ N, N = bmany l2 p a0.size := ⟨_, rfl⟩
      rw [← hN] at hs1 he
      have hN1 : N ≤ l2.length := by rw [hN]; unfold bmany; omega
      have hN2 : N ≤ 4 := by rw [hN]; unfold bmany; omega
      have hN3 : p + N ≤ a0.size := by rw [hN]; unfold bmany; omega
      have HN := Aside0.mk hN
      have HS1 := Aside0.mk hs1
      have HE := Aside0.mk he
      clear hp hN hs1 he
      have kb := fun W => print_bytes (P := Try.prog) 9 30 5 Try.underlying9 Try.underlying30 Try.underlying5 a0 W
      go_upto_region 6 with (fail)
      go_cut [8] (fun v8 wd => ∃ g c, v8 = .slice (some ⟨g, 0, none⟩) a0.size c ∧ a0.size ≤ c ∧ BRow 5 wd g (bytesOf a0) ∧ w.heap.size ≤ g ∧ Below w.heap.size w wd)
      case first =>
        go_wp2
        go_meet
        case rel => exact ⟨_, _, rfl, grownCap_ge _ _ _ _, BRow.new _ _ a0, HB1.out.size, bytes_below HB1.out HB1.out.size _ a0⟩
      case rest =>
        obtain ⟨g, c, rfl, hc, hrow, hg, hb⟩ := hcut
        have HB3 := Aside0.mk hb
        have HR := Aside0.mk hrow
        have HG := Aside0.mk hg
        have HL := Aside0.mk (bytesOf_length a0)
        clear hb hrow hg kb
        go_wp2
        go_loopg [9] (N + 1) (fun gq v9 w' => ∃ i : Nat, i ≤ N ∧ v9 = .int .i64 i ∧ Aside0 (gq + i = N + 1) ∧ Aside0 (BRow 5 w' g (bset (bytesOf a0) p l2 i)) ∧ Aside0 (Below w.heap.size w w'))
        case atStart => exact ⟨0, Nat.zero_le _, rfl, ⟨rfl⟩, HR, HB3⟩
        case round =>
          clear HR HB3
          obtain ⟨i, hi, rfl, HQ, HR, HB3⟩ := hrel
          by_cases hlt : i < N
          · have hp := HP.out
            have q1 : decide ((i : Int) < (l2.length : Int)) = true := decide_eq_true (by omega)
            have q1b : decide (i < l2.length) = true := decide_eq_true (by omega)
            have q2 : decide ((i : Int) < 4) = true := decide_eq_true (by omega)
            have q2b : decide (i < 4) = true := decide_eq_true (by omega)
            have q3 : decide ((p : Int) + (i : Int) < (a0.size : Int)) = true := decide_eq_true (by omega)
            have q3b : decide (p + i < a0.size) = true := decide_eq_true (by omega)
            obtain ⟨ad, ead, hx⟩ := Kd.at_int HR2.out (i : Int) (by omega) (by omega)
            cases ead
            replace hx := (HB3.out.cell (World.block_lt_of_cell? w _ hx)).trans hx
            rw [Int.toNat_natCast] at hx
            obtain ⟨z, hz⟩ : ∃ z, z = rd l2 (i : Int) := ⟨_, rfl⟩
            rw [← hz] at hx
            have hz2 : z = l2.getD i 0 := by rw [hz]; unfold rd; simp
            have hzw : (Lit.int .i64 z).wf = true := by
              refine HW2.out z ?_
              rw [hz2, List.getD_eq_getElem?_getD, List.getElem?_eq_getElem (by omega)]
              exact List.getElem_mem _
            have HZ := Aside0.mk hz2
            have hzr := nn_range hzw
            have r3_ : -9223372036854775808 ≤ z ∧ z ≤ 9223372036854775807 := by simpa [Lit.wf, IntKind.min, IntKind.max, IntKind.signed, IntKind.bits] using hzw
            have hi2 : 0 ≤ (i : Int) := by omega
            have hi3 : (i : Int) < (l2.length : Int) := by omega
            have hi4 : p + i < a0.size := by omega
            have HI := Aside0.mk hlt
            clear hz hz2 hzw hlt
            go_upto_if 48 with (fail)
            go_cut [10] (fun v10 wd => v10 = .int .i64 (nn z) ∧ wd = wr)
            case first =>
              by_cases c2 : z < 0
              · have E_ := Aside0.mk (show -(z + 1) = nn z by unfold nn; rw [if_pos c2])
                go_wp2
                go_meet
                case rel => exact ⟨by rw [E_.out], rfl⟩
              · have E_ := Aside0.mk (nn_pos c2)
                go_wp2
                go_meet
                case rel => exact ⟨by rw [← E_.out], rfl⟩
            case rest =>
              obtain ⟨rfl, rfl⟩ := hcut
              clear r3_ hx
              have hlen : (bset (bytesOf a0) p l2 i).length = a0.size := by rw [bset_length, HL.out]
              have hcell := HR.out.cell (p + i) (by rw [hlen]; omega)
              have hfz := HR.out.frozen (p + i) (by rw [hlen]; omega)
              have hs3 : (p : Int) + (i : Int) < (a0.size : Int) := by omega
              have hs4 : ((p : Int) + (i : Int)).toNat = p + i := by omega
              have hv0 : 0 ≤ nn z % 256 := by omega
              have hv1 : nn z % 256 < 256 := by omega
              clear hlen
              go_wp2
              go_roundg (gk - 1)
              case measure => have := HQ.out; have := HI.out; omega
              case rel => exact ⟨i + 1, HI.out, by go_num, ⟨by have := HQ.out; have := HI.out; omega⟩, ⟨by rw [bset, ← HZ.out]; exact HR.out.set (p + i) (nn z % 256)⟩, ⟨below_set HB3.out HG.out⟩⟩
          · have hp := HP.out
            obtain rfl : i = N := by omega
            have hN' := HN.out
            have ht3 : l2.length ≤ i ∨ i < l2.length ∧ 4 ≤ i ∨ i < l2.length ∧ i < 4 ∧ a0.size ≤ p + i := by unfold bmany at hN'; omega
            clear hN' hlt
            obtain ⟨tx, htx⟩ : ∃ tx, tx = strOfNums (bset (bytesOf a0) p l2 i) := ⟨_, rfl⟩
            have HS1' := Aside0.mk (show sum_Sum.f tx = some c1 by rw [htx]; exact HS1.out)
            have HE' : Aside0 (((tx.toList == a0.toList) == (c1 == c2)) = true) := ⟨by rw [htx]; exact HE.out⟩
            have HK : Aside0 (∀ W, Below wr.heap.size wr W → (convert 30 9 (.slice (some ⟨g, 0, none⟩) a0.size c)).run Try.prog W = .ok (.string tx) W) := ⟨fun W hb => by
              have kt := (HR.out.below hb).text (P := Try.prog) 30 9 Try.underlying30 Try.underlying5 Try.underlying9 c
              rw [bset_length, HL.out, ← htx] at kt
              exact kt⟩
            clear htx HS1 HE HN
            rcases ht3 with q | ⟨q, q'⟩ | ⟨q, q', q''⟩
            case' inl =>
              have q1 : decide ((i : Int) < (l2.length : Int)) = false := decide_eq_false (by omega)
              have q1b : decide (i < l2.length) = false := decide_eq_false (by omega)
              clear q
            case' inr.inl =>
              have q1 : decide ((i : Int) < (l2.length : Int)) = true := decide_eq_true (by omega)
              have q1b : decide (i < l2.length) = true := decide_eq_true (by omega)
              have q2 : decide ((i : Int) < 4) = false := decide_eq_false (by omega)
              have q2b : decide (i < 4) = false := decide_eq_false (by omega)
              clear q q'
            case' inr.inr =>
              have q1 : decide ((i : Int) < (l2.length : Int)) = true := decide_eq_true (by omega)
              have q1b : decide (i < l2.length) = true := decide_eq_true (by omega)
              have q2 : decide ((i : Int) < 4) = true := decide_eq_true (by omega)
              have q2b : decide (i < 4) = true := decide_eq_true (by omega)
              have q3 : decide ((p : Int) + (i : Int) < (a0.size : Int)) = false := decide_eq_false (by omega)
              have q3b : decide (p + i < a0.size) = false := decide_eq_false (by omega)
              clear q q' q''
            all_goals
              go_upto_region 14 with (fail)
              go_region_held3 (fun W => (convert 30 9 (.slice (some ⟨g, 0, none⟩) a0.size c)).run Try.prog W = .ok (.string tx) W) (first | exact HK.out _ (below_drew1 (Below.refl _ _)) | exact HK.out _ (Aside0.out (by assumption))) (first | (go_at_call 13; (with_reducible refine (sum_Sum.calls tx c1 _ HS1'.out).mono ?_); rintro e_ w5 ⟨rfl, hb⟩; have HD1 := Aside0.mk (below_step (below_drew1 (Below.refl wr.heap.size wr)) hb); clear hb) | (go_at_call 13; (with_reducible refine (sum_Sum.calls a0 c2 _ HS2.out).mono ?_); rintro e_ w6 ⟨rfl, hb⟩; have HD2 := Aside0.mk (below_step HD1.out hb); clear hb))
              go_wp2
              go_ret
              exact ⟨by first | rfl | (rw [HE'.out]; rfl), below_step HB3.out HD2.out⟩

end Go.Proofs.Ytlggjcpaihpipaa.P
