/- The Go functions of this seat as plain Lean functions, and for each the proof that its call gives what the plain function gives. Printed by a program of this session. -/
import Derived.Test.YtljllecpmllefaaPx0
import Derived.Test.YtljllecpmllefaaPx8
import Derived.Test.YtljllecpmllefaaPx9
import Derived.Test.YtljllecpmllefaaPx13
namespace Go.Proofs.Ytljllecpmllefaa.P
open Go.RowKit Go.Proofs.YtljllecpmllefaaW.PrintWords Go.Proofs.YtljllecpmllefaaW.PrintLast Go.Proofs.YtljllecpmllefaaW.PrintMore
attribute [local go_sem] max2_int min2_int max_two min_two max_three min_three max_four min_four   -- for this text's walks alone
set_option linter.unusedVariables false
set_option linter.unusedSimpArgs false

/-! ### chunk_Whole: function 15 -/
theorem bld_app (a b : ByteArray) : Lib.strCells a ++ Lib.strCells b = Lib.strCells (a ++ b) := by simp [Lib.strCells]
def chunk_Whole.fin (k : Nat) (acc : ByteArray) (a3 : Bool) : Option (ByteArray × Int) := if a3 = true then (chunk_End.f k).bind fun t => if acc.size + t.size ≤ 140737488355328 then some (acc ++ t, 0) else none else some (acc, 0)
def chunk_Whole.f (k : Nat) (a0 : Int) (a1 : Int) (a2 : ByteArray) (a3 : Bool) : Option (ByteArray × Int) :=
  (chunk_Head.f k a0 a1).bind fun b => if b.2 = 0 then (if (a2.size : Int) > 64 then some ((⟨#[]⟩ : ByteArray), 4) else if b.1.size ≤ 140737488355328 then (if a2.toList = ([] : List UInt8) then chunk_Whole.fin k b.1 a3 else (chunk_seal.f k ((⟨#[100]⟩ : ByteArray) ++ a2)).bind fun t => if b.1.size + t.size ≤ 140737488355328 then chunk_Whole.fin k (b.1 ++ t) a3 else none) else none) else some ((⟨#[]⟩ : ByteArray), b.2)
theorem chunk_Whole.mono_fin : ∀ acc a3 k, LeO (chunk_Whole.fin k acc a3) (chunk_Whole.fin (k + 1) acc a3) := by
  intro acc a3 k
  unfold chunk_Whole.fin
  exact LeO.ite (LeO.bind (chunk_End.mono k) fun t => LeO.refl _) (LeO.refl _)
theorem chunk_Whole.mono : ∀ a0 a1 a2 a3 k, LeO (chunk_Whole.f k a0 a1 a2 a3) (chunk_Whole.f (k + 1) a0 a1 a2 a3) := by
  intro a0 a1 a2 a3 k
  unfold chunk_Whole.f
  exact LeO.bind (chunk_Head.mono a0 a1 k) fun b => LeO.ite (LeO.ite (LeO.refl _) (LeO.ite (LeO.ite (chunk_Whole.mono_fin _ _ k) (LeO.bind (chunk_seal.mono _ k) fun t => LeO.ite (chunk_Whole.mono_fin _ _ k) (LeO.refl _))) (LeO.refl _))) (LeO.refl _)
set_option maxHeartbeats 2000000 in
set_option maxRecDepth 100000 in
theorem chunk_Whole.calls (k : Nat) (a0 : Int) (a1 : Int) (a2 : ByteArray) (a3 : Bool) (r1 : ByteArray) (r2 : Int) (w : World) (h : chunk_Whole.f k a0 a1 a2 a3 = some (r1, r2)) :
    Calls Try.prog 15 #[.int .i64 a0, .int .i64 a1, .string a2, .bool a3] w fun e w' => e = .returned (.tuple #[.string r1, .int .i64 r2]) ∧ Below w.heap.size w w' := by
  obtain ⟨⟨b1, b2⟩, A1, H⟩ := Option.bind_eq_some_iff.mp h
  have A1 := Aside0.mk A1
  clear h
  replace H : (if b2 = 0 then (if (a2.size : Int) > 64 then some ((⟨#[]⟩ : ByteArray), 4) else if b1.size ≤ 140737488355328 then (if a2.toList = ([] : List UInt8) then chunk_Whole.fin k b1 a3 else (chunk_seal.f k ((⟨#[100]⟩ : ByteArray) ++ a2)).bind fun t => if b1.size + t.size ≤ 140737488355328 then chunk_Whole.fin k (b1 ++ t) a3 else none) else none) else some ((⟨#[]⟩ : ByteArray), b2)) = some (r1, r2) := H
  by_cases c1 : b2 = 0
  · rw [if_pos c1] at H
    subst c1
    by_cases c2 : (a2.size : Int) > 64
    · rw [if_pos c2] at H
      have c2b0 : decide (64 < (a2.size : Int)) = true := decide_eq_true c2
      have c2b1 : decide (64 < a2.size) = true := decide_eq_true (by omega)
      simp only [Option.some.injEq, Prod.mk.injEq] at H
      obtain ⟨rfl, rfl⟩ := H
      clear c2
      go_enter Try.func15, Try.ntmps15
      go_wp2_with (go_at_call 11; refine (chunk_Head.calls k a0 a1 b1 0 _ A1.out).mono ?_; rintro e w1 ⟨rfl, hb⟩)
      go_ret2
      exact ⟨rfl, hb⟩
    · rw [if_neg c2] at H
      have c2b0 : decide (64 < (a2.size : Int)) = false := decide_eq_false c2
      have c2b1 : decide (64 < a2.size) = false := decide_eq_false (by omega)
      by_cases c3 : b1.size ≤ 140737488355328
      · rw [if_pos c3] at H
        have hsz : a2.size ≤ 64 := by omega
        clear c2
        have tail : ∀ (acc : ByteArray), acc.size ≤ 140737488355328 → chunk_Whole.fin k acc a3 = some (r1, r2) → (a3 = false ∧ r1 = acc ∧ r2 = 0) ∨ ∃ t, a3 = true ∧ chunk_End.f k = some t ∧ acc.size + t.size ≤ 140737488355328 ∧ r1 = acc ++ t ∧ r2 = 0 := by
          intro acc _ hf
          unfold chunk_Whole.fin at hf
          cases a3 with
          | false =>
            rw [if_neg (by decide)] at hf
            simp only [Option.some.injEq, Prod.mk.injEq] at hf
            exact .inl ⟨rfl, hf.1.symm, hf.2.symm⟩
          | true =>
            rw [if_pos rfl] at hf
            obtain ⟨t, ht, hf⟩ := Option.bind_eq_some_iff.mp hf
            split at hf
            · rename_i q
              simp only [Option.some.injEq, Prod.mk.injEq] at hf
              exact .inr ⟨t, rfl, ht, q, hf.1.symm, hf.2.symm⟩
            · cases hf
        by_cases c4 : a2.toList = ([] : List UInt8)
        · rw [if_pos c4] at H
          have c4b0 : (a2.toList == ([] : List UInt8)) = true := beq_iff_eq.mpr c4
          have c4b1 : (a2.toList != ([] : List UInt8)) = false := bne_eq_false_iff_eq.mpr c4
          have T := tail b1 c3 H
          clear H tail c4
          go_enter Try.func15, Try.ntmps15
          go_wp2_with (go_at_call 11; fail)
          go_at_call 11
          refine (chunk_Head.calls k a0 a1 b1 0 _ A1.out).mono ?_
          rintro e w1 ⟨rfl, hb1⟩
          have HH := Aside0.mk hb1
          have HF := Aside0.mk (Lib.fresh_isBuilder 67 5 w1)
          have HA := Aside0.mk (below_alloc (Below.refl w1.heap.size w1) (.cells #[.pointer none, .slice none 0 0] 67))
          clear hb1
          go_wp2_with (go_at_call 34; fail)
          go_at_call 34
          refine (bld_write _ _ _ b1 _ HF.out (by simpa using c3) HA.out.size).mono ?_
          rintro e w2 ⟨rfl, hi, hb2⟩
          have HI2 : Aside0 (Lib.IsBuilder 67 5 w1.heap.size w1.heap.size (Lib.strCells b1) w2) := ⟨Or.inr (by simpa using hi)⟩
          have HB2 := Aside0.mk (HA.out.trans hb2)
          clear HF HA hi hb2
          rcases T with ⟨rfl, e1, rfl⟩ | ⟨t2, rfl, ht2, hz2, rfl, rfl⟩
          · replace e1 := e1.symm
            subst e1
            go_wp2_with (go_at_call 35; fail)
            go_at_call 35
            refine (bld_string _ _ b1 _ HI2.out HB2.out.size).mono ?_
            rintro e w8 ⟨rfl, hb8⟩
            have HB8 := Aside0.mk (HB2.out.trans hb8)
            clear hb8
            go_wp2
            go_ret2
            exact ⟨rfl, below_step HH.out HB8.out⟩
          · have E2 := Aside0.mk ht2
            clear ht2
            go_wp2_with (go_at_call 14; fail)
            go_at_call 14
            refine (chunk_End.calls k t2 _ E2.out).mono ?_
            rintro e w5 ⟨rfl, hb5⟩
            have HI5 := Aside0.mk (bld_below HI2.out hb5)
            have HB5 := Aside0.mk (below_then HB2.out HB2.out.size hb5)
            clear hb5
            go_wp2_with (go_at_call 34; fail)
            go_at_call 34
            refine (bld_write _ _ _ t2 _ HI5.out (by rw [Lib.strCells_length]; exact hz2) HB5.out.size).mono ?_
            rintro e w6 ⟨rfl, hi, hb6⟩
            rw [bld_app] at hi
            have HI6 : Aside0 (Lib.IsBuilder 67 5 w1.heap.size w1.heap.size (Lib.strCells (b1 ++ t2)) w6) := ⟨Or.inr hi⟩
            have HB6 := Aside0.mk (HB5.out.trans hb6)
            clear hi hb6
            go_wp2_with (go_at_call 35; fail)
            go_at_call 35
            refine (bld_string _ _ (b1 ++ t2) _ HI6.out HB6.out.size).mono ?_
            rintro e w8 ⟨rfl, hb8⟩
            have HB8 := Aside0.mk (HB6.out.trans hb8)
            clear hb8
            go_wp2
            go_ret2
            exact ⟨rfl, below_step HH.out HB8.out⟩
        · rw [if_neg c4] at H
          have c4b0 : (a2.toList == ([] : List UInt8)) = false := beq_eq_false_iff_ne.mpr c4
          have c4b1 : (a2.toList != ([] : List UInt8)) = true := bne_iff_ne.mpr c4
          have c4b2 : (9223372036854775807 < 1 + a2.size) = False := eq_false (by omega)
          obtain ⟨t1, ht1, H⟩ := Option.bind_eq_some_iff.mp H
          by_cases c5 : b1.size + t1.size ≤ 140737488355328
          · replace H : (if b1.size + t1.size ≤ 140737488355328 then chunk_Whole.fin k (b1 ++ t1) a3 else none) = some (r1, r2) := H
            rw [if_pos c5] at H
            have T := tail (b1 ++ t1) (by rw [ByteArray.size_append]; exact c5) H
            have E1 := Aside0.mk ht1
            clear H tail c4 ht1
            go_enter Try.func15, Try.ntmps15
            go_wp2_with (go_at_call 11; fail)
            go_at_call 11
            refine (chunk_Head.calls k a0 a1 b1 0 _ A1.out).mono ?_
            rintro e w1 ⟨rfl, hb1⟩
            have HH := Aside0.mk hb1
            have HF := Aside0.mk (Lib.fresh_isBuilder 67 5 w1)
            have HA := Aside0.mk (below_alloc (Below.refl w1.heap.size w1) (.cells #[.pointer none, .slice none 0 0] 67))
            clear hb1
            go_wp2_with (go_at_call 34; fail)
            go_at_call 34
            refine (bld_write _ _ _ b1 _ HF.out (by simpa using c3) HA.out.size).mono ?_
            rintro e w2 ⟨rfl, hi, hb2⟩
            have HI2 : Aside0 (Lib.IsBuilder 67 5 w1.heap.size w1.heap.size (Lib.strCells b1) w2) := ⟨Or.inr (by simpa using hi)⟩
            have HB2 := Aside0.mk (HA.out.trans hb2)
            clear HF HA hi hb2
            go_wp2_with (go_at_call 32; fail)
            go_at_call 32
            refine (chunk_seal.calls k _ t1 _ E1.out).mono ?_
            rintro e w3 ⟨rfl, hb3⟩
            have HI3 := Aside0.mk (bld_below HI2.out hb3)
            have HB3 := Aside0.mk (below_then HB2.out HB2.out.size hb3)
            clear hb3 HI2 HB2
            go_wp2_with (go_at_call 34; fail)
            go_at_call 34
            refine (bld_write _ _ _ t1 _ HI3.out (by rw [Lib.strCells_length]; exact c5) HB3.out.size).mono ?_
            rintro e w4 ⟨rfl, hi, hb4⟩
            rw [bld_app] at hi
            have HI4 : Aside0 (Lib.IsBuilder 67 5 w1.heap.size w1.heap.size (Lib.strCells (b1 ++ t1)) w4) := ⟨Or.inr hi⟩
            have HB4 := Aside0.mk (HB3.out.trans hb4)
            clear hi hb4 HI3 HB3
            rcases T with ⟨rfl, e1, rfl⟩ | ⟨t2, rfl, ht2, hz2, rfl, rfl⟩
            · replace e1 := e1.symm
              subst e1
              go_wp2_with (go_at_call 35; fail)
              go_at_call 35
              refine (bld_string _ _ (b1 ++ t1) _ HI4.out HB4.out.size).mono ?_
              rintro e w8 ⟨rfl, hb8⟩
              have HB8 := Aside0.mk (HB4.out.trans hb8)
              clear hb8
              go_wp2
              go_ret2
              exact ⟨rfl, below_step HH.out HB8.out⟩
            · have E2 := Aside0.mk ht2
              clear ht2
              go_wp2_with (go_at_call 14; fail)
              go_at_call 14
              refine (chunk_End.calls k t2 _ E2.out).mono ?_
              rintro e w5 ⟨rfl, hb5⟩
              have HI5 := Aside0.mk (bld_below HI4.out hb5)
              have HB5 := Aside0.mk (below_then HB4.out HB4.out.size hb5)
              clear hb5
              go_wp2_with (go_at_call 34; fail)
              go_at_call 34
              refine (bld_write _ _ _ t2 _ HI5.out (by rw [Lib.strCells_length]; exact hz2) HB5.out.size).mono ?_
              rintro e w6 ⟨rfl, hi, hb6⟩
              rw [bld_app] at hi
              have HI6 : Aside0 (Lib.IsBuilder 67 5 w1.heap.size w1.heap.size (Lib.strCells ((b1 ++ t1) ++ t2)) w6) := ⟨Or.inr hi⟩
              have HB6 := Aside0.mk (HB5.out.trans hb6)
              clear hi hb6
              go_wp2_with (go_at_call 35; fail)
              go_at_call 35
              refine (bld_string _ _ ((b1 ++ t1) ++ t2) _ HI6.out HB6.out.size).mono ?_
              rintro e w8 ⟨rfl, hb8⟩
              have HB8 := Aside0.mk (HB6.out.trans hb8)
              clear hb8
              go_wp2
              go_ret2
              exact ⟨rfl, below_step HH.out HB8.out⟩
          · replace H : (if b1.size + t1.size ≤ 140737488355328 then chunk_Whole.fin k (b1 ++ t1) a3 else none) = some (r1, r2) := H
            rw [if_neg c5] at H
            cases H
      · rw [if_neg c3] at H; cases H
  · rw [if_neg c1] at H
    have c1b0 : (b2 == 0) = false := beq_eq_false_iff_ne.mpr c1
    have c1b1 : (b2 != 0) = true := bne_iff_ne.mpr c1
    simp only [Option.some.injEq, Prod.mk.injEq] at H
    obtain ⟨rfl, rfl⟩ := H
    go_enter Try.func15, Try.ntmps15
    go_wp2_with (go_at_call 11; refine (chunk_Head.calls k a0 a1 b1 b2 _ A1.out).mono ?_; rintro e w1 ⟨rfl, hb⟩)
    go_ret2
    exact ⟨rfl, hb⟩

/-! ### tabulariumref02_Four: function 41 -/
def tabulariumref02_Four.f (a0 : Int) : Option (ByteArray) := some (strOfNums (([(a0 / 16777216) % 256, (a0 / 65536) % 256, (a0 / 256) % 256, (a0) % 256] : List Int)))
set_option maxHeartbeats 8000000 in
set_option maxRecDepth 100000 in
theorem tabulariumref02_Four.calls (a0 : Int) (r : ByteArray) (w : World) (h : tabulariumref02_Four.f a0 = some r) :
    Calls Try.prog 41 #[.int .u32 a0] w fun e w' => e = .returned (.string r) ∧ Below w.heap.size w w' := by
  have HB := Aside0.mk (Below.refl w.heap.size w)
  have H : (some (strOfNums (([(a0 / 16777216) % 256, (a0 / 65536) % 256, (a0 / 256) % 256, (a0) % 256] : List Int)))) = some r := h
  clear h
  obtain ⟨y165, hy165⟩ : ∃ y_ : List Int, y_ = (([(a0 / 16777216) % 256, (a0 / 65536) % 256, (a0 / 256) % 256, (a0) % 256] : List Int)) := ⟨_, rfl⟩
  replace H : (some (strOfNums y165)) = some r := by first | (rw [hy165]; with_reducible exact H) | (have H2_ := (Option.bind_some _ _).symm.trans H; rw [hy165]; with_reducible exact H2_) | (have H2_ := (Option.bind_some _ _).symm.trans H; with_reducible exact H2_) | with_reducible exact H | (rw [hy165]; exact H) | exact H
  have Ny165 := Aside0.mk hy165
  clear hy165
  obtain rfl := Option.some.inj H
  go_enter Try.func41, Try.ntmps41
  go_wp2_with (first | ((with_reducible refine gate_dst (N := 15) rfl ?_); refine Kd.R_lit (Kd.int .u8) _ 5 ?hg (N := 15) ?hd (xs := ([(a0 / 16777216) % 256, (a0 / 65536) % 256, (a0 / 256) % 256, (a0) % 256] : List Int)) (inner := [.int .u8 ((a0 / 16777216) % 256), .int .u8 ((a0 / 65536) % 256), .int .u8 ((a0 / 256) % 256), .int .u8 ((a0) % 256)]) (ok := fun _ => True) (okp := fun _ => True) ?hr ?hp (fun _ hk => hk) trivial (Below.refl _ _) (Nat.le_refl _) (by simp) ?_; (case hd => rfl); (case hg => rfl); (case hr => first | (go_simp; done) | (go_simp; rfl)); (case hp => exact (Reps.one (show Kd.M (Kd.int .u8) _ _ _ ((a0 / 16777216) % 256) [.int .u8 ((a0 / 16777216) % 256)] from rfl) (Reps.one (show Kd.M (Kd.int .u8) _ _ _ ((a0 / 65536) % 256) [.int .u8 ((a0 / 65536) % 256)] from rfl) (Reps.one (show Kd.M (Kd.int .u8) _ _ _ ((a0 / 256) % 256) [.int .u8 ((a0 / 256) % 256)] from rfl) (Reps.one (show Kd.M (Kd.int .u8) _ _ _ ((a0) % 256) [.int .u8 ((a0) % 256)] from rfl) (Reps.none _ _)))))); intro v166 w2 ho3 hb hg_ hnew_; clear hg_ hnew_; (first | rw [← Ny165.out] at ho3 | (simp only [Int.reduceToNat] at ho3; rw [← Ny165.out] at ho3)); have n0_ := Aside0.mk (Kd.R_lower ho3 (below_size (by repeat (first | (with_reducible first | exact HB.out | apply below_alloc | apply pw_below_drewN | apply below_drew1) | exact HB.out)))); have n1_ := Aside0.mk (below_step (by repeat (first | (with_reducible first | exact HB.out | apply below_alloc | apply pw_below_drewN | apply below_drew1) | exact HB.out)) hb); clear HB; have HO167 := n0_; have HB := n1_; clear n0_ n1_; clear hb ho3; have hcv4 := own_string (P := Try.prog) Try.underlying36 Try.underlying5 Try.underlying9 (Kd.own_of_R HO167.out)))
  go_ret
  exact ⟨by first | rfl | (simp [errW_none, errW_some] <;> rfl) | (simp [*, errW_none, errW_some] <;> rfl), by repeat (first | (with_reducible first | exact HB.out | apply below_alloc | apply pw_below_drewN | apply below_drew1) | exact HB.out)⟩

end Go.Proofs.Ytljllecpmllefaa.P
