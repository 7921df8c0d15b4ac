/- The Go functions of this seat as plain Lean functions, and for each the proof that its call gives what the plain function gives. Printed by a program of this session. -/
import Derived.Test.YtabgoiacjfekpaaPx0
import Derived.Test.YtabgoiacjfekpaaPx1
import Derived.Test.YtabgoiacjfekpaaPx2
namespace Go.Proofs.Ytabgoiacjfekpaa.P
open Go.RowKit Go.Proofs.YtabgoiacjfekpaaW.PrintWords Go.Proofs.YtabgoiacjfekpaaW.PrintLast Go.Proofs.YtabgoiacjfekpaaW.PrintMore
attribute [local go_sem] max2_int min2_int max_two min_two max_three min_three max_four min_four   -- for this text's walks alone
set_option linter.unusedVariables false
set_option linter.unusedSimpArgs false

-- NOT PRINTED: function 18 (sort_Search)

/-! ### safe_Safe_Missing: function 10 -/
set_option maxHeartbeats 8000000 in
set_option maxRecDepth 100000 in
theorem real_Reached.quiet (a0 : Int) (a1 : Int) (a2 : Nat) (r : Bool) (w : World) (h : real_Reached.f a0 a1 a2 = some r) :
    Calls Try.prog 17 #[.int .i64 a0, .int .i64 a1, .float .f64 a2] w fun e w' => e = .returned (.bool r) ∧ Drawn0 w w' := by
  have H : (if a1 < 1 then (some true) else ((math_IsNaN.f a2).bind fun t108 => (if t108 = true then (some false) else (if (FloatKind.f64.format.mul a2 (floatOfInt .f64 a1)).isSome = true then (some (!(FloatKind.f64.format.order (floatOfInt .f64 (mx a0 0)) ((FloatKind.f64.format.mul a2 (floatOfInt .f64 a1)).getD 0) == some .lt))) else (none))))) = some r := h
  clear h
  by_cases c4 : a1 < 1
  · rw [if_pos c4] at H
    have c4b0 : decide (a1 < 1) = true := decide_eq_true c4
    clear c4
    obtain rfl := Option.some.inj H
    go_enter Try.func17, Try.ntmps17
    go_wp2
    go_ret
    exact ⟨by first | rfl | (simp [errW_none, errW_some] <;> rfl) | (simp [*, errW_none, errW_some] <;> rfl), by repeat (first | exact Drawn0.refl _ | apply Drawn0.step)⟩
  · rw [if_neg c4] at H
    have c4b0 : decide (a1 < 1) = false := decide_eq_false c4
    clear c4
    replace H := Option.bind_eq_some_iff.mp H
    obtain ⟨t108, A50, H⟩ := H
    replace H : (if t108 = true then (some false) else (if (FloatKind.f64.format.mul a2 (floatOfInt .f64 a1)).isSome = true then (some (!(FloatKind.f64.format.order (floatOfInt .f64 (mx a0 0)) ((FloatKind.f64.format.mul a2 (floatOfInt .f64 a1)).getD 0) == some .lt))) else (none))) = some r := H
    have A5 := Aside0.mk A50
    clear A50
    by_cases c6 : t108 = true
    · subst c6
      have H1 : (some false) = some r := by rw [if_pos rfl] at H; exact H
      clear H
      have H := H1
      clear H1
      obtain rfl := Option.some.inj H
      go_enter Try.func17, Try.ntmps17
      go_wp2_with (first | ((with_reducible refine gate_callee (f := 22) rfl ?_); refine goesL_ (some 10) rfl rfl Try.func22 (by kernel_rfl) rfl #[.float .f64 a2] rfl (by (try simp only [List.map_toArray, List.map_cons, List.map_nil]); first | done | rfl | (simp only [List.length_drop, List.length_take]; rfl)) ?_; (with_reducible refine (math_IsNaN.calls a2 true _ A5.out).mono ?_); rintro e w' ⟨rfl, ⟨nd, rfl⟩⟩; refine ⟨_, rfl, ?_⟩))
      go_ret
      exact ⟨by first | rfl | (simp [errW_none, errW_some] <;> rfl) | (simp [*, errW_none, errW_some] <;> rfl), by repeat (first | exact Drawn0.refl _ | apply Drawn0.step)⟩
    · replace c6 := Bool.eq_false_iff.mpr c6
      subst c6
      have H1 : (if (FloatKind.f64.format.mul a2 (floatOfInt .f64 a1)).isSome = true then (some (!(FloatKind.f64.format.order (floatOfInt .f64 (mx a0 0)) ((FloatKind.f64.format.mul a2 (floatOfInt .f64 a1)).getD 0) == some .lt))) else (none)) = some r := by rw [if_neg (show ¬ (false = true) by decide)] at H; exact H
      clear H
      have H := H1
      clear H1
      obtain ⟨ji7, hji7⟩ : ∃ j_ : Int, (mx a0 0) = j_ := ⟨_, rfl⟩
      replace H : (if (FloatKind.f64.format.mul a2 (floatOfInt .f64 a1)).isSome = true then (some (!(FloatKind.f64.format.order (floatOfInt .f64 (ji7)) ((FloatKind.f64.format.mul a2 (floatOfInt .f64 a1)).getD 0) == some .lt))) else (none)) = some r := by first | (rw [hji7] at H; exact H) | (simp only [hji7] at H ⊢; exact H)
      (try rw [hji7] at A5)
      (try (have hji7l : 0 ≤ ji7 := by (rw [← hji7]; unfold mx; (repeat' split) <;> omega)))
      (try (have hji7m : 0 ≤ ji7 := by omega))
      have hji7_ : (if a0 < 0 then 0 else a0) = ji7 := hji7
      by_cases c8 : (FloatKind.f64.format.mul a2 (floatOfInt .f64 a1)).isSome = true
      · rw [if_pos c8] at H
        have c8b0 : ∀ (t_ : TypeId) (W_ : World), (binOp .mul t_ (.float .f64 a2) (.float .f64 (floatOfInt .f64 a1))).run Try.prog W_ = .ok (.float .f64 ((FloatKind.f64.format.mul a2 (floatOfInt .f64 a1)).getD 0)) W_ := fun t_ W_ => flt_mul c8 t_ W_
        clear c8
        obtain rfl := Option.some.inj H
        go_enter Try.func17, Try.ntmps17
        go_wp2_with (first | ((with_reducible refine gate_callee (f := 22) rfl ?_); refine goesL_ (some 10) rfl rfl Try.func22 (by kernel_rfl) rfl #[.float .f64 a2] rfl (by (try simp only [List.map_toArray, List.map_cons, List.map_nil]); first | done | rfl | (simp only [List.length_drop, List.length_take]; rfl)) ?_; (with_reducible refine (math_IsNaN.calls a2 false _ A5.out).mono ?_); rintro e w' ⟨rfl, ⟨nd, rfl⟩⟩; refine ⟨_, rfl, ?_⟩))
        go_ret
        exact ⟨by first | rfl | (simp [errW_none, errW_some] <;> rfl) | (simp only [← hji7]; first | rfl | (simp [errW_none, errW_some] <;> rfl)) | (simp [*, errW_none, errW_some] <;> rfl), by repeat (first | exact Drawn0.refl _ | apply Drawn0.step)⟩
      · rw [if_neg c8] at H
        exact absurd H (by simp)


set_option maxHeartbeats 8000000 in
set_option maxRecDepth 100000 in
theorem miss1_calls (k : Int) (b g : Nat) (s0 : Nat) (s1 : Bool) (s2 s3 : Int) (r : Bool) (w : World) (hb : w.cell? ⟨b, 0, none⟩ = some (.pointer (some ⟨g, 0, none⟩)))
    (hG : w.heap[g]? = some (.cells #[.float .f64 s0, .bool s1, .int .i64 s2, .int .i64 s3] 41 (0, 0))) (h : real_Reached.f (wrap64 (s2 + k)) s3 s0 = some r) :
    Calls Try.prog 19 #[.int .i64 k, .pointer (some ⟨b, 0, none⟩)] w fun e w' => e = .returned (.bool r) ∧ Drawn0 w w' := by
  have hc0 := cellS41_0 hG
  have hc1 := cellS41_1 hG
  have hc2 := cellS41_2 hG
  have hc3 := cellS41_3 hG
  have hw : ∀ x : Int, IntKind.i64.wrap x = wrap64 x := fun x => i64_w x
  have T1 : ∀ n, Calls Try.prog 17 #[Value.int IntKind.i64 (wrap64 (s2 + k)), Value.int IntKind.i64 s3, Value.float FloatKind.f64 s0] (w.drewN n) fun e w'' => e = Ending.returned (.bool r) ∧ ∃ n, w'' = w.drewN n := by
    intro n
    refine Calls.quiet_of (v := .bool r) ?_
    refine (real_Reached.quiet _ _ _ r _ h).mono ?_
    intro e_ w_ h_
    exact ⟨h_.1, h_.2.out⟩
  go_enter Try.func19, Try.ntmps19
  go_wp2
  go_quiet ((go_at_call 17; exact T1 _))
  go_wp2
  go_ret
  exact ⟨rfl, ⟨_, rfl⟩⟩

/-- the middle of two numbers, as the library reckons it -/
def mid (i j : Int) : Int := wrap64 (IntKind.u64.wrap (wrap64 (i + j)) / 2)
def search (p : Int → Option Bool) : Nat → Int → Int → Option Int
  | 0, _, _ => none
  | k + 1, i, j => if i < j then (p (mid i j)).bind fun t => if t = true then search p k i (mid i j) else search p k (wrap64 (mid i j + 1)) j else some i
set_option maxHeartbeats 8000000 in
set_option maxRecDepth 100000 in
theorem search_calls (k : Nat) (n : Int) (b g : Nat) (s0 : Nat) (s1 : Bool) (s2 s3 : Int) (r : Int) (w : World) (hb : w.cell? ⟨b, 0, none⟩ = some (.pointer (some ⟨g, 0, none⟩)))
    (hG : w.heap[g]? = some (.cells #[.float .f64 s0, .bool s1, .int .i64 s2, .int .i64 s3] 41 (0, 0))) (h : search (fun m => real_Reached.f (wrap64 (s2 + m)) s3 s0) k 0 n = some r) :
    Calls Try.prog 18 #[.int .i64 n, .func (.func 19) #[] #[.pointer (some ⟨b, 0, none⟩)]] w fun e w' => e = .returned (.int .i64 r) ∧ Drawn0 w w' := by
  have HD := Aside0.mk (Drawn0.refl w)
  have H' := Aside0.mk h
  clear h
  go_enter Try.func18, Try.ntmps18
  try go_wp2
  go_loopg [5, 6] k (fun kq v5 v6 w' => ∃ (i j : Int), v5 = .int .i64 i ∧ v6 = .int .i64 j ∧ Aside0 (search (fun m => real_Reached.f (wrap64 (s2 + m)) s3 s0) kq i j = some r) ∧ Aside0 (kq ≤ k) ∧ Aside0 (Drawn0 w w'))
  case atStart => exact ⟨0, n, rfl, rfl, H', ⟨Nat.le_refl _⟩, HD⟩
  case round =>
    obtain ⟨i, j, rfl, rfl, HA, HK2, HD⟩ := hrel
    cases gk with
    | zero => exact absurd HA.out (by simp [search])
    | succ k2 =>
      have H := HA.out
      clear HA
      simp only [search] at H
      by_cases c8 : i < j
      · rw [if_pos c8] at H
        have c8b0 : decide (i < j) = true := decide_eq_true c8
        clear c8
        obtain ⟨t, A9, H⟩ := Option.bind_eq_some_iff.mp H
        obtain ⟨nd, hnd⟩ := HD.out.out
        subst hnd
        have T1 : ∀ b_, real_Reached.f (wrap64 (s2 + mid i j)) s3 s0 = some b_ → Calls Try.prog 19 #[Value.int IntKind.i64 (wrap64 (IntKind.u64.wrap (wrap64 (i + j)) / 2)), Value.pointer (some { block := b, off := 0 })] (w.drewN nd) fun e w' => e = .returned (.bool b_) ∧ ∃ m, w' = (w.drewN nd).drewN m :=
          fun b_ hb_ => (miss1_calls (mid i j) b g s0 s1 s2 s3 b_ (w.drewN nd) hb hG hb_).mono fun e w_ h_ => ⟨h_.1, h_.2.out⟩
        cases t with
        | true =>
          rw [if_pos rfl] at H
          have H2 := Aside0.mk H
          clear H
          go_wp2_with (go_at_call 19; refine (T1 true A9).mono ?_; rintro e w' ⟨rfl, ⟨m, rfl⟩⟩)
          go_roundg k2
          case measure => have := HK2.out; omega
          case rel => exact ⟨i, mid i j, rfl, rfl, H2, ⟨by have := HK2.out; omega⟩, ⟨⟨nd + m, rfl⟩⟩⟩
        | false =>
          rw [if_neg (by decide)] at H
          have H2 := Aside0.mk H
          clear H
          go_wp2_with (go_at_call 19; refine (T1 false A9).mono ?_; rintro e w' ⟨rfl, ⟨m, rfl⟩⟩)
          go_roundg k2
          case measure => have := HK2.out; omega
          case rel => exact ⟨wrap64 (mid i j + 1), j, rfl, rfl, H2, ⟨by have := HK2.out; omega⟩, ⟨⟨nd + m, rfl⟩⟩⟩
      · rw [if_neg c8] at H
        have c8b0 : decide (i < j) = false := decide_eq_false c8
        clear c8
        simp only [Option.some.injEq] at H
        subst H
        go_wp2
        go_ret
        exact ⟨rfl, HD.out⟩

def safe_Safe_Missing.f (k : Nat) (s0_0 : Nat) (s0_1 : Bool) (s0_2 : Int) (s0_3 : Int) : Option (Int × Nat × Bool × Int × Int) := if s0_1 = true then some (0, s0_0, s0_1, s0_2, s0_3) else if s0_3 = 0 then some (0, s0_0, s0_1, s0_2, s0_3) else (search (fun m => real_Reached.f (wrap64 (s0_2 + m)) s0_3 s0_0) k 0 (wrap64 (s0_3 - s0_2))).bind fun r => some (r, s0_0, s0_1, s0_2, s0_3)
theorem search_mono (p : Int → Option Bool) : ∀ k i j, LeO (search p k i j) (search p (k + 1) i j)
  | 0, _, _ => LeO.none _
  | k + 1, i, j => by
    rw [search, search]
    refine LeO.ite (LeO.bind (LeO.refl _) fun t => LeO.ite (search_mono p k _ _) (search_mono p k _ _)) (LeO.refl _)
theorem safe_Safe_Missing.mono : ∀ a0 a1 a2 a3 k, LeO (safe_Safe_Missing.f k a0 a1 a2 a3) (safe_Safe_Missing.f (k + 1) a0 a1 a2 a3) := by
  intro a0 a1 a2 a3 k
  unfold safe_Safe_Missing.f
  exact LeO.ite (LeO.refl _) (LeO.ite (LeO.refl _) (LeO.bind (search_mono _ k _ _) fun _ => LeO.refl _))
set_option maxHeartbeats 8000000 in
set_option maxRecDepth 100000 in
theorem safe_Safe_Missing.calls (k : Nat) (g : Nat) (s0_0 : Nat) (s0_1 : Bool) (s0_2 : Int) (s0_3 : Int) (r1 : Int) (r2 : Nat) (r3 : Bool) (r4 : Int) (r5 : Int) (w0 w : World) (hI : IsS41 w0 w g s0_0 s0_1 s0_2 s0_3) (hB : Below w0.heap.size w0 w) (h : safe_Safe_Missing.f k s0_0 s0_1 s0_2 s0_3 = some (r1, r2, r3, r4, r5)) :
    Calls Try.prog 10 #[.pointer (some ⟨g, 0, none⟩)] w fun e w' => e = .returned (.int .i64 r1) ∧ IsS41 w0 w' g r2 r3 r4 r5 ∧ Below w0.heap.size w0 w' ∧ KeepBut w w' g none := by
  obtain ⟨o, ho⟩ : ∃ o, o = Obj.cells #[Value.pointer (some ⟨g, 0, none⟩)] 24 := ⟨_, rfl⟩
  have HI1 := IsS41.alloc hI o
  have HG := HI1.1
  have hcb : (w.alloc o).cell? ⟨w.heap.size, 0, none⟩ = some (.pointer (some ⟨g, 0, none⟩)) := by rw [ho]; simp
  have HI := Aside0.mk HI1
  have HB := Aside0.mk (below_alloc hB o)
  have HK := Aside0.mk (keep_alloc (KeepBut.refl w g none) o)
  have H := Aside0.mk h
  clear h hI hB HI1
  rw [ho] at hcb HG HI HB HK
  clear ho o
  have hc0 := cellS41_0 HG
  have hc1 := cellS41_1 HG
  have hc2 := cellS41_2 HG
  have hc3 := cellS41_3 HG
  cases s0_1 with
  | true =>
    have H := H.out
    unfold safe_Safe_Missing.f at H
    rw [if_pos rfl] at H
    simp only [Option.some.injEq, Prod.mk.injEq] at H
    obtain ⟨rfl, rfl, rfl, rfl, rfl⟩ := H
    go_enter Try.func10, Try.ntmps10
    go_wp2
    go_ret
    exact ⟨rfl, HI.out, HB.out, HK.out⟩
  | false =>
    have H := H.out
    unfold safe_Safe_Missing.f at H
    rw [if_neg (by decide)] at H
    by_cases c : s0_3 = 0
    · rw [if_pos c] at H
      have cb : (s0_3 == 0) = true := beq_iff_eq.mpr c
      clear c
      simp only [Option.some.injEq, Prod.mk.injEq] at H
      obtain ⟨rfl, rfl, rfl, rfl, rfl⟩ := H
      go_enter Try.func10, Try.ntmps10
      go_wp2
      go_ret
      exact ⟨rfl, HI.out, HB.out, HK.out⟩
    · rw [if_neg c] at H
      have cb : (s0_3 == 0) = false := beq_eq_false_iff_ne.mpr c
      clear c
      obtain ⟨q, A, H⟩ := Option.bind_eq_some_iff.mp H
      simp only [Option.some.injEq, Prod.mk.injEq] at H
      obtain ⟨rfl, rfl, rfl, rfl, rfl⟩ := H
      have hmf : ∀ (fn : Fn) (first cap : Array Value) (w : World), (Instr.makeFunc fn first cap).run Try.prog w = .ok (.func fn first cap) w := fun _ _ _ _ => rfl
      have T1 : ∀ n, Calls Try.prog 18 #[Value.int IntKind.i64 (wrap64 (s0_3 - s0_2)), .func (.func 19) #[] #[.pointer (some ⟨w.heap.size, 0, none⟩)]] ((w.alloc (Obj.cells #[Value.pointer (some ⟨g, 0, none⟩)] 24)).drewN n) fun e w'' => e = Ending.returned (.int .i64 q) ∧ ∃ m, w'' = (w.alloc (Obj.cells #[Value.pointer (some ⟨g, 0, none⟩)] 24)).drewN m := fun n =>
        Calls.quiet_of ((search_calls k (wrap64 (s0_3 - s0_2)) w.heap.size g s0_0 false s0_2 s0_3 q ((w.alloc (Obj.cells #[Value.pointer (some ⟨g, 0, none⟩)] 24)).drewN n) hcb HG A).mono fun e w_ h_ => ⟨h_.1, h_.2.out⟩)
      go_enter Try.func10, Try.ntmps10
      go_wp2
      go_quiet ((go_at_call 18; exact T1 _))
      go_wp2
      go_ret
      exact ⟨rfl, IsS41.drewN HI.out _, pw_below_drewN HB.out _, keep_drewN HK.out _⟩

/-! ### safe_Safe_On: function 11 -/
def safe_Safe_On.f (s0_0 : Nat) (s0_1 : Bool) (s0_2 : Int) (s0_3 : Int) : Option (Bool × Nat × Bool × Int × Int) := some (!s0_1, s0_0, s0_1, s0_2, s0_3)
set_option maxHeartbeats 8000000 in
set_option maxRecDepth 100000 in
theorem safe_Safe_On.calls (g : Nat) (s0_0 : Nat) (s0_1 : Bool) (s0_2 : Int) (s0_3 : Int) (r1 : Bool) (r2 : Nat) (r3 : Bool) (r4 : Int) (r5 : Int) (w0 w : World) (hI : IsS41 w0 w g s0_0 s0_1 s0_2 s0_3) (hB : Below w0.heap.size w0 w) (h : safe_Safe_On.f s0_0 s0_1 s0_2 s0_3 = some (r1, r2, r3, r4, r5)) :
    Calls Try.prog 11 #[.pointer (some ⟨g, 0, none⟩)] w fun e w' => e = .returned (.bool r1) ∧ IsS41 w0 w' g r2 r3 r4 r5 ∧ Below w0.heap.size w0 w' ∧ KeepBut w w' g none := by
  have HI0 := Aside0.mk hI
  have HK := Aside0.mk (KeepBut.refl w g none)
  have HL := Aside0.mk hB.size
  clear hI
  have HW0 := Aside0.mk hB.size
  have HB := Aside0.mk hB
  clear hB
  have H : (some (!s0_1, s0_0, s0_1, s0_2, s0_3)) = some (r1, r2, r3, r4, r5) := h
  clear h
  simp only [Option.some.injEq, Prod.mk.injEq] at H
  obtain ⟨rfl, rfl, rfl, rfl, rfl⟩ := H
  obtain ⟨HGz2, hgz2⟩ := HI0.out
  have hcz2_0 := cellS41_0 HGz2
  have hcz2_1 := cellS41_1 HGz2
  have hcz2_2 := cellS41_2 HGz2
  have hcz2_3 := cellS41_3 HGz2
  have hfz2_0 := blk_frozen HGz2 0
  have hfz2_1 := blk_frozen HGz2 1
  have hfz2_2 := blk_frozen HGz2 2
  have hfz2_3 := blk_frozen HGz2 3
  clear HGz2 hgz2
  go_enter Try.func11, Try.ntmps11
  go_wp2
  go_ret
  exact ⟨by first | rfl | (simp [errW_none, errW_some] <;> rfl) | (simp [*, errW_none, errW_some] <;> rfl), by repeat (first | (with_reducible first | exact HI0.out | apply IsS41.alloc | apply IsS41.drewN | apply IsS41.drew | apply IsS41.set_0 | apply IsS41.set_1 | apply IsS41.set_2 | apply IsS41.set_3) | exact HI0.out), by repeat (first | (with_reducible first | exact HB.out | apply below_alloc | apply pw_below_drewN | apply below_drew1 | refine below_set ?_ (IsS41.ge HI0.out)) | exact HB.out), by repeat (first | (with_reducible first | exact HK.out | apply KeepBut.set_ | apply keep_drewN | apply keep_drew | apply keep_alloc) | exact HK.out)⟩

end Go.Proofs.Ytabgoiacjfekpaa.P
