/- The Go functions of this seat as plain Lean functions, and for each the proof that its call gives what the plain function gives. Printed by a program of this session. -/
import Derived.Test.YtljllecpmllefaaPx0
import Derived.Test.YtljllecpmllefaaPx3
import Derived.Test.YtljllecpmllefaaPx5
import Derived.Test.YtljllecpmllefaaPx6
namespace Go.Proofs.Ytljllecpmllefaa.P
open Go.RowKit Go.Proofs.YtljllecpmllefaaW.PrintWords Go.Proofs.YtljllecpmllefaaW.PrintLast Go.Proofs.YtljllecpmllefaaW.PrintMore
attribute [local go_sem] max2_int min2_int max_two min_two max_three min_three max_four min_four   -- for this text's walks alone
set_option linter.unusedVariables false
set_option linter.unusedSimpArgs false

/-! ### chunk_Read: function 9 -/
/-! #### what a part that can't be read panics with; must; part -/
def amissV : Value := .iface 73 (.agg #[])
theorem must_good (w : World) : Calls Try.prog 26 #[.bool true] w fun e w' => e = .returned (.tuple #[]) ∧ w' = w := by
  go_enter Try.func26, Try.ntmps26
  go_wp2
  go_end0
  exact ⟨rfl, rfl⟩
theorem must_bad (w : World) : Calls Try.prog 26 #[.bool false] w fun e w' => e = .panicked [{ v := amissV, recovered := false }] ∧ w' = w := by
  go_enter Try.func26, Try.ntmps26
  go_wp2
  exact ⟨rfl, rfl, rfl⟩
/-- the part at the beginning, of a kind; none: it can't be read -/
def chunk_part.f (k : Nat) (a0 : ByteArray) (kind : Int) : Option (Option (ByteArray × ByteArray)) :=
  (sum_Open.f k a0).bind fun b => some (if b.2.2 = 0 ∧ b.1.toList ≠ ([] : List UInt8) ∧ bt b.1 0 = kind then some (b.1.extract 1 b.1.size, b.2.1) else none)
theorem size_pos_of {s : ByteArray} (h : s.toList ≠ ([] : List UInt8)) : 0 < s.size := by
  rcases Nat.eq_zero_or_pos s.size with h0 | h0
  · exact absurd (by
      have : s.toList.length = s.size := by rw [ByteArray.toList_eq]; simp
      exact List.eq_nil_of_length_eq_zero (by omega)) h
  · exact h0
set_option maxHeartbeats 4000000 in
theorem part_good (k : Nat) (a0 : ByteArray) (kind : Int) (s rest : ByteArray) (w : World) (h : chunk_part.f k a0 kind = some (some (s, rest))) :
    Calls Try.prog 24 #[.string a0, .int .u8 kind] w fun e w' => e = .returned (.tuple #[.string s, .string rest]) ∧ Below w.heap.size w w' := by
  obtain ⟨⟨b1, b2, b3⟩, A, H⟩ := Option.bind_eq_some_iff.mp h
  have H := Option.some.inj H
  by_cases c : b3 = 0 ∧ b1.toList ≠ ([] : List UInt8) ∧ bt b1 0 = kind
  · rw [if_pos c] at H
    obtain ⟨rfl, hne, hk⟩ := c
    have H := Option.some.inj H
    simp only [Prod.mk.injEq] at H
    obtain ⟨rfl, rfl⟩ := H
    have A := Aside0.mk A
    have hz := size_pos_of hne
    have c1 : (b1.toList != ([] : List UInt8)) = true := bne_iff_ne.mpr hne
    have c2 : (b1.toList == ([] : List UInt8)) = false := beq_eq_false_iff_ne.mpr hne
    have c3 : decide (0 < (b1.size : Int)) = true := decide_eq_true (by omega)
    have c4 : decide (0 < b1.size) = true := decide_eq_true hz
    have c5 : (bt b1 0 == kind) = true := beq_iff_eq.mpr hk
    have c10 : (((b1[0]'hz).toNat : Int) == kind) = true := by rw [beq_iff_eq, ← hk]; exact bt_at b1 0 hz
    have c6 := eq_true hz
    have c7 : ((0 : Int) < (b1.size : Int)) = True := eq_true (by omega)
    have c8 : (1 ≤ b1.size) = True := eq_true (by omega)
    have c9 : ((1 : Int) ≤ (b1.size : Int)) = True := eq_true (by omega)
    go_enter Try.func24, Try.ntmps24
    go_wp2_with (first | (go_at_call 39; refine (sum_Open.calls k a0 b1 b2 0 _ A.out).mono ?_; rintro e w1 ⟨rfl, hb⟩) | (go_at_call 26; refine (must_good _).mono ?_; rintro e w2 ⟨rfl, rfl⟩))
    go_ret2
    exact ⟨rfl, hb⟩
  · rw [if_neg c] at H; cases H
set_option maxHeartbeats 4000000 in
theorem part_bad (k : Nat) (a0 : ByteArray) (kind : Int) (w : World) (h : chunk_part.f k a0 kind = some none) :
    Calls Try.prog 24 #[.string a0, .int .u8 kind] w fun e w' => e = .panicked [{ v := amissV, recovered := false }] ∧ Below w.heap.size w w' := by
  obtain ⟨⟨b1, b2, b3⟩, A, H⟩ := Option.bind_eq_some_iff.mp h
  have H := Option.some.inj H
  by_cases c : b3 = 0 ∧ b1.toList ≠ ([] : List UInt8) ∧ bt b1 0 = kind
  · rw [if_pos c] at H; cases H
  · have A := Aside0.mk A
    clear H h
    by_cases d : b3 = 0
    · subst d
      have d1 : ((0 : Int) == 0) = true := rfl
      by_cases hne : b1.toList = ([] : List UInt8)
      · have c1 : (b1.toList != ([] : List UInt8)) = false := bne_eq_false_iff_eq.mpr hne
        have c2 : (b1.toList == ([] : List UInt8)) = true := beq_iff_eq.mpr hne
        clear c hne
        go_enter Try.func24, Try.ntmps24
        go_wp2_with (first | (go_at_call 39; refine (sum_Open.calls k a0 b1 b2 0 _ A.out).mono ?_; rintro e w1 ⟨rfl, hb⟩) | (go_at_call 26; refine (must_bad _).mono ?_; rintro e w2 ⟨rfl, rfl⟩))
        exact ⟨rfl, rfl, hb⟩
      · have hz := size_pos_of hne
        have hk : ¬ bt b1 0 = kind := fun q => c ⟨rfl, hne, q⟩
        have c1 : (b1.toList != ([] : List UInt8)) = true := bne_iff_ne.mpr hne
        have c2 : (b1.toList == ([] : List UInt8)) = false := beq_eq_false_iff_ne.mpr hne
        have c3 : decide (0 < (b1.size : Int)) = true := decide_eq_true (by omega)
        have c4 : decide (0 < b1.size) = true := decide_eq_true hz
        have c10 : (((b1[0]'hz).toNat : Int) == kind) = false := by rw [beq_eq_false_iff_ne]; exact fun q => hk ((bt_at b1 0 hz).symm.trans q)
        have c6 := eq_true hz
        have c7 : ((0 : Int) < (b1.size : Int)) = True := eq_true (by omega)
        clear c hk
        go_enter Try.func24, Try.ntmps24
        go_wp2_with (first | (go_at_call 39; refine (sum_Open.calls k a0 b1 b2 0 _ A.out).mono ?_; rintro e w1 ⟨rfl, hb⟩) | (go_at_call 26; refine (must_bad _).mono ?_; rintro e w2 ⟨rfl, rfl⟩))
        exact ⟨rfl, rfl, hb⟩
    · have d1 : (b3 == 0) = false := beq_eq_false_iff_ne.mpr d
      clear c
      go_enter Try.func24, Try.ntmps24
      go_wp2_with (first | (go_at_call 39; refine (sum_Open.calls k a0 b1 b2 b3 _ A.out).mono ?_; rintro e w1 ⟨rfl, hb⟩) | (go_at_call 26; refine (must_bad _).mono ?_; rintro e w2 ⟨rfl, rfl⟩))
      exact ⟨rfl, rfl, hb⟩
/-! #### try -/
/-- the deferred closure behind a function that came to its end -/
theorem catch_idle (w : World) : CallsD Try.prog 38 #[] .returning w fun e u' w' => e = .returned (.tuple #[]) ∧ u' = .returning ∧ w' = w := by
  refine callsD_of_wpS Try.func38 rfl fun c₀ cs hu => ?_
  apply wpS_seq
  apply wpS_region
  simp [wpOpsS, go_sem, recoverD, hu, Try.ntmps38, Exit.thenS]
  apply wpS_seq
  apply wpS_region
  simp [wpOpsS, go_sem, Exit.thenS]
  refine wpS_cond (t := false) (by simp [Act.eval, Array.replicate]) ?_
  simp only [Bool.false_eq_true, if_false]
  refine wpS_of_wp (wp_skip ?_)
  cases c₀
  simp_all [bodyPostS, results, Try.results38]
theorem catch_amiss (older : List PanicEntry) (w : World) : CallsD Try.prog 38 #[] (.panicking ({ v := amissV, recovered := false } :: older)) w fun e u' w' => e = .returned (.tuple #[]) ∧ u' = .panicking ({ v := amissV, recovered := true } :: older) ∧ Below w.heap.size w w' := by
  refine callsD_of_wpS Try.func38 rfl fun c₀ cs hu => ?_
  apply wpS_seq
  apply wpS_region
  simp [wpOpsS, go_sem, recoverD, hu, Try.ntmps38, Exit.thenS]
  apply wpS_seq
  apply wpS_region
  simp [wpOpsS, go_sem, Exit.thenS, amissV]
  refine wpS_cond (t := true) (by simp [Act.eval, Array.replicate]) ?_
  simp only [if_true]
  refine wpS_of_wp ?_
  have hta : ∀ w : World, (Instr.typeAssert (.iface 73 (.agg #[])) 20 73 true).run Try.prog w = .ok (.tuple #[.agg #[], .bool true]) w := fun _ => by kernel_rfl
  generalize hQ : (fun (e : Exit) (a' : Act) (w' : World) => bodyPostS _ _ _ _ _ e a' _ w') = Q
  go_wp2
  all_goals (subst hQ)
  all_goals (have hb := below_alloc (Below.refl w.heap.size w) (.cells #[] 73))
  all_goals (cases c₀; simp_all [bodyPostS, results, Try.results38])
set_option maxHeartbeats 4000000 in
/-- what is tried comes to its end -/
theorem try_good (g : Nat) (cb : Array Value) (W : World) (R : World → Prop) (eg : ∀ args w, (callFunc g args).run Try.prog w = .ok (.enter g args) w) (hc : Calls Try.prog g cb W fun e w' => e = .returned (.tuple #[]) ∧ R w') :
    Calls Try.prog 22 #[.func (.func g) #[] cb] W fun e w' => e = .returned (.bool true) ∧ R w' := by
  have HC := Aside0.mk hc
  clear hc
  go_enter_defers Try.func22, Try.ntmps22
  go_wp2_with (go_at_fn g; fail)
  refine HC.out.mono ?_
  rintro e w1 ⟨rfl, hR⟩
  go_wp2
  refine leaves_cons (f := 38) (args := #[]) (by simp) (by simp [go_sem]) ?_
  refine (catch_idle _).mono ?_
  rintro e u' w'' ⟨rfl, rfl, rfl⟩
  simp [Leaves, settle, results, Try.results22, go_sem]
  exact hR
set_option maxHeartbeats 4000000 in
theorem try_bad (g : Nat) (cb : Array Value) (W : World) (R : World → Prop) (eg : ∀ args w, (callFunc g args).run Try.prog w = .ok (.enter g args) w) (hc : Calls Try.prog g cb W fun e w' => e = .panicked [{ v := amissV, recovered := false }] ∧ R w') :
    Calls Try.prog 22 #[.func (.func g) #[] cb] W fun e w' => e = .returned (.bool false) ∧ ∃ w1, R w1 ∧ Below w1.heap.size w1 w' := by
  have HC := Aside0.mk hc
  clear hc
  go_enter_defers Try.func22, Try.ntmps22
  go_wp2_with (go_at_fn g; fail)
  refine HC.out.mono ?_
  rintro e w1 ⟨rfl, hR⟩
  refine leaves_cons (f := 38) (args := #[]) (by simp) (by simp [go_sem]) ?_
  refine (catch_amiss [] _).mono ?_
  rintro e u' w'' ⟨rfl, rfl, hb⟩
  simp [Leaves, settle, results, Try.results22, go_sem]
  exact ⟨w1, hR, hb⟩
/-! #### the boxes of Read -/
structure Sta (B gr gR gd : Nat) : Prop where
  b1 : B ≤ gr
  b2 : B ≤ gR
  b3 : B ≤ gd
  n1 : gr ≠ gR
  n2 : gr ≠ gd
  n3 : gR ≠ gd
/-- what the boxes hold: what is left of the file, the replica, its bytes -/
structure Rdw (gr gR gd : Nat) (w0 W : World) (rest data : ByteArray) (i g n : Int) (f : Bool) : Prop where
  below : Below w0.heap.size w0 W
  r : W.heap[gr]? = some (.cells #[.string rest] 9 (0, 0))
  R : W.heap[gR]? = some (.cells #[.int .i64 i, .int .i64 g, .int .i64 n, .bool f] 26 (0, 0))
  d : W.heap[gd]? = some (.cells #[.string data] 9 (0, 0))
theorem Rdw.step {gr gR gd : Nat} {w0 W W' : World} {rest data : ByteArray} {i g n : Int} {f : Bool} (h : Rdw gr gR gd w0 W rest data i g n f) (hb : Below W.heap.size W W') : Rdw gr gR gd w0 W' rest data i g n f :=
  ⟨below_step h.below hb, blk_below h.r hb, blk_below h.R hb, blk_below h.d hb⟩
theorem Rdw.setr {gr gR gd : Nat} {w0 W : World} {rest data : ByteArray} {i g n : Int} {f : Bool} (h : Rdw gr gR gd w0 W rest data i g n f) (s : Sta w0.heap.size gr gR gd) (rest' : ByteArray) : Rdw gr gR gd w0 (W.setCell ⟨gr, 0, none⟩ (.string rest')) rest' data i g n f :=
  ⟨below_set h.below s.b1, blk_put h.r 0 _ rfl, blk_far h.R (fun e => s.n1 e.symm) _, blk_far h.d (fun e => s.n2 e.symm) _⟩
theorem Rdw.setd {gr gR gd : Nat} {w0 W : World} {rest data : ByteArray} {i g n : Int} {f : Bool} (h : Rdw gr gR gd w0 W rest data i g n f) (s : Sta w0.heap.size gr gR gd) (data' : ByteArray) : Rdw gr gR gd w0 (W.setCell ⟨gd, 0, none⟩ (.string data')) rest data' i g n f :=
  ⟨below_set h.below s.b3, blk_far h.r s.n2 _, blk_far h.R s.n3 _, blk_put h.d 0 _ rfl⟩
theorem Rdw.drew {gr gR gd : Nat} {w0 W : World} {rest data : ByteArray} {i g n : Int} {f : Bool} (h : Rdw gr gR gd w0 W rest data i g n f) : Rdw gr gR gd w0 W.drew rest data i g n f := ⟨below_drew1 h.below, h.r, h.R, h.d⟩
set_option maxHeartbeats 4000000 in
theorem read3_good {gr gR gd : Nat} {w0 W : World} {rest data : ByteArray} {i g n : Int} {f : Bool} (k : Nat) (s left : ByteArray) (h : Rdw gr gR gd w0 W rest data i g n f) (st : Sta w0.heap.size gr gR gd) (hp : chunk_part.f k rest 101 = some (some (s, left))) (hs : s.toList = ([] : List UInt8)) :
    Calls Try.prog 29 #[.pointer (some ⟨gr, 0, none⟩)] W fun e w' => e = .returned (.tuple #[]) ∧ Rdw gr gR gd w0 w' left data i g n f := by
  have hcr := (blk_cell h.r 0).trans rfl
  have HH := Aside0.mk h
  have ST := Aside0.mk st
  have HP := Aside0.mk hp
  have c1 : (s.toList == ([] : List UInt8)) = true := beq_iff_eq.mpr hs
  have c2 : (s.toList != ([] : List UInt8)) = false := bne_eq_false_iff_eq.mpr hs
  clear h st hp hs
  go_enter Try.func29, Try.ntmps29
  go_wp2_with (first | (go_at_call 24; refine (part_good k rest 101 s left _ HP.out).mono ?_; rintro e w1 ⟨rfl, hb⟩; have h1 := HH.out.step hb; have hc1 := (blk_cell h1.r 0).trans rfl; have hf1 := blk_frozen h1.r 0; have H1 := Aside0.mk h1; clear h1 hb) | (go_at_call 26; refine (must_good _).mono ?_; rintro e w2 ⟨rfl, rfl⟩))
  go_end0
  exact ⟨rfl, H1.out.setr ST.out left⟩
set_option maxHeartbeats 4000000 in
theorem read3_bad {gr gR gd : Nat} {w0 W : World} {rest data : ByteArray} {i g n : Int} {f : Bool} (k : Nat) (h : Rdw gr gR gd w0 W rest data i g n f) (hp : chunk_part.f k rest 101 = some none ∨ ∃ s left, chunk_part.f k rest 101 = some (some (s, left)) ∧ s.toList ≠ ([] : List UInt8)) :
    Calls Try.prog 29 #[.pointer (some ⟨gr, 0, none⟩)] W fun e w' => e = .panicked [{ v := amissV, recovered := false }] ∧ Rdw gr gR gd w0 w' rest data i g n f := by
  have hcr := (blk_cell h.r 0).trans rfl
  have HH := Aside0.mk h
  clear h
  rcases hp with hp | ⟨s, left, hp, hs⟩
  · have HP := Aside0.mk hp
    clear hp
    go_enter Try.func29, Try.ntmps29
    go_wp2_with (first | (go_at_call 24; refine (part_bad k rest 101 _ HP.out).mono ?_; rintro e w1 ⟨rfl, hb⟩))
    exact ⟨rfl, rfl, HH.out.step hb⟩
  · have HP := Aside0.mk hp
    have c1 : (s.toList == ([] : List UInt8)) = false := beq_eq_false_iff_ne.mpr hs
    have c2 : (s.toList != ([] : List UInt8)) = true := bne_iff_ne.mpr hs
    clear hp hs
    go_enter Try.func29, Try.ntmps29
    go_wp2_with (first | (go_at_call 24; refine (part_good k rest 101 s left _ HP.out).mono ?_; rintro e w1 ⟨rfl, hb⟩) | (go_at_call 26; refine (must_bad _).mono ?_; rintro e w2 ⟨rfl, rfl⟩))
    exact ⟨rfl, rfl, HH.out.step hb⟩
set_option maxHeartbeats 4000000 in
theorem read2_good {gr gR gd : Nat} {w0 W : World} {rest data : ByteArray} {i g n : Int} {f : Bool} (k : Nat) (s left : ByteArray) (h : Rdw gr gR gd w0 W rest data i g n f) (st : Sta w0.heap.size gr gR gd) (hp : chunk_part.f k rest 100 = some (some (s, left))) (hs : s.toList ≠ ([] : List UInt8)) (hl : data.size + s.size ≤ 64) :
    Calls Try.prog 28 #[.pointer (some ⟨gr, 0, none⟩), .pointer (some ⟨gd, 0, none⟩)] W fun e w' => e = .returned (.tuple #[]) ∧ Rdw gr gR gd w0 w' left (data ++ s) i g n f := by
  have hcr := (blk_cell h.r 0).trans rfl
  have hcd := (blk_cell h.d 0).trans rfl
  have HH := Aside0.mk h
  have ST := Aside0.mk st
  have HP := Aside0.mk hp
  have hnn := st.n2
  have hnn' := fun e => st.n2 (Eq.symm e)
  have c1 : (s.toList == ([] : List UInt8)) = false := beq_eq_false_iff_ne.mpr hs
  have c2 : (s.toList != ([] : List UInt8)) = true := bne_iff_ne.mpr hs
  have c3 : decide (wrap64 ((data.size : Int) + (s.size : Int)) ≤ 64) = true := decide_eq_true (by unfold wrap64; omega)
  have c4 : (9223372036854775807 < data.size + s.size) = False := eq_false (by omega)
  clear h st hp hs hl
  go_enter Try.func28, Try.ntmps28
  go_wp2_with (first | (go_at_call 24; refine (part_good k rest 100 s left _ HP.out).mono ?_; rintro e w1 ⟨rfl, hb⟩; have h1 := HH.out.step hb; have hc1 := (blk_cell h1.r 0).trans rfl; have hf1 := blk_frozen h1.r 0; have hc2 := (blk_cell h1.d 0).trans rfl; have hf2 := blk_frozen h1.d 0; have hc3 := (blk_cell (h1.setd ST.out (data ++ s)).r 0).trans rfl; have hf3 := blk_frozen (h1.setd ST.out (data ++ s)).r 0; have H1 := Aside0.mk h1; clear h1 hb) | (go_at_call 26; refine (must_good _).mono ?_; rintro e w2 ⟨rfl, rfl⟩))
  go_end0
  exact ⟨rfl, (H1.out.setd ST.out (data ++ s)).setr ST.out left⟩
set_option maxHeartbeats 4000000 in
theorem read2_bad {gr gR gd : Nat} {w0 W : World} {rest data : ByteArray} {i g n : Int} {f : Bool} (k : Nat) (h : Rdw gr gR gd w0 W rest data i g n f) (hds : data.size ≤ 64)
    (hp : chunk_part.f k rest 100 = some none ∨ ∃ s left, chunk_part.f k rest 100 = some (some (s, left)) ∧ s.size < 4611686018427387904 ∧ (s.toList = ([] : List UInt8) ∨ ¬ data.size + s.size ≤ 64)) :
    Calls Try.prog 28 #[.pointer (some ⟨gr, 0, none⟩), .pointer (some ⟨gd, 0, none⟩)] W fun e w' => e = .panicked [{ v := amissV, recovered := false }] ∧ Rdw gr gR gd w0 w' rest data i g n f := by
  have hcr := (blk_cell h.r 0).trans rfl
  have HH := Aside0.mk h
  clear h
  rcases hp with hp | ⟨s, left, hp, hz, hs⟩
  · have HP := Aside0.mk hp
    clear hp
    go_enter Try.func28, Try.ntmps28
    go_wp2_with (first | (go_at_call 24; refine (part_bad k rest 100 _ HP.out).mono ?_; rintro e w1 ⟨rfl, hb⟩))
    exact ⟨rfl, rfl, HH.out.step hb⟩
  · have HP := Aside0.mk hp
    by_cases he : s.toList = ([] : List UInt8)
    · have c1 : (s.toList == ([] : List UInt8)) = true := beq_iff_eq.mpr he
      have c2 : (s.toList != ([] : List UInt8)) = false := bne_eq_false_iff_eq.mpr he
      clear hp hs he hz
      go_enter Try.func28, Try.ntmps28
      go_wp2_with (first | (go_at_call 24; refine (part_good k rest 100 s left _ HP.out).mono ?_; rintro e w1 ⟨rfl, hb⟩) | (go_at_call 26; refine (must_bad _).mono ?_; rintro e w2 ⟨rfl, rfl⟩))
      exact ⟨rfl, rfl, HH.out.step hb⟩
    · have hl := hs.resolve_left he
      have c1 : (s.toList == ([] : List UInt8)) = false := beq_eq_false_iff_ne.mpr he
      have c2 : (s.toList != ([] : List UInt8)) = true := bne_iff_ne.mpr he
      have c3 : decide (wrap64 ((data.size : Int) + (s.size : Int)) ≤ 64) = false := decide_eq_false (by unfold wrap64; omega)
      clear hp hs he hz hl
      go_enter Try.func28, Try.ntmps28
      go_wp2_with (first | (go_at_call 24; refine (part_good k rest 100 s left _ HP.out).mono ?_; rintro e w1 ⟨rfl, hb⟩; have h1 := HH.out.step hb; have hc2 := (blk_cell h1.d 0).trans rfl; clear h1) | (go_at_call 26; refine (must_bad _).mono ?_; rintro e w2 ⟨rfl, rfl⟩))
      exact ⟨rfl, rfl, HH.out.step hb⟩
def numb (a : Int) : Bool := decide (1 ≤ a ∧ a ≤ 9007199254740991)
theorem number_at (a : Int) : chunk_number.f a = some (numb a) := by
  unfold chunk_number.f numb
  by_cases c : a ≥ 1
  · rw [if_pos c]
    congr 1
    exact decide_eq_decide.2 ⟨fun h => ⟨c, h⟩, fun h => h.2⟩
  · rw [if_neg c, decide_eq_false (fun h => c h.1)]
/-- the head of a replica's file -/
def chunk_Read.head (k : Nat) (rest : ByteArray) : Option (Option (Int × Int × ByteArray)) :=
  (chunk_part.f k rest 104).bind fun p => match p with
    | none => some none
    | some (s, left) => (wire_TakeNum.f k s).bind fun n1 => (wire_TakeNum.f k n1.2.1).bind fun n2 =>
      some (if n1.2.2 = 0 ∧ n2.2.2 = 0 ∧ n2.2.1.toList = ([] : List UInt8) ∧ numb n1.1 = true ∧ numb n2.1 = true then some (n1.1, n2.1, left) else none)
theorem Rdw.drewN {gr gR gd : Nat} {w0 W : World} {rest data : ByteArray} {i g n : Int} {f : Bool} (h : Rdw gr gR gd w0 W rest data i g n f) (m : Nat) : Rdw gr gR gd w0 (W.drewN m) rest data i g n f := ⟨pw_below_drewN h.below m, h.r, h.R, h.d⟩
theorem Rdw.setb {gr gR gd : Nat} {w0 W : World} {rest data : ByteArray} {i g n : Int} {f : Bool} (h : Rdw gr gR gd w0 W rest data i g n f) (s : Sta w0.heap.size gr gR gd) (i' g' n' : Int) : Rdw gr gR gd w0 (((W.setCell ⟨gR, 0, none⟩ (.int .i64 i')).setCell ⟨gR, 1, none⟩ (.int .i64 g')).setCell ⟨gR, 2, none⟩ (.int .i64 n')) rest data i' g' n' f :=
  ⟨below_set (j := 2) (v := .int .i64 n') (below_set (j := 1) (v := .int .i64 g') (below_set (j := 0) (v := .int .i64 i') h.below s.b2) s.b2) s.b2,
   blk_far (blk_far (blk_far h.r s.n1 _) s.n1 _) s.n1 _, blk_put (blk_put (blk_put h.R 0 _ rfl) 1 _ rfl) 2 _ rfl, blk_far (blk_far (blk_far h.d (fun e => s.n3 e.symm) _) (fun e => s.n3 e.symm) _) (fun e => s.n3 e.symm) _⟩
set_option maxHeartbeats 1000000 in
theorem read1_good {gr gR gd : Nat} {w0 W : World} {rest data : ByteArray} {i g n : Int} {f : Bool} (k : Nat) (id gen : Int) (left : ByteArray) (h : Rdw gr gR gd w0 W rest data i g n f) (st : Sta w0.heap.size gr gR gd) (hp : chunk_Read.head k rest = some (some (id, gen, left))) :
    Calls Try.prog 23 #[.pointer (some ⟨gr, 0, none⟩), .pointer (some ⟨gR, 0, none⟩)] W fun e w' => e = .returned (.tuple #[]) ∧ Rdw gr gR gd w0 w' left data id gen 0 f := by
  obtain ⟨p, hp0, hp⟩ := Option.bind_eq_some_iff.mp hp
  cases p with
  | none => cases hp
  | some p =>
    obtain ⟨s, l1⟩ := p
    obtain ⟨⟨x1, s2, a⟩, hA1, hp⟩ := Option.bind_eq_some_iff.mp hp
    obtain ⟨⟨x2, s3, b⟩, hA2, hp⟩ := Option.bind_eq_some_iff.mp hp
    have hp := Option.some.inj hp
    split at hp
    · rename_i c
      obtain ⟨ca, cb, cs, c1, c2⟩ := c
      have hp := Option.some.inj hp
      simp only [Prod.mk.injEq] at hp
      obtain ⟨e1, e2, e3⟩ := hp
      replace e1 := e1.symm
      replace e2 := e2.symm
      replace e3 := e3.symm
      subst e1 e2 e3
      simp only at ca cb cs c1 c2
      subst ca cb
      have HP := Aside0.mk hp0
      have A1 := Aside0.mk hA1
      have A2 := Aside0.mk hA2
      have hcr := (blk_cell h.r 0).trans rfl
      have HH := Aside0.mk h
      have ST := Aside0.mk st
      have hnn := st.n1
      have hnn' := fun e => st.n1 (Eq.symm e)
      have d1 : (s3.toList == ([] : List UInt8)) = true := beq_iff_eq.mpr cs
      have d2 : (s3.toList != ([] : List UInt8)) = false := bne_eq_false_iff_eq.mpr cs
      have HN1 := Aside0.mk ((number_at id).trans (congrArg some c1))
      have HN2 := Aside0.mk ((number_at gen).trans (congrArg some c2))
      clear h st hp0 hA1 hA2 cs c1 c2
      go_enter Try.func23, Try.ntmps23
      go_wp2_with (first | (go_at_call 24; refine (part_good k rest 104 s left _ HP.out).mono ?_; rintro e w1 ⟨rfl, hb⟩; have h1 := HH.out.step hb; have H1 := Aside0.mk h1; clear h1 hb) | (go_at_call 25; with_reducible refine (wire_TakeNum.calls k s id s2 0 _ A1.out).mono ?_; rintro e w2 ⟨rfl, hb⟩; have h2 := H1.out.step hb; have H2 := Aside0.mk h2; clear h2 hb) | (go_at_call 25; with_reducible refine (wire_TakeNum.calls k s2 gen s3 0 _ A2.out).mono ?_; rintro e w3 ⟨rfl, hb⟩; have h3 := H2.out.step hb; have hcR0 := (blk_cell h3.R 0).trans rfl; have hfR0 := blk_frozen h3.R 0; have hcR1 := (blk_cell h3.R 1).trans rfl; have hfR1 := blk_frozen h3.R 1; have hcR2 := (blk_cell h3.R 2).trans rfl; have hfR2 := blk_frozen h3.R 2; have H3 := Aside0.mk h3; clear h3 hb) | (go_at_call 27; with_reducible refine (chunk_number.calls id true _ HN1.out).mono ?_; rintro e w4 ⟨rfl, ⟨nd, rfl⟩⟩) | (go_at_call 27; with_reducible refine (chunk_number.calls gen true _ HN2.out).mono ?_; rintro e w6 ⟨rfl, ⟨nd2, rfl⟩⟩; have h4 := H3.out.drewN (nd + nd2); have hq := h4.setb ST.out id gen 0; have hcr3 := (blk_cell hq.r 0).trans rfl; have hfr3 := blk_frozen hq.r 0; have HQ := Aside0.mk hq; clear h4 hq) | (go_at_call 26; refine (must_good _).mono ?_; rintro e w5 ⟨rfl, rfl⟩))
      go_end0
      exact ⟨rfl, HQ.out.setr ST.out left⟩
    · cases hp
set_option maxHeartbeats 1000000 in
theorem read1_bad {gr gR gd : Nat} {w0 W : World} {rest data : ByteArray} {i g n : Int} {f : Bool} (k : Nat) (h : Rdw gr gR gd w0 W rest data i g n f) (hp : chunk_Read.head k rest = some none) :
    Calls Try.prog 23 #[.pointer (some ⟨gr, 0, none⟩), .pointer (some ⟨gR, 0, none⟩)] W fun e w' => e = .panicked [{ v := amissV, recovered := false }] ∧ ∃ W1, Rdw gr gR gd w0 W1 rest data i g n f ∧ ∃ nd, w' = W1.drewN nd := by
  have hcr := (blk_cell h.r 0).trans rfl
  have HH := Aside0.mk h
  clear h
  obtain ⟨p, hp0, hp⟩ := Option.bind_eq_some_iff.mp hp
  cases p with
  | none =>
    have HP := Aside0.mk hp0
    clear hp0 hp
    go_enter Try.func23, Try.ntmps23
    go_wp2_with (first | (go_at_call 24; refine (part_bad k rest 104 _ HP.out).mono ?_; rintro e w1 ⟨rfl, hb⟩))
    exact ⟨rfl, rfl, _, HH.out.step hb, 0, rfl⟩
  | some p =>
    obtain ⟨s, left⟩ := p
    obtain ⟨⟨id, s2, a⟩, hA1, hp⟩ := Option.bind_eq_some_iff.mp hp
    obtain ⟨⟨gen, s3, b⟩, hA2, hp⟩ := Option.bind_eq_some_iff.mp hp
    have hp := Option.some.inj hp
    have c : ¬ (a = 0 ∧ b = 0 ∧ s3.toList = ([] : List UInt8) ∧ numb id = true ∧ numb gen = true) := by
      intro q
      rw [if_pos q] at hp
      cases hp
    have HP := Aside0.mk hp0
    have A1 := Aside0.mk hA1
    have A2 := Aside0.mk hA2
    clear hp0 hA1 hA2 hp
    by_cases a0 : a = 0
    rotate_left
    · have d0 : (a == 0) = false := beq_eq_false_iff_ne.mpr a0
      clear c
      go_enter Try.func23, Try.ntmps23
      go_wp2_with (first | (go_at_call 24; refine (part_good k rest 104 s left _ HP.out).mono ?_; rintro e w1 ⟨rfl, hb⟩; have h1 := HH.out.step hb; have H1 := Aside0.mk h1; clear h1 hb) | (go_at_call 25; with_reducible refine (wire_TakeNum.calls k s id s2 a _ A1.out).mono ?_; rintro e w2 ⟨rfl, hb⟩; have h2 := H1.out.step hb; have H2 := Aside0.mk h2; clear h2 hb) | (go_at_call 25; with_reducible refine (wire_TakeNum.calls k s2 gen s3 b _ A2.out).mono ?_; rintro e w3 ⟨rfl, hb⟩; have h3 := H2.out.step hb;  have H3 := Aside0.mk h3; clear h3 hb) | (go_at_call 26; refine (must_bad _).mono ?_; rintro e w5 ⟨rfl, rfl⟩))
      exact ⟨rfl, rfl, _, H3.out, 0, rfl⟩
    have d0 : (a == 0) = true := beq_iff_eq.mpr a0
    by_cases b0 : b = 0
    rotate_left
    · have d1 : (b == 0) = false := beq_eq_false_iff_ne.mpr b0
      clear c
      go_enter Try.func23, Try.ntmps23
      go_wp2_with (first | (go_at_call 24; refine (part_good k rest 104 s left _ HP.out).mono ?_; rintro e w1 ⟨rfl, hb⟩; have h1 := HH.out.step hb; have H1 := Aside0.mk h1; clear h1 hb) | (go_at_call 25; with_reducible refine (wire_TakeNum.calls k s id s2 a _ A1.out).mono ?_; rintro e w2 ⟨rfl, hb⟩; have h2 := H1.out.step hb; have H2 := Aside0.mk h2; clear h2 hb) | (go_at_call 25; with_reducible refine (wire_TakeNum.calls k s2 gen s3 b _ A2.out).mono ?_; rintro e w3 ⟨rfl, hb⟩; have h3 := H2.out.step hb;  have H3 := Aside0.mk h3; clear h3 hb) | (go_at_call 26; refine (must_bad _).mono ?_; rintro e w5 ⟨rfl, rfl⟩))
      exact ⟨rfl, rfl, _, H3.out, 0, rfl⟩
    have d1 : (b == 0) = true := beq_iff_eq.mpr b0
    by_cases s0 : s3.toList = ([] : List UInt8)
    rotate_left
    · have d2 : (s3.toList == ([] : List UInt8)) = false := beq_eq_false_iff_ne.mpr s0; have d3 : (s3.toList != ([] : List UInt8)) = true := bne_iff_ne.mpr s0
      clear c
      go_enter Try.func23, Try.ntmps23
      go_wp2_with (first | (go_at_call 24; refine (part_good k rest 104 s left _ HP.out).mono ?_; rintro e w1 ⟨rfl, hb⟩; have h1 := HH.out.step hb; have H1 := Aside0.mk h1; clear h1 hb) | (go_at_call 25; with_reducible refine (wire_TakeNum.calls k s id s2 a _ A1.out).mono ?_; rintro e w2 ⟨rfl, hb⟩; have h2 := H1.out.step hb; have H2 := Aside0.mk h2; clear h2 hb) | (go_at_call 25; with_reducible refine (wire_TakeNum.calls k s2 gen s3 b _ A2.out).mono ?_; rintro e w3 ⟨rfl, hb⟩; have h3 := H2.out.step hb;  have H3 := Aside0.mk h3; clear h3 hb) | (go_at_call 26; refine (must_bad _).mono ?_; rintro e w5 ⟨rfl, rfl⟩))
      exact ⟨rfl, rfl, _, H3.out, 0, rfl⟩
    have d2 : (s3.toList == ([] : List UInt8)) = true := beq_iff_eq.mpr s0; have d3 : (s3.toList != ([] : List UInt8)) = false := bne_eq_false_iff_eq.mpr s0
    by_cases i0 : numb id = true
    rotate_left
    · have HN1 := Aside0.mk ((number_at id).trans (congrArg some (Bool.eq_false_iff.mpr i0))); have HN2 := HN1; clear i0
      clear c
      go_enter Try.func23, Try.ntmps23
      go_wp2_with (first | (go_at_call 24; refine (part_good k rest 104 s left _ HP.out).mono ?_; rintro e w1 ⟨rfl, hb⟩; have h1 := HH.out.step hb; have H1 := Aside0.mk h1; clear h1 hb) | (go_at_call 25; with_reducible refine (wire_TakeNum.calls k s id s2 a _ A1.out).mono ?_; rintro e w2 ⟨rfl, hb⟩; have h2 := H1.out.step hb; have H2 := Aside0.mk h2; clear h2 hb) | (go_at_call 25; with_reducible refine (wire_TakeNum.calls k s2 gen s3 b _ A2.out).mono ?_; rintro e w3 ⟨rfl, hb⟩; have h3 := H2.out.step hb;  have H3 := Aside0.mk h3; clear h3 hb) | (go_at_call 27; with_reducible refine (chunk_number.calls id false _ HN1.out).mono ?_; rintro e w4 ⟨rfl, ⟨nd, rfl⟩⟩) | (go_at_call 26; refine (must_bad _).mono ?_; rintro e w5 ⟨rfl, rfl⟩))
      exact ⟨rfl, rfl, _, H3.out, _, rfl⟩
    have HN1 := Aside0.mk ((number_at id).trans (congrArg some i0))
    by_cases g0 : numb gen = true
    rotate_left
    · have HN2 := Aside0.mk ((number_at gen).trans (congrArg some (Bool.eq_false_iff.mpr g0))); clear g0 i0
      clear c
      go_enter Try.func23, Try.ntmps23
      go_wp2_with (first | (go_at_call 24; refine (part_good k rest 104 s left _ HP.out).mono ?_; rintro e w1 ⟨rfl, hb⟩; have h1 := HH.out.step hb; have H1 := Aside0.mk h1; clear h1 hb) | (go_at_call 25; with_reducible refine (wire_TakeNum.calls k s id s2 a _ A1.out).mono ?_; rintro e w2 ⟨rfl, hb⟩; have h2 := H1.out.step hb; have H2 := Aside0.mk h2; clear h2 hb) | (go_at_call 25; with_reducible refine (wire_TakeNum.calls k s2 gen s3 b _ A2.out).mono ?_; rintro e w3 ⟨rfl, hb⟩; have h3 := H2.out.step hb;  have H3 := Aside0.mk h3; clear h3 hb) | (go_at_call 27; with_reducible refine (chunk_number.calls id true _ HN1.out).mono ?_; rintro e w4 ⟨rfl, ⟨nd, rfl⟩⟩) | (go_at_call 27; with_reducible refine (chunk_number.calls gen false _ HN2.out).mono ?_; rintro e w6 ⟨rfl, ⟨nd2, rfl⟩⟩) | (go_at_call 26; refine (must_bad _).mono ?_; rintro e w5 ⟨rfl, rfl⟩))
      exact ⟨rfl, rfl, _, H3.out, _, rfl⟩
    skip
    exact absurd ⟨a0, b0, s0, i0, g0⟩ c
/-! #### Read -/
def chunk_Read.loop (k : Nat) : Nat → ByteArray → ByteArray → Option (ByteArray × ByteArray)
  | 0, _, _ => none
  | m + 1, rest, data => (chunk_part.f k rest 100).bind fun p => match p with
    | none => some (rest, data)
    | some (s, left) => if s.size < 4611686018427387904 then (if s.toList ≠ ([] : List UInt8) ∧ data.size + s.size ≤ 64 then chunk_Read.loop k m left (data ++ s) else some (rest, data)) else none
def chunk_Read.rounds : Nat := 70
def chunk_Read.fuel : Nat := 40
def chunk_Read.f (a0 : ByteArray) : Option (Int × Int × Int × Bool × ByteArray × Bool × Int) :=
  (chunk_Read.head chunk_Read.fuel a0).bind fun hd => match hd with
    | none => some (0, 0, 0, false, (⟨#[]⟩ : ByteArray), false, 2)
    | some (id, gen, left) => (chunk_Read.loop chunk_Read.fuel chunk_Read.rounds left (⟨#[]⟩ : ByteArray)).bind fun rd =>
      (chunk_part.f chunk_Read.fuel rd.1 101).bind fun p => match p with
        | none => some (id, gen, (rd.2.size : Int), false, rd.2, (rd.1.toList == ([] : List UInt8)), 0)
        | some (s, left2) => if s.toList = ([] : List UInt8) then some (id, gen, (rd.2.size : Int), true, rd.2, (left2.toList == ([] : List UInt8)), 0) else some (id, gen, (rd.2.size : Int), false, rd.2, (rd.1.toList == ([] : List UInt8)), 0)
theorem Rdw.of_try {gr gR gd : Nat} {w0 W' : World} {rest data : ByteArray} {i g n : Int} {f : Bool} (h : ∃ w1, (∃ W1, Rdw gr gR gd w0 W1 rest data i g n f ∧ ∃ nd, w1 = W1.drewN nd) ∧ Below w1.heap.size w1 W') : Rdw gr gR gd w0 W' rest data i g n f := by
  obtain ⟨w1, ⟨W1, h1, nd, rfl⟩, hb⟩ := h
  exact (h1.drewN nd).step hb
theorem Rdw.of_try' {gr gR gd : Nat} {w0 W' : World} {rest data : ByteArray} {i g n : Int} {f : Bool} (h : ∃ w1, Rdw gr gR gd w0 w1 rest data i g n f ∧ Below w1.heap.size w1 W') : Rdw gr gR gd w0 W' rest data i g n f := by
  obtain ⟨w1, h1, hb⟩ := h
  exact h1.step hb
theorem Rdw.setR {gr gR gd : Nat} {w0 W : World} {rest data : ByteArray} {i g n : Int} {f : Bool} (h : Rdw gr gR gd w0 W rest data i g n f) (s : Sta w0.heap.size gr gR gd) (i' g' n' : Int) (f' : Bool) : Rdw gr gR gd w0 ((((W.setCell ⟨gR, 0, none⟩ (.int .i64 i')).setCell ⟨gR, 1, none⟩ (.int .i64 g')).setCell ⟨gR, 2, none⟩ (.int .i64 n')).setCell ⟨gR, 3, none⟩ (.bool f')) rest data i' g' n' f' :=
  let h1 := h.setb s i' g' n'
  ⟨below_set (j := 3) (v := .bool f') h1.below s.b2, blk_far h1.r s.n1 _, blk_put h1.R 3 _ rfl, blk_far h1.d (fun e => s.n3 e.symm) _⟩
theorem Rdw.setn {gr gR gd : Nat} {w0 W : World} {rest data : ByteArray} {i g n : Int} {f : Bool} (h : Rdw gr gR gd w0 W rest data i g n f) (s : Sta w0.heap.size gr gR gd) (n' : Int) : Rdw gr gR gd w0 (W.setCell ⟨gR, 2, none⟩ (.int .i64 n')) rest data i g n' f :=
  ⟨below_set h.below s.b2, blk_far h.r s.n1 _, blk_put h.R 2 _ rfl, blk_far h.d (fun e => s.n3 e.symm) _⟩
theorem Rdw.setf {gr gR gd : Nat} {w0 W : World} {rest data : ByteArray} {i g n : Int} {f : Bool} (h : Rdw gr gR gd w0 W rest data i g n f) (s : Sta w0.heap.size gr gR gd) (f' : Bool) : Rdw gr gR gd w0 (W.setCell ⟨gR, 3, none⟩ (.bool f')) rest data i g n f' :=
  ⟨below_set h.below s.b2, blk_far h.r s.n1 _, blk_put h.R 3 _ rfl, blk_far h.d (fun e => s.n3 e.symm) _⟩
theorem read_results {gr gR gd : Nat} {w0 W : World} {rest data : ByteArray} {i g n : Int} {f : Bool} (h : Rdw gr gR gd w0 W rest data i g n f) (tmps : Array Value) (b : Bool) (e : Int) (h2 : tmps.getD 2 undef = .pointer (some ⟨gR, 0, none⟩)) (h3 : tmps.getD 3 undef = .pointer (some ⟨gd, 0, none⟩)) (h4 : tmps.getD 4 undef = .bool b) (h5 : tmps.getD 5 undef = .int .i64 e) :
    (results Try.f9 tmps).run Try.prog W = .ok (.tuple #[.agg #[.int .i64 i, .int .i64 g, .int .i64 n, .bool f], .string data, .bool b, .int .i64 e]) W := by
  have r1 := run_loadVar_row W gR 26 26 _ _ _ h.R Try.underlying26 rfl (by kernel_rfl : (Try.prog.info? 26).map (·.size) = some 4)
  have hd := (blk_cell h.d 0).trans rfl
  have hu9 := Try.underlying9
  have r2 : (loadVar 9 ⟨gd, 0, none⟩).run Try.prog W = .ok (.string data) W := by simp [loadVar, hd, hu9]
  simp only [Array.getD_eq_getD_getElem?] at h2 h3 h4 h5
  unfold results
  rw [Try.results9]
  simp [h2, h3, h4, h5, asAddr, r1, r2]
set_option maxHeartbeats 1000000 in
set_option maxRecDepth 100000 in
theorem chunk_Read.calls (a0 : ByteArray) (r1 : Int) (r2 : Int) (r3 : Int) (r4 : Bool) (r5 : ByteArray) (r6 : Bool) (r7 : Int) (w : World) (h : chunk_Read.f a0 = some (r1, r2, r3, r4, r5, r6, r7)) :
    Calls Try.prog 9 #[.string a0] w fun e w' => e = .returned (.tuple #[.agg #[.int .i64 r1, .int .i64 r2, .int .i64 r3, .bool r4], .string r5, .bool r6, .int .i64 r7]) ∧ Below w.heap.size w w' := by
  have hu26 := Try.underlying26
  have eg23 : ∀ args w, (callFunc 23 args).run Try.prog w = .ok (.enter 23 args) w := enters_of Try.func23 (by kernel_rfl) rfl
  have eg28 : ∀ args w, (callFunc 28 args).run Try.prog w = .ok (.enter 28 args) w := enters_of Try.func28 (by kernel_rfl) rfl
  have eg29 : ∀ args w, (callFunc 29 args).run Try.prog w = .ok (.enter 29 args) w := enters_of Try.func29 (by kernel_rfl) rfl
  unfold chunk_Read.f at h
  generalize chunk_Read.fuel = k at h
  generalize chunk_Read.rounds = m0 at h
  have HHH := Aside0.mk h
  clear h
  have HB := Aside0.mk (Below.refl w.heap.size w)
  go_enter Try.func9, Try.ntmps9
  go_wp2_with (first
    | ((with_reducible refine gate_dst (N := 2) rfl ?_); refine box_event ?hg (N := 2) ?hd (cs := #[.int .i64 0, .int .i64 0, .int .i64 0, .bool false]) (t := 26) ?hr ?_; (case hd => rfl); (case hg => rfl); (case hr => first | (go_simp; done) | (go_simp; rfl)); intro gR hgR wa hbR hb; have HB1 := Aside0.mk (below_step HB.out hb); have HR1 := Aside0.mk hbR; have G1 := Aside0.mk (show w.heap.size ≤ gR from by rw [hgR]; exact Nat.le_refl _); clear hb hbR hgR)
    | ((with_reducible refine gate_dst (N := 3) rfl ?_); refine box_event ?hg (N := 3) ?hd (cs := #[.string ⟨#[]⟩]) (t := 9) ?hr ?_; (case hd => rfl); (case hg => rfl); (case hr => first | (go_simp; done) | (go_simp; rfl)); intro gd hgd wb hbd hb; have HB2 := Aside0.mk (below_step HB1.out hb); have HR2 := Aside0.mk (blk_below HR1.out hb); have HD2 := Aside0.mk hbd; have G2 := Aside0.mk (show w.heap.size ≤ gd ∧ gR ≠ gd from by rw [hgd]; exact ⟨below_size HB1.out, Nat.ne_of_lt (blk_lt HR1.out)⟩); clear hb hbd hgd)
    | ((with_reducible refine gate_dst (N := 6) rfl ?_); refine box_event ?hg (N := 6) ?hd (cs := #[.string ⟨#[]⟩]) (t := 9) ?hr ?_; (case hd => rfl); (case hg => rfl); (case hr => first | (go_simp; done) | (go_simp; rfl)); intro gr hgr wc hbr hb; have HB3 := Aside0.mk (below_step HB2.out hb); have HR3 := Aside0.mk (blk_below HR2.out hb); have HD3 := Aside0.mk (blk_below HD2.out hb); have hc3 := (blk_cell hbr 0).trans rfl; have hf3 := blk_frozen hbr 0; have HT3 := Aside0.mk hbr; have G3 := Aside0.mk (show w.heap.size ≤ gr ∧ gR ≠ gr ∧ gd ≠ gr from by rw [hgr]; exact ⟨below_size HB2.out, Nat.ne_of_lt (blk_lt HR2.out), Nat.ne_of_lt (blk_lt HD2.out)⟩); clear hb hbr hgr)
    | (go_at_call 22; fail))
  have ST := Aside0.mk (show Sta w.heap.size gr gR gd from ⟨G3.out.1, G1.out, G2.out.1, fun e => G3.out.2.1 e.symm, fun e => G3.out.2.2 e.symm, G2.out.2⟩)
  have RW0 := Aside0.mk (Rdw.setr ⟨HB3.out, HT3.out, HR3.out, HD3.out⟩ ST.out a0)
  clear HB HB1 HB2 HB3 HR1 HR2 HR3 HD2 HD3 HT3 G1 G2 G3 hc3 hf3
  obtain ⟨hd, hhd, HREST⟩ := Option.bind_eq_some_iff.mp HHH.out
  clear HHH
  cases hd with
  | none =>
    have HREST := Option.some.inj HREST
    simp only [Prod.mk.injEq] at HREST
    obtain ⟨rfl, rfl, rfl, rfl, rfl, rfl, rfl⟩ := HREST
    have T := Aside0.mk (try_bad 23 _ _ _ eg23 (read1_bad k RW0.out hhd))
    clear hhd
    go_at_call 22
    refine T.out.mono ?_
    rintro e w2 ⟨rfl, hw2⟩
    have RW1 := Aside0.mk (Rdw.of_try hw2)
    have hcR0 := (blk_cell RW1.out.R 0).trans rfl; have hfR0 := blk_frozen RW1.out.R 0; have hcR1 := (blk_cell RW1.out.R 1).trans rfl; have hfR1 := blk_frozen RW1.out.R 1; have hcR2 := (blk_cell RW1.out.R 2).trans rfl; have hfR2 := blk_frozen RW1.out.R 2; have hcR3 := (blk_cell RW1.out.R 3).trans rfl; have hfR3 := blk_frozen RW1.out.R 3
    have hcd := (blk_cell RW1.out.d 0).trans rfl; have hfd := blk_frozen RW1.out.d 0
    have RW2 := RW1.out.setR ST.out 0 0 0 false
    have hcd2 := (blk_cell RW2.d 0).trans rfl; have hfd2 := blk_frozen RW2.d 0
    have RW3 := Aside0.mk (RW2.setd ST.out ⟨#[]⟩)
    clear hw2 T RW0 RW2
    go_wp2
    exact bodyPost_ret (read_results RW3.out _ _ _ rfl rfl rfl rfl) rfl ⟨rfl, RW3.out.below⟩
  | some hd =>
    obtain ⟨id, gen, left⟩ := hd
    simp only at HREST
    obtain ⟨⟨R1, D1⟩, hloop, HREST⟩ := Option.bind_eq_some_iff.mp HREST
    have T := Aside0.mk (try_good 23 _ _ _ eg23 (read1_good k id gen left RW0.out ST.out hhd))
    have HL := Aside0.mk hloop
    have HRS := Aside0.mk HREST
    clear hhd hloop HREST
    go_at_call 22
    refine T.out.mono ?_
    rintro e w2 ⟨rfl, hw2⟩
    have RW1 := Aside0.mk hw2
    clear hw2 T RW0
    go_wp2
    go_loopg [8] m0 (fun kq v8 w' => ∃ (more : Bool) (rest data : ByteArray), v8 = .bool more ∧ Aside0 (Rdw gr gR gd w w' rest data id gen 0 false) ∧ Aside0 (data.size ≤ 64) ∧ Aside0 (if more = true then chunk_Read.loop k kq rest data = some (R1, D1) else (rest = R1 ∧ data = D1)))
    case atStart => exact ⟨true, left, ⟨#[]⟩, rfl, RW1, ⟨by decide⟩, ⟨by rw [if_pos rfl]; exact HL.out⟩⟩
    case round =>
      clear RW1 HL
      obtain ⟨more, rest, data, rfl, RW1, HDS, HL⟩ := hrel
      cases more with
      | true =>
        have HL := HL.out
        rw [if_pos rfl] at HL
        cases gk with
        | zero => cases HL
        | succ k1 =>
          rw [chunk_Read.loop] at HL
          obtain ⟨p, hp, HL⟩ := Option.bind_eq_some_iff.mp HL
          have bad : (rest, data) = (R1, D1) → (chunk_part.f k rest 100 = some none ∨ ∃ s left, chunk_part.f k rest 100 = some (some (s, left)) ∧ s.size < 4611686018427387904 ∧ (s.toList = ([] : List UInt8) ∨ ¬ data.size + s.size ≤ 64)) → Aside0 (rest = R1 ∧ data = D1) ∧ Aside0 (Calls Try.prog 22 #[.func (.func 28) #[] #[.pointer (some ⟨gr, 0, none⟩), .pointer (some ⟨gd, 0, none⟩)]] wr fun e w' => e = .returned (.bool false) ∧ ∃ w1, Rdw gr gR gd w w1 rest data id gen 0 false ∧ Below w1.heap.size w1 w') :=
            fun h1 h2 => ⟨⟨(Prod.mk.inj h1).1, (Prod.mk.inj h1).2⟩, ⟨try_bad 28 _ _ _ eg28 (read2_bad k RW1.out HDS.out h2)⟩⟩
          have key : (Aside0 (rest = R1 ∧ data = D1) ∧ Aside0 (Calls Try.prog 22 #[.func (.func 28) #[] #[.pointer (some ⟨gr, 0, none⟩), .pointer (some ⟨gd, 0, none⟩)]] wr fun e w' => e = .returned (.bool false) ∧ ∃ w1, Rdw gr gR gd w w1 rest data id gen 0 false ∧ Below w1.heap.size w1 w')) ∨ ∃ s left', Aside0 (data.size + s.size ≤ 64) ∧ Aside0 (chunk_Read.loop k k1 left' (data ++ s) = some (R1, D1)) ∧ Aside0 (Calls Try.prog 22 #[.func (.func 28) #[] #[.pointer (some ⟨gr, 0, none⟩), .pointer (some ⟨gd, 0, none⟩)]] wr fun e w' => e = .returned (.bool true) ∧ Rdw gr gR gd w w' left' (data ++ s) id gen 0 false) := by
            cases p with
            | none => exact .inl (bad (Option.some.inj HL) (.inl hp))
            | some p =>
              obtain ⟨s, left'⟩ := p
              simp only at HL
              split at HL
              · rename_i hz
                split at HL
                · rename_i c
                  exact .inr ⟨s, left', ⟨c.2⟩, ⟨HL⟩, ⟨try_good 28 _ _ _ eg28 (read2_good k s left' RW1.out ST.out hp c.1 c.2)⟩⟩
                · rename_i c
                  refine .inl (bad (Option.some.inj HL) (.inr ⟨s, left', hp, hz, ?_⟩))
                  by_cases q : s.toList = ([] : List UInt8)
                  · exact .inl q
                  · exact .inr (fun q2 => c ⟨q, q2⟩)
              · cases HL
          clear bad HL hp
          rcases key with ⟨HE, T⟩ | ⟨s, left', HS, HL2, T⟩
          · go_wp2_with (go_at_call 22; fail)
            refine T.out.mono ?_
            rintro e w3 ⟨rfl, hw3⟩
            have RW2 := Aside0.mk (Rdw.of_try' hw3)
            clear hw3 T RW1
            go_wp2
            go_roundg k1
            case measure => omega
            case rel => exact ⟨false, rest, data, rfl, RW2, HDS, ⟨by rw [if_neg (by decide)]; exact HE.out⟩⟩
          · go_wp2_with (go_at_call 22; fail)
            refine T.out.mono ?_
            rintro e w3 ⟨rfl, hw3⟩
            have RW2 := Aside0.mk hw3
            clear hw3 T RW1
            go_wp2
            go_roundg k1
            case measure => omega
            case rel => exact ⟨true, left', data ++ s, rfl, RW2, ⟨by rw [ByteArray.size_append]; exact HS.out⟩, ⟨by rw [if_pos rfl]; exact HL2.out⟩⟩
      | false =>
        have HL := HL.out
        rw [if_neg (by decide)] at HL
        obtain ⟨rfl, rfl⟩ := HL
        have hcR0 := (blk_cell RW1.out.R 0).trans rfl; have hfR0 := blk_frozen RW1.out.R 0; have hcR1 := (blk_cell RW1.out.R 1).trans rfl; have hfR1 := blk_frozen RW1.out.R 1; have hcR2 := (blk_cell RW1.out.R 2).trans rfl; have hfR2 := blk_frozen RW1.out.R 2; have hcR3 := (blk_cell RW1.out.R 3).trans rfl; have hfR3 := blk_frozen RW1.out.R 3; have hcd := (blk_cell RW1.out.d 0).trans rfl; have hfd := blk_frozen RW1.out.d 0; have hcr := (blk_cell RW1.out.r 0).trans rfl; have hfr := blk_frozen RW1.out.r 0
        have RW2 := Aside0.mk (RW1.out.setn ST.out (data.size : Int))
        clear RW1
        go_wp2_with (go_at_call 22; fail)
        have key : ∃ (fb : Bool) (rest' : ByteArray), Aside0 (r1 = id ∧ r2 = gen ∧ r3 = (data.size : Int) ∧ r4 = fb ∧ r5 = data ∧ r6 = (rest'.toList == ([] : List UInt8)) ∧ r7 = 0) ∧ Aside0 (Calls Try.prog 22 #[.func (.func 29) #[] #[.pointer (some ⟨gr, 0, none⟩)]] (wr.setCell ⟨gR, 2, none⟩ (.int .i64 (data.size : Int))) fun e w' => e = .returned (.bool fb) ∧ Rdw gr gR gd w w' rest' data id gen (data.size : Int) false) := by
          obtain ⟨p, hp, H⟩ := Option.bind_eq_some_iff.mp HRS.out
          have bad : some (id, gen, (data.size : Int), false, data, (rest.toList == ([] : List UInt8)), (0 : Int)) = some (r1, r2, r3, r4, r5, r6, r7) → (chunk_part.f k rest 101 = some none ∨ ∃ s left, chunk_part.f k rest 101 = some (some (s, left)) ∧ s.toList ≠ ([] : List UInt8)) → ∃ (fb : Bool) (rest' : ByteArray), Aside0 (r1 = id ∧ r2 = gen ∧ r3 = (data.size : Int) ∧ r4 = fb ∧ r5 = data ∧ r6 = (rest'.toList == ([] : List UInt8)) ∧ r7 = 0) ∧ Aside0 (Calls Try.prog 22 #[.func (.func 29) #[] #[.pointer (some ⟨gr, 0, none⟩)]] (wr.setCell ⟨gR, 2, none⟩ (.int .i64 (data.size : Int))) fun e w' => e = .returned (.bool fb) ∧ Rdw gr gR gd w w' rest' data id gen (data.size : Int) false) := by
            intro h1 h2
            have h1 := Option.some.inj h1
            simp only [Prod.mk.injEq] at h1
            obtain ⟨rfl, rfl, rfl, rfl, rfl, rfl, rfl⟩ := h1
            exact ⟨false, rest, ⟨rfl, rfl, rfl, rfl, rfl, rfl, rfl⟩, ⟨(try_bad 29 _ _ _ eg29 (read3_bad k RW2.out h2)).mono fun _ _ ⟨he, hw⟩ => ⟨he, Rdw.of_try' hw⟩⟩⟩
          cases p with
          | none => exact bad H (.inl hp)
          | some p =>
            obtain ⟨s, left2⟩ := p
            simp only at H hp
            split at H
            · rename_i c
              have h1 := Option.some.inj H
              simp only [Prod.mk.injEq] at h1
              obtain ⟨rfl, rfl, rfl, rfl, rfl, rfl, rfl⟩ := h1
              exact ⟨true, left2, ⟨rfl, rfl, rfl, rfl, rfl, rfl, rfl⟩, ⟨try_good 29 _ _ _ eg29 (read3_good k s left2 RW2.out ST.out hp c)⟩⟩
            · rename_i c
              exact bad H (.inr ⟨s, left2, hp, c⟩)
        obtain ⟨fb, rest', HV, T3⟩ := key
        clear hcR0 hfR0 hcR1 hfR1 hcR2 hfR2 hcR3 hfR3 hcd hfd hcr hfr
        clear HRS RW2
        refine T3.out.mono ?_
        rintro e w5 ⟨rfl, hw5⟩
        have RW4 := Aside0.mk hw5
        clear hw5 T3
        have hcR0 := (blk_cell RW4.out.R 0).trans rfl; have hfR0 := blk_frozen RW4.out.R 0; have hcR1 := (blk_cell RW4.out.R 1).trans rfl; have hfR1 := blk_frozen RW4.out.R 1; have hcR2 := (blk_cell RW4.out.R 2).trans rfl; have hfR2 := blk_frozen RW4.out.R 2; have hcR3 := (blk_cell RW4.out.R 3).trans rfl; have hfR3 := blk_frozen RW4.out.R 3; have hcd := (blk_cell RW4.out.d 0).trans rfl; have hfd := blk_frozen RW4.out.d 0; have hcr := (blk_cell RW4.out.r 0).trans rfl; have hfr := blk_frozen RW4.out.r 0
        have RW5 := RW4.out.setf ST.out fb
        go_wp2
        clear hcR0 hfR0 hcR1 hfR1 hcR2 hfR2 hcR3 hfR3 hcd hfd hcr hfr
        clear RW4
        generalize w5.setCell ⟨gR, 3, none⟩ (.bool fb) = W5 at RW5 ⊢
        have n1 : gR ≠ gd := ST.out.n3
        have n2 : gd ≠ gR := fun e => ST.out.n3 e.symm
        have n3 : gR ≠ gr := fun e => ST.out.n1 e.symm
        have n4 : gr ≠ gR := ST.out.n1
        have n5 : gr ≠ gd := ST.out.n2
        have n6 : gd ≠ gr := fun e => ST.out.n2 e.symm
        have hcR0 := (blk_cell RW5.R 0).trans rfl; have hfR0 := blk_frozen RW5.R 0; have hcR1 := (blk_cell RW5.R 1).trans rfl; have hfR1 := blk_frozen RW5.R 1; have hcR2 := (blk_cell RW5.R 2).trans rfl; have hfR2 := blk_frozen RW5.R 2; have hcR3 := (blk_cell RW5.R 3).trans rfl; have hfR3 := blk_frozen RW5.R 3; have hcd := (blk_cell RW5.d 0).trans rfl; have hfd := blk_frozen RW5.d 0; have hcr := (blk_cell RW5.r 0).trans rfl; have hfr := blk_frozen RW5.r 0
        have RWS := Aside0.mk ((RW5.setR ST.out id gen (data.size : Int) fb).setd ST.out data).drew
        have RW5' := Aside0.mk RW5
        clear RW5
        go_region
        go_wp2
        obtain ⟨rfl, rfl, rfl, rfl, rfl, rfl, rfl⟩ := HV.out
        refine bodyPost_ret (read_results RWS.out _ _ _ rfl rfl rfl rfl) rfl ⟨?_, RWS.out.below⟩
        rw [(fun l => by cases l <;> rfl : ∀ l : List UInt8, l.isEmpty = (l == ([] : List UInt8))) rest'.toList]

end Go.Proofs.Ytljllecpmllefaa.P
