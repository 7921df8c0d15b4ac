/- The Go functions of this seat as plain Lean functions, and for each the proof that its call gives what the plain function gives. Printed by a program of this session. -/
import Derived.Test.YtecjdchjaoimfaaPx0
import Derived.Test.YtecjdchjaoimfaaPx2
import Derived.Test.YtecjdchjaoimfaaPx6
import Derived.Test.YtecjdchjaoimfaaPx7
namespace Go.Proofs.Ytecjdchjaoimfaa.P
open Go.RowKit Go.Proofs.YtecjdchjaoimfaaW.PrintWords Go.Proofs.YtecjdchjaoimfaaW.PrintLast Go.Proofs.YtecjdchjaoimfaaW.PrintMore
attribute [local go_sem] max2_int min2_int max_two min_two max_three min_three max_four min_four   -- for this text's walks alone
set_option linter.unusedVariables false
set_option linter.unusedSimpArgs false

/-! ### edit_Decode: function 11 -/
set_option maxHeartbeats 4000000 in
set_option maxRecDepth 100000 in
theorem dnum_calls (k b5 b6 : Nat) (rest : ByteArray) (fine : Bool) (n : Int) (r : ByteArray) (e : Int) (W : World) (hne : b5 ≠ b6) (h5 : W.heap[b5]? = some (.cells #[.string rest] 9 (0, 0))) (h6 : W.heap[b6]? = some (.cells #[.bool fine] 4 (0, 0))) (h : wire_TakeNum.f k rest = some (n, r, e)) :
  Calls Try.prog 21 #[.pointer (some ⟨b5, 0, none⟩), .pointer (some ⟨b6, 0, none⟩)] W fun E W' => E = .returned (.int .i64 n) ∧ ∃ W1, Below W.heap.size W W1 ∧ W' = (W1.setCell ⟨b5, 0, none⟩ (.string r)).setCell ⟨b6, 0, none⟩ (.bool (fine && (e == 0))) := by
 have c5 : W.cell? ⟨b5, 0, none⟩ = some (.string rest) := (blk_cell h5 0).trans rfl
 have T := wire_TakeNum.calls k rest n r e W h
 have H5 := Aside0.mk h5
 have H6 := Aside0.mk h6
 clear h h5 h6
 go_enter Try.func21, Try.ntmps21
 go_wp2_with (go_at_call 22; fail)
 go_at_call 22
 refine T.mono ?_
 rintro E W1 ⟨rfl, hb⟩
 have h5' := (hb.block b5 (blk_lt H5.out)).trans H5.out
 have h6' := (hb.block b6 (blk_lt H6.out)).trans H6.out
 have d5 : W1.cell? ⟨b5, 0, none⟩ = some (.string rest) := (blk_cell h5' 0).trans rfl
 have d6 : W1.cell? ⟨b6, 0, none⟩ = some (.bool fine) := (blk_cell h6' 0).trans rfl
 have f5 : W1.frozen? ⟨b5, 0, none⟩ = false := blk_frozen h5' 0
 have f6 : W1.frozen? ⟨b6, 0, none⟩ = false := blk_frozen h6' 0
 have hne' : b6 ≠ b5 := fun x => hne x.symm
 have HB := Aside0.mk hb
 clear hb h5' h6' H5 H6 T c5
 cases fine with
 | true =>
  by_cases c : e = 0
  ·
   have cb : (e == 0) = true := beq_iff_eq.mpr c
   have CB := Aside0.mk cb
   clear c
   go_wp2
   go_ret
   exact ⟨rfl, W1, HB.out, by rw [CB.out]; rfl⟩
  ·
   have cb : (e == 0) = false := beq_eq_false_iff_ne.mpr c
   have CB := Aside0.mk cb
   clear c
   go_wp2
   go_ret
   exact ⟨rfl, W1, HB.out, by rw [CB.out]; rfl⟩
 | false =>
  go_wp2
  go_ret
  exact ⟨rfl, W1, HB.out, rfl⟩
set_option maxHeartbeats 4000000 in
set_option maxRecDepth 100000 in
theorem dtext_calls (k b5 b6 : Nat) (rest : ByteArray) (fine : Bool) (s : ByteArray) (r : ByteArray) (e : Int) (W : World) (hne : b5 ≠ b6) (h5 : W.heap[b5]? = some (.cells #[.string rest] 9 (0, 0))) (h6 : W.heap[b6]? = some (.cells #[.bool fine] 4 (0, 0))) (h : wire_TakeText.f k rest = some (s, r, e)) :
  Calls Try.prog 23 #[.pointer (some ⟨b5, 0, none⟩), .pointer (some ⟨b6, 0, none⟩)] W fun E W' => E = .returned (.string s) ∧ ∃ W1, Below W.heap.size W W1 ∧ W' = (W1.setCell ⟨b5, 0, none⟩ (.string r)).setCell ⟨b6, 0, none⟩ (.bool (fine && (e == 0))) := by
 have c5 : W.cell? ⟨b5, 0, none⟩ = some (.string rest) := (blk_cell h5 0).trans rfl
 have T := wire_TakeText.calls k rest s r e W h
 have H5 := Aside0.mk h5
 have H6 := Aside0.mk h6
 clear h h5 h6
 go_enter Try.func23, Try.ntmps23
 go_wp2_with (go_at_call 24; fail)
 go_at_call 24
 refine T.mono ?_
 rintro E W1 ⟨rfl, hb⟩
 have h5' := (hb.block b5 (blk_lt H5.out)).trans H5.out
 have h6' := (hb.block b6 (blk_lt H6.out)).trans H6.out
 have d5 : W1.cell? ⟨b5, 0, none⟩ = some (.string rest) := (blk_cell h5' 0).trans rfl
 have d6 : W1.cell? ⟨b6, 0, none⟩ = some (.bool fine) := (blk_cell h6' 0).trans rfl
 have f5 : W1.frozen? ⟨b5, 0, none⟩ = false := blk_frozen h5' 0
 have f6 : W1.frozen? ⟨b6, 0, none⟩ = false := blk_frozen h6' 0
 have hne' : b6 ≠ b5 := fun x => hne x.symm
 have HB := Aside0.mk hb
 clear hb h5' h6' H5 H6 T c5
 cases fine with
 | true =>
  by_cases c : e = 0
  ·
   have cb : (e == 0) = true := beq_iff_eq.mpr c
   have CB := Aside0.mk cb
   clear c
   go_wp2
   go_ret
   exact ⟨rfl, W1, HB.out, by rw [CB.out]; rfl⟩
  ·
   have cb : (e == 0) = false := beq_eq_false_iff_ne.mpr c
   have CB := Aside0.mk cb
   clear c
   go_wp2
   go_ret
   exact ⟨rfl, W1, HB.out, by rw [CB.out]; rfl⟩
 | false =>
  go_wp2
  go_ret
  exact ⟨rfl, W1, HB.out, rfl⟩
/-- the four blocks of a decoding -/
structure DSt (w W : World) (e : Array Value) (rest : ByteArray) (fine : Bool) : Prop where
 below : Below w.heap.size w W
 res : W.heap[w.heap.size]? = some (.cells #[.int .i64 0, .string ⟨#[]⟩, .string ⟨#[]⟩, .int .i64 0, .int .i64 0, .int .i64 0, .slice none 0 0] 24 (0, 0))
 ed : W.heap[w.heap.size + 1]? = some (.cells e 24 (0, 0))
 st : W.heap[w.heap.size + 1 + 1]? = some (.cells #[.string rest] 9 (0, 0))
 fi : W.heap[w.heap.size + 1 + 1 + 1]? = some (.cells #[.bool fine] 4 (0, 0))
theorem DSt.call {w W W1 : World} {e : Array Value} {rest : ByteArray} {fine : Bool} (h : DSt w W e rest fine) (k : Below W.heap.size W W1) : DSt w W1 e rest fine :=
 ⟨below_then h.below h.below.size k, (k.block _ (blk_lt h.res)).trans h.res, (k.block _ (blk_lt h.ed)).trans h.ed, (k.block _ (blk_lt h.st)).trans h.st, (k.block _ (blk_lt h.fi)).trans h.fi⟩
theorem DSt.read {w W : World} {e : Array Value} {rest : ByteArray} {fine : Bool} (h : DSt w W e rest fine) (r : ByteArray) (f : Bool) : DSt w ((W.setCell ⟨w.heap.size + 1 + 1, 0, none⟩ (.string r)).setCell ⟨w.heap.size + 1 + 1 + 1, 0, none⟩ (.bool f)) e r f :=
 ⟨below_set (below_set h.below (by omega)) (by omega), blk_far (blk_far h.res (by simp <;> omega) _) (by simp <;> omega) _, blk_far (blk_far h.ed (by simp <;> omega) _) (by simp <;> omega) _, blk_far (by simpa using blk_set h.st 0 (.string r)) (by simp <;> omega) _, by simpa using blk_set (blk_far h.fi (p := ⟨w.heap.size + 1 + 1, 0, none⟩) (by simp <;> omega) (.string r)) 0 (.bool f)⟩
theorem DSt.put {w W : World} {e : Array Value} {rest : ByteArray} {fine : Bool} (h : DSt w W e rest fine) (j : Nat) (v : Value) : DSt w (W.setCell ⟨w.heap.size + 1, j, none⟩ v) (e.setIfInBounds j v) rest fine :=
 ⟨below_set h.below (by omega), blk_far h.res (by simp <;> omega) _, by simpa using blk_set h.ed j v, blk_far h.st (by simp <;> omega) _, blk_far h.fi (by simp <;> omega) _⟩
theorem dnum_at (k b5 b6 : Nat) (rest : ByteArray) (fine : Bool) (n : Int) (r : ByteArray) (e : Int) (f : Bool) (W : World) (hne : b5 ≠ b6) (h5 : W.heap[b5]? = some (.cells #[.string rest] 9 (0, 0))) (h6 : W.heap[b6]? = some (.cells #[.bool fine] 4 (0, 0))) (h : wire_TakeNum.f k rest = some (n, r, e)) (hf : (fine && (e == 0)) = f) :
  Calls Try.prog 21 #[.pointer (some ⟨b5, 0, none⟩), .pointer (some ⟨b6, 0, none⟩)] W fun E W' => E = .returned (.int .i64 n) ∧ ∃ W1, Below W.heap.size W W1 ∧ W' = (W1.setCell ⟨b5, 0, none⟩ (.string r)).setCell ⟨b6, 0, none⟩ (.bool f) := by
 subst hf; exact dnum_calls k b5 b6 rest fine n r e W hne h5 h6 h
theorem dtext_at (k b5 b6 : Nat) (rest : ByteArray) (fine : Bool) (s : ByteArray) (r : ByteArray) (e : Int) (f : Bool) (W : World) (hne : b5 ≠ b6) (h5 : W.heap[b5]? = some (.cells #[.string rest] 9 (0, 0))) (h6 : W.heap[b6]? = some (.cells #[.bool fine] 4 (0, 0))) (h : wire_TakeText.f k rest = some (s, r, e)) (hf : (fine && (e == 0)) = f) :
  Calls Try.prog 23 #[.pointer (some ⟨b5, 0, none⟩), .pointer (some ⟨b6, 0, none⟩)] W fun E W' => E = .returned (.string s) ∧ ∃ W1, Below W.heap.size W W1 ∧ W' = (W1.setCell ⟨b5, 0, none⟩ (.string r)).setCell ⟨b6, 0, none⟩ (.bool f) := by
 subst hf; exact dtext_calls k b5 b6 rest fine s r e W hne h5 h6 h
theorem DSt.grown {w W W1 : World} {e : Array Value} {rest : ByteArray} {fine : Bool} (h : DSt w W e rest fine) {v : Value} {l : List Int} (hr : Kd.R (Kd.int .i64) 3 W w.heap.size (fun _ => True) v l) (hb : Below w.heap.size w W1) (hg : W.grownBy W1 v.ownBlock) : DSt w W1 e rest fine :=
 ⟨hb, blk_grown h.res hg (Kd.R_ne hr h.res (by decide)), blk_grown h.ed hg (Kd.R_ne hr h.ed (by decide)), blk_grown h.st hg (Kd.R_ne hr h.st (by decide)), blk_grown h.fi hg (Kd.R_ne hr h.fi (by decide))⟩
theorem DSt.rowRead {w W : World} {e : Array Value} {rest : ByteArray} {fine : Bool} (h : DSt w W e rest fine) {v : Value} {l : List Int} (hr : Kd.R (Kd.int .i64) 3 W w.heap.size (fun _ => True) v l) (r : ByteArray) (f : Bool) : Kd.R (Kd.int .i64) 3 ((W.setCell ⟨w.heap.size + 1 + 1, 0, none⟩ (.string r)).setCell ⟨w.heap.size + 1 + 1 + 1, 0, none⟩ (.bool f)) w.heap.size (fun _ => True) v l :=
 Kd.R_set (Kd.R_set hr h.st (by decide) 0 _) (blk_far h.fi (by simp <;> omega) _) (by decide) 0 _
theorem DSt.rowPut {w W : World} {e : Array Value} {rest : ByteArray} {fine : Bool} (h : DSt w W e rest fine) {v : Value} {l : List Int} (hr : Kd.R (Kd.int .i64) 3 W w.heap.size (fun _ => True) v l) (j : Nat) (u : Value) : Kd.R (Kd.int .i64) 3 (W.setCell ⟨w.heap.size + 1, j, none⟩ u) w.heap.size (fun _ => True) v l :=
 Kd.R_set hr h.ed (by decide) j u
theorem alloc_keep {W : World} {o x : Obj} {i : Nat} (h : W.heap[i]? = some x) : (W.alloc o).heap[i]? = some x := (heap_alloc_old W o (blk_lt h)).trans h
theorem DSt.start (w : World) (b : ByteArray) : DSt w ((((w.alloc (.cells #[.int .i64 0, .string ⟨#[]⟩, .string ⟨#[]⟩, .int .i64 0, .int .i64 0, .int .i64 0, .slice none 0 0] 24)).alloc (.cells #[.int .i64 0, .string ⟨#[]⟩, .string ⟨#[]⟩, .int .i64 0, .int .i64 0, .int .i64 0, .slice none 0 0] 24)).alloc (.cells #[.string b] 9)).alloc (.cells #[.bool true] 4)) #[.int .i64 0, .string ⟨#[]⟩, .string ⟨#[]⟩, .int .i64 0, .int .i64 0, .int .i64 0, .slice none 0 0] b true :=
 ⟨below_alloc (below_alloc (below_alloc (below_alloc (Below.refl _ _) _) _) _) _, alloc_keep (alloc_keep (alloc_keep (heap_alloc_new w _))), alloc_keep (alloc_keep (by simpa using heap_alloc_new (w.alloc _) _)), alloc_keep (by simpa using heap_alloc_new ((w.alloc _).alloc _) _), by simpa using heap_alloc_new (((w.alloc _).alloc _).alloc _) _⟩
def edit_Decode.l0 : Nat → ByteArray → Bool → List Int → Int → Int → Option (ByteArray × Bool × List Int)
 | 0, _, _, _, _, _ => none
 | k + 1, rest, fine, l, many, i => if i < many then ((wire_TakeNum.f k rest).bind fun t => if l.length < 17592186044416 then edit_Decode.l0 k t.2.1 (fine && (t.2.2 == 0)) (l ++ [t.1]) many (wrap64 (i + 1)) else none) else some (rest, fine, l)
def edit_Decode.g (k : Nat) (n1 : Int) (p t : ByteArray) (c q n many : Int) (rest : ByteArray) (fine : Bool) : Option (Int × ByteArray × ByteArray × Int × Int × Int × List Int × Int) :=
 if fine = false ∨ many < 0 ∨ 8 < many then some (0, ⟨#[]⟩, ⟨#[]⟩, 0, 0, 0, [], 2) else (edit_Decode.l0 k rest fine [] many 0).bind fun z => if z.2.1 = true ∧ z.1.toList = [] ∧ rightB n1 p t c q n z.2.2 = true then some (n1, p, t, c, q, n, z.2.2, 0) else some (0, ⟨#[]⟩, ⟨#[]⟩, 0, 0, 0, [], 2)
def edit_Decode.f (k : Nat) (b : ByteArray) : Option (Int × ByteArray × ByteArray × Int × Int × Int × List Int × Int) :=
 (wire_TakeNum.f k b).bind fun t1 => (wire_TakeText.f k t1.2.1).bind fun t2 => (wire_TakeText.f k t2.2.1).bind fun t3 => (wire_TakeNum.f k t3.2.1).bind fun t4 => (wire_TakeNum.f k t4.2.1).bind fun t5 => (wire_TakeNum.f k t5.2.1).bind fun t6 => (wire_TakeNum.f k t6.2.1).bind fun t7 =>
  edit_Decode.g k t1.1 t2.1 t3.1 t4.1 t5.1 t6.1 t7.1 t7.2.1 (((((((true && (t1.2.2 == 0)) && (t2.2.2 == 0)) && (t3.2.2 == 0)) && (t4.2.2 == 0)) && (t5.2.2 == 0)) && (t6.2.2 == 0)) && (t7.2.2 == 0))
theorem edit_Decode.mono_l : ∀ k r f l m i, LeO (edit_Decode.l0 k r f l m i) (edit_Decode.l0 (k + 1) r f l m i)
 | 0, _, _, _, _, _ => LeO.none _
 | k + 1, r, f, l, m, i => by
  rw [edit_Decode.l0, edit_Decode.l0]
  exact LeO.ite (LeO.bind (wire_TakeNum.mono _ k) fun t => LeO.ite (edit_Decode.mono_l k _ _ _ _ _) (LeO.refl _)) (LeO.refl _)
theorem edit_Decode.mono : ∀ b k, LeO (edit_Decode.f k b) (edit_Decode.f (k + 1) b) := by
 intro b k
 unfold edit_Decode.f edit_Decode.g
 exact LeO.bind (wire_TakeNum.mono _ k) fun t1 => LeO.bind (wire_TakeText.mono _ k) fun t2 => LeO.bind (wire_TakeText.mono _ k) fun t3 => LeO.bind (wire_TakeNum.mono _ k) fun t4 => LeO.bind (wire_TakeNum.mono _ k) fun t5 => LeO.bind (wire_TakeNum.mono _ k) fun t6 => LeO.bind (wire_TakeNum.mono _ k) fun t7 => LeO.ite (LeO.refl _) (LeO.bind (edit_Decode.mono_l k _ _ _ _ _) fun z => LeO.refl _)
set_option maxHeartbeats 16000000 in
set_option maxRecDepth 100000 in
theorem edit_Decode.calls (k : Nat) (a0 : ByteArray) (r1 : Int) (r2 : ByteArray) (r3 : ByteArray) (r4 : Int) (r5 : Int) (r6 : Int) (r7 : List Int) (r8 : Int) (w : World) (h : edit_Decode.f k a0 = some (r1, r2, r3, r4, r5, r6, r7, r8)) :
  Calls Try.prog 11 #[.string a0] w fun e w' => ∃ v6_ : Value, e = .returned (.tuple #[.agg #[.int .i64 r1, .string r2, .string r3, .int .i64 r4, .int .i64 r5, .int .i64 r6, v6_], .int .i64 r8]) ∧ Kd.R (Kd.int .i64) 3 w' w.heap.size (fun _ => True) v6_ r7 ∧ Below w.heap.size w w' := by
 unfold edit_Decode.f at h
 obtain ⟨⟨n1, R1, e1⟩, A1, h⟩ := Option.bind_eq_some_iff.mp h
 obtain ⟨⟨n2, R2, e2⟩, A2, h⟩ := Option.bind_eq_some_iff.mp h
 obtain ⟨⟨n3, R3, e3⟩, A3, h⟩ := Option.bind_eq_some_iff.mp h
 obtain ⟨⟨n4, R4, e4⟩, A4, h⟩ := Option.bind_eq_some_iff.mp h
 obtain ⟨⟨n5, R5, e5⟩, A5, h⟩ := Option.bind_eq_some_iff.mp h
 obtain ⟨⟨n6, R6, e6⟩, A6, h⟩ := Option.bind_eq_some_iff.mp h
 obtain ⟨⟨n7, R7, e7⟩, A7, h⟩ := Option.bind_eq_some_iff.mp h
 simp only at A1 A2 A3 A4 A5 A6 A7 h
 obtain ⟨f1, hf1⟩ : ∃ f, (true && (e1 == 0)) = f := ⟨_, rfl⟩
 rw [hf1] at h
 obtain ⟨f2, hf2⟩ : ∃ f, (f1 && (e2 == 0)) = f := ⟨_, rfl⟩
 rw [hf2] at h
 obtain ⟨f3, hf3⟩ : ∃ f, (f2 && (e3 == 0)) = f := ⟨_, rfl⟩
 rw [hf3] at h
 obtain ⟨f4, hf4⟩ : ∃ f, (f3 && (e4 == 0)) = f := ⟨_, rfl⟩
 rw [hf4] at h
 obtain ⟨f5, hf5⟩ : ∃ f, (f4 && (e5 == 0)) = f := ⟨_, rfl⟩
 rw [hf5] at h
 obtain ⟨f6, hf6⟩ : ∃ f, (f5 && (e6 == 0)) = f := ⟨_, rfl⟩
 rw [hf6] at h
 obtain ⟨f7, hf7⟩ : ∃ f, (f6 && (e7 == 0)) = f := ⟨_, rfl⟩
 rw [hf7] at h
 have A1 := Aside0.mk A1
 have hf1 := Aside0.mk hf1
 have A2 := Aside0.mk A2
 have hf2 := Aside0.mk hf2
 have A3 := Aside0.mk A3
 have hf3 := Aside0.mk hf3
 have A4 := Aside0.mk A4
 have hf4 := Aside0.mk hf4
 have A5 := Aside0.mk A5
 have hf5 := Aside0.mk hf5
 have A6 := Aside0.mk A6
 have hf6 := Aside0.mk hf6
 have A7 := Aside0.mk A7
 have hf7 := Aside0.mk hf7
 have H := Aside0.mk h
 clear h
 have hmf : ∀ (fn : Fn) (first cap : Array Value) (w : World), (Instr.makeFunc fn first cap).run Try.prog w = .ok (.func fn first cap) w := fun _ _ _ _ => rfl
 have D0 := Aside0.mk (DSt.start w a0)
 go_enter Try.func11, Try.ntmps11
 go_wp2_with (go_at_call 21; fail)
 go_at_call 21
 refine (dnum_at k (w.heap.size + 1 + 1) (w.heap.size + 1 + 1 + 1) a0 true n1 R1 e1 f1 _ (by omega) D0.out.st D0.out.fi A1.out hf1.out).mono ?_
 rintro E_ V1 ⟨rfl, W1, hb, rfl⟩
 have C1 := D0.out.call hb
 have D0r := Aside0.mk (C1.read R1 f1)
 clear hb D0
 have c_ : W1.cell? ⟨w.heap.size + 1, 0, none⟩ = some (.int .i64 0) := (blk_cell C1.ed 0).trans rfl
 have z_ : W1.frozen? ⟨w.heap.size + 1, 0, none⟩ = false := blk_frozen C1.ed 0
 have D1 := Aside0.mk (show DSt w _ #[.int .i64 n1, .string ⟨#[]⟩, .string ⟨#[]⟩, .int .i64 0, .int .i64 0, .int .i64 0, .slice none 0 0] R1 f1 from D0r.out.put 0 (.int .i64 n1))
 clear C1 D0r
 go_wp2_with (go_at_call 23; fail)
 clear c_ z_
 go_at_call 23
 refine (dtext_at k (w.heap.size + 1 + 1) (w.heap.size + 1 + 1 + 1) R1 f1 n2 R2 e2 f2 _ (by omega) D1.out.st D1.out.fi A2.out hf2.out).mono ?_
 rintro E_ V2 ⟨rfl, W2, hb, rfl⟩
 have C2 := D1.out.call hb
 have D1r := Aside0.mk (C2.read R2 f2)
 clear hb D1
 have c_ : W2.cell? ⟨w.heap.size + 1, 1, none⟩ = some (.string ⟨#[]⟩) := (blk_cell C2.ed 1).trans rfl
 have z_ : W2.frozen? ⟨w.heap.size + 1, 1, none⟩ = false := blk_frozen C2.ed 1
 have D2 := Aside0.mk (show DSt w _ #[.int .i64 n1, .string n2, .string ⟨#[]⟩, .int .i64 0, .int .i64 0, .int .i64 0, .slice none 0 0] R2 f2 from D1r.out.put 1 (.string n2))
 clear C2 D1r
 go_wp2_with (go_at_call 23; fail)
 clear c_ z_
 go_at_call 23
 refine (dtext_at k (w.heap.size + 1 + 1) (w.heap.size + 1 + 1 + 1) R2 f2 n3 R3 e3 f3 _ (by omega) D2.out.st D2.out.fi A3.out hf3.out).mono ?_
 rintro E_ V3 ⟨rfl, W3, hb, rfl⟩
 have C3 := D2.out.call hb
 have D2r := Aside0.mk (C3.read R3 f3)
 clear hb D2
 have c_ : W3.cell? ⟨w.heap.size + 1, 2, none⟩ = some (.string ⟨#[]⟩) := (blk_cell C3.ed 2).trans rfl
 have z_ : W3.frozen? ⟨w.heap.size + 1, 2, none⟩ = false := blk_frozen C3.ed 2
 have D3 := Aside0.mk (show DSt w _ #[.int .i64 n1, .string n2, .string n3, .int .i64 0, .int .i64 0, .int .i64 0, .slice none 0 0] R3 f3 from D2r.out.put 2 (.string n3))
 clear C3 D2r
 go_wp2_with (go_at_call 21; fail)
 clear c_ z_
 go_at_call 21
 refine (dnum_at k (w.heap.size + 1 + 1) (w.heap.size + 1 + 1 + 1) R3 f3 n4 R4 e4 f4 _ (by omega) D3.out.st D3.out.fi A4.out hf4.out).mono ?_
 rintro E_ V4 ⟨rfl, W4, hb, rfl⟩
 have C4 := D3.out.call hb
 have D3r := Aside0.mk (C4.read R4 f4)
 clear hb D3
 have c_ : W4.cell? ⟨w.heap.size + 1, 3, none⟩ = some (.int .i64 0) := (blk_cell C4.ed 3).trans rfl
 have z_ : W4.frozen? ⟨w.heap.size + 1, 3, none⟩ = false := blk_frozen C4.ed 3
 have D4 := Aside0.mk (show DSt w _ #[.int .i64 n1, .string n2, .string n3, .int .i64 n4, .int .i64 0, .int .i64 0, .slice none 0 0] R4 f4 from D3r.out.put 3 (.int .i64 n4))
 clear C4 D3r
 go_wp2_with (go_at_call 21; fail)
 clear c_ z_
 go_at_call 21
 refine (dnum_at k (w.heap.size + 1 + 1) (w.heap.size + 1 + 1 + 1) R4 f4 n5 R5 e5 f5 _ (by omega) D4.out.st D4.out.fi A5.out hf5.out).mono ?_
 rintro E_ V5 ⟨rfl, W5, hb, rfl⟩
 have C5 := D4.out.call hb
 have D4r := Aside0.mk (C5.read R5 f5)
 clear hb D4
 have c_ : W5.cell? ⟨w.heap.size + 1, 4, none⟩ = some (.int .i64 0) := (blk_cell C5.ed 4).trans rfl
 have z_ : W5.frozen? ⟨w.heap.size + 1, 4, none⟩ = false := blk_frozen C5.ed 4
 have D5 := Aside0.mk (show DSt w _ #[.int .i64 n1, .string n2, .string n3, .int .i64 n4, .int .i64 n5, .int .i64 0, .slice none 0 0] R5 f5 from D4r.out.put 4 (.int .i64 n5))
 clear C5 D4r
 go_wp2_with (go_at_call 21; fail)
 clear c_ z_
 go_at_call 21
 refine (dnum_at k (w.heap.size + 1 + 1) (w.heap.size + 1 + 1 + 1) R5 f5 n6 R6 e6 f6 _ (by omega) D5.out.st D5.out.fi A6.out hf6.out).mono ?_
 rintro E_ V6 ⟨rfl, W6, hb, rfl⟩
 have C6 := D5.out.call hb
 have D5r := Aside0.mk (C6.read R6 f6)
 clear hb D5
 have c_ : W6.cell? ⟨w.heap.size + 1, 5, none⟩ = some (.int .i64 0) := (blk_cell C6.ed 5).trans rfl
 have z_ : W6.frozen? ⟨w.heap.size + 1, 5, none⟩ = false := blk_frozen C6.ed 5
 have D6 := Aside0.mk (show DSt w _ #[.int .i64 n1, .string n2, .string n3, .int .i64 n4, .int .i64 n5, .int .i64 n6, .slice none 0 0] R6 f6 from D5r.out.put 5 (.int .i64 n6))
 clear C6 D5r
 go_wp2_with (go_at_call 21; fail)
 clear c_ z_
 go_at_call 21
 refine (dnum_at k (w.heap.size + 1 + 1) (w.heap.size + 1 + 1 + 1) R6 f6 n7 R7 e7 f7 _ (by omega) D6.out.st D6.out.fi A7.out hf7.out).mono ?_
 rintro E_ V7 ⟨rfl, W7, hb, rfl⟩
 have C7 := D6.out.call hb
 have D6r := Aside0.mk (C7.read R7 f7)
 clear hb D6
 have D7 := D6r
 clear D6r
 have c0_ : W7.cell? ⟨w.heap.size, 0, none⟩ = some (.int .i64 0) := (blk_cell C7.res 0).trans rfl
 have z0_ : W7.frozen? ⟨w.heap.size, 0, none⟩ = false := blk_frozen C7.res 0
 have c1_ : W7.cell? ⟨w.heap.size, 1, none⟩ = some (.string ⟨#[]⟩) := (blk_cell C7.res 1).trans rfl
 have z1_ : W7.frozen? ⟨w.heap.size, 1, none⟩ = false := blk_frozen C7.res 1
 have c2_ : W7.cell? ⟨w.heap.size, 2, none⟩ = some (.string ⟨#[]⟩) := (blk_cell C7.res 2).trans rfl
 have z2_ : W7.frozen? ⟨w.heap.size, 2, none⟩ = false := blk_frozen C7.res 2
 have c3_ : W7.cell? ⟨w.heap.size, 3, none⟩ = some (.int .i64 0) := (blk_cell C7.res 3).trans rfl
 have z3_ : W7.frozen? ⟨w.heap.size, 3, none⟩ = false := blk_frozen C7.res 3
 have c4_ : W7.cell? ⟨w.heap.size, 4, none⟩ = some (.int .i64 0) := (blk_cell C7.res 4).trans rfl
 have z4_ : W7.frozen? ⟨w.heap.size, 4, none⟩ = false := blk_frozen C7.res 4
 have c5_ : W7.cell? ⟨w.heap.size, 5, none⟩ = some (.int .i64 0) := (blk_cell C7.res 5).trans rfl
 have z5_ : W7.frozen? ⟨w.heap.size, 5, none⟩ = false := blk_frozen C7.res 5
 have c6_ : W7.cell? ⟨w.heap.size, 6, none⟩ = some (.slice none 0 0) := (blk_cell C7.res 6).trans rfl
 have z6_ : W7.frozen? ⟨w.heap.size, 6, none⟩ = false := blk_frozen C7.res 6
 have H := H.out
 unfold edit_Decode.g at H
 have g1 : W7.cell? ⟨w.heap.size + 1 + 1 + 1, 0, none⟩ = some (.bool f6) := (blk_cell C7.fi 0).trans rfl
 have g2 : W7.cell? ⟨w.heap.size + 1 + 1, 0, none⟩ = some (.string R6) := (blk_cell C7.st 0).trans rfl
 by_cases cE : f7 = false ∨ n7 < 0 ∨ 8 < n7
 ·
  rw [if_pos cE] at H
  simp only [Option.some.injEq, Prod.mk.injEq] at H
  obtain ⟨rfl, rfl, rfl, rfl, rfl, rfl, rfl, rfl⟩ := H
  cases f7 with
  | false =>
   go_wp2
   (try simp only [Exit.inBlock, Exit.then])
   refine bodyPost_ret (results_ct rfl _ _ w.heap.size 24 #[.int .i64 0, .string ⟨#[]⟩, .string ⟨#[]⟩, .int .i64 0, .int .i64 0, .int .i64 0, .slice none 0 0] (0, 0) _ rfl ?hg Try.underlying24 rfl (by kernel_rfl)) rfl ?_
   case hg =>
    refine blk_put (cs := #[.int .i64 0, .string ⟨#[]⟩, .string ⟨#[]⟩, .int .i64 0, .int .i64 0, .int .i64 0, .slice none 0 0]) ?_ 6 _ rfl
    refine blk_put (cs := #[.int .i64 0, .string ⟨#[]⟩, .string ⟨#[]⟩, .int .i64 0, .int .i64 0, .int .i64 0, .slice none 0 0]) ?_ 5 _ rfl
    refine blk_put (cs := #[.int .i64 0, .string ⟨#[]⟩, .string ⟨#[]⟩, .int .i64 0, .int .i64 0, .int .i64 0, .slice none 0 0]) ?_ 4 _ rfl
    refine blk_put (cs := #[.int .i64 0, .string ⟨#[]⟩, .string ⟨#[]⟩, .int .i64 0, .int .i64 0, .int .i64 0, .slice none 0 0]) ?_ 3 _ rfl
    refine blk_put (cs := #[.int .i64 0, .string ⟨#[]⟩, .string ⟨#[]⟩, .int .i64 0, .int .i64 0, .int .i64 0, .slice none 0 0]) ?_ 2 _ rfl
    refine blk_put (cs := #[.int .i64 0, .string ⟨#[]⟩, .string ⟨#[]⟩, .int .i64 0, .int .i64 0, .int .i64 0, .slice none 0 0]) ?_ 1 _ rfl
    refine blk_put (cs := #[.int .i64 0, .string ⟨#[]⟩, .string ⟨#[]⟩, .int .i64 0, .int .i64 0, .int .i64 0, .slice none 0 0]) ?_ 0 _ rfl
    exact D7.out.res
   exact ⟨_, rfl, Kd.R_nil _ _ _ _ _, by repeat (first | (with_reducible exact D7.out.below) | (with_reducible refine below_set ?_ (by omega)))⟩
  | true =>
   have cE' : n7 < 0 ∨ 8 < n7 := cE.elim (fun h => by cases h) id
   by_cases b1 : n7 < 0
   ·
    have b1b : decide (n7 < 0) = true := decide_eq_true b1
    clear cE cE' b1
    go_wp2
    (try simp only [Exit.inBlock, Exit.then])
    refine bodyPost_ret (results_ct rfl _ _ w.heap.size 24 #[.int .i64 0, .string ⟨#[]⟩, .string ⟨#[]⟩, .int .i64 0, .int .i64 0, .int .i64 0, .slice none 0 0] (0, 0) _ rfl ?hg Try.underlying24 rfl (by kernel_rfl)) rfl ?_
    case hg =>
     refine blk_put (cs := #[.int .i64 0, .string ⟨#[]⟩, .string ⟨#[]⟩, .int .i64 0, .int .i64 0, .int .i64 0, .slice none 0 0]) ?_ 6 _ rfl
     refine blk_put (cs := #[.int .i64 0, .string ⟨#[]⟩, .string ⟨#[]⟩, .int .i64 0, .int .i64 0, .int .i64 0, .slice none 0 0]) ?_ 5 _ rfl
     refine blk_put (cs := #[.int .i64 0, .string ⟨#[]⟩, .string ⟨#[]⟩, .int .i64 0, .int .i64 0, .int .i64 0, .slice none 0 0]) ?_ 4 _ rfl
     refine blk_put (cs := #[.int .i64 0, .string ⟨#[]⟩, .string ⟨#[]⟩, .int .i64 0, .int .i64 0, .int .i64 0, .slice none 0 0]) ?_ 3 _ rfl
     refine blk_put (cs := #[.int .i64 0, .string ⟨#[]⟩, .string ⟨#[]⟩, .int .i64 0, .int .i64 0, .int .i64 0, .slice none 0 0]) ?_ 2 _ rfl
     refine blk_put (cs := #[.int .i64 0, .string ⟨#[]⟩, .string ⟨#[]⟩, .int .i64 0, .int .i64 0, .int .i64 0, .slice none 0 0]) ?_ 1 _ rfl
     refine blk_put (cs := #[.int .i64 0, .string ⟨#[]⟩, .string ⟨#[]⟩, .int .i64 0, .int .i64 0, .int .i64 0, .slice none 0 0]) ?_ 0 _ rfl
     exact D7.out.res
    exact ⟨_, rfl, Kd.R_nil _ _ _ _ _, by repeat (first | (with_reducible exact D7.out.below) | (with_reducible refine below_set ?_ (by omega)))⟩
   ·
    have b1b : decide (n7 < 0) = false := decide_eq_false b1
    have b2b : decide (8 < n7) = true := decide_eq_true (by omega)
    clear cE cE' b1
    go_wp2
    (try simp only [Exit.inBlock, Exit.then])
    refine bodyPost_ret (results_ct rfl _ _ w.heap.size 24 #[.int .i64 0, .string ⟨#[]⟩, .string ⟨#[]⟩, .int .i64 0, .int .i64 0, .int .i64 0, .slice none 0 0] (0, 0) _ rfl ?hg Try.underlying24 rfl (by kernel_rfl)) rfl ?_
    case hg =>
     refine blk_put (cs := #[.int .i64 0, .string ⟨#[]⟩, .string ⟨#[]⟩, .int .i64 0, .int .i64 0, .int .i64 0, .slice none 0 0]) ?_ 6 _ rfl
     refine blk_put (cs := #[.int .i64 0, .string ⟨#[]⟩, .string ⟨#[]⟩, .int .i64 0, .int .i64 0, .int .i64 0, .slice none 0 0]) ?_ 5 _ rfl
     refine blk_put (cs := #[.int .i64 0, .string ⟨#[]⟩, .string ⟨#[]⟩, .int .i64 0, .int .i64 0, .int .i64 0, .slice none 0 0]) ?_ 4 _ rfl
     refine blk_put (cs := #[.int .i64 0, .string ⟨#[]⟩, .string ⟨#[]⟩, .int .i64 0, .int .i64 0, .int .i64 0, .slice none 0 0]) ?_ 3 _ rfl
     refine blk_put (cs := #[.int .i64 0, .string ⟨#[]⟩, .string ⟨#[]⟩, .int .i64 0, .int .i64 0, .int .i64 0, .slice none 0 0]) ?_ 2 _ rfl
     refine blk_put (cs := #[.int .i64 0, .string ⟨#[]⟩, .string ⟨#[]⟩, .int .i64 0, .int .i64 0, .int .i64 0, .slice none 0 0]) ?_ 1 _ rfl
     refine blk_put (cs := #[.int .i64 0, .string ⟨#[]⟩, .string ⟨#[]⟩, .int .i64 0, .int .i64 0, .int .i64 0, .slice none 0 0]) ?_ 0 _ rfl
     exact D7.out.res
    exact ⟨_, rfl, Kd.R_nil _ _ _ _ _, by repeat (first | (with_reducible exact D7.out.below) | (with_reducible refine below_set ?_ (by omega)))⟩
 ·
  rw [if_neg cE] at H
  obtain ⟨⟨z1, z2, z3⟩, AL, K2⟩ := Option.bind_eq_some_iff.mp H
  have K3 := Aside0.mk (show (if z2 = true ∧ z1.toList = [] ∧ rightB n1 n2 n3 n4 n5 n6 z3 = true then some (n1, n2, n3, n4, n5, n6, z3, (0 : Int)) else some (0, ⟨#[]⟩, ⟨#[]⟩, 0, 0, 0, [], 2)) = some (r1, r2, r3, r4, r5, r6, r7, r8) from K2)
  clear K2
  obtain rfl : f7 = true := by
   cases f7
   ·
    exact absurd (Or.inl rfl) cE
   ·
    rfl
  have b1b : decide (n7 < 0) = false := decide_eq_false (by omega)
  have b2b : decide (8 < n7) = false := decide_eq_false (by omega)
  have HL := Aside0.mk AL
  clear H cE
  go_wp2
  go_loopg [46] k (fun kq v46 w' => ∃ (rest : ByteArray) (fine : Bool) (l : List Int) (i : Int) (lv : Value), v46 = .int .i64 i ∧ Aside0 (edit_Decode.l0 kq rest fine l n7 i = some (z1, z2, z3)) ∧ Aside0 (kq ≤ k) ∧ Aside0 (DSt w w' #[.int .i64 n1, .string n2, .string n3, .int .i64 n4, .int .i64 n5, .int .i64 n6, lv] rest fine) ∧ Aside0 (Kd.R (Kd.int .i64) 3 w' w.heap.size (fun _ => True) lv l))
  case atStart => exact ⟨R7, true, [], 0, .slice none 0 0, rfl, HL, ⟨Nat.le_refl _⟩, D7, ⟨Kd.R_nil _ _ _ _ _⟩⟩
  case round =>
   obtain ⟨rest, fine, l, i, lv, rfl, HA, HK1, HD, HR⟩ := hrel
   clear c0_ c1_ c2_ c3_ c4_ c5_ c6_ z0_ z1_ z2_ z3_ z4_ z5_ z6_ g1 g2 C7 D7 HL
   cases gk with
   | zero => exact absurd HA.out (by simp [edit_Decode.l0])
   | succ k1 =>
    have H := HA.out
    clear HA
    simp only [edit_Decode.l0] at H
    by_cases c5 : i < n7
    ·
     rw [if_pos c5] at H
     have c5b0 : decide (i < n7) = true := decide_eq_true c5
     clear c5
     obtain ⟨⟨nn, rr, ee⟩, AN, H⟩ := Option.bind_eq_some_iff.mp H
     replace H : (if l.length < 17592186044416 then edit_Decode.l0 k1 rr (fine && (ee == 0)) (l ++ [nn]) n7 (wrap64 (i + 1)) else none) = some (z1, z2, z3) := H
     by_cases c6 : l.length < 17592186044416
     ·
      rw [if_pos c6] at H
      have LM := Aside0.mk c6
      clear c6
      obtain ⟨ff, hff⟩ : ∃ f, (fine && (ee == 0)) = f := ⟨_, rfl⟩
      rw [hff] at H
      have H' := Aside0.mk H
      have HF := Aside0.mk hff
      have AN := Aside0.mk AN
      clear H hff
      go_wp2_with (go_at_call 21; fail)
      go_at_call 21
      refine (dnum_at k1 (w.heap.size + 1 + 1) (w.heap.size + 1 + 1 + 1) rest fine nn rr ee ff _ (by omega) HD.out.st HD.out.fi AN.out HF.out).mono ?_
      rintro E_ V_ ⟨rfl, W1_, hb, rfl⟩
      have CC := HD.out.call hb
      have DD := Aside0.mk (CC.read rr ff)
      have RR := Aside0.mk (CC.rowRead (Kd.R_below HR.out hb) rr ff)
      have c6 : W1_.cell? ⟨w.heap.size + 1, 6, none⟩ = some lv := (blk_cell CC.ed 6).trans rfl
      clear hb CC HD HR
      go_wp2_with ((with_reducible refine gate_builtin (b := .append) (xs := #[.tmp 51, .tmp 53]) rfl ?_); at_builtin; refine Kd.R_append (Kd.int .i64) (w0 := w) w.heap.size rfl (.tmp 51) (.tmp 53) 22 3 (.int .i64 0) 8 rfl Try.underlying22 info3 rfl (by decide) (by omega) lv l nn [.int .i64 nn] (fun _ => True) (fun _ => False) rfl (by first | (go_simp; done) | (go_simp; rfl)) ?aP (fun _ hk => hk.elim) ?aF ?aO ?aB ?aS ?aL ?_; (case aP => exact rfl); (case aF => exact fun _ _ => trivial); (case aO => exact RR.out); (case aB => exact DD.out.below); (case aS => exact DD.out.below.size); (case aL => have := LM.out; omega); intro v1 w1 ho hb1 hg hat; have D1 := Aside0.mk (DD.out.grown RR.out hb1 hg); obtain ⟨Ao_, co_, eo_⟩ := Kd.R_slice ho; subst eo_; have R1 := Aside0.mk ho; have e6 : w1.cell? ⟨w.heap.size + 1, 6, none⟩ = some lv := (blk_cell D1.out.ed 6).trans rfl; have y6 : w1.frozen? ⟨w.heap.size + 1, 6, none⟩ = false := blk_frozen D1.out.ed 6; clear ho hb1 hg hat)
      go_roundg k1
      case measure => have := HK1.out; omega
      case rel => exact ⟨rr, ff, l ++ [nn], wrap64 (i + 1), .slice Ao_ (l.length + 1) co_, by first | rfl | (simp; done) | (simp [*]; done), H', ⟨by have := HK1.out; omega⟩, ⟨show DSt w _ #[.int .i64 n1, .string n2, .string n3, .int .i64 n4, .int .i64 n5, .int .i64 n6, .slice Ao_ (l.length + 1) co_] rr ff from D1.out.put 6 (.slice Ao_ (l.length + 1) co_)⟩, ⟨by have q_ := D1.out.rowPut R1.out 6 (.slice Ao_ (l.length + 1) co_); simpa using q_⟩⟩
     ·
      rw [if_neg c6] at H
      cases H
    ·
     rw [if_neg c5] at H
     have c5b0 : decide (i < n7) = false := decide_eq_false c5
     clear c5
     simp only [Option.some.injEq, Prod.mk.injEq] at H
     obtain ⟨x1_, x2_, x3_⟩ := H
     subst x1_
     subst x2_
     subst x3_
     have g1 : wr.cell? ⟨w.heap.size + 1 + 1 + 1, 0, none⟩ = some (.bool fine) := (blk_cell HD.out.fi 0).trans rfl
     have g2 : wr.cell? ⟨w.heap.size + 1 + 1, 0, none⟩ = some (.string rest) := (blk_cell HD.out.st 0).trans rfl
     cases fine with
     | false =>
      have HH := K3.out
      rw [if_neg (by rintro ⟨h, _⟩; cases h)] at HH
      simp only [Option.some.injEq, Prod.mk.injEq] at HH
      obtain ⟨rfl, rfl, rfl, rfl, rfl, rfl, rfl, rfl⟩ := HH
      have c0_ : wr.cell? ⟨w.heap.size, 0, none⟩ = some (.int .i64 0) := (blk_cell HD.out.res 0).trans rfl
      have z0_ : wr.frozen? ⟨w.heap.size, 0, none⟩ = false := blk_frozen HD.out.res 0
      have c1_ : wr.cell? ⟨w.heap.size, 1, none⟩ = some (.string ⟨#[]⟩) := (blk_cell HD.out.res 1).trans rfl
      have z1_ : wr.frozen? ⟨w.heap.size, 1, none⟩ = false := blk_frozen HD.out.res 1
      have c2_ : wr.cell? ⟨w.heap.size, 2, none⟩ = some (.string ⟨#[]⟩) := (blk_cell HD.out.res 2).trans rfl
      have z2_ : wr.frozen? ⟨w.heap.size, 2, none⟩ = false := blk_frozen HD.out.res 2
      have c3_ : wr.cell? ⟨w.heap.size, 3, none⟩ = some (.int .i64 0) := (blk_cell HD.out.res 3).trans rfl
      have z3_ : wr.frozen? ⟨w.heap.size, 3, none⟩ = false := blk_frozen HD.out.res 3
      have c4_ : wr.cell? ⟨w.heap.size, 4, none⟩ = some (.int .i64 0) := (blk_cell HD.out.res 4).trans rfl
      have z4_ : wr.frozen? ⟨w.heap.size, 4, none⟩ = false := blk_frozen HD.out.res 4
      have c5_ : wr.cell? ⟨w.heap.size, 5, none⟩ = some (.int .i64 0) := (blk_cell HD.out.res 5).trans rfl
      have z5_ : wr.frozen? ⟨w.heap.size, 5, none⟩ = false := blk_frozen HD.out.res 5
      have c6_ : wr.cell? ⟨w.heap.size, 6, none⟩ = some (.slice none 0 0) := (blk_cell HD.out.res 6).trans rfl
      have z6_ : wr.frozen? ⟨w.heap.size, 6, none⟩ = false := blk_frozen HD.out.res 6
      go_wp2
      (try simp only [Exit.inBlock, Exit.then])
      refine bodyPost_ret (results_ct rfl _ _ w.heap.size 24 #[.int .i64 0, .string ⟨#[]⟩, .string ⟨#[]⟩, .int .i64 0, .int .i64 0, .int .i64 0, .slice none 0 0] (0, 0) _ rfl ?hg Try.underlying24 rfl (by kernel_rfl)) rfl ?_
      case hg =>
       refine blk_put (cs := #[.int .i64 0, .string ⟨#[]⟩, .string ⟨#[]⟩, .int .i64 0, .int .i64 0, .int .i64 0, .slice none 0 0]) ?_ 6 _ rfl
       refine blk_put (cs := #[.int .i64 0, .string ⟨#[]⟩, .string ⟨#[]⟩, .int .i64 0, .int .i64 0, .int .i64 0, .slice none 0 0]) ?_ 5 _ rfl
       refine blk_put (cs := #[.int .i64 0, .string ⟨#[]⟩, .string ⟨#[]⟩, .int .i64 0, .int .i64 0, .int .i64 0, .slice none 0 0]) ?_ 4 _ rfl
       refine blk_put (cs := #[.int .i64 0, .string ⟨#[]⟩, .string ⟨#[]⟩, .int .i64 0, .int .i64 0, .int .i64 0, .slice none 0 0]) ?_ 3 _ rfl
       refine blk_put (cs := #[.int .i64 0, .string ⟨#[]⟩, .string ⟨#[]⟩, .int .i64 0, .int .i64 0, .int .i64 0, .slice none 0 0]) ?_ 2 _ rfl
       refine blk_put (cs := #[.int .i64 0, .string ⟨#[]⟩, .string ⟨#[]⟩, .int .i64 0, .int .i64 0, .int .i64 0, .slice none 0 0]) ?_ 1 _ rfl
       refine blk_put (cs := #[.int .i64 0, .string ⟨#[]⟩, .string ⟨#[]⟩, .int .i64 0, .int .i64 0, .int .i64 0, .slice none 0 0]) ?_ 0 _ rfl
       exact HD.out.res
      exact ⟨_, rfl, Kd.R_nil _ _ _ _ _, by repeat (first | (with_reducible exact HD.out.below) | (with_reducible refine below_set ?_ (by omega)))⟩
     | true =>
      by_cases f2 : rest.toList = []
      ·
       have f2b : (rest.toList != ([] : List UInt8)) = false := bne_eq_false_iff_eq.mpr f2
       have f2c : (rest.toList == ([] : List UInt8)) = true := beq_iff_eq.mpr f2
       have F2 := Aside0.mk f2
       clear f2
       obtain ⟨Ao_, co_, eo_⟩ := Kd.R_slice HR.out
       subst eo_
       have RD := Aside0.mk (Kd.R_reads' HR.out)
       have d0_ : wr.cell? ⟨w.heap.size + 1, 0, none⟩ = some (.int .i64 n1) := (blk_cell HD.out.ed 0).trans rfl
       have d1_ : wr.cell? ⟨w.heap.size + 1, 1, none⟩ = some (.string n2) := (blk_cell HD.out.ed 1).trans rfl
       have d2_ : wr.cell? ⟨w.heap.size + 1, 2, none⟩ = some (.string n3) := (blk_cell HD.out.ed 2).trans rfl
       have d3_ : wr.cell? ⟨w.heap.size + 1, 3, none⟩ = some (.int .i64 n4) := (blk_cell HD.out.ed 3).trans rfl
       have d4_ : wr.cell? ⟨w.heap.size + 1, 4, none⟩ = some (.int .i64 n5) := (blk_cell HD.out.ed 4).trans rfl
       have d5_ : wr.cell? ⟨w.heap.size + 1, 5, none⟩ = some (.int .i64 n6) := (blk_cell HD.out.ed 5).trans rfl
       have d6_ : wr.cell? ⟨w.heap.size + 1, 6, none⟩ = some (.slice Ao_ l.length co_) := (blk_cell HD.out.ed 6).trans rfl
       have T := fun r hr => edit_Right.calls n1 n2 n3 n4 n5 n6 Ao_ co_ l r wr RD.out.2.2 RD.out.2.1 hr
       cases hb : rightB n1 n2 n3 n4 n5 n6 l with
       | true =>
        have HH := K3.out
        rw [if_pos ⟨rfl, F2.out, hb⟩] at HH
        simp only [Option.some.injEq, Prod.mk.injEq] at HH
        obtain ⟨rfl, rfl, rfl, rfl, rfl, rfl, rfl, rfl⟩ := HH
        have T1 := T true (congrArg some hb)
        clear hb T
        go_wp2_with (go_at_call 13; fail)
        go_at_call 13
        refine T1.mono ?_
        rintro E_ W9 ⟨rfl, hb9⟩
        have D9 := Aside0.mk (HD.out.call hb9)
        have R9 := Aside0.mk (Kd.R_below HR.out hb9)
        clear hb9 d0_ d1_ d2_ d3_ d4_ d5_ d6_ g1 g2 T1
        have c0_ : W9.cell? ⟨w.heap.size, 0, none⟩ = some (.int .i64 0) := (blk_cell D9.out.res 0).trans rfl
        have z0_ : W9.frozen? ⟨w.heap.size, 0, none⟩ = false := blk_frozen D9.out.res 0
        have c1_ : W9.cell? ⟨w.heap.size, 1, none⟩ = some (.string ⟨#[]⟩) := (blk_cell D9.out.res 1).trans rfl
        have z1_ : W9.frozen? ⟨w.heap.size, 1, none⟩ = false := blk_frozen D9.out.res 1
        have c2_ : W9.cell? ⟨w.heap.size, 2, none⟩ = some (.string ⟨#[]⟩) := (blk_cell D9.out.res 2).trans rfl
        have z2_ : W9.frozen? ⟨w.heap.size, 2, none⟩ = false := blk_frozen D9.out.res 2
        have c3_ : W9.cell? ⟨w.heap.size, 3, none⟩ = some (.int .i64 0) := (blk_cell D9.out.res 3).trans rfl
        have z3_ : W9.frozen? ⟨w.heap.size, 3, none⟩ = false := blk_frozen D9.out.res 3
        have c4_ : W9.cell? ⟨w.heap.size, 4, none⟩ = some (.int .i64 0) := (blk_cell D9.out.res 4).trans rfl
        have z4_ : W9.frozen? ⟨w.heap.size, 4, none⟩ = false := blk_frozen D9.out.res 4
        have c5_ : W9.cell? ⟨w.heap.size, 5, none⟩ = some (.int .i64 0) := (blk_cell D9.out.res 5).trans rfl
        have z5_ : W9.frozen? ⟨w.heap.size, 5, none⟩ = false := blk_frozen D9.out.res 5
        have c6_ : W9.cell? ⟨w.heap.size, 6, none⟩ = some (.slice none 0 0) := (blk_cell D9.out.res 6).trans rfl
        have z6_ : W9.frozen? ⟨w.heap.size, 6, none⟩ = false := blk_frozen D9.out.res 6
        have d0_ : W9.cell? ⟨w.heap.size + 1, 0, none⟩ = some (.int .i64 n1) := (blk_cell D9.out.ed 0).trans rfl
        have d1_ : W9.cell? ⟨w.heap.size + 1, 1, none⟩ = some (.string n2) := (blk_cell D9.out.ed 1).trans rfl
        have d2_ : W9.cell? ⟨w.heap.size + 1, 2, none⟩ = some (.string n3) := (blk_cell D9.out.ed 2).trans rfl
        have d3_ : W9.cell? ⟨w.heap.size + 1, 3, none⟩ = some (.int .i64 n4) := (blk_cell D9.out.ed 3).trans rfl
        have d4_ : W9.cell? ⟨w.heap.size + 1, 4, none⟩ = some (.int .i64 n5) := (blk_cell D9.out.ed 4).trans rfl
        have d5_ : W9.cell? ⟨w.heap.size + 1, 5, none⟩ = some (.int .i64 n6) := (blk_cell D9.out.ed 5).trans rfl
        have d6_ : W9.cell? ⟨w.heap.size + 1, 6, none⟩ = some (.slice Ao_ l.length co_) := (blk_cell D9.out.ed 6).trans rfl
        go_wp2
        (try simp only [Exit.inBlock, Exit.then])
        refine bodyPost_ret (results_ct rfl _ _ w.heap.size 24 #[.int .i64 n1, .string n2, .string n3, .int .i64 n4, .int .i64 n5, .int .i64 n6, .slice Ao_ l.length co_] (0, 0) _ rfl ?hg Try.underlying24 rfl (by kernel_rfl)) rfl ?_
        case hg =>
         refine blk_put (cs := #[.int .i64 n1, .string n2, .string n3, .int .i64 n4, .int .i64 n5, .int .i64 n6, .slice none 0 0]) ?_ 6 _ rfl
         refine blk_put (cs := #[.int .i64 n1, .string n2, .string n3, .int .i64 n4, .int .i64 n5, .int .i64 0, .slice none 0 0]) ?_ 5 _ rfl
         refine blk_put (cs := #[.int .i64 n1, .string n2, .string n3, .int .i64 n4, .int .i64 0, .int .i64 0, .slice none 0 0]) ?_ 4 _ rfl
         refine blk_put (cs := #[.int .i64 n1, .string n2, .string n3, .int .i64 0, .int .i64 0, .int .i64 0, .slice none 0 0]) ?_ 3 _ rfl
         refine blk_put (cs := #[.int .i64 n1, .string n2, .string ⟨#[]⟩, .int .i64 0, .int .i64 0, .int .i64 0, .slice none 0 0]) ?_ 2 _ rfl
         refine blk_put (cs := #[.int .i64 n1, .string ⟨#[]⟩, .string ⟨#[]⟩, .int .i64 0, .int .i64 0, .int .i64 0, .slice none 0 0]) ?_ 1 _ rfl
         refine blk_put (cs := #[.int .i64 0, .string ⟨#[]⟩, .string ⟨#[]⟩, .int .i64 0, .int .i64 0, .int .i64 0, .slice none 0 0]) ?_ 0 _ rfl
         exact D9.out.res
        refine ⟨_, rfl, ?_, by repeat (first | (with_reducible exact D9.out.below) | (with_reducible refine below_set ?_ (by omega)))⟩
        exact Kd.R_set (Kd.R_set (Kd.R_set (Kd.R_set (Kd.R_set (Kd.R_set (Kd.R_set R9.out D9.out.res (by decide) 0 _) (blk_set D9.out.res 0 (.int .i64 n1)) (by decide) 1 _) (blk_set (blk_set D9.out.res 0 (.int .i64 n1)) 1 (.string n2)) (by decide) 2 _) (blk_set (blk_set (blk_set D9.out.res 0 (.int .i64 n1)) 1 (.string n2)) 2 (.string n3)) (by decide) 3 _) (blk_set (blk_set (blk_set (blk_set D9.out.res 0 (.int .i64 n1)) 1 (.string n2)) 2 (.string n3)) 3 (.int .i64 n4)) (by decide) 4 _) (blk_set (blk_set (blk_set (blk_set (blk_set D9.out.res 0 (.int .i64 n1)) 1 (.string n2)) 2 (.string n3)) 3 (.int .i64 n4)) 4 (.int .i64 n5)) (by decide) 5 _) (blk_set (blk_set (blk_set (blk_set (blk_set (blk_set D9.out.res 0 (.int .i64 n1)) 1 (.string n2)) 2 (.string n3)) 3 (.int .i64 n4)) 4 (.int .i64 n5)) 5 (.int .i64 n6)) (by decide) 6 _
       | false =>
        have HH := K3.out
        rw [if_neg (by rintro ⟨_, _, h⟩; rw [hb] at h; cases h)] at HH
        simp only [Option.some.injEq, Prod.mk.injEq] at HH
        obtain ⟨rfl, rfl, rfl, rfl, rfl, rfl, rfl, rfl⟩ := HH
        have T1 := T false (congrArg some hb)
        clear hb T
        go_wp2_with (go_at_call 13; fail)
        go_at_call 13
        refine T1.mono ?_
        rintro E_ W9 ⟨rfl, hb9⟩
        have D9 := Aside0.mk (HD.out.call hb9)
        clear hb9 d0_ d1_ d2_ d3_ d4_ d5_ d6_ g1 g2 T1
        have c0_ : W9.cell? ⟨w.heap.size, 0, none⟩ = some (.int .i64 0) := (blk_cell D9.out.res 0).trans rfl
        have z0_ : W9.frozen? ⟨w.heap.size, 0, none⟩ = false := blk_frozen D9.out.res 0
        have c1_ : W9.cell? ⟨w.heap.size, 1, none⟩ = some (.string ⟨#[]⟩) := (blk_cell D9.out.res 1).trans rfl
        have z1_ : W9.frozen? ⟨w.heap.size, 1, none⟩ = false := blk_frozen D9.out.res 1
        have c2_ : W9.cell? ⟨w.heap.size, 2, none⟩ = some (.string ⟨#[]⟩) := (blk_cell D9.out.res 2).trans rfl
        have z2_ : W9.frozen? ⟨w.heap.size, 2, none⟩ = false := blk_frozen D9.out.res 2
        have c3_ : W9.cell? ⟨w.heap.size, 3, none⟩ = some (.int .i64 0) := (blk_cell D9.out.res 3).trans rfl
        have z3_ : W9.frozen? ⟨w.heap.size, 3, none⟩ = false := blk_frozen D9.out.res 3
        have c4_ : W9.cell? ⟨w.heap.size, 4, none⟩ = some (.int .i64 0) := (blk_cell D9.out.res 4).trans rfl
        have z4_ : W9.frozen? ⟨w.heap.size, 4, none⟩ = false := blk_frozen D9.out.res 4
        have c5_ : W9.cell? ⟨w.heap.size, 5, none⟩ = some (.int .i64 0) := (blk_cell D9.out.res 5).trans rfl
        have z5_ : W9.frozen? ⟨w.heap.size, 5, none⟩ = false := blk_frozen D9.out.res 5
        have c6_ : W9.cell? ⟨w.heap.size, 6, none⟩ = some (.slice none 0 0) := (blk_cell D9.out.res 6).trans rfl
        have z6_ : W9.frozen? ⟨w.heap.size, 6, none⟩ = false := blk_frozen D9.out.res 6
        go_wp2
        (try simp only [Exit.inBlock, Exit.then])
        refine bodyPost_ret (results_ct rfl _ _ w.heap.size 24 #[.int .i64 0, .string ⟨#[]⟩, .string ⟨#[]⟩, .int .i64 0, .int .i64 0, .int .i64 0, .slice none 0 0] (0, 0) _ rfl ?hg Try.underlying24 rfl (by kernel_rfl)) rfl ?_
        case hg =>
         refine blk_put (cs := #[.int .i64 0, .string ⟨#[]⟩, .string ⟨#[]⟩, .int .i64 0, .int .i64 0, .int .i64 0, .slice none 0 0]) ?_ 6 _ rfl
         refine blk_put (cs := #[.int .i64 0, .string ⟨#[]⟩, .string ⟨#[]⟩, .int .i64 0, .int .i64 0, .int .i64 0, .slice none 0 0]) ?_ 5 _ rfl
         refine blk_put (cs := #[.int .i64 0, .string ⟨#[]⟩, .string ⟨#[]⟩, .int .i64 0, .int .i64 0, .int .i64 0, .slice none 0 0]) ?_ 4 _ rfl
         refine blk_put (cs := #[.int .i64 0, .string ⟨#[]⟩, .string ⟨#[]⟩, .int .i64 0, .int .i64 0, .int .i64 0, .slice none 0 0]) ?_ 3 _ rfl
         refine blk_put (cs := #[.int .i64 0, .string ⟨#[]⟩, .string ⟨#[]⟩, .int .i64 0, .int .i64 0, .int .i64 0, .slice none 0 0]) ?_ 2 _ rfl
         refine blk_put (cs := #[.int .i64 0, .string ⟨#[]⟩, .string ⟨#[]⟩, .int .i64 0, .int .i64 0, .int .i64 0, .slice none 0 0]) ?_ 1 _ rfl
         refine blk_put (cs := #[.int .i64 0, .string ⟨#[]⟩, .string ⟨#[]⟩, .int .i64 0, .int .i64 0, .int .i64 0, .slice none 0 0]) ?_ 0 _ rfl
         exact D9.out.res
        exact ⟨_, rfl, Kd.R_nil _ _ _ _ _, by repeat (first | (with_reducible exact D9.out.below) | (with_reducible refine below_set ?_ (by omega)))⟩
      ·
       have f2b : (rest.toList != ([] : List UInt8)) = true := bne_iff_ne.mpr f2
       have f2c : (rest.toList == ([] : List UInt8)) = false := beq_eq_false_iff_ne.mpr f2
       have HH := K3.out
       rw [if_neg (by rintro ⟨_, h, _⟩; exact f2 h)] at HH
       simp only [Option.some.injEq, Prod.mk.injEq] at HH
       obtain ⟨rfl, rfl, rfl, rfl, rfl, rfl, rfl, rfl⟩ := HH
       clear f2
       have c0_ : wr.cell? ⟨w.heap.size, 0, none⟩ = some (.int .i64 0) := (blk_cell HD.out.res 0).trans rfl
       have z0_ : wr.frozen? ⟨w.heap.size, 0, none⟩ = false := blk_frozen HD.out.res 0
       have c1_ : wr.cell? ⟨w.heap.size, 1, none⟩ = some (.string ⟨#[]⟩) := (blk_cell HD.out.res 1).trans rfl
       have z1_ : wr.frozen? ⟨w.heap.size, 1, none⟩ = false := blk_frozen HD.out.res 1
       have c2_ : wr.cell? ⟨w.heap.size, 2, none⟩ = some (.string ⟨#[]⟩) := (blk_cell HD.out.res 2).trans rfl
       have z2_ : wr.frozen? ⟨w.heap.size, 2, none⟩ = false := blk_frozen HD.out.res 2
       have c3_ : wr.cell? ⟨w.heap.size, 3, none⟩ = some (.int .i64 0) := (blk_cell HD.out.res 3).trans rfl
       have z3_ : wr.frozen? ⟨w.heap.size, 3, none⟩ = false := blk_frozen HD.out.res 3
       have c4_ : wr.cell? ⟨w.heap.size, 4, none⟩ = some (.int .i64 0) := (blk_cell HD.out.res 4).trans rfl
       have z4_ : wr.frozen? ⟨w.heap.size, 4, none⟩ = false := blk_frozen HD.out.res 4
       have c5_ : wr.cell? ⟨w.heap.size, 5, none⟩ = some (.int .i64 0) := (blk_cell HD.out.res 5).trans rfl
       have z5_ : wr.frozen? ⟨w.heap.size, 5, none⟩ = false := blk_frozen HD.out.res 5
       have c6_ : wr.cell? ⟨w.heap.size, 6, none⟩ = some (.slice none 0 0) := (blk_cell HD.out.res 6).trans rfl
       have z6_ : wr.frozen? ⟨w.heap.size, 6, none⟩ = false := blk_frozen HD.out.res 6
       go_wp2
       (try simp only [Exit.inBlock, Exit.then])
       refine bodyPost_ret (results_ct rfl _ _ w.heap.size 24 #[.int .i64 0, .string ⟨#[]⟩, .string ⟨#[]⟩, .int .i64 0, .int .i64 0, .int .i64 0, .slice none 0 0] (0, 0) _ rfl ?hg Try.underlying24 rfl (by kernel_rfl)) rfl ?_
       case hg =>
        refine blk_put (cs := #[.int .i64 0, .string ⟨#[]⟩, .string ⟨#[]⟩, .int .i64 0, .int .i64 0, .int .i64 0, .slice none 0 0]) ?_ 6 _ rfl
        refine blk_put (cs := #[.int .i64 0, .string ⟨#[]⟩, .string ⟨#[]⟩, .int .i64 0, .int .i64 0, .int .i64 0, .slice none 0 0]) ?_ 5 _ rfl
        refine blk_put (cs := #[.int .i64 0, .string ⟨#[]⟩, .string ⟨#[]⟩, .int .i64 0, .int .i64 0, .int .i64 0, .slice none 0 0]) ?_ 4 _ rfl
        refine blk_put (cs := #[.int .i64 0, .string ⟨#[]⟩, .string ⟨#[]⟩, .int .i64 0, .int .i64 0, .int .i64 0, .slice none 0 0]) ?_ 3 _ rfl
        refine blk_put (cs := #[.int .i64 0, .string ⟨#[]⟩, .string ⟨#[]⟩, .int .i64 0, .int .i64 0, .int .i64 0, .slice none 0 0]) ?_ 2 _ rfl
        refine blk_put (cs := #[.int .i64 0, .string ⟨#[]⟩, .string ⟨#[]⟩, .int .i64 0, .int .i64 0, .int .i64 0, .slice none 0 0]) ?_ 1 _ rfl
        refine blk_put (cs := #[.int .i64 0, .string ⟨#[]⟩, .string ⟨#[]⟩, .int .i64 0, .int .i64 0, .int .i64 0, .slice none 0 0]) ?_ 0 _ rfl
        exact HD.out.res
       exact ⟨_, rfl, Kd.R_nil _ _ _ _ _, by repeat (first | (with_reducible exact HD.out.below) | (with_reducible refine below_set ?_ (by omega)))⟩

end Go.Proofs.Ytecjdchjaoimfaa.P
