/- The Go functions of this seat as plain Lean functions, and for each the proof that its call gives what the plain function gives. Printed by a program of this session. -/
import Derived.Test.YtjailboidlmadaaPx0
import Derived.Test.YtjailboidlmadaaPx4
namespace Go.Proofs.Ytjailboidlmadaa.P
open Go.RowKit Go.Proofs.YtjailboidlmadaaW.PrintWords Go.Proofs.YtjailboidlmadaaW.PrintLast Go.Proofs.YtjailboidlmadaaW.PrintMore
attribute [local go_sem] max2_int min2_int max_two min_two max_three min_three max_four min_four   -- for this text's walks alone
set_option linter.unusedVariables false
set_option linter.unusedSimpArgs false

/-! ### strings_Builder_WriteString: function 38 -/
theorem bld_more : Builder.Extra Try.prog ⟨fun n => n, fun | 70 => 86 | 72 => 89 | 9 => 9 | 5 => 5 | 37 => 87 | 3 => 3 | 4 => 4 | n => n, fun n => n⟩ := {
 sizeBuilder := by kernel_rfl
 liesBuilder := by kernel_rfl
 t5 := Try.underlying5
 a5 := Try.isAgg5
 z5 := Try.sizeOf5
 v5 := Try.zeroValue5
 infoByte := by kernel_rfl
 cellsByte := by kernel_rfl
 sizeByte := by kernel_rfl
 neB5 := by decide }
/-- what a call leaves alone is a builder still -/
theorem bld_below {T e : TypeId} {B b : Nat} {bs : List Value} {w w' : World} (h : Lib.IsBuilder T e B b bs w) (k : Below w.heap.size w w') : Lib.IsBuilder T e B b bs w' := by
 have go : ∀ p, Lib.BuilderAt T e B b p bs w → Lib.BuilderAt T e B b p bs w' := by
  rintro p ⟨hB, v, hb, hown, hne⟩
  have hlt : b < w.heap.size := Lib.BuilderAt.lt ⟨hB, v, hb, hown, hne⟩
  refine ⟨hB, v, (k.block b hlt).trans hb, ?_, hne⟩
  exact hown.kept (row := none) (grown_of_below k none) (by
   cases v.ownBlock with
   | none => exact Or.inl rfl
   | some x => exact Or.inr (by simp))
 rcases h with h | h
 ·
  exact Or.inl (go _ h)
 ·
  exact Or.inr (go _ h)
theorem bld_old {w0 w w' : World} {B : Nat} (hB : Below B w0 w) (h : w0.heap.size ≤ B ∨ B ≤ w0.heap.size) (k : Below B w w') : Below B w0 w' := hB.trans k
set_option maxHeartbeats 2000000 in
set_option maxRecDepth 100000 in
/-- a text behind a builder's bytes -/
theorem bld_write (B b : Nat) (bs : List Value) (s : ByteArray) (w : World) (h : Lib.IsBuilder 89 5 B b bs w) (hlen : bs.length + s.size ≤ 140737488355328) (hBw : B ≤ w.heap.size) :
  Calls Try.prog 38 #[.pointer (some ⟨b, 0, none⟩), .string s] w fun e w' => e = .returned (.tuple #[.int .i64 s.size, .nilIface]) ∧ (Lib.BuilderAt 89 5 B b (.pointer (some ⟨b, 0, none⟩)) (bs ++ Lib.strCells s) w' ∧ Below B w w') := by
 obtain ⟨i0, hi, hz0, hz1, hz2⟩ := info_parts bld_more.infoByte
 have hi : Try.prog.info? 5 = some i0 := hi
 go_enter Try.func38, Try.ntmps38
 go_wp2_with (go_at_call 42; fail)
 go_at_call 42
 refine (bld_check B b bs _ h).mono ?_
 rintro e w1 ⟨rfl, h1, hb1⟩
 obtain ⟨hB, v, hbk, hown, hne⟩ := h1
 have c0 : w1.cell? ⟨b, 0, none⟩ = some (.pointer (some ⟨b, 0, none⟩)) := by rw [Lib.cell_of_heap hbk]; rfl
 have c1 : w1.cell? ⟨b, 1, none⟩ = some v := by rw [Lib.cell_of_heap hbk]; rfl
 go_wp2_with (at_builtin; refine Lib.wpList_append_own_string _ rfl _ _ 87 9 rfl B 5 i0 Try.underlying87 Try.underlying9 hi hz0 hz1 hz2 _ _ _ rfl hown s rfl ?c3 ?c4 ?c5 ?_)
 case c3 => unfold maxLen; omega
 case c4 => omega
 case c5 => have := hb1.size; omega
 intro v' w2 hown' hgrow _
 have hlt : b < w1.heap.size := by
  rcases Nat.lt_or_ge b w1.heap.size with h' | h'
  ·
   exact h'
  ·
   simp [Array.getElem?_eq_none h'] at hbk
 have hb2 : w2.heap[b]? = some (.cells #[.pointer (some ⟨b, 0, none⟩), v] 89 (0, 0)) := by
  rw [hgrow.block b hlt (fun e => hne e.symm)]
  exact hbk
 have d0 : w2.cell? ⟨b, 0, none⟩ = some (.pointer (some ⟨b, 0, none⟩)) := by rw [Lib.cell_of_heap hb2]; rfl
 have d1 : w2.cell? ⟨b, 1, none⟩ = some v := by rw [Lib.cell_of_heap hb2]; rfl
 have f1 : w2.frozen? ⟨b, 1, none⟩ = false := Lib.frozen_of_heap hb2 1
 obtain ⟨ao, n', cap, rfl⟩ : ∃ ao n' cap, v' = .slice ao n' cap := by
  rcases hown'.2 with ⟨hv, _⟩ | ⟨g, cap, cur, hv, _⟩
  ·
   exact ⟨_, _, _, hv⟩
  ·
   exact ⟨_, _, _, hv⟩
 go_wp2
 go_ret2
 refine ⟨rfl, ?_, ?_⟩
 ·
  exact Lib.BuilderAt.put (T := 89) (e := 5) hB hb2 (bs' := bs ++ Lib.strCells s) (by simpa [Lib.strCells_length] using hown') bld_more.neB5
 ·
  exact (hb1.grown hgrow (by have := hb1.size; omega) (fun k hk => (hown.lt k hk).1)).setCell (p := ⟨b, 1, none⟩) hB _

/-! ### strings_Builder_String: function 39 -/
theorem bld_lays : Go.Proofs.Lays.n169 Try.prog ⟨fun | 169 => 39 | n => n, fun | 70 => 86 | 9 => 9 | 0 => 0 | 72 => 89 | 37 => 87 | 127 => 99 | 3 => 3 | 5 => 5 | n => n, fun | n => n⟩ := {
 mixed := by kernel_rfl
 f169 := Try.func39.trans (congrArg some (by kernel_rfl))
 t0 := Try.underlying0
 a0 := Try.isAgg0
 z0 := Try.sizeOf0
 v0 := Try.zeroValue0
 t3 := Try.underlying3
 a3 := Try.isAgg3
 z3 := Try.sizeOf3
 v3 := Try.zeroValue3
 t9 := Try.underlying9
 a9 := Try.isAgg9
 z9 := Try.sizeOf9
 v9 := Try.zeroValue9
 t37 := Try.underlying87
 a37 := Try.isAgg87
 z37 := Try.sizeOf87
 v37 := Try.zeroValue87
 t70 := Try.underlying86
 a70 := Try.isAgg86
 z70 := Try.sizeOf86
 v70 := Try.zeroValue86
 t72 := Try.underlying89
 a72 := Try.isAgg89
 z72 := Try.sizeOf89
 v72 := Try.zeroValue89
 t127 := Try.underlying99
 a127 := Try.isAgg99
 z127 := Try.sizeOf99
 v127 := Try.zeroValue99 }
theorem bld_rest : Builder.Extra Try.prog ⟨fun | 169 => 39 | n => n, fun | 70 => 86 | 9 => 9 | 0 => 0 | 72 => 89 | 37 => 87 | 127 => 99 | 3 => 3 | 5 => 5 | n => n, fun | n => n⟩ := {
 sizeBuilder := by kernel_rfl
 liesBuilder := by kernel_rfl
 t5 := Try.underlying5
 a5 := Try.isAgg5
 z5 := Try.sizeOf5
 v5 := Try.zeroValue5
 infoByte := by kernel_rfl
 cellsByte := by kernel_rfl
 sizeByte := by kernel_rfl
 neB5 := by decide }
/-- a builder's text -/
theorem bld_string (B b : Nat) (s : ByteArray) (w : World) (h : Lib.IsBuilder 89 5 B b (Lib.strCells s) w) (hBw : B ≤ w.heap.size) :
  Calls Try.prog 39 #[.pointer (some ⟨b, 0, none⟩)] w fun e w' => e = .returned (.string s) ∧ Below B w w' :=
 Any.Builder_String_any bld_lays bld_rest B b s.data.toList w h hBw

/-! ### edit_nums: function 24 -/
def edit_nums.l0 : Nat → List Int → ByteArray → Int → Option ByteArray
 | 0, _, _, _ => none
 | k + 1, l, acc, i => if i < (l.length : Int) then (if 0 ≤ i then ((wire_Num.f k (rd l i)).bind fun t => if acc.size + t.size ≤ 140737488355328 then edit_nums.l0 k l (acc ++ t) (wrap64 (i + 1)) else none) else none) else some acc
def edit_nums.f (k : Nat) (l : List Int) : Option ByteArray := edit_nums.l0 k l (⟨#[]⟩ : ByteArray) 0
theorem edit_nums.mono_l : ∀ k l acc i, LeO (edit_nums.l0 k l acc i) (edit_nums.l0 (k + 1) l acc i)
 | 0, _, _, _ => LeO.none _
 | k + 1, l, acc, i => by
  rw [edit_nums.l0, edit_nums.l0]
  exact LeO.ite (LeO.ite (LeO.bind (wire_Num.mono _ k) fun bt => LeO.ite (edit_nums.mono_l k _ _ _) (LeO.refl _)) (LeO.refl _)) (LeO.refl _)
theorem edit_nums.mono : ∀ l k, LeO (edit_nums.f k l) (edit_nums.f (k + 1) l) := fun l k => edit_nums.mono_l k _ _ _
theorem nums_app (a b : ByteArray) : Lib.strCells a ++ Lib.strCells b = Lib.strCells (a ++ b) := by simp [Lib.strCells]
set_option maxHeartbeats 8000000 in
set_option maxRecDepth 100000 in
theorem edit_nums.calls (k : Nat) (A0 : Option Addr) (c0 : Nat) (l0 : List Int) (r : ByteArray) (w : World) (hr0 : Kd.C (Kd.int .i64) w A0 l0.length l0) (hc0 : l0.length ≤ c0) (h : edit_nums.f k l0 = some r) :
  Calls Try.prog 24 #[.slice A0 l0.length c0] w fun e w' => e = .returned (.string r) ∧ Below w.heap.size w w' := by
 have HR0 := Aside0.mk hr0
 have HC0 := Aside0.mk hc0
 clear hr0 hc0
 have H' := Aside0.mk (show edit_nums.l0 k l0 (⟨#[]⟩ : ByteArray) 0 = some r from h)
 clear h
 have HF : Aside0 (Lib.IsBuilder 89 5 w.heap.size w.heap.size (Lib.strCells (⟨#[]⟩ : ByteArray)) (w.alloc (.cells #[.pointer none, .slice none 0 0] 89))) := ⟨Lib.fresh_isBuilder 89 5 w⟩
 have HBf := Aside0.mk (below_alloc (Below.refl w.heap.size w) (.cells #[.pointer none, .slice none 0 0] 89))
 go_enter Try.func24, Try.ntmps24
 go_wp2
 go_loopg [8] k (fun kq v8 w' => ∃ (acc : ByteArray) (i : Int), v8 = .int .i64 i ∧ Aside0 (edit_nums.l0 kq l0 acc i = some r) ∧ Aside0 (kq ≤ k) ∧ Aside0 (Lib.IsBuilder 89 5 w.heap.size w.heap.size (Lib.strCells acc) w') ∧ Aside0 (Below w.heap.size w w'))
 case atStart => exact ⟨(⟨#[]⟩ : ByteArray), 0, rfl, H', ⟨Nat.le_refl _⟩, HF, HBf⟩
 case round =>
  clear H' HF HBf
  obtain ⟨acc, i, rfl, HA, HK1, HI, HB⟩ := hrel
  cases gk with
  | zero => exact absurd HA.out (by simp [edit_nums.l0])
  | succ k1 =>
   have H := HA.out
   clear HA
   simp only [edit_nums.l0] at H
   by_cases c5 : i < (l0.length : Int)
   ·
    rw [if_pos c5] at H
    have c5b0 : decide (i < (l0.length : Int)) = true := decide_eq_true c5
    by_cases c6 : 0 ≤ i
    ·
     rw [if_pos c6] at H
     obtain ⟨t1, A7, H⟩ := Option.bind_eq_some_iff.mp H
     have A7 := Aside0.mk A7
     obtain ⟨ad175, e175, hx175_0⟩ := Kd.at_int HR0.out i c6 c5
     cases e175
     replace hx175_0 := (HB.out.cell (World.block_lt_of_cell? w _ hx175_0)).trans hx175_0
     have p175 := eq_true c6
     have q175 := eq_true c5
     clear c5 c6
     by_cases c9 : acc.size + t1.size ≤ 140737488355328
     ·
      rw [if_pos c9] at H
      have H' := Aside0.mk H
      clear H
      go_wp2_with (go_at_call 37; fail)
      go_at_call 37
      refine (wire_Num.calls k1 _ t1 _ A7.out).mono ?_
      rintro e w3 ⟨rfl, hb3⟩
      have HI3 := Aside0.mk (bld_below HI.out hb3)
      have HB3 := Aside0.mk (below_then HB.out HB.out.size hb3)
      clear HI HB hb3
      go_wp2_with (go_at_call 38; fail)
      go_at_call 38
      refine (bld_write _ _ _ t1 _ HI3.out (by rw [Lib.strCells_length]; exact c9) HB3.out.size).mono ?_
      rintro e w4 ⟨rfl, hi, hb4⟩
      rw [nums_app] at hi
      have HI4 : Aside0 (Lib.IsBuilder 89 5 w.heap.size w.heap.size (Lib.strCells (acc ++ t1)) w4) := ⟨Or.inr hi⟩
      have HB4 := Aside0.mk (HB3.out.trans hb4)
      clear HI3 HB3 hi hb4
      go_wp2
      go_roundg k1
      case measure => have := HK1.out; omega
      case rel => exact ⟨acc ++ t1, wrap64 (i + 1), by first | rfl | (simp; done) | (simp [*]; done), H', ⟨by have := HK1.out; omega⟩, HI4, HB4⟩
     ·
      rw [if_neg c9] at H
      cases H
    ·
     rw [if_neg c6] at H
     cases H
   ·
    rw [if_neg c5] at H
    have c5b0 : decide (i < (l0.length : Int)) = false := decide_eq_false c5
    clear c5
    obtain rfl := Option.some.inj H
    go_wp2_with (go_at_call 39; fail)
    go_at_call 39
    refine (bld_string _ _ acc _ HI.out HB.out.size).mono ?_
    rintro e w3 ⟨rfl, hb3⟩
    have HB3 := Aside0.mk (HB.out.trans hb3)
    clear HI HB hb3
    go_wp2
    go_ret
    exact ⟨rfl, HB3.out⟩

end Go.Proofs.Ytjailboidlmadaa.P
