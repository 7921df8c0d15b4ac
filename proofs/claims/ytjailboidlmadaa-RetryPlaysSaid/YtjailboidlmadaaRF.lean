/- The reference's Put. -/
import Derived.Test.YtjailboidlmadaaRE
import Derived.Test.YtjailboidlmadaaPx12
import Derived.Test.YtjailboidlmadaaPx10
section

namespace Go.Proofs.Ytjailboidlmadaa.P
open Go.RowKit Go.Maps Go.WideMaps Go.Proofs.YtjailboidlmadaaW.PrintWords Go.Proofs.YtjailboidlmadaaW.PrintLast Go.Proofs.YtjailboidlmadaaW.PrintMore
attribute [local go_sem] max2_int min2_int max_two min_two max_three min_three max_four min_four
set_option linter.unusedVariables false
set_option linter.unusedSimpArgs false
variable {W : World} {X : Nat} {D : Nat → Prop} {sl : Value} {rs : List RC}
section
variable {ops : Array Oper} {rest : List Oper} {o : Oper} {a : Act} {Q : Exit → Act → World → Prop} {W : World}
theorem CB.src {g off cap cc n : Nat} {xs : List (List Value)} {cells : Array Value} (h : CB W 78 18 g off cap xs cells) (hn : n = xs.length) : Src Try.prog 18 49 (.slice (some ⟨g, off, none⟩) n cc) xs.length xs.flatten W := by
  subst hn
  refine Src.ofSlice W Try.underlying49 ⟨g, off, none⟩ xs.length cc xs.flatten (flat_len h.len) (fun j u hu => ?_) (fun u hu => ?_)
  · rw [Addr.add_lit, blk_cell h.at_]
    exact h.holds j u hu
  · obtain ⟨x, hx, hu⟩ := List.mem_flatten.1 hu
    exact h.one x hx u hu
theorem wpList_cr_app {v xv : Value} {D : Nat → Prop} {xs ys : List (List Value)} (hgd : o.guard = none) (s x : Operand) (ho : o.op = .call { callee := .builtin .append, args := #[s, x], argTypes := #[49, 49] }) (hs : a.eval s = v) (h : CR W D 78 18 v xs) (hx : a.eval x = xv) (hsrc : Src Try.prog 18 49 xv ys.length ys.flatten W)
    (hyl : ∀ y ∈ ys, y.length = 18) (hyo : ∀ y ∈ ys, ∀ u ∈ y, u.oneCell' = true) (hl : xs.length + ys.length ≤ 1000000)
    (hK : ∀ A n cap W', n = xs.length + ys.length → CR W' (fun i => D i ∨ i = W.heap.size) 78 18 (.slice A n cap) (xs ++ ys) → W.grownBy W' v.ownBlock → wpList Try.prog ops Q rest (a.put o.dst (.slice A n cap)) W') : wpList Try.prog ops Q (o :: rest) a W := by
  refine wpList_plain hgd fun K hK' => ?_
  obtain ⟨v', W', hrun, hcr, hg⟩ := run_cr_append (bytes := 216) Try.underlying49 info78 rfl h hyl hyo xv hsrc (by omega) (by omega) o.type
  obtain ⟨A, cap, rfl⟩ := hcr.shape
  unfold Oper.wp
  simp [execOp, ho, resolve, invoke, builtin, hs, hx, hrun, Result.andThen]
  exact hK' _ _ (by rw [← List.length_append]; exact hK A _ cap W' (List.length_append) hcr hg)
theorem step_cr_one {K : Act → World → Prop} {E : Prop} {v : Value} {D : Nat → Prop} {xs : List (List Value)} (hgd : o.guard = none) (s x : Operand) (ho : o.op = .call { callee := .builtin .append, args := #[s, x], argTypes := #[49, 49] }) (hs : a.eval s = v) (h : CR W D 78 18 v xs) {q : Nat} (hx : a.eval x = .slice (some ⟨q, 0, none⟩) 1 1)
    (y : List Value) (hyl : y.length = 18) (hyo : ∀ u ∈ y, u.oneCell' = true) (hq : ∀ j u, y[j]? = some u → W.cell? ⟨q, j, none⟩ = some u) (hl : xs.length ≤ 1000000)
    (hK : ∀ A n cap W', n = xs.length + 1 → CR W' (fun i => D i ∨ i = W.heap.size) 78 18 (.slice A n cap) (xs ++ [y]) → W.grownBy W' v.ownBlock → K (a.put o.dst (.slice A n cap)) W') : if Region.wanted o (yielded ops a.tmps) = true then Oper.wp Try.prog o a W K Q else E := by
  have hw : Region.wanted o (yielded ops a.tmps) = true := by simp [Region.wanted, hgd]
  rw [if_pos hw]
  obtain ⟨A, cap, W', hrun, hcr, hg⟩ := run_cr_one h y hyl hyo hq hl o.type
  unfold Oper.wp
  simp [execOp, ho, resolve, invoke, builtin, hs, hx, hrun, Result.andThen]
  exact hK A _ cap W' rfl hcr hg
end
theorem build78 (W : World) (v0 v1 v2 v3 v4 v5 v6 : Value) (u0 u1 u2 u3 u4 u5 u6 u7 u8 u9 u10 : Value) : (Instr.build 78 #[(0, .agg #[v0, v1, v2, v3, v4, v5, v6]), (1, .agg #[u0, u1, u2, u3, u4, u5, u6, u7, u8, u9, u10])]).run Try.prog W = .ok (.agg #[v0, v1, v2, v3, v4, v5, v6, u0, u1, u2, u3, u4, u5, u6, u7, u8, u9, u10]) W := by kernel_rfl
/-- the field is another row -/
theorem RX.store {W' : World} {D' : Nat → Prop} {sl' : Value} {rs' : List RC} (h : RX W X D sl rs) (hX : W'.heap[X]? = W.heap[X]?) (hD : ∀ i, D i → D' i) (hr : CR W' D' 78 18 sl' (rs'.map RC.cells)) : RX (W'.setCell ⟨X, 0, none⟩ sl') X D' sl' rs' := by
  have hat := hX.trans h.at_
  refine ⟨hD _ h.hX, heap_setCell_same W' X 0 _ 51 sl' hat, hr.step (fun _ h => h) (fun i c _ hc => Below.heap_setCell W' ⟨X, 0, none⟩ sl' i (fun e => ?_))⟩
  rw [e, hat] at hc
  injection hc with hc
  injection hc with _ hc
  cases hc
theorem RX.own_ne (h : RX W X D sl rs) {i q : Nat} {c : Array Value} (hc : W.heap[i]? = some (.cells c q (0, 0))) (hq : q ≠ 78) : ¬ some i = sl.ownBlock := by
  intro hi
  obtain ⟨_, c', hc'⟩ := h.row.own_typed hi
  rw [hc] at hc'
  injection hc' with hc'
  injection hc' with _ hc'
  exact hq hc'
set_option maxHeartbeats 1600000 in
set_option maxRecDepth 100000 in
theorem rput_bad (h : RX W X D sl rs) (c m : Int) (kd : Int) (p t : ByteArray) (cl ca n6 : Int) (A6 : Option Addr) (c6 : Nat) (l6 : List Int) (err b0 b1 b2 : Int) (names : List ByteArray) (path : ByteArray) (dir : Bool) (quota : Int) (blocks : List S32) (writer n : Int) (A4 : Option Addr) (c4 : Nat) (A8 : Option Addr) (c8 : Nat) (hb : Nat) (right : Bool) (hrt : tabulariumref10_Right.f hb kd p t cl ca n6 l6 = some right) (hr : Kd.C (Kd.int .i64) W A6 l6.length l6) (hc : l6.length ≤ c6) (hf : right = false ∨ (cl ≠ c ∨ ca ≠ m)) :
    Calls Try.prog 15 #[.pointer (some ⟨X, 0, none⟩), .int .i64 c, .int .i64 m, .agg #[.int .i64 kd, .string p, .string t, .int .i64 cl, .int .i64 ca, .int .i64 n6, .slice A6 l6.length c6], .agg #[.int .i64 err, .int .i64 b0, .int .i64 b1, .int .i64 b2, .slice A4 names.length c4, .string path, .bool dir, .int .i64 quota, .slice A8 blocks.length c8, .int .i64 writer, .int .i64 n]] W fun e w' => e = .returned (.int .i64 1) ∧ Below W.heap.size W w' := by
  have hu28 := Try.underlying28
  have hu32 := Try.underlying32
  have hu36 := Try.underlying36
  have hu38 := Try.underlying38
  have hu51 := Try.underlying51
  have hu78 := Try.underlying78
  replace hrt := Aside0.mk hrt
  replace hr := Aside0.mk hr
  replace hc := Aside0.mk hc
  clear h
  cases right with
  | false =>
    clear hf
    go_enter Try.func15, Try.ntmps15
    go_wp2_with (first | ((with_reducible refine gate_dst (N := 8) rfl ?_); refine box_event ?hg8 (N := 8) ?hd8 (cs := #[.int .i64 kd, .string p, .string t, .int .i64 cl, .int .i64 ca, .int .i64 n6, .slice A6 l6.length c6]) (t := 28) ?hr8 ?_; (case hd8 => rfl); (case hg8 => rfl); (case hr8 => first | (go_simp; done) | (go_simp; rfl)); intro g8 hg8 w8 hbox8 hb8; have G8 := Aside0.mk hg8; clear hg8) | ((with_reducible refine gate_dst (N := 9) rfl ?_); refine box_event ?hg9 (N := 9) ?hd9 (cs := #[.int .i64 err, .int .i64 b0, .int .i64 b1, .int .i64 b2, .slice A4 names.length c4, .string path, .bool dir, .int .i64 quota, .slice A8 blocks.length c8, .int .i64 writer, .int .i64 n]) (t := 38) ?hr9 ?_; (case hd9 => rfl); (case hg9 => rfl); (case hr9 => first | (go_simp; done) | (go_simp; rfl)); intro g9 hg9 w9 hbox9 hb9; have G9 := Aside0.mk hg9; clear hg9; have q8 := (hb9.block g8 (blk_lt hbox8)).trans hbox8) | ((with_reducible refine gate_ (.load 28 (.tmp 8)) rfl ?_); refine wpList_load_all rfl 28 (.tmp 8) rfl (g := g8) (off := 0) rfl [.int .i64 kd, .string p, .string t, .int .i64 cl, .int .i64 ca, .int .i64 n6, .slice A6 l6.length c6] q8 agg28 size28 rfl ?_) | (go_at_call 27; refine (tabulariumref10_Right.calls hb kd p t cl ca n6 A6 c6 l6 _ _ (Kd.C_below (Kd.C_below hr.out hb8) hb9) hc.out hrt.out).mono ?_; rintro e_ w10 ⟨rfl, hb10⟩; have p8 := (hb10.block g8 (blk_lt q8)).trans q8; have p9 := (hb10.block g9 (blk_lt hbox9)).trans hbox9; have xc := (blk_cell p8 3).trans (rfl : _ = some (Value.int .i64 cl)); have xm := (blk_cell p8 4).trans (rfl : _ = some (Value.int .i64 ca))))
    go_ret
    exact ⟨rfl, below_step (below_step hb8 hb9) hb10⟩
  | true =>
    have hf := hf.resolve_left (fun h => by cases h)
    by_cases h1 : cl = c
    · have h2 : ca ≠ m := hf.resolve_left (fun h => h h1)
      have f1 : (cl != c) = false := by simp [h1]
      have f2 : (ca != m) = true := by simpa using h2
      clear hf h1 h2
      go_enter Try.func15, Try.ntmps15
      go_wp2_with (first | ((with_reducible refine gate_dst (N := 8) rfl ?_); refine box_event ?hg8 (N := 8) ?hd8 (cs := #[.int .i64 kd, .string p, .string t, .int .i64 cl, .int .i64 ca, .int .i64 n6, .slice A6 l6.length c6]) (t := 28) ?hr8 ?_; (case hd8 => rfl); (case hg8 => rfl); (case hr8 => first | (go_simp; done) | (go_simp; rfl)); intro g8 hg8 w8 hbox8 hb8; have G8 := Aside0.mk hg8; clear hg8) | ((with_reducible refine gate_dst (N := 9) rfl ?_); refine box_event ?hg9 (N := 9) ?hd9 (cs := #[.int .i64 err, .int .i64 b0, .int .i64 b1, .int .i64 b2, .slice A4 names.length c4, .string path, .bool dir, .int .i64 quota, .slice A8 blocks.length c8, .int .i64 writer, .int .i64 n]) (t := 38) ?hr9 ?_; (case hd9 => rfl); (case hg9 => rfl); (case hr9 => first | (go_simp; done) | (go_simp; rfl)); intro g9 hg9 w9 hbox9 hb9; have G9 := Aside0.mk hg9; clear hg9; have q8 := (hb9.block g8 (blk_lt hbox8)).trans hbox8) | ((with_reducible refine gate_ (.load 28 (.tmp 8)) rfl ?_); refine wpList_load_all rfl 28 (.tmp 8) rfl (g := g8) (off := 0) rfl [.int .i64 kd, .string p, .string t, .int .i64 cl, .int .i64 ca, .int .i64 n6, .slice A6 l6.length c6] q8 agg28 size28 rfl ?_) | (go_at_call 27; refine (tabulariumref10_Right.calls hb kd p t cl ca n6 A6 c6 l6 _ _ (Kd.C_below (Kd.C_below hr.out hb8) hb9) hc.out hrt.out).mono ?_; rintro e_ w10 ⟨rfl, hb10⟩; have p8 := (hb10.block g8 (blk_lt q8)).trans q8; have p9 := (hb10.block g9 (blk_lt hbox9)).trans hbox9; have xc := (blk_cell p8 3).trans (rfl : _ = some (Value.int .i64 cl)); have xm := (blk_cell p8 4).trans (rfl : _ = some (Value.int .i64 ca))))
      go_ret
      exact ⟨rfl, below_step (below_step hb8 hb9) hb10⟩
    · have f1 : (cl != c) = true := by simpa using h1
      clear hf h1
      go_enter Try.func15, Try.ntmps15
      go_wp2_with (first | ((with_reducible refine gate_dst (N := 8) rfl ?_); refine box_event ?hg8 (N := 8) ?hd8 (cs := #[.int .i64 kd, .string p, .string t, .int .i64 cl, .int .i64 ca, .int .i64 n6, .slice A6 l6.length c6]) (t := 28) ?hr8 ?_; (case hd8 => rfl); (case hg8 => rfl); (case hr8 => first | (go_simp; done) | (go_simp; rfl)); intro g8 hg8 w8 hbox8 hb8; have G8 := Aside0.mk hg8; clear hg8) | ((with_reducible refine gate_dst (N := 9) rfl ?_); refine box_event ?hg9 (N := 9) ?hd9 (cs := #[.int .i64 err, .int .i64 b0, .int .i64 b1, .int .i64 b2, .slice A4 names.length c4, .string path, .bool dir, .int .i64 quota, .slice A8 blocks.length c8, .int .i64 writer, .int .i64 n]) (t := 38) ?hr9 ?_; (case hd9 => rfl); (case hg9 => rfl); (case hr9 => first | (go_simp; done) | (go_simp; rfl)); intro g9 hg9 w9 hbox9 hb9; have G9 := Aside0.mk hg9; clear hg9; have q8 := (hb9.block g8 (blk_lt hbox8)).trans hbox8) | ((with_reducible refine gate_ (.load 28 (.tmp 8)) rfl ?_); refine wpList_load_all rfl 28 (.tmp 8) rfl (g := g8) (off := 0) rfl [.int .i64 kd, .string p, .string t, .int .i64 cl, .int .i64 ca, .int .i64 n6, .slice A6 l6.length c6] q8 agg28 size28 rfl ?_) | (go_at_call 27; refine (tabulariumref10_Right.calls hb kd p t cl ca n6 A6 c6 l6 _ _ (Kd.C_below (Kd.C_below hr.out hb8) hb9) hc.out hrt.out).mono ?_; rintro e_ w10 ⟨rfl, hb10⟩; have p8 := (hb10.block g8 (blk_lt q8)).trans q8; have p9 := (hb10.block g9 (blk_lt hbox9)).trans hbox9; have xc := (blk_cell p8 3).trans (rfl : _ = some (Value.int .i64 cl)); have xm := (blk_cell p8 4).trans (rfl : _ = some (Value.int .i64 ca))))
      go_ret
      exact ⟨rfl, below_step (below_step hb8 hb9) hb10⟩
set_option maxHeartbeats 1600000 in
set_option maxRecDepth 100000 in
theorem rput_state (h : RX W X D sl rs) (hl : rs.length ≤ 20) (kd : Int) (p t : ByteArray) (cl ca n6 : Int) (A6 : Option Addr) (c6 : Nat) (l6 : List Int) (err b0 b1 b2 : Int) (names : List ByteArray) (path : ByteArray) (dir : Bool) (quota : Int) (blocks : List S32) (writer n : Int) (A4 : Option Addr) (c4 : Nat) (A8 : Option Addr) (c8 : Nat) (hb : Nat) (hrt : tabulariumref10_Right.f hb kd p t cl ca n6 l6 = some true) (hr : Kd.C (Kd.int .i64) W A6 l6.length l6) (hc : l6.length ≤ c6) (i : Nat) (hi : idxOf (fun k => k == (cl, ca)) (rs.map RC.key) = (i : Int)) (a0_0 : Int) (a0_1 : ByteArray) (a0_2 : ByteArray) (a0_3 : Int) (a0_4 : Int) (a0_5 : Int) (A0_6 : Option Addr) (c0_6 : Nat) (l0_6 : List Int) (ha : Ans) (B4 : Option Addr) (d4 : Nat) (B8 : Option Addr) (d8 : Nat) (hri : rs[i]? = some (⟨a0_0, a0_1, a0_2, a0_3, a0_4, a0_5, A0_6, c0_6, l0_6, ha, B4, d4, B8, d8⟩ : RC)) (hk : Nat) (same : Bool) (hsm : tabulariumref10_Same.f hk a0_0 a0_1 a0_2 a0_3 a0_4 a0_5 l0_6 kd p t cl ca n6 l6 = some same) (hr6 : Kd.C (Kd.int .i64) W A0_6 l0_6.length l0_6) (hc6 : l0_6.length ≤ c0_6) (hf : same = false) :
    Calls Try.prog 15 #[.pointer (some ⟨X, 0, none⟩), .int .i64 cl, .int .i64 ca, .agg #[.int .i64 kd, .string p, .string t, .int .i64 cl, .int .i64 ca, .int .i64 n6, .slice A6 l6.length c6], .agg #[.int .i64 err, .int .i64 b0, .int .i64 b1, .int .i64 b2, .slice A4 names.length c4, .string path, .bool dir, .int .i64 quota, .slice A8 blocks.length c8, .int .i64 writer, .int .i64 n]] W fun e w' => e = .returned (.int .i64 14) ∧ Below W.heap.size W w' := by
  have hu28 := Try.underlying28
  have hu32 := Try.underlying32
  have hu36 := Try.underlying36
  have hu38 := Try.underlying38
  have hu51 := Try.underlying51
  have hu78 := Try.underlying78
  replace hl := Aside0.mk hl
  have hX := Aside0.mk h
  clear h
  replace hrt := Aside0.mk hrt
  replace hr := Aside0.mk hr
  replace hc := Aside0.mk hc
  have f1 : (cl != cl) = false := by simp
  have f2 : (ca != ca) = false := by simp
  subst hf
  obtain ⟨sl_, hsl⟩ : ∃ s_, s_ = sl := ⟨_, rfl⟩
  have hil : i < rs.length := (List.getElem?_eq_some_iff.1 hri).1
  obtain ⟨g, off, cap, cells, rfl, hDg, hCB⟩ : ∃ g off cap cells, sl = .slice (some ⟨g, off, none⟩) rs.length cap ∧ D g ∧ CB W 78 18 g off cap (rs.map RC.cells) cells := by
    rcases hX.out.row with ⟨_, h2⟩ | ⟨g, off, cap, cells, h1, h2, h3⟩
    · rw [List.map_eq_nil_iff] at h2
      rw [h2] at hil
      exact absurd hil (Nat.not_lt_zero _)
    · rw [List.length_map] at h1
      exact ⟨g, off, cap, cells, h1, h2, h3⟩
  clear hsl sl_
  obtain ⟨k, hk_⟩ : ∃ k, k = rs.length := ⟨_, rfl⟩
  rw [← hk_] at hX
  have hkc : k ≤ cap := by have := hCB.le; rw [List.length_map] at this; omega
  have hik : i < k := by omega
  have hiz : (i : Int) < (k : Int) := by omega
  have hi0 : (0 : Int) ≤ (i : Int) := by omega
  have hin : ¬ ((i : Int) < 0) := by omega
  have hXat := hX.out.at_
  have hgl := hCB.lt
  have v0 := hCB.cell (rmap_at hri) (j := 0) (u := .int .i64 a0_0) rfl
  have v1 := hCB.cell (rmap_at hri) (j := 1) (u := .string a0_1) rfl
  have v2 := hCB.cell (rmap_at hri) (j := 2) (u := .string a0_2) rfl
  have v3 := hCB.cell (rmap_at hri) (j := 3) (u := .int .i64 a0_3) rfl
  have v4 := hCB.cell (rmap_at hri) (j := 4) (u := .int .i64 a0_4) rfl
  have v5 := hCB.cell (rmap_at hri) (j := 5) (u := .int .i64 a0_5) rfl
  have v6 := hCB.cell (rmap_at hri) (j := 6) (u := .slice A0_6 l0_6.length c0_6) rfl
  replace hi := Aside0.mk hi
  replace hsm := Aside0.mk hsm
  replace hr6 := Aside0.mk hr6
  replace hc6 := Aside0.mk hc6
  have HK := Aside0.mk hk_
  have HCB := Aside0.mk hCB
  clear hri hil hCB hk_
  go_enter Try.func15, Try.ntmps15
  go_upto_region 6 with (first | ((with_reducible refine gate_dst (N := 8) rfl ?_); refine box_event ?hg8 (N := 8) ?hd8 (cs := #[.int .i64 kd, .string p, .string t, .int .i64 cl, .int .i64 ca, .int .i64 n6, .slice A6 l6.length c6]) (t := 28) ?hr8 ?_; (case hd8 => rfl); (case hg8 => rfl); (case hr8 => first | (go_simp; done) | (go_simp; rfl)); intro g8 hg8 w8 hbox8 hb8; have G8 := Aside0.mk hg8; clear hg8) | ((with_reducible refine gate_dst (N := 9) rfl ?_); refine box_event ?hg9 (N := 9) ?hd9 (cs := #[.int .i64 err, .int .i64 b0, .int .i64 b1, .int .i64 b2, .slice A4 names.length c4, .string path, .bool dir, .int .i64 quota, .slice A8 blocks.length c8, .int .i64 writer, .int .i64 n]) (t := 38) ?hr9 ?_; (case hd9 => rfl); (case hg9 => rfl); (case hr9 => first | (go_simp; done) | (go_simp; rfl)); intro g9 hg9 w9 hbox9 hb9; have G9 := Aside0.mk hg9; clear hg9; have q8 := (hb9.block g8 (blk_lt hbox8)).trans hbox8) | ((with_reducible refine gate_ (.load 28 (.tmp 8)) rfl ?_); refine wpList_load_all rfl 28 (.tmp 8) rfl (g := g8) (off := 0) rfl [.int .i64 kd, .string p, .string t, .int .i64 cl, .int .i64 ca, .int .i64 n6, .slice A6 l6.length c6] q8 agg28 size28 rfl ?_) | (go_at_call 27; refine (tabulariumref10_Right.calls hb kd p t cl ca n6 A6 c6 l6 _ _ (Kd.C_below (Kd.C_below hr.out hb8) hb9) hc.out hrt.out).mono ?_; rintro e_ w10 ⟨rfl, hb10⟩; have p8 := (hb10.block g8 (blk_lt q8)).trans q8; have p9 := (hb10.block g9 (blk_lt hbox9)).trans hbox9; have xc := (blk_cell p8 3).trans (rfl : _ = some (Value.int .i64 cl)); have xm := (blk_cell p8 4).trans (rfl : _ = some (Value.int .i64 ca))) | (go_at_call 28; have hS := ((hX.out.below hb8).below hb9).below hb10; refine (at_calls hS (Nat.le_trans (HK.out ▸ hl.out) (by decide : 20 ≤ 1000000)) cl ca).mono ?_; rw [hi.out]; rintro e_ w11 ⟨rfl, hw11⟩; obtain rfl : w10 = w11 := hw11.symm))
  have B10 := below_step (below_step hb8 hb9) hb10
  have hXl := blk_lt hXat
  have HS6 : Aside0 (∀ W', Below w10.heap.size w10 W' → W'.cell? ⟨X, 0, none⟩ = some (.slice (some ⟨g, off, none⟩) k cap) ∧ W'.cell? ⟨g, off + i * 18, none⟩ = some (.int .i64 a0_0) ∧ W'.cell? ⟨g, off + i * 18 + 1, none⟩ = some (.string a0_1) ∧ W'.cell? ⟨g, off + i * 18 + 2, none⟩ = some (.string a0_2) ∧ W'.cell? ⟨g, off + i * 18 + 3, none⟩ = some (.int .i64 a0_3) ∧ W'.cell? ⟨g, off + i * 18 + 4, none⟩ = some (.int .i64 a0_4) ∧ W'.cell? ⟨g, off + i * 18 + 5, none⟩ = some (.int .i64 a0_5) ∧ W'.cell? ⟨g, off + i * 18 + 6, none⟩ = some (.slice A0_6 l0_6.length c0_6) ∧ W'.cell? ⟨g8, 0, none⟩ = some (.int .i64 kd) ∧ W'.cell? ⟨g8, 1, none⟩ = some (.string p) ∧ W'.cell? ⟨g8, 2, none⟩ = some (.string t) ∧ W'.cell? ⟨g8, 3, none⟩ = some (.int .i64 cl) ∧ W'.cell? ⟨g8, 4, none⟩ = some (.int .i64 ca) ∧ W'.cell? ⟨g8, 5, none⟩ = some (.int .i64 n6) ∧ W'.cell? ⟨g8, 6, none⟩ = some (.slice A6 l6.length c6)) := ⟨fun W' hb => ⟨((below_step B10 hb).cell hXl).trans ((blk_cell hXat 0).trans rfl), ((below_step B10 hb).cell hgl).trans v0, ((below_step B10 hb).cell hgl).trans v1, ((below_step B10 hb).cell hgl).trans v2, ((below_step B10 hb).cell hgl).trans v3, ((below_step B10 hb).cell hgl).trans v4, ((below_step B10 hb).cell hgl).trans v5, ((below_step B10 hb).cell hgl).trans v6, (hb.cell (blk_lt p8)).trans ((blk_cell p8 0).trans rfl), (hb.cell (blk_lt p8)).trans ((blk_cell p8 1).trans rfl), (hb.cell (blk_lt p8)).trans ((blk_cell p8 2).trans rfl), (hb.cell (blk_lt p8)).trans ((blk_cell p8 3).trans rfl), (hb.cell (blk_lt p8)).trans ((blk_cell p8 4).trans rfl), (hb.cell (blk_lt p8)).trans ((blk_cell p8 5).trans rfl), (hb.cell (blk_lt p8)).trans ((blk_cell p8 6).trans rfl)⟩⟩
  go_region_held3 (fun W' => W'.cell? ⟨X, 0, none⟩ = some (.slice (some ⟨g, off, none⟩) k cap) ∧ W'.cell? ⟨g, off + i * 18, none⟩ = some (.int .i64 a0_0) ∧ W'.cell? ⟨g, off + i * 18 + 1, none⟩ = some (.string a0_1) ∧ W'.cell? ⟨g, off + i * 18 + 2, none⟩ = some (.string a0_2) ∧ W'.cell? ⟨g, off + i * 18 + 3, none⟩ = some (.int .i64 a0_3) ∧ W'.cell? ⟨g, off + i * 18 + 4, none⟩ = some (.int .i64 a0_4) ∧ W'.cell? ⟨g, off + i * 18 + 5, none⟩ = some (.int .i64 a0_5) ∧ W'.cell? ⟨g, off + i * 18 + 6, none⟩ = some (.slice A0_6 l0_6.length c0_6) ∧ W'.cell? ⟨g8, 0, none⟩ = some (.int .i64 kd) ∧ W'.cell? ⟨g8, 1, none⟩ = some (.string p) ∧ W'.cell? ⟨g8, 2, none⟩ = some (.string t) ∧ W'.cell? ⟨g8, 3, none⟩ = some (.int .i64 cl) ∧ W'.cell? ⟨g8, 4, none⟩ = some (.int .i64 ca) ∧ W'.cell? ⟨g8, 5, none⟩ = some (.int .i64 n6) ∧ W'.cell? ⟨g8, 6, none⟩ = some (.slice A6 l6.length c6)) (first | exact HS6.out _ (below_drew (Below.refl _ _)) | exact HS6.out _ HB12.out) (first | (go_at_call 29; refine (tabulariumref10_Same.calls hk a0_0 a0_1 a0_2 a0_3 a0_4 a0_5 A0_6 c0_6 l0_6 kd p t cl ca n6 A6 c6 l6 _ _ (Kd.C_below hr6.out (below_step B10 (below_drew (Below.refl _ _)))) hc6.out (Kd.C_below hr.out (below_step B10 (below_drew (Below.refl _ _)))) hc.out hsm.out).mono ?_; rintro e_ w12 ⟨rfl, hb12⟩; have HB12 : Aside0 (Below w10.heap.size w10 w12) := ⟨below_step (below_drew (Below.refl _ _)) hb12⟩; have r8 := (HB12.out.block g8 (blk_lt p8)).trans p8; have r9 := (HB12.out.block g9 (blk_lt p9)).trans p9))
  have B12 := below_step B10 HB12.out
  go_wp2_with (fail)
  go_ret
  exact ⟨rfl, B12⟩
end Go.Proofs.Ytjailboidlmadaa.P
end

section

namespace Go.Proofs.Ytjailboidlmadaa.P
open Go.RowKit Go.Maps Go.WideMaps Go.Proofs.YtjailboidlmadaaW.PrintWords Go.Proofs.YtjailboidlmadaaW.PrintLast Go.Proofs.YtjailboidlmadaaW.PrintMore
attribute [local go_sem] max2_int min2_int max_two min_two max_three min_three max_four min_four
set_option linter.unusedVariables false
set_option linter.unusedSimpArgs false
variable {W : World} {X : Nat} {D : Nat → Prop} {sl : Value} {rs : List RC}
set_option maxHeartbeats 1600000 in
set_option maxRecDepth 100000 in
theorem rput_new (h : RX W X D sl rs) (hl : rs.length ≤ 20) (kd : Int) (p t : ByteArray) (cl ca n6 : Int) (A6 : Option Addr) (c6 : Nat) (l6 : List Int) (err b0 b1 b2 : Int) (names : List ByteArray) (path : ByteArray) (dir : Bool) (quota : Int) (blocks : List S32) (writer n : Int) (A4 : Option Addr) (c4 : Nat) (A8 : Option Addr) (c8 : Nat) (hb : Nat) (hrt : tabulariumref10_Right.f hb kd p t cl ca n6 l6 = some true) (hr : Kd.C (Kd.int .i64) W A6 l6.length l6) (hc : l6.length ≤ c6) (hi : idxOf (fun k => k == (cl, ca)) (rs.map RC.key) = -1) (hs : rs.length < 20) :
    Calls Try.prog 15 #[.pointer (some ⟨X, 0, none⟩), .int .i64 cl, .int .i64 ca, .agg #[.int .i64 kd, .string p, .string t, .int .i64 cl, .int .i64 ca, .int .i64 n6, .slice A6 l6.length c6], .agg #[.int .i64 err, .int .i64 b0, .int .i64 b1, .int .i64 b2, .slice A4 names.length c4, .string path, .bool dir, .int .i64 quota, .slice A8 blocks.length c8, .int .i64 writer, .int .i64 n]] W fun e w' => e = .returned (.int .i64 0) ∧ (∃ sl', RX w' X (fun i => D i ∨ W.heap.size ≤ i) sl' (rs ++ [(⟨kd, p, t, cl, ca, n6, A6, c6, l6, ⟨err, b0, b1, b2, names, path, dir, quota, blocks, writer, n⟩, A4, c4, A8, c8⟩ : RC)])) ∧ Gr D W w' := by
  have hu28 := Try.underlying28
  have hu32 := Try.underlying32
  have hu36 := Try.underlying36
  have hu38 := Try.underlying38
  have hu51 := Try.underlying51
  have hu78 := Try.underlying78
  replace hl := Aside0.mk hl
  have hX := Aside0.mk h
  clear h
  replace hrt := Aside0.mk hrt
  replace hr := Aside0.mk hr
  replace hc := Aside0.mk hc
  have f1 : (cl != cl) = false := by simp
  have f2 : (ca != ca) = false := by simp
  replace hs := Aside0.mk hs
  replace hi := Aside0.mk hi
  go_enter Try.func15, Try.ntmps15
  go_upto_region 5 with (first | ((with_reducible refine gate_dst (N := 8) rfl ?_); refine box_event ?hg8 (N := 8) ?hd8 (cs := #[.int .i64 kd, .string p, .string t, .int .i64 cl, .int .i64 ca, .int .i64 n6, .slice A6 l6.length c6]) (t := 28) ?hr8 ?_; (case hd8 => rfl); (case hg8 => rfl); (case hr8 => first | (go_simp; done) | (go_simp; rfl)); intro g8 hg8 w8 hbox8 hb8; have G8 := Aside0.mk hg8; clear hg8) | ((with_reducible refine gate_dst (N := 9) rfl ?_); refine box_event ?hg9 (N := 9) ?hd9 (cs := #[.int .i64 err, .int .i64 b0, .int .i64 b1, .int .i64 b2, .slice A4 names.length c4, .string path, .bool dir, .int .i64 quota, .slice A8 blocks.length c8, .int .i64 writer, .int .i64 n]) (t := 38) ?hr9 ?_; (case hd9 => rfl); (case hg9 => rfl); (case hr9 => first | (go_simp; done) | (go_simp; rfl)); intro g9 hg9 w9 hbox9 hb9; have G9 := Aside0.mk hg9; clear hg9; have q8 := (hb9.block g8 (blk_lt hbox8)).trans hbox8) | ((with_reducible refine gate_ (.load 28 (.tmp 8)) rfl ?_); refine wpList_load_all rfl 28 (.tmp 8) rfl (g := g8) (off := 0) rfl [.int .i64 kd, .string p, .string t, .int .i64 cl, .int .i64 ca, .int .i64 n6, .slice A6 l6.length c6] q8 agg28 size28 rfl ?_) | (go_at_call 27; refine (tabulariumref10_Right.calls hb kd p t cl ca n6 A6 c6 l6 _ _ (Kd.C_below (Kd.C_below hr.out hb8) hb9) hc.out hrt.out).mono ?_; rintro e_ w10 ⟨rfl, hb10⟩; have p8 := (hb10.block g8 (blk_lt q8)).trans q8; have p9 := (hb10.block g9 (blk_lt hbox9)).trans hbox9; have xc := (blk_cell p8 3).trans (rfl : _ = some (Value.int .i64 cl)); have xm := (blk_cell p8 4).trans (rfl : _ = some (Value.int .i64 ca))) | (go_at_call 28; have hS := ((hX.out.below hb8).below hb9).below hb10; refine (at_calls hS (Nat.le_trans (hl.out) (by decide : 20 ≤ 1000000)) cl ca).mono ?_; rw [hi.out]; rintro e_ w11 ⟨rfl, hw11⟩; obtain rfl : w10 = w11 := hw11.symm))
  have B10 := below_step (below_step hb8 hb9) hb10
  have HRX : Aside0 (RX w10 X (fun i => D i ∨ W.heap.size ≤ i) sl rs) := ⟨hS.hX |> .inl, hS.at_, hS.row.step (fun _ h => .inl h) (fun _ _ _ _ => rfl)⟩
  have HGW : Aside0 (Gr D W w10) := ⟨Gr.of_below B10⟩
  have HRL := hl
  clear hX hS
  obtain ⟨A2, n2, cap2, hsl2, hn2⟩ : ∃ A2 n2 cap2, sl = .slice A2 n2 cap2 ∧ n2 = rs.length := by obtain ⟨A1, c_, e_⟩ := HRX.out.row.shape; exact ⟨A1, _, c_, e_, List.length_map _⟩
  have HN2 := Aside0.mk hn2
  have HSL := Aside0.mk hsl2
  have yX := HRX.out.at_
  have yo : w10.cell? ⟨X, 0, none⟩ = some (.slice A2 n2 cap2) := by rw [← HSL.out]; exact (blk_cell yX 0).trans rfl
  have hCR := HRX.out.row
  rw [hsl2] at hCR
  have CRF : Aside0 (∀ W', Below w10.heap.size w10 W' → CR W' (fun i => D i ∨ W.heap.size ≤ i) 78 18 (.slice A2 n2 cap2) (rs.map RC.cells)) := ⟨fun W' hb => hCR.step (fun _ h => h) (fun i c _ hc => hb.block i (blk_lt hc))⟩
  have HQ : Aside0 (∀ i u, ([.int .i64 kd, .string p, .string t, .int .i64 cl, .int .i64 ca, .int .i64 n6, .slice A6 l6.length c6, .int .i64 err, .int .i64 b0, .int .i64 b1, .int .i64 b2, .slice A4 names.length c4, .string path, .bool dir, .int .i64 quota, .slice A8 blocks.length c8, .int .i64 writer, .int .i64 n] : List Value)[i]? = some u → (w10.alloc (.cells #[.int .i64 kd, .string p, .string t, .int .i64 cl, .int .i64 ca, .int .i64 n6, .slice A6 l6.length c6, .int .i64 err, .int .i64 b0, .int .i64 b1, .int .i64 b2, .slice A4 names.length c4, .string path, .bool dir, .int .i64 quota, .slice A8 blocks.length c8, .int .i64 writer, .int .i64 n] 78)).cell? ⟨w10.heap.size, i, none⟩ = some u) := ⟨fun i u hu => (World.cell?_alloc_new w10 _ _ i).trans (by rw [← List.getElem?_toArray] at hu; exact hu)⟩
  have HONE : Aside0 (∀ u ∈ ([.int .i64 kd, .string p, .string t, .int .i64 cl, .int .i64 ca, .int .i64 n6, .slice A6 l6.length c6, .int .i64 err, .int .i64 b0, .int .i64 b1, .int .i64 b2, .slice A4 names.length c4, .string path, .bool dir, .int .i64 quota, .slice A8 blocks.length c8, .int .i64 writer, .int .i64 n] : List Value), u.oneCell' = true) := ⟨RC.one (⟨kd, p, t, cl, ca, n6, A6, c6, l6, ⟨err, b0, b1, b2, names, path, dir, quota, blocks, writer, n⟩, A4, c4, A8, c8⟩ : RC)⟩
  have HLN : Aside0 ((rs.map RC.cells).length ≤ 1000000) := ⟨by rw [List.length_map]; have := HRL.out; omega⟩
  have hszW := HGW.out.size
  have ORD : Aside0 (∀ (Wa w22 : World) (A3 : Option Addr) (n3 cap3 : Nat), Below w10.heap.size w10 Wa → w10.heap.size ≤ Wa.heap.size → Wa.grownBy w22 (Value.slice A2 n2 cap2).ownBlock → CR w22 (fun i => (D i ∨ W.heap.size ≤ i) ∨ i = Wa.heap.size) 78 18 (.slice A3 n3 cap3) (rs.map RC.cells ++ [([.int .i64 kd, .string p, .string t, .int .i64 cl, .int .i64 ca, .int .i64 n6, .slice A6 l6.length c6, .int .i64 err, .int .i64 b0, .int .i64 b1, .int .i64 b2, .slice A4 names.length c4, .string path, .bool dir, .int .i64 quota, .slice A8 blocks.length c8, .int .i64 writer, .int .i64 n] : List Value)]) →
      w22.cell? ⟨X, 0, none⟩ = some (.slice A2 n2 cap2) ∧ w22.frozen? ⟨X, 0, none⟩ = false ∧ Aside0 (RX (w22.setCell ⟨X, 0, none⟩ (.slice A3 n3 cap3)) X (fun i => D i ∨ W.heap.size ≤ i) (.slice A3 n3 cap3) (rs ++ [(⟨kd, p, t, cl, ca, n6, A6, c6, l6, ⟨err, b0, b1, b2, names, path, dir, quota, blocks, writer, n⟩, A4, c4, A8, c8⟩ : RC)])) ∧ Aside0 (Gr (fun i => D i ∨ W.heap.size ≤ i) w10 (w22.setCell ⟨X, 0, none⟩ (.slice A3 n3 cap3)))) := ⟨fun Wa w22 A3 n3 cap3 hb hsz hg hcr => by
    have G22 : Gr (fun i => some i = (Value.slice A2 n2 cap2).ownBlock) w10 w22 := (Gr.of_below (S := fun i => some i = (Value.slice A2 n2 cap2).ownBlock) hb).then_ (Gr.of_grown hg) (fun _ h => .inl h)
    have hXn : ¬ some X = (Value.slice A2 n2 cap2).ownBlock := by rw [← HSL.out]; exact HRX.out.own_ne yX (by decide)
    have hX22 := G22.block X (blk_lt yX) hXn
    refine ⟨(blk_cell (hX22.trans yX) 0).trans (by rw [← HSL.out]; rfl), blk_frozen (hX22.trans yX) 0, ⟨HRX.out.store hX22 (fun _ h => h) ?_⟩, ⟨(G22.mono (S' := fun i => D i ∨ W.heap.size ≤ i) (fun i hi => by rw [← HSL.out] at hi; exact .inl (HRX.out.row.own_typed hi).1)).set _ (.inl HRX.out.hX)⟩⟩
    rw [List.map_append]
    refine hcr.step (fun i hi => ?_) (fun _ _ _ _ => rfl)
    rcases hi with hi | hi
    · exact hi
    · exact .inr (by rw [hi]; exact Nat.le_trans hszW hsz)⟩
  have hXlt := World.block_lt_of_cell? w10 _ yo
  have h8lt := blk_lt p8
  have h9lt := blk_lt p9
  have hbd := fun W' => build78 W' (.int .i64 kd) (.string p) (.string t) (.int .i64 cl) (.int .i64 ca) (.int .i64 n6) (.slice A6 l6.length c6) (.int .i64 err) (.int .i64 b0) (.int .i64 b1) (.int .i64 b2) (.slice A4 names.length c4) (.string path) (.bool dir) (.int .i64 quota) (.slice A8 blocks.length c8) (.int .i64 writer) (.int .i64 n)
  have q8_0 : w10.cell? ⟨g8, 0, none⟩ = some (.int .i64 kd) := (blk_cell p8 0).trans rfl
  have q8_1 : w10.cell? ⟨g8, 1, none⟩ = some (.string p) := (blk_cell p8 1).trans rfl
  have q8_2 : w10.cell? ⟨g8, 2, none⟩ = some (.string t) := (blk_cell p8 2).trans rfl
  have q8_3 : w10.cell? ⟨g8, 3, none⟩ = some (.int .i64 cl) := (blk_cell p8 3).trans rfl
  have q8_4 : w10.cell? ⟨g8, 4, none⟩ = some (.int .i64 ca) := (blk_cell p8 4).trans rfl
  have q8_5 : w10.cell? ⟨g8, 5, none⟩ = some (.int .i64 n6) := (blk_cell p8 5).trans rfl
  have q8_6 : w10.cell? ⟨g8, 6, none⟩ = some (.slice A6 l6.length c6) := (blk_cell p8 6).trans rfl
  have q9_0 : w10.cell? ⟨g9, 0, none⟩ = some (.int .i64 err) := (blk_cell p9 0).trans rfl
  have q9_1 : w10.cell? ⟨g9, 1, none⟩ = some (.int .i64 b0) := (blk_cell p9 1).trans rfl
  have q9_2 : w10.cell? ⟨g9, 2, none⟩ = some (.int .i64 b1) := (blk_cell p9 2).trans rfl
  have q9_3 : w10.cell? ⟨g9, 3, none⟩ = some (.int .i64 b2) := (blk_cell p9 3).trans rfl
  have q9_4 : w10.cell? ⟨g9, 4, none⟩ = some (.slice A4 names.length c4) := (blk_cell p9 4).trans rfl
  have q9_5 : w10.cell? ⟨g9, 5, none⟩ = some (.string path) := (blk_cell p9 5).trans rfl
  have q9_6 : w10.cell? ⟨g9, 6, none⟩ = some (.bool dir) := (blk_cell p9 6).trans rfl
  have q9_7 : w10.cell? ⟨g9, 7, none⟩ = some (.int .i64 quota) := (blk_cell p9 7).trans rfl
  have q9_8 : w10.cell? ⟨g9, 8, none⟩ = some (.slice A8 blocks.length c8) := (blk_cell p9 8).trans rfl
  have q9_9 : w10.cell? ⟨g9, 9, none⟩ = some (.int .i64 writer) := (blk_cell p9 9).trans rfl
  have q9_10 : w10.cell? ⟨g9, 10, none⟩ = some (.int .i64 n) := (blk_cell p9 10).trans rfl
  have HRXX := HRX
  have HGWW := HGW
  clear hCR hsl2 hn2 yX HRX HGW
  go_upto_region 12 with (fail)
  go_cut [10] (fun v10 we => v10 = .int .i64 0 ∧ ∃ A3 n3 cap3, Aside0 (RX we X (fun i => D i ∨ W.heap.size ≤ i) (.slice A3 n3 cap3) (rs ++ [(⟨kd, p, t, cl, ca, n6, A6, c6, l6, ⟨err, b0, b1, b2, names, path, dir, quota, blocks, writer, n⟩, A4, c4, A8, c8⟩ : RC)])) ∧ Aside0 (Gr (fun i => D i ∨ W.heap.size ≤ i) w10 we))
  case first =>
    go_region_law (refine step_cr_one rfl (.tmp 73) (.tmp 77) rfl rfl (CRF.out _ (by repeat (first | exact Below.refl _ _ | apply below_alloc | apply below_drew))) rfl ([.int .i64 kd, .string p, .string t, .int .i64 cl, .int .i64 ca, .int .i64 n6, .slice A6 l6.length c6, .int .i64 err, .int .i64 b0, .int .i64 b1, .int .i64 b2, .slice A4 names.length c4, .string path, .bool dir, .int .i64 quota, .slice A8 blocks.length c8, .int .i64 writer, .int .i64 n] : List Value) rfl HONE.out HQ.out HLN.out ?_; intro A3 n3 cap3 w22 hn3 hcr hgr; obtain ⟨z5, z6, HS22, HG22⟩ := ORD.out _ _ _ _ _ (by repeat (first | exact Below.refl _ _ | apply below_alloc | apply below_drew)) (by show w10.heap.size ≤ (World.alloc _ _).heap.size; rw [World.size_alloc]; exact Nat.le_succ _) hgr hcr; clear hcr hgr hn3)
    all_goals
      go_wp2
      go_meet
      case rel => exact ⟨rfl, _, _, _, HS22, HG22⟩
  case rest =>
    obtain ⟨rfl, A3, n3, cap3, HSE, HGE⟩ := hcut
    have HGF : Aside0 (Gr D W wc) := ⟨HGWW.out.then_ HGE.out (fun i hi => hi)⟩
    have hn3 : n3 = rs.length + 1 := by
      obtain ⟨A_, c_, e_⟩ := HSE.out.row.shape
      injection e_ with _ e_ _
      rw [e_, List.length_map, List.length_append]
      rfl
    have HN3 := Aside0.mk hn3
    have zB := HSE.out.at_
    have zo : wc.cell? ⟨X, 0, none⟩ = some (.slice A3 n3 cap3) := (blk_cell zB 0).trans rfl
    have fo : wc.frozen? ⟨X, 0, none⟩ = false := blk_frozen zB 0
    have HZB := Aside0.mk zB
    clear hn3 zB
    have hb20 : ¬ ((20 : Int) < (n3 : Int)) := by have := HN3.out; have := hs.out; omega
    go_wp2
    go_ret
    exact ⟨rfl, ⟨_, HSE.out⟩, HGF.out⟩
set_option maxHeartbeats 1600000 in
set_option maxRecDepth 100000 in
theorem rput_cut (h : RX W X D sl rs) (hl : rs.length ≤ 20) (kd : Int) (p t : ByteArray) (cl ca n6 : Int) (A6 : Option Addr) (c6 : Nat) (l6 : List Int) (err b0 b1 b2 : Int) (names : List ByteArray) (path : ByteArray) (dir : Bool) (quota : Int) (blocks : List S32) (writer n : Int) (A4 : Option Addr) (c4 : Nat) (A8 : Option Addr) (c8 : Nat) (hb : Nat) (hrt : tabulariumref10_Right.f hb kd p t cl ca n6 l6 = some true) (hr : Kd.C (Kd.int .i64) W A6 l6.length l6) (hc : l6.length ≤ c6) (hi : idxOf (fun k => k == (cl, ca)) (rs.map RC.key) = -1) (hs : rs.length = 20) :
    Calls Try.prog 15 #[.pointer (some ⟨X, 0, none⟩), .int .i64 cl, .int .i64 ca, .agg #[.int .i64 kd, .string p, .string t, .int .i64 cl, .int .i64 ca, .int .i64 n6, .slice A6 l6.length c6], .agg #[.int .i64 err, .int .i64 b0, .int .i64 b1, .int .i64 b2, .slice A4 names.length c4, .string path, .bool dir, .int .i64 quota, .slice A8 blocks.length c8, .int .i64 writer, .int .i64 n]] W fun e w' => e = .returned (.int .i64 0) ∧ (∃ sl', RX w' X (fun i => D i ∨ W.heap.size ≤ i) sl' ((rs ++ [(⟨kd, p, t, cl, ca, n6, A6, c6, l6, ⟨err, b0, b1, b2, names, path, dir, quota, blocks, writer, n⟩, A4, c4, A8, c8⟩ : RC)]).drop 1)) ∧ Gr D W w' := by
  have hu28 := Try.underlying28
  have hu32 := Try.underlying32
  have hu36 := Try.underlying36
  have hu38 := Try.underlying38
  have hu51 := Try.underlying51
  have hu78 := Try.underlying78
  replace hl := Aside0.mk hl
  have hX := Aside0.mk h
  clear h
  replace hrt := Aside0.mk hrt
  replace hr := Aside0.mk hr
  replace hc := Aside0.mk hc
  have f1 : (cl != cl) = false := by simp
  have f2 : (ca != ca) = false := by simp
  have hX_ := Aside0.mk hX.out.hX
  replace hs := Aside0.mk hs
  replace hi := Aside0.mk hi
  go_enter Try.func15, Try.ntmps15
  go_upto_region 5 with (first | ((with_reducible refine gate_dst (N := 8) rfl ?_); refine box_event ?hg8 (N := 8) ?hd8 (cs := #[.int .i64 kd, .string p, .string t, .int .i64 cl, .int .i64 ca, .int .i64 n6, .slice A6 l6.length c6]) (t := 28) ?hr8 ?_; (case hd8 => rfl); (case hg8 => rfl); (case hr8 => first | (go_simp; done) | (go_simp; rfl)); intro g8 hg8 w8 hbox8 hb8; have G8 := Aside0.mk hg8; clear hg8) | ((with_reducible refine gate_dst (N := 9) rfl ?_); refine box_event ?hg9 (N := 9) ?hd9 (cs := #[.int .i64 err, .int .i64 b0, .int .i64 b1, .int .i64 b2, .slice A4 names.length c4, .string path, .bool dir, .int .i64 quota, .slice A8 blocks.length c8, .int .i64 writer, .int .i64 n]) (t := 38) ?hr9 ?_; (case hd9 => rfl); (case hg9 => rfl); (case hr9 => first | (go_simp; done) | (go_simp; rfl)); intro g9 hg9 w9 hbox9 hb9; have G9 := Aside0.mk hg9; clear hg9; have q8 := (hb9.block g8 (blk_lt hbox8)).trans hbox8) | ((with_reducible refine gate_ (.load 28 (.tmp 8)) rfl ?_); refine wpList_load_all rfl 28 (.tmp 8) rfl (g := g8) (off := 0) rfl [.int .i64 kd, .string p, .string t, .int .i64 cl, .int .i64 ca, .int .i64 n6, .slice A6 l6.length c6] q8 agg28 size28 rfl ?_) | (go_at_call 27; refine (tabulariumref10_Right.calls hb kd p t cl ca n6 A6 c6 l6 _ _ (Kd.C_below (Kd.C_below hr.out hb8) hb9) hc.out hrt.out).mono ?_; rintro e_ w10 ⟨rfl, hb10⟩; have p8 := (hb10.block g8 (blk_lt q8)).trans q8; have p9 := (hb10.block g9 (blk_lt hbox9)).trans hbox9; have xc := (blk_cell p8 3).trans (rfl : _ = some (Value.int .i64 cl)); have xm := (blk_cell p8 4).trans (rfl : _ = some (Value.int .i64 ca))) | (go_at_call 28; have hS := ((hX.out.below hb8).below hb9).below hb10; refine (at_calls hS (Nat.le_trans (hl.out) (by decide : 20 ≤ 1000000)) cl ca).mono ?_; rw [hi.out]; rintro e_ w11 ⟨rfl, hw11⟩; obtain rfl : w10 = w11 := hw11.symm))
  have B10 := below_step (below_step hb8 hb9) hb10
  have HRX : Aside0 (RX w10 X (fun i => D i ∨ W.heap.size ≤ i) sl rs) := ⟨hS.hX |> .inl, hS.at_, hS.row.step (fun _ h => .inl h) (fun _ _ _ _ => rfl)⟩
  have HGW : Aside0 (Gr D W w10) := ⟨Gr.of_below B10⟩
  have HRL := hl
  clear hX hS
  obtain ⟨A2, n2, cap2, hsl2, hn2⟩ : ∃ A2 n2 cap2, sl = .slice A2 n2 cap2 ∧ n2 = rs.length := by obtain ⟨A1, c_, e_⟩ := HRX.out.row.shape; exact ⟨A1, _, c_, e_, List.length_map _⟩
  have HN2 := Aside0.mk hn2
  have HSL := Aside0.mk hsl2
  have yX := HRX.out.at_
  have yo : w10.cell? ⟨X, 0, none⟩ = some (.slice A2 n2 cap2) := by rw [← HSL.out]; exact (blk_cell yX 0).trans rfl
  have hCR := HRX.out.row
  rw [hsl2] at hCR
  have CRF : Aside0 (∀ W', Below w10.heap.size w10 W' → CR W' (fun i => D i ∨ W.heap.size ≤ i) 78 18 (.slice A2 n2 cap2) (rs.map RC.cells)) := ⟨fun W' hb => hCR.step (fun _ h => h) (fun i c _ hc => hb.block i (blk_lt hc))⟩
  have HQ : Aside0 (∀ i u, ([.int .i64 kd, .string p, .string t, .int .i64 cl, .int .i64 ca, .int .i64 n6, .slice A6 l6.length c6, .int .i64 err, .int .i64 b0, .int .i64 b1, .int .i64 b2, .slice A4 names.length c4, .string path, .bool dir, .int .i64 quota, .slice A8 blocks.length c8, .int .i64 writer, .int .i64 n] : List Value)[i]? = some u → (w10.alloc (.cells #[.int .i64 kd, .string p, .string t, .int .i64 cl, .int .i64 ca, .int .i64 n6, .slice A6 l6.length c6, .int .i64 err, .int .i64 b0, .int .i64 b1, .int .i64 b2, .slice A4 names.length c4, .string path, .bool dir, .int .i64 quota, .slice A8 blocks.length c8, .int .i64 writer, .int .i64 n] 78)).cell? ⟨w10.heap.size, i, none⟩ = some u) := ⟨fun i u hu => (World.cell?_alloc_new w10 _ _ i).trans (by rw [← List.getElem?_toArray] at hu; exact hu)⟩
  have HONE : Aside0 (∀ u ∈ ([.int .i64 kd, .string p, .string t, .int .i64 cl, .int .i64 ca, .int .i64 n6, .slice A6 l6.length c6, .int .i64 err, .int .i64 b0, .int .i64 b1, .int .i64 b2, .slice A4 names.length c4, .string path, .bool dir, .int .i64 quota, .slice A8 blocks.length c8, .int .i64 writer, .int .i64 n] : List Value), u.oneCell' = true) := ⟨RC.one (⟨kd, p, t, cl, ca, n6, A6, c6, l6, ⟨err, b0, b1, b2, names, path, dir, quota, blocks, writer, n⟩, A4, c4, A8, c8⟩ : RC)⟩
  have HLN : Aside0 ((rs.map RC.cells).length ≤ 1000000) := ⟨by rw [List.length_map]; have := HRL.out; omega⟩
  have hszW := HGW.out.size
  have ORD : Aside0 (∀ (Wa w22 : World) (A3 : Option Addr) (n3 cap3 : Nat), Below w10.heap.size w10 Wa → w10.heap.size ≤ Wa.heap.size → Wa.grownBy w22 (Value.slice A2 n2 cap2).ownBlock → CR w22 (fun i => (D i ∨ W.heap.size ≤ i) ∨ i = Wa.heap.size) 78 18 (.slice A3 n3 cap3) (rs.map RC.cells ++ [([.int .i64 kd, .string p, .string t, .int .i64 cl, .int .i64 ca, .int .i64 n6, .slice A6 l6.length c6, .int .i64 err, .int .i64 b0, .int .i64 b1, .int .i64 b2, .slice A4 names.length c4, .string path, .bool dir, .int .i64 quota, .slice A8 blocks.length c8, .int .i64 writer, .int .i64 n] : List Value)]) →
      w22.cell? ⟨X, 0, none⟩ = some (.slice A2 n2 cap2) ∧ w22.frozen? ⟨X, 0, none⟩ = false ∧ Aside0 (RX (w22.setCell ⟨X, 0, none⟩ (.slice A3 n3 cap3)) X (fun i => D i ∨ W.heap.size ≤ i) (.slice A3 n3 cap3) (rs ++ [(⟨kd, p, t, cl, ca, n6, A6, c6, l6, ⟨err, b0, b1, b2, names, path, dir, quota, blocks, writer, n⟩, A4, c4, A8, c8⟩ : RC)])) ∧ Aside0 (Gr (fun i => D i ∨ W.heap.size ≤ i) w10 (w22.setCell ⟨X, 0, none⟩ (.slice A3 n3 cap3)))) := ⟨fun Wa w22 A3 n3 cap3 hb hsz hg hcr => by
    have G22 : Gr (fun i => some i = (Value.slice A2 n2 cap2).ownBlock) w10 w22 := (Gr.of_below (S := fun i => some i = (Value.slice A2 n2 cap2).ownBlock) hb).then_ (Gr.of_grown hg) (fun _ h => .inl h)
    have hXn : ¬ some X = (Value.slice A2 n2 cap2).ownBlock := by rw [← HSL.out]; exact HRX.out.own_ne yX (by decide)
    have hX22 := G22.block X (blk_lt yX) hXn
    refine ⟨(blk_cell (hX22.trans yX) 0).trans (by rw [← HSL.out]; rfl), blk_frozen (hX22.trans yX) 0, ⟨HRX.out.store hX22 (fun _ h => h) ?_⟩, ⟨(G22.mono (S' := fun i => D i ∨ W.heap.size ≤ i) (fun i hi => by rw [← HSL.out] at hi; exact .inl (HRX.out.row.own_typed hi).1)).set _ (.inl HRX.out.hX)⟩⟩
    rw [List.map_append]
    refine hcr.step (fun i hi => ?_) (fun _ _ _ _ => rfl)
    rcases hi with hi | hi
    · exact hi
    · exact .inr (by rw [hi]; exact Nat.le_trans hszW hsz)⟩
  have hXlt := World.block_lt_of_cell? w10 _ yo
  have h8lt := blk_lt p8
  have h9lt := blk_lt p9
  have hbd := fun W' => build78 W' (.int .i64 kd) (.string p) (.string t) (.int .i64 cl) (.int .i64 ca) (.int .i64 n6) (.slice A6 l6.length c6) (.int .i64 err) (.int .i64 b0) (.int .i64 b1) (.int .i64 b2) (.slice A4 names.length c4) (.string path) (.bool dir) (.int .i64 quota) (.slice A8 blocks.length c8) (.int .i64 writer) (.int .i64 n)
  have q8_0 : w10.cell? ⟨g8, 0, none⟩ = some (.int .i64 kd) := (blk_cell p8 0).trans rfl
  have q8_1 : w10.cell? ⟨g8, 1, none⟩ = some (.string p) := (blk_cell p8 1).trans rfl
  have q8_2 : w10.cell? ⟨g8, 2, none⟩ = some (.string t) := (blk_cell p8 2).trans rfl
  have q8_3 : w10.cell? ⟨g8, 3, none⟩ = some (.int .i64 cl) := (blk_cell p8 3).trans rfl
  have q8_4 : w10.cell? ⟨g8, 4, none⟩ = some (.int .i64 ca) := (blk_cell p8 4).trans rfl
  have q8_5 : w10.cell? ⟨g8, 5, none⟩ = some (.int .i64 n6) := (blk_cell p8 5).trans rfl
  have q8_6 : w10.cell? ⟨g8, 6, none⟩ = some (.slice A6 l6.length c6) := (blk_cell p8 6).trans rfl
  have q9_0 : w10.cell? ⟨g9, 0, none⟩ = some (.int .i64 err) := (blk_cell p9 0).trans rfl
  have q9_1 : w10.cell? ⟨g9, 1, none⟩ = some (.int .i64 b0) := (blk_cell p9 1).trans rfl
  have q9_2 : w10.cell? ⟨g9, 2, none⟩ = some (.int .i64 b1) := (blk_cell p9 2).trans rfl
  have q9_3 : w10.cell? ⟨g9, 3, none⟩ = some (.int .i64 b2) := (blk_cell p9 3).trans rfl
  have q9_4 : w10.cell? ⟨g9, 4, none⟩ = some (.slice A4 names.length c4) := (blk_cell p9 4).trans rfl
  have q9_5 : w10.cell? ⟨g9, 5, none⟩ = some (.string path) := (blk_cell p9 5).trans rfl
  have q9_6 : w10.cell? ⟨g9, 6, none⟩ = some (.bool dir) := (blk_cell p9 6).trans rfl
  have q9_7 : w10.cell? ⟨g9, 7, none⟩ = some (.int .i64 quota) := (blk_cell p9 7).trans rfl
  have q9_8 : w10.cell? ⟨g9, 8, none⟩ = some (.slice A8 blocks.length c8) := (blk_cell p9 8).trans rfl
  have q9_9 : w10.cell? ⟨g9, 9, none⟩ = some (.int .i64 writer) := (blk_cell p9 9).trans rfl
  have q9_10 : w10.cell? ⟨g9, 10, none⟩ = some (.int .i64 n) := (blk_cell p9 10).trans rfl
  have HRXX := HRX
  have HGWW := HGW
  clear hCR hsl2 hn2 yX HRX HGW
  go_upto_region 12 with (fail)
  go_cut [10] (fun v10 we => v10 = .int .i64 0 ∧ ∃ A3 n3 cap3, Aside0 (RX we X (fun i => D i ∨ W.heap.size ≤ i) (.slice A3 n3 cap3) (rs ++ [(⟨kd, p, t, cl, ca, n6, A6, c6, l6, ⟨err, b0, b1, b2, names, path, dir, quota, blocks, writer, n⟩, A4, c4, A8, c8⟩ : RC)])) ∧ Aside0 (Gr (fun i => D i ∨ W.heap.size ≤ i) w10 we))
  case first =>
    go_region_law (refine step_cr_one rfl (.tmp 73) (.tmp 77) rfl rfl (CRF.out _ (by repeat (first | exact Below.refl _ _ | apply below_alloc | apply below_drew))) rfl ([.int .i64 kd, .string p, .string t, .int .i64 cl, .int .i64 ca, .int .i64 n6, .slice A6 l6.length c6, .int .i64 err, .int .i64 b0, .int .i64 b1, .int .i64 b2, .slice A4 names.length c4, .string path, .bool dir, .int .i64 quota, .slice A8 blocks.length c8, .int .i64 writer, .int .i64 n] : List Value) rfl HONE.out HQ.out HLN.out ?_; intro A3 n3 cap3 w22 hn3 hcr hgr; obtain ⟨z5, z6, HS22, HG22⟩ := ORD.out _ _ _ _ _ (by repeat (first | exact Below.refl _ _ | apply below_alloc | apply below_drew)) (by show w10.heap.size ≤ (World.alloc _ _).heap.size; rw [World.size_alloc]; exact Nat.le_succ _) hgr hcr; clear hcr hgr hn3)
    all_goals
      go_wp2
      go_meet
      case rel => exact ⟨rfl, _, _, _, HS22, HG22⟩
  case rest =>
    obtain ⟨rfl, A3, n3, cap3, HSE, HGE⟩ := hcut
    have HGF : Aside0 (Gr D W wc) := ⟨HGWW.out.then_ HGE.out (fun i hi => hi)⟩
    have hn3 : n3 = rs.length + 1 := by
      obtain ⟨A_, c_, e_⟩ := HSE.out.row.shape
      injection e_ with _ e_ _
      rw [e_, List.length_map, List.length_append]
      rfl
    have HN3 := Aside0.mk hn3
    have zB := HSE.out.at_
    have zo : wc.cell? ⟨X, 0, none⟩ = some (.slice A3 n3 cap3) := (blk_cell zB 0).trans rfl
    have fo : wc.frozen? ⟨X, 0, none⟩ = false := blk_frozen zB 0
    have HZB := Aside0.mk zB
    clear hn3 zB
    have hb20 : (20 : Int) < (n3 : Int) := by have := HN3.out; have := hs.out; omega
    obtain ⟨r0, rs3, rfl⟩ : ∃ r0 rs3, rs = r0 :: rs3 := by
      cases rs with
      | nil => have := hs.out; simp at this
      | cons a l => exact ⟨a, l, rfl⟩
    obtain ⟨g, off, cells, rfl, hDg, hCB⟩ : ∃ g off cells, A3 = some ⟨g, off, none⟩ ∧ (D g ∨ W.heap.size ≤ g) ∧ CB wc 78 18 g off cap3 ((r0 :: rs3 ++ [(⟨kd, p, t, cl, ca, n6, A6, c6, l6, ⟨err, b0, b1, b2, names, path, dir, quota, blocks, writer, n⟩, A4, c4, A8, c8⟩ : RC)]).map RC.cells) cells := by
      rcases HSE.out.row with ⟨h1, _⟩ | ⟨g, off, cap, cells, h1, h2, h3⟩
      · injection h1 with _ h1 _; rw [h1] at hb20; exact absurd hb20 (by decide)
      · injection h1 with h1 h4 h5
        subst h5
        exact ⟨g, off, cells, h1, h2, h3⟩
    have hn3 : n3 = ((r0 :: rs3 ++ [(⟨kd, p, t, cl, ca, n6, A6, c6, l6, ⟨err, b0, b1, b2, names, path, dir, quota, blocks, writer, n⟩, A4, c4, A8, c8⟩ : RC)]).map RC.cells).length := by rw [HN3.out, List.length_map, List.length_append]; rfl
    have hcap := hCB.le
    rw [← hn3] at hcap
    have hle1 : (1 : Int) ≤ (n3 : Int) := by omega
    have hle2 : (n3 : Int) ≤ (cap3 : Int) := by omega
    have hle3 : (1 : Int) ≤ (cap3 : Int) := by omega
    have hpos : (0 : Int) < (n3 : Int) := by omega
    have hposN : 0 < n3 := by omega
    have hpos1 : 1 ≤ n3 := by omega
    have hcp1 : 1 ≤ cap3 := by omega
    have hc1 : ¬ (cap3 = 1) := by omega
    have hc1' : ¬ ((cap3 : Int) = 1) := by omega
    have hDR := hCB.drop (i := 1) (by rw [← hn3]; exact hpos1)
    have HDR : Aside0 (CR wc (fun i => D i ∨ W.heap.size ≤ i) 78 18 (.slice (some ⟨g, off + 18, none⟩) (n3 - 1) (cap3 - 1)) ((rs3 ++ [(⟨kd, p, t, cl, ca, n6, A6, c6, l6, ⟨err, b0, b1, b2, names, path, dir, quota, blocks, writer, n⟩, A4, c4, A8, c8⟩ : RC)]).map RC.cells)) := ⟨.inr ⟨g, off + 18, cap3 - 1, cells, by rw [hn3]; rfl, hDg, by simpa using hDR⟩⟩
    have HXS := Aside0.mk (HSE.out.store (W' := wc) (D' := fun i => D i ∨ W.heap.size ≤ i) rfl (fun _ h => h) HDR.out)
    have HGS : Aside0 (Gr D W (wc.setCell ⟨X, 0, none⟩ (.slice (some ⟨g, off + 18, none⟩) (n3 - 1) (cap3 - 1)))) := ⟨HGF.out.set _ (.inl hX_.out)⟩
    clear hn3 hDR hCB hcap
    go_wp2
    go_ret
    exact ⟨rfl, ⟨_, HXS.out⟩, HGS.out⟩
end Go.Proofs.Ytjailboidlmadaa.P
end
