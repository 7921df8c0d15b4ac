/- The reference's Put. -/
import Derived.Test.YtjailboidlmadaaRF
import Derived.Test.YtjailboidlmadaaPx12
import Derived.Test.YtjailboidlmadaaPx10
section

namespace Go.Proofs.Ytjailboidlmadaa.P
open Go.RowKit Go.Maps Go.WideMaps Go.Proofs.YtjailboidlmadaaW.PrintWords Go.Proofs.YtjailboidlmadaaW.PrintLast Go.Proofs.YtjailboidlmadaaW.PrintMore
attribute [local go_sem] max2_int min2_int max_two min_two max_three min_three max_four min_four
set_option linter.unusedVariables false
set_option linter.unusedSimpArgs false
variable {W : World} {X : Nat} {D : Nat → Prop} {sl : Value} {rs : List RC}
set_option maxHeartbeats 1600000 in
set_option maxRecDepth 100000 in
theorem rput_hit (h : RX W X D sl rs) (hl : rs.length ≤ 20) (kd : Int) (p t : ByteArray) (cl ca n6 : Int) (A6 : Option Addr) (c6 : Nat) (l6 : List Int) (err b0 b1 b2 : Int) (names : List ByteArray) (path : ByteArray) (dir : Bool) (quota : Int) (blocks : List S32) (writer n : Int) (A4 : Option Addr) (c4 : Nat) (A8 : Option Addr) (c8 : Nat) (hb : Nat) (hrt : tabulariumref10_Right.f hb kd p t cl ca n6 l6 = some true) (hr : Kd.C (Kd.int .i64) W A6 l6.length l6) (hc : l6.length ≤ c6) (i : Nat) (hi : idxOf (fun k => k == (cl, ca)) (rs.map RC.key) = (i : Int)) (a0_0 : Int) (a0_1 : ByteArray) (a0_2 : ByteArray) (a0_3 : Int) (a0_4 : Int) (a0_5 : Int) (A0_6 : Option Addr) (c0_6 : Nat) (l0_6 : List Int) (ha : Ans) (B4 : Option Addr) (d4 : Nat) (B8 : Option Addr) (d8 : Nat) (hri : rs[i]? = some (⟨a0_0, a0_1, a0_2, a0_3, a0_4, a0_5, A0_6, c0_6, l0_6, ha, B4, d4, B8, d8⟩ : RC)) (hk : Nat) (same : Bool) (hsm : tabulariumref10_Same.f hk a0_0 a0_1 a0_2 a0_3 a0_4 a0_5 l0_6 kd p t cl ca n6 l6 = some same) (hr6 : Kd.C (Kd.int .i64) W A0_6 l0_6.length l0_6) (hc6 : l0_6.length ≤ c0_6) (hf : same = true) :
    Calls Try.prog 15 #[.pointer (some ⟨X, 0, none⟩), .int .i64 cl, .int .i64 ca, .agg #[.int .i64 kd, .string p, .string t, .int .i64 cl, .int .i64 ca, .int .i64 n6, .slice A6 l6.length c6], .agg #[.int .i64 err, .int .i64 b0, .int .i64 b1, .int .i64 b2, .slice A4 names.length c4, .string path, .bool dir, .int .i64 quota, .slice A8 blocks.length c8, .int .i64 writer, .int .i64 n]] W fun e w' => e = .returned (.int .i64 0) ∧ (∃ sl', RX w' X (fun i => D i ∨ W.heap.size ≤ i) sl' ((rs.take i ++ rs.drop (i + 1)) ++ [(⟨kd, p, t, cl, ca, n6, A6, c6, l6, ⟨err, b0, b1, b2, names, path, dir, quota, blocks, writer, n⟩, A4, c4, A8, c8⟩ : RC)])) ∧ Gr D W w' := by
  have hu28 := Try.underlying28
  have hu32 := Try.underlying32
  have hu36 := Try.underlying36
  have hu38 := Try.underlying38
  have hu51 := Try.underlying51
  have hu78 := Try.underlying78
  replace hl := Aside0.mk hl
  have hX := Aside0.mk h
  clear h
  replace hrt := Aside0.mk hrt
  replace hr := Aside0.mk hr
  replace hc := Aside0.mk hc
  have f1 : (cl != cl) = false := by simp
  have f2 : (ca != ca) = false := by simp
  have hX_ := Aside0.mk hX.out.hX
  subst hf
  obtain ⟨sl_, hsl⟩ : ∃ s_, s_ = sl := ⟨_, rfl⟩
  have hil : i < rs.length := (List.getElem?_eq_some_iff.1 hri).1
  obtain ⟨g, off, cap, cells, rfl, hDg, hCB⟩ : ∃ g off cap cells, sl = .slice (some ⟨g, off, none⟩) rs.length cap ∧ D g ∧ CB W 78 18 g off cap (rs.map RC.cells) cells := by
    rcases hX.out.row with ⟨_, h2⟩ | ⟨g, off, cap, cells, h1, h2, h3⟩
    · rw [List.map_eq_nil_iff] at h2
      rw [h2] at hil
      exact absurd hil (Nat.not_lt_zero _)
    · rw [List.length_map] at h1
      exact ⟨g, off, cap, cells, h1, h2, h3⟩
  clear hsl sl_
  obtain ⟨k, hk_⟩ : ∃ k, k = rs.length := ⟨_, rfl⟩
  rw [← hk_] at hX
  have hkc : k ≤ cap := by have := hCB.le; rw [List.length_map] at this; omega
  have hik : i < k := by omega
  have hiz : (i : Int) < (k : Int) := by omega
  have hi0 : (0 : Int) ≤ (i : Int) := by omega
  have hin : ¬ ((i : Int) < 0) := by omega
  have hXat := hX.out.at_
  have hgl := hCB.lt
  have v0 := hCB.cell (rmap_at hri) (j := 0) (u := .int .i64 a0_0) rfl
  have v1 := hCB.cell (rmap_at hri) (j := 1) (u := .string a0_1) rfl
  have v2 := hCB.cell (rmap_at hri) (j := 2) (u := .string a0_2) rfl
  have v3 := hCB.cell (rmap_at hri) (j := 3) (u := .int .i64 a0_3) rfl
  have v4 := hCB.cell (rmap_at hri) (j := 4) (u := .int .i64 a0_4) rfl
  have v5 := hCB.cell (rmap_at hri) (j := 5) (u := .int .i64 a0_5) rfl
  have v6 := hCB.cell (rmap_at hri) (j := 6) (u := .slice A0_6 l0_6.length c0_6) rfl
  replace hi := Aside0.mk hi
  replace hsm := Aside0.mk hsm
  replace hr6 := Aside0.mk hr6
  replace hc6 := Aside0.mk hc6
  have HK := Aside0.mk hk_
  have HCB := Aside0.mk hCB
  clear hri hil hCB hk_
  go_enter Try.func15, Try.ntmps15
  go_upto_region 6 with (first | ((with_reducible refine gate_dst (N := 8) rfl ?_); refine box_event ?hg8 (N := 8) ?hd8 (cs := #[.int .i64 kd, .string p, .string t, .int .i64 cl, .int .i64 ca, .int .i64 n6, .slice A6 l6.length c6]) (t := 28) ?hr8 ?_; (case hd8 => rfl); (case hg8 => rfl); (case hr8 => first | (go_simp; done) | (go_simp; rfl)); intro g8 hg8 w8 hbox8 hb8; have G8 := Aside0.mk hg8; clear hg8) | ((with_reducible refine gate_dst (N := 9) rfl ?_); refine box_event ?hg9 (N := 9) ?hd9 (cs := #[.int .i64 err, .int .i64 b0, .int .i64 b1, .int .i64 b2, .slice A4 names.length c4, .string path, .bool dir, .int .i64 quota, .slice A8 blocks.length c8, .int .i64 writer, .int .i64 n]) (t := 38) ?hr9 ?_; (case hd9 => rfl); (case hg9 => rfl); (case hr9 => first | (go_simp; done) | (go_simp; rfl)); intro g9 hg9 w9 hbox9 hb9; have G9 := Aside0.mk hg9; clear hg9; have q8 := (hb9.block g8 (blk_lt hbox8)).trans hbox8) | ((with_reducible refine gate_ (.load 28 (.tmp 8)) rfl ?_); refine wpList_load_all rfl 28 (.tmp 8) rfl (g := g8) (off := 0) rfl [.int .i64 kd, .string p, .string t, .int .i64 cl, .int .i64 ca, .int .i64 n6, .slice A6 l6.length c6] q8 agg28 size28 rfl ?_) | (go_at_call 27; refine (tabulariumref10_Right.calls hb kd p t cl ca n6 A6 c6 l6 _ _ (Kd.C_below (Kd.C_below hr.out hb8) hb9) hc.out hrt.out).mono ?_; rintro e_ w10 ⟨rfl, hb10⟩; have p8 := (hb10.block g8 (blk_lt q8)).trans q8; have p9 := (hb10.block g9 (blk_lt hbox9)).trans hbox9; have xc := (blk_cell p8 3).trans (rfl : _ = some (Value.int .i64 cl)); have xm := (blk_cell p8 4).trans (rfl : _ = some (Value.int .i64 ca))) | (go_at_call 28; have hS := ((hX.out.below hb8).below hb9).below hb10; refine (at_calls hS (Nat.le_trans (HK.out ▸ hl.out) (by decide : 20 ≤ 1000000)) cl ca).mono ?_; rw [hi.out]; rintro e_ w11 ⟨rfl, hw11⟩; obtain rfl : w10 = w11 := hw11.symm))
  have B10 := below_step (below_step hb8 hb9) hb10
  have hXl := blk_lt hXat
  have HS6 : Aside0 (∀ W', Below w10.heap.size w10 W' → W'.cell? ⟨X, 0, none⟩ = some (.slice (some ⟨g, off, none⟩) k cap) ∧ W'.cell? ⟨g, off + i * 18, none⟩ = some (.int .i64 a0_0) ∧ W'.cell? ⟨g, off + i * 18 + 1, none⟩ = some (.string a0_1) ∧ W'.cell? ⟨g, off + i * 18 + 2, none⟩ = some (.string a0_2) ∧ W'.cell? ⟨g, off + i * 18 + 3, none⟩ = some (.int .i64 a0_3) ∧ W'.cell? ⟨g, off + i * 18 + 4, none⟩ = some (.int .i64 a0_4) ∧ W'.cell? ⟨g, off + i * 18 + 5, none⟩ = some (.int .i64 a0_5) ∧ W'.cell? ⟨g, off + i * 18 + 6, none⟩ = some (.slice A0_6 l0_6.length c0_6) ∧ W'.cell? ⟨g8, 0, none⟩ = some (.int .i64 kd) ∧ W'.cell? ⟨g8, 1, none⟩ = some (.string p) ∧ W'.cell? ⟨g8, 2, none⟩ = some (.string t) ∧ W'.cell? ⟨g8, 3, none⟩ = some (.int .i64 cl) ∧ W'.cell? ⟨g8, 4, none⟩ = some (.int .i64 ca) ∧ W'.cell? ⟨g8, 5, none⟩ = some (.int .i64 n6) ∧ W'.cell? ⟨g8, 6, none⟩ = some (.slice A6 l6.length c6)) := ⟨fun W' hb => ⟨((below_step B10 hb).cell hXl).trans ((blk_cell hXat 0).trans rfl), ((below_step B10 hb).cell hgl).trans v0, ((below_step B10 hb).cell hgl).trans v1, ((below_step B10 hb).cell hgl).trans v2, ((below_step B10 hb).cell hgl).trans v3, ((below_step B10 hb).cell hgl).trans v4, ((below_step B10 hb).cell hgl).trans v5, ((below_step B10 hb).cell hgl).trans v6, (hb.cell (blk_lt p8)).trans ((blk_cell p8 0).trans rfl), (hb.cell (blk_lt p8)).trans ((blk_cell p8 1).trans rfl), (hb.cell (blk_lt p8)).trans ((blk_cell p8 2).trans rfl), (hb.cell (blk_lt p8)).trans ((blk_cell p8 3).trans rfl), (hb.cell (blk_lt p8)).trans ((blk_cell p8 4).trans rfl), (hb.cell (blk_lt p8)).trans ((blk_cell p8 5).trans rfl), (hb.cell (blk_lt p8)).trans ((blk_cell p8 6).trans rfl)⟩⟩
  go_region_held3 (fun W' => W'.cell? ⟨X, 0, none⟩ = some (.slice (some ⟨g, off, none⟩) k cap) ∧ W'.cell? ⟨g, off + i * 18, none⟩ = some (.int .i64 a0_0) ∧ W'.cell? ⟨g, off + i * 18 + 1, none⟩ = some (.string a0_1) ∧ W'.cell? ⟨g, off + i * 18 + 2, none⟩ = some (.string a0_2) ∧ W'.cell? ⟨g, off + i * 18 + 3, none⟩ = some (.int .i64 a0_3) ∧ W'.cell? ⟨g, off + i * 18 + 4, none⟩ = some (.int .i64 a0_4) ∧ W'.cell? ⟨g, off + i * 18 + 5, none⟩ = some (.int .i64 a0_5) ∧ W'.cell? ⟨g, off + i * 18 + 6, none⟩ = some (.slice A0_6 l0_6.length c0_6) ∧ W'.cell? ⟨g8, 0, none⟩ = some (.int .i64 kd) ∧ W'.cell? ⟨g8, 1, none⟩ = some (.string p) ∧ W'.cell? ⟨g8, 2, none⟩ = some (.string t) ∧ W'.cell? ⟨g8, 3, none⟩ = some (.int .i64 cl) ∧ W'.cell? ⟨g8, 4, none⟩ = some (.int .i64 ca) ∧ W'.cell? ⟨g8, 5, none⟩ = some (.int .i64 n6) ∧ W'.cell? ⟨g8, 6, none⟩ = some (.slice A6 l6.length c6)) (first | exact HS6.out _ (below_drew (Below.refl _ _)) | exact HS6.out _ HB12.out) (first | (go_at_call 29; refine (tabulariumref10_Same.calls hk a0_0 a0_1 a0_2 a0_3 a0_4 a0_5 A0_6 c0_6 l0_6 kd p t cl ca n6 A6 c6 l6 _ _ (Kd.C_below hr6.out (below_step B10 (below_drew (Below.refl _ _)))) hc6.out (Kd.C_below hr.out (below_step B10 (below_drew (Below.refl _ _)))) hc.out hsm.out).mono ?_; rintro e_ w12 ⟨rfl, hb12⟩; have HB12 : Aside0 (Below w10.heap.size w10 w12) := ⟨below_step (below_drew (Below.refl _ _)) hb12⟩; have r8 := (HB12.out.block g8 (blk_lt p8)).trans p8; have r9 := (HB12.out.block g9 (blk_lt p9)).trans p9))
  have B12 := below_step B10 HB12.out
  have HB12_ := Aside0.mk B12
  have HCBA : Aside0 (∀ W', W'.heap[g]? = W.heap[g]? → CB W' 78 18 g off cap (rs.map RC.cells) cells) := ⟨fun W' h => HCB.out.step h⟩
  have x12 : w12.cell? ⟨X, 0, none⟩ = some (.slice (some ⟨g, off, none⟩) k cap) := (B12.cell hXl).trans ((blk_cell hXat 0).trans rfl)
  have SRC10 : Aside0 (Src Try.prog 18 49 (.slice (some ⟨g, off, none⟩) i cap) ((rs.take i).map RC.cells).length ((rs.take i).map RC.cells).flatten w12) := ⟨by
    have := (((HCBA.out w12 (HB12_.out.block g hgl)).take i).src (cc := cap) (n := i) (by rw [← List.map_take, List.length_map, List.length_take]; have := HK.out; omega))
    rw [← List.map_take] at this
    exact this⟩
  have TL10 : Aside0 (∀ y ∈ ((rs.take i).map RC.cells), y.length = 18) := ⟨fun y hy => by obtain ⟨r, _, rfl⟩ := List.mem_map.1 hy; exact RC.len r⟩
  have TO10 : Aside0 (∀ y ∈ ((rs.take i).map RC.cells), ∀ u ∈ y, u.oneCell' = true) := ⟨fun y hy => by obtain ⟨r, _, rfl⟩ := List.mem_map.1 hy; exact RC.one r⟩
  have TN10 : Aside0 (([] : List (List Value)).length + ((rs.take i).map RC.cells).length ≤ 1000000) := ⟨by rw [List.length_map, List.length_take]; have := hl.out; simp; omega⟩
  have TL11 : Aside0 (∀ y ∈ ((rs.drop (i + 1)).map RC.cells), y.length = 18) := ⟨fun y hy => by obtain ⟨r, _, rfl⟩ := List.mem_map.1 hy; exact RC.len r⟩
  have TO11 : Aside0 (∀ y ∈ ((rs.drop (i + 1)).map RC.cells), ∀ u ∈ y, u.oneCell' = true) := ⟨fun y hy => by obtain ⟨r, _, rfl⟩ := List.mem_map.1 hy; exact RC.one r⟩
  have TN11 : Aside0 (([] ++ ((rs.take i).map RC.cells)).length + ((rs.drop (i + 1)).map RC.cells).length ≤ 1000000) := ⟨by rw [List.nil_append, List.length_map, List.length_map, List.length_take, List.length_drop]; have := hl.out; omega⟩
  have ST13 : Aside0 (∀ w13, Gr (fun i => some i = (Value.slice none 0 0).ownBlock) w12 w13 → w13.cell? ⟨X, 0, none⟩ = some (.slice (some ⟨g, off, none⟩) k cap) ∧ Below w12.heap.size w12 w13) := ⟨fun w13 hg => by
    have hb : Below w12.heap.size w12 w13 := hg.below (Nat.le_refl _) (fun i hi => by simp [Value.ownBlock] at hi)
    exact ⟨(hb.cell (World.block_lt_of_cell? w12 _ x12)).trans x12, hb⟩⟩
  have hkk : k ≤ 20 := by have := HK.out; have := hl.out; omega
  have hw1 : wrap64 ((i : Int) + 1) = (i : Int) + 1 := by unfold wrap64; omega
  have hwr : IntKind.i64.wrap ((i : Int) + 1) = (i : Int) + 1 := by rw [IntKind.wrap_i64]; omega
  have hp0 : (0 : Int) ≤ (i : Int) + 1 := by omega
  have hp1 : (i : Int) + 1 ≤ (k : Int) := by omega
  have hp2 : ((i : Int) + 1).toNat = i + 1 := by omega
  have hi1k : i + 1 ≤ k := by omega
  have hi1c : i + 1 ≤ cap := by omega
  have hkcz : (k : Int) ≤ (cap : Int) := by omega
  have hicz : (i : Int) ≤ (cap : Int) := by omega
  have hi1cz : (i : Int) + 1 ≤ (cap : Int) := by omega
  obtain ⟨A11, hA, hsr⟩ : ∃ A11 : Addr, (if cap = (i + 1) then some (⟨g, off, none⟩ : Addr) else some ⟨g, off + (i + 1) * 18, none⟩) = some A11 ∧ ∀ w13, Below w12.heap.size w12 w13 → Src Try.prog 18 49 (.slice (some A11) (k - (i + 1)) (cap - (i + 1))) ((rs.drop (i + 1)).map RC.cells).length ((rs.drop (i + 1)).map RC.cells).flatten w13 := by
    have hall : ∀ w13, Below w12.heap.size w12 w13 → CB w13 78 18 g off cap (rs.map RC.cells) cells := fun w13 hb => HCBA.out w13 ((below_step B12 hb).block g hgl)
    by_cases hc : cap = (i + 1)
    · refine ⟨_, if_pos hc, fun w13 hb => ?_⟩
      have hki : k - (i + 1) = 0 := by omega
      have := ((hall w13 hb).take 0).src (cc := cap - (i + 1)) (n := k - (i + 1)) (by simp; omega)
      rw [show rs.drop (i + 1) = [] from List.drop_of_length_le (by have := HK.out; omega)]
      simpa using this
    · refine ⟨_, if_neg hc, fun w13 hb => ?_⟩
      have := ((hall w13 hb).drop (i := (i + 1)) (by rw [List.length_map]; have := HK.out; omega)).src (cc := cap - (i + 1)) (n := k - (i + 1)) (by rw [List.length_drop, List.length_map]; have := HK.out; omega)
      rw [List.map_drop]
      exact this
  have SRC11 := Aside0.mk hsr
  clear hsr
  have HXW := Aside0.mk hXl
  have HGL8 : Aside0 (W.heap.size ≤ g8) := ⟨Nat.le_of_eq G8.out.symm⟩
  have HGL9 : Aside0 (W.heap.size ≤ g9) := ⟨Nat.le_trans hb8.size (Nat.le_of_eq G9.out.symm)⟩
  have ST14 : Aside0 (∀ w13, Below w12.heap.size w12 w13 → ∀ A13 n13 cap13, CR w13 (fun i => False ∨ i = w12.heap.size) 78 18 (.slice A13 n13 cap13) ([] ++ ((rs.take i).map RC.cells)) → ∀ w14, Gr (fun i => some i = (Value.slice A13 n13 cap13).ownBlock) w13 w14 → w14.cell? ⟨X, 0, none⟩ = some (.slice (some ⟨g, off, none⟩) k cap) ∧ w14.frozen? ⟨X, 0, none⟩ = false) := ⟨fun w13 hb A13 n13 cap13 hcr w14 hg => by
    have hX13 := ((below_step B12 hb).block X hXl).trans hXat
    have hX14 := (hg.block X (blk_lt hX13) (fun e => by have := (hcr.own_typed e).1.resolve_left id; have := HB12_.out.size; omega)).trans hX13
    exact ⟨(blk_cell hX14 0).trans rfl, blk_frozen hX14 0⟩⟩
  have FIN : Aside0 (∀ w13, Below w12.heap.size w12 w13 → ∀ A13 n13 cap13, CR w13 (fun i => False ∨ i = w12.heap.size) 78 18 (.slice A13 n13 cap13) ([] ++ ((rs.take i).map RC.cells)) → ∀ w14, Gr (fun i => some i = (Value.slice A13 n13 cap13).ownBlock) w13 w14 → ∀ A14 n14 cap14, CR w14 (fun i => (False ∨ i = w12.heap.size) ∨ i = w13.heap.size) 78 18 (.slice A14 n14 cap14) (([] ++ ((rs.take i).map RC.cells)) ++ ((rs.drop (i + 1)).map RC.cells)) →
      RX (w14.setCell ⟨X, 0, none⟩ (.slice A14 n14 cap14)) X (fun i => D i ∨ W.heap.size ≤ i) (.slice A14 n14 cap14) (rs.take i ++ rs.drop (i + 1)) ∧ Gr D W (w14.setCell ⟨X, 0, none⟩ (.slice A14 n14 cap14)) ∧ (w14.setCell ⟨X, 0, none⟩ (.slice A14 n14 cap14)).heap[g8]? = w12.heap[g8]? ∧ (w14.setCell ⟨X, 0, none⟩ (.slice A14 n14 cap14)).heap[g9]? = w12.heap[g9]?) := ⟨fun w13 hb A13 n13 cap13 hcr w14 hg A14 n14 cap14 hcr14 => by
    have hown : ∀ i, some i = (Value.slice A13 n13 cap13).ownBlock → i = w12.heap.size := fun i e => (hcr.own_typed e).1.resolve_left id
    have hX13 := (below_step B12 hb).block X hXl
    have hX14 := (hg.block X (Nat.lt_of_lt_of_le hXl (below_step B12 hb).size) (fun e => by have := hown _ e; have := HB12_.out.size; omega)).trans hX13
    have hs12 := HB12_.out.size
    have hs13 := hb.size
    have hblk : ∀ q, W.heap.size ≤ q → q < w12.heap.size → (w14.setCell ⟨X, 0, none⟩ (.slice A14 n14 cap14)).heap[q]? = w12.heap[q]? := fun q hq hlt => by
      rw [Below.heap_setCell w14 ⟨X, 0, none⟩ _ q (fun e => absurd (show q < W.heap.size from e ▸ hXl) (Nat.not_lt.2 hq))]
      exact (hg.block q (Nat.lt_of_lt_of_le hlt hs13) (fun e => by have := hown _ e; omega)).trans (hb.block q hlt)
    refine ⟨hX.out.store hX14 (fun i h => .inl h) ?_, (((Gr.of_below (S := D) (below_step B12 hb)).then_ (S' := fun i => some i = (Value.slice A13 n13 cap13).ownBlock) hg (fun i e => .inr (by rw [hown i e]; exact hs12))).set _ (.inl hX.out.hX)), hblk g8 HGL8.out (blk_lt r8), hblk g9 HGL9.out (blk_lt r9)⟩
    rw [List.map_append]
    refine hcr14.step (fun i hi => ?_) (fun _ _ _ _ => rfl)
    rcases hi with (hi | hi) | hi
    · exact hi.elim
    · exact .inr (by rw [hi]; exact hs12)
    · exact .inr (by rw [hi]; omega)⟩
  go_upto_region 12 with (first | ((with_reducible refine gate_builtin (b := .append) (xs := #[.tmp 49, .tmp 55]) rfl ?_); at_builtin; refine wpList_cr_app (D := fun _ => False) (xs := []) (ys := ((rs.take i).map RC.cells)) rfl (.tmp 49) (.tmp 55) rfl rfl (.inl ⟨rfl, rfl⟩) rfl SRC10.out TL10.out TO10.out TN10.out ?_; intro A13 n13 cap13 w13 hn13 hcr13 hg13; have HN13 := Aside0.mk hn13; have HCR13 := Aside0.mk hcr13; have HG13 := Aside0.mk (Gr.of_grown hg13); clear hn13 hcr13 hg13; obtain ⟨x13, b13⟩ := ST13.out w13 HG13.out; have B13 := Aside0.mk b13; clear b13) | ((with_reducible refine gate_builtin (b := .append) (xs := #[.tmp 58, .tmp 65]) rfl ?_); at_builtin; refine wpList_cr_app (xs := [] ++ ((rs.take i).map RC.cells)) (ys := ((rs.drop (i + 1)).map RC.cells)) rfl (.tmp 58) (.tmp 65) rfl rfl HCR13.out rfl (SRC11.out w13 B13.out) TL11.out TO11.out TN11.out ?_; intro A14 n14 cap14 w14 hn14 hcr14 hg14; have HN14 := Aside0.mk hn14; have HCR14 := Aside0.mk hcr14; have HG14 := Aside0.mk (Gr.of_grown hg14); clear hn14 hcr14 hg14; obtain ⟨x14, f14⟩ := ST14.out _ B13.out _ _ _ HCR13.out _ HG14.out))
  obtain ⟨hrx_, hgw_, e8_, e9_⟩ := FIN.out _ B13.out _ _ _ HCR13.out _ HG14.out _ _ _ HCR14.out
  generalize w14.setCell ⟨X, 0, none⟩ (.slice A14 n14 cap14) = w15 at hrx_ hgw_ e8_ e9_ ⊢
  have HRX := Aside0.mk hrx_
  have HGW := Aside0.mk hgw_
  have s8 := e8_.trans r8
  have s9 := e9_.trans r9
  have HRL : Aside0 ((rs.take i ++ rs.drop (i + 1)).length + 1 ≤ 20) := ⟨by rw [List.length_append, List.length_take, List.length_drop]; have := hl.out; have := HK.out; omega⟩
  clear hrx_ hgw_ e8_ e9_ x12 x13 x14 f14 hA
  generalize hrs2 : rs.take i ++ rs.drop (i + 1) = rs2 at HRX HRL ⊢
  have HRS := Aside0.mk hrs2
  clear hrs2 HCR14 HCR13 HG14 HG13 FIN ST14 ST13 SRC11 SRC10 hX HCB HCBA r8 r9 p8 p9
  obtain ⟨A2, n2, cap2, hsl2, hn2⟩ : ∃ A2 n2 cap2, (Value.slice A14 n14 cap14) = Value.slice A2 n2 cap2 ∧ n2 = rs2.length := by obtain ⟨A1, c_, e_⟩ := HRX.out.row.shape; exact ⟨A1, _, c_, e_, List.length_map _⟩
  have HN2 := Aside0.mk hn2
  have HSL := Aside0.mk hsl2
  have yX := HRX.out.at_
  have yo : w15.cell? ⟨X, 0, none⟩ = some (.slice A2 n2 cap2) := by rw [← HSL.out]; exact (blk_cell yX 0).trans rfl
  have hCR := HRX.out.row
  rw [hsl2] at hCR
  have CRF : Aside0 (∀ W', Below w15.heap.size w15 W' → CR W' (fun i => D i ∨ W.heap.size ≤ i) 78 18 (.slice A2 n2 cap2) (rs2.map RC.cells)) := ⟨fun W' hb => hCR.step (fun _ h => h) (fun i c _ hc => hb.block i (blk_lt hc))⟩
  have HQ : Aside0 (∀ i u, ([.int .i64 kd, .string p, .string t, .int .i64 cl, .int .i64 ca, .int .i64 n6, .slice A6 l6.length c6, .int .i64 err, .int .i64 b0, .int .i64 b1, .int .i64 b2, .slice A4 names.length c4, .string path, .bool dir, .int .i64 quota, .slice A8 blocks.length c8, .int .i64 writer, .int .i64 n] : List Value)[i]? = some u → (w15.alloc (.cells #[.int .i64 kd, .string p, .string t, .int .i64 cl, .int .i64 ca, .int .i64 n6, .slice A6 l6.length c6, .int .i64 err, .int .i64 b0, .int .i64 b1, .int .i64 b2, .slice A4 names.length c4, .string path, .bool dir, .int .i64 quota, .slice A8 blocks.length c8, .int .i64 writer, .int .i64 n] 78)).cell? ⟨w15.heap.size, i, none⟩ = some u) := ⟨fun i u hu => (World.cell?_alloc_new w15 _ _ i).trans (by rw [← List.getElem?_toArray] at hu; exact hu)⟩
  have HONE : Aside0 (∀ u ∈ ([.int .i64 kd, .string p, .string t, .int .i64 cl, .int .i64 ca, .int .i64 n6, .slice A6 l6.length c6, .int .i64 err, .int .i64 b0, .int .i64 b1, .int .i64 b2, .slice A4 names.length c4, .string path, .bool dir, .int .i64 quota, .slice A8 blocks.length c8, .int .i64 writer, .int .i64 n] : List Value), u.oneCell' = true) := ⟨RC.one (⟨kd, p, t, cl, ca, n6, A6, c6, l6, ⟨err, b0, b1, b2, names, path, dir, quota, blocks, writer, n⟩, A4, c4, A8, c8⟩ : RC)⟩
  have HLN : Aside0 ((rs2.map RC.cells).length ≤ 1000000) := ⟨by rw [List.length_map]; have := HRL.out; omega⟩
  have hszW := HGW.out.size
  have ORD : Aside0 (∀ (Wa w22 : World) (A3 : Option Addr) (n3 cap3 : Nat), Below w15.heap.size w15 Wa → w15.heap.size ≤ Wa.heap.size → Wa.grownBy w22 (Value.slice A2 n2 cap2).ownBlock → CR w22 (fun i => (D i ∨ W.heap.size ≤ i) ∨ i = Wa.heap.size) 78 18 (.slice A3 n3 cap3) (rs2.map RC.cells ++ [([.int .i64 kd, .string p, .string t, .int .i64 cl, .int .i64 ca, .int .i64 n6, .slice A6 l6.length c6, .int .i64 err, .int .i64 b0, .int .i64 b1, .int .i64 b2, .slice A4 names.length c4, .string path, .bool dir, .int .i64 quota, .slice A8 blocks.length c8, .int .i64 writer, .int .i64 n] : List Value)]) →
      w22.cell? ⟨X, 0, none⟩ = some (.slice A2 n2 cap2) ∧ w22.frozen? ⟨X, 0, none⟩ = false ∧ Aside0 (RX (w22.setCell ⟨X, 0, none⟩ (.slice A3 n3 cap3)) X (fun i => D i ∨ W.heap.size ≤ i) (.slice A3 n3 cap3) (rs2 ++ [(⟨kd, p, t, cl, ca, n6, A6, c6, l6, ⟨err, b0, b1, b2, names, path, dir, quota, blocks, writer, n⟩, A4, c4, A8, c8⟩ : RC)])) ∧ Aside0 (Gr (fun i => D i ∨ W.heap.size ≤ i) w15 (w22.setCell ⟨X, 0, none⟩ (.slice A3 n3 cap3)))) := ⟨fun Wa w22 A3 n3 cap3 hb hsz hg hcr => by
    have G22 : Gr (fun i => some i = (Value.slice A2 n2 cap2).ownBlock) w15 w22 := (Gr.of_below (S := fun i => some i = (Value.slice A2 n2 cap2).ownBlock) hb).then_ (Gr.of_grown hg) (fun _ h => .inl h)
    have hXn : ¬ some X = (Value.slice A2 n2 cap2).ownBlock := by rw [← HSL.out]; exact HRX.out.own_ne yX (by decide)
    have hX22 := G22.block X (blk_lt yX) hXn
    refine ⟨(blk_cell (hX22.trans yX) 0).trans (by rw [← HSL.out]; rfl), blk_frozen (hX22.trans yX) 0, ⟨HRX.out.store hX22 (fun _ h => h) ?_⟩, ⟨(G22.mono (S' := fun i => D i ∨ W.heap.size ≤ i) (fun i hi => by rw [← HSL.out] at hi; exact .inl (HRX.out.row.own_typed hi).1)).set _ (.inl HRX.out.hX)⟩⟩
    rw [List.map_append]
    refine hcr.step (fun i hi => ?_) (fun _ _ _ _ => rfl)
    rcases hi with hi | hi
    · exact hi
    · exact .inr (by rw [hi]; exact Nat.le_trans hszW hsz)⟩
  have hXlt := World.block_lt_of_cell? w15 _ yo
  have h8lt := blk_lt s8
  have h9lt := blk_lt s9
  have hbd := fun W' => build78 W' (.int .i64 kd) (.string p) (.string t) (.int .i64 cl) (.int .i64 ca) (.int .i64 n6) (.slice A6 l6.length c6) (.int .i64 err) (.int .i64 b0) (.int .i64 b1) (.int .i64 b2) (.slice A4 names.length c4) (.string path) (.bool dir) (.int .i64 quota) (.slice A8 blocks.length c8) (.int .i64 writer) (.int .i64 n)
  have q8_0 : w15.cell? ⟨g8, 0, none⟩ = some (.int .i64 kd) := (blk_cell s8 0).trans rfl
  have q8_1 : w15.cell? ⟨g8, 1, none⟩ = some (.string p) := (blk_cell s8 1).trans rfl
  have q8_2 : w15.cell? ⟨g8, 2, none⟩ = some (.string t) := (blk_cell s8 2).trans rfl
  have q8_3 : w15.cell? ⟨g8, 3, none⟩ = some (.int .i64 cl) := (blk_cell s8 3).trans rfl
  have q8_4 : w15.cell? ⟨g8, 4, none⟩ = some (.int .i64 ca) := (blk_cell s8 4).trans rfl
  have q8_5 : w15.cell? ⟨g8, 5, none⟩ = some (.int .i64 n6) := (blk_cell s8 5).trans rfl
  have q8_6 : w15.cell? ⟨g8, 6, none⟩ = some (.slice A6 l6.length c6) := (blk_cell s8 6).trans rfl
  have q9_0 : w15.cell? ⟨g9, 0, none⟩ = some (.int .i64 err) := (blk_cell s9 0).trans rfl
  have q9_1 : w15.cell? ⟨g9, 1, none⟩ = some (.int .i64 b0) := (blk_cell s9 1).trans rfl
  have q9_2 : w15.cell? ⟨g9, 2, none⟩ = some (.int .i64 b1) := (blk_cell s9 2).trans rfl
  have q9_3 : w15.cell? ⟨g9, 3, none⟩ = some (.int .i64 b2) := (blk_cell s9 3).trans rfl
  have q9_4 : w15.cell? ⟨g9, 4, none⟩ = some (.slice A4 names.length c4) := (blk_cell s9 4).trans rfl
  have q9_5 : w15.cell? ⟨g9, 5, none⟩ = some (.string path) := (blk_cell s9 5).trans rfl
  have q9_6 : w15.cell? ⟨g9, 6, none⟩ = some (.bool dir) := (blk_cell s9 6).trans rfl
  have q9_7 : w15.cell? ⟨g9, 7, none⟩ = some (.int .i64 quota) := (blk_cell s9 7).trans rfl
  have q9_8 : w15.cell? ⟨g9, 8, none⟩ = some (.slice A8 blocks.length c8) := (blk_cell s9 8).trans rfl
  have q9_9 : w15.cell? ⟨g9, 9, none⟩ = some (.int .i64 writer) := (blk_cell s9 9).trans rfl
  have q9_10 : w15.cell? ⟨g9, 10, none⟩ = some (.int .i64 n) := (blk_cell s9 10).trans rfl
  have HRXX := HRX
  have HGWW := HGW
  clear hCR hsl2 hn2 yX HRX HGW
  go_upto_region 12 with (fail)
  go_cut [10] (fun v10 we => v10 = .int .i64 0 ∧ ∃ A3 n3 cap3, Aside0 (RX we X (fun i => D i ∨ W.heap.size ≤ i) (.slice A3 n3 cap3) (rs2 ++ [(⟨kd, p, t, cl, ca, n6, A6, c6, l6, ⟨err, b0, b1, b2, names, path, dir, quota, blocks, writer, n⟩, A4, c4, A8, c8⟩ : RC)])) ∧ Aside0 (Gr (fun i => D i ∨ W.heap.size ≤ i) w15 we))
  case first =>
    go_region_law (refine step_cr_one rfl (.tmp 73) (.tmp 77) rfl rfl (CRF.out _ (by repeat (first | exact Below.refl _ _ | apply below_alloc | apply below_drew))) rfl ([.int .i64 kd, .string p, .string t, .int .i64 cl, .int .i64 ca, .int .i64 n6, .slice A6 l6.length c6, .int .i64 err, .int .i64 b0, .int .i64 b1, .int .i64 b2, .slice A4 names.length c4, .string path, .bool dir, .int .i64 quota, .slice A8 blocks.length c8, .int .i64 writer, .int .i64 n] : List Value) rfl HONE.out HQ.out HLN.out ?_; intro A3 n3 cap3 w22 hn3 hcr hgr; obtain ⟨z5, z6, HS22, HG22⟩ := ORD.out _ _ _ _ _ (by repeat (first | exact Below.refl _ _ | apply below_alloc | apply below_drew)) (by show w15.heap.size ≤ (World.alloc _ _).heap.size; rw [World.size_alloc]; exact Nat.le_succ _) hgr hcr; clear hcr hgr hn3)
    all_goals
      go_wp2
      go_meet
      case rel => exact ⟨rfl, _, _, _, HS22, HG22⟩
  case rest =>
    obtain ⟨rfl, A3, n3, cap3, HSE, HGE⟩ := hcut
    have HGF : Aside0 (Gr D W wc) := ⟨HGWW.out.then_ HGE.out (fun i hi => hi)⟩
    have hn3 : n3 = rs2.length + 1 := by
      obtain ⟨A_, c_, e_⟩ := HSE.out.row.shape
      injection e_ with _ e_ _
      rw [e_, List.length_map, List.length_append]
      rfl
    have HN3 := Aside0.mk hn3
    have zB := HSE.out.at_
    have zo : wc.cell? ⟨X, 0, none⟩ = some (.slice A3 n3 cap3) := (blk_cell zB 0).trans rfl
    have fo : wc.frozen? ⟨X, 0, none⟩ = false := blk_frozen zB 0
    have HZB := Aside0.mk zB
    clear hn3 zB
    have hb20 : ¬ ((20 : Int) < (n3 : Int)) := by have := HN3.out; have := HRL.out; omega
    go_wp2
    go_ret
    exact ⟨rfl, ⟨_, by have hq := HSE.out; rw [← HRS.out, List.append_assoc] at hq; exact hq⟩, HGF.out⟩
end Go.Proofs.Ytjailboidlmadaa.P
end
