/- retry.Put, the two ways on which nothing is kept. -/
import Derived.Test.YtjailboidlmadaaRB
section

namespace Go.Proofs.Ytjailboidlmadaa.P
open Go.RowKit Go.Maps Go.WideMaps Go.Proofs.YtjailboidlmadaaW.PrintWords Go.Proofs.YtjailboidlmadaaW.PrintLast Go.Proofs.YtjailboidlmadaaW.PrintMore
attribute [local go_sem] max2_int min2_int max_two min_two max_three min_three max_four min_four
set_option linter.unusedVariables false
set_option linter.unusedSimpArgs false
variable {W : World} {B N bm : Nat} {D : Nat → Prop} {sl : Value} {DM : DataW Value} {os : List (Int × Int)} {es : List Ent}
attribute [local go_sem high] eqA64
set_option maxHeartbeats 400000 in
set_option maxRecDepth 100000 in
theorem put_bad (h : StM W B D N bm sl DM os es) (cl ca : Int) (a0_0 : Int) (a0_1 : ByteArray) (a0_2 : ByteArray) (a0_3 : Int) (a0_4 : Int) (a0_5 : Int) (A0_6 : Option Addr) (c0_6 : Nat) (l0_6 : List Int) (err b0 b1 b2 : Int) (names : List ByteArray) (path : ByteArray) (dir : Bool) (quota : Int) (blocks : List S32) (writer n : Int) (A4 A8 : Option Addr) (c4 c8 : Nat) (k : Nat) (b : ByteArray) (bad : Int) (hr : Kd.C (Kd.int .i64) W A0_6 l0_6.length l0_6) (hc : l0_6.length ≤ c0_6) (henc : edit_Encode.f k a0_0 a0_1 a0_2 a0_3 a0_4 a0_5 l0_6 = some (b, bad)) (hbad : bad ≠ 0) :
    Calls Try.prog 10 #[.pointer (some ⟨B, 0, none⟩), .int .i64 cl, .int .i64 ca, .agg #[.int .i64 a0_0, .string a0_1, .string a0_2, .int .i64 a0_3, .int .i64 a0_4, .int .i64 a0_5, .slice A0_6 l0_6.length c0_6], .agg #[.int .i64 err, .int .i64 b0, .int .i64 b1, .int .i64 b2, .slice A4 names.length c4, .string path, .bool dir, .int .i64 quota, .slice A8 blocks.length c8, .int .i64 writer, .int .i64 n]] W fun e w' => e = .returned (.int .i64 1) ∧ Below W.heap.size W w' := by
  have hu28 := Try.underlying28
  have hu32 := Try.underlying32
  have hu36 := Try.underlying36
  have hu38 := Try.underlying38
  have hu62 := Try.underlying62
  have hu64 := Try.underlying64
  have hu66 := Try.underlying66
  have hM := Aside0.mk h
  have hr := Aside0.mk hr
  have hc := Aside0.mk hc
  have henc := Aside0.mk henc
  clear h
  have c0 : (bad == 0) = false := by simpa using hbad
  have c1 : (bad != 0) = true := by simpa using hbad
  clear hbad
  go_enter Try.func10, Try.ntmps10
  go_wp2_with (first | ((with_reducible refine gate_dst (N := 8) rfl ?_); refine box_event ?hg8 (N := 8) ?hd8 (cs := #[.int .i64 a0_0, .string a0_1, .string a0_2, .int .i64 a0_3, .int .i64 a0_4, .int .i64 a0_5, .slice A0_6 l0_6.length c0_6]) (t := 28) ?hr8 ?_; (case hd8 => rfl); (case hg8 => rfl); (case hr8 => first | (go_simp; done) | (go_simp; rfl)); intro g8 hg8 w8 hbox8 hb8; have G8 := Aside0.mk hg8; clear hg8) | ((with_reducible refine gate_dst (N := 9) rfl ?_); refine box_event ?hg9 (N := 9) ?hd9 (cs := #[.int .i64 err, .int .i64 b0, .int .i64 b1, .int .i64 b2, .slice A4 names.length c4, .string path, .bool dir, .int .i64 quota, .slice A8 blocks.length c8, .int .i64 writer, .int .i64 n]) (t := 38) ?hr9 ?_; (case hd9 => rfl); (case hg9 => rfl); (case hr9 => first | (go_simp; done) | (go_simp; rfl)); intro g9 hg9 w9 hbox9 hb9; have G9 := Aside0.mk hg9; clear hg9; have q8 := (hb9.block g8 (blk_lt hbox8)).trans hbox8) | ((with_reducible refine gate_ (.load 28 (.tmp 8)) rfl ?_); refine wpList_load_all rfl 28 (.tmp 8) rfl (g := g8) (off := 0) rfl [.int .i64 a0_0, .string a0_1, .string a0_2, .int .i64 a0_3, .int .i64 a0_4, .int .i64 a0_5, .slice A0_6 l0_6.length c0_6] q8 agg28 size28 rfl ?_) | (go_at_call 13; refine (edit_Encode.calls k a0_0 a0_1 a0_2 a0_3 a0_4 a0_5 A0_6 c0_6 l0_6 b bad _ (Kd.C_below (Kd.C_below hr.out hb8) hb9) hc.out henc.out).mono ?_; rintro e_ w14 ⟨rfl, hb14⟩; have p8 := (hb14.block g8 (blk_lt q8)).trans q8; have p9 := (hb14.block g9 (blk_lt hbox9)).trans hbox9) | ((with_reducible refine gate_dst (N := 13) rfl ?_); refine box_event ?hg13 (N := 13) ?hd13 (cs := #[.int .i64 0, .int .i64 0]) (t := 64) ?hr13 ?_; (case hd13 => rfl); (case hg13 => rfl); (case hr13 => first | (go_simp; done) | (go_simp; rfl)); intro g13 hg13 w13 hbox13 hb13; have G13 := Aside0.mk hg13; clear hg13; have s8 := (hb13.block g8 (blk_lt p8)).trans p8; have s9 := (hb13.block g9 (blk_lt p9)).trans p9; have n8 : g8 ≠ g13 := Nat.ne_of_lt (Nat.lt_of_lt_of_eq (blk_lt p8) G13.out.symm); have n9 : g9 ≠ g13 := Nat.ne_of_lt (Nat.lt_of_lt_of_eq (blk_lt p9) G13.out.symm)) | ((with_reducible refine gate_store (t := 64) (p := 13) rfl ?_); refine wpList_store_all rfl rfl 64 (.tmp 13) _ rfl (g := g13) rfl [.int .i64 cl, .int .i64 ca] rfl hbox13 size64 rfl rfl ?_; intro w15 h15 d15; have t8 := (d15.block g8 (blk_lt s8) n8).trans s8; have t9 := (d15.block g9 (blk_lt s9) n9).trans s9; have z0 : w15.cell? ⟨g13, 0, none⟩ = some (.int .i64 cl) := (blk_cell h15 0).trans rfl; have z1 : w15.cell? ⟨g13, 1, none⟩ = some (.int .i64 ca) := (blk_cell h15 1).trans rfl; have z3 : w15.cell? ⟨g8, 3, none⟩ = some (.int .i64 a0_3) := (blk_cell t8 3).trans rfl; have z4 : w15.cell? ⟨g8, 4, none⟩ = some (.int .i64 a0_4) := (blk_cell t8 4).trans rfl))
  go_ret
  have e13 : W.heap.size ≤ g13 := Nat.le_trans (Nat.le_trans (Nat.le_trans hb8.size hb9.size) hb14.size) (Nat.le_of_eq G13.out.symm)
  have B15 := gr_one (below_step (below_step (below_step hb8 hb9) hb14) hb13) d15 e13
  exact ⟨rfl, B15⟩
set_option maxHeartbeats 400000 in
set_option maxRecDepth 100000 in
theorem put_other (h : StM W B D N bm sl DM os es) (cl ca : Int) (a0_0 : Int) (a0_1 : ByteArray) (a0_2 : ByteArray) (a0_3 : Int) (a0_4 : Int) (a0_5 : Int) (A0_6 : Option Addr) (c0_6 : Nat) (l0_6 : List Int) (err b0 b1 b2 : Int) (names : List ByteArray) (path : ByteArray) (dir : Bool) (quota : Int) (blocks : List S32) (writer n : Int) (A4 A8 : Option Addr) (c4 c8 : Nat) (k : Nat) (b : ByteArray) (bad : Int) (hr : Kd.C (Kd.int .i64) W A0_6 l0_6.length l0_6) (hc : l0_6.length ≤ c0_6) (henc : edit_Encode.f k a0_0 a0_1 a0_2 a0_3 a0_4 a0_5 l0_6 = some (b, bad)) (h0 : bad = 0) (hk : ¬ (cl = a0_3 ∧ ca = a0_4)) :
    Calls Try.prog 10 #[.pointer (some ⟨B, 0, none⟩), .int .i64 cl, .int .i64 ca, .agg #[.int .i64 a0_0, .string a0_1, .string a0_2, .int .i64 a0_3, .int .i64 a0_4, .int .i64 a0_5, .slice A0_6 l0_6.length c0_6], .agg #[.int .i64 err, .int .i64 b0, .int .i64 b1, .int .i64 b2, .slice A4 names.length c4, .string path, .bool dir, .int .i64 quota, .slice A8 blocks.length c8, .int .i64 writer, .int .i64 n]] W fun e w' => e = .returned (.int .i64 1) ∧ Below W.heap.size W w' := by
  have hu28 := Try.underlying28
  have hu32 := Try.underlying32
  have hu36 := Try.underlying36
  have hu38 := Try.underlying38
  have hu62 := Try.underlying62
  have hu64 := Try.underlying64
  have hu66 := Try.underlying66
  have hM := Aside0.mk h
  have hr := Aside0.mk hr
  have hc := Aside0.mk hc
  have henc := Aside0.mk henc
  clear h
  have c0 : (bad == 0) = true := by simp [h0]
  have c1 : (bad != 0) = false := by simp [h0]
  have k0 : (cl == a0_3 && (ca == a0_4)) = false := by rw [Bool.eq_false_iff]; intro q; simp at q; exact hk q
  clear h0 hk
  go_enter Try.func10, Try.ntmps10
  go_wp2_with (first | ((with_reducible refine gate_dst (N := 8) rfl ?_); refine box_event ?hg8 (N := 8) ?hd8 (cs := #[.int .i64 a0_0, .string a0_1, .string a0_2, .int .i64 a0_3, .int .i64 a0_4, .int .i64 a0_5, .slice A0_6 l0_6.length c0_6]) (t := 28) ?hr8 ?_; (case hd8 => rfl); (case hg8 => rfl); (case hr8 => first | (go_simp; done) | (go_simp; rfl)); intro g8 hg8 w8 hbox8 hb8; have G8 := Aside0.mk hg8; clear hg8) | ((with_reducible refine gate_dst (N := 9) rfl ?_); refine box_event ?hg9 (N := 9) ?hd9 (cs := #[.int .i64 err, .int .i64 b0, .int .i64 b1, .int .i64 b2, .slice A4 names.length c4, .string path, .bool dir, .int .i64 quota, .slice A8 blocks.length c8, .int .i64 writer, .int .i64 n]) (t := 38) ?hr9 ?_; (case hd9 => rfl); (case hg9 => rfl); (case hr9 => first | (go_simp; done) | (go_simp; rfl)); intro g9 hg9 w9 hbox9 hb9; have G9 := Aside0.mk hg9; clear hg9; have q8 := (hb9.block g8 (blk_lt hbox8)).trans hbox8) | ((with_reducible refine gate_ (.load 28 (.tmp 8)) rfl ?_); refine wpList_load_all rfl 28 (.tmp 8) rfl (g := g8) (off := 0) rfl [.int .i64 a0_0, .string a0_1, .string a0_2, .int .i64 a0_3, .int .i64 a0_4, .int .i64 a0_5, .slice A0_6 l0_6.length c0_6] q8 agg28 size28 rfl ?_) | (go_at_call 13; refine (edit_Encode.calls k a0_0 a0_1 a0_2 a0_3 a0_4 a0_5 A0_6 c0_6 l0_6 b bad _ (Kd.C_below (Kd.C_below hr.out hb8) hb9) hc.out henc.out).mono ?_; rintro e_ w14 ⟨rfl, hb14⟩; have p8 := (hb14.block g8 (blk_lt q8)).trans q8; have p9 := (hb14.block g9 (blk_lt hbox9)).trans hbox9) | ((with_reducible refine gate_dst (N := 13) rfl ?_); refine box_event ?hg13 (N := 13) ?hd13 (cs := #[.int .i64 0, .int .i64 0]) (t := 64) ?hr13 ?_; (case hd13 => rfl); (case hg13 => rfl); (case hr13 => first | (go_simp; done) | (go_simp; rfl)); intro g13 hg13 w13 hbox13 hb13; have G13 := Aside0.mk hg13; clear hg13; have s8 := (hb13.block g8 (blk_lt p8)).trans p8; have s9 := (hb13.block g9 (blk_lt p9)).trans p9; have n8 : g8 ≠ g13 := Nat.ne_of_lt (Nat.lt_of_lt_of_eq (blk_lt p8) G13.out.symm); have n9 : g9 ≠ g13 := Nat.ne_of_lt (Nat.lt_of_lt_of_eq (blk_lt p9) G13.out.symm)) | ((with_reducible refine gate_store (t := 64) (p := 13) rfl ?_); refine wpList_store_all rfl rfl 64 (.tmp 13) _ rfl (g := g13) rfl [.int .i64 cl, .int .i64 ca] rfl hbox13 size64 rfl rfl ?_; intro w15 h15 d15; have t8 := (d15.block g8 (blk_lt s8) n8).trans s8; have t9 := (d15.block g9 (blk_lt s9) n9).trans s9; have z0 : w15.cell? ⟨g13, 0, none⟩ = some (.int .i64 cl) := (blk_cell h15 0).trans rfl; have z1 : w15.cell? ⟨g13, 1, none⟩ = some (.int .i64 ca) := (blk_cell h15 1).trans rfl; have z3 : w15.cell? ⟨g8, 3, none⟩ = some (.int .i64 a0_3) := (blk_cell t8 3).trans rfl; have z4 : w15.cell? ⟨g8, 4, none⟩ = some (.int .i64 a0_4) := (blk_cell t8 4).trans rfl))
  go_ret
  have e13 : W.heap.size ≤ g13 := Nat.le_trans (Nat.le_trans (Nat.le_trans hb8.size hb9.size) hb14.size) (Nat.le_of_eq G13.out.symm)
  have B15 := gr_one (below_step (below_step (below_step hb8 hb9) hb14) hb13) d15 e13
  exact ⟨rfl, B15⟩
end Go.Proofs.Ytjailboidlmadaa.P
end

section

namespace Go.Proofs.Ytjailboidlmadaa.P
open Go.RowKit Go.Maps Go.WideMaps Go.Proofs.YtjailboidlmadaaW.PrintWords Go.Proofs.YtjailboidlmadaaW.PrintLast Go.Proofs.YtjailboidlmadaaW.PrintMore
attribute [local go_sem] max2_int min2_int max_two min_two max_three min_three max_four min_four
set_option linter.unusedVariables false
set_option linter.unusedSimpArgs false
variable {W : World} {B N bm : Nat} {D : Nat → Prop} {sl : Value} {DM : DataW Value} {os : List (Int × Int)} {es : List Ent}
attribute [local go_sem high] eqA64
theorem StM.look_eq (h : StM W B D N bm sl DM os es) {k : Int × Int} (hk : kwf k) {v : Value} (h1 : Maps.has DM (klit k) = true) (h2 : ∀ z, DM.atKey (klit k) z = .held v) : (Instr.lookup 59 (.map (some bm)) (kv k) true).run Try.prog W = .ok (.tuple #[v, .bool true]) W := by
  obtain ⟨u, ps, hr, hv⟩ := h.map.look_ok law64 Try.underlying59 (zero66 W) (zd := .held zv66) (zp := []) rfl (key_of hk)
  rw [h2] at hv
  rw [h1] at hr
  obtain rfl : u = v := by
    unfold RV at hv
    injection hv with hv
    injection hv with hv _
    injection hv
  exact hr
set_option maxHeartbeats 400000 in
set_option maxRecDepth 100000 in
theorem put_state (h : StM W B D N bm sl DM os es) (cl ca : Int) (a0_0 : Int) (a0_1 : ByteArray) (a0_2 : ByteArray) (a0_3 : Int) (a0_4 : Int) (a0_5 : Int) (A0_6 : Option Addr) (c0_6 : Nat) (l0_6 : List Int) (err b0 b1 b2 : Int) (names : List ByteArray) (path : ByteArray) (dir : Bool) (quota : Int) (blocks : List S32) (writer n : Int) (A4 A8 : Option Addr) (c4 c8 : Nat) (k : Nat) (b : ByteArray) (bad : Int) (hr : Kd.C (Kd.int .i64) W A0_6 l0_6.length l0_6) (hc : l0_6.length ≤ c0_6) (henc : edit_Encode.f k a0_0 a0_1 a0_2 a0_3 a0_4 a0_5 l0_6 = some (b, bad)) (h0 : bad = 0) (hk : cl = a0_3 ∧ ca = a0_4) (bytes : ByteArray) (er_ x0_ x1_ x2_ : Int) (nm_ : List ByteArray) (pa_ : ByteArray) (di_ : Bool) (qu_ : Int) (bl_ : List S32) (wr_ nn_ : Int) (he : (⟨(cl, ca), bytes, ⟨er_, x0_, x1_, x2_, nm_, pa_, di_, qu_, bl_, wr_, nn_⟩⟩ : Ent) ∈ es) (hb : b.toList ≠ bytes.toList) :
    Calls Try.prog 10 #[.pointer (some ⟨B, 0, none⟩), .int .i64 cl, .int .i64 ca, .agg #[.int .i64 a0_0, .string a0_1, .string a0_2, .int .i64 a0_3, .int .i64 a0_4, .int .i64 a0_5, .slice A0_6 l0_6.length c0_6], .agg #[.int .i64 err, .int .i64 b0, .int .i64 b1, .int .i64 b2, .slice A4 names.length c4, .string path, .bool dir, .int .i64 quota, .slice A8 blocks.length c8, .int .i64 writer, .int .i64 n]] W fun e w' => e = .returned (.int .i64 14) ∧ Below W.heap.size W w' := by
  have he := Aside0.mk he
  have hu28 := Try.underlying28
  have hu32 := Try.underlying32
  have hu36 := Try.underlying36
  have hu38 := Try.underlying38
  have hu62 := Try.underlying62
  have hu64 := Try.underlying64
  have hu66 := Try.underlying66
  have hM := Aside0.mk h
  have hr := Aside0.mk hr
  have hc := Aside0.mk hc
  have henc := Aside0.mk henc
  clear h
  have c0 : (bad == 0) = true := by simp [h0]
  have c1 : (bad != 0) = false := by simp [h0]
  have k0 : (cl == a0_3 && (ca == a0_4)) = true := by simp [hk.1, hk.2]
  have d0 : (b.toList == bytes.toList) = false := by simpa using hb
  have d1 : (b.toList != bytes.toList) = true := by simpa using hb
  have d2 : (bytes.toList == b.toList) = false := by simpa using Ne.symm hb
  have d3 : (bytes.toList != b.toList) = true := by simpa using Ne.symm hb
  clear h0 hk hb
  go_enter Try.func10, Try.ntmps10
  go_wp2_with (first | ((with_reducible refine gate_dst (N := 8) rfl ?_); refine box_event ?hg8 (N := 8) ?hd8 (cs := #[.int .i64 a0_0, .string a0_1, .string a0_2, .int .i64 a0_3, .int .i64 a0_4, .int .i64 a0_5, .slice A0_6 l0_6.length c0_6]) (t := 28) ?hr8 ?_; (case hd8 => rfl); (case hg8 => rfl); (case hr8 => first | (go_simp; done) | (go_simp; rfl)); intro g8 hg8 w8 hbox8 hb8; have G8 := Aside0.mk hg8; clear hg8) | ((with_reducible refine gate_dst (N := 9) rfl ?_); refine box_event ?hg9 (N := 9) ?hd9 (cs := #[.int .i64 err, .int .i64 b0, .int .i64 b1, .int .i64 b2, .slice A4 names.length c4, .string path, .bool dir, .int .i64 quota, .slice A8 blocks.length c8, .int .i64 writer, .int .i64 n]) (t := 38) ?hr9 ?_; (case hd9 => rfl); (case hg9 => rfl); (case hr9 => first | (go_simp; done) | (go_simp; rfl)); intro g9 hg9 w9 hbox9 hb9; have G9 := Aside0.mk hg9; clear hg9; have q8 := (hb9.block g8 (blk_lt hbox8)).trans hbox8) | ((with_reducible refine gate_ (.load 28 (.tmp 8)) rfl ?_); refine wpList_load_all rfl 28 (.tmp 8) rfl (g := g8) (off := 0) rfl [.int .i64 a0_0, .string a0_1, .string a0_2, .int .i64 a0_3, .int .i64 a0_4, .int .i64 a0_5, .slice A0_6 l0_6.length c0_6] q8 agg28 size28 rfl ?_) | (go_at_call 13; refine (edit_Encode.calls k a0_0 a0_1 a0_2 a0_3 a0_4 a0_5 A0_6 c0_6 l0_6 b bad _ (Kd.C_below (Kd.C_below hr.out hb8) hb9) hc.out henc.out).mono ?_; rintro e_ w14 ⟨rfl, hb14⟩; have p8 := (hb14.block g8 (blk_lt q8)).trans q8; have p9 := (hb14.block g9 (blk_lt hbox9)).trans hbox9) | ((with_reducible refine gate_dst (N := 13) rfl ?_); refine box_event ?hg13 (N := 13) ?hd13 (cs := #[.int .i64 0, .int .i64 0]) (t := 64) ?hr13 ?_; (case hd13 => rfl); (case hg13 => rfl); (case hr13 => first | (go_simp; done) | (go_simp; rfl)); intro g13 hg13 w13 hbox13 hb13; have G13 := Aside0.mk hg13; clear hg13; have s8 := (hb13.block g8 (blk_lt p8)).trans p8; have s9 := (hb13.block g9 (blk_lt p9)).trans p9; have n8 : g8 ≠ g13 := Nat.ne_of_lt (Nat.lt_of_lt_of_eq (blk_lt p8) G13.out.symm); have n9 : g9 ≠ g13 := Nat.ne_of_lt (Nat.lt_of_lt_of_eq (blk_lt p9) G13.out.symm)) | ((with_reducible refine gate_store (t := 64) (p := 13) rfl ?_); refine wpList_store_all rfl rfl 64 (.tmp 13) _ rfl (g := g13) rfl [.int .i64 cl, .int .i64 ca] rfl hbox13 size64 rfl rfl ?_; intro w15 h15 d15; have t8 := (d15.block g8 (blk_lt s8) n8).trans s8; have t9 := (d15.block g9 (blk_lt s9) n9).trans s9; have z0 : w15.cell? ⟨g13, 0, none⟩ = some (.int .i64 cl) := (blk_cell h15 0).trans rfl; have z1 : w15.cell? ⟨g13, 1, none⟩ = some (.int .i64 ca) := (blk_cell h15 1).trans rfl; have z3 : w15.cell? ⟨g8, 3, none⟩ = some (.int .i64 a0_3) := (blk_cell t8 3).trans rfl; have z4 : w15.cell? ⟨g8, 4, none⟩ = some (.int .i64 a0_4) := (blk_cell t8 4).trans rfl))
  have e13 : W.heap.size ≤ g13 := Nat.le_trans (Nat.le_trans (Nat.le_trans hb8.size hb9.size) hb14.size) (Nat.le_of_eq G13.out.symm)
  have B15 := gr_one (below_step (below_step (below_step hb8 hb9) hb14) hb13) d15 e13
  have hS := hM.out.below B15
  have zm : w15.cell? ⟨B, 0, none⟩ = some (.map (some bm)) := (blk_cell hS.at_ 0).trans rfl
  have hlt := hS.ltB
  obtain ⟨v4, v8, hh1, hh2, hAV⟩ := hS.hit _ he.out
  obtain ⟨H4, e4, rfl⟩ := Kd.R_slice hAV.1
  obtain ⟨H8, e8, rfl⟩ := Kd.R_slice hAV.2
  have hl1 : (Instr.lookup 59 (.map (some bm)) (.agg #[.int .i64 cl, .int .i64 ca]) true).run Try.prog w15.drew = .ok (.tuple #[.agg #[.string bytes, .int .i64 er_, .int .i64 x0_, .int .i64 x1_, .int .i64 x2_, .slice H4 nm_.length e4, .string pa_, .bool di_, .int .i64 qu_, .slice H8 bl_.length e8, .int .i64 wr_, .int .i64 nn_], .bool true]) w15.drew := (hS.below (below_drew (Below.refl _ _))).look_eq (hS.wf _ he.out) hh1 hh2
  have hl2 : ∀ o, (Instr.lookup 59 (.map (some bm)) (.agg #[.int .i64 cl, .int .i64 ca]) true).run Try.prog (w15.alloc o).drew = .ok (.tuple #[.agg #[.string bytes, .int .i64 er_, .int .i64 x0_, .int .i64 x1_, .int .i64 x2_, .slice H4 nm_.length e4, .string pa_, .bool di_, .int .i64 qu_, .slice H8 bl_.length e8, .int .i64 wr_, .int .i64 nn_], .bool true]) (w15.alloc o).drew := fun o => (hS.below (below_drew (below_alloc (Below.refl _ _) o))).look_eq (hS.wf _ he.out) hh1 hh2
  have HS : Aside0 (∀ W', Below w15.heap.size w15 W' → W'.cell? ⟨B, 0, none⟩ = some (.map (some bm)) ∧ W'.cell? ⟨g13, 0, none⟩ = some (.int .i64 cl) ∧ W'.cell? ⟨g13, 1, none⟩ = some (.int .i64 ca)) := ⟨fun W' hb => ⟨(hb.cell hlt).trans zm, (hb.cell (blk_lt h15)).trans z0, (hb.cell (blk_lt h15)).trans z1⟩⟩
  have HM := Aside0.mk hS
  clear hS hh1 hh2 hAV
  go_region_held3 (fun W' => W'.cell? ⟨B, 0, none⟩ = some (.map (some bm)) ∧ W'.cell? ⟨g13, 0, none⟩ = some (.int .i64 cl) ∧ W'.cell? ⟨g13, 1, none⟩ = some (.int .i64 ca)) ((refine HS.out _ ?_; repeat (first | exact Below.refl _ _ | apply below_alloc | apply below_drew))) (first | fail)
  all_goals
    obtain ⟨w16, hw16⟩ : ∃ w_, w_ = (w15.alloc (.cells #[.string bytes, .int .i64 er_, .int .i64 x0_, .int .i64 x1_, .int .i64 x2_, .slice H4 nm_.length e4, .string pa_, .bool di_, .int .i64 qu_, .slice H8 bl_.length e8, .int .i64 wr_, .int .i64 nn_] 66)).drew := ⟨_, rfl⟩
    have hx : w16.heap[w15.heap.size]? = some (.cells #[.string bytes, .int .i64 er_, .int .i64 x0_, .int .i64 x1_, .int .i64 x2_, .slice H4 nm_.length e4, .string pa_, .bool di_, .int .i64 qu_, .slice H8 bl_.length e8, .int .i64 wr_, .int .i64 nn_] 66 (0, 0)) := by rw [hw16]; exact blk_new w15 _
    have B16 : Below w15.heap.size w15 w16 := by rw [hw16]; exact below_drew (below_alloc (Below.refl _ _) _)
    have xb : w16.cell? ⟨w15.heap.size, 0, none⟩ = some (.string bytes) := (blk_cell hx 0).trans rfl
    rw [← hw16]
    clear hw16 hl1 hl2
    go_wp2
    go_ret
    exact ⟨rfl, below_step B15 B16⟩
end Go.Proofs.Ytjailboidlmadaa.P
end

section

namespace Go.Proofs.Ytjailboidlmadaa.P
open Go.RowKit Go.Maps Go.WideMaps Go.Proofs.YtjailboidlmadaaW.PrintWords Go.Proofs.YtjailboidlmadaaW.PrintLast Go.Proofs.YtjailboidlmadaaW.PrintMore
set_option linter.unusedVariables false
set_option linter.unusedSimpArgs false
variable {W W' : World} {B N bm : Nat} {D D' : Nat → Prop} {sl sl' : Value} {DM : DataW Value} {os os' : List (Int × Int)} {es : List Ent}

theorem KR.own_typed (h : KR W D sl os) {i : Nat} (hi : some i = sl.ownBlock) : ∃ c, W.heap[i]? = some (.cells c 64 (0, 0)) := by
  rcases h with ⟨rfl, _⟩ | ⟨g, off, cap, cells, rfl, hg, h⟩
  · simp [Value.ownBlock] at hi
  · simp [Value.ownBlock] at hi
    subst hi
    exact ⟨_, h.at_⟩
theorem StM.own_ne (h : StM W B D N bm sl DM os es) {i q : Nat} {c : Array Value} (hc : W.heap[i]? = some (.cells c q (0, 0))) (hq : q ≠ 64) : ¬ some i = sl.ownBlock := by
  intro hi
  obtain ⟨c', hc'⟩ := h.ord.own_typed hi
  rw [hc] at hc'
  injection hc' with hc'
  injection hc' with _ hc'
  exact hq hc'
theorem StM.own_bm (h : StM W B D N bm sl DM os es) : ¬ some bm = sl.ownBlock := by
  intro hi
  obtain ⟨c', hc'⟩ := h.ord.own_typed hi
  exact cells_ne_map h hc' rfl
/-- the order's row has turned; the field is stored anew -/
theorem StM.reorder (h : StM W B D N bm sl DM os es) (hg : Gr (fun i => some i = sl.ownBlock) W W') (hD : ∀ i, D i → D' i) (hk : KR W' D' sl' os') : StM (W'.setCell ⟨B, 1, none⟩ sl') B D' N bm sl' DM os' es := by
  have hB : W'.heap[B]? = some (.cells #[.map (some bm), sl] 62 (0, 0)) := (hg.block B h.ltB (h.own_ne h.at_ (by decide))).trans h.at_
  have hB' := heap_setCell_same W' B 1 _ 62 sl' hB
  have hm := hg.block bm h.ltm h.own_bm
  have hne : ∀ (i : Nat) (c : Array Value) (q : Nat), W'.heap[i]? = some (.cells c q (0, 0)) → q ≠ 62 → (W'.setCell ⟨B, 1, none⟩ sl').heap[i]? = W'.heap[i]? := fun i c q hc hq => by
    refine Below.heap_setCell W' ⟨B, 1, none⟩ sl' i (fun e => ?_)
    rw [e, hB] at hc
    injection hc with hc
    injection hc with _ hc
    exact hq hc.symm
  refine ⟨hD _ h.hB, hD _ h.hbm, hB', owns_step h.map ((Below.heap_setCell W' ⟨B, 1, none⟩ sl' bm h.ne).trans hm), hk.step (fun _ h => h) (fun i c hd hc => hne i c 64 hc (by decide)), h.nodup, h.wf, fun e he => ?_, h.miss, h.fits⟩
  obtain ⟨v4, v8, h1, h2, h3⟩ := h.hit e he
  refine ⟨v4, v8, h1, h2, h3.step hD (fun i c q hd hc hq => ?_)⟩
  have hi := hg.block i (blk_lt hc) (h.own_ne hc (by rcases hq with rfl | rfl <;> decide))
  exact (hne i c q (hi.trans hc) (by rcases hq with rfl | rfl <;> decide)).trans hi
theorem StM.order_cell (h : StM W B D N bm sl DM os es) (hg : Gr (fun i => some i = sl.ownBlock) W W') : W'.heap[B]? = some (.cells #[.map (some bm), sl] 62 (0, 0)) := (hg.block B h.ltB (h.own_ne h.at_ (by decide))).trans h.at_
theorem StM.sub (h : StM W B D N bm sl DM os es) {i : Nat} (hi : some i = sl.ownBlock) : D i := by
  rcases h.ord with ⟨h1, _⟩ | ⟨g, off, cap, cells, h1, hg, _⟩
  · rw [h1] at hi; simp [Value.ownBlock] at hi
  · rw [h1] at hi
    simp [Value.ownBlock] at hi
    subst hi
    exact hg
theorem step_del {ops : Array Oper} {o : Oper} {a : Act} {K : Act → World → Prop} {Q : Exit → Act → World → Prop} {E : Prop} (hgd : o.guard = none) (m x : Operand)
    (ho : o.op = .call { callee := .builtin .delete, args := #[m, x], argTypes := #[59, 64] }) {vm vx : Value} (hm : a.eval m = vm) (hx : a.eval x = vx) (hrun : (Builtin.delete_ #[59, 64] o.type #[vm, vx]).run Try.prog W = .ok (.tuple #[]) W')
    (hK : K (a.put o.dst (.tuple #[])) W') : if Region.wanted o (yielded ops a.tmps) = true then Oper.wp Try.prog o a W K Q else E := by
  have hw : Region.wanted o (yielded ops a.tmps) = true := by simp [Region.wanted, hgd]
  rw [if_pos hw]
  unfold Oper.wp
  simp [execOp, ho, resolve, invoke, builtin, hm, hx, hrun, Result.andThen]
  exact hK

/-! ### what is kept, as a list -/
/-- the newest twenty -/
def trunc {α : Type} (l : List α) : List α := if 20 < l.length then l.drop 1 else l
/-- behind Put: the newest last -/
def putE (es : List Ent) (e : Ent) : List Ent := trunc (noKey e.key es ++ [e])
theorem noKey_none {k : Int × Int} {es : List Ent} (h : k ∉ es.map Ent.key) : noKey k es = es := by
  unfold noKey
  rw [List.filter_eq_self]
  intro e he
  have : e.key ≠ k := fun q => h (List.mem_map.2 ⟨e, he, q⟩)
  simpa using this
theorem keys_put (es : List Ent) (e : Ent) : (noKey e.key es ++ [e]).map Ent.key = ((es.map Ent.key).filter fun x => !(x == e.key)) ++ [e.key] := by
  rw [List.map_append, noKey_keys]
  rfl
theorem noKey_head {e : Ent} {es : List Ent} (h : ((e :: es).map Ent.key).Nodup) : noKey e.key (e :: es) = es := by
  rw [List.map_cons, List.nodup_cons] at h
  unfold noKey
  rw [List.filter_cons_of_neg (by simp)]
  exact noKey_none h.1
end Go.Proofs.Ytjailboidlmadaa.P
end

section

namespace Go.Proofs.Ytjailboidlmadaa.P
open Go.RowKit Go.Maps Go.WideMaps Go.Proofs.YtjailboidlmadaaW.PrintWords Go.Proofs.YtjailboidlmadaaW.PrintLast Go.Proofs.YtjailboidlmadaaW.PrintMore
attribute [local go_sem] max2_int min2_int max_two min_two max_three min_three max_four min_four
set_option linter.unusedVariables false
set_option linter.unusedSimpArgs false
variable {W : World} {B N bm : Nat} {D : Nat → Prop} {sl : Value} {DM : DataW Value} {os : List (Int × Int)} {es : List Ent}
attribute [local go_sem high] eqA64
theorem build66 (W : World) (b : ByteArray) (err b0 b1 b2 : Int) (v4 : Value) (path : ByteArray) (dir : Bool) (quota : Int) (v8 : Value) (writer n : Int) : (Instr.build 66 #[(0, .string b), (1, .agg #[.int .i64 err, .int .i64 b0, .int .i64 b1, .int .i64 b2, v4, .string path, .bool dir, .int .i64 quota, v8, .int .i64 writer, .int .i64 n])]).run Try.prog W = .ok (.agg #[.string b, .int .i64 err, .int .i64 b0, .int .i64 b1, .int .i64 b2, v4, .string path, .bool dir, .int .i64 quota, v8, .int .i64 writer, .int .i64 n]) W := by kernel_rfl
theorem copied_lit (err b0 b1 b2 : Int) (names : List ByteArray) (path : ByteArray) (dir : Bool) (quota : Int) (blocks : List S32) (writer n : Int) (hf : (⟨err, b0, b1, b2, names, path, dir, quota, blocks, writer, n⟩ : Ans).fits) (A4 A8 : Option Addr) (c4 c8 : Nat) (w : World) (h4 : Kd.C Kd.string w A4 names.length names) (k4 : names.length ≤ c4) (h8 : Kd.C k32 w A8 blocks.length blocks) (k8 : blocks.length ≤ c8) :
    Calls Try.prog 21 #[.agg #[.int .i64 err, .int .i64 b0, .int .i64 b1, .int .i64 b2, .slice A4 names.length c4, .string path, .bool dir, .int .i64 quota, .slice A8 blocks.length c8, .int .i64 writer, .int .i64 n]] w fun e w' => ∃ B4 d4 B8 d8, e = .returned (.agg #[.int .i64 err, .int .i64 b0, .int .i64 b1, .int .i64 b2, .slice B4 names.length d4, .string path, .bool dir, .int .i64 quota, .slice B8 blocks.length d8, .int .i64 writer, .int .i64 n]) ∧ Kd.R Kd.string 9 w' w.heap.size (fun _ => True) (.slice B4 names.length d4) names ∧ Kd.R k32 32 w' w.heap.size (fun _ => True) (.slice B8 blocks.length d8) blocks ∧ Below w.heap.size w w' := copied_calls ⟨err, b0, b1, b2, names, path, dir, quota, blocks, writer, n⟩ hf A4 A8 c4 c8 w h4 k4 h8 k8
/-- a cache: es is what it holds, the oldest first; its memory lies in D 
-/
def St (W : World) (B : Nat) (D : Nat → Prop) (N : Nat) (es : List Ent) : Prop := ∃ bm sl DM, StM W B D N bm sl DM (es.map Ent.key) es
set_option maxHeartbeats 800000 in
set_option maxRecDepth 100000 in
theorem put_ok (h : StM W B D N bm sl DM os es) (cl ca : Int) (a0_0 : Int) (a0_1 : ByteArray) (a0_2 : ByteArray) (a0_3 : Int) (a0_4 : Int) (a0_5 : Int) (A0_6 : Option Addr) (c0_6 : Nat) (l0_6 : List Int) (err b0 b1 b2 : Int) (names : List ByteArray) (path : ByteArray) (dir : Bool) (quota : Int) (blocks : List S32) (writer n : Int) (A4 A8 : Option Addr) (c4 c8 : Nat) (k : Nat) (b : ByteArray) (bad : Int) (hr : Kd.C (Kd.int .i64) W A0_6 l0_6.length l0_6) (hc : l0_6.length ≤ c0_6) (henc : edit_Encode.f k a0_0 a0_1 a0_2 a0_3 a0_4 a0_5 l0_6 = some (b, bad)) (h0 : bad = 0) (hk : cl = a0_3 ∧ ca = a0_4) (hwf : kwf (cl, ca)) (hos : os = es.map Ent.key) (hlen : es.length ≤ 1000000) (hN : N ≤ 1000000)
    (hDb : ∀ i, D i → i < W.heap.size) (hr4 : ∀ W', Gr D W W' → Kd.C Kd.string W' A4 names.length names) (hc4 : names.length ≤ c4) (hr8 : ∀ W', Gr D W W' → Kd.C k32 W' A8 blocks.length blocks) (hc8 : blocks.length ≤ c8) (hft : (⟨err, b0, b1, b2, names, path, dir, quota, blocks, writer, n⟩ : Ans).fits)
    (hcase : (∃ en ∈ es, en.key = (cl, ca) ∧ en.bytes.toList = b.toList) ∨ (cl, ca) ∉ es.map Ent.key) :
    Calls Try.prog 10 #[.pointer (some ⟨B, 0, none⟩), .int .i64 cl, .int .i64 ca, .agg #[.int .i64 a0_0, .string a0_1, .string a0_2, .int .i64 a0_3, .int .i64 a0_4, .int .i64 a0_5, .slice A0_6 l0_6.length c0_6], .agg #[.int .i64 err, .int .i64 b0, .int .i64 b1, .int .i64 b2, .slice A4 names.length c4, .string path, .bool dir, .int .i64 quota, .slice A8 blocks.length c8, .int .i64 writer, .int .i64 n]] W fun e w' => e = .returned (.int .i64 0) ∧ St w' B (fun i => D i ∨ W.heap.size ≤ i) (N + 1) (putE es ⟨(cl, ca), b, ⟨err, b0, b1, b2, names, path, dir, quota, blocks, writer, n⟩⟩) ∧ Gr D W w' := by
  have hu28 := Try.underlying28
  have hu32 := Try.underlying32
  have hu36 := Try.underlying36
  have hu38 := Try.underlying38
  have hu62 := Try.underlying62
  have hu64 := Try.underlying64
  have hu66 := Try.underlying66
  have hM := Aside0.mk h
  replace hr := Aside0.mk hr
  replace hc := Aside0.mk hc
  replace henc := Aside0.mk henc
  clear h
  replace hwf := Aside0.mk hwf
  replace hos := Aside0.mk hos
  replace hlen := Aside0.mk hlen
  replace hN := Aside0.mk hN
  replace hDb := Aside0.mk hDb
  replace hr4 := Aside0.mk hr4
  replace hc4 := Aside0.mk hc4
  replace hr8 := Aside0.mk hr8
  replace hc8 := Aside0.mk hc8
  replace hft := Aside0.mk hft
  obtain ⟨ht, hht⟩ : ∃ ht : Bool, (ht = true ∧ ∃ en ∈ es, en.key = (cl, ca) ∧ en.bytes.toList = b.toList) ∨ (ht = false ∧ (cl, ca) ∉ es.map Ent.key) := by
    rcases hcase with h | h
    · exact ⟨true, .inl ⟨rfl, h⟩⟩
    · exact ⟨false, .inr ⟨rfl, h⟩⟩
  replace hht := Aside0.mk hht
  have c0 : (bad == 0) = true := by simp [h0]
  have c1 : (bad != 0) = false := by simp [h0]
  have k0 : (cl == a0_3 && (ca == a0_4)) = true := by simp [hk.1, hk.2]
  clear h0 hk hcase
  go_enter Try.func10, Try.ntmps10
  go_upto_region 5 with (first | ((with_reducible refine gate_dst (N := 8) rfl ?_); refine box_event ?hg8 (N := 8) ?hd8 (cs := #[.int .i64 a0_0, .string a0_1, .string a0_2, .int .i64 a0_3, .int .i64 a0_4, .int .i64 a0_5, .slice A0_6 l0_6.length c0_6]) (t := 28) ?hr8 ?_; (case hd8 => rfl); (case hg8 => rfl); (case hr8 => first | (go_simp; done) | (go_simp; rfl)); intro g8 hg8 w8 hbox8 hb8; have G8 := Aside0.mk hg8; clear hg8) | ((with_reducible refine gate_dst (N := 9) rfl ?_); refine box_event ?hg9 (N := 9) ?hd9 (cs := #[.int .i64 err, .int .i64 b0, .int .i64 b1, .int .i64 b2, .slice A4 names.length c4, .string path, .bool dir, .int .i64 quota, .slice A8 blocks.length c8, .int .i64 writer, .int .i64 n]) (t := 38) ?hr9 ?_; (case hd9 => rfl); (case hg9 => rfl); (case hr9 => first | (go_simp; done) | (go_simp; rfl)); intro g9 hg9 w9 hbox9 hb9; have G9 := Aside0.mk hg9; clear hg9; have q8 := (hb9.block g8 (blk_lt hbox8)).trans hbox8) | ((with_reducible refine gate_ (.load 28 (.tmp 8)) rfl ?_); refine wpList_load_all rfl 28 (.tmp 8) rfl (g := g8) (off := 0) rfl [.int .i64 a0_0, .string a0_1, .string a0_2, .int .i64 a0_3, .int .i64 a0_4, .int .i64 a0_5, .slice A0_6 l0_6.length c0_6] q8 agg28 size28 rfl ?_) | (go_at_call 13; refine (edit_Encode.calls k a0_0 a0_1 a0_2 a0_3 a0_4 a0_5 A0_6 c0_6 l0_6 b bad _ (Kd.C_below (Kd.C_below hr.out hb8) hb9) hc.out henc.out).mono ?_; rintro e_ w14 ⟨rfl, hb14⟩; have p8 := (hb14.block g8 (blk_lt q8)).trans q8; have p9 := (hb14.block g9 (blk_lt hbox9)).trans hbox9) | ((with_reducible refine gate_dst (N := 13) rfl ?_); refine box_event ?hg13 (N := 13) ?hd13 (cs := #[.int .i64 0, .int .i64 0]) (t := 64) ?hr13 ?_; (case hd13 => rfl); (case hg13 => rfl); (case hr13 => first | (go_simp; done) | (go_simp; rfl)); intro g13 hg13 w13 hbox13 hb13; have G13 := Aside0.mk hg13; clear hg13; have s8 := (hb13.block g8 (blk_lt p8)).trans p8; have s9 := (hb13.block g9 (blk_lt p9)).trans p9; have n8 : g8 ≠ g13 := Nat.ne_of_lt (Nat.lt_of_lt_of_eq (blk_lt p8) G13.out.symm); have n9 : g9 ≠ g13 := Nat.ne_of_lt (Nat.lt_of_lt_of_eq (blk_lt p9) G13.out.symm)) | ((with_reducible refine gate_store (t := 64) (p := 13) rfl ?_); refine wpList_store_all rfl rfl 64 (.tmp 13) _ rfl (g := g13) rfl [.int .i64 cl, .int .i64 ca] rfl hbox13 size64 rfl rfl ?_; intro w15 h15 d15; have t8 := (d15.block g8 (blk_lt s8) n8).trans s8; have t9 := (d15.block g9 (blk_lt s9) n9).trans s9; have z0 : w15.cell? ⟨g13, 0, none⟩ = some (.int .i64 cl) := (blk_cell h15 0).trans rfl; have z1 : w15.cell? ⟨g13, 1, none⟩ = some (.int .i64 ca) := (blk_cell h15 1).trans rfl; have z3 : w15.cell? ⟨g8, 3, none⟩ = some (.int .i64 a0_3) := (blk_cell t8 3).trans rfl; have z4 : w15.cell? ⟨g8, 4, none⟩ = some (.int .i64 a0_4) := (blk_cell t8 4).trans rfl))
  have e13 : W.heap.size ≤ g13 := Nat.le_trans (Nat.le_trans (Nat.le_trans hb8.size hb9.size) hb14.size) (Nat.le_of_eq G13.out.symm)
  have B15 := gr_one (below_step (below_step (below_step hb8 hb9) hb14) hb13) d15 e13
  have B15' := Aside0.mk B15
  clear B15
  have hS := hM.out.below B15'.out
  have zm : w15.cell? ⟨B, 0, none⟩ = some (.map (some bm)) := (blk_cell hS.at_ 0).trans rfl
  have hlt := hS.ltB
  have HS : Aside0 (∀ W', Below w15.heap.size w15 W' → W'.cell? ⟨B, 0, none⟩ = some (.map (some bm)) ∧ W'.cell? ⟨g13, 0, none⟩ = some (.int .i64 cl) ∧ W'.cell? ⟨g13, 1, none⟩ = some (.int .i64 ca)) := ⟨fun W' hb => ⟨(hb.cell hlt).trans zm, (hb.cell (blk_lt h15)).trans z0, (hb.cell (blk_lt h15)).trans z1⟩⟩
  have HM := Aside0.mk hS
  clear hS
  go_cut [14, 15] (fun v14 v15 wc => ∃ (g14 : Nat) (by_ : ByteArray), v14 = .pointer (some ⟨g14, 0, none⟩) ∧ v15 = .bool ht ∧ Aside0 (Below w15.heap.size w15 wc) ∧ Aside0 (wc.cell? ⟨g14, 0, none⟩ = some (.string by_)) ∧ Aside0 (ht = true → by_.toList = b.toList))
  case first =>
    rcases hht.out with ⟨rfl, ⟨key_, bytes, ⟨er_, x0_, x1_, x2_, nm_, pa_, di_, qu_, bl_, wr_, nn_⟩⟩, hmem, hkey, hbb⟩ | ⟨rfl, hno⟩
    · obtain rfl : key_ = (cl, ca) := hkey
      obtain ⟨v4, v8, hh1, hh2, hAV⟩ := HM.out.hit _ hmem
      obtain ⟨H4, e4, rfl⟩ := Kd.R_slice hAV.1
      obtain ⟨H8, e8, rfl⟩ := Kd.R_slice hAV.2
      have hby : true = true → bytes.toList = b.toList := fun _ => hbb
      have hl1 : (Instr.lookup 59 (.map (some bm)) (.agg #[.int .i64 cl, .int .i64 ca]) true).run Try.prog w15.drew = .ok (.tuple #[.agg #[.string bytes, .int .i64 er_, .int .i64 x0_, .int .i64 x1_, .int .i64 x2_, .slice H4 nm_.length e4, .string pa_, .bool di_, .int .i64 qu_, .slice H8 bl_.length e8, .int .i64 wr_, .int .i64 nn_], .bool true]) w15.drew := (HM.out.below (below_drew (Below.refl _ _))).look_eq hwf.out hh1 hh2
      have hl2 : ∀ o, (Instr.lookup 59 (.map (some bm)) (.agg #[.int .i64 cl, .int .i64 ca]) true).run Try.prog (w15.alloc o).drew = .ok (.tuple #[.agg #[.string bytes, .int .i64 er_, .int .i64 x0_, .int .i64 x1_, .int .i64 x2_, .slice H4 nm_.length e4, .string pa_, .bool di_, .int .i64 qu_, .slice H8 bl_.length e8, .int .i64 wr_, .int .i64 nn_], .bool true]) (w15.alloc o).drew := fun o => (HM.out.below (below_drew (below_alloc (Below.refl _ _) o))).look_eq hwf.out hh1 hh2
      clear hh1 hh2 hAV hmem hbb hwf
      go_region_held3 (fun W' => W'.cell? ⟨B, 0, none⟩ = some (.map (some bm)) ∧ W'.cell? ⟨g13, 0, none⟩ = some (.int .i64 cl) ∧ W'.cell? ⟨g13, 1, none⟩ = some (.int .i64 ca)) ((refine HS.out _ ?_; repeat (first | exact Below.refl _ _ | apply below_alloc | apply below_drew))) (first | fail)
      all_goals
        obtain ⟨w16, hw16⟩ : ∃ w_, w_ = (w15.alloc (.cells #[.string bytes, .int .i64 er_, .int .i64 x0_, .int .i64 x1_, .int .i64 x2_, .slice H4 nm_.length e4, .string pa_, .bool di_, .int .i64 qu_, .slice H8 bl_.length e8, .int .i64 wr_, .int .i64 nn_] 66)).drew := ⟨_, rfl⟩
        have hx : w16.heap[w15.heap.size]? = some (.cells #[.string bytes, .int .i64 er_, .int .i64 x0_, .int .i64 x1_, .int .i64 x2_, .slice H4 nm_.length e4, .string pa_, .bool di_, .int .i64 qu_, .slice H8 bl_.length e8, .int .i64 wr_, .int .i64 nn_] 66 (0, 0)) := by rw [hw16]; exact blk_new w15 _
        have B16 : Below w15.heap.size w15 w16 := by rw [hw16]; exact below_drew (below_alloc (Below.refl _ _) _)
        rw [← hw16]
        clear hw16 hl1 hl2
        go_wp2
        go_meet
        case rel => exact ⟨_, bytes, rfl, rfl, ⟨B16⟩, ⟨(blk_cell hx 0).trans rfl⟩, ⟨hby⟩⟩
    · obtain ⟨bytes, hb0⟩ : ∃ bytes : ByteArray, bytes = ⟨#[]⟩ := ⟨_, rfl⟩
      have hby : false = true → bytes.toList = b.toList := fun h => by cases h
      have hl1 : (Instr.lookup 59 (.map (some bm)) (.agg #[.int .i64 cl, .int .i64 ca]) true).run Try.prog w15.drew = .ok (.tuple #[.agg #[.string ⟨#[]⟩, .int .i64 0, .int .i64 0, .int .i64 0, .int .i64 0, .slice none 0 0, .string ⟨#[]⟩, .bool false, .int .i64 0, .slice none 0 0, .int .i64 0, .int .i64 0], .bool false]) w15.drew := (HM.out.below (below_drew (Below.refl _ _))).look_miss hwf.out hno
      have hl2 : ∀ o, (Instr.lookup 59 (.map (some bm)) (.agg #[.int .i64 cl, .int .i64 ca]) true).run Try.prog (w15.alloc o).drew = .ok (.tuple #[.agg #[.string ⟨#[]⟩, .int .i64 0, .int .i64 0, .int .i64 0, .int .i64 0, .slice none 0 0, .string ⟨#[]⟩, .bool false, .int .i64 0, .slice none 0 0, .int .i64 0, .int .i64 0], .bool false]) (w15.alloc o).drew := fun o => (HM.out.below (below_drew (below_alloc (Below.refl _ _) o))).look_miss hwf.out hno
      clear hno hwf
      go_region_held3 (fun W' => W'.cell? ⟨B, 0, none⟩ = some (.map (some bm)) ∧ W'.cell? ⟨g13, 0, none⟩ = some (.int .i64 cl) ∧ W'.cell? ⟨g13, 1, none⟩ = some (.int .i64 ca)) ((refine HS.out _ ?_; repeat (first | exact Below.refl _ _ | apply below_alloc | apply below_drew))) (first | fail)
      all_goals
        obtain ⟨w16, hw16⟩ : ∃ w_, w_ = (w15.alloc (.cells #[.string ⟨#[]⟩, .int .i64 0, .int .i64 0, .int .i64 0, .int .i64 0, .slice none 0 0, .string ⟨#[]⟩, .bool false, .int .i64 0, .slice none 0 0, .int .i64 0, .int .i64 0] 66)).drew := ⟨_, rfl⟩
        have hx : w16.heap[w15.heap.size]? = some (.cells #[.string ⟨#[]⟩, .int .i64 0, .int .i64 0, .int .i64 0, .int .i64 0, .slice none 0 0, .string ⟨#[]⟩, .bool false, .int .i64 0, .slice none 0 0, .int .i64 0, .int .i64 0] 66 (0, 0)) := by rw [hw16]; exact blk_new w15 _
        have B16 : Below w15.heap.size w15 w16 := by rw [hw16]; exact below_drew (below_alloc (Below.refl _ _) _)
        rw [← hw16]
        clear hw16 hl1 hl2
        go_wp2
        go_meet
        case rel => exact ⟨_, bytes, rfl, rfl, ⟨B16⟩, ⟨(blk_cell hx 0).trans (by rw [hb0]; rfl)⟩, ⟨hby⟩⟩
  case rest =>
    obtain ⟨g14, by_, rfl, rfl, BC, XB, HBY⟩ := hcut
    have hSc := HM.out.below BC.out
    have hC13 := (BC.out.block g13 (blk_lt h15)).trans h15
    have hC9 := (BC.out.block g9 (blk_lt t9)).trans t9
    have xb := XB.out
    obtain ⟨A1, n1, cap1, hsl⟩ : ∃ A1 n1 cap1, sl = .slice A1 n1 cap1 := by obtain ⟨A1, c_, e_⟩ := hSc.ord.shape; exact ⟨A1, _, c_, e_⟩
    have zo : wc.cell? ⟨B, 1, none⟩ = some (.slice A1 n1 cap1) := by rw [← hsl]; exact (blk_cell hSc.at_ 1).trans rfl
    have hB62 := hSc.at_
    have HSC := Aside0.mk hSc
    clear hSc
    go_upto_if 44 with (fail)
    go_cut [10] (fun v10 wd => v10 = .int .i64 0 ∧ ∃ sl1, Aside0 (StM wd B D N bm sl1 DM (os.filter fun x => !(x == (cl, ca))) es) ∧ Aside0 (Gr D wc wd))
    case first =>
      cases ht with
      | true =>
        have hbb := HBY.out rfl
        have d0 : (b.toList == by_.toList) = true := by rw [hbb]; simp
        have d1 : (b.toList != by_.toList) = false := by rw [hbb]; simp
        have d2 : (by_.toList == b.toList) = true := by rw [hbb]; simp
        have d3 : (by_.toList != b.toList) = false := by rw [hbb]; simp
        clear hbb
        have hown13 : ¬ some g13 = sl.ownBlock := fun hi => by
          obtain ⟨c', hc'⟩ := hM.out.ord.own_typed hi
          exact absurd (blk_lt hc') (Nat.not_lt.2 e13)
        have HD := delf_calls (gg := 20) (cb := #[.pointer (some ⟨g13, 0, none⟩)]) (p := fun x => x == (cl, ca)) HSC.out.ord (by rw [hos.out, List.length_map]; exact Nat.le_trans hlen.out (by decide)) (enters_of Try.func20 (by kernel_rfl) rfl) (fun W' k hg => same_calls (k := (cl, ca)) (hg.cell ((blk_cell hC13 0).trans rfl) hown13) (hg.cell ((blk_cell hC13 1).trans rfl) hown13) k)
        rw [hsl] at HD
        go_wp2_with (first | (go_at_call 19; refine HD.mono ?_; rintro e_ w19 ⟨A2, n2, cap2, rfl, hkr, hgr⟩; have hBx := (hgr.block B (blk_lt hB62) (by rw [← hsl]; exact HSC.out.own_ne hB62 (by decide))).trans hB62; have yo : w19.cell? ⟨B, 1, none⟩ = some sl := (blk_cell hBx 1).trans rfl; have yf : w19.frozen? ⟨B, 1, none⟩ = false := blk_frozen hBx 1))
        go_meet
        case rel =>
          rw [← hsl] at hgr
          refine ⟨rfl, _, ⟨HSC.out.reorder hgr (fun _ h => h) hkr⟩, ⟨(hgr.mono (fun i hi => .inl (HSC.out.sub hi))).set _ (.inl HSC.out.hB)⟩⟩
      | false =>
        go_wp2
        go_meet
        case rel =>
          have hno : (cl, ca) ∉ es.map Ent.key := by
            rcases hht.out with ⟨h, _⟩ | ⟨_, h⟩
            · cases h
            · exact h
          have e : (os.filter fun x => !(x == (cl, ca))) = os := by
            rw [hos.out, List.filter_eq_self]
            intro x hx
            have : x ≠ (cl, ca) := fun q => hno (q ▸ hx)
            simpa using this
          exact ⟨rfl, sl, ⟨by rw [e]; exact HSC.out⟩, ⟨Gr.refl _ _⟩⟩
    case rest =>
      obtain ⟨rfl, sl1, HSD, HGD⟩ := hcut
      have e9 : W.heap.size ≤ g9 := Nat.le_trans hb8.size (Nat.le_of_eq G9.out.symm)
      have hD9 := (HGD.out.block g9 (blk_lt hC9) (fun hd => absurd (hDb.out _ hd) (Nat.not_lt.2 e9))).trans hC9
      have hD13 := (HGD.out.block g13 (blk_lt hC13) (fun hd => absurd (hDb.out _ hd) (Nat.not_lt.2 e13))).trans hC13
      have HGW := Aside0.mk (((Gr.of_below (S := D) B15'.out).then_ (S' := fun _ => False) (Gr.of_below BC.out) (fun _ h => h.elim)).then_ HGD.out (fun _ h => .inl h))
      have hbmB : bm ≠ B := hM.out.ne
      have hbm9 : g9 ≠ bm := fun e => absurd hM.out.ltm (Nat.not_lt.2 (e ▸ e9))
      have hbm13 : g13 ≠ bm := fun e => absurd hM.out.ltm (Nat.not_lt.2 (e ▸ e13))
      have hB62d := HSD.out.at_
      have HS10 : Aside0 (∀ W', Gr (fun i => i = bm) wc W' → W'.cell? ⟨B, 0, none⟩ = some (.map (some bm)) ∧ W'.cell? ⟨g13, 0, none⟩ = some (.int .i64 cl) ∧ W'.cell? ⟨g13, 1, none⟩ = some (.int .i64 ca) ∧ W'.cell? ⟨g9, 0, none⟩ = some (.int .i64 err) ∧ W'.cell? ⟨g9, 1, none⟩ = some (.int .i64 b0) ∧ W'.cell? ⟨g9, 2, none⟩ = some (.int .i64 b1) ∧ W'.cell? ⟨g9, 3, none⟩ = some (.int .i64 b2) ∧ W'.cell? ⟨g9, 4, none⟩ = some (.slice A4 names.length c4) ∧ W'.cell? ⟨g9, 5, none⟩ = some (.string path) ∧ W'.cell? ⟨g9, 6, none⟩ = some (.bool dir) ∧ W'.cell? ⟨g9, 7, none⟩ = some (.int .i64 quota) ∧ W'.cell? ⟨g9, 8, none⟩ = some (.slice A8 blocks.length c8) ∧ W'.cell? ⟨g9, 9, none⟩ = some (.int .i64 writer) ∧ W'.cell? ⟨g9, 10, none⟩ = some (.int .i64 n)) := ⟨fun W' hg => by
        have q9 := (hg.block g9 (blk_lt hD9) hbm9).trans hD9
        have q13 := (hg.block g13 (blk_lt hD13) hbm13).trans hD13
        have qB := (hg.block B (blk_lt hB62d) (Ne.symm hbmB)).trans hB62d
        exact ⟨(blk_cell qB 0).trans rfl, (blk_cell q13 0).trans rfl, (blk_cell q13 1).trans rfl, (blk_cell q9 0).trans rfl, (blk_cell q9 1).trans rfl, (blk_cell q9 2).trans rfl, (blk_cell q9 3).trans rfl, (blk_cell q9 4).trans rfl, (blk_cell q9 5).trans rfl, (blk_cell q9 6).trans rfl, (blk_cell q9 7).trans rfl, (blk_cell q9 8).trans rfl, (blk_cell q9 9).trans rfl, (blk_cell q9 10).trans rfl⟩⟩
      have PUT : Aside0 (∀ w20 B4 d4 B8 d8, Below wc.heap.size wc w20 → Kd.R Kd.string 9 w20 wc.heap.size (fun _ => True) (.slice B4 names.length d4) names → Kd.R k32 32 w20 wc.heap.size (fun _ => True) (.slice B8 blocks.length d8) blocks →
          ∃ w21 DM2, (Instr.mapUpdate 59 (.map (some bm)) (.agg #[.int .i64 cl, .int .i64 ca]) (.agg #[.string b, .int .i64 err, .int .i64 b0, .int .i64 b1, .int .i64 b2, .slice B4 names.length d4, .string path, .bool dir, .int .i64 quota, .slice B8 blocks.length d8, .int .i64 writer, .int .i64 n])).run Try.prog w20 = .ok () w21 ∧ Aside0 (StM w21 B (fun i => D i ∨ W.heap.size ≤ i) (N + 1) bm sl1 DM2 (os.filter fun x => !(x == (cl, ca))) (noKey (cl, ca) es ++ [⟨(cl, ca), b, ⟨err, b0, b1, b2, names, path, dir, quota, blocks, writer, n⟩⟩])) ∧ Aside0 (Gr (fun i => i = bm) wc w21)) := ⟨fun w20 B4 d4 B8 d8 hb hR4 hR8 => by
        have hsz := HGW.out.size
        have hS20 := (HSD.out.below hb).mono (D' := fun i => D i ∨ W.heap.size ≤ i) (fun i h => .inl h)
        have hav : AnsV w20 (fun i => D i ∨ W.heap.size ≤ i) ⟨err, b0, b1, b2, names, path, dir, quota, blocks, writer, n⟩ (.slice B4 names.length d4) (.slice B8 blocks.length d8) := ⟨Kd.R_lower (Kd.R_mono (Kd.R_bound hR4) (fun k hk => .inr (Nat.le_trans hsz hk.2.1))) (Nat.zero_le _), Kd.R_lower (Kd.R_mono (Kd.R_bound hR8) (fun k hk => .inr (Nat.le_trans hsz hk.2.1))) (Nat.zero_le _)⟩
        obtain ⟨w21, DM2, h1, h2, h3⟩ := hS20.put (Nat.lt_of_le_of_lt hN.out (by decide)) hwf.out b _ hft.out hav
        exact ⟨w21, DM2, h1, ⟨h2⟩, ⟨(Gr.of_below hb).then_ h3 (fun _ h => .inl h)⟩⟩⟩
      have HC4 := Aside0.mk (hr4.out _ HGW.out)
      have HC8 := Aside0.mk (hr8.out _ HGW.out)
      have hbd := fun W' v4 v8 => build66 W' b err b0 b1 b2 v4 path dir quota v8 writer n
      clear hB62d
      go_upto_region 10 with (fail)
      go_region_held3 (fun W' => W'.cell? ⟨B, 0, none⟩ = some (.map (some bm)) ∧ W'.cell? ⟨g13, 0, none⟩ = some (.int .i64 cl) ∧ W'.cell? ⟨g13, 1, none⟩ = some (.int .i64 ca) ∧ W'.cell? ⟨g9, 0, none⟩ = some (.int .i64 err) ∧ W'.cell? ⟨g9, 1, none⟩ = some (.int .i64 b0) ∧ W'.cell? ⟨g9, 2, none⟩ = some (.int .i64 b1) ∧ W'.cell? ⟨g9, 3, none⟩ = some (.int .i64 b2) ∧ W'.cell? ⟨g9, 4, none⟩ = some (.slice A4 names.length c4) ∧ W'.cell? ⟨g9, 5, none⟩ = some (.string path) ∧ W'.cell? ⟨g9, 6, none⟩ = some (.bool dir) ∧ W'.cell? ⟨g9, 7, none⟩ = some (.int .i64 quota) ∧ W'.cell? ⟨g9, 8, none⟩ = some (.slice A8 blocks.length c8) ∧ W'.cell? ⟨g9, 9, none⟩ = some (.int .i64 writer) ∧ W'.cell? ⟨g9, 10, none⟩ = some (.int .i64 n)) (first | exact HS10.out _ ((Gr.refl _ _).drew) | exact HS10.out _ (Aside0.out (by assumption))) (first | (go_at_call 21; refine (copied_lit err b0 b1 b2 names path dir quota blocks writer n hft.out A4 A8 c4 c8 _ (Kd.C_below HC4.out (below_drew (Below.refl _ _))) hc4.out (Kd.C_below HC8.out (below_drew (Below.refl _ _))) hc8.out).mono ?_; rintro e_ w20 ⟨B4, d4, B8, d8, rfl, hR4, hR8, hb20⟩; have HG20 : Aside0 (Gr (fun i => i = bm) wc w20) := ⟨(Gr.refl _ _).drew.then_ (S' := fun _ => False) (Gr.of_below hb20) (fun _ h => h.elim)⟩; obtain ⟨w21, DM2, hupd, HS21, HG21⟩ := PUT.out w20 B4 d4 B8 d8 (below_step (below_drew (Below.refl _ _)) hb20) hR4 hR8; clear hR4 hR8))
      have q13 := (HG21.out.block g13 (blk_lt hD13) hbm13).trans hD13
      have y0 : w21.cell? ⟨g13, 0, none⟩ = some (.int .i64 cl) := (blk_cell q13 0).trans rfl
      have y1 : w21.cell? ⟨g13, 1, none⟩ = some (.int .i64 ca) := (blk_cell q13 1).trans rfl
      obtain ⟨A2, n2, cap2, hsl1, hn2⟩ : ∃ A2 n2 cap2, sl1 = .slice A2 n2 cap2 ∧ n2 = (os.filter fun x => !(x == (cl, ca))).length := by obtain ⟨A1, c_, e_⟩ := HS21.out.ord.shape; exact ⟨A1, _, c_, e_, rfl⟩
      have HN2 := Aside0.mk hn2
      have HSL := Aside0.mk hsl1
      clear hn2
      have yB := HS21.out.at_
      have yo : w21.cell? ⟨B, 1, none⟩ = some (.slice A2 n2 cap2) := by rw [← HSL.out]; exact (blk_cell yB 1).trans rfl
      have hKR := HS21.out.ord
      rw [hsl1] at hKR
      have KRF : Aside0 (∀ W', Below w21.heap.size w21 W' → KR W' (fun i => D i ∨ W.heap.size ≤ i) (.slice A2 n2 cap2) (os.filter fun x => !(x == (cl, ca)))) := ⟨fun W' hb => hKR.step (fun _ h => h) (fun i c _ hc => hb.block i (blk_lt hc))⟩
      have HLN : Aside0 ((os.filter fun x => !(x == (cl, ca))).length + 1 ≤ 1099511627776) := ⟨by
        have h1 := List.length_filter_le (fun x => !(x == (cl, ca))) os
        have h2 := hlen.out
        have h3 := congrArg List.length hos.out
        rw [List.length_map] at h3
        omega⟩
      have hGW21 : W.heap.size ≤ w21.heap.size := Nat.le_trans HGW.out.size HG21.out.size
      have ORD : Aside0 (∀ (Wa w22 : World) (A3 : Option Addr) (n3 cap3 : Nat), Below w21.heap.size w21 Wa → w21.heap.size ≤ Wa.heap.size → Wa.grownBy w22 (Value.slice A2 n2 cap2).ownBlock → KR w22 (fun i => (D i ∨ W.heap.size ≤ i) ∨ i = Wa.heap.size) (.slice A3 n3 cap3) ((os.filter fun x => !(x == (cl, ca))) ++ [(cl, ca)]) →
          w22.cell? ⟨B, 1, none⟩ = some (.slice A2 n2 cap2) ∧ w22.frozen? ⟨B, 1, none⟩ = false ∧ Aside0 (StM (w22.setCell ⟨B, 1, none⟩ (.slice A3 n3 cap3)) B (fun i => D i ∨ W.heap.size ≤ i) (N + 1) bm (.slice A3 n3 cap3) DM2 ((os.filter fun x => !(x == (cl, ca))) ++ [(cl, ca)]) (noKey (cl, ca) es ++ [⟨(cl, ca), b, ⟨err, b0, b1, b2, names, path, dir, quota, blocks, writer, n⟩⟩])) ∧ Aside0 (Gr (fun i => D i ∨ W.heap.size ≤ i) w21 (w22.setCell ⟨B, 1, none⟩ (.slice A3 n3 cap3)))) := ⟨fun Wa w22 A3 n3 cap3 hb hsz hg hkr => by
        have G22 : Gr (fun i => some i = sl1.ownBlock) w21 w22 := by
          rw [HSL.out]
          exact (Gr.of_below (S := fun i => some i = (Value.slice A2 n2 cap2).ownBlock) hb).then_ (Gr.of_grown hg) (fun _ h => .inl h)
        have hB22 := HS21.out.order_cell G22
        rw [HSL.out] at hB22
        refine ⟨(blk_cell hB22 1).trans rfl, blk_frozen hB22 1, ⟨HS21.out.reorder G22 (fun _ h => h) (hkr.step (fun i hi => ?_) (fun _ _ _ _ => rfl))⟩, ⟨(G22.mono (fun i hi => .inl (HS21.out.sub hi))).set _ (.inl HS21.out.hB)⟩⟩
        rcases hi with hi | hi
        · exact hi
        · exact .inr (by rw [hi]; exact Nat.le_trans hGW21 hsz)⟩
      have hBlt := World.block_lt_of_cell? w21 _ yo
      have h13lt := World.block_lt_of_cell? w21 _ y0
      clear hKR hsl1 yB
      go_upto_region 11 with (fail)
      go_cut [10] (fun v10 we => v10 = .int .i64 0 ∧ ∃ A3 n3 cap3, Aside0 (StM we B (fun i => D i ∨ W.heap.size ≤ i) (N + 1) bm (.slice A3 n3 cap3) DM2 ((os.filter fun x => !(x == (cl, ca))) ++ [(cl, ca)]) (noKey (cl, ca) es ++ [⟨(cl, ca), b, ⟨err, b0, b1, b2, names, path, dir, quota, blocks, writer, n⟩⟩])) ∧ Aside0 (Gr (fun i => D i ∨ W.heap.size ≤ i) w21 we))
      case first =>
        go_region_law (refine step_kr_append rfl (.tmp 71) (.tmp 73) rfl rfl (KRF.out _ (by repeat (first | exact Below.refl _ _ | apply below_alloc | apply below_drew))) (cl, ca) rfl ((World.cell?_alloc_new w21 #[.int .i64 cl, .int .i64 ca] 64 0).trans rfl) ((World.cell?_alloc_new w21 #[.int .i64 cl, .int .i64 ca] 64 1).trans rfl) HLN.out ?_; intro A3 cap3 w22 hkr hgr; obtain ⟨z5, z6, HS22, HG22⟩ := ORD.out _ _ _ _ _ (by repeat (first | exact Below.refl _ _ | apply below_alloc | apply below_drew)) (by show w21.heap.size ≤ (World.alloc _ _).heap.size; rw [World.size_alloc]; exact Nat.le_succ _) hgr hkr; clear hkr hgr)
        all_goals
          go_wp2
          go_meet
          case rel => exact ⟨rfl, _, _, _, HS22, HG22⟩
      case rest =>
        obtain ⟨rfl, A3, n3, cap3, HSE, HGE⟩ := hcut
        have HGF : Aside0 (Gr D W wc) := ⟨((HGW.out.then_ HG21.out (fun i hi => by rw [hi]; exact .inl hM.out.hbm)).then_ HGE.out (fun i hi => by rcases hi with h | h; exact .inl h; exact .inr h))⟩
        obtain ⟨es2, hes2⟩ : ∃ es2 : List Ent, es2 = noKey (cl, ca) es ++ [⟨(cl, ca), b, ⟨err, b0, b1, b2, names, path, dir, quota, blocks, writer, n⟩⟩] := ⟨_, rfl⟩
        have hos2 : (os.filter fun x => !(x == (cl, ca))) ++ [(cl, ca)] = es2.map Ent.key := by rw [hes2, hos.out]; exact (keys_put es ⟨(cl, ca), b, ⟨err, b0, b1, b2, names, path, dir, quota, blocks, writer, n⟩⟩).symm
        rw [hos2, ← hes2] at HSE
        have hput : putE es ⟨(cl, ca), b, ⟨err, b0, b1, b2, names, path, dir, quota, blocks, writer, n⟩⟩ = trunc es2 := by rw [hes2]; rfl
        have hn3 : n3 = es2.length := by
          obtain ⟨A_, c_, e_⟩ := HSE.out.ord.shape
          injection e_ with _ e_ _
          rw [e_, List.length_map]
        have HN3 := Aside0.mk hn3
        have zB := HSE.out.at_
        have zo : wc.cell? ⟨B, 1, none⟩ = some (.slice A3 n3 cap3) := (blk_cell zB 1).trans rfl
        have zm : wc.cell? ⟨B, 0, none⟩ = some (.map (some bm)) := (blk_cell zB 0).trans rfl
        have HZB := Aside0.mk zB
        have HHES := Aside0.mk hes2
        have HHOS := Aside0.mk hos2
        replace hput := Aside0.mk hput
        clear hn3 zB hes2 hos2
        by_cases hbig : 20 < n3
        · obtain ⟨e0, es3, rfl⟩ : ∃ e0 es3, es2 = e0 :: es3 := by
            cases es2 with
            | nil => have := HN3.out; simp at this; omega
            | cons a l => exact ⟨a, l, rfl⟩
          have HT := Aside0.mk (show trunc (e0 :: es3) = es3 from (if_pos (by rw [← HN3.out]; exact hbig)))
          have hkw : kwf e0.key := HSE.out.wf e0 List.mem_cons_self
          obtain ⟨g, off, cells, rfl, hDg, hKB⟩ : ∃ g off cells, A3 = some ⟨g, off, none⟩ ∧ (D g ∨ W.heap.size ≤ g) ∧ KB wc g off cap3 ((e0 :: es3).map Ent.key) cells := by
            rcases HSE.out.ord with ⟨h1, _⟩ | ⟨g, off, cap, cells, h1, h2, h3⟩
            · injection h1 with _ h1 _; rw [h1] at hbig; exact absurd hbig (by decide)
            · injection h1 with h1 h4 h5
              subst h5
              exact ⟨g, off, cells, h1, h2, h3⟩
          obtain ⟨k1, k2⟩ : (wc.cell? ⟨g, off, none⟩ = some (.int .i64 e0.key.1)) ∧ (wc.cell? ⟨g, off + 1, none⟩ = some (.int .i64 e0.key.2)) := by
            have := hKB.key (i := 0) (k := e0.key) rfl
            simpa using this
          have hcap := hKB.le
          rw [← (show ((e0 :: es3).map Ent.key).length = n3 by rw [HN3.out, List.length_map])] at hbig
          have hle1 : (1 : Int) ≤ (n3 : Int) := by have := HN3.out; rw [List.length_map] at hbig; omega
          have hle2 : (n3 : Int) ≤ (cap3 : Int) := by have := HN3.out; rw [List.length_map] at hcap; omega
          have hbi : (20 : Int) < (n3 : Int) := by have := HN3.out; rw [List.length_map] at hbig; omega
          have hle3 : (1 : Int) ≤ (cap3 : Int) := by omega
          have hpos : (0 : Int) < (n3 : Int) := by omega
          have hposN : 0 < n3 := by omega
          have hpos1 : 1 ≤ n3 := by omega
          have hcp1 : 1 ≤ cap3 := by omega
          have hnc : n3 ≤ cap3 := by omega
          have hc1 : ¬ (cap3 = 1) := by omega
          have hc1' : ¬ ((cap3 : Int) = 1) := by omega
          have hbm : g ≠ bm := cells_ne_map HSE.out hKB.at_
          have hgB : bm ≠ B := HSE.out.ne
          obtain ⟨w30, DM3, hdel, hS30, hG30⟩ := (HSE.out.below (below_drew (Below.refl _ _))).del hkw 0
          have HDEL : Aside0 ((Builtin.delete_ #[59, 64] 0 #[.map (some bm), .agg #[.int .i64 e0.key.1, .int .i64 e0.key.2]]).run Try.prog wc.drew = .ok (.tuple #[]) w30) := ⟨hdel⟩
          rw [noKey_head HSE.out.nodup] at hS30
          have HG31 : Aside0 (Gr (fun i => i = bm) wc w30) := ⟨((Gr.refl _ wc).drew).then_ hG30 (fun _ h => .inl h)⟩
          have zB30 := hS30.at_
          have HS30 := Aside0.mk hS30
          have zo30 : w30.cell? ⟨B, 1, none⟩ = some (.slice (some ⟨g, off, none⟩) n3 cap3) := (blk_cell zB30 1).trans rfl
          have zf30 : w30.frozen? ⟨B, 1, none⟩ = false := blk_frozen zB30 1
          have HS13 : Aside0 (∀ W', Gr (fun i => i = bm) wc W' → W'.cell? ⟨B, 0, none⟩ = some (.map (some bm)) ∧ W'.cell? ⟨B, 1, none⟩ = some (.slice (some ⟨g, off, none⟩) n3 cap3) ∧ W'.cell? ⟨g, off, none⟩ = some (.int .i64 e0.key.1) ∧ W'.cell? ⟨g, off + 1, none⟩ = some (.int .i64 e0.key.2)) := ⟨fun W' hg => ⟨hg.cell zm (fun e => hgB e.symm), hg.cell zo (fun e => hgB e.symm), hg.cell k1 hbm, hg.cell k2 hbm⟩⟩
          have HKB := Aside0.mk hKB
          clear hdel hG30 hS30 zB30 hKB hkw hbig hcap
          go_upto_region 13 with (fail)
          go_region_held3 (fun W' => W'.cell? ⟨B, 0, none⟩ = some (.map (some bm)) ∧ W'.cell? ⟨B, 1, none⟩ = some (.slice (some ⟨g, off, none⟩) n3 cap3) ∧ W'.cell? ⟨g, off, none⟩ = some (.int .i64 e0.key.1) ∧ W'.cell? ⟨g, off + 1, none⟩ = some (.int .i64 e0.key.2)) (first | exact HS13.out _ ((Gr.refl _ _).drew) | exact HS13.out _ HG31.out) (first | (refine step_del rfl (.tmp 86) (.tmp 92) rfl rfl rfl HDEL.out ?_))
          go_wp2
          go_ret
          have en : n3 - 1 = (es3.map Ent.key).length := by rw [HN3.out, List.length_map, List.length_cons]; exact Nat.add_sub_cancel _ 1
          refine ⟨rfl, ?_, (HGF.out.then_ HG31.out (fun i hi => by rw [hi]; exact .inl hM.out.hbm)).set _ (.inl hM.out.hB)⟩
          rw [hput.out, HT.out]
          refine ⟨bm, _, DM3, HS30.out.order (.inr ⟨g, off + 2, cap3 - 1, cells, by rw [en], hDg, ?_⟩)⟩
          exact KB.next (k := e0.key) (HKB.out.step (HG31.out.block g HKB.out.lt hbm))
        · have hb1 : ¬ ((20 : Int) < (n3 : Int)) := by omega
          have HT := Aside0.mk (show trunc es2 = es2 from if_neg (by rw [← HN3.out]; exact hbig))
          clear hbig
          go_wp2
          go_ret
          exact ⟨rfl, by rw [hput.out, HT.out]; exact ⟨_, _, _, HSE.out⟩, HGF.out⟩
end Go.Proofs.Ytjailboidlmadaa.P
end
