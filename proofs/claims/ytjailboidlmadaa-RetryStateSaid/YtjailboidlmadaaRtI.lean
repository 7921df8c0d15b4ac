/- retry.Put, the two ways on which nothing is kept. -/
import Derived.Test.YtjailboidlmadaaRtH
namespace Go.Proofs.Ytjailboidlmadaa.P
open Go.RowKit Go.Maps Go.WideMaps Go.Proofs.YtjailboidlmadaaW.PrintWords Go.Proofs.YtjailboidlmadaaW.PrintLast Go.Proofs.YtjailboidlmadaaW.PrintMore
attribute [local go_sem] max2_int min2_int max_two min_two max_three min_three max_four min_four
set_option linter.unusedVariables false
set_option linter.unusedSimpArgs false
variable {W : World} {B N bm : Nat} {D : Nat → Prop} {sl : Value} {DM : DataW Value} {os : List (Int × Int)} {es : List Ent}
attribute [local go_sem high] eqA64
set_option maxHeartbeats 400000 in
set_option maxRecDepth 100000 in
theorem put_bad (h : StM W B D N bm sl DM os es) (cl ca : Int) (a0_0 : Int) (a0_1 : ByteArray) (a0_2 : ByteArray) (a0_3 : Int) (a0_4 : Int) (a0_5 : Int) (A0_6 : Option Addr) (c0_6 : Nat) (l0_6 : List Int) (err b0 b1 b2 : Int) (names : List ByteArray) (path : ByteArray) (dir : Bool) (quota : Int) (blocks : List S32) (writer n : Int) (A4 A8 : Option Addr) (c4 c8 : Nat) (k : Nat) (b : ByteArray) (bad : Int) (hr : Kd.C (Kd.int .i64) W A0_6 l0_6.length l0_6) (hc : l0_6.length ≤ c0_6) (henc : edit_Encode.f k a0_0 a0_1 a0_2 a0_3 a0_4 a0_5 l0_6 = some (b, bad)) (hbad : bad ≠ 0) :
    Calls Try.prog 10 #[.pointer (some ⟨B, 0, none⟩), .int .i64 cl, .int .i64 ca, .agg #[.int .i64 a0_0, .string a0_1, .string a0_2, .int .i64 a0_3, .int .i64 a0_4, .int .i64 a0_5, .slice A0_6 l0_6.length c0_6], .agg #[.int .i64 err, .int .i64 b0, .int .i64 b1, .int .i64 b2, .slice A4 names.length c4, .string path, .bool dir, .int .i64 quota, .slice A8 blocks.length c8, .int .i64 writer, .int .i64 n]] W fun e w' => e = .returned (.int .i64 1) ∧ Below W.heap.size W w' := by
  have hu28 := Try.underlying28
  have hu32 := Try.underlying32
  have hu36 := Try.underlying36
  have hu38 := Try.underlying38
  have hu62 := Try.underlying62
  have hu64 := Try.underlying64
  have hu66 := Try.underlying66
  have hM := Aside0.mk h
  have hr := Aside0.mk hr
  have hc := Aside0.mk hc
  have henc := Aside0.mk henc
  clear h
  have c0 : (bad == 0) = false := by simpa using hbad
  have c1 : (bad != 0) = true := by simpa using hbad
  clear hbad
  go_enter Try.func10, Try.ntmps10
  go_wp2_with (first | ((with_reducible refine gate_dst (N := 8) rfl ?_); refine box_event ?hg8 (N := 8) ?hd8 (cs := #[.int .i64 a0_0, .string a0_1, .string a0_2, .int .i64 a0_3, .int .i64 a0_4, .int .i64 a0_5, .slice A0_6 l0_6.length c0_6]) (t := 28) ?hr8 ?_; (case hd8 => rfl); (case hg8 => rfl); (case hr8 => first | (go_simp; done) | (go_simp; rfl)); intro g8 hg8 w8 hbox8 hb8; have G8 := Aside0.mk hg8; clear hg8) | ((with_reducible refine gate_dst (N := 9) rfl ?_); refine box_event ?hg9 (N := 9) ?hd9 (cs := #[.int .i64 err, .int .i64 b0, .int .i64 b1, .int .i64 b2, .slice A4 names.length c4, .string path, .bool dir, .int .i64 quota, .slice A8 blocks.length c8, .int .i64 writer, .int .i64 n]) (t := 38) ?hr9 ?_; (case hd9 => rfl); (case hg9 => rfl); (case hr9 => first | (go_simp; done) | (go_simp; rfl)); intro g9 hg9 w9 hbox9 hb9; have G9 := Aside0.mk hg9; clear hg9; have q8 := (hb9.block g8 (blk_lt hbox8)).trans hbox8) | ((with_reducible refine gate_ (.load 28 (.tmp 8)) rfl ?_); refine wpList_load_all rfl 28 (.tmp 8) rfl (g := g8) (off := 0) rfl [.int .i64 a0_0, .string a0_1, .string a0_2, .int .i64 a0_3, .int .i64 a0_4, .int .i64 a0_5, .slice A0_6 l0_6.length c0_6] q8 agg28 size28 rfl ?_) | (go_at_call 13; refine (edit_Encode.calls k a0_0 a0_1 a0_2 a0_3 a0_4 a0_5 A0_6 c0_6 l0_6 b bad _ (Kd.C_below (Kd.C_below hr.out hb8) hb9) hc.out henc.out).mono ?_; rintro e_ w14 ⟨rfl, hb14⟩; have p8 := (hb14.block g8 (blk_lt q8)).trans q8; have p9 := (hb14.block g9 (blk_lt hbox9)).trans hbox9) | ((with_reducible refine gate_dst (N := 13) rfl ?_); refine box_event ?hg13 (N := 13) ?hd13 (cs := #[.int .i64 0, .int .i64 0]) (t := 64) ?hr13 ?_; (case hd13 => rfl); (case hg13 => rfl); (case hr13 => first | (go_simp; done) | (go_simp; rfl)); intro g13 hg13 w13 hbox13 hb13; have G13 := Aside0.mk hg13; clear hg13; have s8 := (hb13.block g8 (blk_lt p8)).trans p8; have s9 := (hb13.block g9 (blk_lt p9)).trans p9; have n8 : g8 ≠ g13 := Nat.ne_of_lt (Nat.lt_of_lt_of_eq (blk_lt p8) G13.out.symm); have n9 : g9 ≠ g13 := Nat.ne_of_lt (Nat.lt_of_lt_of_eq (blk_lt p9) G13.out.symm)) | ((with_reducible refine gate_store (t := 64) (p := 13) rfl ?_); refine wpList_store_all rfl rfl 64 (.tmp 13) _ rfl (g := g13) rfl [.int .i64 cl, .int .i64 ca] rfl hbox13 size64 rfl rfl ?_; intro w15 h15 d15; have t8 := (d15.block g8 (blk_lt s8) n8).trans s8; have t9 := (d15.block g9 (blk_lt s9) n9).trans s9; have z0 : w15.cell? ⟨g13, 0, none⟩ = some (.int .i64 cl) := (blk_cell h15 0).trans rfl; have z1 : w15.cell? ⟨g13, 1, none⟩ = some (.int .i64 ca) := (blk_cell h15 1).trans rfl; have z3 : w15.cell? ⟨g8, 3, none⟩ = some (.int .i64 a0_3) := (blk_cell t8 3).trans rfl; have z4 : w15.cell? ⟨g8, 4, none⟩ = some (.int .i64 a0_4) := (blk_cell t8 4).trans rfl))
  go_ret
  have e13 : W.heap.size ≤ g13 := Nat.le_trans (Nat.le_trans (Nat.le_trans hb8.size hb9.size) hb14.size) (Nat.le_of_eq G13.out.symm)
  have B15 := gr_one (below_step (below_step (below_step hb8 hb9) hb14) hb13) d15 e13
  exact ⟨rfl, B15⟩
set_option maxHeartbeats 400000 in
set_option maxRecDepth 100000 in
theorem put_other (h : StM W B D N bm sl DM os es) (cl ca : Int) (a0_0 : Int) (a0_1 : ByteArray) (a0_2 : ByteArray) (a0_3 : Int) (a0_4 : Int) (a0_5 : Int) (A0_6 : Option Addr) (c0_6 : Nat) (l0_6 : List Int) (err b0 b1 b2 : Int) (names : List ByteArray) (path : ByteArray) (dir : Bool) (quota : Int) (blocks : List S32) (writer n : Int) (A4 A8 : Option Addr) (c4 c8 : Nat) (k : Nat) (b : ByteArray) (bad : Int) (hr : Kd.C (Kd.int .i64) W A0_6 l0_6.length l0_6) (hc : l0_6.length ≤ c0_6) (henc : edit_Encode.f k a0_0 a0_1 a0_2 a0_3 a0_4 a0_5 l0_6 = some (b, bad)) (h0 : bad = 0) (hk : ¬ (cl = a0_3 ∧ ca = a0_4)) :
    Calls Try.prog 10 #[.pointer (some ⟨B, 0, none⟩), .int .i64 cl, .int .i64 ca, .agg #[.int .i64 a0_0, .string a0_1, .string a0_2, .int .i64 a0_3, .int .i64 a0_4, .int .i64 a0_5, .slice A0_6 l0_6.length c0_6], .agg #[.int .i64 err, .int .i64 b0, .int .i64 b1, .int .i64 b2, .slice A4 names.length c4, .string path, .bool dir, .int .i64 quota, .slice A8 blocks.length c8, .int .i64 writer, .int .i64 n]] W fun e w' => e = .returned (.int .i64 1) ∧ Below W.heap.size W w' := by
  have hu28 := Try.underlying28
  have hu32 := Try.underlying32
  have hu36 := Try.underlying36
  have hu38 := Try.underlying38
  have hu62 := Try.underlying62
  have hu64 := Try.underlying64
  have hu66 := Try.underlying66
  have hM := Aside0.mk h
  have hr := Aside0.mk hr
  have hc := Aside0.mk hc
  have henc := Aside0.mk henc
  clear h
  have c0 : (bad == 0) = true := by simp [h0]
  have c1 : (bad != 0) = false := by simp [h0]
  have k0 : (cl == a0_3 && (ca == a0_4)) = false := by rw [Bool.eq_false_iff]; intro q; simp at q; exact hk q
  clear h0 hk
  go_enter Try.func10, Try.ntmps10
  go_wp2_with (first | ((with_reducible refine gate_dst (N := 8) rfl ?_); refine box_event ?hg8 (N := 8) ?hd8 (cs := #[.int .i64 a0_0, .string a0_1, .string a0_2, .int .i64 a0_3, .int .i64 a0_4, .int .i64 a0_5, .slice A0_6 l0_6.length c0_6]) (t := 28) ?hr8 ?_; (case hd8 => rfl); (case hg8 => rfl); (case hr8 => first | (go_simp; done) | (go_simp; rfl)); intro g8 hg8 w8 hbox8 hb8; have G8 := Aside0.mk hg8; clear hg8) | ((with_reducible refine gate_dst (N := 9) rfl ?_); refine box_event ?hg9 (N := 9) ?hd9 (cs := #[.int .i64 err, .int .i64 b0, .int .i64 b1, .int .i64 b2, .slice A4 names.length c4, .string path, .bool dir, .int .i64 quota, .slice A8 blocks.length c8, .int .i64 writer, .int .i64 n]) (t := 38) ?hr9 ?_; (case hd9 => rfl); (case hg9 => rfl); (case hr9 => first | (go_simp; done) | (go_simp; rfl)); intro g9 hg9 w9 hbox9 hb9; have G9 := Aside0.mk hg9; clear hg9; have q8 := (hb9.block g8 (blk_lt hbox8)).trans hbox8) | ((with_reducible refine gate_ (.load 28 (.tmp 8)) rfl ?_); refine wpList_load_all rfl 28 (.tmp 8) rfl (g := g8) (off := 0) rfl [.int .i64 a0_0, .string a0_1, .string a0_2, .int .i64 a0_3, .int .i64 a0_4, .int .i64 a0_5, .slice A0_6 l0_6.length c0_6] q8 agg28 size28 rfl ?_) | (go_at_call 13; refine (edit_Encode.calls k a0_0 a0_1 a0_2 a0_3 a0_4 a0_5 A0_6 c0_6 l0_6 b bad _ (Kd.C_below (Kd.C_below hr.out hb8) hb9) hc.out henc.out).mono ?_; rintro e_ w14 ⟨rfl, hb14⟩; have p8 := (hb14.block g8 (blk_lt q8)).trans q8; have p9 := (hb14.block g9 (blk_lt hbox9)).trans hbox9) | ((with_reducible refine gate_dst (N := 13) rfl ?_); refine box_event ?hg13 (N := 13) ?hd13 (cs := #[.int .i64 0, .int .i64 0]) (t := 64) ?hr13 ?_; (case hd13 => rfl); (case hg13 => rfl); (case hr13 => first | (go_simp; done) | (go_simp; rfl)); intro g13 hg13 w13 hbox13 hb13; have G13 := Aside0.mk hg13; clear hg13; have s8 := (hb13.block g8 (blk_lt p8)).trans p8; have s9 := (hb13.block g9 (blk_lt p9)).trans p9; have n8 : g8 ≠ g13 := Nat.ne_of_lt (Nat.lt_of_lt_of_eq (blk_lt p8) G13.out.symm); have n9 : g9 ≠ g13 := Nat.ne_of_lt (Nat.lt_of_lt_of_eq (blk_lt p9) G13.out.symm)) | ((with_reducible refine gate_store (t := 64) (p := 13) rfl ?_); refine wpList_store_all rfl rfl 64 (.tmp 13) _ rfl (g := g13) rfl [.int .i64 cl, .int .i64 ca] rfl hbox13 size64 rfl rfl ?_; intro w15 h15 d15; have t8 := (d15.block g8 (blk_lt s8) n8).trans s8; have t9 := (d15.block g9 (blk_lt s9) n9).trans s9; have z0 : w15.cell? ⟨g13, 0, none⟩ = some (.int .i64 cl) := (blk_cell h15 0).trans rfl; have z1 : w15.cell? ⟨g13, 1, none⟩ = some (.int .i64 ca) := (blk_cell h15 1).trans rfl; have z3 : w15.cell? ⟨g8, 3, none⟩ = some (.int .i64 a0_3) := (blk_cell t8 3).trans rfl; have z4 : w15.cell? ⟨g8, 4, none⟩ = some (.int .i64 a0_4) := (blk_cell t8 4).trans rfl))
  go_ret
  have e13 : W.heap.size ≤ g13 := Nat.le_trans (Nat.le_trans (Nat.le_trans hb8.size hb9.size) hb14.size) (Nat.le_of_eq G13.out.symm)
  have B15 := gr_one (below_step (below_step (below_step hb8 hb9) hb14) hb13) d15 e13
  exact ⟨rfl, B15⟩
end Go.Proofs.Ytjailboidlmadaa.P
