/- A cache as a list: what New, Len, Get and Put do, over the list of what is kept. -/
import Derived.Test.YtjailboidlmadaaRC
import Derived.Test.YtjailboidlmadaaPx7
section

namespace Go.Proofs.Ytjailboidlmadaa.P
open Go.RowKit Go.Maps Go.WideMaps Go.Proofs.YtjailboidlmadaaW.PrintWords Go.Proofs.YtjailboidlmadaaW.PrintLast Go.Proofs.YtjailboidlmadaaW.PrintMore
set_option linter.unusedVariables false
set_option linter.unusedSimpArgs false
/-- a cache whose memory lies in D, all of it there -/
structure StD (W : World) (B : Nat) (D : Nat → Prop) (N : Nat) (es : List Ent) : Prop where
  st : St W B D N es
  lt : ∀ i, D i → i < W.heap.size
variable {W W' : World} {B N g : Nat} {D S : Nat → Prop} {es : List Ent}
theorem StD.gr (h : StD W B D N es) (hg : Gr S W W') (hS : ∀ i, D i → ¬ S i) : StD W' B D N es := by
  obtain ⟨bm, sl, DM, hm⟩ := h.st
  exact ⟨⟨bm, sl, DM, hm.gr hg hS⟩, fun i hi => Nat.lt_of_lt_of_le (h.lt i hi) hg.size⟩
theorem StD.below (h : StD W B D N es) (hb : Below W.heap.size W W') : StD W' B D N es := h.gr (S := fun _ => False) (Gr.of_below hb) (fun _ _ h => h)
theorem StD.one (h : StD W B D N es) (hg : Gr (fun i => i = g) W W') (hn : ¬ D g) : StD W' B D N es := h.gr hg (fun i hi e => hn (e ▸ hi))
theorem StD.fresh (h : StD W B D N es) (hg : g = W.heap.size) : ¬ D g := fun hd => absurd (h.lt g hd) (by rw [hg]; exact Nat.lt_irrefl _)
theorem StD.wf (h : StD W B D N es) {e : Ent} (he : e ∈ es) : kwf e.key := by
  obtain ⟨bm, sl, DM, hm⟩ := h.st
  exact hm.wf e he
theorem StD.nodup (h : StD W B D N es) : (es.map Ent.key).Nodup := by
  obtain ⟨bm, sl, DM, hm⟩ := h.st
  exact hm.nodup
theorem St.bound (h : St W B D N es) : StD W B (fun i => D i ∧ i < W.heap.size) N es := by
  obtain ⟨bm, sl, DM, hm⟩ := h
  exact ⟨⟨bm, sl, DM, hm.bound⟩, fun i hi => hi.2⟩
theorem new_st (W : World) : Calls Try.prog 8 #[] W fun e w' => ∃ B, e = .returned (.pointer (some ⟨B, 0, none⟩)) ∧ Below W.heap.size W w' ∧ W.heap.size ≤ B ∧ StD w' B (fun i => W.heap.size ≤ i ∧ i < w'.heap.size) 0 [] := by
  refine (new_calls W).mono ?_
  rintro e w' ⟨B, bm, rfl, hb, hB, hm⟩
  exact ⟨B, rfl, hb, hB, St.bound ⟨bm, _, _, hm⟩⟩
theorem len_st (h : StD W B D N es) : Calls Try.prog 12 #[.pointer (some ⟨B, 0, none⟩)] W fun e w' => e = .returned (.int .i64 es.length) ∧ Below W.heap.size W w' := by
  obtain ⟨bm, sl, DM, hm⟩ := h.st
  have := len_calls hm
  rw [List.length_map] at this
  exact this
/-- an answer without rows -/
def ansN (err b0 b1 b2 : Int) (path : ByteArray) (dir : Bool) (quota writer n : Int) : Ans := ⟨err, b0, b1, b2, [], path, dir, quota, [], writer, n⟩
theorem get_none (h : StD W B D N es) (cl ca : Int) (a0_0 : Int) (a0_1 : ByteArray) (a0_2 : ByteArray) (a0_3 : Int) (a0_4 : Int) (a0_5 : Int) (A0_6 : Option Addr) (c0_6 : Nat) (l0_6 : List Int) (hk : kwf (cl, ca)) (hn : (cl, ca) ∉ es.map Ent.key) :
    Calls Try.prog 11 #[.pointer (some ⟨B, 0, none⟩), .int .i64 cl, .int .i64 ca, .agg #[.int .i64 a0_0, .string a0_1, .string a0_2, .int .i64 a0_3, .int .i64 a0_4, .int .i64 a0_5, .slice A0_6 l0_6.length c0_6]] W fun e w' =>
      e = .returned (.tuple #[.agg #[.int .i64 0, .int .i64 0, .int .i64 0, .int .i64 0, .slice none 0 0, .string ⟨#[]⟩, .bool false, .int .i64 0, .slice none 0 0, .int .i64 0, .int .i64 0], .bool false, .int .i64 0]) ∧ Below W.heap.size W w' := by
  obtain ⟨bm, sl, DM, hm⟩ := h.st
  exact get_miss hm cl ca a0_0 a0_1 a0_2 a0_3 a0_4 a0_5 A0_6 c0_6 l0_6 hk hn
theorem get_odd (h : StD W B D N es) (cl ca : Int) (a0_0 : Int) (a0_1 : ByteArray) (a0_2 : ByteArray) (a0_3 : Int) (a0_4 : Int) (a0_5 : Int) (A0_6 : Option Addr) (c0_6 : Nat) (l0_6 : List Int) {en : Ent} (he : en ∈ es) (hk : en.key = (cl, ca))
    (k : Nat) (b : ByteArray) (bad : Int) (hr : Kd.C (Kd.int .i64) W A0_6 l0_6.length l0_6) (hc : l0_6.length ≤ c0_6) (henc : edit_Encode.f k a0_0 a0_1 a0_2 a0_3 a0_4 a0_5 l0_6 = some (b, bad)) (hb : bad ≠ 0 ∨ b.toList ≠ en.bytes.toList) :
    Calls Try.prog 11 #[.pointer (some ⟨B, 0, none⟩), .int .i64 cl, .int .i64 ca, .agg #[.int .i64 a0_0, .string a0_1, .string a0_2, .int .i64 a0_3, .int .i64 a0_4, .int .i64 a0_5, .slice A0_6 l0_6.length c0_6]] W fun e w' =>
      e = .returned (.tuple #[.agg #[.int .i64 0, .int .i64 0, .int .i64 0, .int .i64 0, .slice none 0 0, .string ⟨#[]⟩, .bool false, .int .i64 0, .slice none 0 0, .int .i64 0, .int .i64 0], .bool false, .int .i64 14]) ∧ Below W.heap.size W w' := by
  obtain ⟨bm, sl, DM, hm⟩ := h.st
  obtain ⟨key, bytes, err, b0, b1, b2, names, path, dir, quota, blocks, writer, n⟩ := en
  obtain rfl : key = (cl, ca) := hk
  by_cases h0 : bad = 0
  · exact get_bad2 hm cl ca a0_0 a0_1 a0_2 a0_3 a0_4 a0_5 A0_6 c0_6 l0_6 bytes err b0 b1 b2 names path dir quota blocks writer n he k b bad hr hc henc h0 (hb.resolve_left (fun h => h h0))
  · exact get_bad1 hm cl ca a0_0 a0_1 a0_2 a0_3 a0_4 a0_5 A0_6 c0_6 l0_6 bytes err b0 b1 b2 names path dir quota blocks writer n he k b bad hr hc henc h0
theorem get_kept (h : StD W B D N es) (cl ca : Int) (a0_0 : Int) (a0_1 : ByteArray) (a0_2 : ByteArray) (a0_3 : Int) (a0_4 : Int) (a0_5 : Int) (A0_6 : Option Addr) (c0_6 : Nat) (l0_6 : List Int) (bytes : ByteArray) (err b0 b1 b2 : Int) (names : List ByteArray) (path : ByteArray) (dir : Bool) (quota : Int) (blocks : List S32) (writer n : Int)
    (he : (⟨(cl, ca), bytes, ⟨err, b0, b1, b2, names, path, dir, quota, blocks, writer, n⟩⟩ : Ent) ∈ es) (k : Nat) (b : ByteArray) (hr : Kd.C (Kd.int .i64) W A0_6 l0_6.length l0_6) (hc : l0_6.length ≤ c0_6) (henc : edit_Encode.f k a0_0 a0_1 a0_2 a0_3 a0_4 a0_5 l0_6 = some (b, 0)) (hb : b.toList = bytes.toList) :
    Calls Try.prog 11 #[.pointer (some ⟨B, 0, none⟩), .int .i64 cl, .int .i64 ca, .agg #[.int .i64 a0_0, .string a0_1, .string a0_2, .int .i64 a0_3, .int .i64 a0_4, .int .i64 a0_5, .slice A0_6 l0_6.length c0_6]] W fun e w' =>
      ∃ B4 d4 B8 d8, e = .returned (.tuple #[.agg #[.int .i64 err, .int .i64 b0, .int .i64 b1, .int .i64 b2, .slice B4 names.length d4, .string path, .bool dir, .int .i64 quota, .slice B8 blocks.length d8, .int .i64 writer, .int .i64 n], .bool true, .int .i64 0]) ∧ Kd.R Kd.string 9 w' W.heap.size (fun _ => True) (.slice B4 names.length d4) names ∧ Kd.R k32 32 w' W.heap.size (fun _ => True) (.slice B8 blocks.length d8) blocks ∧ Below W.heap.size W w' := by
  obtain ⟨bm, sl, DM, hm⟩ := h.st
  exact get_hit hm cl ca a0_0 a0_1 a0_2 a0_3 a0_4 a0_5 A0_6 c0_6 l0_6 bytes err b0 b1 b2 names path dir quota blocks writer n he k b hr hc henc hb
theorem put_kept (h : StD W B D N es) (cl ca : Int) (a0_0 : Int) (a0_1 : ByteArray) (a0_2 : ByteArray) (a0_5 : Int) (A0_6 : Option Addr) (c0_6 : Nat) (l0_6 : List Int) (err b0 b1 b2 : Int) (names : List ByteArray) (path : ByteArray) (dir : Bool) (quota : Int) (blocks : List S32) (writer n : Int) (A4 A8 : Option Addr) (c4 c8 : Nat)
    (k : Nat) (b : ByteArray) (hr : Kd.C (Kd.int .i64) W A0_6 l0_6.length l0_6) (hc : l0_6.length ≤ c0_6) (henc : edit_Encode.f k a0_0 a0_1 a0_2 cl ca a0_5 l0_6 = some (b, 0)) (hwf : kwf (cl, ca)) (hlen : es.length ≤ 1000000) (hN : N ≤ 1000000)
    (hr4 : ∀ W', Gr D W W' → Kd.C Kd.string W' A4 names.length names) (hc4 : names.length ≤ c4) (hr8 : ∀ W', Gr D W W' → Kd.C k32 W' A8 blocks.length blocks) (hc8 : blocks.length ≤ c8) (hft : (⟨err, b0, b1, b2, names, path, dir, quota, blocks, writer, n⟩ : Ans).fits)
    (hcase : (∃ en ∈ es, en.key = (cl, ca) ∧ en.bytes.toList = b.toList) ∨ (cl, ca) ∉ es.map Ent.key) :
    Calls Try.prog 10 #[.pointer (some ⟨B, 0, none⟩), .int .i64 cl, .int .i64 ca, .agg #[.int .i64 a0_0, .string a0_1, .string a0_2, .int .i64 cl, .int .i64 ca, .int .i64 a0_5, .slice A0_6 l0_6.length c0_6], .agg #[.int .i64 err, .int .i64 b0, .int .i64 b1, .int .i64 b2, .slice A4 names.length c4, .string path, .bool dir, .int .i64 quota, .slice A8 blocks.length c8, .int .i64 writer, .int .i64 n]] W fun e w' =>
      e = .returned (.int .i64 0) ∧ StD w' B (fun i => (D i ∨ W.heap.size ≤ i) ∧ i < w'.heap.size) (N + 1) (putE es ⟨(cl, ca), b, ⟨err, b0, b1, b2, names, path, dir, quota, blocks, writer, n⟩⟩) ∧ Gr D W w' := by
  obtain ⟨bm, sl, DM, hm⟩ := h.st
  refine (put_ok hm cl ca a0_0 a0_1 a0_2 cl ca a0_5 A0_6 c0_6 l0_6 err b0 b1 b2 names path dir quota blocks writer n A4 A8 c4 c8 k b 0 hr hc henc rfl ⟨rfl, rfl⟩ hwf rfl hlen hN h.lt hr4 hc4 hr8 hc8 hft hcase).mono ?_
  rintro e w' ⟨rfl, hs, hg⟩
  exact ⟨rfl, hs.bound, hg⟩
end Go.Proofs.Ytjailboidlmadaa.P
end

section

namespace Go.Proofs.Ytjailboidlmadaa.P
open Go.RowKit Go.Maps Go.WideMaps Go.Proofs.YtjailboidlmadaaW.PrintWords Go.Proofs.YtjailboidlmadaaW.PrintLast Go.Proofs.YtjailboidlmadaaW.PrintMore
set_option linter.unusedVariables false
variable {W W' : World} {B N : Nat} {D : Nat → Prop} {es : List Ent}
theorem cN {α : Type} (d : Kd α) (w : World) : d.C w none 0 ([] : List α) := Kd.C_nil d w
/-- the answer that has a number alone -/
def ans1 (n : Int) : Ans := ⟨0, 0, 0, 0, [], ⟨#[]⟩, false, 0, [], 0, n⟩
theorem fits1 (n : Int) : (ans1 n).fits := ⟨(show (0 : Nat) * 16 ≤ 140737488355328 by decide), (show (0 : Nat) * 24 ≤ 140737488355328 by decide)⟩
theorem get_none0 (h : StD W B D N es) (cl ca kd e3 e4 : Int) (pa : ByteArray) (hk : kwf (cl, ca)) (hn : (cl, ca) ∉ es.map Ent.key) :
    Calls Try.prog 11 #[.pointer (some ⟨B, 0, none⟩), .int .i64 cl, .int .i64 ca, .agg #[.int .i64 kd, .string pa, .string ⟨#[]⟩, .int .i64 e3, .int .i64 e4, .int .i64 0, .slice none 0 0]] W fun e w' => e = .returned (.tuple #[.agg #[.int .i64 0, .int .i64 0, .int .i64 0, .int .i64 0, .slice none 0 0, .string ⟨#[]⟩, .bool false, .int .i64 0, .slice none 0 0, .int .i64 0, .int .i64 0], .bool false, .int .i64 0]) ∧ Below W.heap.size W w' :=
  get_none h cl ca kd pa ⟨#[]⟩ e3 e4 0 none 0 [] hk hn
theorem get_odd0 (h : StD W B D N es) (cl ca kd e3 e4 : Int) (pa : ByteArray) {en : Ent} (he : en ∈ es) (hk : en.key = (cl, ca)) (k : Nat) (b : ByteArray) (bad : Int) (henc : edit_Encode.f k kd pa ⟨#[]⟩ e3 e4 0 [] = some (b, bad)) (hb : bad ≠ 0 ∨ b.toList ≠ en.bytes.toList) :
    Calls Try.prog 11 #[.pointer (some ⟨B, 0, none⟩), .int .i64 cl, .int .i64 ca, .agg #[.int .i64 kd, .string pa, .string ⟨#[]⟩, .int .i64 e3, .int .i64 e4, .int .i64 0, .slice none 0 0]] W fun e w' => e = .returned (.tuple #[.agg #[.int .i64 0, .int .i64 0, .int .i64 0, .int .i64 0, .slice none 0 0, .string ⟨#[]⟩, .bool false, .int .i64 0, .slice none 0 0, .int .i64 0, .int .i64 0], .bool false, .int .i64 14]) ∧ Below W.heap.size W w' :=
  get_odd h cl ca kd pa ⟨#[]⟩ e3 e4 0 none 0 [] he hk k b bad (cN _ _) (Nat.le_refl _) henc hb
theorem get_kept0 (h : StD W B D N es) (cl ca kd e3 e4 : Int) (pa : ByteArray) (bytes : ByteArray) (n : Int) (he : (⟨(cl, ca), bytes, ans1 n⟩ : Ent) ∈ es) (k : Nat) (b : ByteArray) (henc : edit_Encode.f k kd pa ⟨#[]⟩ e3 e4 0 [] = some (b, 0)) (hb : b.toList = bytes.toList) :
    Calls Try.prog 11 #[.pointer (some ⟨B, 0, none⟩), .int .i64 cl, .int .i64 ca, .agg #[.int .i64 kd, .string pa, .string ⟨#[]⟩, .int .i64 e3, .int .i64 e4, .int .i64 0, .slice none 0 0]] W fun e w' => ∃ B4 d4 B8 d8, e = .returned (.tuple #[.agg #[.int .i64 0, .int .i64 0, .int .i64 0, .int .i64 0, .slice B4 0 d4, .string ⟨#[]⟩, .bool false, .int .i64 0, .slice B8 0 d8, .int .i64 0, .int .i64 n], .bool true, .int .i64 0]) ∧ Below W.heap.size W w' := by
  refine (get_kept h cl ca kd pa ⟨#[]⟩ e3 e4 0 none 0 [] bytes 0 0 0 0 [] ⟨#[]⟩ false 0 [] 0 n he k b (cN _ _) (Nat.le_refl _) henc hb).mono ?_
  rintro e w' ⟨B4, d4, B8, d8, rfl, _, _, hb'⟩
  exact ⟨B4, d4, B8, d8, rfl, hb'⟩
theorem put_kept0 (h : StD W B D N es) (cl ca kd n : Int) (pa : ByteArray) (k : Nat) (b : ByteArray) (henc : edit_Encode.f k kd pa ⟨#[]⟩ cl ca 0 [] = some (b, 0)) (hwf : kwf (cl, ca)) (hlen : es.length ≤ 1000000) (hN : N ≤ 1000000)
    (hcase : (∃ en ∈ es, en.key = (cl, ca) ∧ en.bytes.toList = b.toList) ∨ (cl, ca) ∉ es.map Ent.key) :
    Calls Try.prog 10 #[.pointer (some ⟨B, 0, none⟩), .int .i64 cl, .int .i64 ca, .agg #[.int .i64 kd, .string pa, .string ⟨#[]⟩, .int .i64 cl, .int .i64 ca, .int .i64 0, .slice none 0 0], .agg #[.int .i64 0, .int .i64 0, .int .i64 0, .int .i64 0, .slice none 0 0, .string ⟨#[]⟩, .bool false, .int .i64 0, .slice none 0 0, .int .i64 0, .int .i64 n]] W fun e w' =>
      e = .returned (.int .i64 0) ∧ StD w' B (fun i => (D i ∨ W.heap.size ≤ i) ∧ i < w'.heap.size) (N + 1) (putE es ⟨(cl, ca), b, ans1 n⟩) ∧ Gr D W w' :=
  put_kept h cl ca kd pa ⟨#[]⟩ 0 none 0 [] 0 0 0 0 [] ⟨#[]⟩ false 0 [] 0 n none none 0 0 k b (cN _ _) (Nat.le_refl _) henc hwf hlen hN (fun _ _ => cN _ _) (Nat.le_refl _) (fun _ _ => cN _ _) (Nat.le_refl _) (fits1 n) hcase
end Go.Proofs.Ytjailboidlmadaa.P
end

section

namespace Go.Proofs.Ytjailboidlmadaa.P
open Go.RowKit Go.Maps Go.WideMaps Go.Proofs.YtjailboidlmadaaW.PrintWords Go.Proofs.YtjailboidlmadaaW.PrintLast Go.Proofs.YtjailboidlmadaaW.PrintMore
attribute [local go_sem] max2_int min2_int max_two min_two max_three min_three max_four min_four
set_option linter.unusedVariables false
set_option linter.unusedSimpArgs false
variable {W : World} {B N bm : Nat} {D : Nat → Prop} {sl : Value} {DM : DataW Value} {os : List (Int × Int)} {es : List Ent}
theorem ex_w7 : kwf (1, 7) := ⟨by decide, by decide⟩
theorem ex_w8 : kwf (1, 8) := ⟨by decide, by decide⟩
theorem ex_nil : ((1, 7) : Int × Int) ∉ ([] : List Ent).map Ent.key := by simp
theorem ex_put (b : ByteArray) : putE [] ⟨(1, 7), b, ans1 5⟩ = [⟨(1, 7), b, ans1 5⟩] := rfl
theorem ex_mem (b : ByteArray) : (⟨(1, 7), b, ans1 5⟩ : Ent) ∈ putE [] ⟨(1, 7), b, ans1 5⟩ := List.mem_singleton.2 rfl
theorem ex_key (b : ByteArray) : (⟨(1, 7), b, ans1 5⟩ : Ent).key = (1, 7) := rfl
theorem ex_no (b : ByteArray) : ((1, 8) : Int × Int) ∉ (putE [] ⟨(1, 7), b, ans1 5⟩).map Ent.key := by rw [ex_put]; simp
theorem ex_len (b : ByteArray) : (putE [] ⟨(1, 7), b, ans1 5⟩).length = 1 := rfl
theorem ex_i0 : ([] : List Ent).length ≤ 1000000 := by decide
theorem ex_n0 : 0 ≤ 1000000 := by decide
set_option maxHeartbeats 400000 in
set_option maxRecDepth 100000 in
theorem examples_calls (k : Nat) (bA bB : ByteArray) (hA : edit_Encode.f k 1 ⟨#[47, 97]⟩ ⟨#[]⟩ 1 7 0 [] = some (bA, 0)) (hB_ : edit_Encode.f k 1 ⟨#[47, 98]⟩ ⟨#[]⟩ 1 7 0 [] = some (bB, 0)) (hne : bB.toList ≠ bA.toList) (W : World) :
    Calls Try.prog 7 #[] W fun e w' => e = .returned (.bool true) ∧ Below W.heap.size W w' := by
  have hu28 := Try.underlying28
  have hu32 := Try.underlying32
  have hu36 := Try.underlying36
  have hu38 := Try.underlying38
  have hu62 := Try.underlying62
  have hu64 := Try.underlying64
  have hu66 := Try.underlying66
  have HA := Aside0.mk hA
  have HBb := Aside0.mk hB_
  replace hne := Aside0.mk hne
  have hl1 := ex_len bA
  clear hA hB_
  go_enter Try.func7, Try.ntmps7
  go_wp2_with (first | (go_at_call 8; refine (new_st _).mono ?_; rintro e_ w1 ⟨B, rfl, HB, hB, hS⟩) | ((with_reducible refine gate_dst (N := 2) rfl ?_); refine box_event ?hg2 (N := 2) ?hd2 (cs := #[.int .i64 0, .string ⟨#[]⟩, .string ⟨#[]⟩, .int .i64 0, .int .i64 0, .int .i64 0, .slice none 0 0]) (t := 28) ?hr2 ?_; (case hd2 => rfl); (case hg2 => rfl); (case hr2 => first | (go_simp; done) | (go_simp; rfl)); intro g2 hg2 w2 hbox2 hb2; have G2 := Aside0.mk hg2; clear hg2; have nd_g2 := hS.fresh G2.out; have ge_g2 : W.heap.size ≤ g2 := Nat.le_trans HB.size (Nat.le_of_eq G2.out.symm); have hS := hS.below hb2; have HB := below_step HB hb2; have q_g2 := hbox2) | ((with_reducible refine gate_store (t := 28) (p := 2) rfl ?_); refine wpList_store_all rfl rfl 28 (.tmp 2) _ rfl (g := g2) rfl [.int .i64 1, .string ⟨#[47, 97]⟩, .string ⟨#[]⟩, .int .i64 1, .int .i64 7, .int .i64 0, .slice none 0 0] rfl q_g2 size28 rfl rfl ?_; intro w3 h3 d3; have hS := hS.one d3 nd_g2; have HB := gr_one HB d3 ge_g2; have q_g2 := h3) | ((with_reducible refine gate_dst (N := 3) rfl ?_); refine box_event ?hg4 (N := 3) ?hd4 (cs := #[.int .i64 0, .string ⟨#[]⟩, .string ⟨#[]⟩, .int .i64 0, .int .i64 0, .int .i64 0, .slice none 0 0]) (t := 28) ?hr4 ?_; (case hd4 => rfl); (case hg4 => rfl); (case hr4 => first | (go_simp; done) | (go_simp; rfl)); intro g4 hg4 w4 hbox4 hb4; have G4 := Aside0.mk hg4; clear hg4; have n_g2_g4 : g2 ≠ g4 := Nat.ne_of_lt (Nat.lt_of_lt_of_eq (blk_lt q_g2) G4.out.symm); have nd_g4 := hS.fresh G4.out; have ge_g4 : W.heap.size ≤ g4 := Nat.le_trans HB.size (Nat.le_of_eq G4.out.symm); have q_g2 := (hb4.block g2 (blk_lt q_g2)).trans q_g2; have hS := hS.below hb4; have HB := below_step HB hb4; have q_g4 := hbox4; have l1_4 : w1.heap.size ≤ g4 := Nat.le_trans (Nat.le_trans hb2.size d3.size) (Nat.le_of_eq G4.out.symm)) | ((with_reducible refine gate_store (t := 28) (p := 3) rfl ?_); refine wpList_store_all rfl rfl 28 (.tmp 3) _ rfl (g := g4) rfl [.int .i64 1, .string ⟨#[47, 98]⟩, .string ⟨#[]⟩, .int .i64 1, .int .i64 7, .int .i64 0, .slice none 0 0] rfl q_g4 size28 rfl rfl ?_; intro w5 h5 d5; have q_g2 := (d5.block g2 (blk_lt q_g2) n_g2_g4).trans q_g2; have hS := hS.one d5 nd_g4; have HB := gr_one HB d5 ge_g4; have q_g4 := h5) | ((with_reducible refine gate_ (.load 28 (.tmp 2)) rfl ?_); refine wpList_load_all rfl 28 (.tmp 2) rfl (g := g2) (off := 0) rfl [.int .i64 1, .string ⟨#[47, 97]⟩, .string ⟨#[]⟩, .int .i64 1, .int .i64 7, .int .i64 0, .slice none 0 0] q_g2 agg28 size28 rfl ?_) | ((with_reducible refine gate_ (.load 28 (.tmp 3)) rfl ?_); refine wpList_load_all rfl 28 (.tmp 3) rfl (g := g4) (off := 0) rfl [.int .i64 1, .string ⟨#[47, 98]⟩, .string ⟨#[]⟩, .int .i64 1, .int .i64 7, .int .i64 0, .slice none 0 0] q_g4 agg28 size28 rfl ?_) | (go_at_call 10; (with_reducible refine (put_kept0 hS 1 7 1 5 ⟨#[47, 97]⟩ k bA HA.out ex_w7 ex_i0 ex_n0 (.inr ex_nil)).mono ?_); rintro e_ w6 ⟨rfl, hS6, hG6⟩; have q_g2 := (hG6.block g2 (blk_lt q_g2) (fun h => absurd h.2 (Nat.not_lt.2 (Nat.le_of_eq G2.out.symm)))).trans q_g2; have q_g4 := (hG6.block g4 (blk_lt q_g4) (fun h => absurd (Nat.lt_of_lt_of_le h.2 l1_4) (Nat.lt_irrefl _))).trans q_g4; have HB := (((Gr.of_below HB (S := fun i => W.heap.size ≤ i)).then_ hG6 (fun i hi => .inl hi.1)).below (Nat.le_refl _) (fun i hi => hi)); have hS := hS6) | (go_at_call 11; (with_reducible refine (get_kept0 hS 1 7 1 1 7 ⟨#[47, 97]⟩ bA 5 (ex_mem bA) k bA HA.out rfl).mono ?_); rintro e_ w7 ⟨B4, d4, B8, d8, rfl, hb7⟩; have q_g2 := (hb7.block g2 (blk_lt q_g2)).trans q_g2; have q_g4 := (hb7.block g4 (blk_lt q_g4)).trans q_g4; have hS := hS.below hb7; have HB := below_step HB hb7) | ((with_reducible refine gate_dst (N := 5) rfl ?_); refine box_event ?hg8 (N := 5) ?hd8 (cs := #[.int .i64 0, .int .i64 0, .int .i64 0, .int .i64 0, .slice none 0 0, .string ⟨#[]⟩, .bool false, .int .i64 0, .slice none 0 0, .int .i64 0, .int .i64 0]) (t := 38) ?hr8 ?_; (case hd8 => rfl); (case hg8 => rfl); (case hr8 => first | (go_simp; done) | (go_simp; rfl)); intro g8 hg8 w8 hbox8 hb8; have G8 := Aside0.mk hg8; clear hg8; have n_g2_g8 : g2 ≠ g8 := Nat.ne_of_lt (Nat.lt_of_lt_of_eq (blk_lt q_g2) G8.out.symm); have n_g4_g8 : g4 ≠ g8 := Nat.ne_of_lt (Nat.lt_of_lt_of_eq (blk_lt q_g4) G8.out.symm); have nd_g8 := hS.fresh G8.out; have ge_g8 : W.heap.size ≤ g8 := Nat.le_trans HB.size (Nat.le_of_eq G8.out.symm); have q_g2 := (hb8.block g2 (blk_lt q_g2)).trans q_g2; have q_g4 := (hb8.block g4 (blk_lt q_g4)).trans q_g4; have hS := hS.below hb8; have HB := below_step HB hb8; have q_g8 := hbox8) | ((with_reducible refine gate_store (t := 38) (p := 5) rfl ?_); refine wpList_store_all rfl rfl 38 (.tmp 5) _ rfl (g := g8) rfl [.int .i64 0, .int .i64 0, .int .i64 0, .int .i64 0, .slice B4 0 d4, .string ⟨#[]⟩, .bool false, .int .i64 0, .slice B8 0 d8, .int .i64 0, .int .i64 5] rfl q_g8 size38 rfl rfl ?_; intro w9 h9 d9; have q_g2 := (d9.block g2 (blk_lt q_g2) n_g2_g8).trans q_g2; have q_g4 := (d9.block g4 (blk_lt q_g4) n_g4_g8).trans q_g4; have hS := hS.one d9 nd_g8; have HB := gr_one HB d9 ge_g8; have q_g8 := h9; have xa : w9.cell? ⟨g8, 10, none⟩ = some (.int .i64 5) := (blk_cell h9 10).trans rfl) | (go_at_call 11; (with_reducible refine (get_odd0 hS 1 7 1 1 7 ⟨#[47, 98]⟩ (en := ⟨(1, 7), bA, ans1 5⟩) (ex_mem bA) (ex_key bA) k bB 0 HBb.out (.inr hne.out)).mono ?_); rintro e_ w10 ⟨rfl, hb10⟩; have q_g2 := (hb10.block g2 (blk_lt q_g2)).trans q_g2; have q_g4 := (hb10.block g4 (blk_lt q_g4)).trans q_g4; have q_g8 := (hb10.block g8 (blk_lt q_g8)).trans q_g8; have hS := hS.below hb10; have HB := below_step HB hb10) | ((with_reducible refine gate_dst (N := 8) rfl ?_); refine box_event ?hg11 (N := 8) ?hd11 (cs := #[.int .i64 0, .int .i64 0, .int .i64 0, .int .i64 0, .slice none 0 0, .string ⟨#[]⟩, .bool false, .int .i64 0, .slice none 0 0, .int .i64 0, .int .i64 0]) (t := 38) ?hr11 ?_; (case hd11 => rfl); (case hg11 => rfl); (case hr11 => first | (go_simp; done) | (go_simp; rfl)); intro g11 hg11 w11 hbox11 hb11; have G11 := Aside0.mk hg11; clear hg11; have n_g2_g11 : g2 ≠ g11 := Nat.ne_of_lt (Nat.lt_of_lt_of_eq (blk_lt q_g2) G11.out.symm); have n_g4_g11 : g4 ≠ g11 := Nat.ne_of_lt (Nat.lt_of_lt_of_eq (blk_lt q_g4) G11.out.symm); have n_g8_g11 : g8 ≠ g11 := Nat.ne_of_lt (Nat.lt_of_lt_of_eq (blk_lt q_g8) G11.out.symm); have nd_g11 := hS.fresh G11.out; have ge_g11 : W.heap.size ≤ g11 := Nat.le_trans HB.size (Nat.le_of_eq G11.out.symm); have q_g2 := (hb11.block g2 (blk_lt q_g2)).trans q_g2; have q_g4 := (hb11.block g4 (blk_lt q_g4)).trans q_g4; have q_g8 := (hb11.block g8 (blk_lt q_g8)).trans q_g8; have hS := hS.below hb11; have HB := below_step HB hb11; have q_g11 := hbox11) | ((with_reducible refine gate_store (t := 38) (p := 8) rfl ?_); refine wpList_store_all rfl rfl 38 (.tmp 8) _ rfl (g := g11) rfl [.int .i64 0, .int .i64 0, .int .i64 0, .int .i64 0, .slice none 0 0, .string ⟨#[]⟩, .bool false, .int .i64 0, .slice none 0 0, .int .i64 0, .int .i64 0] rfl q_g11 size38 rfl rfl ?_; intro w12 h12 d12; have q_g2 := (d12.block g2 (blk_lt q_g2) n_g2_g11).trans q_g2; have q_g4 := (d12.block g4 (blk_lt q_g4) n_g4_g11).trans q_g4; have q_g8 := (d12.block g8 (blk_lt q_g8) n_g8_g11).trans q_g8; have hS := hS.one d12 nd_g11; have HB := gr_one HB d12 ge_g11; have q_g11 := h12) | (go_at_call 11; (with_reducible refine (get_none0 hS 1 8 1 1 7 ⟨#[47, 97]⟩ ex_w8 (ex_no bA)).mono ?_); rintro e_ w13 ⟨rfl, hb13⟩; have q_g2 := (hb13.block g2 (blk_lt q_g2)).trans q_g2; have q_g4 := (hb13.block g4 (blk_lt q_g4)).trans q_g4; have q_g8 := (hb13.block g8 (blk_lt q_g8)).trans q_g8; have q_g11 := (hb13.block g11 (blk_lt q_g11)).trans q_g11; have hS := hS.below hb13; have HB := below_step HB hb13) | ((with_reducible refine gate_dst (N := 11) rfl ?_); refine box_event ?hg14 (N := 11) ?hd14 (cs := #[.int .i64 0, .int .i64 0, .int .i64 0, .int .i64 0, .slice none 0 0, .string ⟨#[]⟩, .bool false, .int .i64 0, .slice none 0 0, .int .i64 0, .int .i64 0]) (t := 38) ?hr14 ?_; (case hd14 => rfl); (case hg14 => rfl); (case hr14 => first | (go_simp; done) | (go_simp; rfl)); intro g14 hg14 w14 hbox14 hb14; have G14 := Aside0.mk hg14; clear hg14; have n_g2_g14 : g2 ≠ g14 := Nat.ne_of_lt (Nat.lt_of_lt_of_eq (blk_lt q_g2) G14.out.symm); have n_g4_g14 : g4 ≠ g14 := Nat.ne_of_lt (Nat.lt_of_lt_of_eq (blk_lt q_g4) G14.out.symm); have n_g8_g14 : g8 ≠ g14 := Nat.ne_of_lt (Nat.lt_of_lt_of_eq (blk_lt q_g8) G14.out.symm); have n_g11_g14 : g11 ≠ g14 := Nat.ne_of_lt (Nat.lt_of_lt_of_eq (blk_lt q_g11) G14.out.symm); have nd_g14 := hS.fresh G14.out; have ge_g14 : W.heap.size ≤ g14 := Nat.le_trans HB.size (Nat.le_of_eq G14.out.symm); have q_g2 := (hb14.block g2 (blk_lt q_g2)).trans q_g2; have q_g4 := (hb14.block g4 (blk_lt q_g4)).trans q_g4; have q_g8 := (hb14.block g8 (blk_lt q_g8)).trans q_g8; have q_g11 := (hb14.block g11 (blk_lt q_g11)).trans q_g11; have hS := hS.below hb14; have HB := below_step HB hb14; have q_g14 := hbox14) | ((with_reducible refine gate_store (t := 38) (p := 11) rfl ?_); refine wpList_store_all rfl rfl 38 (.tmp 11) _ rfl (g := g14) rfl [.int .i64 0, .int .i64 0, .int .i64 0, .int .i64 0, .slice none 0 0, .string ⟨#[]⟩, .bool false, .int .i64 0, .slice none 0 0, .int .i64 0, .int .i64 0] rfl q_g14 size38 rfl rfl ?_; intro w15 h15 d15; have q_g2 := (d15.block g2 (blk_lt q_g2) n_g2_g14).trans q_g2; have q_g4 := (d15.block g4 (blk_lt q_g4) n_g4_g14).trans q_g4; have q_g8 := (d15.block g8 (blk_lt q_g8) n_g8_g14).trans q_g8; have q_g11 := (d15.block g11 (blk_lt q_g11) n_g11_g14).trans q_g11; have hS := hS.one d15 nd_g14; have HB := gr_one HB d15 ge_g14; have q_g14 := h15; have xa : w15.cell? ⟨g8, 10, none⟩ = some (.int .i64 5) := (blk_cell q_g8 10).trans rfl) | (go_at_call 12; refine (len_st hS).mono ?_; rintro e_ w16 ⟨rfl, hb16⟩; have q_g2 := (hb16.block g2 (blk_lt q_g2)).trans q_g2; have q_g4 := (hb16.block g4 (blk_lt q_g4)).trans q_g4; have q_g8 := (hb16.block g8 (blk_lt q_g8)).trans q_g8; have q_g11 := (hb16.block g11 (blk_lt q_g11)).trans q_g11; have q_g14 := (hb16.block g14 (blk_lt q_g14)).trans q_g14; have hS := hS.below hb16; have HB := below_step HB hb16))
  go_ret
  exact ⟨rfl, HB⟩
end Go.Proofs.Ytjailboidlmadaa.P
end

section

namespace Go.Proofs.Ytjailboidlmadaa.P
open Go.RowKit Go.Maps Go.WideMaps Go.Proofs.YtjailboidlmadaaW.PrintWords Go.Proofs.YtjailboidlmadaaW.PrintLast Go.Proofs.YtjailboidlmadaaW.PrintMore
attribute [local go_sem] max2_int min2_int max_two min_two max_three min_three max_four min_four
set_option linter.unusedVariables false
set_option linter.unusedSimpArgs false
variable {W : World} {B N bm : Nat} {D : Nat → Prop} {sl : Value} {DM : DataW Value} {os : List (Int × Int)} {es : List Ent}
theorem size3 : (Try.prog.info? 3).map (·.size) = some 1 := by kernel_rfl
section
variable {P : Program} {ops : Array Oper} {rest : List Oper} {o : Oper} {a : Act} {Q : Exit → Act → World → Prop} {W : World}
theorem wpList_store_at (hN : o.dst = none) (hgd : o.guard = none) (t : TypeId) (p x : Operand) (ho : o.op = .store t p x) {g j : Nat} {e : TypeId} {c : Array Value} (haddr : a.eval p = .pointer (some ⟨g, j, none⟩)) (v : Value) (hx : a.eval x = v) (hv : v.cells.toList = [v]) (hh : W.heap[g]? = some (.cells c e (0, 0)))
    (ht : (P.info? t).map (·.size) = some 1) (hj : j < c.size) (h1 : v.oneCell' = true) (h : ∀ w1, w1.heap[g]? = some (.cells (c.setIfInBounds j v) e (0, 0)) → Gr (fun i => i = g) W w1 → wpList P ops Q rest a w1) : wpList P ops Q (o :: rest) a W := by
  refine wpList_plain hgd fun K hK => ?_
  have hrun := run_store_run (P := P) (o := j) t v [v] hh hv ht (by show j + 1 ≤ c.size; omega) (fun q hq => by rw [List.mem_singleton.1 hq]; exact h1)
  unfold Oper.wp execOp
  simp only [ho, haddr, hx, Sem.run_bind, Sem.run_pure, Result.andThen_ok, hrun]
  show K (a.put o.dst undef) _
  rw [hN]
  exact hK _ _ (h _ (heap_setCell_same W g j c e v hh) ((Gr.refl _ _).setCells _ (.inl rfl)))
end
theorem Gr.out_of {S : Nat → Prop} {w w' : World} {B : Nat} (hb : Below B w w) : True := trivial
/-- Put where the edit is none -/
theorem put_none {W : World} {B N : Nat} {D : Nat → Prop} {es : List Ent} (h : StD W B D N es) (cl ca : Int) (a0_0 : Int) (a0_1 : ByteArray) (a0_2 : ByteArray) (a0_3 : Int) (a0_4 : Int) (a0_5 : Int) (A0_6 : Option Addr) (c0_6 : Nat) (l0_6 : List Int) (err b0 b1 b2 : Int) (names : List ByteArray) (path : ByteArray) (dir : Bool) (quota : Int) (blocks : List S32) (writer n : Int) (A4 A8 : Option Addr) (c4 c8 : Nat)
    (k : Nat) (b : ByteArray) (bad : Int) (hr : Kd.C (Kd.int .i64) W A0_6 l0_6.length l0_6) (hc : l0_6.length ≤ c0_6) (henc : edit_Encode.f k a0_0 a0_1 a0_2 a0_3 a0_4 a0_5 l0_6 = some (b, bad)) (hbad : bad ≠ 0) :
    Calls Try.prog 10 #[.pointer (some ⟨B, 0, none⟩), .int .i64 cl, .int .i64 ca, .agg #[.int .i64 a0_0, .string a0_1, .string a0_2, .int .i64 a0_3, .int .i64 a0_4, .int .i64 a0_5, .slice A0_6 l0_6.length c0_6], .agg #[.int .i64 err, .int .i64 b0, .int .i64 b1, .int .i64 b2, .slice A4 names.length c4, .string path, .bool dir, .int .i64 quota, .slice A8 blocks.length c8, .int .i64 writer, .int .i64 n]] W fun e w' => e = .returned (.int .i64 1) ∧ Below W.heap.size W w' := by
  obtain ⟨bm, sl, DM, hm⟩ := h.st
  exact put_bad hm cl ca a0_0 a0_1 a0_2 a0_3 a0_4 a0_5 A0_6 c0_6 l0_6 err b0 b1 b2 names path dir quota blocks writer n A4 A8 c4 c8 k b bad hr hc henc hbad
theorem gr_low {w W W' : World} {D : Nat → Prop} (hb : Below w.heap.size w W) (hg : Gr D W W') (hD : ∀ i, D i → w.heap.size ≤ i) : Below w.heap.size w W' :=
  ((Gr.of_below hb (S := fun i => w.heap.size ≤ i)).then_ hg (fun i hi => .inl (hD i hi))).below (Nat.le_refl _) (fun _ h => h)
end Go.Proofs.Ytjailboidlmadaa.P
end

section

namespace Go.Proofs.Ytjailboidlmadaa.P
open Go.RowKit Go.Maps Go.WideMaps Go.Proofs.YtjailboidlmadaaW.PrintWords Go.Proofs.YtjailboidlmadaaW.PrintLast Go.Proofs.YtjailboidlmadaaW.PrintMore
attribute [local go_sem] max2_int min2_int max_two min_two max_three min_three max_four min_four
set_option linter.unusedVariables false
set_option linter.unusedSimpArgs false
variable {W : World} {B N bm : Nat} {D : Nat → Prop} {sl : Value} {DM : DataW Value} {os : List (Int × Int)} {es : List Ent}
theorem pick_at {a : Int} (ha : (Lit.int .i64 a).wf = true) {m : Int} (h0 : 0 < m) (h1 : m < 2147483648) : ∃ r : Nat, tabulariumlaw13_pick.f a m = some (r : Int) ∧ (r : Int) < m := by
  have hb : -9223372036854775808 ≤ a ∧ a ≤ 9223372036854775807 := by simpa [Lit.wf, IntKind.min, IntKind.max, IntKind.signed, IntKind.bits] using ha
  have hm : ∀ x : Int, 0 ≤ x → ∃ r : Nat, Int.tmod x m = (r : Int) ∧ (r : Int) < m := fun x hx => by
    rw [Int.tmod_eq_emod_of_nonneg hx]
    refine ⟨(x % m).toNat, (Int.toNat_of_nonneg (Int.emod_nonneg x (by omega))).symm, ?_⟩
    rw [Int.toNat_of_nonneg (Int.emod_nonneg x (by omega))]
    exact Int.emod_lt_of_pos x h0
  unfold tabulariumlaw13_pick.f
  by_cases hn : a < 0
  · rw [if_pos hn, if_neg (by omega)]
    have e : wrap64 (-(wrap64 (a + 1))) = -(a + 1) := by unfold wrap64; omega
    rw [e]
    obtain ⟨r, h1, h2⟩ := hm (-(a + 1)) (by omega)
    exact ⟨r, by rw [h1], h2⟩
  · rw [if_neg hn, if_neg (by omega)]
    obtain ⟨r, h1, h2⟩ := hm a (by omega)
    exact ⟨r, by rw [h1], h2⟩
end Go.Proofs.Ytjailboidlmadaa.P
end

section

namespace Go.Proofs.Ytjailboidlmadaa.P
open Go.RowKit Go.Maps Go.WideMaps Go.Proofs.YtjailboidlmadaaW.PrintWords Go.Proofs.YtjailboidlmadaaW.PrintLast Go.Proofs.YtjailboidlmadaaW.PrintMore
attribute [local go_sem] max2_int min2_int max_two min_two max_three min_three max_four min_four
set_option linter.unusedVariables false
set_option linter.unusedSimpArgs false
variable {W : World} {B N bm : Nat} {D : Nat → Prop} {sl : Value} {DM : DataW Value} {os : List (Int × Int)} {es : List Ent}
/-- does it go? -/
def oldK (cl b : Int) (k : Int × Int) : Bool := k.1 == cl && decide (k.2 < b)
/-- what stays -/
def keepE (cl b : Int) (es : List Ent) : List Ent := es.filter fun e => !oldK cl b e.key
/-- the map behind j rounds -/
def partE (cl b : Int) (es : List Ent) (j : Nat) : List Ent := keepE cl b (es.take j) ++ es.drop j
theorem partE_zero (cl b : Int) (es : List Ent) : partE cl b es 0 = es := rfl
theorem partE_all (cl b : Int) (es : List Ent) : partE cl b es es.length = keepE cl b es := by
  unfold partE
  rw [List.take_length, List.drop_length, List.append_nil]
theorem partE_stay {cl b : Int} {es : List Ent} {j : Nat} {e : Ent} (he : es[j]? = some e) (ho : oldK cl b e.key = false) : partE cl b es (j + 1) = partE cl b es j := by
  have hlt : j < es.length := (List.getElem?_eq_some_iff.1 he).1
  have hq := (List.getElem?_eq_some_iff.1 he).2
  unfold partE keepE
  rw [List.take_succ_eq_append_getElem hlt, List.filter_append, hq, List.append_assoc, List.drop_eq_getElem_cons hlt, hq]
  rw [List.filter_cons_of_pos (by rw [ho]; rfl)]
  rfl
theorem partE_go {cl b : Int} {es : List Ent} {j : Nat} {e : Ent} (hn : (es.map Ent.key).Nodup) (he : es[j]? = some e) (ho : oldK cl b e.key = true) : noKey e.key (partE cl b es j) = partE cl b es (j + 1) := by
  have hlt : j < es.length := (List.getElem?_eq_some_iff.1 he).1
  have hq := (List.getElem?_eq_some_iff.1 he).2
  have hmem : ∀ x ∈ es.take j, x.key ≠ e.key := by
    intro x hx hk
    obtain ⟨i, hi, rfl⟩ := List.mem_iff_getElem.1 hx
    rw [List.length_take] at hi
    rw [List.getElem_take] at hk
    have := (List.getElem_inj (i := i) (j := j) (h₀ := by rw [List.length_map]; omega) (h₁ := by rw [List.length_map]; omega) hn).1 (by rw [List.getElem_map, List.getElem_map, hk, hq])
    omega
  have hmem2 : ∀ x ∈ es.drop (j + 1), x.key ≠ e.key := by
    intro x hx hk
    obtain ⟨i, hi, rfl⟩ := List.mem_iff_getElem.1 hx
    rw [List.length_drop] at hi
    rw [List.getElem_drop] at hk
    have := (List.getElem_inj (i := j + 1 + i) (j := j) (h₀ := by rw [List.length_map]; omega) (h₁ := by rw [List.length_map]; omega) hn).1 (by rw [List.getElem_map, List.getElem_map, hk, hq])
    omega
  have all : ∀ l : List Ent, (∀ x ∈ l, x.key ≠ e.key) → noKey e.key l = l := fun l h => by
    unfold noKey
    rw [List.filter_eq_self]
    intro x hx
    simpa using h x hx
  unfold partE
  rw [List.take_succ_eq_append_getElem hlt, hq, List.drop_eq_getElem_cons hlt, hq]
  unfold keepE
  rw [List.filter_append, List.filter_cons_of_neg (by rw [ho]; decide), List.filter_nil, List.append_nil]
  have h1 : noKey e.key ((es.take j).filter fun e => !oldK cl b e.key) = (es.take j).filter fun e => !oldK cl b e.key := all _ (fun x hx => hmem x (List.mem_filter.1 hx).1)
  have h2 : noKey e.key (es.drop (j + 1)) = es.drop (j + 1) := all _ hmem2
  unfold noKey at h1 h2 ⊢
  rw [List.filter_append, h1, List.filter_cons_of_neg (by simp), h2]
theorem keepE_keys (cl b : Int) (es : List Ent) : (keepE cl b es).map Ent.key = (es.map Ent.key).filter fun k => !oldK cl b k := by
  unfold keepE
  rw [List.filter_map]
  rfl
set_option maxHeartbeats 800000 in
set_option maxRecDepth 100000 in
theorem forget_m (h : StM W B D N bm sl DM (es.map Ent.key) es) (hDb : ∀ i, D i → i < W.heap.size) (hlen : es.length ≤ 1000000) (cl b : Int) :
    Calls Try.prog 17 #[.pointer (some ⟨B, 0, none⟩), .int .i64 cl, .int .i64 b] W fun e w' => e = .returned (.tuple #[]) ∧ St w' B D N (keepE cl b es) ∧ Gr D W w' := by
  have hu28 := Try.underlying28
  have hu32 := Try.underlying32
  have hu36 := Try.underlying36
  have hu38 := Try.underlying38
  have hu62 := Try.underlying62
  have hu64 := Try.underlying64
  have hu66 := Try.underlying66
  obtain ⟨A, n, cap, rfl, hn⟩ : ∃ A n cap, sl = .slice A n cap ∧ n = es.length := by obtain ⟨A1, c_, e_⟩ := h.ord.shape; exact ⟨A1, _, c_, e_, List.length_map _⟩
  have HN := Aside0.mk hn
  have HL : Aside0 (n ≤ 1099511627776) := ⟨by omega⟩
  have hM := Aside0.mk h
  have HDB := Aside0.mk hDb
  have HLE := Aside0.mk hlen
  clear h hDb hn hlen
  go_enter Try.func17, Try.ntmps17
  go_wp2_with (first | ((with_reducible refine gate_dst (N := 4) rfl ?_); refine box_event ?hg4 (N := 4) ?hd4 (cs := #[.int .i64 cl]) (t := 3) ?hr4 ?_; (case hd4 => rfl); (case hg4 => rfl); (case hr4 => first | (go_simp; done) | (go_simp; rfl)); intro g4 hg4 w4 hbox4 hb4; have G4 := Aside0.mk hg4; clear hg4) | ((with_reducible refine gate_dst (N := 5) rfl ?_); refine box_event ?hg5 (N := 5) ?hd5 (cs := #[.int .i64 b]) (t := 3) ?hr5 ?_; (case hd5 => rfl); (case hg5 => rfl); (case hr5 => first | (go_simp; done) | (go_simp; rfl)); intro g5 hg5 w5 hbox5 hb5; have G5 := Aside0.mk hg5; clear hg5; have q4 := (hb5.block g4 (blk_lt hbox4)).trans hbox4; have hS := (hM.out.below hb4).below hb5; have zo : w5.cell? ⟨B, 1, none⟩ = some (.slice A n cap) := (blk_cell hS.at_ 1).trans rfl; have HS := Aside0.mk hS; clear hS))
  have e4 : W.heap.size ≤ g4 := Nat.le_of_eq G4.out.symm
  have e5 : W.heap.size ≤ g5 := Nat.le_trans hb4.size (Nat.le_of_eq G5.out.symm)
  have nb4 : g4 ≠ bm := fun e => absurd hM.out.ltm (Nat.not_lt.2 (e ▸ e4))
  have nb5 : g5 ≠ bm := fun e => absurd hM.out.ltm (Nat.not_lt.2 (e ▸ e5))
  have B5 := Aside0.mk (below_step hb4 hb5)
  have eg : ∀ args w, (callFunc 30 args).run Try.prog w = .ok (.enter 30 args) w := enters_of Try.func30 (by kernel_rfl) rfl
  go_loopg [15] n (fun gq v15 wr => ∃ j : Nat, v15 = .int .i64 j ∧ Aside0 (gq + j = n) ∧ Aside0 (∃ DM', StM wr B D N bm (.slice A n cap) DM' (es.map Ent.key) (partE cl b es j)) ∧ Aside0 (Gr (fun i => i = bm) w5 wr))
  case atStart => exact ⟨0, rfl, ⟨by omega⟩, ⟨_, HS.out⟩, ⟨Gr.refl _ _⟩⟩
  case round =>
    obtain ⟨j, rfl, HG, HST, HGR⟩ := hrel
    obtain ⟨DM', hS⟩ := HST.out
    have r4 := (HGR.out.block g4 (blk_lt q4) nb4).trans q4
    have r5 := (HGR.out.block g5 (blk_lt hbox5) nb5).trans hbox5
    by_cases hlt : j < n
    · have hltE : j < es.length := by have := HN.out; omega
      obtain ⟨en, hen⟩ : ∃ en, es[j]? = some en := ⟨_, List.getElem?_eq_getElem hltE⟩
      obtain ⟨g, off, cells, rfl, hDg, hKB⟩ : ∃ g off cells, A = some ⟨g, off, none⟩ ∧ D g ∧ KB wr g off cap (es.map Ent.key) cells := by
        rcases hS.ord with ⟨h1, _⟩ | ⟨g, off, cap', cells, h1, h2, h3⟩
        · injection h1 with _ h1 _
          omega
        · injection h1 with h1 h4 h5
          subst h5
          exact ⟨g, off, cells, h1, h2, h3⟩
      have hkey : (es.map Ent.key)[j]? = some en.key := by rw [List.getElem?_map, hen]; rfl
      obtain ⟨x1, x2⟩ := hKB.key hkey
      have hcap := hKB.le
      have HEN := Aside0.mk hen
      have HKW : Aside0 (kwf en.key) := ⟨hM.out.wf en (List.mem_of_getElem? hen)⟩
      obtain ⟨key, by_, an⟩ := en
      obtain ⟨k1, k2⟩ := key
      dsimp only at x1 x2
      have zm : wr.cell? ⟨B, 0, none⟩ = some (.map (some bm)) := (blk_cell hS.at_ 0).trans rfl
      have hltz : (j : Int) < (n : Int) := by omega
      have hj0 : (0 : Int) ≤ (j : Int) := by omega
      have hBlt := hS.ltB
      have hSS := Aside0.mk hS
      have h4lt := blk_lt r4
      have h5lt := blk_lt r5
      have hcall : ∀ o, Calls Try.prog 30 (#[.agg #[.int .i64 k1, .int .i64 k2]] ++ #[.pointer (some ⟨g4, 0, none⟩), .pointer (some ⟨g5, 0, none⟩)]) (wr.alloc o) fun e w' => e = .returned (.bool (oldK cl b (k1, k2))) ∧ Below (wr.alloc o).heap.size (wr.alloc o) w' := fun o =>
        old_calls (x := (k1, k2)) (((below_alloc (Below.refl wr.heap.size wr) o).cell h4lt).trans ((blk_cell r4 0).trans rfl)) (((below_alloc (Below.refl wr.heap.size wr) o).cell h5lt).trans ((blk_cell r5 0).trans rfl))
      have nbw : wr.heap.size ≠ bm := fun e => absurd hS.ltm (by rw [e]; exact Nat.lt_irrefl _)
      clear hen hS hKB hkey hcap
      cases hv : oldK cl b (k1, k2) with
      | true =>
        rw [hv] at hcall
        go_wp2_with (first | (go_at_fn 30; refine (hcall _).mono ?_; rintro e w7 ⟨rfl, hb7⟩))
        have B7 := below_step (below_alloc (Below.refl wr.heap.size wr) (.cells #[.int .i64 k1, .int .i64 k2] 64)) hb7
        have z1 : w7.cell? ⟨wr.heap.size, 0, none⟩ = some (.int .i64 k1) := by rw [World.cell?_of_block (a := ⟨wr.heap.size, 0, none⟩) (hb7.block _ (by rw [World.size_alloc]; exact Nat.lt_succ_self _))]; exact World.cell?_alloc_new wr _ _ 0
        have z2 : w7.cell? ⟨wr.heap.size, 1, none⟩ = some (.int .i64 k2) := by rw [World.cell?_of_block (a := ⟨wr.heap.size, 1, none⟩) (hb7.block _ (by rw [World.size_alloc]; exact Nat.lt_succ_self _))]; exact World.cell?_alloc_new wr _ _ 1
        have zm7 : w7.cell? ⟨B, 0, none⟩ = some (.map (some bm)) := (B7.cell hBlt).trans zm
        have hgB : B ≠ bm := Ne.symm hM.out.ne
        obtain ⟨w8, DM8, hdel, hS8, hG8⟩ := ((hSS.out.below B7).below (below_drew (Below.refl _ _))).del (k := (k1, k2)) HKW.out 0
        have HDEL : Aside0 ((Builtin.delete_ #[59, 64] 0 #[.map (some bm), .agg #[.int .i64 k1, .int .i64 k2]]).run Try.prog w7.drew = .ok (.tuple #[]) w8) := ⟨hdel⟩
        have HG8 : Aside0 (Gr (fun i => i = bm) w7 w8) := ⟨((Gr.refl _ w7).drew).then_ hG8 (fun _ h => .inl h)⟩
        have HS8 := Aside0.mk hS8
        have HS6 : Aside0 (∀ W', Gr (fun i => i = bm) w7 W' → W'.cell? ⟨B, 0, none⟩ = some (.map (some bm)) ∧ W'.cell? ⟨wr.heap.size, 0, none⟩ = some (.int .i64 k1) ∧ W'.cell? ⟨wr.heap.size, 1, none⟩ = some (.int .i64 k2)) := ⟨fun W' hg => ⟨hg.cell zm7 hgB, hg.cell z1 nbw, hg.cell z2 nbw⟩⟩
        clear hdel hS8 hG8
        go_region_held3 (fun W' => W'.cell? ⟨B, 0, none⟩ = some (.map (some bm)) ∧ W'.cell? ⟨wr.heap.size, 0, none⟩ = some (.int .i64 k1) ∧ W'.cell? ⟨wr.heap.size, 1, none⟩ = some (.int .i64 k2)) (first | exact HS6.out _ ((Gr.refl _ _).drew) | exact HS6.out _ HG8.out) (first | (refine step_del rfl (.tmp 25) (.tmp 26) rfl rfl rfl HDEL.out ?_))
        go_wp2
        go_roundg (gk - 1)
        case measure => have := HG.out; omega
        case rel =>
          refine ⟨j + 1, next_int hlt HL.out, ⟨by have := HG.out; omega⟩, ⟨DM8, ?_⟩, ⟨(HGR.out.then_ (S' := fun i => i = bm) (Gr.of_below B7) (fun i hi => .inl hi)).then_ HG8.out (fun i hi => .inl hi)⟩⟩
          have := HS8.out
          rw [partE_go hM.out.nodup HEN.out hv] at this
          exact this
      | false =>
        rw [hv] at hcall
        go_wp2_with (first | (go_at_fn 30; refine (hcall _).mono ?_; rintro e w7 ⟨rfl, hb7⟩))
        have B7 := below_step (below_alloc (Below.refl wr.heap.size wr) (.cells #[.int .i64 k1, .int .i64 k2] 64)) hb7
        go_roundg (gk - 1)
        case measure => have := HG.out; omega
        case rel =>
          refine ⟨j + 1, next_int hlt HL.out, ⟨by have := HG.out; omega⟩, ⟨DM', ?_⟩, ⟨HGR.out.then_ (S' := fun i => i = bm) (Gr.of_below B7) (fun i hi => .inl hi)⟩⟩
          rw [partE_stay HEN.out hv]
          exact hSS.out.below B7
    · have hltz : ¬ (j : Int) < (n : Int) := by omega
      obtain rfl : j = n := by have := HG.out; omega
      have zB := hS.at_
      have zo' : wr.cell? ⟨B, 1, none⟩ = some (.slice A j cap) := (blk_cell zB 1).trans rfl
      have hSS := Aside0.mk hS
      have HD := delf_calls (gg := 30) (cb := #[.pointer (some ⟨g4, 0, none⟩), .pointer (some ⟨g5, 0, none⟩)]) (p := oldK cl b) hS.ord (by rw [List.length_map]; exact Nat.le_trans HLE.out (by decide)) eg (fun W' k hg => old_calls (x := k) (hg.cell ((blk_cell r4 0).trans rfl) (hS.own_ne r4 (by decide))) (hg.cell ((blk_cell r5 0).trans rfl) (hS.own_ne r5 (by decide))))
      clear hS
      go_wp2_with (first | (go_at_call 19; refine HD.mono ?_; rintro e_ w19 ⟨A2, n2, cap2, rfl, hkr, hgr⟩; have hBx := (hgr.block B (blk_lt zB) (hSS.out.own_ne zB (by decide))).trans zB; have yo : w19.cell? ⟨B, 1, none⟩ = some (.slice A j cap) := (blk_cell hBx 1).trans rfl; have yf : w19.frozen? ⟨B, 1, none⟩ = false := blk_frozen hBx 1))
      go_end0
      have hE : partE cl b es j = keepE cl b es := by rw [HN.out]; exact partE_all cl b es
      have hfin := hSS.out.reorder hgr (fun _ h => h) hkr
      rw [hE, ← keepE_keys] at hfin
      refine ⟨rfl, ⟨bm, _, _, hfin⟩, ?_⟩
      exact ((((Gr.of_below (S := D) B5.out).then_ HGR.out (fun i hi => .inl (hi ▸ hM.out.hbm))).then_ hgr (fun i hi => .inl (hM.out.sub hi))).set _ (.inl hM.out.hB))
end Go.Proofs.Ytjailboidlmadaa.P
end
