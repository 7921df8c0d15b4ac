/- A cache as a list: what New, Len, Get and Put do, over the list of what is kept. -/
import Derived.Test.YtjailboidlmadaaRtL
namespace Go.Proofs.Ytjailboidlmadaa.P
open Go.RowKit Go.Maps Go.WideMaps Go.Proofs.YtjailboidlmadaaW.PrintWords Go.Proofs.YtjailboidlmadaaW.PrintLast Go.Proofs.YtjailboidlmadaaW.PrintMore
set_option linter.unusedVariables false
set_option linter.unusedSimpArgs false
/-- a cache whose memory lies in D, all of it there -/
structure StD (W : World) (B : Nat) (D : Nat → Prop) (N : Nat) (es : List Ent) : Prop where
  st : St W B D N es
  lt : ∀ i, D i → i < W.heap.size
variable {W W' : World} {B N g : Nat} {D S : Nat → Prop} {es : List Ent}
theorem StD.gr (h : StD W B D N es) (hg : Gr S W W') (hS : ∀ i, D i → ¬ S i) : StD W' B D N es := by
  obtain ⟨bm, sl, DM, hm⟩ := h.st
  exact ⟨⟨bm, sl, DM, hm.gr hg hS⟩, fun i hi => Nat.lt_of_lt_of_le (h.lt i hi) hg.size⟩
theorem StD.below (h : StD W B D N es) (hb : Below W.heap.size W W') : StD W' B D N es := h.gr (S := fun _ => False) (Gr.of_below hb) (fun _ _ h => h)
theorem StD.one (h : StD W B D N es) (hg : Gr (fun i => i = g) W W') (hn : ¬ D g) : StD W' B D N es := h.gr hg (fun i hi e => hn (e ▸ hi))
theorem StD.fresh (h : StD W B D N es) (hg : g = W.heap.size) : ¬ D g := fun hd => absurd (h.lt g hd) (by rw [hg]; exact Nat.lt_irrefl _)
theorem StD.wf (h : StD W B D N es) {e : Ent} (he : e ∈ es) : kwf e.key := by
  obtain ⟨bm, sl, DM, hm⟩ := h.st
  exact hm.wf e he
theorem StD.nodup (h : StD W B D N es) : (es.map Ent.key).Nodup := by
  obtain ⟨bm, sl, DM, hm⟩ := h.st
  exact hm.nodup
theorem St.bound (h : St W B D N es) : StD W B (fun i => D i ∧ i < W.heap.size) N es := by
  obtain ⟨bm, sl, DM, hm⟩ := h
  exact ⟨⟨bm, sl, DM, hm.bound⟩, fun i hi => hi.2⟩
theorem new_st (W : World) : Calls Try.prog 8 #[] W fun e w' => ∃ B, e = .returned (.pointer (some ⟨B, 0, none⟩)) ∧ Below W.heap.size W w' ∧ W.heap.size ≤ B ∧ StD w' B (fun i => W.heap.size ≤ i ∧ i < w'.heap.size) 0 [] := by
  refine (new_calls W).mono ?_
  rintro e w' ⟨B, bm, rfl, hb, hB, hm⟩
  exact ⟨B, rfl, hb, hB, St.bound ⟨bm, _, _, hm⟩⟩
theorem len_st (h : StD W B D N es) : Calls Try.prog 12 #[.pointer (some ⟨B, 0, none⟩)] W fun e w' => e = .returned (.int .i64 es.length) ∧ Below W.heap.size W w' := by
  obtain ⟨bm, sl, DM, hm⟩ := h.st
  have := len_calls hm
  rw [List.length_map] at this
  exact this
/-- an answer without rows -/
def ansN (err b0 b1 b2 : Int) (path : ByteArray) (dir : Bool) (quota writer n : Int) : Ans := ⟨err, b0, b1, b2, [], path, dir, quota, [], writer, n⟩
theorem get_none (h : StD W B D N es) (cl ca : Int) (a0_0 : Int) (a0_1 : ByteArray) (a0_2 : ByteArray) (a0_3 : Int) (a0_4 : Int) (a0_5 : Int) (A0_6 : Option Addr) (c0_6 : Nat) (l0_6 : List Int) (hk : kwf (cl, ca)) (hn : (cl, ca) ∉ es.map Ent.key) :
    Calls Try.prog 11 #[.pointer (some ⟨B, 0, none⟩), .int .i64 cl, .int .i64 ca, .agg #[.int .i64 a0_0, .string a0_1, .string a0_2, .int .i64 a0_3, .int .i64 a0_4, .int .i64 a0_5, .slice A0_6 l0_6.length c0_6]] W fun e w' =>
      e = .returned (.tuple #[.agg #[.int .i64 0, .int .i64 0, .int .i64 0, .int .i64 0, .slice none 0 0, .string ⟨#[]⟩, .bool false, .int .i64 0, .slice none 0 0, .int .i64 0, .int .i64 0], .bool false, .int .i64 0]) ∧ Below W.heap.size W w' := by
  obtain ⟨bm, sl, DM, hm⟩ := h.st
  exact get_miss hm cl ca a0_0 a0_1 a0_2 a0_3 a0_4 a0_5 A0_6 c0_6 l0_6 hk hn
theorem get_odd (h : StD W B D N es) (cl ca : Int) (a0_0 : Int) (a0_1 : ByteArray) (a0_2 : ByteArray) (a0_3 : Int) (a0_4 : Int) (a0_5 : Int) (A0_6 : Option Addr) (c0_6 : Nat) (l0_6 : List Int) {en : Ent} (he : en ∈ es) (hk : en.key = (cl, ca))
    (k : Nat) (b : ByteArray) (bad : Int) (hr : Kd.C (Kd.int .i64) W A0_6 l0_6.length l0_6) (hc : l0_6.length ≤ c0_6) (henc : edit_Encode.f k a0_0 a0_1 a0_2 a0_3 a0_4 a0_5 l0_6 = some (b, bad)) (hb : bad ≠ 0 ∨ b.toList ≠ en.bytes.toList) :
    Calls Try.prog 11 #[.pointer (some ⟨B, 0, none⟩), .int .i64 cl, .int .i64 ca, .agg #[.int .i64 a0_0, .string a0_1, .string a0_2, .int .i64 a0_3, .int .i64 a0_4, .int .i64 a0_5, .slice A0_6 l0_6.length c0_6]] W fun e w' =>
      e = .returned (.tuple #[.agg #[.int .i64 0, .int .i64 0, .int .i64 0, .int .i64 0, .slice none 0 0, .string ⟨#[]⟩, .bool false, .int .i64 0, .slice none 0 0, .int .i64 0, .int .i64 0], .bool false, .int .i64 14]) ∧ Below W.heap.size W w' := by
  obtain ⟨bm, sl, DM, hm⟩ := h.st
  obtain ⟨key, bytes, err, b0, b1, b2, names, path, dir, quota, blocks, writer, n⟩ := en
  obtain rfl : key = (cl, ca) := hk
  by_cases h0 : bad = 0
  · exact get_bad2 hm cl ca a0_0 a0_1 a0_2 a0_3 a0_4 a0_5 A0_6 c0_6 l0_6 bytes err b0 b1 b2 names path dir quota blocks writer n he k b bad hr hc henc h0 (hb.resolve_left (fun h => h h0))
  · exact get_bad1 hm cl ca a0_0 a0_1 a0_2 a0_3 a0_4 a0_5 A0_6 c0_6 l0_6 bytes err b0 b1 b2 names path dir quota blocks writer n he k b bad hr hc henc h0
theorem get_kept (h : StD W B D N es) (cl ca : Int) (a0_0 : Int) (a0_1 : ByteArray) (a0_2 : ByteArray) (a0_3 : Int) (a0_4 : Int) (a0_5 : Int) (A0_6 : Option Addr) (c0_6 : Nat) (l0_6 : List Int) (bytes : ByteArray) (err b0 b1 b2 : Int) (names : List ByteArray) (path : ByteArray) (dir : Bool) (quota : Int) (blocks : List S32) (writer n : Int)
    (he : (⟨(cl, ca), bytes, ⟨err, b0, b1, b2, names, path, dir, quota, blocks, writer, n⟩⟩ : Ent) ∈ es) (k : Nat) (b : ByteArray) (hr : Kd.C (Kd.int .i64) W A0_6 l0_6.length l0_6) (hc : l0_6.length ≤ c0_6) (henc : edit_Encode.f k a0_0 a0_1 a0_2 a0_3 a0_4 a0_5 l0_6 = some (b, 0)) (hb : b.toList = bytes.toList) :
    Calls Try.prog 11 #[.pointer (some ⟨B, 0, none⟩), .int .i64 cl, .int .i64 ca, .agg #[.int .i64 a0_0, .string a0_1, .string a0_2, .int .i64 a0_3, .int .i64 a0_4, .int .i64 a0_5, .slice A0_6 l0_6.length c0_6]] W fun e w' =>
      ∃ B4 d4 B8 d8, e = .returned (.tuple #[.agg #[.int .i64 err, .int .i64 b0, .int .i64 b1, .int .i64 b2, .slice B4 names.length d4, .string path, .bool dir, .int .i64 quota, .slice B8 blocks.length d8, .int .i64 writer, .int .i64 n], .bool true, .int .i64 0]) ∧ Kd.R Kd.string 9 w' W.heap.size (fun _ => True) (.slice B4 names.length d4) names ∧ Kd.R k32 32 w' W.heap.size (fun _ => True) (.slice B8 blocks.length d8) blocks ∧ Below W.heap.size W w' := by
  obtain ⟨bm, sl, DM, hm⟩ := h.st
  exact get_hit hm cl ca a0_0 a0_1 a0_2 a0_3 a0_4 a0_5 A0_6 c0_6 l0_6 bytes err b0 b1 b2 names path dir quota blocks writer n he k b hr hc henc hb
theorem put_kept (h : StD W B D N es) (cl ca : Int) (a0_0 : Int) (a0_1 : ByteArray) (a0_2 : ByteArray) (a0_5 : Int) (A0_6 : Option Addr) (c0_6 : Nat) (l0_6 : List Int) (err b0 b1 b2 : Int) (names : List ByteArray) (path : ByteArray) (dir : Bool) (quota : Int) (blocks : List S32) (writer n : Int) (A4 A8 : Option Addr) (c4 c8 : Nat)
    (k : Nat) (b : ByteArray) (hr : Kd.C (Kd.int .i64) W A0_6 l0_6.length l0_6) (hc : l0_6.length ≤ c0_6) (henc : edit_Encode.f k a0_0 a0_1 a0_2 cl ca a0_5 l0_6 = some (b, 0)) (hwf : kwf (cl, ca)) (hlen : es.length ≤ 1000000) (hN : N ≤ 1000000)
    (hr4 : ∀ W', Gr D W W' → Kd.C Kd.string W' A4 names.length names) (hc4 : names.length ≤ c4) (hr8 : ∀ W', Gr D W W' → Kd.C k32 W' A8 blocks.length blocks) (hc8 : blocks.length ≤ c8) (hft : (⟨err, b0, b1, b2, names, path, dir, quota, blocks, writer, n⟩ : Ans).fits)
    (hcase : (∃ en ∈ es, en.key = (cl, ca) ∧ en.bytes.toList = b.toList) ∨ (cl, ca) ∉ es.map Ent.key) :
    Calls Try.prog 10 #[.pointer (some ⟨B, 0, none⟩), .int .i64 cl, .int .i64 ca, .agg #[.int .i64 a0_0, .string a0_1, .string a0_2, .int .i64 cl, .int .i64 ca, .int .i64 a0_5, .slice A0_6 l0_6.length c0_6], .agg #[.int .i64 err, .int .i64 b0, .int .i64 b1, .int .i64 b2, .slice A4 names.length c4, .string path, .bool dir, .int .i64 quota, .slice A8 blocks.length c8, .int .i64 writer, .int .i64 n]] W fun e w' =>
      e = .returned (.int .i64 0) ∧ StD w' B (fun i => (D i ∨ W.heap.size ≤ i) ∧ i < w'.heap.size) (N + 1) (putE es ⟨(cl, ca), b, ⟨err, b0, b1, b2, names, path, dir, quota, blocks, writer, n⟩⟩) ∧ Gr D W w' := by
  obtain ⟨bm, sl, DM, hm⟩ := h.st
  refine (put_ok hm cl ca a0_0 a0_1 a0_2 cl ca a0_5 A0_6 c0_6 l0_6 err b0 b1 b2 names path dir quota blocks writer n A4 A8 c4 c8 k b 0 hr hc henc rfl ⟨rfl, rfl⟩ hwf rfl hlen hN h.lt hr4 hc4 hr8 hc8 hft hcase).mono ?_
  rintro e w' ⟨rfl, hs, hg⟩
  exact ⟨rfl, hs.bound, hg⟩
end Go.Proofs.Ytjailboidlmadaa.P
