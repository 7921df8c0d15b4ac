/- .. for edits and answers without rows. -/
import Derived.Test.YtjailboidlmadaaRtM
namespace Go.Proofs.Ytjailboidlmadaa.P
open Go.RowKit Go.Maps Go.WideMaps Go.Proofs.YtjailboidlmadaaW.PrintWords Go.Proofs.YtjailboidlmadaaW.PrintLast Go.Proofs.YtjailboidlmadaaW.PrintMore
set_option linter.unusedVariables false
variable {W W' : World} {B N : Nat} {D : Nat → Prop} {es : List Ent}
theorem cN {α : Type} (d : Kd α) (w : World) : d.C w none 0 ([] : List α) := Kd.C_nil d w
/-- the answer that has a number alone -/
def ans1 (n : Int) : Ans := ⟨0, 0, 0, 0, [], ⟨#[]⟩, false, 0, [], 0, n⟩
theorem fits1 (n : Int) : (ans1 n).fits := ⟨(show (0 : Nat) * 16 ≤ 140737488355328 by decide), (show (0 : Nat) * 24 ≤ 140737488355328 by decide)⟩
theorem get_none0 (h : StD W B D N es) (cl ca kd e3 e4 : Int) (pa : ByteArray) (hk : kwf (cl, ca)) (hn : (cl, ca) ∉ es.map Ent.key) :
    Calls Try.prog 11 #[.pointer (some ⟨B, 0, none⟩), .int .i64 cl, .int .i64 ca, .agg #[.int .i64 kd, .string pa, .string ⟨#[]⟩, .int .i64 e3, .int .i64 e4, .int .i64 0, .slice none 0 0]] W fun e w' => e = .returned (.tuple #[.agg #[.int .i64 0, .int .i64 0, .int .i64 0, .int .i64 0, .slice none 0 0, .string ⟨#[]⟩, .bool false, .int .i64 0, .slice none 0 0, .int .i64 0, .int .i64 0], .bool false, .int .i64 0]) ∧ Below W.heap.size W w' :=
  get_none h cl ca kd pa ⟨#[]⟩ e3 e4 0 none 0 [] hk hn
theorem get_odd0 (h : StD W B D N es) (cl ca kd e3 e4 : Int) (pa : ByteArray) {en : Ent} (he : en ∈ es) (hk : en.key = (cl, ca)) (k : Nat) (b : ByteArray) (bad : Int) (henc : edit_Encode.f k kd pa ⟨#[]⟩ e3 e4 0 [] = some (b, bad)) (hb : bad ≠ 0 ∨ b.toList ≠ en.bytes.toList) :
    Calls Try.prog 11 #[.pointer (some ⟨B, 0, none⟩), .int .i64 cl, .int .i64 ca, .agg #[.int .i64 kd, .string pa, .string ⟨#[]⟩, .int .i64 e3, .int .i64 e4, .int .i64 0, .slice none 0 0]] W fun e w' => e = .returned (.tuple #[.agg #[.int .i64 0, .int .i64 0, .int .i64 0, .int .i64 0, .slice none 0 0, .string ⟨#[]⟩, .bool false, .int .i64 0, .slice none 0 0, .int .i64 0, .int .i64 0], .bool false, .int .i64 14]) ∧ Below W.heap.size W w' :=
  get_odd h cl ca kd pa ⟨#[]⟩ e3 e4 0 none 0 [] he hk k b bad (cN _ _) (Nat.le_refl _) henc hb
theorem get_kept0 (h : StD W B D N es) (cl ca kd e3 e4 : Int) (pa : ByteArray) (bytes : ByteArray) (n : Int) (he : (⟨(cl, ca), bytes, ans1 n⟩ : Ent) ∈ es) (k : Nat) (b : ByteArray) (henc : edit_Encode.f k kd pa ⟨#[]⟩ e3 e4 0 [] = some (b, 0)) (hb : b.toList = bytes.toList) :
    Calls Try.prog 11 #[.pointer (some ⟨B, 0, none⟩), .int .i64 cl, .int .i64 ca, .agg #[.int .i64 kd, .string pa, .string ⟨#[]⟩, .int .i64 e3, .int .i64 e4, .int .i64 0, .slice none 0 0]] W fun e w' => ∃ B4 d4 B8 d8, e = .returned (.tuple #[.agg #[.int .i64 0, .int .i64 0, .int .i64 0, .int .i64 0, .slice B4 0 d4, .string ⟨#[]⟩, .bool false, .int .i64 0, .slice B8 0 d8, .int .i64 0, .int .i64 n], .bool true, .int .i64 0]) ∧ Below W.heap.size W w' := by
  refine (get_kept h cl ca kd pa ⟨#[]⟩ e3 e4 0 none 0 [] bytes 0 0 0 0 [] ⟨#[]⟩ false 0 [] 0 n he k b (cN _ _) (Nat.le_refl _) henc hb).mono ?_
  rintro e w' ⟨B4, d4, B8, d8, rfl, _, _, hb'⟩
  exact ⟨B4, d4, B8, d8, rfl, hb'⟩
theorem put_kept0 (h : StD W B D N es) (cl ca kd n : Int) (pa : ByteArray) (k : Nat) (b : ByteArray) (henc : edit_Encode.f k kd pa ⟨#[]⟩ cl ca 0 [] = some (b, 0)) (hwf : kwf (cl, ca)) (hlen : es.length ≤ 1000000) (hN : N ≤ 1000000)
    (hcase : (∃ en ∈ es, en.key = (cl, ca) ∧ en.bytes.toList = b.toList) ∨ (cl, ca) ∉ es.map Ent.key) :
    Calls Try.prog 10 #[.pointer (some ⟨B, 0, none⟩), .int .i64 cl, .int .i64 ca, .agg #[.int .i64 kd, .string pa, .string ⟨#[]⟩, .int .i64 cl, .int .i64 ca, .int .i64 0, .slice none 0 0], .agg #[.int .i64 0, .int .i64 0, .int .i64 0, .int .i64 0, .slice none 0 0, .string ⟨#[]⟩, .bool false, .int .i64 0, .slice none 0 0, .int .i64 0, .int .i64 n]] W fun e w' =>
      e = .returned (.int .i64 0) ∧ StD w' B (fun i => (D i ∨ W.heap.size ≤ i) ∧ i < w'.heap.size) (N + 1) (putE es ⟨(cl, ca), b, ans1 n⟩) ∧ Gr D W w' :=
  put_kept h cl ca kd pa ⟨#[]⟩ 0 none 0 [] 0 0 0 0 [] ⟨#[]⟩ false 0 [] 0 n none none 0 0 k b (cN _ _) (Nat.le_refl _) henc hwf hlen hN (fun _ _ => cN _ _) (Nat.le_refl _) (fun _ _ => cN _ _) (Nat.le_refl _) (fits1 n) hcase
end Go.Proofs.Ytjailboidlmadaa.P
