/- The chapter's examples hold, by running them. -/
import Derived.Test.YtecjdchjaoimfaaEdits
import Derived.Test.YtecjdchjaoimfaaPx9
import Derived.KernelRfl
namespace Go.Proofs.Ytecjdchjaoimfaa.Sp
open Go.RowKit Go.Proofs.YtecjdchjaoimfaaW.PrintWords Go.Proofs.YtecjdchjaoimfaaW.PrintLast Go.Proofs.YtecjdchjaoimfaaW.PrintMore Go.Proofs.Ytecjdchjaoimfaa.P

theorem examples_at : tabulariumlaw10_examples.f 40 = some true := by kernel_rfl
theorem enc_inj {k1 : Int} {p1 t1 : ByteArray} {c1 q1 n1 : Int} {l1 : List Int} {k2 : Int} {p2 t2 : ByteArray} {c2 q2 n2 : Int} {l2 : List Int} (h1 : RightP k1 p1 t1 c1 q1 n1 l1) (h2 : RightP k2 p2 t2 c2 q2 n2 l2) :
    (encB k1 p1 t1 c1 q1 n1 l1).toList = (encB k2 p2 t2 c2 q2 n2 l2).toList ↔ (⟨k1, p1, t1, c1, q1, n1, l1⟩ : Ed) = ⟨k2, p2, t2, c2, q2, n2, l2⟩ := by
  constructor
  · intro h
    have := dec_enc h1
    rw [toList_inj h, dec_enc h2] at this
    exact (Option.some.inj this).symm
  · intro h
    simp only [Ed.mk.injEq] at h
    obtain ⟨rfl, rfl, rfl, rfl, rfl, rfl, rfl⟩ := h
    rfl
theorem encB_pos (k : Int) (p t : ByteArray) (c q n : Int) (l : List Int) : 0 < (encB k p t c q n l).size := by
  have := num_size k
  have := vbs_pos (zig k)
  unfold encB
  rw [ByteArray.size_append]
  omega
theorem turned {c : Int} (h : (Lit.int .i64 c).wf = true) (h0 : c < 0) : 0 ≤ wrap64 (-(wrap64 (c + 1))) ∧ wrap64 (-(wrap64 (c + 1))) = -(c + 1) := by
  have : -9223372036854775808 ≤ c ∧ c ≤ 9223372036854775807 := by simpa [Lit.wf, IntKind.min, IntKind.max, IntKind.signed, IntKind.bits] using h
  unfold wrap64
  omega

end Go.Proofs.Ytecjdchjaoimfaa.Sp
