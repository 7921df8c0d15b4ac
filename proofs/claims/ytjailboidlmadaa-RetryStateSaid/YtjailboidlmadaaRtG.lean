/- retry.New, Len, and the closures that tell keys. -/
import Derived.Test.YtjailboidlmadaaRtF
namespace Go.Proofs.Ytjailboidlmadaa.P
open Go.RowKit Go.Maps Go.WideMaps Go.Proofs.YtjailboidlmadaaW.PrintWords Go.Proofs.YtjailboidlmadaaW.PrintLast Go.Proofs.YtjailboidlmadaaW.PrintMore
attribute [local go_sem] max2_int min2_int max_two min_two max_three min_three max_four min_four
set_option linter.unusedVariables false
set_option linter.unusedSimpArgs false

theorem eqA64 (d : Nat) (w : World) (x0 y0 : Int) (x1 y1 : Int) :
    (Op.equalIn (d + 2) 64 (.agg #[.int .i64 x0, .int .i64 x1]) (.agg #[.int .i64 y0, .int .i64 y1])).run Try.prog w = .ok (x0 == y0 && (x1 == y1)) w := by
  refine eqA_of Try.underlying64 (by kernel_rfl) ?_
  refine eqf_cons (by rfl) (by go_simp; rfl) (by go_simp; rfl) (by go_simp) ?_
  exact eqf_last (by rfl) (by go_simp; rfl) (by go_simp; rfl) (by go_simp)
attribute [local go_sem high] eqA64
set_option maxHeartbeats 4000000 in
theorem new_calls (W : World) : Calls Try.prog 8 #[] W fun e w' => ∃ B bm, e = .returned (.pointer (some ⟨B, 0, none⟩)) ∧ Below W.heap.size W w' ∧ W.heap.size ≤ B ∧ StM w' B (fun i => W.heap.size ≤ i) 0 bm (.slice none 0 0) (.map []) [] [] := by
  have hmk : (Instr.makeMap 59 none).run Try.prog W = .ok (.map (some W.heap.size)) (W.alloc (.map #[] 0)) := by kernel_rfl
  go_enter Try.func8, Try.ntmps8
  go_wp2
  go_ret
  have h1 : ((W.alloc (.map #[] 0)).alloc (.cells #[.map (some W.heap.size), .slice none 0 0] 62)).heap[(W.alloc (.map #[] 0)).heap.size]? = some (.cells #[.map (some W.heap.size), .slice none 0 0] 62 (0, 0)) := blk_new _ _
  rw [World.size_alloc] at h1
  refine ⟨_, W.heap.size, rfl, below_alloc (below_alloc (Below.refl _ _) _) _, by omega, ⟨by omega, Nat.le_refl _, h1, (World.ownsMap_made W Try.prog 64 RV).alloc _, .inl ⟨rfl, rfl⟩, List.nodup_nil, ?_, ?_, fun _ _ _ => rfl, ?_⟩⟩
  all_goals (intro e he; cases he)
set_option maxHeartbeats 4000000 in
theorem len_calls {W : World} {B N bm : Nat} {D : Nat → Prop} {sl : Value} {DM : DataW Value} {os : List (Int × Int)} {es : List Ent} (h : StM W B D N bm sl DM os es) :
    Calls Try.prog 12 #[.pointer (some ⟨B, 0, none⟩)] W fun e w' => e = .returned (.int .i64 os.length) ∧ Below W.heap.size W w' := by
  obtain ⟨A, cap, hsl⟩ := h.ord.shape
  have x1 : W.cell? ⟨B, 1, none⟩ = some (.slice A os.length cap) := by rw [← hsl]; exact (blk_cell h.at_ 1).trans rfl
  clear hsl h
  go_enter Try.func12, Try.ntmps12
  go_wp2
  go_ret
  exact ⟨rfl, Below.refl _ _⟩
set_option maxHeartbeats 4000000 in
theorem same_calls {W : World} {q : Nat} {k : Int × Int} (q0 : W.cell? ⟨q, 0, none⟩ = some (.int .i64 k.1)) (q1 : W.cell? ⟨q, 1, none⟩ = some (.int .i64 k.2)) (x : Int × Int) :
    Calls Try.prog 20 #[kv x, .pointer (some ⟨q, 0, none⟩)] W fun e w' => e = .returned (.bool (x == k)) ∧ Below W.heap.size W w' := by
  obtain ⟨k1, k2⟩ := k
  obtain ⟨y1, y2⟩ := x
  have hlt := World.block_lt_of_cell? W _ q0
  unfold kv
  dsimp only at q0 q1 ⊢
  go_enter Try.func20, Try.ntmps20
  go_wp2
  go_ret
  exact ⟨rfl, below_alloc (Below.refl _ _) _⟩
set_option maxHeartbeats 4000000 in
theorem old_calls {W : World} {qc qb : Nat} {c b : Int} (q0 : W.cell? ⟨qc, 0, none⟩ = some (.int .i64 c)) (q1 : W.cell? ⟨qb, 0, none⟩ = some (.int .i64 b)) (x : Int × Int) :
    Calls Try.prog 30 #[kv x, .pointer (some ⟨qc, 0, none⟩), .pointer (some ⟨qb, 0, none⟩)] W fun e w' => e = .returned (.bool (x.1 == c && decide (x.2 < b))) ∧ Below W.heap.size W w' := by
  obtain ⟨y1, y2⟩ := x
  have hlt := World.block_lt_of_cell? W _ q0
  have hlt' := World.block_lt_of_cell? W _ q1
  unfold kv
  dsimp only
  cases hv : (y1 == c) with
  | true =>
    go_enter Try.func30, Try.ntmps30
    go_wp2
    go_ret
    exact ⟨rfl, below_alloc (Below.refl _ _) _⟩
  | false =>
    go_enter Try.func30, Try.ntmps30
    go_wp2
    go_ret
    exact ⟨rfl, below_alloc (Below.refl _ _) _⟩
end Go.Proofs.Ytjailboidlmadaa.P
