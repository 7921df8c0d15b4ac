/- What Put does to the cache's memory, step by step: the order's row turned and stored anew, an entry deleted. -/
import Derived.Test.YtjailboidlmadaaRtJ
namespace Go.Proofs.Ytjailboidlmadaa.P
open Go.RowKit Go.Maps Go.WideMaps Go.Proofs.YtjailboidlmadaaW.PrintWords Go.Proofs.YtjailboidlmadaaW.PrintLast Go.Proofs.YtjailboidlmadaaW.PrintMore
set_option linter.unusedVariables false
set_option linter.unusedSimpArgs false
variable {W W' : World} {B N bm : Nat} {D D' : Nat → Prop} {sl sl' : Value} {DM : DataW Value} {os os' : List (Int × Int)} {es : List Ent}

theorem KR.own_typed (h : KR W D sl os) {i : Nat} (hi : some i = sl.ownBlock) : ∃ c, W.heap[i]? = some (.cells c 64 (0, 0)) := by
  rcases h with ⟨rfl, _⟩ | ⟨g, off, cap, cells, rfl, hg, h⟩
  · simp [Value.ownBlock] at hi
  · simp [Value.ownBlock] at hi
    subst hi
    exact ⟨_, h.at_⟩
theorem StM.own_ne (h : StM W B D N bm sl DM os es) {i q : Nat} {c : Array Value} (hc : W.heap[i]? = some (.cells c q (0, 0))) (hq : q ≠ 64) : ¬ some i = sl.ownBlock := by
  intro hi
  obtain ⟨c', hc'⟩ := h.ord.own_typed hi
  rw [hc] at hc'
  injection hc' with hc'
  injection hc' with _ hc'
  exact hq hc'
theorem StM.own_bm (h : StM W B D N bm sl DM os es) : ¬ some bm = sl.ownBlock := by
  intro hi
  obtain ⟨c', hc'⟩ := h.ord.own_typed hi
  exact cells_ne_map h hc' rfl
/-- the order's row has turned; the field is stored anew -/
theorem StM.reorder (h : StM W B D N bm sl DM os es) (hg : Gr (fun i => some i = sl.ownBlock) W W') (hD : ∀ i, D i → D' i) (hk : KR W' D' sl' os') : StM (W'.setCell ⟨B, 1, none⟩ sl') B D' N bm sl' DM os' es := by
  have hB : W'.heap[B]? = some (.cells #[.map (some bm), sl] 62 (0, 0)) := (hg.block B h.ltB (h.own_ne h.at_ (by decide))).trans h.at_
  have hB' := heap_setCell_same W' B 1 _ 62 sl' hB
  have hm := hg.block bm h.ltm h.own_bm
  have hne : ∀ (i : Nat) (c : Array Value) (q : Nat), W'.heap[i]? = some (.cells c q (0, 0)) → q ≠ 62 → (W'.setCell ⟨B, 1, none⟩ sl').heap[i]? = W'.heap[i]? := fun i c q hc hq => by
    refine Below.heap_setCell W' ⟨B, 1, none⟩ sl' i (fun e => ?_)
    rw [e, hB] at hc
    injection hc with hc
    injection hc with _ hc
    exact hq hc.symm
  refine ⟨hD _ h.hB, hD _ h.hbm, hB', owns_step h.map ((Below.heap_setCell W' ⟨B, 1, none⟩ sl' bm h.ne).trans hm), hk.step (fun _ h => h) (fun i c hd hc => hne i c 64 hc (by decide)), h.nodup, h.wf, fun e he => ?_, h.miss, h.fits⟩
  obtain ⟨v4, v8, h1, h2, h3⟩ := h.hit e he
  refine ⟨v4, v8, h1, h2, h3.step hD (fun i c q hd hc hq => ?_)⟩
  have hi := hg.block i (blk_lt hc) (h.own_ne hc (by rcases hq with rfl | rfl <;> decide))
  exact (hne i c q (hi.trans hc) (by rcases hq with rfl | rfl <;> decide)).trans hi
theorem StM.order_cell (h : StM W B D N bm sl DM os es) (hg : Gr (fun i => some i = sl.ownBlock) W W') : W'.heap[B]? = some (.cells #[.map (some bm), sl] 62 (0, 0)) := (hg.block B h.ltB (h.own_ne h.at_ (by decide))).trans h.at_
theorem StM.sub (h : StM W B D N bm sl DM os es) {i : Nat} (hi : some i = sl.ownBlock) : D i := by
  rcases h.ord with ⟨h1, _⟩ | ⟨g, off, cap, cells, h1, hg, _⟩
  · rw [h1] at hi; simp [Value.ownBlock] at hi
  · rw [h1] at hi
    simp [Value.ownBlock] at hi
    subst hi
    exact hg
theorem step_del {ops : Array Oper} {o : Oper} {a : Act} {K : Act → World → Prop} {Q : Exit → Act → World → Prop} {E : Prop} (hgd : o.guard = none) (m x : Operand)
    (ho : o.op = .call { callee := .builtin .delete, args := #[m, x], argTypes := #[59, 64] }) {vm vx : Value} (hm : a.eval m = vm) (hx : a.eval x = vx) (hrun : (Builtin.delete_ #[59, 64] o.type #[vm, vx]).run Try.prog W = .ok (.tuple #[]) W')
    (hK : K (a.put o.dst (.tuple #[])) W') : if Region.wanted o (yielded ops a.tmps) = true then Oper.wp Try.prog o a W K Q else E := by
  have hw : Region.wanted o (yielded ops a.tmps) = true := by simp [Region.wanted, hgd]
  rw [if_pos hw]
  unfold Oper.wp
  simp [execOp, ho, resolve, invoke, builtin, hm, hx, hrun, Result.andThen]
  exact hK

/-! ### what is kept, as a list -/
/-- the newest twenty -/
def trunc {α : Type} (l : List α) : List α := if 20 < l.length then l.drop 1 else l
/-- behind Put: the newest last -/
def putE (es : List Ent) (e : Ent) : List Ent := trunc (noKey e.key es ++ [e])
theorem noKey_none {k : Int × Int} {es : List Ent} (h : k ∉ es.map Ent.key) : noKey k es = es := by
  unfold noKey
  rw [List.filter_eq_self]
  intro e he
  have : e.key ≠ k := fun q => h (List.mem_map.2 ⟨e, he, q⟩)
  simpa using this
theorem keys_put (es : List Ent) (e : Ent) : (noKey e.key es ++ [e]).map Ent.key = ((es.map Ent.key).filter fun x => !(x == e.key)) ++ [e.key] := by
  rw [List.map_append, noKey_keys]
  rfl
theorem noKey_head {e : Ent} {es : List Ent} (h : ((e :: es).map Ent.key).Nodup) : noKey e.key (e :: es) = es := by
  rw [List.map_cons, List.nodup_cons] at h
  unfold noKey
  rw [List.filter_cons_of_neg (by simp)]
  exact noKey_none h.1
end Go.Proofs.Ytjailboidlmadaa.P
