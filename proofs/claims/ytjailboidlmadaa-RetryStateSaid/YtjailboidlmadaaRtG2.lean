/- A whole block loaded, or stored, as one step. -/
import Derived.Test.YtjailboidlmadaaRtG
namespace Go.Proofs.Ytjailboidlmadaa.P
open Go.RowKit Go.Maps Go.WideMaps Go.Proofs.YtjailboidlmadaaW.PrintWords Go.Proofs.YtjailboidlmadaaW.PrintLast Go.Proofs.YtjailboidlmadaaW.PrintMore
set_option linter.unusedVariables false
set_option linter.unusedSimpArgs false
theorem agg28 (w : World) : (isAgg 28).run Try.prog w = .ok true w := by kernel_rfl
theorem agg38 (w : World) : (isAgg 38).run Try.prog w = .ok true w := by kernel_rfl
theorem agg64 (w : World) : (isAgg 64).run Try.prog w = .ok true w := by kernel_rfl
theorem agg66 (w : World) : (isAgg 66).run Try.prog w = .ok true w := by kernel_rfl
theorem size28 : (Try.prog.info? 28).map (·.size) = some 7 := by kernel_rfl
theorem size38 : (Try.prog.info? 38).map (·.size) = some 11 := by kernel_rfl
theorem size64 : (Try.prog.info? 64).map (·.size) = some 2 := by kernel_rfl
theorem size66 : (Try.prog.info? 66).map (·.size) = some 12 := by kernel_rfl
section
variable {P : Program} {ops : Array Oper} {rest : List Oper} {o : Oper} {a : Act} {Q : Exit → Act → World → Prop} {W : World}
theorem run_load_all {g off : Nat} {e : TypeId} {c : Array Value} (t : TypeId) (vs : List Value) (hh : W.heap[g]? = some (.cells c e (0, 0))) (ha : ∀ w, (isAgg t).run P w = .ok true w) (ht : (P.info? t).map (·.size) = some vs.length) (hvs : (c.toList.drop off).take vs.length = vs) :
    (Instr.loadAt t (.pointer (some ⟨g, off, none⟩))).run P W = .ok (.agg vs.toArray) W := by
  obtain ⟨i, hi, hsz⟩ := Option.map_eq_some_iff.1 ht
  have h1 := run_loadCells_list (P := P) (w := W) ⟨g, off, none⟩ vs (fun j v hv => by
    rw [Addr.add_lit, blk_cell hh, ← Array.getElem?_toList, ← List.getElem?_drop]
    have hj : j < vs.length := (List.getElem?_eq_some_iff.1 hv).1
    rw [← List.getElem?_take_of_lt hj, hvs]
    exact hv)
  simp [Instr.loadAt, Instr.sureAddr, loadVar, sizeOf, typeInfo, hi, hsz, ha, h1]
theorem wpList_load_all (hgd : o.guard = none) (t : TypeId) (p : Operand) (ho : o.op = .load t p) {g off : Nat} {e : TypeId} {c : Array Value} (haddr : a.eval p = .pointer (some ⟨g, off, none⟩)) (vs : List Value) (hh : W.heap[g]? = some (.cells c e (0, 0))) (ha : ∀ w, (isAgg t).run P w = .ok true w)
    (ht : (P.info? t).map (·.size) = some vs.length) (hvs : (c.toList.drop off).take vs.length = vs) (h : wpList P ops Q rest (a.put o.dst (.agg vs.toArray)) W) : wpList P ops Q (o :: rest) a W := by
  refine wpList_plain hgd fun K hK => ?_
  have hrun := run_load_all (P := P) t vs hh ha ht hvs
  unfold Oper.wp execOp
  simp only [ho, haddr, Sem.run_bind, Sem.run_pure, Result.andThen_ok, hrun]
  exact hK _ _ h
theorem wpList_store_all (hN : o.dst = none) (hgd : o.guard = none) (t : TypeId) (p x : Operand) (ho : o.op = .store t p x) {g : Nat} {e : TypeId} {c : Array Value} (haddr : a.eval p = .pointer (some ⟨g, 0, none⟩)) (vs : List Value) (hx : a.eval x = .agg vs.toArray) (hh : W.heap[g]? = some (.cells c e (0, 0)))
    (ht : (P.info? t).map (·.size) = some vs.length) (hl : vs.length = c.size) (h1 : vs.all (·.oneCell') = true) (h : ∀ w1, w1.heap[g]? = some (.cells vs.toArray e (0, 0)) → Gr (fun i => i = g) W w1 → wpList P ops Q rest a w1) : wpList P ops Q (o :: rest) a W := by
  refine wpList_plain hgd fun K hK => ?_
  have hrun := run_store_run (P := P) (o := 0) t (.agg vs.toArray) vs hh (by simp [Value.cells]) ht (by omega) (fun q hq => List.all_eq_true.1 h1 q hq)
  unfold Oper.wp execOp
  simp only [ho, haddr, hx, Sem.run_bind, Sem.run_pure, Result.andThen_ok, hrun]
  show K (a.put o.dst undef) _
  rw [hN]
  exact hK _ _ (h _ (row_all hh vs hl) ((Gr.refl _ _).setCells _ (.inl rfl)))
end
end Go.Proofs.Ytjailboidlmadaa.P
