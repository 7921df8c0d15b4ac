/- Short words for rows that a printed walk says often: theorems whose side conditions are shown by default. -/
import Derived.Test.YtjailboidlmadaaProg
import Derived.Below
import Derived.Deep.Draws
import Derived.Deep.OwnRows
import Derived.Tactics
import Derived.WalkKit
import Derived.KernelRfl
import Derived.RowKit3
import Derived.OrdersHeld
import Derived.RowKit
import Derived.Test.YtjailboidlmadaaWWords
import Derived.Test.YtjailboidlmadaaWMore
import Derived.Test.YtjailboidlmadaaWLast
import Derived.Test.YtjailboidlmadaaWTab
namespace Go.Proofs.YtjailboidlmadaaW.PrintMore
open Go.RowKit Go.Proofs.YtjailboidlmadaaW.PrintWords Go.Proofs.YtjailboidlmadaaW.PrintLast
set_option linter.unusedVariables false

/-- which operations are done: the bits of a number -/
def nz (n m : Nat) : Array Bool := ((List.range n).map fun i => m.testBit i).toArray
section
variable {P : Program} {ops : Array Oper} {Q : Exit → Act → World → Prop} {md : Region.Mode} {S : World → Prop} {ds : List Nat} {T : Bool × List (List Nat × List Nat)} {B : List Nat}

/-- a step that reads nothing -/
theorem zp {n m fuel : Nat} {a a' : Act} {w : World} {oi : Oper} {v : Value} (hT : Aside0 (rtab md ops = T)) (i N m' : Nat)
    (h : wpAnyLast P md ops Q S ds fuel (nz n m') a' w)
    (hi : ops[i]? = some oi := by rfl) (hN : oi.dst = some N := by rfl) (hc : anyT T (nz n m).toList (nz n m').toList i = true := by kernel_rfl)
    (hQ : ∀ c a w, Q (.panic c) (a.put oi.dst v) w → Q (.panic c) a w := by exact fun _ _ _ h => h)
    (hw : Region.wanted oi (yielded ops a.tmps) = true := by rfl)
    (hv : ∀ w, (execOp a.eval oi).run P w = .ok (.value v) w := by (intro w'; go_simp; with_reducible rfl))
    (ha : a.put (some N) v = a' := by (simp only [Act.put, List.setIfInBounds_toArray, List.set_cons_zero, List.set_cons_succ, i64_w, i32_w]; rfl)) :
    wpAnyLast P md ops Q S ds (fuel + 1) (nz n m) a w :=
  pure_ (nz n m') hi hN (any_of hT.out hc) hQ (Or.inl ⟨hw, hv⟩) ha h
/-- a step that is left out -/
theorem zq {n m fuel : Nat} {a a' : Act} {w : World} {oi : Oper} (hT : Aside0 (rtab md ops = T)) (i N m' : Nat)
    (h : wpAnyLast P md ops Q S ds fuel (nz n m') a' w)
    (hi : ops[i]? = some oi := by rfl) (hN : oi.dst = some N := by rfl) (hc : anyT T (nz n m).toList (nz n m').toList i = true := by kernel_rfl)
    (hQ : ∀ c a w, Q (.panic c) (a.put oi.dst undef) w → Q (.panic c) a w := by exact fun _ _ _ h => h)
    (hw : Region.wanted oi (yielded ops a.tmps) = false := by rfl)
    (ha : a.put (some N) undef = a' := by (simp only [Act.put, List.setIfInBounds_toArray, List.set_cons_zero, List.set_cons_succ, i64_w, i32_w]; rfl)) :
    wpAnyLast P md ops Q S ds (fuel + 1) (nz n m) a w :=
  pure_ (nz n m') hi hN (any_of hT.out hc) hQ (Or.inr ⟨hw, rfl⟩) ha h
/-- a step that reads what is known of -/
theorem zt {n m fuel : Nat} {a a' : Act} {w : World} {oi : Oper} {v : Value} (hT : Aside0 (rtab md ops = T)) (hW : Aside0 (waitsOk T.2 B = true)) (hS : S w) (i N m' : Nat)
    (h : wpAnyLast P md ops Q S ds fuel (nz n m') a' w)
    (hi : ops[i]? = some oi := by rfl) (hN : oi.dst = some N := by rfl) (hc : takeW T B ds (nz n m).toList (nz n m').toList i = true := by kernel_rfl)
    (hQ : ∀ c a w, Q (.panic c) (a.put oi.dst v) w → Q (.panic c) a w := by exact fun _ _ _ h => h)
    (hw : Region.wanted oi (yielded ops a.tmps) = true := by rfl)
    (hv : ∀ w, S w → (execOp a.eval oi).run P w = .ok (.value v) w := by ((first | rintro w' ⟨_, _, _, _, _, _, _, _⟩ | rintro w' ⟨_, _, _, _, _, _, _⟩ | rintro w' ⟨_, _, _, _, _, _⟩ | rintro w' ⟨_, _, _, _, _⟩ | rintro w' ⟨_, _, _, _⟩ | rintro w' ⟨_, _, _⟩ | rintro w' ⟨_, _⟩ | intro w' _); go_simp; with_reducible rfl))
    (ha : a.put (some N) v = a' := by (simp only [Act.put, List.setIfInBounds_toArray, List.set_cons_zero, List.set_cons_succ, i64_w, i32_w]; rfl)) :
    wpAnyLast P md ops Q S ds (fuel + 1) (nz n m) a w :=
  take_ (nz n m') hi hN (take_ofW hT.out hW.out hc) hQ (Or.inl ⟨hw, hv⟩) hS ha h
/-- the one that is next -/
theorem zo {n m fuel : Nat} {a : Act} {w : World} {oi : Oper} (hT : Aside0 (rtab md ops = T)) (i N m' : Nat)
    (h : ∀ K : Act → World → Prop, Shut (∀ a' w', S w' → (S w' → wpAnyLast P md ops Q S ds fuel (nz n m') a' w') → K a' w') → if Region.wanted oi (yielded ops a.tmps) = true then Oper.wp P oi a w K Q else K (a.put (some N) undef) w)
    (hi : ops[i]? = some oi := by rfl) (hN : oi.dst = some N := by rfl) (hc : (readyT T.2 (nz n m).toList == [i] && (nz n m).toList.set i true == (nz n m').toList) = true := by kernel_rfl)
    (hd : i ∉ ds := by decide) : wpAnyLast P md ops Q S ds (fuel + 1) (nz n m) a w :=
  one_ (nz n m') hi hN (one_of hT.out hc) hd h
/-- a call -/
theorem zg {oi : Oper} {N : Option Tmp} {a : Act} {w : World} {K : Act → World → Prop} {f : FuncId} {az : Array Operand} {ts : Array TypeId} {fn : Func} (hf : P.funcs[f]? = some fn) (args : Array Value)
    (h : Calls P f args w fun e w' => ∃ v, e = .returned v ∧ K (a.put N v) w')
    (hop : oi.op = .call { callee := .value (.func f), args := az, argTypes := ts } := by rfl)
    (hname : (fn.name == "runtime.NumGoroutine") = false := by kernel_rfl) (hb : fn.body.isSome = true := by rfl)
    (hw : Region.wanted oi (yielded ops a.tmps) = true := by rfl) (hN : oi.dst = N := by rfl)
    (hargs : az.map a.eval = args := by ((try simp only [List.map_toArray, List.map_cons, List.map_nil]); first | done | rfl | (simp only [List.length_drop, List.length_take]; rfl))) :
    if Region.wanted oi (yielded ops a.tmps) = true then Oper.wp P oi a w K Q else K (a.put N undef) w :=
  goes_ (ops := ops) hf hname hb args hw hN hop hargs h
/-- what was put -/
theorem zn {fuel : Nat} {l : Array Bool} {a a' : Act} {w : World} (h : wpAnyLast P md ops Q S ds fuel l a' w)
    (ha : a = a' := by (simp only [Act.put, List.setIfInBounds_toArray, List.set_cons_zero, List.set_cons_succ, i64_w, i32_w]; rfl)) : wpAnyLast P md ops Q S ds fuel l a w := norm_ ha h
end
/-- a cell that a call has left alone -/
theorem kc {w W : World} {g n c : Nat} {a ad : Addr} {v : Value} (hk : KeepBut w W g none) (hc : w.cell? a = some v) (ho : some g ≠ (Value.slice (some ad) n c).ownBlock)
    (hb : a.block = ad.block := by first | rfl | exact add_block _ _) : W.cell? a = some v := keep_cell hk hc (by rw [hb]; exact Kd.own_blk ho)
/-- what lay below stays -/
theorem kx {g : Nat} {o : Obj} {W W' : World} (h : Aside0 (W.heap[g]? = some o))
    (k : W.heap[g]? = some o → W'.heap[g]? = some o := by (intro h_; (with_reducible repeat (first | refine blk_drewN ?_ _ | refine blk_drew ?_ | refine blk_alloc ?_ _)); exact h_)) : W'.heap[g]? = some o := k h.out
theorem bw0 {w W W' : World} (h : Aside0 (Below w.heap.size w W))
    (k : Below w.heap.size w W → Below w.heap.size w W' := by (intro h_; repeat (first | (with_reducible first | exact h_ | apply below_alloc | apply pw_below_drewN | apply below_drew1) | exact h_))) : Below w.heap.size w W' := k h.out
theorem bw1 {w W W' : World} {g1 : Nat} (h : Aside0 (Below w.heap.size w W)) (h1 : w.heap.size ≤ g1)
    (k : Below w.heap.size w W → w.heap.size ≤ g1 → Below w.heap.size w W' := by (intro h_ h1_; repeat (first | (with_reducible first | exact h_ | apply below_alloc | apply pw_below_drewN | apply below_drew1 | refine below_set ?_ h1_) | exact h_))) : Below w.heap.size w W' := k h.out h1
theorem bw2 {w W W' : World} {g1 g2 : Nat} (h : Aside0 (Below w.heap.size w W)) (h1 : w.heap.size ≤ g1) (h2 : w.heap.size ≤ g2)
    (k : Below w.heap.size w W → w.heap.size ≤ g1 → w.heap.size ≤ g2 → Below w.heap.size w W' := by (intro h_ h1_ h2_; repeat (first | (with_reducible first | exact h_ | apply below_alloc | apply pw_below_drewN | apply below_drew1 | refine below_set ?_ h1_ | refine below_set ?_ h2_) | exact h_))) : Below w.heap.size w W' := k h.out h1 h2
theorem bw3 {w W W' : World} {g1 g2 g3 : Nat} (h : Aside0 (Below w.heap.size w W)) (h1 : w.heap.size ≤ g1) (h2 : w.heap.size ≤ g2) (h3 : w.heap.size ≤ g3)
    (k : Below w.heap.size w W → w.heap.size ≤ g1 → w.heap.size ≤ g2 → w.heap.size ≤ g3 → Below w.heap.size w W' := by (intro h_ h1_ h2_ h3_; repeat (first | (with_reducible first | exact h_ | apply below_alloc | apply pw_below_drewN | apply below_drew1 | refine below_set ?_ h1_ | refine below_set ?_ h2_ | refine below_set ?_ h3_) | exact h_))) : Below w.heap.size w W' := k h.out h1 h2 h3
end Go.Proofs.YtjailboidlmadaaW.PrintMore
