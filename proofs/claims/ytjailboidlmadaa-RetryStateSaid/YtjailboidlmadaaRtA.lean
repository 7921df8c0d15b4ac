/- Words for a cache of calls: keys as a map's keys, frames, and a row of keys at whatever offset in a block of its own. -/
import Derived.Test.YtjailboidlmadaaPx6
import Derived.DeepKeys4
import Derived.Deep.AppendSrc
import Derived.Lib.SliceRun
namespace Go.Proofs.Ytjailboidlmadaa.P
open Go.RowKit Go.Maps Go.WideMaps Go.Proofs.YtjailboidlmadaaW.PrintWords Go.Proofs.YtjailboidlmadaaW.PrintLast Go.Proofs.YtjailboidlmadaaW.PrintMore
set_option linter.unusedVariables false

/-! ### keys -/
theorem out_ : laidOutB Try.prog = true := by kernel_rfl
theorem row64 : (64 : TypeId) < Try.prog.types.size := of_decide_eq_true (by kernel_rfl)
theorem law64 : Keyed Try.prog 64 := Keyed.of_law (deep_law_laid out_ (m := 2) (by omega) row64 (by kernel_rfl) (by rw [Try.underlying64]))
/-- a call's key as a value -/
def kv (k : Int × Int) : Value := .agg #[.int .i64 k.1, .int .i64 k.2]
/-- .. as a map's key -/
def klit (k : Int × Int) : Lit := .string (keyBytes [.int .i64 k.1, .int .i64 k.2])
/-- both numbers are ints -/
def kwf (k : Int × Int) : Prop := (Lit.int .i64 k.1).wf = true ∧ (Lit.int .i64 k.2).wf = true
theorem key_pair {P : Program} {k t : TypeId} {f g : Field} (hu : P.underlying k = some (.struct #[f, g])) (hk : P.keyType k = true) (hc : P.cellsOf k = 2) (hf : f.type = t) (hg : g.type = t) (hof : f.offset = 0) (hog : g.offset = 1) (hnf : f.name ≠ "_") (hng : g.name ≠ "_") (ht : P.underlying t = some (.int .i64)) (hct : P.cellsOf t = 1) (hs : 1 ≤ P.types.size) {a b : Int}
    (h1 : (Lit.int .i64 a).wf = true) (h2 : (Lit.int .i64 b).wf = true) : keyOf P k (.agg #[.int .i64 a, .int .i64 b]) = some (.string (keyBytes [.int .i64 a, .int .i64 b])) := by
  obtain ⟨n, hn⟩ : ∃ n, P.types.size = n + 1 := ⟨P.types.size - 1, by omega⟩
  unfold keyOf
  rw [hu, hk, hn]
  simp [Value.formed, hu, hc, Program.keyLits, Value.cells, hct, ht, h1, h2, hf, hg, hof, hog, hnf, hng]
theorem key_of {k : Int × Int} (h : kwf k) : keyOf Try.prog 64 (kv k) = some (klit k) :=
  key_pair Try.underlying64 (by kernel_rfl) (by kernel_rfl) rfl rfl rfl rfl (by decide) (by decide) Try.underlying3 (by kernel_rfl) (Nat.le_trans (by decide) (Nat.le_of_lt row64)) h.1 h.2
theorem klit_inj {k k' : Int × Int} (h : kwf k) (h' : kwf k') (e : klit k = klit k') : k = k' := by
  have q := law64.inj (key_of h) (by rw [e]; exact key_of h')
  unfold kv at q
  injection q with q
  have q := congrArg Array.toList q
  injection q with q1 q2
  injection q2 with q2
  injection q1 with _ q1
  injection q2 with _ q2
  exact Prod.ext q1 q2
theorem klit_key (k : Int × Int) : WideAt.IsKeyLit (klit k) := trivial

/-! ### frames -/
/-- all blocks that were there are as they were, but for those in S -/
structure Gr (S : Nat → Prop) (w w' : World) : Prop where
  os : w'.os = w.os
  tape : w'.tape = w.tape
  output : w'.output = w.output
  size : w.heap.size ≤ w'.heap.size
  block : ∀ i, i < w.heap.size → ¬ S i → w'.heap[i]? = w.heap[i]?
variable {S S' : Nat → Prop} {w w' w'' : World}
theorem Gr.refl (S : Nat → Prop) (w : World) : Gr S w w := ⟨rfl, rfl, rfl, Nat.le_refl _, fun _ _ _ => rfl⟩
theorem Gr.then_ (h : Gr S w w') (h' : Gr S' w' w'') (hS : ∀ i, S' i → S i ∨ w.heap.size ≤ i) : Gr S w w'' :=
  ⟨h'.os.trans h.os, h'.tape.trans h.tape, h'.output.trans h.output, Nat.le_trans h.size h'.size, fun i hi hn => (h'.block i (Nat.lt_of_lt_of_le hi h.size) (fun hs => (hS i hs).elim hn (fun hle => absurd hi (by omega)))).trans (h.block i hi hn)⟩
theorem Gr.mono (h : Gr S w w') (hS : ∀ i, S i → S' i ∨ w.heap.size ≤ i) : Gr S' w w' := ⟨h.os, h.tape, h.output, h.size, fun i hi hn => h.block i hi (fun hs => (hS i hs).elim hn (fun hle => absurd hi (by omega)))⟩
theorem Gr.of_below (h : Below w.heap.size w w') : Gr S w w' := ⟨h.os, h.tape, h.output, h.size, fun i hi _ => h.block i hi⟩
theorem Gr.of_grown {row : Option Nat} (h : w.grownBy w' row) : Gr (fun i => some i = row) w w' := ⟨h.os, h.tape, h.output, h.size, fun i hi hn => h.block i hi hn⟩
theorem Gr.below (h : Gr S w w') {B : Nat} (hB : B ≤ w.heap.size) (hS : ∀ i, S i → B ≤ i) : Below B w w' := ⟨h.os, h.tape, h.output, h.size, fun i hi => h.block i (by omega) (fun hs => absurd (hS i hs) (by omega))⟩
theorem Gr.grown {r : Nat} (h : Gr (fun i => i = r) w w') : w.grownBy w' (some r) := ⟨h.os, h.tape, h.output, h.size, fun i hi hn => h.block i hi (fun e => hn (by rw [e]))⟩
theorem Gr.set (h : Gr S w w') {p : Addr} (u : Value) (hp : S p.block ∨ w.heap.size ≤ p.block) : Gr S w (w'.setCell p u) :=
  h.then_ (S' := fun i => i = p.block) ⟨rfl, rfl, rfl, by simp, fun i _ hn => Below.heap_setCell _ _ _ _ hn⟩ (fun i hi => by cases hi; exact hp)
theorem Gr.alloc (h : Gr S w w') (o : Obj) : Gr S w (w'.alloc o) := h.then_ (S' := S) (Gr.of_below (below_alloc (Below.refl _ _) o)) (fun _ h => .inl h)
theorem Gr.drew (h : Gr S w w') : Gr S w w'.drew := h.then_ (S' := S) (Gr.of_below (below_drew (Below.refl _ _))) (fun _ h => .inl h)
theorem Gr.cell (h : Gr S w w') {p : Addr} {u : Value} (hc : w.cell? p = some u) (hn : ¬ S p.block) : w'.cell? p = some u := by
  have hlt := World.block_lt_of_cell? w p hc
  have := World.cell?_of_block (a := p) (h.block p.block hlt hn)
  rw [this]; exact hc
theorem Gr.setCells {g o : Nat} (h : Gr S w w') (vs : List Value) (hp : S g ∨ w.heap.size ≤ g) : Gr S w (w'.setCells g o vs) := by
  induction vs generalizing w' o with
  | nil => exact h
  | cons v vs ih => exact ih (h.set v hp)

/-! ### a row of keys -/
def kcells (ks : List (Int × Int)) : List Value := ks.flatMap fun k => [.int .i64 k.1, .int .i64 k.2]
theorem kcells_len (ks : List (Int × Int)) : (kcells ks).length = ks.length * 2 := by
  induction ks with
  | nil => rfl
  | cons k ks ih => simp [kcells] at ih ⊢; omega
theorem kcells_append (a b : List (Int × Int)) : kcells (a ++ b) = kcells a ++ kcells b := by simp [kcells]
theorem kcells_cons (k : Int × Int) (ks : List (Int × Int)) : kcells (k :: ks) = .int .i64 k.1 :: .int .i64 k.2 :: kcells ks := rfl
theorem kcells_at : ∀ (ks : List (Int × Int)) (i : Nat) (k : Int × Int), ks[i]? = some k → (kcells ks)[i * 2]? = some (.int .i64 k.1) ∧ (kcells ks)[i * 2 + 1]? = some (.int .i64 k.2)
  | [], i, k, h => by simp at h
  | a :: ks, 0, k, h => by simp at h; subst h; exact ⟨rfl, rfl⟩
  | a :: ks, i + 1, k, h => by
    have h : ks[i]? = some k := by simpa using h
    have := kcells_at ks i k h
    rw [kcells_cons, show (i + 1) * 2 = i * 2 + 1 + 1 by omega]
    exact this
theorem kcells_one (ks : List (Int × Int)) : ∀ u ∈ kcells ks, u.oneCell' = true := by
  intro u hu
  obtain ⟨k, _, h⟩ := List.mem_flatMap.1 hu
  rcases List.mem_cons.1 h with rfl | h
  · rfl
  · rcases List.mem_cons.1 h with rfl | h
    · rfl
    · cases h
/-- block g holds from off on room for cap keys, of which the first ones are ks -/
structure KB (W : World) (g off cap : Nat) (ks : List (Int × Int)) (cells : Array Value) : Prop where
  at_ : W.heap[g]? = some (.cells cells 64 (0, 0))
  le : ks.length ≤ cap
  max : cap ≤ maxLen
  room : off + cap * 2 ≤ cells.size
  holds : ∀ j u, (kcells ks)[j]? = some u → cells[off + j]? = some u
/-- the value v is a row of keys that lies in D -/
def KR (W : World) (D : Nat → Prop) (v : Value) (ks : List (Int × Int)) : Prop :=
  (v = .slice none 0 0 ∧ ks = []) ∨ ∃ g off cap cells, v = .slice (some ⟨g, off, none⟩) ks.length cap ∧ D g ∧ KB W g off cap ks cells
variable {W W' : World} {D D' : Nat → Prop} {v : Value} {ks : List (Int × Int)} {g off cap : Nat} {cells : Array Value}
theorem KB.lt (h : KB W g off cap ks cells) : g < W.heap.size := by
  rcases Nat.lt_or_ge g W.heap.size with hl | hl
  · exact hl
  · have := h.at_; rw [Array.getElem?_eq_none hl] at this; cases this
theorem KB.cell (h : KB W g off cap ks cells) (j : Nat) (sp : j < cap * 2) : ∃ u, W.cell? ⟨g, off + j, none⟩ = some u ∧ cells[off + j]? = some u := by
  have := h.room
  refine ⟨cells[off + j]'(by omega), ?_, by rw [Array.getElem?_eq_getElem (by omega)]⟩
  unfold World.cell?
  rw [h.at_]
  show cells[off + j]? = _
  rw [Array.getElem?_eq_getElem (by omega)]
theorem KB.cellAt (h : KB W g off cap ks cells) {j : Nat} {u : Value} (hu : (kcells ks)[j]? = some u) : W.cell? ⟨g, off + j, none⟩ = some u := by
  unfold World.cell?
  rw [h.at_]
  exact h.holds j u hu
theorem KB.frozen (h : KB W g off cap ks cells) (o : Nat) : W.frozen? ⟨g, o, none⟩ = false := by
  unfold World.frozen?
  rw [h.at_]
  simp
theorem KB.key (h : KB W g off cap ks cells) {i : Nat} {k : Int × Int} (hk : ks[i]? = some k) : W.cell? ⟨g, off + i * 2, none⟩ = some (.int .i64 k.1) ∧ W.cell? ⟨g, off + i * 2 + 1, none⟩ = some (.int .i64 k.2) := by
  obtain ⟨h1, h2⟩ := kcells_at ks i k hk
  exact ⟨h.cellAt h1, by rw [Nat.add_assoc]; exact h.cellAt h2⟩
theorem KB.step (h : KB W g off cap ks cells) (hb : W'.heap[g]? = W.heap[g]?) : KB W' g off cap ks cells := ⟨hb.trans h.at_, h.le, h.max, h.room, h.holds⟩
theorem KR.step (h : KR W D v ks) (hD : ∀ i, D i → D' i) (hb : ∀ i c, D i → W.heap[i]? = some (.cells c 64 (0, 0)) → W'.heap[i]? = W.heap[i]?) : KR W' D' v ks := by
  rcases h with h | ⟨g, off, cap, cells, rfl, hg, h⟩
  · exact .inl h
  · exact .inr ⟨g, off, cap, cells, rfl, hD g hg, h.step (hb g _ hg h.at_)⟩
theorem KR.bound (h : KR W D v ks) : KR W (fun i => D i ∧ i < W.heap.size) v ks := by
  rcases h with h | ⟨g, off, cap, cells, rfl, hg, h⟩
  · exact .inl h
  · exact .inr ⟨g, off, cap, cells, rfl, ⟨hg, h.lt⟩, h⟩
theorem KR.shape (h : KR W D v ks) : ∃ A cap, v = .slice A ks.length cap := by
  rcases h with ⟨rfl, rfl⟩ | ⟨g, off, cap, cells, rfl, hg, h⟩
  · exact ⟨_, _, rfl⟩
  · exact ⟨_, _, rfl⟩
end Go.Proofs.Ytjailboidlmadaa.P
