/- Words for a cache of calls: keys as a map's keys, frames, and a row of keys at whatever offset in a block of its own. -/
import Derived.Test.YtjailboidlmadaaPx6
import Derived.DeepKeys4
import Derived.Deep.AppendSrc
import Derived.Lib.SliceRun
section

namespace Go.Proofs.Ytjailboidlmadaa.P
open Go.RowKit Go.Maps Go.WideMaps Go.Proofs.YtjailboidlmadaaW.PrintWords Go.Proofs.YtjailboidlmadaaW.PrintLast Go.Proofs.YtjailboidlmadaaW.PrintMore
set_option linter.unusedVariables false

/-! ### keys -/
theorem out_ : laidOutB Try.prog = true := by kernel_rfl
theorem row64 : (64 : TypeId) < Try.prog.types.size := of_decide_eq_true (by kernel_rfl)
theorem law64 : Keyed Try.prog 64 := Keyed.of_law (deep_law_laid out_ (m := 2) (by omega) row64 (by kernel_rfl) (by rw [Try.underlying64]))
/-- a call's key as a value -/
def kv (k : Int × Int) : Value := .agg #[.int .i64 k.1, .int .i64 k.2]
/-- .. as a map's key -/
def klit (k : Int × Int) : Lit := .string (keyBytes [.int .i64 k.1, .int .i64 k.2])
/-- both numbers are ints -/
def kwf (k : Int × Int) : Prop := (Lit.int .i64 k.1).wf = true ∧ (Lit.int .i64 k.2).wf = true
theorem key_pair {P : Program} {k t : TypeId} {f g : Field} (hu : P.underlying k = some (.struct #[f, g])) (hk : P.keyType k = true) (hc : P.cellsOf k = 2) (hf : f.type = t) (hg : g.type = t) (hof : f.offset = 0) (hog : g.offset = 1) (hnf : f.name ≠ "_") (hng : g.name ≠ "_") (ht : P.underlying t = some (.int .i64)) (hct : P.cellsOf t = 1) (hs : 1 ≤ P.types.size) {a b : Int}
    (h1 : (Lit.int .i64 a).wf = true) (h2 : (Lit.int .i64 b).wf = true) : keyOf P k (.agg #[.int .i64 a, .int .i64 b]) = some (.string (keyBytes [.int .i64 a, .int .i64 b])) := by
  obtain ⟨n, hn⟩ : ∃ n, P.types.size = n + 1 := ⟨P.types.size - 1, by omega⟩
  unfold keyOf
  rw [hu, hk, hn]
  simp [Value.formed, hu, hc, Program.keyLits, Value.cells, hct, ht, h1, h2, hf, hg, hof, hog, hnf, hng]
theorem key_of {k : Int × Int} (h : kwf k) : keyOf Try.prog 64 (kv k) = some (klit k) :=
  key_pair Try.underlying64 (by kernel_rfl) (by kernel_rfl) rfl rfl rfl rfl (by decide) (by decide) Try.underlying3 (by kernel_rfl) (Nat.le_trans (by decide) (Nat.le_of_lt row64)) h.1 h.2
theorem klit_inj {k k' : Int × Int} (h : kwf k) (h' : kwf k') (e : klit k = klit k') : k = k' := by
  have q := law64.inj (key_of h) (by rw [e]; exact key_of h')
  unfold kv at q
  injection q with q
  have q := congrArg Array.toList q
  injection q with q1 q2
  injection q2 with q2
  injection q1 with _ q1
  injection q2 with _ q2
  exact Prod.ext q1 q2
theorem klit_key (k : Int × Int) : WideAt.IsKeyLit (klit k) := trivial

/-! ### frames -/
/-- all blocks that were there are as they were, but for those in S -/
structure Gr (S : Nat → Prop) (w w' : World) : Prop where
  os : w'.os = w.os
  tape : w'.tape = w.tape
  output : w'.output = w.output
  size : w.heap.size ≤ w'.heap.size
  block : ∀ i, i < w.heap.size → ¬ S i → w'.heap[i]? = w.heap[i]?
variable {S S' : Nat → Prop} {w w' w'' : World}
theorem Gr.refl (S : Nat → Prop) (w : World) : Gr S w w := ⟨rfl, rfl, rfl, Nat.le_refl _, fun _ _ _ => rfl⟩
theorem Gr.then_ (h : Gr S w w') (h' : Gr S' w' w'') (hS : ∀ i, S' i → S i ∨ w.heap.size ≤ i) : Gr S w w'' :=
  ⟨h'.os.trans h.os, h'.tape.trans h.tape, h'.output.trans h.output, Nat.le_trans h.size h'.size, fun i hi hn => (h'.block i (Nat.lt_of_lt_of_le hi h.size) (fun hs => (hS i hs).elim hn (fun hle => absurd hi (by omega)))).trans (h.block i hi hn)⟩
theorem Gr.mono (h : Gr S w w') (hS : ∀ i, S i → S' i ∨ w.heap.size ≤ i) : Gr S' w w' := ⟨h.os, h.tape, h.output, h.size, fun i hi hn => h.block i hi (fun hs => (hS i hs).elim hn (fun hle => absurd hi (by omega)))⟩
theorem Gr.of_below (h : Below w.heap.size w w') : Gr S w w' := ⟨h.os, h.tape, h.output, h.size, fun i hi _ => h.block i hi⟩
theorem Gr.of_grown {row : Option Nat} (h : w.grownBy w' row) : Gr (fun i => some i = row) w w' := ⟨h.os, h.tape, h.output, h.size, fun i hi hn => h.block i hi hn⟩
theorem Gr.below (h : Gr S w w') {B : Nat} (hB : B ≤ w.heap.size) (hS : ∀ i, S i → B ≤ i) : Below B w w' := ⟨h.os, h.tape, h.output, h.size, fun i hi => h.block i (by omega) (fun hs => absurd (hS i hs) (by omega))⟩
theorem Gr.grown {r : Nat} (h : Gr (fun i => i = r) w w') : w.grownBy w' (some r) := ⟨h.os, h.tape, h.output, h.size, fun i hi hn => h.block i hi (fun e => hn (by rw [e]))⟩
theorem Gr.set (h : Gr S w w') {p : Addr} (u : Value) (hp : S p.block ∨ w.heap.size ≤ p.block) : Gr S w (w'.setCell p u) :=
  h.then_ (S' := fun i => i = p.block) ⟨rfl, rfl, rfl, by simp, fun i _ hn => Below.heap_setCell _ _ _ _ hn⟩ (fun i hi => by cases hi; exact hp)
theorem Gr.alloc (h : Gr S w w') (o : Obj) : Gr S w (w'.alloc o) := h.then_ (S' := S) (Gr.of_below (below_alloc (Below.refl _ _) o)) (fun _ h => .inl h)
theorem Gr.drew (h : Gr S w w') : Gr S w w'.drew := h.then_ (S' := S) (Gr.of_below (below_drew (Below.refl _ _))) (fun _ h => .inl h)
theorem Gr.cell (h : Gr S w w') {p : Addr} {u : Value} (hc : w.cell? p = some u) (hn : ¬ S p.block) : w'.cell? p = some u := by
  have hlt := World.block_lt_of_cell? w p hc
  have := World.cell?_of_block (a := p) (h.block p.block hlt hn)
  rw [this]; exact hc
theorem Gr.setCells {g o : Nat} (h : Gr S w w') (vs : List Value) (hp : S g ∨ w.heap.size ≤ g) : Gr S w (w'.setCells g o vs) := by
  induction vs generalizing w' o with
  | nil => exact h
  | cons v vs ih => exact ih (h.set v hp)

/-! ### a row of keys -/
def kcells (ks : List (Int × Int)) : List Value := ks.flatMap fun k => [.int .i64 k.1, .int .i64 k.2]
theorem kcells_len (ks : List (Int × Int)) : (kcells ks).length = ks.length * 2 := by
  induction ks with
  | nil => rfl
  | cons k ks ih => simp [kcells] at ih ⊢; omega
theorem kcells_append (a b : List (Int × Int)) : kcells (a ++ b) = kcells a ++ kcells b := by simp [kcells]
theorem kcells_cons (k : Int × Int) (ks : List (Int × Int)) : kcells (k :: ks) = .int .i64 k.1 :: .int .i64 k.2 :: kcells ks := rfl
theorem kcells_at : ∀ (ks : List (Int × Int)) (i : Nat) (k : Int × Int), ks[i]? = some k → (kcells ks)[i * 2]? = some (.int .i64 k.1) ∧ (kcells ks)[i * 2 + 1]? = some (.int .i64 k.2)
  | [], i, k, h => by simp at h
  | a :: ks, 0, k, h => by simp at h; subst h; exact ⟨rfl, rfl⟩
  | a :: ks, i + 1, k, h => by
    have h : ks[i]? = some k := by simpa using h
    have := kcells_at ks i k h
    rw [kcells_cons, show (i + 1) * 2 = i * 2 + 1 + 1 by omega]
    exact this
theorem kcells_one (ks : List (Int × Int)) : ∀ u ∈ kcells ks, u.oneCell' = true := by
  intro u hu
  obtain ⟨k, _, h⟩ := List.mem_flatMap.1 hu
  rcases List.mem_cons.1 h with rfl | h
  · rfl
  · rcases List.mem_cons.1 h with rfl | h
    · rfl
    · cases h
/-- block g holds from off on room for cap keys, of which the first ones are ks -/
structure KB (W : World) (g off cap : Nat) (ks : List (Int × Int)) (cells : Array Value) : Prop where
  at_ : W.heap[g]? = some (.cells cells 64 (0, 0))
  le : ks.length ≤ cap
  max : cap ≤ maxLen
  room : off + cap * 2 ≤ cells.size
  holds : ∀ j u, (kcells ks)[j]? = some u → cells[off + j]? = some u
/-- the value v is a row of keys that lies in D -/
def KR (W : World) (D : Nat → Prop) (v : Value) (ks : List (Int × Int)) : Prop :=
  (v = .slice none 0 0 ∧ ks = []) ∨ ∃ g off cap cells, v = .slice (some ⟨g, off, none⟩) ks.length cap ∧ D g ∧ KB W g off cap ks cells
variable {W W' : World} {D D' : Nat → Prop} {v : Value} {ks : List (Int × Int)} {g off cap : Nat} {cells : Array Value}
theorem KB.lt (h : KB W g off cap ks cells) : g < W.heap.size := by
  rcases Nat.lt_or_ge g W.heap.size with hl | hl
  · exact hl
  · have := h.at_; rw [Array.getElem?_eq_none hl] at this; cases this
theorem KB.cell (h : KB W g off cap ks cells) (j : Nat) (sp : j < cap * 2) : ∃ u, W.cell? ⟨g, off + j, none⟩ = some u ∧ cells[off + j]? = some u := by
  have := h.room
  refine ⟨cells[off + j]'(by omega), ?_, by rw [Array.getElem?_eq_getElem (by omega)]⟩
  unfold World.cell?
  rw [h.at_]
  show cells[off + j]? = _
  rw [Array.getElem?_eq_getElem (by omega)]
theorem KB.cellAt (h : KB W g off cap ks cells) {j : Nat} {u : Value} (hu : (kcells ks)[j]? = some u) : W.cell? ⟨g, off + j, none⟩ = some u := by
  unfold World.cell?
  rw [h.at_]
  exact h.holds j u hu
theorem KB.frozen (h : KB W g off cap ks cells) (o : Nat) : W.frozen? ⟨g, o, none⟩ = false := by
  unfold World.frozen?
  rw [h.at_]
  simp
theorem KB.key (h : KB W g off cap ks cells) {i : Nat} {k : Int × Int} (hk : ks[i]? = some k) : W.cell? ⟨g, off + i * 2, none⟩ = some (.int .i64 k.1) ∧ W.cell? ⟨g, off + i * 2 + 1, none⟩ = some (.int .i64 k.2) := by
  obtain ⟨h1, h2⟩ := kcells_at ks i k hk
  exact ⟨h.cellAt h1, by rw [Nat.add_assoc]; exact h.cellAt h2⟩
theorem KB.step (h : KB W g off cap ks cells) (hb : W'.heap[g]? = W.heap[g]?) : KB W' g off cap ks cells := ⟨hb.trans h.at_, h.le, h.max, h.room, h.holds⟩
theorem KR.step (h : KR W D v ks) (hD : ∀ i, D i → D' i) (hb : ∀ i c, D i → W.heap[i]? = some (.cells c 64 (0, 0)) → W'.heap[i]? = W.heap[i]?) : KR W' D' v ks := by
  rcases h with h | ⟨g, off, cap, cells, rfl, hg, h⟩
  · exact .inl h
  · exact .inr ⟨g, off, cap, cells, rfl, hD g hg, h.step (hb g _ hg h.at_)⟩
theorem KR.bound (h : KR W D v ks) : KR W (fun i => D i ∧ i < W.heap.size) v ks := by
  rcases h with h | ⟨g, off, cap, cells, rfl, hg, h⟩
  · exact .inl h
  · exact .inr ⟨g, off, cap, cells, rfl, ⟨hg, h.lt⟩, h⟩
theorem KR.shape (h : KR W D v ks) : ∃ A cap, v = .slice A ks.length cap := by
  rcases h with ⟨rfl, rfl⟩ | ⟨g, off, cap, cells, rfl, hg, h⟩
  · exact ⟨_, _, rfl⟩
  · exact ⟨_, _, rfl⟩
end Go.Proofs.Ytjailboidlmadaa.P
end

section

namespace Go.Proofs.Ytjailboidlmadaa.P
open Go.RowKit Go.Maps Go.WideMaps Go.Proofs.YtjailboidlmadaaW.PrintWords Go.Proofs.YtjailboidlmadaaW.PrintLast Go.Proofs.YtjailboidlmadaaW.PrintMore
set_option linter.unusedVariables false
variable {W W' : World} {D D' : Nat → Prop} {v : Value} {ks : List (Int × Int)} {g off cap : Nat} {cells : Array Value}

theorem kcells_inv : ∀ (ks : List (Int × Int)) (m : Nat) (u : Value), (kcells ks)[m]? = some u → ∃ k, ks[m / 2]? = some k ∧ (m % 2 = 0 ∧ u = .int .i64 k.1 ∨ m % 2 = 1 ∧ u = .int .i64 k.2)
  | [], m, u, h => by simp [kcells] at h
  | a :: ks, 0, u, h => by rw [kcells_cons] at h; simp at h; exact ⟨a, by simp, .inl ⟨rfl, h.symm⟩⟩
  | a :: ks, 1, u, h => by rw [kcells_cons] at h; simp at h; exact ⟨a, by simp, .inr ⟨rfl, h.symm⟩⟩
  | a :: ks, m + 2, u, h => by
    rw [kcells_cons] at h
    obtain ⟨k, h1, h2⟩ := kcells_inv ks m u (by simpa using h)
    refine ⟨k, by rw [show (m + 2) / 2 = m / 2 + 1 by omega]; simpa using h1, ?_⟩
    rw [show (m + 2) % 2 = m % 2 by omega]
    exact h2
theorem KB.of_keys {W : World} (h1 : W.heap[g]? = some (.cells cells 64 (0, 0))) (h2 : ks.length ≤ cap) (h3 : cap ≤ maxLen) (h4 : off + cap * 2 ≤ cells.size)
    (h5 : ∀ i k, ks[i]? = some k → cells[off + i * 2]? = some (.int .i64 k.1) ∧ cells[off + i * 2 + 1]? = some (.int .i64 k.2)) : KB W g off cap ks cells := by
  refine ⟨h1, h2, h3, h4, fun j u hu => ?_⟩
  obtain ⟨k, hk, h⟩ := kcells_inv ks j u hu
  obtain ⟨a, b⟩ := h5 _ _ hk
  rcases h with ⟨h, rfl⟩ | ⟨h, rfl⟩
  · rw [show off + j = off + j / 2 * 2 by omega]; exact a
  · rw [show off + j = off + j / 2 * 2 + 1 by omega]; exact b
theorem KB.keys (h : KB W g off cap ks cells) {i : Nat} {k : Int × Int} (hk : ks[i]? = some k) : cells[off + i * 2]? = some (.int .i64 k.1) ∧ cells[off + i * 2 + 1]? = some (.int .i64 k.2) := by
  obtain ⟨a, b⟩ := kcells_at ks i k hk
  exact ⟨h.holds _ _ a, by rw [Nat.add_assoc]; exact h.holds _ _ b⟩
theorem setCells_block {t : TypeId} : ∀ (vs : List Value) (o : Nat) (W : World) (c : Array Value), W.heap[g]? = some (.cells c t (0, 0)) →
    ∃ c', (W.setCells g o vs).heap[g]? = some (.cells c' t (0, 0)) ∧ c'.size = c.size ∧ (∀ m, m < o ∨ o + vs.length ≤ m → c'[m]? = c[m]?) ∧ (∀ j u, vs[j]? = some u → o + j < c.size → c'[o + j]? = some u)
  | [], o, W, c, h => ⟨c, h, rfl, fun _ _ => rfl, fun j u hu => by simp at hu⟩
  | v :: vs, o, W, c, h => by
    have h1 := heap_setCell_same W g o c t v h
    obtain ⟨c', a1, a2, a3, a4⟩ := setCells_block vs (o + 1) _ _ h1
    refine ⟨c', a1, by rw [a2]; simp, fun m hm => ?_, fun j u hu hj => ?_⟩
    · rw [List.length_cons] at hm
      rw [a3 m (by omega)]
      rw [Array.getElem?_setIfInBounds_ne (by omega)]
    · cases j with
      | zero =>
        simp at hu
        subst hu
        rw [Nat.add_zero] at hj ⊢
        rw [a3 o (by omega), Array.getElem?_setIfInBounds_self_of_lt hj]
      | succ j =>
        have := a4 j u (by simpa using hu) (by simp; omega)
        rw [show o + (j + 1) = o + 1 + j by omega]
        exact this
/-- the key at place i is another one -/
theorem KB.put (h : KB W g off cap ks cells) {i : Nat} (hi : i < cap) (k : Int × Int) {ks' : List (Int × Int)} (hl : ks'.length ≤ cap) (hks : ∀ j k', ks'[j]? = some k' → (j = i ∧ k' = k) ∨ (j ≠ i ∧ ks[j]? = some k')) :
    ∃ cells', KB (W.setCells g (off + i * 2) (kcells [k])) g off cap ks' cells' := by
  obtain ⟨c', a1, a2, a3, a4⟩ := setCells_block (kcells [k]) (off + i * 2) W cells h.at_
  have hr := h.room
  refine ⟨c', KB.of_keys a1 hl h.max (by rw [a2]; exact hr) (fun j k' hk' => ?_)⟩
  rcases hks j k' hk' with ⟨rfl, rfl⟩ | ⟨hne, hk⟩
  · exact ⟨a4 0 _ rfl (by omega), a4 1 _ rfl (by omega)⟩
  · have hlen : (kcells [k]).length = 2 := rfl
    obtain ⟨b1, b2⟩ := h.keys hk
    rw [a3 _ (by omega), a3 _ (by omega)]
    exact ⟨b1, b2⟩
/-- what stands behind the first i keys does not matter -/
theorem KB.tail (h : KB W g off cap ks cells) (i : Nat) (vs : List Value) : ∃ cells', KB (W.setCells g (off + i * 2) vs) g off cap (ks.take i) cells' := by
  obtain ⟨c', a1, a2, a3, a4⟩ := setCells_block vs (off + i * 2) W cells h.at_
  have hr := h.room
  have hle := h.le
  refine ⟨c', KB.of_keys a1 (by rw [List.length_take]; omega) h.max (by rw [a2]; exact hr) (fun j k' hk' => ?_)⟩
  have hj : j < i := by have := (List.getElem?_eq_some_iff.1 hk').1; rw [List.length_take] at this; omega
  rw [List.getElem?_take_of_lt hj] at hk'
  obtain ⟨b1, b2⟩ := h.keys hk'
  rw [a3 _ (by omega), a3 _ (by omega)]
  exact ⟨b1, b2⟩
theorem KB.take (h : KB W g off cap ks cells) (i : Nat) : KB W g off cap (ks.take i) cells := by
  have hle := h.le
  refine KB.of_keys h.at_ (by rw [List.length_take]; omega) h.max h.room (fun j k' hk' => ?_)
  have hj : j < i := by have := (List.getElem?_eq_some_iff.1 hk').1; rw [List.length_take] at this; omega
  rw [List.getElem?_take_of_lt hj] at hk'
  exact h.keys hk'
/-- one key off the head -/
theorem KB.next {k : Int × Int} (h : KB W g off cap (k :: ks) cells) : KB W g (off + 2) (cap - 1) ks cells := by
  have hle := h.le
  have hr := h.room
  have hm := h.max
  rw [List.length_cons] at hle
  refine KB.of_keys h.at_ (by omega) (by omega) (by omega) (fun j k' hk' => ?_)
  have := h.keys (i := j + 1) (k := k') (by simpa using hk')
  rw [show off + 2 + j * 2 = off + (j + 1) * 2 by omega]
  exact this
theorem KB.none_left (h : KB W g off cap ks cells) (hk : cap = 0) (hn : ks = []) : KB W g (off + 0) 0 [] cells := by
  have hr := h.room
  subst hk
  exact KB.of_keys h.at_ (by simp) (by omega) (by omega) (fun j k' hk' => by simp at hk')

theorem info64 : (Try.prog.info? 64).map (fun i => (i.zero, i.size, i.bytes)) = some (some (.agg #[.int .i64 0, .int .i64 0]), 2, 16) := by kernel_rfl
theorem zero64 (w : World) : (zeroValue 64).run Try.prog w = .ok (.agg #[.int .i64 0, .int .i64 0]) w := by kernel_rfl
theorem agg2_cells (a b : Value) (ha : a.oneCell' = true) (hb : b.oneCell' = true) : (Value.agg #[a, b]).cells.size = 2 := by rfl

theorem World.grownBy_drewAlloc (W : World) (o : Obj) (row : Option Nat) : W.grownBy (W.drew.alloc o) row := 
  have hb := below_alloc (below_drew (Below.refl W.heap.size W)) o
  ⟨hb.os, hb.tape, hb.output, hb.size, fun k hk _ => hb.block k hk⟩
/-- one key more: the row is longer, in its own block or in a new one -/
theorem run_kr_append (h : KR W D v ks) (k : Int × Int) {q : Nat} (q0 : W.cell? ⟨q, 0, none⟩ = some (.int .i64 k.1)) (q1 : W.cell? ⟨q, 1, none⟩ = some (.int .i64 k.2)) (hl : ks.length + 1 ≤ 1099511627776) (ty : TypeId) :
    ∃ v' W', (Builtin.append_ #[60, 60] ty #[v, .slice (some ⟨q, 0, none⟩) 1 1]).run Try.prog W = .ok v' W' ∧ KR W' (fun i => D i ∨ i = W.heap.size) v' (ks ++ [k]) ∧ W.grownBy W' v.ownBlock := by
  obtain ⟨i, hi, hz, hsz, hby⟩ := info_parts info64
  have hsrc : Src Try.prog i.size 60 (.slice (some ⟨q, 0, none⟩) 1 1) 1 (kcells [k]) W := by
    refine Src.ofSlice W Try.underlying60 ⟨q, 0, none⟩ 1 1 (kcells [k]) (by rw [hsz]; rfl) (fun j u hu => ?_) (kcells_one _)
    have hj : j < 2 := (List.getElem?_eq_some_iff.1 hu).1
    rcases (by omega : j = 0 ∨ j = 1) with rfl | rfl
    · have : u = .int .i64 k.1 := by simpa [kcells] using hu.symm
      subst this; exact q0
    · have : u = .int .i64 k.2 := by simpa [kcells] using hu.symm
      subst this; exact q1
  have hgrow : ∀ (bs : Option Addr) (cap : Nat), v = .slice bs ks.length cap → cap < ks.length + 1 → (Builtin.firstCells i.size ks.length (.slice bs ks.length cap)).run Try.prog W.drew = .ok (kcells ks).toArray W.drew →
      ∃ v' W', (Builtin.append_ #[60, 60] ty #[v, .slice (some ⟨q, 0, none⟩) 1 1]).run Try.prog W = .ok v' W' ∧ KR W' (fun i => D i ∨ i = W.heap.size) v' (ks ++ [k]) ∧ W.grownBy W' v.ownBlock := by
    rintro bs cap rfl hc hf
    have hrun := run_append_grow_src (P := Try.prog) W 60 60 ty 64 i _ Try.underlying60 hi hz bs ks.length cap (kcells ks) hf (.slice (some ⟨q, 0, none⟩) 1 1) 1 (kcells [k]) hsrc (by omega) (by omega) (by refine growslice_fits (by omega) ?_; rw [hby]; omega)
    have hge := grownCap_ge W (ks.length + 1) cap 64
    have hcm := grownCap_le_maxLen W (ks.length + 1) cap 64 (by unfold maxLen; omega)
    generalize grownCap W (ks.length + 1) cap 64 = C at hrun hge hcm
    have hkb : ∃ cells, KB (W.drew.alloc (.cells ((kcells ks ++ kcells [k]).toArray ++ Builtin.zeroCells (Value.agg #[.int .i64 0, .int .i64 0]).cells (C - (ks.length + 1))) 64)) W.heap.size 0 C (ks ++ [k]) cells := by
      refine ⟨_, KB.of_keys (MapKept.heap_alloc W.drew _).1 (by rw [List.length_append]; exact hge) hcm ?_ (fun j k' hk' => ?_)⟩
      · rw [Array.size_append, List.size_toArray, List.length_append, kcells_len, size_zeroCells, agg2_cells _ _ rfl rfl, show (kcells [k]).length = 2 from rfl]
        omega
      · have hj : j < (ks ++ [k]).length := (List.getElem?_eq_some_iff.1 hk').1
        have hL : (kcells (ks ++ [k])).length = (ks ++ [k]).length * 2 := kcells_len _
        obtain ⟨a, b⟩ := kcells_at _ _ _ hk'
        rw [← kcells_append, Nat.zero_add, Array.getElem?_append_left (by rw [List.size_toArray]; omega), Array.getElem?_append_left (by rw [List.size_toArray]; omega), List.getElem?_toArray, List.getElem?_toArray]
        exact ⟨a, b⟩
    obtain ⟨cells, hkb⟩ := hkb
    exact ⟨_, _, hrun, .inr ⟨W.heap.size, 0, C, cells, by rw [List.length_append]; rfl, .inr rfl, hkb⟩, World.grownBy_drewAlloc W _ _⟩
  rcases h with ⟨rfl, rfl⟩ | ⟨g, off, cap, cells, rfl, hg, h⟩
  · exact hgrow none 0 rfl (by simp) (run_firstCells_none W.drew i.size 0 0 0)
  · by_cases hfit : ks.length + 1 ≤ cap
    · have hr := h.room
      have hrun := run_append_room_src (P := Try.prog) W 60 60 ty 64 i Try.underlying60 hi g off ks.length cap (.slice (some ⟨q, 0, none⟩) 1 1) 1 (kcells [k]) hsrc hfit
        (fun j hj => by
          have hj : j < 2 := hj
          rw [hsz, Nat.add_assoc]
          obtain ⟨u, hu, _⟩ := h.cell (ks.length * 2 + j) (by omega)
          rw [hu]; rfl) (fun j _ => h.frozen _)
      rw [hsz] at hrun
      obtain ⟨c', hc'⟩ := h.put (i := ks.length) (by omega) k (ks' := ks ++ [k]) (by simp; omega) (fun j k' hk' => by
        by_cases hj : j = ks.length
        · subst hj
          simp at hk'
          exact .inl ⟨rfl, hk'.symm⟩
        · have hlt : j < ks.length := by have := (List.getElem?_eq_some_iff.1 hk').1; simp at this; omega
          rw [List.getElem?_append_left hlt] at hk'
          exact .inr ⟨hj, hk'⟩)
      refine ⟨_, _, hrun, .inr ⟨g, off, cap, c', by rw [List.length_append]; rfl, .inl hg, hc'⟩, ?_⟩
      exact Gr.grown (r := g) ((Gr.refl (fun i => i = g) W).setCells _ (.inl rfl))
    · refine hgrow _ _ rfl (by omega) (run_firstCells_some W.drew i.size ks.length ⟨g, off, none⟩ ks.length cap (kcells ks) (by rw [kcells_len, hsz]) (fun j u hu => ?_))
      rw [Addr.add_lit]
      exact h.cellAt hu

/-- append, as one step of a region that draws -/
theorem step_kr_append {ops : Array Oper} {o : Oper} {a : Act} {K : Act → World → Prop} {Q : Exit → Act → World → Prop} {E : Prop} (hgd : o.guard = none) (s x : Operand)
    (ho : o.op = .call { callee := .builtin .append, args := #[s, x], argTypes := #[60, 60] }) (hs : a.eval s = v) (h : KR W D v ks) (k : Int × Int) {q : Nat} (hx : a.eval x = .slice (some ⟨q, 0, none⟩) 1 1)
    (q0 : W.cell? ⟨q, 0, none⟩ = some (.int .i64 k.1)) (q1 : W.cell? ⟨q, 1, none⟩ = some (.int .i64 k.2)) (hl : ks.length + 1 ≤ 1099511627776)
    (hK : ∀ A cap W', KR W' (fun i => D i ∨ i = W.heap.size) (.slice A (ks.length + 1) cap) (ks ++ [k]) → W.grownBy W' v.ownBlock → K (a.put o.dst (.slice A (ks.length + 1) cap)) W') :
    if Region.wanted o (yielded ops a.tmps) = true then Oper.wp Try.prog o a W K Q else E := by
  have hw : Region.wanted o (yielded ops a.tmps) = true := by simp [Region.wanted, hgd]
  rw [if_pos hw]
  obtain ⟨v', W', hrun, hkr, hgr⟩ := run_kr_append h k q0 q1 hl o.type
  obtain ⟨A, c, rfl⟩ := hkr.shape
  rw [List.length_append] at hrun hkr
  unfold Oper.wp
  simp [execOp, ho, resolve, invoke, builtin, hs, hx, hrun, Result.andThen]
  exact hK _ _ _ hkr hgr
end Go.Proofs.Ytjailboidlmadaa.P
end

section

namespace Go.Proofs.Ytjailboidlmadaa.P
open Go.RowKit Go.Maps Go.WideMaps Go.Proofs.YtjailboidlmadaaW.PrintWords Go.Proofs.YtjailboidlmadaaW.PrintLast Go.Proofs.YtjailboidlmadaaW.PrintMore
attribute [local go_sem] max2_int min2_int max_two min_two max_three min_three max_four min_four
set_option linter.unusedVariables false
set_option linter.unusedSimpArgs false

/-- the closure gg with what it holds (cb) answers p, at every world that differs from W in S and in new blocks alone -/
def Says (gg : Nat) (cb : Array Value) (p : Int × Int → Bool) (S : Nat → Prop) (W : World) : Prop :=
  ∀ W' k, Gr S W W' → Calls Try.prog gg (#[kv k] ++ cb) W' fun e w' => e = .returned (.bool (p k)) ∧ Below W'.heap.size W' w'

theorem Says.at_ {gg : Nat} {cb : Array Value} {p : Int × Int → Bool} {S : Nat → Prop} {W W1 : World} (h : Says gg cb p S W) (hg : Gr S W W1) : Says gg cb p S W1 :=
  fun W' k h' => h W' k (hg.then_ h' (fun _ h => .inl h))

theorem next_int {k n : Nat} (h : k < n) (hn : n ≤ 1099511627776) : Value.int .i64 (wrap64 ((k : Int) + 1)) = .int .i64 ((k + 1 : Nat) : Int) := by
  rw [show wrap64 ((k : Int) + 1) = (k : Int) + 1 by unfold wrap64; omega]
  rfl
/-- the first place where p holds, or -1 -/
def idxOf (p : Int × Int → Bool) (ks : List (Int × Int)) : Int := match ks.findIdx? p with | some i => i | none => -1
theorem idxOf_miss {p : Int × Int → Bool} {ks : List (Int × Int)} (h : ∀ (j : Nat) (k : Int × Int), ks[j]? = some k → p k = false) : idxOf p ks = -1 := by
  unfold idxOf
  have : ks.findIdx? p = none := by
    rw [List.findIdx?_eq_none_iff]
    intro x hx
    obtain ⟨i, hi, rfl⟩ := List.mem_iff_getElem.1 hx
    exact h i _ (List.getElem?_eq_getElem hi)
  rw [this]
theorem idxOf_hit {p : Int × Int → Bool} {ks : List (Int × Int)} {i : Nat} {k : Int × Int} (h : ∀ (j : Nat) (k : Int × Int), j < i → ks[j]? = some k → p k = false) (hi : ks[i]? = some k) (hp : p k = true) : idxOf p ks = i := by
  unfold idxOf
  have hlt : i < ks.length := (List.getElem?_eq_some_iff.1 hi).1
  have : ks.findIdx? p = some i := by
    rw [List.findIdx?_eq_some_iff_getElem]
    refine ⟨hlt, ?_, fun j hj => ?_⟩
    · have := (List.getElem?_eq_some_iff.1 hi).2
      rw [this]; exact hp
    · have := h j _ hj (List.getElem?_eq_getElem (by omega))
      rw [this]; decide
  rw [this]

set_option maxHeartbeats 4000000 in
theorem idxf_calls {S : Nat → Prop} {W : World} {g off cap gg : Nat} {ks : List (Int × Int)} {cells : Array Value} {cb : Array Value} {p : Int × Int → Bool} (h : KB W g off cap ks cells) (hS : ¬ S g) (hl : ks.length ≤ 1099511627776)
    (eg : ∀ args w, (callFunc gg args).run Try.prog w = .ok (.enter gg args) w) (hp : Says gg cb p S W) :
    Calls Try.prog 31 #[.slice (some ⟨g, off, none⟩) ks.length cap, .func (.func gg) #[] cb] W fun e w' => e = .returned (.int .i64 (idxOf p ks)) ∧ Below W.heap.size W w' := by
  have hu64 := Try.underlying64
  have HK := Aside0.mk h
  have HP := Aside0.mk hp
  have HL := Aside0.mk hl
  clear h hp hl
  go_enter Try.func31, Try.ntmps31
  go_wp2
  go_loopg [8] (ks.length + 1) (fun gq i w' => ∃ k : Nat, k ≤ ks.length ∧ i = .int .i64 k ∧ Aside0 (gq + k = ks.length + 1) ∧ Aside0 (∀ j q, j < k → ks[j]? = some q → p q = false) ∧ Aside0 (Below W.heap.size W w'))
  case atStart => exact ⟨0, Nat.zero_le _, rfl, ⟨rfl⟩, ⟨fun j q hj => absurd hj (Nat.not_lt_zero _)⟩, ⟨Below.refl _ _⟩⟩
  case round =>
    obtain ⟨k, hk, rfl, HG, HN, HB⟩ := hrel
    by_cases hlt : k < ks.length
    · obtain ⟨q, hq⟩ : ∃ q, ks[k]? = some q := ⟨_, List.getElem?_eq_getElem hlt⟩
      have hb := HK.out.step (HB.out.block g HK.out.lt)
      obtain ⟨x1, x2⟩ := hb.key hq
      have hcall := HP.out wr q (Gr.of_below HB.out)
      have HQ := Aside0.mk hq
      clear hq hb
      have hltz : (k : Int) < (ks.length : Int) := by omega
      have hk0 : (0 : Int) ≤ (k : Int) := by omega
      obtain ⟨q1, q2⟩ := q
      unfold kv at hcall
      dsimp only at x1 x2 hcall
      cases hv : p (q1, q2) with
      | true =>
        rw [hv] at hcall
        go_wp2_with (go_at_fn gg; refine hcall.mono ?_; rintro e w' ⟨rfl, hb'⟩)
        go_ret
        refine ⟨?_, below_step HB.out hb'⟩
        rw [idxOf_hit (HN.out) HQ.out hv]
        rfl
      | false =>
        rw [hv] at hcall
        go_wp2_with (go_at_fn gg; refine hcall.mono ?_; rintro e w' ⟨rfl, hb'⟩)
        go_roundg (gk - 1)
        case measure => have := HG.out; omega
        case rel =>
          refine ⟨k + 1, by omega, next_int hlt HL.out, ⟨by have := HG.out; omega⟩, ⟨fun j q hj hq => ?_⟩, ⟨below_step HB.out hb'⟩⟩
          by_cases e : j = k
          · subst e
            rw [HQ.out] at hq
            rw [← Option.some.inj hq]; exact hv
          · exact HN.out j q (by omega) hq
    · have hltz : ¬ (k : Int) < (ks.length : Int) := by omega
      obtain rfl : k = ks.length := by omega
      go_wp2
      go_ret
      refine ⟨?_, HB.out⟩
      rw [idxOf_miss (fun j q hq => HN.out j q (List.getElem?_eq_some_iff.1 hq).1 hq)]
      rfl
end Go.Proofs.Ytjailboidlmadaa.P
end

section

namespace Go.Proofs.Ytjailboidlmadaa.P
open Go.RowKit Go.Maps Go.WideMaps Go.Proofs.YtjailboidlmadaaW.PrintWords Go.Proofs.YtjailboidlmadaaW.PrintLast Go.Proofs.YtjailboidlmadaaW.PrintMore
attribute [local go_sem] max2_int min2_int max_two min_two max_three min_three max_four min_four
set_option linter.unusedVariables false
set_option linter.unusedSimpArgs false

theorem KB.there {W : World} {g off cap : Nat} {ks : List (Int × Int)} {cells : Array Value} (h : KB W g off cap ks cells) {i : Nat} (hi : i < cap) : ∃ u, W.cell? ⟨g, off + i * 2, none⟩ = some u := by
  obtain ⟨u, hu, _⟩ := h.cell (i * 2) (by omega)
  exact ⟨u, hu⟩
theorem KB.there1 {W : World} {g off cap : Nat} {ks : List (Int × Int)} {cells : Array Value} (h : KB W g off cap ks cells) {i : Nat} (hi : i < cap) : ∃ u, W.cell? ⟨g, off + i * 2 + 1, none⟩ = some u := by
  obtain ⟨u, hu, _⟩ := h.cell (i * 2 + 1) (by omega)
  exact ⟨u, by rw [Nat.add_assoc]; exact hu⟩
theorem zero_cells2 (n : Nat) : ∀ u ∈ (Builtin.zeroCells (Value.agg #[.int .i64 0, .int .i64 0]).cells n).toList, u.oneCell' = true := by
  intro u hu
  obtain ⟨i, hi, rfl⟩ := List.mem_iff_getElem.1 hu
  simp [Builtin.zeroCells, Value.cells]
  rcases (by omega : i % 2 = 0 ∨ i % 2 = 1) with h | h <;> simp [h] <;> rfl
theorem run_clear64 (W : World) (g o n c : Nat) (hn : 0 < n) (hc : ∀ j, j < n * 2 → (W.cell? ⟨g, o + j, none⟩).isSome = true) (hf : ∀ j, j < n * 2 → W.frozen? ⟨g, o + j, none⟩ = false) (ty : TypeId) :
    (Builtin.clear_ #[60] ty #[.slice (some ⟨g, o, none⟩) n c]).run Try.prog W = .ok (.tuple #[]) (W.setCells g o (Builtin.zeroCells (Value.agg #[.int .i64 0, .int .i64 0]).cells n).toList) := by
  have hlen : (Builtin.zeroCells (Value.agg #[.int .i64 0, .int .i64 0]).cells n).toList.length = n * 2 := by
    rw [Array.length_toList, size_zeroCells]; rfl
  have hst := run_storeCells_cells (P := Try.prog) g o (Builtin.zeroCells (Value.agg #[.int .i64 0, .int .i64 0]).cells n).toList 0 W (fun j hj => by rw [hlen] at hj; simpa using hc j hj) (fun j hj => by rw [hlen] at hj; simpa using hf j hj) (zero_cells2 n)
  simp only [Nat.add_zero] at hst
  obtain ⟨m, rfl⟩ : ∃ m, n = m + 1 := ⟨n - 1, by omega⟩
  simp [Builtin.clear_, run_underlying Try.underlying60, zero64, hst]

theorem filter_step {p : Int × Int → Bool} {ks : List (Int × Int)} {j : Nat} {q : Int × Int} (hq : ks[j]? = some q) : (ks.take (j + 1)).filter (fun k => !p k) = (ks.take j).filter (fun k => !p k) ++ (if p q = true then [] else [q]) := by
  have hlt : j < ks.length := (List.getElem?_eq_some_iff.1 hq).1
  have he := (List.getElem?_eq_some_iff.1 hq).2
  rw [List.take_succ_eq_append_getElem hlt, List.filter_append, he]
  congr 1
  cases h : p q <;> simp [h]
/-- the row in the middle of DeleteFunc: the first i are those that stay of the first j; behind j all is as it was -/
structure Mid (p : Int × Int → Bool) (ks : List (Int × Int)) (i j : Nat) (cur : List (Int × Int)) : Prop where
  len : cur.length = ks.length
  lt : i < j
  le : j ≤ ks.length
  head : cur.take i = (ks.take j).filter (fun k => !p k)
  rest : ∀ m, j ≤ m → cur[m]? = ks[m]?
theorem Mid.start {p : Int × Int → Bool} {ks : List (Int × Int)} {i : Nat} {q : Int × Int} (h : ∀ j k, j < i → ks[j]? = some k → p k = false) (hi : ks[i]? = some q) (hq : p q = true) : Mid p ks i (i + 1) ks := by
  have hlt : i < ks.length := (List.getElem?_eq_some_iff.1 hi).1
  refine ⟨rfl, by omega, by omega, ?_, fun _ _ => rfl⟩
  rw [filter_step hi, if_pos hq, List.append_nil, List.filter_eq_self.2]
  intro x hx
  obtain ⟨m, hm, rfl⟩ := List.mem_iff_getElem.1 hx
  rw [List.length_take] at hm
  have := h m (ks[m]'(by omega)) (by omega) (List.getElem?_eq_getElem (by omega))
  rw [List.getElem_take, this]; rfl
theorem Mid.drop {p : Int × Int → Bool} {ks cur : List (Int × Int)} {i j : Nat} {q : Int × Int} (h : Mid p ks i j cur) (hj : ks[j]? = some q) (hq : p q = true) : Mid p ks i (j + 1) cur := by
  have hlt : j < ks.length := (List.getElem?_eq_some_iff.1 hj).1
  have := h.lt
  refine ⟨h.len, by omega, by omega, ?_, fun m hm => h.rest m (by omega)⟩
  rw [filter_step hj, if_pos hq, List.append_nil]
  exact h.head
theorem Mid.keep {p : Int × Int → Bool} {ks cur : List (Int × Int)} {i j : Nat} {q : Int × Int} (h : Mid p ks i j cur) (hj : ks[j]? = some q) (hq : p q = false) : Mid p ks (i + 1) (j + 1) (cur.set i q) := by
  have hlt : j < ks.length := (List.getElem?_eq_some_iff.1 hj).1
  have := h.lt
  have hl := h.len
  refine ⟨by rw [List.length_set]; exact hl, by omega, by omega, ?_, fun m hm => ?_⟩
  · rw [filter_step hj, if_neg (by rw [hq]; decide), ← h.head, List.take_succ_eq_append_getElem (by rw [List.length_set]; omega), List.getElem_set_self, List.take_set_of_le (Nat.le_refl _)]
  · rw [List.getElem?_set_ne (by omega)]
    exact h.rest m (by omega)
theorem idxOf_cases (p : Int × Int → Bool) (ks : List (Int × Int)) : (idxOf p ks = -1 ∧ ks.filter (fun k => !p k) = ks) ∨ ∃ (i : Nat) (q : Int × Int), idxOf p ks = i ∧ ks[i]? = some q ∧ p q = true ∧ ∀ (j : Nat) (k : Int × Int), j < i → ks[j]? = some k → p k = false := by
  cases hf : ks.findIdx? p with
  | none =>
    rw [List.findIdx?_eq_none_iff] at hf
    refine .inl ⟨idxOf_miss (fun j k hk => hf k (List.mem_of_getElem? hk)), List.filter_eq_self.2 (fun x hx => by rw [hf x hx]; rfl)⟩
  | some i =>
    rw [List.findIdx?_eq_some_iff_getElem] at hf
    obtain ⟨hi, h1, h2⟩ := hf
    have hn : ∀ (j : Nat) (k : Int × Int), j < i → ks[j]? = some k → p k = false := fun j k hj hk => by
      have := h2 j hj
      rw [(List.getElem?_eq_some_iff.1 hk).2] at this
      simpa using this
    exact .inr ⟨i, _, idxOf_hit hn (List.getElem?_eq_getElem hi) h1, List.getElem?_eq_getElem hi, h1, hn⟩
set_option maxHeartbeats 4000000 in
theorem idxf_nil (gg : Nat) (cb : Array Value) (W : World) : Calls Try.prog 31 #[.slice none 0 0, .func (.func gg) #[] cb] W fun e w' => e = .returned (.int .i64 (-1)) ∧ w' = W := by
  go_enter Try.func31, Try.ntmps31
  go_wp2
  go_rounds 1
  go_ret
  exact ⟨rfl, rfl⟩
set_option maxHeartbeats 4000000 in
theorem delf_nil (gg : Nat) (cb : Array Value) (W : World) : Calls Try.prog 19 #[.slice none 0 0, .func (.func gg) #[] cb] W fun e w' => e = .returned (.slice none 0 0) ∧ w' = W := by
  go_enter Try.func19, Try.ntmps19
  go_wp2_with (go_at_call 31; refine (idxf_nil gg cb _).mono ?_; rintro e w' ⟨rfl, rfl⟩)
  go_ret
  exact ⟨rfl, rfl⟩
set_option maxHeartbeats 4000000 in
set_option maxRecDepth 100000 in
theorem delf_block {W : World} {g off cap gg : Nat} {ks : List (Int × Int)} {cells : Array Value} {cb : Array Value} {p : Int × Int → Bool} (h : KB W g off cap ks cells) (hl : ks.length ≤ 1099511627776)
    (eg : ∀ args w, (callFunc gg args).run Try.prog w = .ok (.enter gg args) w) (hp : Says gg cb p (fun i => i = g) W) :
    Calls Try.prog 19 #[.slice (some ⟨g, off, none⟩) ks.length cap, .func (.func gg) #[] cb] W fun e w' => ∃ m, e = .returned (.slice (some ⟨g, off, none⟩) m cap) ∧ m = (ks.filter fun k => !p k).length ∧ (∃ cells', KB w' g off cap (ks.filter fun k => !p k) cells') ∧ Gr (fun i => i = g) W w' := by
  have hu64 := Try.underlying64
  have hidx := idxf_calls (S := fun i => i = g ∧ False) h (fun hh => hh.2) hl eg (fun W' k hg => hp W' k (hg.mono (fun i hi => hi.2.elim)))
  rcases idxOf_cases p ks with ⟨e1, e2⟩ | ⟨i0, q0, e1, hi0, hq0, hlow⟩
  · rw [e1] at hidx
    rw [e2]
    have HK := Aside0.mk h
    clear h hp e1 e2
    go_enter Try.func19, Try.ntmps19
    go_wp2_with (go_at_call 31; refine hidx.mono ?_; rintro e w' ⟨rfl, hb⟩)
    go_ret
    exact ⟨_, rfl, rfl, ⟨_, HK.out.step (hb.block g HK.out.lt)⟩, Gr.of_below hb⟩
  · rw [e1] at hidx
    have HK := Aside0.mk h
    have HP := Aside0.mk hp
    have HL := Aside0.mk hl
    have HM := Aside0.mk (Mid.start hlow hi0 hq0)
    have hlt0 : i0 < ks.length := (List.getElem?_eq_some_iff.1 hi0).1
    have hne : ¬ ((i0 : Int) = -1) := by omega
    have hadd : wrap64 ((i0 : Int) + 1) = ((i0 + 1 : Nat) : Int) := by unfold wrap64; omega
    clear h hp hlow hi0 hq0 e1 hl
    go_enter Try.func19, Try.ntmps19
    go_wp2_with (go_at_call 31; refine hidx.mono ?_; rintro e w' ⟨rfl, hb⟩)
    have HB0 := Aside0.mk hb
    clear hidx hb
    rename_i hx1 hx2 hx3
    clear hx1 hne
    have HADD := Aside0.mk hadd
    clear hadd
    go_loopg [5, 6] (ks.length + 1) (fun gq v5 v6 wr => ∃ (i j : Nat) (cur : List (Int × Int)) (cells' : Array Value), v5 = .int .i64 i ∧ v6 = .int .i64 j ∧ Aside0 (gq + j = ks.length + 1 + (i0 + 1)) ∧ Aside0 (Mid p ks i j cur) ∧ Aside0 (KB wr g off cap cur cells') ∧ Aside0 (Gr (fun i => i = g) W wr))
    case atStart => exact ⟨i0, i0 + 1, ks, cells, rfl, by rw [HADD.out], ⟨rfl⟩, HM, ⟨HK.out.step (HB0.out.block g HK.out.lt)⟩, ⟨Gr.of_below HB0.out⟩⟩
    case round =>
      obtain ⟨i, j, cur, cells', rfl, rfl, HG, HJ, HC, HR⟩ := hrel
      by_cases hlt : j < ks.length
      · obtain ⟨⟨q1, q2⟩, hq⟩ : ∃ q, ks[j]? = some q := ⟨_, List.getElem?_eq_getElem hlt⟩
        have hcur : cur[j]? = some (q1, q2) := (HJ.out.rest j (Nat.le_refl _)).trans hq
        obtain ⟨x1, x2⟩ := HC.out.key hcur
        have hcall : ∀ o, Calls Try.prog gg (#[.agg #[.int .i64 q1, .int .i64 q2]] ++ cb) (wr.alloc o) fun e w' => e = .returned (.bool (p (q1, q2))) ∧ Below (wr.alloc o).heap.size (wr.alloc o) w' := fun o => HP.out _ (q1, q2) (HR.out.alloc o)
        have HQ := Aside0.mk hq
        have hltz : (j : Int) < (ks.length : Int) := by omega
        have hj0 : (0 : Int) ≤ (j : Int) := by omega
        have hlen := HJ.out.len
        have hlt2 := HJ.out.lt
        have hcap := HC.out.le
        have hltc : (j : Int) < (cur.length : Int) := by omega
        clear hq hcur
        dsimp only at x1 x2
        have hi0 : (0 : Int) ≤ (i : Int) := by omega
        have hilt : (i : Int) < (ks.length : Int) := by omega
        have hG := HR.out.size
        have hgl := HC.out.lt
        cases hv : p (q1, q2) with
        | true =>
          rw [hv] at hcall
          go_wp2_with (go_at_fn gg; refine (hcall _).mono ?_; rintro e w' ⟨rfl, hb'⟩)
          go_roundg (gk - 1)
          case measure => have := HG.out; omega
          case rel =>
            have hbb : w'.heap[g]? = wr.heap[g]? := (hb'.block g (by rw [World.size_alloc]; omega)).trans (Below.heap_alloc wr _ g hgl)
            exact ⟨i, j + 1, cur, cells', rfl, next_int hlt HL.out, ⟨by have := HG.out; omega⟩, ⟨HJ.out.drop HQ.out hv⟩, ⟨HC.out.step hbb⟩, ⟨(HR.out.alloc _).then_ (S' := fun i => i = g) (Gr.of_below hb') (fun i hi => .inl hi)⟩⟩
        | false =>
          rw [hv] at hcall
          go_wp2_with (go_at_fn gg; refine (hcall _).mono ?_; rintro e w' ⟨rfl, hb'⟩; have hbb : w'.heap[g]? = wr.heap[g]? := (hb'.block g (by rw [World.size_alloc]; omega)).trans (Below.heap_alloc wr _ g hgl); have HC2 := Aside0.mk (HC.out.step hbb); have y1 := HC2.out.there (i := i) (by omega); have y2 := HC2.out.there1 (i := i) (by omega); have z1 : w'.cell? ⟨wr.heap.size, 0, none⟩ = some (.int .i64 q1) := by { rw [World.cell?_of_block (a := ⟨wr.heap.size, 0, none⟩) (hb'.block _ (by rw [World.size_alloc]; exact Nat.lt_succ_self _))]; exact World.cell?_alloc_new wr _ _ 0 }; have z2 : w'.cell? ⟨wr.heap.size, 1, none⟩ = some (.int .i64 q2) := by { rw [World.cell?_of_block (a := ⟨wr.heap.size, 1, none⟩) (hb'.block _ (by rw [World.size_alloc]; exact Nat.lt_succ_self _))]; exact World.cell?_alloc_new wr _ _ 1 }; have f1 := HC2.out.frozen (off + i * 2); have f2 := HC2.out.frozen (off + i * 2 + 1); obtain ⟨u1, y1⟩ := y1; obtain ⟨u2, y2⟩ := y2)
          obtain ⟨c2, hK2⟩ := HC2.out.put (i := i) (by omega) (q1, q2) (ks' := cur.set i (q1, q2)) (by rw [List.length_set]; omega) (fun m k' hm => by
            by_cases e : m = i
            · subst e
              rw [List.getElem?_set_self (by omega)] at hm
              exact .inl ⟨rfl, (Option.some.inj hm).symm⟩
            · rw [List.getElem?_set_ne (Ne.symm e)] at hm
              exact .inr ⟨e, hm⟩)
          go_roundg (gk - 1)
          case measure => have := HG.out; omega
          case rel =>
            refine ⟨i + 1, j + 1, cur.set i (q1, q2), c2, next_int (by omega) HL.out, next_int hlt HL.out, ⟨by have := HG.out; omega⟩, ⟨HJ.out.keep HQ.out hv⟩, ⟨hK2⟩, ⟨?_⟩⟩
            exact (((HR.out.alloc _).then_ (S' := fun i => i = g) (Gr.of_below hb') (fun i hi => .inl hi)).set _ (.inl rfl)).set _ (.inl rfl)
      · obtain rfl : j = ks.length := by have := HJ.out.le; omega
        have hltz : ¬ (ks.length : Int) < (ks.length : Int) := by omega
        have hlen := HJ.out.len
        have hlt2 := HJ.out.lt
        have hcap := HC.out.le
        have hi0 : (0 : Int) ≤ (i : Int) := by omega
        have hile : (i : Int) ≤ (ks.length : Int) := by omega
        have hic : (i : Int) ≤ (cap : Int) := by omega
        have hcl : ∀ ty, (Builtin.clear_ #[60] ty #[.slice (some ⟨g, off + i * 2, none⟩) (ks.length - i) (cap - i)]).run Try.prog wr = .ok (.tuple #[]) _ := fun ty => run_clear64 wr g (off + i * 2) (ks.length - i) (cap - i) (by omega) (fun m hm => by
          obtain ⟨u, hu, _⟩ := HC.out.cell (i * 2 + m) (by omega)
          rw [Nat.add_assoc, hu]; rfl) (fun m hm => HC.out.frozen _) ty
        obtain ⟨c2, hK2⟩ := HC.out.tail i (Builtin.zeroCells (Value.agg #[.int .i64 0, .int .i64 0]).cells (ks.length - i)).toList
        have HK2 := Aside0.mk hK2
        clear hK2
        go_wp2
        go_ret
        have hm : (ks.filter fun k => !p k).length = i := by
          have := congrArg List.length HJ.out.head
          rw [List.length_take, List.take_of_length_le (Nat.le_refl _)] at this
          omega
        have hh : cur.take i = ks.filter fun k => !p k := by
          have := HJ.out.head
          rwa [List.take_of_length_le (Nat.le_refl _)] at this
        rw [hh] at HK2
        exact ⟨i, rfl, hm.symm, ⟨c2, HK2.out⟩, HR.out.setCells _ (.inl rfl)⟩
/-- slices.DeleteFunc at a row of keys -/
theorem delf_calls {W : World} {D : Nat → Prop} {v : Value} {gg : Nat} {ks : List (Int × Int)} {cb : Array Value} {p : Int × Int → Bool} (h : KR W D v ks) (hl : ks.length ≤ 1099511627776)
    (eg : ∀ args w, (callFunc gg args).run Try.prog w = .ok (.enter gg args) w) (hp : Says gg cb p (fun i => some i = v.ownBlock) W) :
    Calls Try.prog 19 #[v, .func (.func gg) #[] cb] W fun e w' => ∃ A n cap, e = .returned (.slice A n cap) ∧ KR w' D (.slice A n cap) (ks.filter fun k => !p k) ∧ Gr (fun i => some i = v.ownBlock) W w' := by
  rcases h with ⟨rfl, rfl⟩ | ⟨g, off, cap, cells, rfl, hg, h⟩
  · refine (delf_nil gg cb W).mono ?_
    rintro e w' ⟨rfl, rfl⟩
    exact ⟨none, 0, 0, rfl, .inl ⟨rfl, rfl⟩, Gr.refl _ _⟩
  · have hs : (fun i => some i = (Value.slice (some ⟨g, off, none⟩) ks.length cap).ownBlock) = fun i => i = g := by
      funext i
      simp [Value.ownBlock]
    rw [hs] at hp ⊢
    refine (delf_block h hl eg hp).mono ?_
    rintro e w' ⟨m, rfl, rfl, ⟨c, hc⟩, hgr⟩
    exact ⟨_, _, _, rfl, .inr ⟨g, off, cap, c, rfl, hg, hc⟩, hgr⟩
end Go.Proofs.Ytjailboidlmadaa.P
end

section

namespace Go.Proofs.Ytjailboidlmadaa.P
open Go.RowKit Go.Maps Go.WideMaps Go.Proofs.YtjailboidlmadaaW.PrintWords Go.Proofs.YtjailboidlmadaaW.PrintLast Go.Proofs.YtjailboidlmadaaW.PrintMore
attribute [local go_sem] max2_int min2_int max_two min_two max_three min_three max_four min_four
set_option linter.unusedVariables false
set_option linter.unusedSimpArgs false
theorem info9 : (Try.prog.info? 9).map (fun i => (i.zero, i.size, i.bytes)) = some (some (.string ⟨#[]⟩), 1, 16) := by kernel_rfl
theorem info32 : (Try.prog.info? 32).map (fun i => (i.zero, i.size, i.bytes)) = some (some (.agg #[.int .i64 0, .int .i64 0, .int .i64 0]), 3, 24) := by kernel_rfl
/-- a row without kinds of its own inside serves a read as well as a made one -/
theorem C_alloc' {α : Type} {d : Kd α} {w : World} {A : Option Addr} {n : Nat} {xs : List α} (h : d.C w A n xs) (o : Obj) : d.C (w.alloc o) A n xs := Kd.C_below h (below_alloc (Below.refl _ _) o)
set_option maxHeartbeats 4000000 in
theorem clone_str (A0 : Option Addr) (c0 : Nat) (l0 : List ByteArray) (w : World) (hr0 : Kd.C Kd.string w A0 l0.length l0) (hc0 : l0.length ≤ c0) (hl : l0.length * 16 ≤ 140737488355328) :
    Calls Try.prog 32 #[.slice A0 l0.length c0] w fun e w' => ∃ v0_ : Value, e = .returned v0_ ∧ Kd.R Kd.string 9 w' w.heap.size (fun _ => True) v0_ l0 ∧ Below w.heap.size w w' := by
  have HR0 := Aside0.mk hr0
  have HC0 := Aside0.mk hc0
  clear hr0 hc0
  have HB := Aside0.mk (Below.refl w.heap.size w)
  cases A0 with
  | none =>
    have qe : ∀ (w : World) (a : Option Addr) (n c n' c' : Nat), (binOp .eql 33 (.slice a n c) (.slice none n' c')).run Try.prog w = .ok (.bool a.isNone) w := fun w a n c n' c' => Lib.run_eql_slice_nil w _ _ a n c n' c' Try.underlying33
    have hn : l0 = [] := by
      cases l0 with
      | nil => rfl
      | cons a b =>
        obtain ⟨ad, e, _⟩ := HR0.out.2.2 (by simp)
        cases e
    subst hn
    go_enter Try.func32, Try.ntmps32
    go_wp2
    go_ret
    exact ⟨_, rfl, Kd.R_nil _ _ _ _ _, HB.out⟩
  | some ad =>
    have qe : ∀ (w : World) (a : Option Addr) (n c n' c' : Nat), (binOp .eql 33 (.slice a n c) (.slice none n' c')).run Try.prog w = .ok (.bool a.isNone) w := fun w a n c n' c' => Lib.run_eql_slice_nil w _ _ a n c n' c' Try.underlying33
    go_enter Try.func32, Try.ntmps32
    have hown := World.ownsRow_made (base := w.heap.size) (e := 9) (size := 1) w #[] 0 (Nat.le_refl _) (Nat.zero_le _) rfl
    have HW := Aside0.mk hown
    clear hown
    go_wp2_with ((with_reducible refine gate_builtin (b := .append) (xs := #[.tmp 5, .tmp 6]) rfl ?_); at_builtin; refine Kd.R_append_rows Kd.string (w0 := w) w.heap.size rfl (.tmp 5) (.tmp 6) 33 9 (.string ⟨#[]⟩) 16 rfl Try.underlying33 info9 rfl (by decide) (by omega) (.slice (some ⟨w.heap.size, 0, none⟩) 0 0) ([] : List ByteArray) l0 _ _ _ (fun _ => True) (fun _ => False) rfl rfl ?aO ?aR (fun _ _ h => h) (fun _ h => h.elim) ?aF ?aB ?aS ?aL ?_)
    case aO => exact ⟨fun _ _ => trivial, [], HW.out, Reps.none _ _⟩
    case aR => exact Kd.C_alloc HR0.out _
    case aF => exact fun _ _ => trivial
    case aB => exact below_alloc HB.out _
    case aS => exact below_size (below_alloc HB.out _)
    case aL => simp; omega
    intro v1 w1 ho hb hg hat
    go_wp2
    go_ret
    exact ⟨v1, rfl, ho, hb⟩
theorem k32_KM {W : World} {base : Nat} {ok : Nat → Prop} (x : S32) (cs : List Value) (h : k32.K W x cs) : k32.M W base ok x cs := by
  obtain rfl := k32_open h
  exact k32_mkM W base ok x
set_option maxHeartbeats 4000000 in
theorem clone_blk (A0 : Option Addr) (c0 : Nat) (l0 : List S32) (w : World) (hr0 : Kd.C k32 w A0 l0.length l0) (hc0 : l0.length ≤ c0) (hl : l0.length * 24 ≤ 140737488355328) :
    Calls Try.prog 33 #[.slice A0 l0.length c0] w fun e w' => ∃ v0_ : Value, e = .returned v0_ ∧ Kd.R k32 32 w' w.heap.size (fun _ => True) v0_ l0 ∧ Below w.heap.size w w' := by
  have HR0 := Aside0.mk hr0
  have HC0 := Aside0.mk hc0
  clear hr0 hc0
  have HB := Aside0.mk (Below.refl w.heap.size w)
  cases A0 with
  | none =>
    have qe : ∀ (w : World) (a : Option Addr) (n c n' c' : Nat), (binOp .eql 34 (.slice a n c) (.slice none n' c')).run Try.prog w = .ok (.bool a.isNone) w := fun w a n c n' c' => Lib.run_eql_slice_nil w _ _ a n c n' c' Try.underlying34
    have hn : l0 = [] := by
      cases l0 with
      | nil => rfl
      | cons a b =>
        obtain ⟨ad, e, _⟩ := HR0.out.2.2 (by simp)
        cases e
    subst hn
    go_enter Try.func33, Try.ntmps33
    go_wp2
    go_ret
    exact ⟨_, rfl, Kd.R_nil _ _ _ _ _, HB.out⟩
  | some ad =>
    have qe : ∀ (w : World) (a : Option Addr) (n c n' c' : Nat), (binOp .eql 34 (.slice a n c) (.slice none n' c')).run Try.prog w = .ok (.bool a.isNone) w := fun w a n c n' c' => Lib.run_eql_slice_nil w _ _ a n c n' c' Try.underlying34
    go_enter Try.func33, Try.ntmps33
    have hown := World.ownsRow_made (base := w.heap.size) (e := 32) (size := 3) w #[] 0 (Nat.le_refl _) (Nat.zero_le _) rfl
    have HW := Aside0.mk hown
    clear hown
    go_wp2_with ((with_reducible refine gate_builtin (b := .append) (xs := #[.tmp 5, .tmp 6]) rfl ?_); at_builtin; refine Kd.R_append_rows k32 (w0 := w) w.heap.size rfl (.tmp 5) (.tmp 6) 34 32 (.agg #[.int .i64 0, .int .i64 0, .int .i64 0]) 24 rfl Try.underlying34 info32 rfl (by decide) (by omega) (.slice (some ⟨w.heap.size, 0, none⟩) 0 0) ([] : List S32) l0 _ _ _ (fun _ => True) (fun _ => False) rfl rfl ?aO ?aR (k32_KM) (fun _ h => h.elim) ?aF ?aB ?aS ?aL ?_)
    case aO => exact ⟨fun _ _ => trivial, [], HW.out, Reps.none _ _⟩
    case aR => exact Kd.C_alloc HR0.out _
    case aF => exact fun _ _ => trivial
    case aB => exact below_alloc HB.out _
    case aS => exact below_size (below_alloc HB.out _)
    case aL => simp; omega
    intro v1 w1 ho hb hg hat
    go_wp2
    go_ret
    exact ⟨v1, rfl, ho, hb⟩

theorem row_all {W : World} {g : Nat} {t : TypeId} {c : Array Value} (h : W.heap[g]? = some (.cells c t (0, 0))) (vs : List Value) (hl : vs.length = c.size) : (W.setCells g 0 vs).heap[g]? = some (.cells vs.toArray t (0, 0)) := by
  obtain ⟨c', h1, h2, _, h4⟩ := setCells_block vs 0 W c h
  rw [h1]
  have : c' = vs.toArray := by
    apply Array.ext_getElem?
    intro i
    by_cases hi : i < vs.length
    · have := h4 i _ (List.getElem?_eq_getElem hi) (by omega)
      rw [Nat.zero_add] at this
      rw [this, List.getElem?_toArray, List.getElem?_eq_getElem hi]
    · rw [Array.getElem?_eq_none (by omega), Array.getElem?_eq_none (by rw [List.size_toArray]; omega)]
  rw [this]

/-- a row stays while blocks of other types turn -/
theorem R_gr {α : Type} {d : Kd α} {e base : Nat} {ok : Nat → Prop} {W W' : World} {v : Value} {xs : List α} {S : Nat → Prop} (h : d.R e W base ok v xs) (hg : Gr S W W') (hS : ∀ i c q, S i → W.heap[i]? = some (.cells c q (0, 0)) → q ∉ e :: d.E) : d.R e W' base ok v xs :=
  Kd.R_mono (Kd.R_step (Kd.R_bound h) (fun k ho hlt => hg.block k hlt (fun hs => by
    obtain ⟨_, _, _, q, hq, c, hc⟩ := ho
    exact hS k c q hs hc hq))) (fun _ hk => hk.1)

theorem two_types {W : World} {g1 g2 t : Nat} {c1 c2 : Array Value} {l : List Nat} (h1 : W.heap[g1]? = some (.cells c1 t (0, 0))) (h2 : W.heap[g2]? = some (.cells c2 t (0, 0))) (hl : t ∉ l) : ∀ i c q, (i = g1 ∨ i = g2) → W.heap[i]? = some (.cells c q (0, 0)) → q ∉ l := by
  rintro i c q (rfl | rfl) hc
  · rw [h1] at hc; injection hc with hc; injection hc with _ hc; rw [← hc]; exact hl
  · rw [h2] at hc; injection hc with hc; injection hc with _ hc; rw [← hc]; exact hl

/-- an answer -/
structure Ans where
  err : Int
  b0 : Int
  b1 : Int
  b2 : Int
  names : List ByteArray
  path : ByteArray
  dir : Bool
  quota : Int
  blocks : List S32
  writer : Int
  n : Int
/-- an answer's cells, its two rows being the values v4, v8 -/
def Ans.cells (a : Ans) (v4 v8 : Value) : List Value := [.int .i64 a.err, .int .i64 a.b0, .int .i64 a.b1, .int .i64 a.b2, v4, .string a.path, .bool a.dir, .int .i64 a.quota, v8, .int .i64 a.writer, .int .i64 a.n]
/-- rows that fit -/
def Ans.fits (a : Ans) : Prop := a.names.length * 16 ≤ 140737488355328 ∧ a.blocks.length * 24 ≤ 140737488355328

set_option maxHeartbeats 4000000 in
set_option maxRecDepth 100000 in
theorem copied_calls (a : Ans) (hf : a.fits) (A4 A8 : Option Addr) (c4 c8 : Nat) (w : World) (h4 : Kd.C Kd.string w A4 a.names.length a.names) (k4 : a.names.length ≤ c4) (h8 : Kd.C k32 w A8 a.blocks.length a.blocks) (k8 : a.blocks.length ≤ c8) :
    Calls Try.prog 21 #[.agg (a.cells (.slice A4 a.names.length c4) (.slice A8 a.blocks.length c8)).toArray] w fun e w' => ∃ B4 d4 B8 d8, e = .returned (.agg (a.cells (.slice B4 a.names.length d4) (.slice B8 a.blocks.length d8)).toArray) ∧ Kd.R Kd.string 9 w' w.heap.size (fun _ => True) (.slice B4 a.names.length d4) a.names ∧ Kd.R k32 32 w' w.heap.size (fun _ => True) (.slice B8 a.blocks.length d8) a.blocks ∧ Below w.heap.size w w' := by
  obtain ⟨err, b0, b1, b2, names, path, dir, quota, blocks, writer, n⟩ := a
  dsimp only [Ans.cells] at h4 k4 h8 k8 ⊢
  have hu38 := Try.underlying38
  have hu36 := Try.underlying36
  have hu32 := Try.underlying32
  have H4 := Aside0.mk h4
  have H8 := Aside0.mk h8
  have K4 := Aside0.mk k4
  have K8 := Aside0.mk k8
  have F4 := Aside0.mk hf.1
  have F8 := Aside0.mk hf.2
  clear h4 h8 k4 k8 hf
  have HB := Aside0.mk (Below.refl w.heap.size w)
  go_enter Try.func21, Try.ntmps21
  go_wp2_with (first | ((with_reducible refine gate_dst (N := 1) rfl ?_); refine box_event ?hg (N := 1) ?hd (cs := #[.int .i64 err, .int .i64 b0, .int .i64 b1, .int .i64 b2, .slice A4 names.length c4, .string path, .bool dir, .int .i64 quota, .slice A8 blocks.length c8, .int .i64 writer, .int .i64 n]) (t := 38) ?hr ?_; (case hd => rfl); (case hg => rfl); (case hr => first | (go_simp; done) | (go_simp; rfl)); intro g1 hg1 w1 hbox1 hb1; have G1 := Aside0.mk hg1; clear hg1) | ((with_reducible refine gate_dst (N := 2) rfl ?_); refine box_event ?hg2 (N := 2) ?hd2 (cs := #[.int .i64 0, .int .i64 0, .int .i64 0, .int .i64 0, .slice none 0 0, .string ⟨#[]⟩, .bool false, .int .i64 0, .slice none 0 0, .int .i64 0, .int .i64 0]) (t := 38) ?hr2 ?_; (case hd2 => rfl); (case hg2 => rfl); (case hr2 => first | (go_simp; done) | (go_simp; rfl)); intro g2 hg2 w2 hbox2 hb2; have hlt1 := blk_lt hbox1; have hne : g1 ≠ g2 := (by omega); have G2 := Aside0.mk hg2; clear hg2; have q2 := (hb2.block g1 hlt1).trans hbox1; have x4 : w2.cell? ⟨g1, 4, none⟩ = some (.slice A4 names.length c4) := (blk_cell q2 4).trans rfl; have H4b := Aside0.mk (Kd.C_below (Kd.C_below H4.out hb1) hb2)) | (go_at_call 32; refine (clone_str A4 c4 names _ H4b.out K4.out F4.out).mono ?_; rintro e_ w3 ⟨v4, rfl, hR4, hb3⟩; obtain ⟨B4, d4, rfl⟩ := Kd.R_slice hR4; have q3 := (hb3.block g1 (blk_lt q2)).trans q2; have p3 := (hb3.block g2 (blk_lt hbox2)).trans hbox2; clear x4; have y4 : w3.cell? ⟨g1, 4, none⟩ = some (.slice A4 names.length c4) := (blk_cell q3 4).trans rfl; have yf : w3.frozen? ⟨g1, 4, none⟩ = false := blk_frozen q3 4; have y8 : w3.cell? ⟨g1, 8, none⟩ = some (.slice A8 blocks.length c8) := (blk_cell q3 8).trans rfl; have HR4 := Aside0.mk hR4; clear hR4) | (go_at_call 33; have HBs := below_set (below_step (below_step hb1 hb2) hb3) (G1.out ▸ Nat.le_refl _ : w.heap.size ≤ g1) (v := .slice B4 names.length d4) (j := 4); refine (clone_blk A8 c8 blocks _ (Kd.C_below H8.out HBs) K8.out F8.out).mono ?_; rintro e_ w4 ⟨v8, rfl, hR8, hb4⟩; obtain ⟨B8, d8, rfl⟩ := Kd.R_slice hR8; have hs4 := heap_setCell_same w3 g1 4 _ 38 (.slice B4 names.length d4) q3; have q4 : w4.heap[g1]? = some (.cells #[.int .i64 err, .int .i64 b0, .int .i64 b1, .int .i64 b2, .slice B4 names.length d4, .string path, .bool dir, .int .i64 quota, .slice A8 blocks.length c8, .int .i64 writer, .int .i64 n] 38 (0, 0)) := (hb4.block g1 (blk_lt hs4)).trans hs4; have hp4 := (Below.heap_setCell w3 ⟨g1, 4, none⟩ (.slice B4 names.length d4) g2 (Ne.symm hne)).trans p3; have p4 := (hb4.block g2 (blk_lt hp4)).trans hp4; clear y4 yf y8; have HR8 := Aside0.mk hR8; clear hR8; have z0 : w4.cell? ⟨g1, 0, none⟩ = some (.int .i64 err) := (blk_cell q4 0).trans rfl; have z1 : w4.cell? ⟨g1, 1, none⟩ = some (.int .i64 b0) := (blk_cell q4 1).trans rfl; have z2 : w4.cell? ⟨g1, 2, none⟩ = some (.int .i64 b1) := (blk_cell q4 2).trans rfl; have z3 : w4.cell? ⟨g1, 3, none⟩ = some (.int .i64 b2) := (blk_cell q4 3).trans rfl; have z4 : w4.cell? ⟨g1, 4, none⟩ = some (.slice B4 names.length d4) := (blk_cell q4 4).trans rfl; have z5 : w4.cell? ⟨g1, 5, none⟩ = some (.string path) := (blk_cell q4 5).trans rfl; have z6 : w4.cell? ⟨g1, 6, none⟩ = some (.bool dir) := (blk_cell q4 6).trans rfl; have z7 : w4.cell? ⟨g1, 7, none⟩ = some (.int .i64 quota) := (blk_cell q4 7).trans rfl; have z8 : w4.cell? ⟨g1, 8, none⟩ = some (.slice A8 blocks.length c8) := (blk_cell q4 8).trans rfl; have z9 : w4.cell? ⟨g1, 9, none⟩ = some (.int .i64 writer) := (blk_cell q4 9).trans rfl; have z10 : w4.cell? ⟨g1, 10, none⟩ = some (.int .i64 n) := (blk_cell q4 10).trans rfl; have zf8 : w4.frozen? ⟨g1, 8, none⟩ = false := blk_frozen q4 8; have u0 : w4.cell? ⟨g2, 0, none⟩ = some (.int .i64 0) := (blk_cell p4 0).trans rfl; have u1 : w4.cell? ⟨g2, 1, none⟩ = some (.int .i64 0) := (blk_cell p4 1).trans rfl; have u2 : w4.cell? ⟨g2, 2, none⟩ = some (.int .i64 0) := (blk_cell p4 2).trans rfl; have u3 : w4.cell? ⟨g2, 3, none⟩ = some (.int .i64 0) := (blk_cell p4 3).trans rfl; have u4 : w4.cell? ⟨g2, 4, none⟩ = some (.slice none 0 0) := (blk_cell p4 4).trans rfl; have u5 : w4.cell? ⟨g2, 5, none⟩ = some (.string ⟨#[]⟩) := (blk_cell p4 5).trans rfl; have u6 : w4.cell? ⟨g2, 6, none⟩ = some (.bool false) := (blk_cell p4 6).trans rfl; have u7 : w4.cell? ⟨g2, 7, none⟩ = some (.int .i64 0) := (blk_cell p4 7).trans rfl; have u8 : w4.cell? ⟨g2, 8, none⟩ = some (.slice none 0 0) := (blk_cell p4 8).trans rfl; have u9 : w4.cell? ⟨g2, 9, none⟩ = some (.int .i64 0) := (blk_cell p4 9).trans rfl; have u10 : w4.cell? ⟨g2, 10, none⟩ = some (.int .i64 0) := (blk_cell p4 10).trans rfl; have f0 : w4.frozen? ⟨g2, 0, none⟩ = false := blk_frozen p4 0; have f1 : w4.frozen? ⟨g2, 1, none⟩ = false := blk_frozen p4 1; have f2 : w4.frozen? ⟨g2, 2, none⟩ = false := blk_frozen p4 2; have f3 : w4.frozen? ⟨g2, 3, none⟩ = false := blk_frozen p4 3; have f4 : w4.frozen? ⟨g2, 4, none⟩ = false := blk_frozen p4 4; have f5 : w4.frozen? ⟨g2, 5, none⟩ = false := blk_frozen p4 5; have f6 : w4.frozen? ⟨g2, 6, none⟩ = false := blk_frozen p4 6; have f7 : w4.frozen? ⟨g2, 7, none⟩ = false := blk_frozen p4 7; have f8 : w4.frozen? ⟨g2, 8, none⟩ = false := blk_frozen p4 8; have f9 : w4.frozen? ⟨g2, 9, none⟩ = false := blk_frozen p4 9; have f10 : w4.frozen? ⟨g2, 10, none⟩ = false := blk_frozen p4 10))
  obtain ⟨w5, hw5⟩ : ∃ w5, w5 = ((((((((((((w4.setCell ⟨g1, 8, none⟩ (.slice B8 blocks.length d8)).setCell ⟨g2, 0, none⟩ (.int .i64 err)).setCell ⟨g2, 1, none⟩ (.int .i64 b0)).setCell ⟨g2, 2, none⟩ (.int .i64 b1)).setCell ⟨g2, 3, none⟩ (.int .i64 b2)).setCell ⟨g2, 4, none⟩ (.slice B4 names.length d4)).setCell ⟨g2, 5, none⟩ (.string path)).setCell ⟨g2, 6, none⟩ (.bool dir)).setCell ⟨g2, 7, none⟩ (.int .i64 quota)).setCell ⟨g2, 8, none⟩ (.slice B8 blocks.length d8)).setCell ⟨g2, 9, none⟩ (.int .i64 writer)).setCell ⟨g2, 10, none⟩ (.int .i64 n)) := ⟨_, rfl⟩
  have h0 := (Below.heap_setCell w4 ⟨g1, 8, none⟩ (.slice B8 blocks.length d8) g2 (Ne.symm hne)).trans p4
  have h5 := row_all h0 [.int .i64 err, .int .i64 b0, .int .i64 b1, .int .i64 b2, .slice B4 names.length d4, .string path, .bool dir, .int .i64 quota, .slice B8 blocks.length d8, .int .i64 writer, .int .i64 n] rfl
  simp only [World.setCells, Nat.zero_add, Nat.reduceAdd] at h5
  rw [← hw5] at h5
  have HW5 := Aside0.mk hw5
  rw [← hw5]
  clear hw5 h0
  have r0 : w5.cell? ⟨g2, 0, none⟩ = some (.int .i64 err) := (blk_cell h5 0).trans rfl
  have r1 : w5.cell? ⟨g2, 1, none⟩ = some (.int .i64 b0) := (blk_cell h5 1).trans rfl
  have r2 : w5.cell? ⟨g2, 2, none⟩ = some (.int .i64 b1) := (blk_cell h5 2).trans rfl
  have r3 : w5.cell? ⟨g2, 3, none⟩ = some (.int .i64 b2) := (blk_cell h5 3).trans rfl
  have r4 : w5.cell? ⟨g2, 4, none⟩ = some (.slice B4 names.length d4) := (blk_cell h5 4).trans rfl
  have r5 : w5.cell? ⟨g2, 5, none⟩ = some (.string path) := (blk_cell h5 5).trans rfl
  have r6 : w5.cell? ⟨g2, 6, none⟩ = some (.bool dir) := (blk_cell h5 6).trans rfl
  have r7 : w5.cell? ⟨g2, 7, none⟩ = some (.int .i64 quota) := (blk_cell h5 7).trans rfl
  have r8 : w5.cell? ⟨g2, 8, none⟩ = some (.slice B8 blocks.length d8) := (blk_cell h5 8).trans rfl
  have r9 : w5.cell? ⟨g2, 9, none⟩ = some (.int .i64 writer) := (blk_cell h5 9).trans rfl
  have r10 : w5.cell? ⟨g2, 10, none⟩ = some (.int .i64 n) := (blk_cell h5 10).trans rfl
  (try simp only [Exit.inBlock, Exit.then])
  refine bodyPost_ret (by simp [results, Try.results21, go_sem, r0, r1, r2, r3, r4, r5, r6, r7, r8, r9, r10]; try rfl) rfl ?_
  have hw6 : w5 = (w4.setCell ⟨g1, 8, none⟩ (.slice B8 blocks.length d8)).setCells g2 0 [.int .i64 err, .int .i64 b0, .int .i64 b1, .int .i64 b2, .slice B4 names.length d4, .string path, .bool dir, .int .i64 quota, .slice B8 blocks.length d8, .int .i64 writer, .int .i64 n] := by
    rw [HW5.out]
    simp only [World.setCells, Nat.zero_add, Nat.reduceAdd]
  have G8 : Gr (fun i => i = g1 ∨ i = g2) w4 w5 := by
    rw [hw6]
    exact Gr.setCells (S := fun i => i = g1 ∨ i = g2) (Gr.set (S := fun i => i = g1 ∨ i = g2) (p := ⟨g1, 8, none⟩) (Gr.refl _ w4) _ (Or.inl (Or.inl rfl))) _ (Or.inl (Or.inr rfl))
  clear hw6
  have G3 : Gr (fun i => i = g1 ∨ i = g2) w3 (w3.setCell ⟨g1, 4, none⟩ (.slice B4 names.length d4)) := Gr.set (S := fun i => i = g1 ∨ i = g2) (p := ⟨g1, 4, none⟩) (Gr.refl _ w3) _ (Or.inl (Or.inl rfl))
  have G4 : Gr (fun i => i = g1 ∨ i = g2) w3 w5 := (G3.then_ (S' := fun _ => False) (Gr.of_below hb4) (fun _ h => h.elim)).then_ G8 (fun _ h => .inl h)
  have s12 : w.heap.size ≤ w2.heap.size := Nat.le_trans hb1.size hb2.size
  have s13 : w.heap.size ≤ w3.heap.size := Nat.le_trans s12 hb3.size
  have hge1 : w.heap.size ≤ g1 := by rw [G1.out]; exact Nat.le_refl _
  have hge2 : w.heap.size ≤ g2 := by rw [G2.out]; exact hb1.size
  refine ⟨B4, d4, B8, d8, rfl, ?_, ?_, ?_⟩
  · exact R_gr (Kd.R_lower HR4.out s12) G4 (two_types q3 p3 (by decide))
  · exact R_gr (Kd.R_lower HR8.out (Nat.le_trans s13 (Nat.le_of_eq (World.size_setCell _ _ _).symm))) G8 (two_types q4 p4 (by decide))
  · have h13 := below_step (below_step hb1 hb2) hb3
    exact ⟨G4.os.trans h13.os, G4.tape.trans h13.tape, G4.output.trans h13.output, Nat.le_trans h13.size G4.size, fun i hi => (G4.block i (Nat.lt_of_lt_of_le hi s13) (fun h => by rcases h with rfl | rfl <;> omega)).trans (h13.block i hi)⟩
end Go.Proofs.Ytjailboidlmadaa.P
end
