/- A row of keys: a key stored, one appended, the tail cleared: what the row holds then, and what else has turned. -/
import Derived.Test.YtjailboidlmadaaRtA
namespace Go.Proofs.Ytjailboidlmadaa.P
open Go.RowKit Go.Maps Go.WideMaps Go.Proofs.YtjailboidlmadaaW.PrintWords Go.Proofs.YtjailboidlmadaaW.PrintLast Go.Proofs.YtjailboidlmadaaW.PrintMore
set_option linter.unusedVariables false
variable {W W' : World} {D D' : Nat → Prop} {v : Value} {ks : List (Int × Int)} {g off cap : Nat} {cells : Array Value}

theorem kcells_inv : ∀ (ks : List (Int × Int)) (m : Nat) (u : Value), (kcells ks)[m]? = some u → ∃ k, ks[m / 2]? = some k ∧ (m % 2 = 0 ∧ u = .int .i64 k.1 ∨ m % 2 = 1 ∧ u = .int .i64 k.2)
  | [], m, u, h => by simp [kcells] at h
  | a :: ks, 0, u, h => by rw [kcells_cons] at h; simp at h; exact ⟨a, by simp, .inl ⟨rfl, h.symm⟩⟩
  | a :: ks, 1, u, h => by rw [kcells_cons] at h; simp at h; exact ⟨a, by simp, .inr ⟨rfl, h.symm⟩⟩
  | a :: ks, m + 2, u, h => by
    rw [kcells_cons] at h
    obtain ⟨k, h1, h2⟩ := kcells_inv ks m u (by simpa using h)
    refine ⟨k, by rw [show (m + 2) / 2 = m / 2 + 1 by omega]; simpa using h1, ?_⟩
    rw [show (m + 2) % 2 = m % 2 by omega]
    exact h2
theorem KB.of_keys {W : World} (h1 : W.heap[g]? = some (.cells cells 64 (0, 0))) (h2 : ks.length ≤ cap) (h3 : cap ≤ maxLen) (h4 : off + cap * 2 ≤ cells.size)
    (h5 : ∀ i k, ks[i]? = some k → cells[off + i * 2]? = some (.int .i64 k.1) ∧ cells[off + i * 2 + 1]? = some (.int .i64 k.2)) : KB W g off cap ks cells := by
  refine ⟨h1, h2, h3, h4, fun j u hu => ?_⟩
  obtain ⟨k, hk, h⟩ := kcells_inv ks j u hu
  obtain ⟨a, b⟩ := h5 _ _ hk
  rcases h with ⟨h, rfl⟩ | ⟨h, rfl⟩
  · rw [show off + j = off + j / 2 * 2 by omega]; exact a
  · rw [show off + j = off + j / 2 * 2 + 1 by omega]; exact b
theorem KB.keys (h : KB W g off cap ks cells) {i : Nat} {k : Int × Int} (hk : ks[i]? = some k) : cells[off + i * 2]? = some (.int .i64 k.1) ∧ cells[off + i * 2 + 1]? = some (.int .i64 k.2) := by
  obtain ⟨a, b⟩ := kcells_at ks i k hk
  exact ⟨h.holds _ _ a, by rw [Nat.add_assoc]; exact h.holds _ _ b⟩
theorem setCells_block {t : TypeId} : ∀ (vs : List Value) (o : Nat) (W : World) (c : Array Value), W.heap[g]? = some (.cells c t (0, 0)) →
    ∃ c', (W.setCells g o vs).heap[g]? = some (.cells c' t (0, 0)) ∧ c'.size = c.size ∧ (∀ m, m < o ∨ o + vs.length ≤ m → c'[m]? = c[m]?) ∧ (∀ j u, vs[j]? = some u → o + j < c.size → c'[o + j]? = some u)
  | [], o, W, c, h => ⟨c, h, rfl, fun _ _ => rfl, fun j u hu => by simp at hu⟩
  | v :: vs, o, W, c, h => by
    have h1 := heap_setCell_same W g o c t v h
    obtain ⟨c', a1, a2, a3, a4⟩ := setCells_block vs (o + 1) _ _ h1
    refine ⟨c', a1, by rw [a2]; simp, fun m hm => ?_, fun j u hu hj => ?_⟩
    · rw [List.length_cons] at hm
      rw [a3 m (by omega)]
      rw [Array.getElem?_setIfInBounds_ne (by omega)]
    · cases j with
      | zero =>
        simp at hu
        subst hu
        rw [Nat.add_zero] at hj ⊢
        rw [a3 o (by omega), Array.getElem?_setIfInBounds_self_of_lt hj]
      | succ j =>
        have := a4 j u (by simpa using hu) (by simp; omega)
        rw [show o + (j + 1) = o + 1 + j by omega]
        exact this
/-- the key at place i is another one -/
theorem KB.put (h : KB W g off cap ks cells) {i : Nat} (hi : i < cap) (k : Int × Int) {ks' : List (Int × Int)} (hl : ks'.length ≤ cap) (hks : ∀ j k', ks'[j]? = some k' → (j = i ∧ k' = k) ∨ (j ≠ i ∧ ks[j]? = some k')) :
    ∃ cells', KB (W.setCells g (off + i * 2) (kcells [k])) g off cap ks' cells' := by
  obtain ⟨c', a1, a2, a3, a4⟩ := setCells_block (kcells [k]) (off + i * 2) W cells h.at_
  have hr := h.room
  refine ⟨c', KB.of_keys a1 hl h.max (by rw [a2]; exact hr) (fun j k' hk' => ?_)⟩
  rcases hks j k' hk' with ⟨rfl, rfl⟩ | ⟨hne, hk⟩
  · exact ⟨a4 0 _ rfl (by omega), a4 1 _ rfl (by omega)⟩
  · have hlen : (kcells [k]).length = 2 := rfl
    obtain ⟨b1, b2⟩ := h.keys hk
    rw [a3 _ (by omega), a3 _ (by omega)]
    exact ⟨b1, b2⟩
/-- what stands behind the first i keys does not matter -/
theorem KB.tail (h : KB W g off cap ks cells) (i : Nat) (vs : List Value) : ∃ cells', KB (W.setCells g (off + i * 2) vs) g off cap (ks.take i) cells' := by
  obtain ⟨c', a1, a2, a3, a4⟩ := setCells_block vs (off + i * 2) W cells h.at_
  have hr := h.room
  have hle := h.le
  refine ⟨c', KB.of_keys a1 (by rw [List.length_take]; omega) h.max (by rw [a2]; exact hr) (fun j k' hk' => ?_)⟩
  have hj : j < i := by have := (List.getElem?_eq_some_iff.1 hk').1; rw [List.length_take] at this; omega
  rw [List.getElem?_take_of_lt hj] at hk'
  obtain ⟨b1, b2⟩ := h.keys hk'
  rw [a3 _ (by omega), a3 _ (by omega)]
  exact ⟨b1, b2⟩
theorem KB.take (h : KB W g off cap ks cells) (i : Nat) : KB W g off cap (ks.take i) cells := by
  have hle := h.le
  refine KB.of_keys h.at_ (by rw [List.length_take]; omega) h.max h.room (fun j k' hk' => ?_)
  have hj : j < i := by have := (List.getElem?_eq_some_iff.1 hk').1; rw [List.length_take] at this; omega
  rw [List.getElem?_take_of_lt hj] at hk'
  exact h.keys hk'
/-- one key off the head -/
theorem KB.next {k : Int × Int} (h : KB W g off cap (k :: ks) cells) : KB W g (off + 2) (cap - 1) ks cells := by
  have hle := h.le
  have hr := h.room
  have hm := h.max
  rw [List.length_cons] at hle
  refine KB.of_keys h.at_ (by omega) (by omega) (by omega) (fun j k' hk' => ?_)
  have := h.keys (i := j + 1) (k := k') (by simpa using hk')
  rw [show off + 2 + j * 2 = off + (j + 1) * 2 by omega]
  exact this
theorem KB.none_left (h : KB W g off cap ks cells) (hk : cap = 0) (hn : ks = []) : KB W g (off + 0) 0 [] cells := by
  have hr := h.room
  subst hk
  exact KB.of_keys h.at_ (by simp) (by omega) (by omega) (fun j k' hk' => by simp at hk')

theorem info64 : (Try.prog.info? 64).map (fun i => (i.zero, i.size, i.bytes)) = some (some (.agg #[.int .i64 0, .int .i64 0]), 2, 16) := by kernel_rfl
theorem zero64 (w : World) : (zeroValue 64).run Try.prog w = .ok (.agg #[.int .i64 0, .int .i64 0]) w := by kernel_rfl
theorem agg2_cells (a b : Value) (ha : a.oneCell' = true) (hb : b.oneCell' = true) : (Value.agg #[a, b]).cells.size = 2 := by rfl

theorem World.grownBy_drewAlloc (W : World) (o : Obj) (row : Option Nat) : W.grownBy (W.drew.alloc o) row := 
  have hb := below_alloc (below_drew (Below.refl W.heap.size W)) o
  ⟨hb.os, hb.tape, hb.output, hb.size, fun k hk _ => hb.block k hk⟩
/-- one key more: the row is longer, in its own block or in a new one -/
theorem run_kr_append (h : KR W D v ks) (k : Int × Int) {q : Nat} (q0 : W.cell? ⟨q, 0, none⟩ = some (.int .i64 k.1)) (q1 : W.cell? ⟨q, 1, none⟩ = some (.int .i64 k.2)) (hl : ks.length + 1 ≤ 1099511627776) (ty : TypeId) :
    ∃ v' W', (Builtin.append_ #[60, 60] ty #[v, .slice (some ⟨q, 0, none⟩) 1 1]).run Try.prog W = .ok v' W' ∧ KR W' (fun i => D i ∨ i = W.heap.size) v' (ks ++ [k]) ∧ W.grownBy W' v.ownBlock := by
  obtain ⟨i, hi, hz, hsz, hby⟩ := info_parts info64
  have hsrc : Src Try.prog i.size 60 (.slice (some ⟨q, 0, none⟩) 1 1) 1 (kcells [k]) W := by
    refine Src.ofSlice W Try.underlying60 ⟨q, 0, none⟩ 1 1 (kcells [k]) (by rw [hsz]; rfl) (fun j u hu => ?_) (kcells_one _)
    have hj : j < 2 := (List.getElem?_eq_some_iff.1 hu).1
    rcases (by omega : j = 0 ∨ j = 1) with rfl | rfl
    · have : u = .int .i64 k.1 := by simpa [kcells] using hu.symm
      subst this; exact q0
    · have : u = .int .i64 k.2 := by simpa [kcells] using hu.symm
      subst this; exact q1
  have hgrow : ∀ (bs : Option Addr) (cap : Nat), v = .slice bs ks.length cap → cap < ks.length + 1 → (Builtin.firstCells i.size ks.length (.slice bs ks.length cap)).run Try.prog W.drew = .ok (kcells ks).toArray W.drew →
      ∃ v' W', (Builtin.append_ #[60, 60] ty #[v, .slice (some ⟨q, 0, none⟩) 1 1]).run Try.prog W = .ok v' W' ∧ KR W' (fun i => D i ∨ i = W.heap.size) v' (ks ++ [k]) ∧ W.grownBy W' v.ownBlock := by
    rintro bs cap rfl hc hf
    have hrun := run_append_grow_src (P := Try.prog) W 60 60 ty 64 i _ Try.underlying60 hi hz bs ks.length cap (kcells ks) hf (.slice (some ⟨q, 0, none⟩) 1 1) 1 (kcells [k]) hsrc (by omega) (by omega) (by refine growslice_fits (by omega) ?_; rw [hby]; omega)
    have hge := grownCap_ge W (ks.length + 1) cap 64
    have hcm := grownCap_le_maxLen W (ks.length + 1) cap 64 (by unfold maxLen; omega)
    generalize grownCap W (ks.length + 1) cap 64 = C at hrun hge hcm
    have hkb : ∃ cells, KB (W.drew.alloc (.cells ((kcells ks ++ kcells [k]).toArray ++ Builtin.zeroCells (Value.agg #[.int .i64 0, .int .i64 0]).cells (C - (ks.length + 1))) 64)) W.heap.size 0 C (ks ++ [k]) cells := by
      refine ⟨_, KB.of_keys (MapKept.heap_alloc W.drew _).1 (by rw [List.length_append]; exact hge) hcm ?_ (fun j k' hk' => ?_)⟩
      · rw [Array.size_append, List.size_toArray, List.length_append, kcells_len, size_zeroCells, agg2_cells _ _ rfl rfl, show (kcells [k]).length = 2 from rfl]
        omega
      · have hj : j < (ks ++ [k]).length := (List.getElem?_eq_some_iff.1 hk').1
        have hL : (kcells (ks ++ [k])).length = (ks ++ [k]).length * 2 := kcells_len _
        obtain ⟨a, b⟩ := kcells_at _ _ _ hk'
        rw [← kcells_append, Nat.zero_add, Array.getElem?_append_left (by rw [List.size_toArray]; omega), Array.getElem?_append_left (by rw [List.size_toArray]; omega), List.getElem?_toArray, List.getElem?_toArray]
        exact ⟨a, b⟩
    obtain ⟨cells, hkb⟩ := hkb
    exact ⟨_, _, hrun, .inr ⟨W.heap.size, 0, C, cells, by rw [List.length_append]; rfl, .inr rfl, hkb⟩, World.grownBy_drewAlloc W _ _⟩
  rcases h with ⟨rfl, rfl⟩ | ⟨g, off, cap, cells, rfl, hg, h⟩
  · exact hgrow none 0 rfl (by simp) (run_firstCells_none W.drew i.size 0 0 0)
  · by_cases hfit : ks.length + 1 ≤ cap
    · have hr := h.room
      have hrun := run_append_room_src (P := Try.prog) W 60 60 ty 64 i Try.underlying60 hi g off ks.length cap (.slice (some ⟨q, 0, none⟩) 1 1) 1 (kcells [k]) hsrc hfit
        (fun j hj => by
          have hj : j < 2 := hj
          rw [hsz, Nat.add_assoc]
          obtain ⟨u, hu, _⟩ := h.cell (ks.length * 2 + j) (by omega)
          rw [hu]; rfl) (fun j _ => h.frozen _)
      rw [hsz] at hrun
      obtain ⟨c', hc'⟩ := h.put (i := ks.length) (by omega) k (ks' := ks ++ [k]) (by simp; omega) (fun j k' hk' => by
        by_cases hj : j = ks.length
        · subst hj
          simp at hk'
          exact .inl ⟨rfl, hk'.symm⟩
        · have hlt : j < ks.length := by have := (List.getElem?_eq_some_iff.1 hk').1; simp at this; omega
          rw [List.getElem?_append_left hlt] at hk'
          exact .inr ⟨hj, hk'⟩)
      refine ⟨_, _, hrun, .inr ⟨g, off, cap, c', by rw [List.length_append]; rfl, .inl hg, hc'⟩, ?_⟩
      exact Gr.grown (r := g) ((Gr.refl (fun i => i = g) W).setCells _ (.inl rfl))
    · refine hgrow _ _ rfl (by omega) (run_firstCells_some W.drew i.size ks.length ⟨g, off, none⟩ ks.length cap (kcells ks) (by rw [kcells_len, hsz]) (fun j u hu => ?_))
      rw [Addr.add_lit]
      exact h.cellAt hu

/-- append, as one step of a region that draws -/
theorem step_kr_append {ops : Array Oper} {o : Oper} {a : Act} {K : Act → World → Prop} {Q : Exit → Act → World → Prop} {E : Prop} (hgd : o.guard = none) (s x : Operand)
    (ho : o.op = .call { callee := .builtin .append, args := #[s, x], argTypes := #[60, 60] }) (hs : a.eval s = v) (h : KR W D v ks) (k : Int × Int) {q : Nat} (hx : a.eval x = .slice (some ⟨q, 0, none⟩) 1 1)
    (q0 : W.cell? ⟨q, 0, none⟩ = some (.int .i64 k.1)) (q1 : W.cell? ⟨q, 1, none⟩ = some (.int .i64 k.2)) (hl : ks.length + 1 ≤ 1099511627776)
    (hK : ∀ A cap W', KR W' (fun i => D i ∨ i = W.heap.size) (.slice A (ks.length + 1) cap) (ks ++ [k]) → W.grownBy W' v.ownBlock → K (a.put o.dst (.slice A (ks.length + 1) cap)) W') :
    if Region.wanted o (yielded ops a.tmps) = true then Oper.wp Try.prog o a W K Q else E := by
  have hw : Region.wanted o (yielded ops a.tmps) = true := by simp [Region.wanted, hgd]
  rw [if_pos hw]
  obtain ⟨v', W', hrun, hkr, hgr⟩ := run_kr_append h k q0 q1 hl o.type
  obtain ⟨A, c, rfl⟩ := hkr.shape
  rw [List.length_append] at hrun hkr
  unfold Oper.wp
  simp [execOp, ho, resolve, invoke, builtin, hs, hx, hrun, Result.andThen]
  exact hK _ _ _ hkr hgr
end Go.Proofs.Ytjailboidlmadaa.P
