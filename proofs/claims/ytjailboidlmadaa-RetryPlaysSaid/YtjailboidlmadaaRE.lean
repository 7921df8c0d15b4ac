/- A row of elements of several cells, at whatever offset in a block of its own type: what it holds, read and appended to (for the reference's list of calls). -/
import Derived.Test.YtjailboidlmadaaRD
import Derived.Test.YtjailboidlmadaaPx12
section

namespace Go.Proofs.Ytjailboidlmadaa.P
open Go.RowKit Go.Maps Go.WideMaps Go.Proofs.YtjailboidlmadaaW.PrintWords Go.Proofs.YtjailboidlmadaaW.PrintLast Go.Proofs.YtjailboidlmadaaW.PrintMore
set_option linter.unusedVariables false
set_option linter.unusedSimpArgs false

/-- block g holds from off on room for cap elements of sz cells, of which the first ones are xs -/
structure CB (W : World) (ty sz g off cap : Nat) (xs : List (List Value)) (cells : Array Value) : Prop where
  at_ : W.heap[g]? = some (.cells cells ty (0, 0))
  le : xs.length ≤ cap
  max : cap ≤ maxLen
  room : off + cap * sz ≤ cells.size
  len : ∀ x ∈ xs, x.length = sz
  one : ∀ x ∈ xs, ∀ u ∈ x, u.oneCell' = true
  holds : ∀ j u, xs.flatten[j]? = some u → cells[off + j]? = some u
/-- the value v is such a row that lies in D -/
def CR (W : World) (D : Nat → Prop) (ty sz : Nat) (v : Value) (xs : List (List Value)) : Prop :=
  (v = .slice none 0 0 ∧ xs = []) ∨ ∃ g off cap cells, v = .slice (some ⟨g, off, none⟩) xs.length cap ∧ D g ∧ CB W ty sz g off cap xs cells
variable {W W' : World} {D D' : Nat → Prop} {ty sz g off cap : Nat} {v : Value} {xs ys : List (List Value)} {cells : Array Value}

theorem flat_len {sz : Nat} : ∀ {xs : List (List Value)}, (∀ x ∈ xs, x.length = sz) → xs.flatten.length = xs.length * sz
  | [], _ => by simp
  | x :: xs, h => by
    rw [List.flatten_cons, List.length_append, List.length_cons, flat_len (fun y hy => h y (List.mem_cons_of_mem _ hy)), h x List.mem_cons_self, Nat.succ_mul]
    omega
theorem flat_at {sz : Nat} : ∀ {xs : List (List Value)} {i j : Nat} {x : List Value} {u : Value}, (∀ x ∈ xs, x.length = sz) → xs[i]? = some x → x[j]? = some u → xs.flatten[i * sz + j]? = some u
  | [], i, j, x, u, _, hi, _ => by simp at hi
  | y :: xs, 0, j, x, u, h, hi, hj => by
    simp at hi
    subst hi
    rw [List.flatten_cons, Nat.zero_mul, Nat.zero_add, List.getElem?_append_left (List.getElem?_eq_some_iff.1 hj).1]
    exact hj
  | y :: xs, i + 1, j, x, u, h, hi, hj => by
    have hy := h y List.mem_cons_self
    rw [List.flatten_cons, List.getElem?_append_right (by rw [hy, Nat.succ_mul]; omega), hy, show (i + 1) * sz + j - sz = i * sz + j by rw [Nat.succ_mul]; omega]
    exact flat_at (fun z hz => h z (List.mem_cons_of_mem _ hz)) (by simpa using hi) hj
theorem CB.lt (h : CB W ty sz g off cap xs cells) : g < W.heap.size := blk_lt h.at_
theorem CB.step (h : CB W ty sz g off cap xs cells) (hb : W'.heap[g]? = W.heap[g]?) : CB W' ty sz g off cap xs cells := ⟨hb.trans h.at_, h.le, h.max, h.room, h.len, h.one, h.holds⟩
theorem CB.cell (h : CB W ty sz g off cap xs cells) {i j : Nat} {x : List Value} {u : Value} (hi : xs[i]? = some x) (hj : x[j]? = some u) : W.cell? ⟨g, off + i * sz + j, none⟩ = some u := by
  rw [blk_cell h.at_, Nat.add_assoc]
  exact h.holds _ _ (flat_at h.len hi hj)
theorem CB.frozen (h : CB W ty sz g off cap xs cells) (o : Nat) : W.frozen? ⟨g, o, none⟩ = false := blk_frozen h.at_ o
theorem CR.step (h : CR W D ty sz v xs) (hD : ∀ i, D i → D' i) (hb : ∀ i c, D i → W.heap[i]? = some (.cells c ty (0, 0)) → W'.heap[i]? = W.heap[i]?) : CR W' D' ty sz v xs := by
  rcases h with h | ⟨g, off, cap, cells, rfl, hg, h⟩
  · exact .inl h
  · exact .inr ⟨g, off, cap, cells, rfl, hD g hg, h.step (hb g _ hg h.at_)⟩
theorem CR.bound (h : CR W D ty sz v xs) : CR W (fun i => D i ∧ i < W.heap.size) ty sz v xs := by
  rcases h with h | ⟨g, off, cap, cells, rfl, hg, h⟩
  · exact .inl h
  · exact .inr ⟨g, off, cap, cells, rfl, ⟨hg, h.lt⟩, h⟩
theorem CR.shape (h : CR W D ty sz v xs) : ∃ A cap, v = .slice A xs.length cap := by
  rcases h with ⟨rfl, rfl⟩ | ⟨g, off, cap, cells, rfl, hg, h⟩
  · exact ⟨_, _, rfl⟩
  · exact ⟨_, _, rfl⟩
theorem CR.len (h : CR W D ty sz v xs) : ∀ x ∈ xs, x.length = sz := by
  rcases h with ⟨_, rfl⟩ | ⟨g, off, cap, cells, _, hg, h⟩
  · intro x hx; cases hx
  · exact h.len
theorem CR.one (h : CR W D ty sz v xs) : ∀ x ∈ xs, ∀ u ∈ x, u.oneCell' = true := by
  rcases h with ⟨_, rfl⟩ | ⟨g, off, cap, cells, _, hg, h⟩
  · intro x hx; cases hx
  · exact h.one
theorem CR.own_typed (h : CR W D ty sz v xs) {i : Nat} (hi : some i = v.ownBlock) : D i ∧ ∃ c, W.heap[i]? = some (.cells c ty (0, 0)) := by
  rcases h with ⟨rfl, _⟩ | ⟨g, off, cap, cells, rfl, hg, h⟩
  · simp [Value.ownBlock] at hi
  · simp [Value.ownBlock] at hi
    subst hi
    exact ⟨hg, _, h.at_⟩
theorem CB.take (h : CB W ty sz g off cap xs cells) (i : Nat) : CB W ty sz g off cap (xs.take i) cells := by
  have hle := h.le
  refine ⟨h.at_, by rw [List.length_take]; omega, h.max, h.room, fun x hx => h.len x (List.mem_of_mem_take hx), fun x hx => h.one x (List.mem_of_mem_take hx), fun j u hu => h.holds j u ?_⟩
  have e : xs.flatten = (xs.take i).flatten ++ (xs.drop i).flatten := by rw [← List.flatten_append, List.take_append_drop]
  rw [e, List.getElem?_append_left (List.getElem?_eq_some_iff.1 hu).1]
  exact hu
theorem CB.drop (h : CB W ty sz g off cap xs cells) {i : Nat} (hi : i ≤ xs.length) : CB W ty sz g (off + i * sz) (cap - i) (xs.drop i) cells := by
  have hle := h.le
  have hr := h.room
  have hm := h.max
  have hmul : cap * sz = i * sz + (cap - i) * sz := by rw [← Nat.add_mul]; congr 1; omega
  refine ⟨h.at_, by rw [List.length_drop]; omega, by omega, by omega, fun x hx => h.len x (List.mem_of_mem_drop hx), fun x hx => h.one x (List.mem_of_mem_drop hx), fun j u hu => ?_⟩
  have e : xs.flatten = (xs.take i).flatten ++ (xs.drop i).flatten := by rw [← List.flatten_append, List.take_append_drop]
  have hl : (xs.take i).flatten.length = i * sz := by
    rw [flat_len (sz := sz) (fun x hx => h.len x (List.mem_of_mem_take hx)), List.length_take, Nat.min_eq_left hi]
  have := h.holds (i * sz + j) u (by rw [e, List.getElem?_append_right (by omega), hl, Nat.add_sub_cancel_left]; exact hu)
  rw [Nat.add_assoc]
  exact this
theorem run_append_none (t op e : TypeId) (i : TypeInfo) (ht : Try.prog.underlying t = some (.slice e)) (hi : Try.prog.info? e = some i) (base : Option Addr) (n cap : Nat) (hle : n ≤ cap) (xv : Value) (hs : Src Try.prog i.size t xv 0 [] W) :
    (Builtin.append_ #[t, t] op #[.slice base n cap, xv]).run Try.prog W = .ok (.slice base n cap) W := by
  rcases hs.kind with ⟨e', hk⟩ | hk <;> cases base <;> simp [Builtin.append_, run_underlying ht, run_underlying hk, sizeOf, typeInfo, hi, hs.len, hle, hs.cells, storeCells]
/-- n elements more, out of whatever source -/
theorem run_cr_append {t e : TypeId} {z : Value} {bytes : Nat} (ht : Try.prog.underlying t = some (.slice e)) (hinfo : (Try.prog.info? e).map (fun i => (i.zero, i.size, i.bytes)) = some (some z, sz, bytes)) (hzs : z.cells.size = sz) (h : CR W D e sz v xs)
    (hyl : ∀ y ∈ ys, y.length = sz) (hyo : ∀ y ∈ ys, ∀ u ∈ y, u.oneCell' = true) (xv : Value) (hs : Src Try.prog sz t xv ys.length ys.flatten W) (hl : (xs.length + ys.length) * bytes ≤ 140737488355328) (hm : xs.length + ys.length ≤ 1099511627776) (op : TypeId) :
    ∃ v' W', (Builtin.append_ #[t, t] op #[v, xv]).run Try.prog W = .ok v' W' ∧ CR W' (fun i => D i ∨ i = W.heap.size) e sz v' (xs ++ ys) ∧ W.grownBy W' v.ownBlock := by
  obtain ⟨i, hi, hz, hsz, hby⟩ := info_parts hinfo
  have hfl := flat_len hyl
  have hxl := flat_len h.len
  have hall : ∀ x ∈ xs ++ ys, x.length = sz := fun x hx => (List.mem_append.1 hx).elim (h.len x) (hyl x)
  have hone : ∀ x ∈ xs ++ ys, ∀ u ∈ x, u.oneCell' = true := fun x hx => (List.mem_append.1 hx).elim (h.one x) (hyo x)
  have hs' : Src Try.prog i.size t xv ys.length ys.flatten W := by rw [hsz]; exact hs
  have same : W.grownBy W v.ownBlock := ⟨rfl, rfl, rfl, Nat.le_refl _, fun _ _ _ => rfl⟩
  have hgrow : ∀ (bs : Option Addr) (cap : Nat), v = .slice bs xs.length cap → cap < xs.length + ys.length → (Builtin.firstCells i.size xs.length (.slice bs xs.length cap)).run Try.prog W.drew = .ok xs.flatten.toArray W.drew →
      ∃ v' W', (Builtin.append_ #[t, t] op #[v, xv]).run Try.prog W = .ok v' W' ∧ CR W' (fun i => D i ∨ i = W.heap.size) e sz v' (xs ++ ys) ∧ W.grownBy W' v.ownBlock := by
    rintro bs cap rfl hc hf
    have hrun := run_append_grow_src (P := Try.prog) W t t op e i z ht hi hz bs xs.length cap xs.flatten hf xv ys.length ys.flatten hs' (by omega) (Int.ofNat_le.2 (Nat.le_trans hm (by decide))) (by refine growslice_fits (by omega) ?_; rw [hby]; exact hl)
    have hge := grownCap_ge W (xs.length + ys.length) cap e
    have hcm := grownCap_le_maxLen W (xs.length + ys.length) cap e (by unfold maxLen; omega)
    generalize grownCap W (xs.length + ys.length) cap e = C at hrun hge hcm
    have hC : (C - (xs.length + ys.length)) * sz + (xs.length + ys.length) * sz = C * sz := by rw [← Nat.add_mul, Nat.sub_add_cancel hge]
    rw [Nat.add_mul] at hC
    have hkb : ∃ cells, CB (W.drew.alloc (.cells ((xs.flatten ++ ys.flatten).toArray ++ Builtin.zeroCells z.cells (C - (xs.length + ys.length))) e)) e sz W.heap.size 0 C (xs ++ ys) cells := by
      refine ⟨_, (MapKept.heap_alloc W.drew _).1, by rw [List.length_append]; exact hge, hcm, ?_, hall, hone, fun j u hu => ?_⟩
      · rw [Array.size_append, List.size_toArray, List.length_append, hxl, hfl, size_zeroCells, hzs]
        omega
      · rw [List.flatten_append] at hu
        rw [Nat.zero_add, Array.getElem?_append_left (by rw [List.size_toArray]; exact (List.getElem?_eq_some_iff.1 hu).1), List.getElem?_toArray]
        exact hu
    obtain ⟨cells, hkb⟩ := hkb
    exact ⟨_, _, hrun, .inr ⟨W.heap.size, 0, C, cells, by rw [List.length_append], .inr rfl, hkb⟩, World.grownBy_drewAlloc W _ _⟩
  by_cases hy0 : ys = []
  · subst hy0
    obtain ⟨A, cap, rfl⟩ := h.shape
    have hle : xs.length ≤ cap := by
      rcases h with ⟨h1, h2⟩ | ⟨g, off, cap', cells, h1, hg, h⟩
      · subst h2; exact Nat.zero_le _
      · injection h1 with _ _ h3; subst h3; exact h.le
    refine ⟨_, W, run_append_none t op e i ht hi A xs.length cap hle xv hs', ?_, same⟩
    rw [List.append_nil]
    exact h.step (fun _ h => .inl h) (fun _ _ _ _ => rfl)
  · have hpos : 0 < ys.length := List.length_pos_iff.2 hy0
    rcases h with ⟨rfl, rfl⟩ | ⟨g, off, cap, cells, rfl, hg, h⟩
    · exact hgrow none 0 rfl (by simp; omega) (run_firstCells_none W.drew i.size 0 0 0)
    · by_cases hfit : xs.length + ys.length ≤ cap
      · have hr := h.room
        have hmul : (xs.length + ys.length) * sz ≤ cap * sz := Nat.mul_le_mul_right _ hfit
        rw [Nat.add_mul] at hmul
        have hrun := run_append_room_src (P := Try.prog) W t t op e i ht hi g off xs.length cap xv ys.length ys.flatten hs' hfit
          (fun j hj => by
            rw [blk_cell h.at_, hsz, Array.getElem?_eq_getElem (by omega)]
            rfl) (fun j _ => h.frozen _)
        rw [hsz] at hrun
        obtain ⟨c', a1, a2, a3, a4⟩ := setCells_block ys.flatten (off + xs.length * sz) W cells h.at_
        refine ⟨_, _, hrun, .inr ⟨g, off, cap, c', by rw [List.length_append], .inl hg, ⟨a1, by rw [List.length_append]; exact hfit, h.max, by rw [a2]; exact hr, hall, hone, fun j u hu => ?_⟩⟩, ?_⟩
        · rw [List.flatten_append] at hu
          by_cases hj : j < xs.flatten.length
          · rw [List.getElem?_append_left hj] at hu
            rw [a3 _ (by omega)]
            exact h.holds j u hu
          · rw [List.getElem?_append_right (by omega)] at hu
            have hlt := (List.getElem?_eq_some_iff.1 hu).1
            have := a4 _ u hu (by omega)
            rw [show off + xs.length * sz + (j - xs.flatten.length) = off + j by omega] at this
            exact this
        · exact Gr.grown (r := g) ((Gr.refl (fun i => i = g) W).setCells _ (.inl rfl))
      · refine hgrow _ _ rfl (by omega) (run_firstCells_some W.drew i.size xs.length ⟨g, off, none⟩ xs.length cap xs.flatten (by rw [hxl, hsz]) (fun j u hu => ?_))
        rw [Addr.add_lit]
        show W.cell? ⟨g, off + j, none⟩ = some u
        rw [blk_cell h.at_]
        exact h.holds j u hu
end Go.Proofs.Ytjailboidlmadaa.P
end

section

namespace Go.Proofs.Ytjailboidlmadaa.P
open Go.RowKit Go.Maps Go.WideMaps Go.Proofs.YtjailboidlmadaaW.PrintWords Go.Proofs.YtjailboidlmadaaW.PrintLast Go.Proofs.YtjailboidlmadaaW.PrintMore
attribute [local go_sem] max2_int min2_int max_two min_two max_three min_three max_four min_four
set_option linter.unusedVariables false
set_option linter.unusedSimpArgs false

/-- a call that is kept, with the values of its rows -/
structure RC where
  kd : Int
  p : ByteArray
  t : ByteArray
  cl : Int
  ca : Int
  n : Int
  A6 : Option Addr
  c6 : Nat
  l6 : List Int
  a : Ans
  A4 : Option Addr
  c4 : Nat
  A8 : Option Addr
  c8 : Nat
def RC.key (r : RC) : Int × Int := (r.cl, r.ca)
def RC.ecells (r : RC) : List Value := [.int .i64 r.kd, .string r.p, .string r.t, .int .i64 r.cl, .int .i64 r.ca, .int .i64 r.n, .slice r.A6 r.l6.length r.c6]
def RC.acells (r : RC) : List Value := r.a.cells (.slice r.A4 r.a.names.length r.c4) (.slice r.A8 r.a.blocks.length r.c8)
def RC.cells (r : RC) : List Value := r.ecells ++ r.acells
/-- its rows are there -/
structure RC.There (r : RC) (w : World) : Prop where
  h6 : Kd.C (Kd.int .i64) w r.A6 r.l6.length r.l6
  k6 : r.l6.length ≤ r.c6
  h4 : Kd.C Kd.string w r.A4 r.a.names.length r.a.names
  k4 : r.a.names.length ≤ r.c4
  h8 : Kd.C k32 w r.A8 r.a.blocks.length r.a.blocks
  k8 : r.a.blocks.length ≤ r.c8
theorem RC.len (r : RC) : r.cells.length = 18 := rfl
theorem RC.one (r : RC) : ∀ u ∈ r.cells, u.oneCell' = true := by
  intro u hu
  have h : r.cells.all (·.oneCell') = true := rfl
  exact List.all_eq_true.1 h u hu
/-- the reference's memory: the list in its order -/
structure RX (W : World) (X : Nat) (D : Nat → Prop) (sl : Value) (rs : List RC) : Prop where
  hX : D X
  at_ : W.heap[X]? = some (.cells #[sl] 51 (0, 0))
  row : CR W D 78 18 sl (rs.map RC.cells)
variable {W W' : World} {X : Nat} {D D' : Nat → Prop} {sl : Value} {rs : List RC}
theorem RX.gr {S : Nat → Prop} (h : RX W X D sl rs) (hg : Gr S W W') (hS : ∀ i, D i → ¬ S i) : RX W' X D sl rs :=
  ⟨h.hX, (hg.block X (blk_lt h.at_) (hS X h.hX)).trans h.at_, h.row.step (fun _ h => h) (fun i c hd hc => hg.block i (blk_lt hc) (hS i hd))⟩
theorem RX.below (h : RX W X D sl rs) (hb : Below W.heap.size W W') : RX W' X D sl rs := h.gr (S := fun _ => False) (Gr.of_below hb) (fun _ _ h => h)
theorem rmap_at {rs : List RC} {i : Nat} {r : RC} (h : rs[i]? = some r) : (rs.map RC.cells)[i]? = some r.cells := by rw [List.getElem?_map, h]; rfl
set_option maxHeartbeats 800000 in
set_option maxRecDepth 100000 in
theorem at_calls (h : RX W X D sl rs) (hl : rs.length ≤ 1000000) (c n : Int) :
    Calls Try.prog 28 #[.pointer (some ⟨X, 0, none⟩), .int .i64 c, .int .i64 n] W fun e w' => e = .returned (.int .i64 (idxOf (fun k => k == (c, n)) (rs.map RC.key))) ∧ w' = W := by
  have hu51 := Try.underlying51
  have hu78 := Try.underlying78
  have hu28 := Try.underlying28
  obtain ⟨A, m, cap, rfl, hm⟩ : ∃ A m cap, sl = .slice A m cap ∧ m = rs.length := by obtain ⟨A1, c_, e_⟩ := h.row.shape; exact ⟨A1, _, c_, e_, List.length_map _⟩
  have x0 : W.cell? ⟨X, 0, none⟩ = some (.slice A m cap) := (blk_cell h.at_ 0).trans rfl
  have HX := Aside0.mk h
  have HM := Aside0.mk hm
  have HL : Aside0 (m ≤ 1099511627776) := ⟨by omega⟩
  clear h hm hl
  go_enter Try.func28, Try.ntmps28
  go_wp2
  go_loopg [7] m (fun gq v7 wr => ∃ j : Nat, v7 = .int .i64 j ∧ Aside0 (gq + j = m) ∧ Aside0 (∀ (i : Nat) (k : Int × Int), i < j → (rs.map RC.key)[i]? = some k → (k == (c, n)) = false) ∧ wr = W)
  case atStart => exact ⟨0, rfl, ⟨rfl⟩, ⟨fun i k hi => absurd hi (Nat.not_lt_zero _)⟩, rfl⟩
  case round =>
    obtain ⟨j, rfl, HG, HN, rfl⟩ := hrel
    by_cases hlt : j < m
    · have hltz : (j : Int) < (m : Int) := by omega
      have hj0 : (0 : Int) ≤ (j : Int) := by omega
      have hltE : j < rs.length := by have := HM.out; omega
      obtain ⟨r, hr⟩ : ∃ r, rs[j]? = some r := ⟨_, List.getElem?_eq_getElem hltE⟩
      have hkey : (rs.map RC.key)[j]? = some r.key := by rw [List.getElem?_map, hr]; rfl
      obtain ⟨g, off, cells, rfl, hDg, hCB⟩ : ∃ g off cells, A = some ⟨g, off, none⟩ ∧ D g ∧ CB wr 78 18 g off cap (rs.map RC.cells) cells := by
        rcases HX.out.row with ⟨h1, _⟩ | ⟨g, off, cap', cells, h1, h2, h3⟩
        · injection h1 with _ h1 _
          omega
        · injection h1 with h1 h4 h5
          subst h5
          exact ⟨g, off, cells, h1, h2, h3⟩
      have x3 := hCB.cell (rmap_at hr) (j := 3) (u := .int .i64 r.cl) rfl
      have x4 := hCB.cell (rmap_at hr) (j := 4) (u := .int .i64 r.ca) rfl
      have HK := Aside0.mk hkey
      have HC : Aside0 (∀ b, (r.key == (c, n)) = b → b = ((r.cl == c) && (r.ca == n))) := ⟨fun b hb => hb.symm⟩
      have hnext : (r.key == (c, n)) = false → ∀ (i : Nat) (k : Int × Int), i < j + 1 → (rs.map RC.key)[i]? = some k → (k == (c, n)) = false := fun hf i k hi hk => by
        by_cases e : i = j
        · subst e
          rw [HK.out] at hk
          rw [← Option.some.inj hk]; exact hf
        · exact HN.out i k (by omega) hk
      have HNX := Aside0.mk hnext
      clear hnext hCB hr hkey
      cases h1 : (r.cl == c) with
      | false =>
        go_wp2
        go_roundg (gk - 1)
        case measure => have := HG.out; omega
        case rel => exact ⟨j + 1, by first | rfl | exact next_int hlt HL.out, ⟨by have := HG.out; omega⟩, ⟨HNX.out (by show ((r.cl == c) && (r.ca == n)) = false; rw [h1]; rfl)⟩, rfl⟩
      | true =>
        cases h2 : (r.ca == n) with
        | false =>
          go_wp2
          go_roundg (gk - 1)
          case measure => have := HG.out; omega
          case rel => exact ⟨j + 1, by first | rfl | exact next_int hlt HL.out, ⟨by have := HG.out; omega⟩, ⟨HNX.out (by show ((r.cl == c) && (r.ca == n)) = false; rw [h1, h2]; rfl)⟩, rfl⟩
        | true =>
          have hres := idxOf_hit (p := fun k => k == (c, n)) HN.out HK.out (by show ((r.cl == c) && (r.ca == n)) = true; rw [h1, h2]; rfl)
          replace hres := Aside0.mk hres
          go_wp2
          go_ret
          exact ⟨by rw [hres.out]; rfl, rfl⟩
    · have hltz : ¬ (j : Int) < (m : Int) := by omega
      obtain rfl : j = m := by have := HG.out; omega
      have hres := idxOf_miss (p := fun k => k == (c, n)) (ks := rs.map RC.key) (fun i k hk => HN.out i k (by have := (List.getElem?_eq_some_iff.1 hk).1; rw [List.length_map] at this; have := HM.out; omega) hk)
      replace hres := Aside0.mk hres
      go_wp2
      go_ret
      exact ⟨by rw [hres.out]; rfl, rfl⟩
end Go.Proofs.Ytjailboidlmadaa.P
end

section

namespace Go.Proofs.Ytjailboidlmadaa.P
open Go.RowKit Go.Maps Go.WideMaps Go.Proofs.YtjailboidlmadaaW.PrintWords Go.Proofs.YtjailboidlmadaaW.PrintLast Go.Proofs.YtjailboidlmadaaW.PrintMore
attribute [local go_sem] max2_int min2_int max_two min_two max_three min_three max_four min_four
set_option linter.unusedVariables false
set_option linter.unusedSimpArgs false
variable {W : World} {X : Nat} {D : Nat → Prop} {sl : Value} {rs : List RC}
set_option maxHeartbeats 800000 in
set_option maxRecDepth 100000 in
theorem rget_none (h : RX W X D sl rs) (hl : rs.length ≤ 1000000) (c m : Int) (a0_0 : Int) (a0_1 : ByteArray) (a0_2 : ByteArray) (a0_3 : Int) (a0_4 : Int) (a0_5 : Int) (A0_6 : Option Addr) (c0_6 : Nat) (l0_6 : List Int) (hno : idxOf (fun k => k == (c, m)) (rs.map RC.key) = -1) :
    Calls Try.prog 16 #[.pointer (some ⟨X, 0, none⟩), .int .i64 c, .int .i64 m, .agg #[.int .i64 a0_0, .string a0_1, .string a0_2, .int .i64 a0_3, .int .i64 a0_4, .int .i64 a0_5, .slice A0_6 l0_6.length c0_6]] W fun e w' => e = .returned (.tuple #[.agg #[.int .i64 0, .int .i64 0, .int .i64 0, .int .i64 0, .slice none 0 0, .string ⟨#[]⟩, .bool false, .int .i64 0, .slice none 0 0, .int .i64 0, .int .i64 0], .bool false, .int .i64 0]) ∧ Below W.heap.size W w' := by
  have hu28 := Try.underlying28
  have hu32 := Try.underlying32
  have hu36 := Try.underlying36
  have hu38 := Try.underlying38
  have hu51 := Try.underlying51
  have hu78 := Try.underlying78
  replace hl := Aside0.mk hl
  have hX := Aside0.mk h
  clear h
  go_enter Try.func16, Try.ntmps16
  go_wp2_with (first | ((with_reducible refine gate_dst (N := 7) rfl ?_); refine box_event ?hg7 (N := 7) ?hd7 (cs := #[.int .i64 a0_0, .string a0_1, .string a0_2, .int .i64 a0_3, .int .i64 a0_4, .int .i64 a0_5, .slice A0_6 l0_6.length c0_6]) (t := 28) ?hr7 ?_; (case hd7 => rfl); (case hg7 => rfl); (case hr7 => first | (go_simp; done) | (go_simp; rfl)); intro g7 hg7 w7 hbox7 hb7; have G7 := Aside0.mk hg7; clear hg7) | ((with_reducible refine gate_dst (N := 8) rfl ?_); refine box_event ?hg8 (N := 8) ?hd8 (cs := #[.int .i64 0, .int .i64 0, .int .i64 0, .int .i64 0, .slice none 0 0, .string ⟨#[]⟩, .bool false, .int .i64 0, .slice none 0 0, .int .i64 0, .int .i64 0]) (t := 38) ?hr8 ?_; (case hd8 => rfl); (case hg8 => rfl); (case hr8 => first | (go_simp; done) | (go_simp; rfl)); intro g8 hg8 w8 hbox8 hb8; have G8 := Aside0.mk hg8; clear hg8; have q7 := (hb8.block g7 (blk_lt hbox7)).trans hbox7; have hS := (hX.out.below hb7).below hb8) | (go_at_call 28; refine (at_calls hS hl.out c m).mono ?_; rintro e_ w9 ⟨rfl, rfl⟩) | ((with_reducible refine gate_store (t := 38) (p := 8) rfl ?_); refine wpList_store_all rfl rfl 38 (.tmp 8) _ rfl (g := g8) rfl [.int .i64 0, .int .i64 0, .int .i64 0, .int .i64 0, .slice none 0 0, .string ⟨#[]⟩, .bool false, .int .i64 0, .slice none 0 0, .int .i64 0, .int .i64 0] rfl hbox8 size38 rfl rfl ?_; intro w13 h13 d13; have r0 : w13.cell? ⟨g8, 0, none⟩ = some (.int .i64 0) := (blk_cell h13 0).trans rfl; have r1 : w13.cell? ⟨g8, 1, none⟩ = some (.int .i64 0) := (blk_cell h13 1).trans rfl; have r2 : w13.cell? ⟨g8, 2, none⟩ = some (.int .i64 0) := (blk_cell h13 2).trans rfl; have r3 : w13.cell? ⟨g8, 3, none⟩ = some (.int .i64 0) := (blk_cell h13 3).trans rfl; have r4 : w13.cell? ⟨g8, 4, none⟩ = some (.slice none 0 0) := (blk_cell h13 4).trans rfl; have r5 : w13.cell? ⟨g8, 5, none⟩ = some (.string ⟨#[]⟩) := (blk_cell h13 5).trans rfl; have r6 : w13.cell? ⟨g8, 6, none⟩ = some (.bool false) := (blk_cell h13 6).trans rfl; have r7 : w13.cell? ⟨g8, 7, none⟩ = some (.int .i64 0) := (blk_cell h13 7).trans rfl; have r8 : w13.cell? ⟨g8, 8, none⟩ = some (.slice none 0 0) := (blk_cell h13 8).trans rfl; have r9 : w13.cell? ⟨g8, 9, none⟩ = some (.int .i64 0) := (blk_cell h13 9).trans rfl; have r10 : w13.cell? ⟨g8, 10, none⟩ = some (.int .i64 0) := (blk_cell h13 10).trans rfl))
  (try simp only [Exit.inBlock, Exit.then])
  refine bodyPost_ret (by simp [results, Try.results16, go_sem, r0, r1, r2, r3, r4, r5, r6, r7, r8, r9, r10]; try rfl) rfl ?_
  have s8 : W.heap.size ≤ g8 := Nat.le_trans hb7.size (Nat.le_of_eq G8.out.symm)
  exact ⟨rfl, gr_one (below_step hb7 hb8) d13 s8⟩
set_option maxHeartbeats 800000 in
set_option maxRecDepth 100000 in
theorem rget_odd (h : RX W X D sl rs) (hl : rs.length ≤ 1000000) (c m : Int) (a0_0 : Int) (a0_1 : ByteArray) (a0_2 : ByteArray) (a0_3 : Int) (a0_4 : Int) (a0_5 : Int) (A0_6 : Option Addr) (c0_6 : Nat) (l0_6 : List Int) (kd : Int) (p t : ByteArray) (cl ca n6 : Int) (A6 : Option Addr) (c6 : Nat) (l6 : List Int) (err b0 b1 b2 : Int) (names : List ByteArray) (path : ByteArray) (dir : Bool) (quota : Int) (blocks : List S32) (writer n : Int) (A4 : Option Addr) (c4 : Nat) (A8 : Option Addr) (c8 : Nat) (i : Nat) (hi : idxOf (fun k => k == (c, m)) (rs.map RC.key) = (i : Int)) (hri : rs[i]? = some (⟨kd, p, t, cl, ca, n6, A6, c6, l6, ⟨err, b0, b1, b2, names, path, dir, quota, blocks, writer, n⟩, A4, c4, A8, c8⟩ : RC)) (hb : Nat) (same : Bool) (hsm : tabulariumref10_Same.f hb kd p t cl ca n6 l6 a0_0 a0_1 a0_2 a0_3 a0_4 a0_5 l0_6 = some same) (hr6 : Kd.C (Kd.int .i64) W A6 l6.length l6) (hc6 : l6.length ≤ c6) (hr : Kd.C (Kd.int .i64) W A0_6 l0_6.length l0_6) (hc : l0_6.length ≤ c0_6) (hf : same = false) :
    Calls Try.prog 16 #[.pointer (some ⟨X, 0, none⟩), .int .i64 c, .int .i64 m, .agg #[.int .i64 a0_0, .string a0_1, .string a0_2, .int .i64 a0_3, .int .i64 a0_4, .int .i64 a0_5, .slice A0_6 l0_6.length c0_6]] W fun e w' => e = .returned (.tuple #[.agg #[.int .i64 0, .int .i64 0, .int .i64 0, .int .i64 0, .slice none 0 0, .string ⟨#[]⟩, .bool false, .int .i64 0, .slice none 0 0, .int .i64 0, .int .i64 0], .bool false, .int .i64 14]) ∧ Below W.heap.size W w' := by
  have hu28 := Try.underlying28
  have hu32 := Try.underlying32
  have hu36 := Try.underlying36
  have hu38 := Try.underlying38
  have hu51 := Try.underlying51
  have hu78 := Try.underlying78
  replace hl := Aside0.mk hl
  have hX := Aside0.mk h
  clear h
  subst hf
  obtain ⟨sl_, hsl⟩ : ∃ s_, s_ = sl := ⟨_, rfl⟩
  have hil : i < rs.length := (List.getElem?_eq_some_iff.1 hri).1
  obtain ⟨g, off, cap, cells, rfl, hDg, hCB⟩ : ∃ g off cap cells, sl = .slice (some ⟨g, off, none⟩) rs.length cap ∧ D g ∧ CB W 78 18 g off cap (rs.map RC.cells) cells := by
    rcases hX.out.row with ⟨_, h2⟩ | ⟨g, off, cap, cells, h1, h2, h3⟩
    · rw [List.map_eq_nil_iff] at h2
      rw [h2] at hil
      exact absurd hil (Nat.not_lt_zero _)
    · rw [List.length_map] at h1
      exact ⟨g, off, cap, cells, h1, h2, h3⟩
  clear hsl sl_
  obtain ⟨k, hk⟩ : ∃ k, k = rs.length := ⟨_, rfl⟩
  rw [← hk] at hX
  have hiz : (i : Int) < (k : Int) := by omega
  have hi0 : (0 : Int) ≤ (i : Int) := by omega
  have hin : ¬ ((i : Int) < 0) := by omega
  have hXat := hX.out.at_
  have hgl := hCB.lt
  have v0 := hCB.cell (rmap_at hri) (j := 0) (u := .int .i64 kd) rfl
  have v1 := hCB.cell (rmap_at hri) (j := 1) (u := .string p) rfl
  have v2 := hCB.cell (rmap_at hri) (j := 2) (u := .string t) rfl
  have v3 := hCB.cell (rmap_at hri) (j := 3) (u := .int .i64 cl) rfl
  have v4 := hCB.cell (rmap_at hri) (j := 4) (u := .int .i64 ca) rfl
  have v5 := hCB.cell (rmap_at hri) (j := 5) (u := .int .i64 n6) rfl
  have v6 := hCB.cell (rmap_at hri) (j := 6) (u := .slice A6 l6.length c6) rfl
  have v7 := hCB.cell (rmap_at hri) (j := 7) (u := .int .i64 err) rfl
  have v8 := hCB.cell (rmap_at hri) (j := 8) (u := .int .i64 b0) rfl
  have v9 := hCB.cell (rmap_at hri) (j := 9) (u := .int .i64 b1) rfl
  have v10 := hCB.cell (rmap_at hri) (j := 10) (u := .int .i64 b2) rfl
  have v11 := hCB.cell (rmap_at hri) (j := 11) (u := .slice A4 names.length c4) rfl
  have v12 := hCB.cell (rmap_at hri) (j := 12) (u := .string path) rfl
  have v13 := hCB.cell (rmap_at hri) (j := 13) (u := .bool dir) rfl
  have v14 := hCB.cell (rmap_at hri) (j := 14) (u := .int .i64 quota) rfl
  have v15 := hCB.cell (rmap_at hri) (j := 15) (u := .slice A8 blocks.length c8) rfl
  have v16 := hCB.cell (rmap_at hri) (j := 16) (u := .int .i64 writer) rfl
  have v17 := hCB.cell (rmap_at hri) (j := 17) (u := .int .i64 n) rfl
  replace hi := Aside0.mk hi
  replace hsm := Aside0.mk hsm
  replace hr6 := Aside0.mk hr6
  replace hc6 := Aside0.mk hc6
  replace hr := Aside0.mk hr
  replace hc := Aside0.mk hc
  replace hk := Aside0.mk hk
  clear hri hil hCB
  go_enter Try.func16, Try.ntmps16
  go_upto_region 4 with (first | ((with_reducible refine gate_dst (N := 7) rfl ?_); refine box_event ?hg7 (N := 7) ?hd7 (cs := #[.int .i64 a0_0, .string a0_1, .string a0_2, .int .i64 a0_3, .int .i64 a0_4, .int .i64 a0_5, .slice A0_6 l0_6.length c0_6]) (t := 28) ?hr7 ?_; (case hd7 => rfl); (case hg7 => rfl); (case hr7 => first | (go_simp; done) | (go_simp; rfl)); intro g7 hg7 w7 hbox7 hb7; have G7 := Aside0.mk hg7; clear hg7) | ((with_reducible refine gate_dst (N := 8) rfl ?_); refine box_event ?hg8 (N := 8) ?hd8 (cs := #[.int .i64 0, .int .i64 0, .int .i64 0, .int .i64 0, .slice none 0 0, .string ⟨#[]⟩, .bool false, .int .i64 0, .slice none 0 0, .int .i64 0, .int .i64 0]) (t := 38) ?hr8 ?_; (case hd8 => rfl); (case hg8 => rfl); (case hr8 => first | (go_simp; done) | (go_simp; rfl)); intro g8 hg8 w8 hbox8 hb8; have G8 := Aside0.mk hg8; clear hg8; have q7 := (hb8.block g7 (blk_lt hbox7)).trans hbox7; have hS := (hX.out.below hb7).below hb8) | (go_at_call 28; refine (at_calls hS (hk.out ▸ hl.out) c m).mono ?_; rw [hi.out]; rintro e_ w9 ⟨rfl, hw9⟩; obtain rfl : w8 = w9 := hw9.symm))
  have B8 := below_step hb7 hb8
  have hXl := blk_lt hXat
  have HS4 : Aside0 (∀ W', Below w8.heap.size w8 W' → W'.cell? ⟨X, 0, none⟩ = some (.slice (some ⟨g, off, none⟩) k cap) ∧ W'.cell? ⟨g, off + i * 18, none⟩ = some (.int .i64 kd) ∧ W'.cell? ⟨g, off + i * 18 + 1, none⟩ = some (.string p) ∧ W'.cell? ⟨g, off + i * 18 + 2, none⟩ = some (.string t) ∧ W'.cell? ⟨g, off + i * 18 + 3, none⟩ = some (.int .i64 cl) ∧ W'.cell? ⟨g, off + i * 18 + 4, none⟩ = some (.int .i64 ca) ∧ W'.cell? ⟨g, off + i * 18 + 5, none⟩ = some (.int .i64 n6) ∧ W'.cell? ⟨g, off + i * 18 + 6, none⟩ = some (.slice A6 l6.length c6) ∧ W'.cell? ⟨g7, 0, none⟩ = some (.int .i64 a0_0) ∧ W'.cell? ⟨g7, 1, none⟩ = some (.string a0_1) ∧ W'.cell? ⟨g7, 2, none⟩ = some (.string a0_2) ∧ W'.cell? ⟨g7, 3, none⟩ = some (.int .i64 a0_3) ∧ W'.cell? ⟨g7, 4, none⟩ = some (.int .i64 a0_4) ∧ W'.cell? ⟨g7, 5, none⟩ = some (.int .i64 a0_5) ∧ W'.cell? ⟨g7, 6, none⟩ = some (.slice A0_6 l0_6.length c0_6)) := ⟨fun W' hb => ⟨((below_step B8 hb).cell hXl).trans ((blk_cell hXat 0).trans rfl), ((below_step B8 hb).cell hgl).trans v0, ((below_step B8 hb).cell hgl).trans v1, ((below_step B8 hb).cell hgl).trans v2, ((below_step B8 hb).cell hgl).trans v3, ((below_step B8 hb).cell hgl).trans v4, ((below_step B8 hb).cell hgl).trans v5, ((below_step B8 hb).cell hgl).trans v6, (hb.cell (blk_lt q7)).trans ((blk_cell q7 0).trans rfl), (hb.cell (blk_lt q7)).trans ((blk_cell q7 1).trans rfl), (hb.cell (blk_lt q7)).trans ((blk_cell q7 2).trans rfl), (hb.cell (blk_lt q7)).trans ((blk_cell q7 3).trans rfl), (hb.cell (blk_lt q7)).trans ((blk_cell q7 4).trans rfl), (hb.cell (blk_lt q7)).trans ((blk_cell q7 5).trans rfl), (hb.cell (blk_lt q7)).trans ((blk_cell q7 6).trans rfl)⟩⟩
  go_region_held3 (fun W' => W'.cell? ⟨X, 0, none⟩ = some (.slice (some ⟨g, off, none⟩) k cap) ∧ W'.cell? ⟨g, off + i * 18, none⟩ = some (.int .i64 kd) ∧ W'.cell? ⟨g, off + i * 18 + 1, none⟩ = some (.string p) ∧ W'.cell? ⟨g, off + i * 18 + 2, none⟩ = some (.string t) ∧ W'.cell? ⟨g, off + i * 18 + 3, none⟩ = some (.int .i64 cl) ∧ W'.cell? ⟨g, off + i * 18 + 4, none⟩ = some (.int .i64 ca) ∧ W'.cell? ⟨g, off + i * 18 + 5, none⟩ = some (.int .i64 n6) ∧ W'.cell? ⟨g, off + i * 18 + 6, none⟩ = some (.slice A6 l6.length c6) ∧ W'.cell? ⟨g7, 0, none⟩ = some (.int .i64 a0_0) ∧ W'.cell? ⟨g7, 1, none⟩ = some (.string a0_1) ∧ W'.cell? ⟨g7, 2, none⟩ = some (.string a0_2) ∧ W'.cell? ⟨g7, 3, none⟩ = some (.int .i64 a0_3) ∧ W'.cell? ⟨g7, 4, none⟩ = some (.int .i64 a0_4) ∧ W'.cell? ⟨g7, 5, none⟩ = some (.int .i64 a0_5) ∧ W'.cell? ⟨g7, 6, none⟩ = some (.slice A0_6 l0_6.length c0_6)) (first | exact HS4.out _ (below_drew (Below.refl _ _)) | exact HS4.out _ HB10.out) (first | (go_at_call 29; refine (tabulariumref10_Same.calls hb kd p t cl ca n6 A6 c6 l6 a0_0 a0_1 a0_2 a0_3 a0_4 a0_5 A0_6 c0_6 l0_6 _ _ (Kd.C_below hr6.out (below_step B8 (below_drew (Below.refl _ _)))) hc6.out (Kd.C_below hr.out (below_step B8 (below_drew (Below.refl _ _)))) hc.out hsm.out).mono ?_; rintro e_ w10 ⟨rfl, hb10⟩; have HB10 : Aside0 (Below w8.heap.size w8 w10) := ⟨below_step (below_drew (Below.refl _ _)) hb10⟩; have p8 := (HB10.out.block g8 (blk_lt hbox8)).trans hbox8))
  have B10 := below_step B8 HB10.out
  have z0 := (B10.cell hXl).trans ((blk_cell hXat 0).trans (rfl : _ = some (Value.slice (some ⟨g, off, none⟩) k cap)))
  have z7 := (B10.cell hgl).trans v7
  have z8 := (B10.cell hgl).trans v8
  have z9 := (B10.cell hgl).trans v9
  have z10 := (B10.cell hgl).trans v10
  have z11 := (B10.cell hgl).trans v11
  have z12 := (B10.cell hgl).trans v12
  have z13 := (B10.cell hgl).trans v13
  have z14 := (B10.cell hgl).trans v14
  have z15 := (B10.cell hgl).trans v15
  have z16 := (B10.cell hgl).trans v16
  have z17 := (B10.cell hgl).trans v17
  clear v0 v1 v2 v3 v4 v5 v6 v7 v8 v9 v10 v11 v12 v13 v14 v15 v16 v17
  go_wp2_with (first | ((with_reducible refine gate_store (t := 38) (p := 8) rfl ?_); refine wpList_store_all rfl rfl 38 (.tmp 8) _ rfl (g := g8) rfl [.int .i64 0, .int .i64 0, .int .i64 0, .int .i64 0, .slice none 0 0, .string ⟨#[]⟩, .bool false, .int .i64 0, .slice none 0 0, .int .i64 0, .int .i64 0] rfl p8 size38 rfl rfl ?_; intro w11 h11 d11; have r0 : w11.cell? ⟨g8, 0, none⟩ = some (.int .i64 0) := (blk_cell h11 0).trans rfl; have r1 : w11.cell? ⟨g8, 1, none⟩ = some (.int .i64 0) := (blk_cell h11 1).trans rfl; have r2 : w11.cell? ⟨g8, 2, none⟩ = some (.int .i64 0) := (blk_cell h11 2).trans rfl; have r3 : w11.cell? ⟨g8, 3, none⟩ = some (.int .i64 0) := (blk_cell h11 3).trans rfl; have r4 : w11.cell? ⟨g8, 4, none⟩ = some (.slice none 0 0) := (blk_cell h11 4).trans rfl; have r5 : w11.cell? ⟨g8, 5, none⟩ = some (.string ⟨#[]⟩) := (blk_cell h11 5).trans rfl; have r6 : w11.cell? ⟨g8, 6, none⟩ = some (.bool false) := (blk_cell h11 6).trans rfl; have r7 : w11.cell? ⟨g8, 7, none⟩ = some (.int .i64 0) := (blk_cell h11 7).trans rfl; have r8 : w11.cell? ⟨g8, 8, none⟩ = some (.slice none 0 0) := (blk_cell h11 8).trans rfl; have r9 : w11.cell? ⟨g8, 9, none⟩ = some (.int .i64 0) := (blk_cell h11 9).trans rfl; have r10 : w11.cell? ⟨g8, 10, none⟩ = some (.int .i64 0) := (blk_cell h11 10).trans rfl))
  (try simp only [Exit.inBlock, Exit.then])
  refine bodyPost_ret (by simp [results, Try.results16, go_sem, r0, r1, r2, r3, r4, r5, r6, r7, r8, r9, r10]; try rfl) rfl ?_
  have s8 : W.heap.size ≤ g8 := Nat.le_trans hb7.size (Nat.le_of_eq G8.out.symm)
  exact ⟨rfl, gr_one B10 d11 s8⟩
set_option maxHeartbeats 800000 in
set_option maxRecDepth 100000 in
theorem rget_hit (h : RX W X D sl rs) (hl : rs.length ≤ 1000000) (c m : Int) (a0_0 : Int) (a0_1 : ByteArray) (a0_2 : ByteArray) (a0_3 : Int) (a0_4 : Int) (a0_5 : Int) (A0_6 : Option Addr) (c0_6 : Nat) (l0_6 : List Int) (kd : Int) (p t : ByteArray) (cl ca n6 : Int) (A6 : Option Addr) (c6 : Nat) (l6 : List Int) (err b0 b1 b2 : Int) (names : List ByteArray) (path : ByteArray) (dir : Bool) (quota : Int) (blocks : List S32) (writer n : Int) (A4 : Option Addr) (c4 : Nat) (A8 : Option Addr) (c8 : Nat) (i : Nat) (hi : idxOf (fun k => k == (c, m)) (rs.map RC.key) = (i : Int)) (hri : rs[i]? = some (⟨kd, p, t, cl, ca, n6, A6, c6, l6, ⟨err, b0, b1, b2, names, path, dir, quota, blocks, writer, n⟩, A4, c4, A8, c8⟩ : RC)) (hb : Nat) (same : Bool) (hsm : tabulariumref10_Same.f hb kd p t cl ca n6 l6 a0_0 a0_1 a0_2 a0_3 a0_4 a0_5 l0_6 = some same) (hr6 : Kd.C (Kd.int .i64) W A6 l6.length l6) (hc6 : l6.length ≤ c6) (hr : Kd.C (Kd.int .i64) W A0_6 l0_6.length l0_6) (hc : l0_6.length ≤ c0_6) (hf : same = true) :
    Calls Try.prog 16 #[.pointer (some ⟨X, 0, none⟩), .int .i64 c, .int .i64 m, .agg #[.int .i64 a0_0, .string a0_1, .string a0_2, .int .i64 a0_3, .int .i64 a0_4, .int .i64 a0_5, .slice A0_6 l0_6.length c0_6]] W fun e w' => e = .returned (.tuple #[.agg #[.int .i64 err, .int .i64 b0, .int .i64 b1, .int .i64 b2, .slice A4 names.length c4, .string path, .bool dir, .int .i64 quota, .slice A8 blocks.length c8, .int .i64 writer, .int .i64 n], .bool true, .int .i64 0]) ∧ Below W.heap.size W w' := by
  have hu28 := Try.underlying28
  have hu32 := Try.underlying32
  have hu36 := Try.underlying36
  have hu38 := Try.underlying38
  have hu51 := Try.underlying51
  have hu78 := Try.underlying78
  replace hl := Aside0.mk hl
  have hX := Aside0.mk h
  clear h
  subst hf
  obtain ⟨sl_, hsl⟩ : ∃ s_, s_ = sl := ⟨_, rfl⟩
  have hil : i < rs.length := (List.getElem?_eq_some_iff.1 hri).1
  obtain ⟨g, off, cap, cells, rfl, hDg, hCB⟩ : ∃ g off cap cells, sl = .slice (some ⟨g, off, none⟩) rs.length cap ∧ D g ∧ CB W 78 18 g off cap (rs.map RC.cells) cells := by
    rcases hX.out.row with ⟨_, h2⟩ | ⟨g, off, cap, cells, h1, h2, h3⟩
    · rw [List.map_eq_nil_iff] at h2
      rw [h2] at hil
      exact absurd hil (Nat.not_lt_zero _)
    · rw [List.length_map] at h1
      exact ⟨g, off, cap, cells, h1, h2, h3⟩
  clear hsl sl_
  obtain ⟨k, hk⟩ : ∃ k, k = rs.length := ⟨_, rfl⟩
  rw [← hk] at hX
  have hiz : (i : Int) < (k : Int) := by omega
  have hi0 : (0 : Int) ≤ (i : Int) := by omega
  have hin : ¬ ((i : Int) < 0) := by omega
  have hXat := hX.out.at_
  have hgl := hCB.lt
  have v0 := hCB.cell (rmap_at hri) (j := 0) (u := .int .i64 kd) rfl
  have v1 := hCB.cell (rmap_at hri) (j := 1) (u := .string p) rfl
  have v2 := hCB.cell (rmap_at hri) (j := 2) (u := .string t) rfl
  have v3 := hCB.cell (rmap_at hri) (j := 3) (u := .int .i64 cl) rfl
  have v4 := hCB.cell (rmap_at hri) (j := 4) (u := .int .i64 ca) rfl
  have v5 := hCB.cell (rmap_at hri) (j := 5) (u := .int .i64 n6) rfl
  have v6 := hCB.cell (rmap_at hri) (j := 6) (u := .slice A6 l6.length c6) rfl
  have v7 := hCB.cell (rmap_at hri) (j := 7) (u := .int .i64 err) rfl
  have v8 := hCB.cell (rmap_at hri) (j := 8) (u := .int .i64 b0) rfl
  have v9 := hCB.cell (rmap_at hri) (j := 9) (u := .int .i64 b1) rfl
  have v10 := hCB.cell (rmap_at hri) (j := 10) (u := .int .i64 b2) rfl
  have v11 := hCB.cell (rmap_at hri) (j := 11) (u := .slice A4 names.length c4) rfl
  have v12 := hCB.cell (rmap_at hri) (j := 12) (u := .string path) rfl
  have v13 := hCB.cell (rmap_at hri) (j := 13) (u := .bool dir) rfl
  have v14 := hCB.cell (rmap_at hri) (j := 14) (u := .int .i64 quota) rfl
  have v15 := hCB.cell (rmap_at hri) (j := 15) (u := .slice A8 blocks.length c8) rfl
  have v16 := hCB.cell (rmap_at hri) (j := 16) (u := .int .i64 writer) rfl
  have v17 := hCB.cell (rmap_at hri) (j := 17) (u := .int .i64 n) rfl
  replace hi := Aside0.mk hi
  replace hsm := Aside0.mk hsm
  replace hr6 := Aside0.mk hr6
  replace hc6 := Aside0.mk hc6
  replace hr := Aside0.mk hr
  replace hc := Aside0.mk hc
  replace hk := Aside0.mk hk
  clear hri hil hCB
  go_enter Try.func16, Try.ntmps16
  go_upto_region 4 with (first | ((with_reducible refine gate_dst (N := 7) rfl ?_); refine box_event ?hg7 (N := 7) ?hd7 (cs := #[.int .i64 a0_0, .string a0_1, .string a0_2, .int .i64 a0_3, .int .i64 a0_4, .int .i64 a0_5, .slice A0_6 l0_6.length c0_6]) (t := 28) ?hr7 ?_; (case hd7 => rfl); (case hg7 => rfl); (case hr7 => first | (go_simp; done) | (go_simp; rfl)); intro g7 hg7 w7 hbox7 hb7; have G7 := Aside0.mk hg7; clear hg7) | ((with_reducible refine gate_dst (N := 8) rfl ?_); refine box_event ?hg8 (N := 8) ?hd8 (cs := #[.int .i64 0, .int .i64 0, .int .i64 0, .int .i64 0, .slice none 0 0, .string ⟨#[]⟩, .bool false, .int .i64 0, .slice none 0 0, .int .i64 0, .int .i64 0]) (t := 38) ?hr8 ?_; (case hd8 => rfl); (case hg8 => rfl); (case hr8 => first | (go_simp; done) | (go_simp; rfl)); intro g8 hg8 w8 hbox8 hb8; have G8 := Aside0.mk hg8; clear hg8; have q7 := (hb8.block g7 (blk_lt hbox7)).trans hbox7; have hS := (hX.out.below hb7).below hb8) | (go_at_call 28; refine (at_calls hS (hk.out ▸ hl.out) c m).mono ?_; rw [hi.out]; rintro e_ w9 ⟨rfl, hw9⟩; obtain rfl : w8 = w9 := hw9.symm))
  have B8 := below_step hb7 hb8
  have hXl := blk_lt hXat
  have HS4 : Aside0 (∀ W', Below w8.heap.size w8 W' → W'.cell? ⟨X, 0, none⟩ = some (.slice (some ⟨g, off, none⟩) k cap) ∧ W'.cell? ⟨g, off + i * 18, none⟩ = some (.int .i64 kd) ∧ W'.cell? ⟨g, off + i * 18 + 1, none⟩ = some (.string p) ∧ W'.cell? ⟨g, off + i * 18 + 2, none⟩ = some (.string t) ∧ W'.cell? ⟨g, off + i * 18 + 3, none⟩ = some (.int .i64 cl) ∧ W'.cell? ⟨g, off + i * 18 + 4, none⟩ = some (.int .i64 ca) ∧ W'.cell? ⟨g, off + i * 18 + 5, none⟩ = some (.int .i64 n6) ∧ W'.cell? ⟨g, off + i * 18 + 6, none⟩ = some (.slice A6 l6.length c6) ∧ W'.cell? ⟨g7, 0, none⟩ = some (.int .i64 a0_0) ∧ W'.cell? ⟨g7, 1, none⟩ = some (.string a0_1) ∧ W'.cell? ⟨g7, 2, none⟩ = some (.string a0_2) ∧ W'.cell? ⟨g7, 3, none⟩ = some (.int .i64 a0_3) ∧ W'.cell? ⟨g7, 4, none⟩ = some (.int .i64 a0_4) ∧ W'.cell? ⟨g7, 5, none⟩ = some (.int .i64 a0_5) ∧ W'.cell? ⟨g7, 6, none⟩ = some (.slice A0_6 l0_6.length c0_6)) := ⟨fun W' hb => ⟨((below_step B8 hb).cell hXl).trans ((blk_cell hXat 0).trans rfl), ((below_step B8 hb).cell hgl).trans v0, ((below_step B8 hb).cell hgl).trans v1, ((below_step B8 hb).cell hgl).trans v2, ((below_step B8 hb).cell hgl).trans v3, ((below_step B8 hb).cell hgl).trans v4, ((below_step B8 hb).cell hgl).trans v5, ((below_step B8 hb).cell hgl).trans v6, (hb.cell (blk_lt q7)).trans ((blk_cell q7 0).trans rfl), (hb.cell (blk_lt q7)).trans ((blk_cell q7 1).trans rfl), (hb.cell (blk_lt q7)).trans ((blk_cell q7 2).trans rfl), (hb.cell (blk_lt q7)).trans ((blk_cell q7 3).trans rfl), (hb.cell (blk_lt q7)).trans ((blk_cell q7 4).trans rfl), (hb.cell (blk_lt q7)).trans ((blk_cell q7 5).trans rfl), (hb.cell (blk_lt q7)).trans ((blk_cell q7 6).trans rfl)⟩⟩
  go_region_held3 (fun W' => W'.cell? ⟨X, 0, none⟩ = some (.slice (some ⟨g, off, none⟩) k cap) ∧ W'.cell? ⟨g, off + i * 18, none⟩ = some (.int .i64 kd) ∧ W'.cell? ⟨g, off + i * 18 + 1, none⟩ = some (.string p) ∧ W'.cell? ⟨g, off + i * 18 + 2, none⟩ = some (.string t) ∧ W'.cell? ⟨g, off + i * 18 + 3, none⟩ = some (.int .i64 cl) ∧ W'.cell? ⟨g, off + i * 18 + 4, none⟩ = some (.int .i64 ca) ∧ W'.cell? ⟨g, off + i * 18 + 5, none⟩ = some (.int .i64 n6) ∧ W'.cell? ⟨g, off + i * 18 + 6, none⟩ = some (.slice A6 l6.length c6) ∧ W'.cell? ⟨g7, 0, none⟩ = some (.int .i64 a0_0) ∧ W'.cell? ⟨g7, 1, none⟩ = some (.string a0_1) ∧ W'.cell? ⟨g7, 2, none⟩ = some (.string a0_2) ∧ W'.cell? ⟨g7, 3, none⟩ = some (.int .i64 a0_3) ∧ W'.cell? ⟨g7, 4, none⟩ = some (.int .i64 a0_4) ∧ W'.cell? ⟨g7, 5, none⟩ = some (.int .i64 a0_5) ∧ W'.cell? ⟨g7, 6, none⟩ = some (.slice A0_6 l0_6.length c0_6)) (first | exact HS4.out _ (below_drew (Below.refl _ _)) | exact HS4.out _ HB10.out) (first | (go_at_call 29; refine (tabulariumref10_Same.calls hb kd p t cl ca n6 A6 c6 l6 a0_0 a0_1 a0_2 a0_3 a0_4 a0_5 A0_6 c0_6 l0_6 _ _ (Kd.C_below hr6.out (below_step B8 (below_drew (Below.refl _ _)))) hc6.out (Kd.C_below hr.out (below_step B8 (below_drew (Below.refl _ _)))) hc.out hsm.out).mono ?_; rintro e_ w10 ⟨rfl, hb10⟩; have HB10 : Aside0 (Below w8.heap.size w8 w10) := ⟨below_step (below_drew (Below.refl _ _)) hb10⟩; have p8 := (HB10.out.block g8 (blk_lt hbox8)).trans hbox8))
  have B10 := below_step B8 HB10.out
  have z0 := (B10.cell hXl).trans ((blk_cell hXat 0).trans (rfl : _ = some (Value.slice (some ⟨g, off, none⟩) k cap)))
  have z7 := (B10.cell hgl).trans v7
  have z8 := (B10.cell hgl).trans v8
  have z9 := (B10.cell hgl).trans v9
  have z10 := (B10.cell hgl).trans v10
  have z11 := (B10.cell hgl).trans v11
  have z12 := (B10.cell hgl).trans v12
  have z13 := (B10.cell hgl).trans v13
  have z14 := (B10.cell hgl).trans v14
  have z15 := (B10.cell hgl).trans v15
  have z16 := (B10.cell hgl).trans v16
  have z17 := (B10.cell hgl).trans v17
  clear v0 v1 v2 v3 v4 v5 v6 v7 v8 v9 v10 v11 v12 v13 v14 v15 v16 v17
  go_wp2_with (first | ((with_reducible refine gate_store (t := 38) (p := 8) rfl ?_); refine wpList_store_all rfl rfl 38 (.tmp 8) _ rfl (g := g8) rfl [.int .i64 err, .int .i64 b0, .int .i64 b1, .int .i64 b2, .slice A4 names.length c4, .string path, .bool dir, .int .i64 quota, .slice A8 blocks.length c8, .int .i64 writer, .int .i64 n] rfl p8 size38 rfl rfl ?_; intro w11 h11 d11; have r0 : w11.cell? ⟨g8, 0, none⟩ = some (.int .i64 err) := (blk_cell h11 0).trans rfl; have r1 : w11.cell? ⟨g8, 1, none⟩ = some (.int .i64 b0) := (blk_cell h11 1).trans rfl; have r2 : w11.cell? ⟨g8, 2, none⟩ = some (.int .i64 b1) := (blk_cell h11 2).trans rfl; have r3 : w11.cell? ⟨g8, 3, none⟩ = some (.int .i64 b2) := (blk_cell h11 3).trans rfl; have r4 : w11.cell? ⟨g8, 4, none⟩ = some (.slice A4 names.length c4) := (blk_cell h11 4).trans rfl; have r5 : w11.cell? ⟨g8, 5, none⟩ = some (.string path) := (blk_cell h11 5).trans rfl; have r6 : w11.cell? ⟨g8, 6, none⟩ = some (.bool dir) := (blk_cell h11 6).trans rfl; have r7 : w11.cell? ⟨g8, 7, none⟩ = some (.int .i64 quota) := (blk_cell h11 7).trans rfl; have r8 : w11.cell? ⟨g8, 8, none⟩ = some (.slice A8 blocks.length c8) := (blk_cell h11 8).trans rfl; have r9 : w11.cell? ⟨g8, 9, none⟩ = some (.int .i64 writer) := (blk_cell h11 9).trans rfl; have r10 : w11.cell? ⟨g8, 10, none⟩ = some (.int .i64 n) := (blk_cell h11 10).trans rfl))
  (try simp only [Exit.inBlock, Exit.then])
  refine bodyPost_ret (by simp [results, Try.results16, go_sem, r0, r1, r2, r3, r4, r5, r6, r7, r8, r9, r10]; try rfl) rfl ?_
  have s8 : W.heap.size ≤ g8 := Nat.le_trans hb7.size (Nat.le_of_eq G8.out.symm)
  exact ⟨rfl, gr_one B10 d11 s8⟩
end Go.Proofs.Ytjailboidlmadaa.P
end

section

namespace Go.Proofs.Ytjailboidlmadaa.P
open Go.RowKit Go.Maps Go.WideMaps Go.Proofs.YtjailboidlmadaaW.PrintWords Go.Proofs.YtjailboidlmadaaW.PrintLast Go.Proofs.YtjailboidlmadaaW.PrintMore
attribute [local go_sem] max2_int min2_int max_two min_two max_three min_three max_four min_four
set_option linter.unusedVariables false
set_option linter.unusedSimpArgs false
variable {W : World} {X : Nat} {D : Nat → Prop} {sl : Value} {rs : List RC}
theorem agg78 (w : World) : (isAgg 78).run Try.prog w = .ok true w := by kernel_rfl
theorem size78 : (Try.prog.info? 78).map (·.size) = some 18 := by kernel_rfl
theorem info78 : (Try.prog.info? 78).map (fun i => (i.zero, i.size, i.bytes)) = some (some (.agg #[.int .i64 0, .string ⟨#[]⟩, .string ⟨#[]⟩, .int .i64 0, .int .i64 0, .int .i64 0, .slice none 0 0, .int .i64 0, .int .i64 0, .int .i64 0, .int .i64 0, .slice none 0 0, .string ⟨#[]⟩, .bool false, .int .i64 0, .slice none 0 0, .int .i64 0, .int .i64 0]), 18, 216) := by kernel_rfl
section
variable {ops : Array Oper} {rest : List Oper} {o : Oper} {a : Act} {Q : Exit → Act → World → Prop} {W : World}
theorem wpList_load_row {P : Program} {ops : Array Oper} {rest : List Oper} {o : Oper} {a : Act} {Q : Exit → Act → World → Prop} {W : World} (hgd : o.guard = none) (t : TypeId) (p : Operand) (ho : o.op = .load t p) {g off : Nat} (haddr : a.eval p = .pointer (some ⟨g, off, none⟩)) (vs : List Value) (hc : ∀ j v, vs[j]? = some v → W.cell? ⟨g, off + j, none⟩ = some v) (ha : ∀ w, (isAgg t).run P w = .ok true w)
    (ht : (P.info? t).map (·.size) = some vs.length) (h : wpList P ops Q rest (a.put o.dst (.agg vs.toArray)) W) : wpList P ops Q (o :: rest) a W := by
  refine wpList_plain hgd fun K hK => ?_
  obtain ⟨i, hi, hsz⟩ := Option.map_eq_some_iff.1 ht
  have h1 := run_loadCells_list (P := P) (w := W) ⟨g, off, none⟩ vs (fun j v hv => by rw [Addr.add_lit]; exact hc j v hv)
  have hrun : (Instr.loadAt t (.pointer (some ⟨g, off, none⟩))).run P W = .ok (.agg vs.toArray) W := by
    simp [Instr.loadAt, Instr.sureAddr, loadVar, sizeOf, typeInfo, hi, hsz, ha, h1]
  unfold Oper.wp execOp
  simp only [ho, haddr, Sem.run_bind, Sem.run_pure, Result.andThen_ok, hrun]
  exact hK _ _ h
/-- one call more -/
theorem run_cr_one {v : Value} {D : Nat → Prop} {xs : List (List Value)} (h : CR W D 78 18 v xs) {q : Nat} (y : List Value) (hyl : y.length = 18) (hyo : ∀ u ∈ y, u.oneCell' = true) (hq : ∀ j u, y[j]? = some u → W.cell? ⟨q, j, none⟩ = some u) (hl : xs.length ≤ 1000000) (op : TypeId) :
    ∃ A cap W', (Builtin.append_ #[49, 49] op #[v, .slice (some ⟨q, 0, none⟩) 1 1]).run Try.prog W = .ok (.slice A (xs.length + 1) cap) W' ∧ CR W' (fun i => D i ∨ i = W.heap.size) 78 18 (.slice A (xs.length + 1) cap) (xs ++ [y]) ∧ W.grownBy W' v.ownBlock := by
  have hs : Src Try.prog 18 49 (.slice (some ⟨q, 0, none⟩) 1 1) 1 [y].flatten W := by
    refine Src.ofSlice W Try.underlying49 ⟨q, 0, none⟩ 1 1 [y].flatten (by simp [hyl]) (fun j u hu => ?_) (fun u hu => hyo u (by simpa using hu))
    rw [Addr.add_lit, Nat.zero_add]
    exact hq j u (by simpa using hu)
  obtain ⟨v', W', hrun, hcr, hg⟩ := run_cr_append (ys := [y]) (bytes := 216) Try.underlying49 info78 rfl h (fun z hz => by rw [List.mem_singleton.1 hz]; exact hyl) (fun z hz => by rw [List.mem_singleton.1 hz]; exact hyo) _ hs (by simp; omega) (by simp; omega) op
  obtain ⟨A, cap, rfl⟩ := hcr.shape
  rw [List.length_append] at hrun hcr
  exact ⟨A, cap, W', hrun, hcr, hg⟩
theorem wpList_cr_one {v : Value} {D : Nat → Prop} {xs : List (List Value)} (hgd : o.guard = none) (s x : Operand) (ho : o.op = .call { callee := .builtin .append, args := #[s, x], argTypes := #[49, 49] }) (hs : a.eval s = v) (h : CR W D 78 18 v xs) {q : Nat} (hx : a.eval x = .slice (some ⟨q, 0, none⟩) 1 1)
    (y : List Value) (hyl : y.length = 18) (hyo : ∀ u ∈ y, u.oneCell' = true) (hq : ∀ j u, y[j]? = some u → W.cell? ⟨q, j, none⟩ = some u) (hl : xs.length ≤ 1000000)
    (hK : ∀ A cap W', CR W' (fun i => D i ∨ i = W.heap.size) 78 18 (.slice A (xs.length + 1) cap) (xs ++ [y]) → W.grownBy W' v.ownBlock → wpList Try.prog ops Q rest (a.put o.dst (.slice A (xs.length + 1) cap)) W') : wpList Try.prog ops Q (o :: rest) a W := by
  refine wpList_plain hgd fun K hK' => ?_
  obtain ⟨A, cap, W', hrun, hcr, hg⟩ := run_cr_one h y hyl hyo hq hl o.type
  unfold Oper.wp
  simp [execOp, ho, resolve, invoke, builtin, hs, hx, hrun, Result.andThen]
  exact hK' _ _ (hK A cap W' hcr hg)
end
/-- what stays -/
def keepR (cl b : Int) (rs : List RC) : List RC := rs.filter fun r => !oldK cl b r.key
theorem keepR_step {cl b : Int} {rs : List RC} {j : Nat} {r : RC} (h : rs[j]? = some r) : keepR cl b (rs.take (j + 1)) = keepR cl b (rs.take j) ++ (if oldK cl b r.key = true then [] else [r]) := by
  have hlt : j < rs.length := (List.getElem?_eq_some_iff.1 h).1
  have he := (List.getElem?_eq_some_iff.1 h).2
  unfold keepR
  rw [List.take_succ_eq_append_getElem hlt, List.filter_append, he]
  congr 1
  cases hv : oldK cl b r.key <;> simp [hv]
set_option maxHeartbeats 800000 in
set_option maxRecDepth 100000 in
theorem rforget_calls (h : RX W X D sl rs) (hl : rs.length ≤ 1000000) (c b : Int) :
    Calls Try.prog 18 #[.pointer (some ⟨X, 0, none⟩), .int .i64 c, .int .i64 b] W fun e w' => e = .returned (.tuple #[]) ∧ (∃ sl', RX w' X (fun i => D i ∨ W.heap.size ≤ i) sl' (keepR c b rs)) ∧ Gr D W w' := by
  have hu28 := Try.underlying28
  have hu32 := Try.underlying32
  have hu36 := Try.underlying36
  have hu38 := Try.underlying38
  have hu51 := Try.underlying51
  have hu78 := Try.underlying78
  obtain ⟨A0, m, cap, rfl, hm⟩ : ∃ A m cap, sl = .slice A m cap ∧ m = rs.length := by obtain ⟨A1, c_, e_⟩ := h.row.shape; exact ⟨A1, _, c_, e_, List.length_map _⟩
  have hX := Aside0.mk h
  have HM := Aside0.mk hm
  have HL : Aside0 (m ≤ 1000000) := ⟨by omega⟩
  clear h hm hl
  go_enter Try.func18, Try.ntmps18
  go_wp2
  go_loopg [6, 7] m (fun gq v6 v7 wr => ∃ j : Nat, v7 = .int .i64 j ∧ Aside0 (gq + j = m) ∧ (∃ A k cap, v6 = .slice A k cap) ∧ Aside0 (CR wr (fun i => W.heap.size ≤ i) 78 18 v6 ((keepR c b (rs.take j)).map RC.cells)) ∧ Aside0 (Below W.heap.size W wr))
  case atStart => exact ⟨0, rfl, ⟨rfl⟩, ⟨_, _, _, rfl⟩, ⟨.inl ⟨rfl, rfl⟩⟩, ⟨Below.refl _ _⟩⟩
  case round =>
    obtain ⟨j, rfl, HG, ⟨A1, k1, cap1, rfl⟩, HL6, HB⟩ := hrel
    have hXw := hX.out.below HB.out
    have x0 : wr.cell? ⟨X, 0, none⟩ = some (.slice A0 m cap) := (blk_cell hXw.at_ 0).trans rfl
    by_cases hlt : j < m
    · have hltz : (j : Int) < (m : Int) := by omega
      have hj0 : (0 : Int) ≤ (j : Int) := by omega
      have hltE : j < rs.length := by have := HM.out; omega
      obtain ⟨r, hr⟩ : ∃ r, rs[j]? = some r := ⟨_, List.getElem?_eq_getElem hltE⟩
      obtain ⟨g, off, cells, rfl, hDg, hCB⟩ : ∃ g off cells, A0 = some ⟨g, off, none⟩ ∧ D g ∧ CB wr 78 18 g off cap (rs.map RC.cells) cells := by
        rcases hXw.row with ⟨h1, _⟩ | ⟨g, off, cap', cells, h1, h2, h3⟩
        · injection h1 with _ h1 _
          omega
        · injection h1 with h1 h4 h5
          subst h5
          exact ⟨g, off, cells, h1, h2, h3⟩
      have hst := keepR_step (cl := c) (b := b) hr
      obtain ⟨kd, p, t, cl, ca, n6, A6, c6, l6, ⟨err, b0, b1, b2, names, path, dir, quota, blocks, writer, n⟩, A4, c4, A8, c8⟩ := r
      have x3 := hCB.cell (rmap_at hr) (j := 3) (u := .int .i64 cl) rfl
      have x4 := hCB.cell (rmap_at hr) (j := 4) (u := .int .i64 ca) rfl
      have HCELL : Aside0 (∀ i u, ([.int .i64 kd, .string p, .string t, .int .i64 cl, .int .i64 ca, .int .i64 n6, .slice A6 l6.length c6, .int .i64 err, .int .i64 b0, .int .i64 b1, .int .i64 b2, .slice A4 names.length c4, .string path, .bool dir, .int .i64 quota, .slice A8 blocks.length c8, .int .i64 writer, .int .i64 n] : List Value)[i]? = some u → wr.cell? ⟨g, off + j * 18 + i, none⟩ = some u) := ⟨fun i u hu => hCB.cell (rmap_at hr) (j := i) hu⟩
      have HQ : Aside0 (∀ i u, ([.int .i64 kd, .string p, .string t, .int .i64 cl, .int .i64 ca, .int .i64 n6, .slice A6 l6.length c6, .int .i64 err, .int .i64 b0, .int .i64 b1, .int .i64 b2, .slice A4 names.length c4, .string path, .bool dir, .int .i64 quota, .slice A8 blocks.length c8, .int .i64 writer, .int .i64 n] : List Value)[i]? = some u → (wr.alloc (.cells #[.int .i64 kd, .string p, .string t, .int .i64 cl, .int .i64 ca, .int .i64 n6, .slice A6 l6.length c6, .int .i64 err, .int .i64 b0, .int .i64 b1, .int .i64 b2, .slice A4 names.length c4, .string path, .bool dir, .int .i64 quota, .slice A8 blocks.length c8, .int .i64 writer, .int .i64 n] 78)).cell? ⟨wr.heap.size, i, none⟩ = some u) := ⟨fun i u hu => (World.cell?_alloc_new wr _ _ i).trans (by rw [← List.getElem?_toArray] at hu; exact hu)⟩
      have HONE : Aside0 (∀ u ∈ ([.int .i64 kd, .string p, .string t, .int .i64 cl, .int .i64 ca, .int .i64 n6, .slice A6 l6.length c6, .int .i64 err, .int .i64 b0, .int .i64 b1, .int .i64 b2, .slice A4 names.length c4, .string path, .bool dir, .int .i64 quota, .slice A8 blocks.length c8, .int .i64 writer, .int .i64 n] : List Value), u.oneCell' = true) := ⟨RC.one ⟨kd, p, t, cl, ca, n6, A6, c6, l6, ⟨err, b0, b1, b2, names, path, dir, quota, blocks, writer, n⟩, A4, c4, A8, c8⟩⟩
      have hlk : ((keepR c b (rs.take j)).map RC.cells).length ≤ 1000000 := by
        rw [List.length_map]
        have h1 := List.length_filter_le (fun r : RC => !oldK c b r.key) (rs.take j)
        rw [List.length_take] at h1
        have h2 := HL.out
        have h3 : (keepR c b (rs.take j)).length = (List.filter (fun r : RC => !oldK c b r.key) (rs.take j)).length := rfl
        omega
      have HST := Aside0.mk hst
      have hDec : oldK c b (cl, ca) = ((cl == c) && decide (ca < b)) := rfl
      have HDEC := Aside0.mk hDec
      have FIN : Aside0 (∀ (w9 : World) (A9 : Option Addr) (cap9 : Nat), CR w9 (fun i => W.heap.size ≤ i ∨ i = (wr.alloc (.cells #[.int .i64 kd, .string p, .string t, .int .i64 cl, .int .i64 ca, .int .i64 n6, .slice A6 l6.length c6, .int .i64 err, .int .i64 b0, .int .i64 b1, .int .i64 b2, .slice A4 names.length c4, .string path, .bool dir, .int .i64 quota, .slice A8 blocks.length c8, .int .i64 writer, .int .i64 n] 78)).heap.size) 78 18 (.slice A9 (((keepR c b (rs.take j)).map RC.cells).length + 1) cap9) ((keepR c b (rs.take j)).map RC.cells ++ [[.int .i64 kd, .string p, .string t, .int .i64 cl, .int .i64 ca, .int .i64 n6, .slice A6 l6.length c6, .int .i64 err, .int .i64 b0, .int .i64 b1, .int .i64 b2, .slice A4 names.length c4, .string path, .bool dir, .int .i64 quota, .slice A8 blocks.length c8, .int .i64 writer, .int .i64 n]]) → (wr.alloc (.cells #[.int .i64 kd, .string p, .string t, .int .i64 cl, .int .i64 ca, .int .i64 n6, .slice A6 l6.length c6, .int .i64 err, .int .i64 b0, .int .i64 b1, .int .i64 b2, .slice A4 names.length c4, .string path, .bool dir, .int .i64 quota, .slice A8 blocks.length c8, .int .i64 writer, .int .i64 n] 78)).grownBy w9 (Value.slice A1 k1 cap1).ownBlock → oldK c b (cl, ca) = false →
          CR w9 (fun i => W.heap.size ≤ i) 78 18 (.slice A9 (((keepR c b (rs.take j)).map RC.cells).length + 1) cap9) ((keepR c b (rs.take (j + 1))).map RC.cells) ∧ Below W.heap.size W w9) := ⟨fun w9 A9 cap9 hcr hg hold => by
        refine ⟨?_, ?_⟩
        · have := hcr.step (D' := fun i => W.heap.size ≤ i) (fun i hi => hi.elim id (fun e => by rw [e, World.size_alloc]; exact Nat.le_succ_of_le HB.out.size)) (fun _ _ _ _ => rfl)
          rw [HST.out, show (oldK c b (RC.key ⟨kd, p, t, cl, ca, n6, A6, c6, l6, ⟨err, b0, b1, b2, names, path, dir, quota, blocks, writer, n⟩, A4, c4, A8, c8⟩)) = false from hold, if_neg (by decide), List.map_append]
          exact this
        · exact (((Gr.of_below (S := fun i => W.heap.size ≤ i) HB.out).alloc _).then_ (Gr.of_grown hg) (fun i hi => .inl (HL6.out.own_typed hi).1)).below (Nat.le_refl _) (fun i hi => hi)⟩
      clear hst hDec hCB hXw hr
      cases h1 : (cl == c) with
      | false =>
        have h1n : (cl != c) = true := by simp only [bne, h1]; rfl
        go_wp2_with (first | ((with_reducible refine gate_ (.load 78 (.tmp 47)) rfl ?_); refine wpList_load_row rfl 78 (.tmp 47) rfl (g := g) (off := off + j * 18) rfl [.int .i64 kd, .string p, .string t, .int .i64 cl, .int .i64 ca, .int .i64 n6, .slice A6 l6.length c6, .int .i64 err, .int .i64 b0, .int .i64 b1, .int .i64 b2, .slice A4 names.length c4, .string path, .bool dir, .int .i64 quota, .slice A8 blocks.length c8, .int .i64 writer, .int .i64 n] HCELL.out agg78 size78 ?_) | ((with_reducible refine gate_builtin (b := .append) (xs := #[.tmp 41, .tmp 49]) rfl ?_); at_builtin; refine wpList_cr_one rfl (.tmp 41) (.tmp 49) rfl rfl (HL6.out.step (fun _ h => h) (fun i c _ hc => Below.heap_alloc wr _ i (blk_lt hc))) rfl [.int .i64 kd, .string p, .string t, .int .i64 cl, .int .i64 ca, .int .i64 n6, .slice A6 l6.length c6, .int .i64 err, .int .i64 b0, .int .i64 b1, .int .i64 b2, .slice A4 names.length c4, .string path, .bool dir, .int .i64 quota, .slice A8 blocks.length c8, .int .i64 writer, .int .i64 n] rfl HONE.out HQ.out hlk ?_; intro A9 cap9 w9 hcr9 hg9))
        obtain ⟨f1, f2⟩ := FIN.out w9 A9 cap9 hcr9 hg9 (by rw [HDEC.out, h1]; rfl)
        rw [List.length_map] at f1
        go_roundg (gk - 1)
        case measure => have := HG.out; omega
        case rel => exact ⟨j + 1, by first | rfl | exact next_int hlt (Nat.le_trans HL.out (by decide)), ⟨by have := HG.out; omega⟩, ⟨_, _, _, rfl⟩, ⟨f1⟩, ⟨f2⟩⟩
      | true =>
        have h1n : (cl != c) = false := by simp only [bne, h1]; rfl
        by_cases h2 : b ≤ ca
        · go_wp2_with (first | ((with_reducible refine gate_ (.load 78 (.tmp 47)) rfl ?_); refine wpList_load_row rfl 78 (.tmp 47) rfl (g := g) (off := off + j * 18) rfl [.int .i64 kd, .string p, .string t, .int .i64 cl, .int .i64 ca, .int .i64 n6, .slice A6 l6.length c6, .int .i64 err, .int .i64 b0, .int .i64 b1, .int .i64 b2, .slice A4 names.length c4, .string path, .bool dir, .int .i64 quota, .slice A8 blocks.length c8, .int .i64 writer, .int .i64 n] HCELL.out agg78 size78 ?_) | ((with_reducible refine gate_builtin (b := .append) (xs := #[.tmp 41, .tmp 49]) rfl ?_); at_builtin; refine wpList_cr_one rfl (.tmp 41) (.tmp 49) rfl rfl (HL6.out.step (fun _ h => h) (fun i c _ hc => Below.heap_alloc wr _ i (blk_lt hc))) rfl [.int .i64 kd, .string p, .string t, .int .i64 cl, .int .i64 ca, .int .i64 n6, .slice A6 l6.length c6, .int .i64 err, .int .i64 b0, .int .i64 b1, .int .i64 b2, .slice A4 names.length c4, .string path, .bool dir, .int .i64 quota, .slice A8 blocks.length c8, .int .i64 writer, .int .i64 n] rfl HONE.out HQ.out hlk ?_; intro A9 cap9 w9 hcr9 hg9))
          obtain ⟨f1, f2⟩ := FIN.out w9 A9 cap9 hcr9 hg9 (by rw [HDEC.out, h1, decide_eq_false (by omega)]; rfl)
          rw [List.length_map] at f1
          go_roundg (gk - 1)
          case measure => have := HG.out; omega
          case rel => exact ⟨j + 1, by first | rfl | exact next_int hlt (Nat.le_trans HL.out (by decide)), ⟨by have := HG.out; omega⟩, ⟨_, _, _, rfl⟩, ⟨f1⟩, ⟨f2⟩⟩
        · go_wp2
          have HE : Aside0 (keepR c b (rs.take (j + 1)) = keepR c b (rs.take j)) := ⟨by rw [HST.out, show oldK c b (RC.key ⟨kd, p, t, cl, ca, n6, A6, c6, l6, ⟨err, b0, b1, b2, names, path, dir, quota, blocks, writer, n⟩, A4, c4, A8, c8⟩) = true from (show oldK c b (cl, ca) = true by rw [HDEC.out, h1, decide_eq_true (by omega)]; rfl), if_pos rfl, List.append_nil]⟩
          go_roundg (gk - 1)
          case measure => have := HG.out; omega
          case rel => exact ⟨j + 1, by first | rfl | exact next_int hlt (Nat.le_trans HL.out (by decide)), ⟨by have := HG.out; omega⟩, ⟨_, _, _, rfl⟩, ⟨by rw [HE.out]; exact HL6.out⟩, HB⟩
    · have hltz : ¬ (j : Int) < (m : Int) := by omega
      obtain rfl : j = m := by have := HG.out; omega
      have f0 : wr.frozen? ⟨X, 0, none⟩ = false := blk_frozen hXw.at_ 0
      have HXW := Aside0.mk hXw
      clear hXw
      go_wp2
      go_end0
      have hset := heap_setCell_same wr X 0 _ 51 (.slice A1 k1 cap1) HXW.out.at_
      have hrow := HL6.out
      rw [HM.out, List.take_length] at hrow
      refine ⟨rfl, ⟨_, ⟨.inl hX.out.hX, hset, hrow.step (fun i hi => .inr hi) (fun i c' _ hc => Below.heap_setCell wr ⟨X, 0, none⟩ _ i (fun e => ?_))⟩⟩, (Gr.of_below (S := D) HB.out).set _ (.inl hX.out.hX)⟩
      rw [e, HXW.out.at_] at hc
      injection hc with hc
      injection hc with _ hc
      cases hc
end Go.Proofs.Ytjailboidlmadaa.P
end
