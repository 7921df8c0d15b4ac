/- A cache's memory: its struct, its map, its row of keys, and the answers' own rows; what reads and stores of the map do to it. -/
import Derived.Test.YtjailboidlmadaaRA
section

namespace Go.Proofs.Ytjailboidlmadaa.P
open Go.RowKit Go.Maps Go.WideMaps Go.Proofs.YtjailboidlmadaaW.PrintWords Go.Proofs.YtjailboidlmadaaW.PrintLast Go.Proofs.YtjailboidlmadaaW.PrintMore
set_option linter.unusedVariables false
set_option linter.unusedSimpArgs false

/-- what is kept of a call -/
structure Ent where
  key : Int × Int
  bytes : ByteArray
  a : Ans
/-- how an element of the map reads: as itself -/
def RV (v : Value) : Option (DataW Value × List MemPlace) := some (.held v, [])
/-- the element's value -/
def dv (b : ByteArray) (a : Ans) (v4 v8 : Value) : Value := .agg (Value.string b :: a.cells v4 v8).toArray
/-- an answer's two rows are the cache's own -/
def AnsV (W : World) (D : Nat → Prop) (a : Ans) (v4 v8 : Value) : Prop := Kd.R Kd.string 9 W 0 D v4 a.names ∧ Kd.R k32 32 W 0 D v8 a.blocks
def ans0 : Ans := ⟨0, 0, 0, 0, [], ⟨#[]⟩, false, 0, [], 0, 0⟩
def zv66 : Value := dv ⟨#[]⟩ ans0 (.slice none 0 0) (.slice none 0 0)
theorem zero66 (w : World) : (zeroValue 66).run Try.prog w = .ok zv66 w := by kernel_rfl

/-- the memory: os are the keys in their order, es is what the map holds -/
structure StM (W : World) (B : Nat) (D : Nat → Prop) (N : Nat) (bm : Nat) (sl : Value) (DM : DataW Value) (os : List (Int × Int)) (es : List Ent) : Prop where
  hB : D B
  hbm : D bm
  at_ : W.heap[B]? = some (.cells #[.map (some bm), sl] 62 (0, 0))
  map : W.ownsMap Try.prog 64 RV bm N DM
  ord : KR W D sl os
  nodup : (es.map Ent.key).Nodup
  wf : ∀ e ∈ es, kwf e.key
  hit : ∀ e ∈ es, ∃ v4 v8, Maps.has DM (klit e.key) = true ∧ (∀ z, DM.atKey (klit e.key) z = .held (dv e.bytes e.a v4 v8)) ∧ AnsV W D e.a v4 v8
  miss : ∀ k, kwf k → k ∉ es.map Ent.key → Maps.has DM (klit k) = false
  fits : ∀ e ∈ es, e.a.fits

variable {W W' : World} {B N bm : Nat} {D D' : Nat → Prop} {sl : Value} {DM : DataW Value} {os : List (Int × Int)} {es : List Ent}

theorem AnsV.step {a : Ans} {v4 v8 : Value} (h : AnsV W D a v4 v8) (hD : ∀ i, D i → D' i) (hb : ∀ i c q, D i → W.heap[i]? = some (.cells c q (0, 0)) → (q = 9 ∨ q = 32) → W'.heap[i]? = W.heap[i]?) : AnsV W' D' a v4 v8 := by
  refine ⟨Kd.R_mono (Kd.R_step (Kd.R_bound h.1) (fun k ho _ => ?_)) (fun k hk => hD k hk.1), Kd.R_mono (Kd.R_step (Kd.R_bound h.2) (fun k ho _ => ?_)) (fun k hk => hD k hk.1)⟩
  · obtain ⟨hd, _, _, q, hq, c, hc⟩ := ho
    have : q = 9 := by
      have e : Kd.string.E = [] := rfl
      rw [e] at hq
      simpa using hq
    exact hb k c q hd hc (.inl this)
  · obtain ⟨hd, _, _, q, hq, c, hc⟩ := ho
    have : q = 32 := by
      have e : k32.E = [] := rfl
      rw [e] at hq
      simpa using hq
    exact hb k c q hd hc (.inr this)
theorem owns_step {k b n : Nat} {R : Value → Option (DataW Value × List MemPlace)} (h : W.ownsMap Try.prog k R b n DM) (hb : W'.heap[b]? = W.heap[b]?) : W'.ownsMap Try.prog k R b n DM := by
  obtain ⟨es, clock, h1, r⟩ := h
  exact ⟨es, clock, hb.trans h1, r⟩
theorem owns_at {k b n : Nat} {R : Value → Option (DataW Value × List MemPlace)} (h : W.ownsMap Try.prog k R b n DM) : ∃ es c, W.heap[b]? = some (.map es c) := by
  obtain ⟨es, clock, h1, r⟩ := h
  exact ⟨_, _, h1⟩
/-- the memory stays while what it stands on stays -/
theorem StM.step (h : StM W B D N bm sl DM os es) (hD : ∀ i, D i → D' i) (hB : W'.heap[B]? = W.heap[B]?) (hm : W'.heap[bm]? = W.heap[bm]?) (hb : ∀ i c q, D i → W.heap[i]? = some (.cells c q (0, 0)) → (q = 64 ∨ q = 9 ∨ q = 32) → W'.heap[i]? = W.heap[i]?) : StM W' B D' N bm sl DM os es :=
  ⟨hD _ h.hB, hD _ h.hbm, hB.trans h.at_, owns_step h.map hm, h.ord.step hD (fun i c hd hc => hb i c 64 hd hc (.inl rfl)), h.nodup, h.wf, fun e he => by
    obtain ⟨v4, v8, h1, h2, h3⟩ := h.hit e he
    exact ⟨v4, v8, h1, h2, h3.step hD (fun i c q hd hc hq => hb i c q hd hc (.inr hq))⟩, h.miss, h.fits⟩
theorem StM.ltB (h : StM W B D N bm sl DM os es) : B < W.heap.size := blk_lt h.at_
theorem StM.ltm (h : StM W B D N bm sl DM os es) : bm < W.heap.size := h.map.lt
theorem StM.ne (h : StM W B D N bm sl DM os es) : bm ≠ B := by
  rintro rfl
  obtain ⟨es, c, h1⟩ := owns_at h.map
  rw [h.at_] at h1
  cases h1
theorem StM.gr {S : Nat → Prop} (h : StM W B D N bm sl DM os es) (hg : Gr S W W') (hS : ∀ i, D i → ¬ S i) : StM W' B D N bm sl DM os es :=
  h.step (fun _ h => h) (hg.block _ h.ltB (hS _ h.hB)) (hg.block _ h.ltm (hS _ h.hbm)) (fun i c q hd hc _ => hg.block _ (blk_lt hc) (hS i hd))
theorem StM.below (h : StM W B D N bm sl DM os es) (hb : Below W.heap.size W W') : StM W' B D N bm sl DM os es := h.gr (S := fun _ => False) (Gr.of_below hb) (fun _ _ h => h)
theorem StM.bound (h : StM W B D N bm sl DM os es) : StM W B (fun i => D i ∧ i < W.heap.size) N bm sl DM os es :=
  ⟨⟨h.hB, h.ltB⟩, ⟨h.hbm, h.ltm⟩, h.at_, h.map, h.ord.bound, h.nodup, h.wf, fun e he => by
    obtain ⟨v4, v8, h1, h2, h3⟩ := h.hit e he
    exact ⟨v4, v8, h1, h2, Kd.R_mono (Kd.R_bound h3.1) (fun k hk => ⟨hk.1, hk.2.2.1⟩), Kd.R_mono (Kd.R_bound h3.2) (fun k hk => ⟨hk.1, hk.2.2.1⟩)⟩, h.miss, h.fits⟩
theorem StM.mono (h : StM W B D N bm sl DM os es) (hD : ∀ i, D i → D' i) : StM W B D' N bm sl DM os es := h.step hD rfl rfl (fun _ _ _ _ _ _ => rfl)

/-! ### the map is asked -/
theorem StM.look_hit (h : StM W B D N bm sl DM os es) {e : Ent} (he : e ∈ es) : ∃ v4 v8, AnsV W D e.a v4 v8 ∧ (Instr.lookup 59 (.map (some bm)) (kv e.key) true).run Try.prog W = .ok (.tuple #[dv e.bytes e.a v4 v8, .bool true]) W := by
  obtain ⟨v4, v8, h1, h2, h3⟩ := h.hit e he
  obtain ⟨v, ps, hr, hv⟩ := h.map.look_ok law64 Try.underlying59 (zero66 W) (zd := .held zv66) (zp := []) rfl (key_of (h.wf e he))
  rw [h2, h1] at *
  obtain rfl : v = dv e.bytes e.a v4 v8 := by
    unfold RV at hv
    injection hv with hv
    injection hv with hv _
    injection hv
  exact ⟨v4, v8, h3, hr⟩
theorem StM.look_miss (h : StM W B D N bm sl DM os es) {k : Int × Int} (hk : kwf k) (hn : k ∉ es.map Ent.key) : (Instr.lookup 59 (.map (some bm)) (kv k) true).run Try.prog W = .ok (.tuple #[zv66, .bool false]) W := by
  obtain ⟨v, ps, hr, hv⟩ := h.map.look_ok law64 Try.underlying59 (zero66 W) (zd := .held zv66) (zp := []) rfl (key_of hk)
  have hm := h.miss k hk hn
  rw [Maps.atKey_of_not_has hm] at hv
  rw [hm] at hr
  obtain rfl : v = zv66 := by
    unfold RV at hv
    injection hv with hv
    injection hv with hv _
    injection hv
  exact hr
/-! ### the map is written -/
theorem mem_keys {k : Int × Int} {es : List Ent} (h : k ∈ es.map Ent.key) : ∃ e ∈ es, e.key = k := by
  obtain ⟨e, he, rfl⟩ := List.mem_map.1 h
  exact ⟨e, he, rfl⟩
/-- all but the entry of key k -/
def noKey (k : Int × Int) (es : List Ent) : List Ent := es.filter fun e => !(e.key == k)
theorem noKey_mem {k : Int × Int} {es : List Ent} {e : Ent} : e ∈ noKey k es ↔ e ∈ es ∧ e.key ≠ k := by
  unfold noKey
  rw [List.mem_filter]
  simp
theorem noKey_keys (k : Int × Int) (es : List Ent) : (noKey k es).map Ent.key = (es.map Ent.key).filter fun x => !(x == k) := by
  unfold noKey
  rw [List.filter_map]
  rfl
theorem nodup_noKey {k : Int × Int} {es : List Ent} (h : (es.map Ent.key).Nodup) : ((noKey k es).map Ent.key).Nodup := by
  rw [noKey_keys]
  exact h.filter _
theorem turned_other {i : Nat} (ht : W.mapTurned W' bm) (hi : i ≠ bm) : W'.heap[i]? = W.heap[i]? := by
  obtain ⟨es, clock, es', clock', hb, rfl⟩ := ht
  exact ChangeMaps.heap_setBlock_other hb _ hi
theorem cells_ne_map (h : StM W B D N bm sl DM os es) {i q : Nat} {c : Array Value} (hc : W.heap[i]? = some (.cells c q (0, 0))) : i ≠ bm := by
  rintro rfl
  obtain ⟨_, _, h1⟩ := owns_at h.map
  rw [hc] at h1
  cases h1
theorem StM.put (h : StM W B D N bm sl DM os es) (hN : N < maxLen) {k : Int × Int} (hk : kwf k) (b : ByteArray) (a : Ans) (hf : a.fits) {v4 v8 : Value} (hv : AnsV W D a v4 v8) :
    ∃ W' DM', (Instr.mapUpdate 59 (.map (some bm)) (kv k) (dv b a v4 v8)).run Try.prog W = .ok () W' ∧ StM W' B D (N + 1) bm sl DM' os (noKey k es ++ [⟨k, b, a⟩]) ∧ Gr (fun i => i = bm) W W' := by
  obtain ⟨W', hr, ho, ht⟩ := h.map.store law64 Try.underlying59 hN (key_of hk) (val := dv b a v4 v8) (d := .held (dv b a v4 v8)) (ps := []) rfl
  have hfr : ∀ i c q, D i → W.heap[i]? = some (.cells c q (0, 0)) → (q = 9 ∨ q = 32) → W'.heap[i]? = W.heap[i]? := fun i c q _ hc _ => turned_other ht (cells_ne_map h hc)
  have hne : ∀ e ∈ noKey k es, klit e.key ≠ klit k := fun e he q => (noKey_mem.1 he).2 (klit_inj (h.wf e (noKey_mem.1 he).1) hk q)
  have hkey := (nodup_noKey (k := k) h.nodup)
  refine ⟨W', _, hr, ⟨h.hB, h.hbm, (turned_other ht (Ne.symm h.ne)).trans h.at_, ho, h.ord.step (fun _ h => h) (fun i c _ hc => turned_other ht (cells_ne_map h hc)), ?_, ?_, ?_, ?_, ?_⟩, (Gr.of_grown ht.grown).mono (fun i hi => .inl (by injection hi))⟩
  · rw [List.map_append, List.nodup_append]
    refine ⟨hkey, by simp, fun x hx y hy => ?_⟩
    rw [List.map_cons, List.map_nil, List.mem_singleton] at hy
    subst hy
    obtain ⟨e, he, rfl⟩ := mem_keys hx
    exact (noKey_mem.1 he).2
  · intro e he
    rcases List.mem_append.1 he with he | he
    · exact h.wf e (noKey_mem.1 he).1
    · rw [List.mem_singleton.1 he]; exact hk
  · intro e he
    rcases List.mem_append.1 he with he | he
    · obtain ⟨x4, x8, h1, h2, h3⟩ := h.hit e (noKey_mem.1 he).1
      exact ⟨x4, x8, by rw [Maps.has_put_other (hne e he)]; exact h1, fun z => by rw [Maps.atKey_put_other (hne e he)]; exact h2 z, h3.step (fun _ h => h) hfr⟩
    · rw [List.mem_singleton.1 he]
      exact ⟨v4, v8, Maps.has_put_same h.map.isMap (klit_key k) _, fun z => Maps.atKey_put_same h.map.isMap (klit_key k) _ z, hv.step (fun _ h => h) hfr⟩
  · intro k' hk' hn
    have hkk : klit k' ≠ klit k := fun q => hn (by rw [klit_inj hk' hk q]; simp)
    rw [Maps.has_put_other hkk]
    refine h.miss k' hk' (fun hm => hn ?_)
    obtain ⟨e, he, rfl⟩ := mem_keys hm
    rw [List.map_append]
    exact List.mem_append_left _ (List.mem_map_of_mem (noKey_mem.2 ⟨he, fun q => hkk (by rw [q])⟩))
  · intro e he
    rcases List.mem_append.1 he with he | he
    · exact h.fits e (noKey_mem.1 he).1
    · rw [List.mem_singleton.1 he]; exact hf
theorem StM.del (h : StM W B D N bm sl DM os es) {k : Int × Int} (hk : kwf k) (ty : TypeId) :
    ∃ W' DM', (Builtin.delete_ #[59, 64] ty #[.map (some bm), kv k]).run Try.prog W = .ok (.tuple #[]) W' ∧ StM W' B D N bm sl DM' os (noKey k es) ∧ Gr (fun i => i = bm) W W' := by
  obtain ⟨W', hr, ho, ht⟩ := h.map.drop law64 Try.underlying59 (key_of hk) ty
  have hfr : ∀ i c q, D i → W.heap[i]? = some (.cells c q (0, 0)) → (q = 9 ∨ q = 32) → W'.heap[i]? = W.heap[i]? := fun i c q _ hc _ => turned_other ht (cells_ne_map h hc)
  have hne : ∀ e ∈ noKey k es, klit e.key ≠ klit k := fun e he q => (noKey_mem.1 he).2 (klit_inj (h.wf e (noKey_mem.1 he).1) hk q)
  refine ⟨W', _, hr, ⟨h.hB, h.hbm, (turned_other ht (Ne.symm h.ne)).trans h.at_, ho, h.ord.step (fun _ h => h) (fun i c _ hc => turned_other ht (cells_ne_map h hc)), nodup_noKey h.nodup, fun e he => h.wf e (noKey_mem.1 he).1, ?_, ?_, fun e he => h.fits e (noKey_mem.1 he).1⟩, (Gr.of_grown ht.grown).mono (fun i hi => .inl (by injection hi))⟩
  · intro e he
    obtain ⟨x4, x8, h1, h2, h3⟩ := h.hit e (noKey_mem.1 he).1
    exact ⟨x4, x8, by rw [Maps.has_del_other (hne e he)]; exact h1, fun z => by rw [Maps.atKey_del_other (hne e he)]; exact h2 z, h3.step (fun _ h => h) hfr⟩
  · intro k' hk' hn
    by_cases hkk : klit k' = klit k
    · rw [hkk]; exact Maps.has_del_same
    · rw [Maps.has_del_other hkk]
      refine h.miss k' hk' (fun hm => hn ?_)
      obtain ⟨e, he, rfl⟩ := mem_keys hm
      exact List.mem_map_of_mem (noKey_mem.2 ⟨he, fun q => hkk (by rw [q])⟩)
/-- the order's field is another row -/
theorem StM.order (h : StM W B D N bm sl DM os es) {sl' : Value} {os' : List (Int × Int)} (hk : KR W D sl' os') : StM (W.setCell ⟨B, 1, none⟩ sl') B D N bm sl' DM os' es := by
  have hB := heap_setCell_same W B 1 _ 62 sl' h.at_
  have hne : ∀ i c q, D i → W.heap[i]? = some (.cells c q (0, 0)) → (q = 64 ∨ q = 9 ∨ q = 32) → (W.setCell ⟨B, 1, none⟩ sl').heap[i]? = W.heap[i]? := fun i c q _ hc hq => by
    refine Below.heap_setCell W ⟨B, 1, none⟩ sl' i (fun e => ?_)
    rw [e, h.at_] at hc
    injection hc with hc
    injection hc with _ hc
    rcases hq with rfl | rfl | rfl <;> cases hc
  refine ⟨h.hB, h.hbm, hB, owns_step h.map (Below.heap_setCell W ⟨B, 1, none⟩ sl' bm h.ne), hk.step (fun _ h => h) (fun i c hd hc => hne i c 64 hd hc (.inl rfl)), h.nodup, h.wf, fun e he => ?_, h.miss, h.fits⟩
  obtain ⟨v4, v8, h1, h2, h3⟩ := h.hit e he
  exact ⟨v4, v8, h1, h2, h3.step (fun _ h => h) (fun i c q hd hc hq => hne i c q hd hc (.inr hq))⟩
end Go.Proofs.Ytjailboidlmadaa.P
end

section

namespace Go.Proofs.Ytjailboidlmadaa.P
open Go.RowKit Go.Maps Go.WideMaps Go.Proofs.YtjailboidlmadaaW.PrintWords Go.Proofs.YtjailboidlmadaaW.PrintLast Go.Proofs.YtjailboidlmadaaW.PrintMore
attribute [local go_sem] max2_int min2_int max_two min_two max_three min_three max_four min_four
set_option linter.unusedVariables false
set_option linter.unusedSimpArgs false

theorem eqA64 (d : Nat) (w : World) (x0 y0 : Int) (x1 y1 : Int) :
    (Op.equalIn (d + 2) 64 (.agg #[.int .i64 x0, .int .i64 x1]) (.agg #[.int .i64 y0, .int .i64 y1])).run Try.prog w = .ok (x0 == y0 && (x1 == y1)) w := by
  refine eqA_of Try.underlying64 (by kernel_rfl) ?_
  refine eqf_cons (by rfl) (by go_simp; rfl) (by go_simp; rfl) (by go_simp) ?_
  exact eqf_last (by rfl) (by go_simp; rfl) (by go_simp; rfl) (by go_simp)
attribute [local go_sem high] eqA64
set_option maxHeartbeats 4000000 in
theorem new_calls (W : World) : Calls Try.prog 8 #[] W fun e w' => ∃ B bm, e = .returned (.pointer (some ⟨B, 0, none⟩)) ∧ Below W.heap.size W w' ∧ W.heap.size ≤ B ∧ StM w' B (fun i => W.heap.size ≤ i) 0 bm (.slice none 0 0) (.map []) [] [] := by
  have hmk : (Instr.makeMap 59 none).run Try.prog W = .ok (.map (some W.heap.size)) (W.alloc (.map #[] 0)) := by kernel_rfl
  go_enter Try.func8, Try.ntmps8
  go_wp2
  go_ret
  have h1 : ((W.alloc (.map #[] 0)).alloc (.cells #[.map (some W.heap.size), .slice none 0 0] 62)).heap[(W.alloc (.map #[] 0)).heap.size]? = some (.cells #[.map (some W.heap.size), .slice none 0 0] 62 (0, 0)) := blk_new _ _
  rw [World.size_alloc] at h1
  refine ⟨_, W.heap.size, rfl, below_alloc (below_alloc (Below.refl _ _) _) _, by omega, ⟨by omega, Nat.le_refl _, h1, (World.ownsMap_made W Try.prog 64 RV).alloc _, .inl ⟨rfl, rfl⟩, List.nodup_nil, ?_, ?_, fun _ _ _ => rfl, ?_⟩⟩
  all_goals (intro e he; cases he)
set_option maxHeartbeats 4000000 in
theorem len_calls {W : World} {B N bm : Nat} {D : Nat → Prop} {sl : Value} {DM : DataW Value} {os : List (Int × Int)} {es : List Ent} (h : StM W B D N bm sl DM os es) :
    Calls Try.prog 12 #[.pointer (some ⟨B, 0, none⟩)] W fun e w' => e = .returned (.int .i64 os.length) ∧ Below W.heap.size W w' := by
  obtain ⟨A, cap, hsl⟩ := h.ord.shape
  have x1 : W.cell? ⟨B, 1, none⟩ = some (.slice A os.length cap) := by rw [← hsl]; exact (blk_cell h.at_ 1).trans rfl
  clear hsl h
  go_enter Try.func12, Try.ntmps12
  go_wp2
  go_ret
  exact ⟨rfl, Below.refl _ _⟩
set_option maxHeartbeats 4000000 in
theorem same_calls {W : World} {q : Nat} {k : Int × Int} (q0 : W.cell? ⟨q, 0, none⟩ = some (.int .i64 k.1)) (q1 : W.cell? ⟨q, 1, none⟩ = some (.int .i64 k.2)) (x : Int × Int) :
    Calls Try.prog 20 #[kv x, .pointer (some ⟨q, 0, none⟩)] W fun e w' => e = .returned (.bool (x == k)) ∧ Below W.heap.size W w' := by
  obtain ⟨k1, k2⟩ := k
  obtain ⟨y1, y2⟩ := x
  have hlt := World.block_lt_of_cell? W _ q0
  unfold kv
  dsimp only at q0 q1 ⊢
  go_enter Try.func20, Try.ntmps20
  go_wp2
  go_ret
  exact ⟨rfl, below_alloc (Below.refl _ _) _⟩
set_option maxHeartbeats 4000000 in
theorem old_calls {W : World} {qc qb : Nat} {c b : Int} (q0 : W.cell? ⟨qc, 0, none⟩ = some (.int .i64 c)) (q1 : W.cell? ⟨qb, 0, none⟩ = some (.int .i64 b)) (x : Int × Int) :
    Calls Try.prog 30 #[kv x, .pointer (some ⟨qc, 0, none⟩), .pointer (some ⟨qb, 0, none⟩)] W fun e w' => e = .returned (.bool (x.1 == c && decide (x.2 < b))) ∧ Below W.heap.size W w' := by
  obtain ⟨y1, y2⟩ := x
  have hlt := World.block_lt_of_cell? W _ q0
  have hlt' := World.block_lt_of_cell? W _ q1
  unfold kv
  dsimp only
  cases hv : (y1 == c) with
  | true =>
    go_enter Try.func30, Try.ntmps30
    go_wp2
    go_ret
    exact ⟨rfl, below_alloc (Below.refl _ _) _⟩
  | false =>
    go_enter Try.func30, Try.ntmps30
    go_wp2
    go_ret
    exact ⟨rfl, below_alloc (Below.refl _ _) _⟩
end Go.Proofs.Ytjailboidlmadaa.P
end

section

namespace Go.Proofs.Ytjailboidlmadaa.P
open Go.RowKit Go.Maps Go.WideMaps Go.Proofs.YtjailboidlmadaaW.PrintWords Go.Proofs.YtjailboidlmadaaW.PrintLast Go.Proofs.YtjailboidlmadaaW.PrintMore
set_option linter.unusedVariables false
set_option linter.unusedSimpArgs false
theorem agg28 (w : World) : (isAgg 28).run Try.prog w = .ok true w := by kernel_rfl
theorem agg38 (w : World) : (isAgg 38).run Try.prog w = .ok true w := by kernel_rfl
theorem agg64 (w : World) : (isAgg 64).run Try.prog w = .ok true w := by kernel_rfl
theorem agg66 (w : World) : (isAgg 66).run Try.prog w = .ok true w := by kernel_rfl
theorem size28 : (Try.prog.info? 28).map (·.size) = some 7 := by kernel_rfl
theorem size38 : (Try.prog.info? 38).map (·.size) = some 11 := by kernel_rfl
theorem size64 : (Try.prog.info? 64).map (·.size) = some 2 := by kernel_rfl
theorem size66 : (Try.prog.info? 66).map (·.size) = some 12 := by kernel_rfl
section
variable {P : Program} {ops : Array Oper} {rest : List Oper} {o : Oper} {a : Act} {Q : Exit → Act → World → Prop} {W : World}
theorem run_load_all {g off : Nat} {e : TypeId} {c : Array Value} (t : TypeId) (vs : List Value) (hh : W.heap[g]? = some (.cells c e (0, 0))) (ha : ∀ w, (isAgg t).run P w = .ok true w) (ht : (P.info? t).map (·.size) = some vs.length) (hvs : (c.toList.drop off).take vs.length = vs) :
    (Instr.loadAt t (.pointer (some ⟨g, off, none⟩))).run P W = .ok (.agg vs.toArray) W := by
  obtain ⟨i, hi, hsz⟩ := Option.map_eq_some_iff.1 ht
  have h1 := run_loadCells_list (P := P) (w := W) ⟨g, off, none⟩ vs (fun j v hv => by
    rw [Addr.add_lit, blk_cell hh, ← Array.getElem?_toList, ← List.getElem?_drop]
    have hj : j < vs.length := (List.getElem?_eq_some_iff.1 hv).1
    rw [← List.getElem?_take_of_lt hj, hvs]
    exact hv)
  simp [Instr.loadAt, Instr.sureAddr, loadVar, sizeOf, typeInfo, hi, hsz, ha, h1]
theorem wpList_load_all (hgd : o.guard = none) (t : TypeId) (p : Operand) (ho : o.op = .load t p) {g off : Nat} {e : TypeId} {c : Array Value} (haddr : a.eval p = .pointer (some ⟨g, off, none⟩)) (vs : List Value) (hh : W.heap[g]? = some (.cells c e (0, 0))) (ha : ∀ w, (isAgg t).run P w = .ok true w)
    (ht : (P.info? t).map (·.size) = some vs.length) (hvs : (c.toList.drop off).take vs.length = vs) (h : wpList P ops Q rest (a.put o.dst (.agg vs.toArray)) W) : wpList P ops Q (o :: rest) a W := by
  refine wpList_plain hgd fun K hK => ?_
  have hrun := run_load_all (P := P) t vs hh ha ht hvs
  unfold Oper.wp execOp
  simp only [ho, haddr, Sem.run_bind, Sem.run_pure, Result.andThen_ok, hrun]
  exact hK _ _ h
theorem wpList_store_all (hN : o.dst = none) (hgd : o.guard = none) (t : TypeId) (p x : Operand) (ho : o.op = .store t p x) {g : Nat} {e : TypeId} {c : Array Value} (haddr : a.eval p = .pointer (some ⟨g, 0, none⟩)) (vs : List Value) (hx : a.eval x = .agg vs.toArray) (hh : W.heap[g]? = some (.cells c e (0, 0)))
    (ht : (P.info? t).map (·.size) = some vs.length) (hl : vs.length = c.size) (h1 : vs.all (·.oneCell') = true) (h : ∀ w1, w1.heap[g]? = some (.cells vs.toArray e (0, 0)) → Gr (fun i => i = g) W w1 → wpList P ops Q rest a w1) : wpList P ops Q (o :: rest) a W := by
  refine wpList_plain hgd fun K hK => ?_
  have hrun := run_store_run (P := P) (o := 0) t (.agg vs.toArray) vs hh (by simp [Value.cells]) ht (by omega) (fun q hq => List.all_eq_true.1 h1 q hq)
  unfold Oper.wp execOp
  simp only [ho, haddr, hx, Sem.run_bind, Sem.run_pure, Result.andThen_ok, hrun]
  show K (a.put o.dst undef) _
  rw [hN]
  exact hK _ _ (h _ (row_all hh vs hl) ((Gr.refl _ _).setCells _ (.inl rfl)))
end
end Go.Proofs.Ytjailboidlmadaa.P
end

section

namespace Go.Proofs.Ytjailboidlmadaa.P
open Go.RowKit Go.Maps Go.WideMaps Go.Proofs.YtjailboidlmadaaW.PrintWords Go.Proofs.YtjailboidlmadaaW.PrintLast Go.Proofs.YtjailboidlmadaaW.PrintMore
attribute [local go_sem] max2_int min2_int max_two min_two max_three min_three max_four min_four
set_option linter.unusedVariables false
set_option linter.unusedSimpArgs false
variable {W : World} {B N bm : Nat} {D : Nat → Prop} {sl : Value} {DM : DataW Value} {os : List (Int × Int)} {es : List Ent}
theorem gr_one {W0 W1 W2 : World} {g : Nat} (hb : Below W0.heap.size W0 W1) (d : Gr (fun i => i = g) W1 W2) (hg : W0.heap.size ≤ g) : Below W0.heap.size W0 W2 :=
  ((Gr.of_below hb (S := fun i => W0.heap.size ≤ i)).then_ d (fun i hi => .inr (by rw [hi]; exact hg))).below (Nat.le_refl _) (fun i hi => hi)
set_option maxHeartbeats 400000 in
set_option maxRecDepth 100000 in
theorem get_miss (h : StM W B D N bm sl DM os es) (cl ca : Int) (a0_0 : Int) (a0_1 : ByteArray) (a0_2 : ByteArray) (a0_3 : Int) (a0_4 : Int) (a0_5 : Int) (A0_6 : Option Addr) (c0_6 : Nat) (l0_6 : List Int) (hk : kwf (cl, ca)) (hn : (cl, ca) ∉ es.map Ent.key) :
    Calls Try.prog 11 #[.pointer (some ⟨B, 0, none⟩), .int .i64 cl, .int .i64 ca, .agg #[.int .i64 a0_0, .string a0_1, .string a0_2, .int .i64 a0_3, .int .i64 a0_4, .int .i64 a0_5, .slice A0_6 l0_6.length c0_6]] W fun e w' => e = .returned (.tuple #[.agg #[.int .i64 0, .int .i64 0, .int .i64 0, .int .i64 0, .slice none 0 0, .string ⟨#[]⟩, .bool false, .int .i64 0, .slice none 0 0, .int .i64 0, .int .i64 0], .bool false, .int .i64 0]) ∧ Below W.heap.size W w' := by
  have hu28 := Try.underlying28
  have hu32 := Try.underlying32
  have hu36 := Try.underlying36
  have hu38 := Try.underlying38
  have hu62 := Try.underlying62
  have hu64 := Try.underlying64
  have hu66 := Try.underlying66
  have hM := Aside0.mk h
  have hk := Aside0.mk hk
  have hn := Aside0.mk hn
  clear h
  go_enter Try.func11, Try.ntmps11
  go_wp2_with (first | ((with_reducible refine gate_dst (N := 7) rfl ?_); refine box_event ?hg7 (N := 7) ?hd7 (cs := #[.int .i64 a0_0, .string a0_1, .string a0_2, .int .i64 a0_3, .int .i64 a0_4, .int .i64 a0_5, .slice A0_6 l0_6.length c0_6]) (t := 28) ?hr7 ?_; (case hd7 => rfl); (case hg7 => rfl); (case hr7 => first | (go_simp; done) | (go_simp; rfl)); intro g7 hg7 w7 hbox7 hb7; have G7 := Aside0.mk hg7; clear hg7) | ((with_reducible refine gate_dst (N := 8) rfl ?_); refine box_event ?hg8 (N := 8) ?hd8 (cs := #[.int .i64 0, .int .i64 0, .int .i64 0, .int .i64 0, .slice none 0 0, .string ⟨#[]⟩, .bool false, .int .i64 0, .slice none 0 0, .int .i64 0, .int .i64 0]) (t := 38) ?hr8 ?_; (case hd8 => rfl); (case hg8 => rfl); (case hr8 => first | (go_simp; done) | (go_simp; rfl)); intro g8 hg8 w8 hbox8 hb8; have G8 := Aside0.mk hg8; clear hg8; have q7 := (hb8.block g7 (blk_lt hbox7)).trans hbox7; have hS := (hM.out.below hb7).below hb8; have xm : w8.cell? ⟨B, 0, none⟩ = some (.map (some bm)) := (blk_cell hS.at_ 0).trans rfl; have hlook : (Instr.lookup 59 (.map (some bm)) (.agg #[.int .i64 cl, .int .i64 ca]) true).run Try.prog w8 = .ok (.tuple #[.agg #[.string ⟨#[]⟩, .int .i64 0, .int .i64 0, .int .i64 0, .int .i64 0, .slice none 0 0, .string ⟨#[]⟩, .bool false, .int .i64 0, .slice none 0 0, .int .i64 0, .int .i64 0], .bool false]) w8 := hS.look_miss (k := (cl, ca)) hk.out hn.out; clear hS) | ((with_reducible refine gate_dst (N := 11) rfl ?_); refine box_event ?hg11 (N := 11) ?hd11 (cs := #[.string ⟨#[]⟩, .int .i64 0, .int .i64 0, .int .i64 0, .int .i64 0, .slice none 0 0, .string ⟨#[]⟩, .bool false, .int .i64 0, .slice none 0 0, .int .i64 0, .int .i64 0]) (t := 66) ?hr11 ?_; (case hd11 => rfl); (case hg11 => rfl); (case hr11 => first | (go_simp; done) | (go_simp; rfl)); intro g11 hg11 w11 hbox11 hb11; have G11 := Aside0.mk hg11; clear hg11; have p8 := (hb11.block g8 (blk_lt hbox8)).trans hbox8; have p7 := (hb11.block g7 (blk_lt q7)).trans q7; have ne8 : g8 ≠ g11 := Nat.ne_of_lt (Nat.lt_of_lt_of_eq (blk_lt hbox8) G11.out.symm); have ne7 : g7 ≠ g11 := Nat.ne_of_lt (Nat.lt_of_lt_of_eq (blk_lt q7) G11.out.symm)) | ((with_reducible refine gate_store (t := 66) (p := 11) rfl ?_); refine wpList_store_all rfl rfl 66 (.tmp 11) _ rfl (g := g11) rfl [.string ⟨#[]⟩, .int .i64 0, .int .i64 0, .int .i64 0, .int .i64 0, .slice none 0 0, .string ⟨#[]⟩, .bool false, .int .i64 0, .slice none 0 0, .int .i64 0, .int .i64 0] rfl hbox11 size66 rfl rfl ?_; intro w12 h12 d12; have o8 := (d12.block g8 (blk_lt p8) ne8).trans p8; have o7 := (d12.block g7 (blk_lt p7) ne7).trans p7) | ((with_reducible refine gate_store (t := 38) (p := 8) rfl ?_); refine wpList_store_all rfl rfl 38 (.tmp 8) _ rfl (g := g8) rfl [.int .i64 0, .int .i64 0, .int .i64 0, .int .i64 0, .slice none 0 0, .string ⟨#[]⟩, .bool false, .int .i64 0, .slice none 0 0, .int .i64 0, .int .i64 0] rfl o8 size38 rfl rfl ?_; intro w13 h13 d13; have r0 : w13.cell? ⟨g8, 0, none⟩ = some (.int .i64 0) := (blk_cell h13 0).trans rfl; have r1 : w13.cell? ⟨g8, 1, none⟩ = some (.int .i64 0) := (blk_cell h13 1).trans rfl; have r2 : w13.cell? ⟨g8, 2, none⟩ = some (.int .i64 0) := (blk_cell h13 2).trans rfl; have r3 : w13.cell? ⟨g8, 3, none⟩ = some (.int .i64 0) := (blk_cell h13 3).trans rfl; have r4 : w13.cell? ⟨g8, 4, none⟩ = some (.slice none 0 0) := (blk_cell h13 4).trans rfl; have r5 : w13.cell? ⟨g8, 5, none⟩ = some (.string ⟨#[]⟩) := (blk_cell h13 5).trans rfl; have r6 : w13.cell? ⟨g8, 6, none⟩ = some (.bool false) := (blk_cell h13 6).trans rfl; have r7 : w13.cell? ⟨g8, 7, none⟩ = some (.int .i64 0) := (blk_cell h13 7).trans rfl; have r8 : w13.cell? ⟨g8, 8, none⟩ = some (.slice none 0 0) := (blk_cell h13 8).trans rfl; have r9 : w13.cell? ⟨g8, 9, none⟩ = some (.int .i64 0) := (blk_cell h13 9).trans rfl; have r10 : w13.cell? ⟨g8, 10, none⟩ = some (.int .i64 0) := (blk_cell h13 10).trans rfl))
  (try simp only [Exit.inBlock, Exit.then])
  refine bodyPost_ret (by simp [results, Try.results11, go_sem, r0, r1, r2, r3, r4, r5, r6, r7, r8, r9, r10]; try rfl) rfl ?_
  have s8 : W.heap.size ≤ g8 := Nat.le_trans hb7.size (Nat.le_of_eq G8.out.symm)
  have s11 : W.heap.size ≤ g11 := Nat.le_trans (Nat.le_trans hb7.size hb8.size) (Nat.le_of_eq G11.out.symm)
  have B12 := gr_one (below_step (below_step hb7 hb8) hb11) d12 s11
  exact ⟨rfl, gr_one B12 d13 s8⟩
set_option maxHeartbeats 400000 in
set_option maxRecDepth 100000 in
theorem get_bad1 (h : StM W B D N bm sl DM os es) (cl ca : Int) (a0_0 : Int) (a0_1 : ByteArray) (a0_2 : ByteArray) (a0_3 : Int) (a0_4 : Int) (a0_5 : Int) (A0_6 : Option Addr) (c0_6 : Nat) (l0_6 : List Int) (bytes : ByteArray) (err b0 b1 b2 : Int) (names : List ByteArray) (path : ByteArray) (dir : Bool) (quota : Int) (blocks : List S32) (writer n : Int) (he : (⟨(cl, ca), bytes, ⟨err, b0, b1, b2, names, path, dir, quota, blocks, writer, n⟩⟩ : Ent) ∈ es)
    (k : Nat) (b : ByteArray) (bad : Int) (hr : Kd.C (Kd.int .i64) W A0_6 l0_6.length l0_6) (hc : l0_6.length ≤ c0_6) (henc : edit_Encode.f k a0_0 a0_1 a0_2 a0_3 a0_4 a0_5 l0_6 = some (b, bad)) (hbad : bad ≠ 0) :
    Calls Try.prog 11 #[.pointer (some ⟨B, 0, none⟩), .int .i64 cl, .int .i64 ca, .agg #[.int .i64 a0_0, .string a0_1, .string a0_2, .int .i64 a0_3, .int .i64 a0_4, .int .i64 a0_5, .slice A0_6 l0_6.length c0_6]] W fun e w' => e = .returned (.tuple #[.agg #[.int .i64 0, .int .i64 0, .int .i64 0, .int .i64 0, .slice none 0 0, .string ⟨#[]⟩, .bool false, .int .i64 0, .slice none 0 0, .int .i64 0, .int .i64 0], .bool false, .int .i64 14]) ∧ Below W.heap.size W w' := by
  have hu28 := Try.underlying28
  have hu32 := Try.underlying32
  have hu36 := Try.underlying36
  have hu38 := Try.underlying38
  have hu62 := Try.underlying62
  have hu64 := Try.underlying64
  have hu66 := Try.underlying66
  have hM := Aside0.mk h
  have he := Aside0.mk he
  have hr := Aside0.mk hr
  have hc := Aside0.mk hc
  have henc := Aside0.mk henc
  clear h
  have c0 : (bad == 0) = false := by simpa using hbad
  have c1 : (bad != 0) = true := by simpa using hbad
  clear hbad
  go_enter Try.func11, Try.ntmps11
  go_wp2_with (first | ((with_reducible refine gate_dst (N := 7) rfl ?_); refine box_event ?hg7 (N := 7) ?hd7 (cs := #[.int .i64 a0_0, .string a0_1, .string a0_2, .int .i64 a0_3, .int .i64 a0_4, .int .i64 a0_5, .slice A0_6 l0_6.length c0_6]) (t := 28) ?hr7 ?_; (case hd7 => rfl); (case hg7 => rfl); (case hr7 => first | (go_simp; done) | (go_simp; rfl)); intro g7 hg7 w7 hbox7 hb7; have G7 := Aside0.mk hg7; clear hg7) | ((with_reducible refine gate_dst (N := 8) rfl ?_); refine box_event ?hg8 (N := 8) ?hd8 (cs := #[.int .i64 0, .int .i64 0, .int .i64 0, .int .i64 0, .slice none 0 0, .string ⟨#[]⟩, .bool false, .int .i64 0, .slice none 0 0, .int .i64 0, .int .i64 0]) (t := 38) ?hr8 ?_; (case hd8 => rfl); (case hg8 => rfl); (case hr8 => first | (go_simp; done) | (go_simp; rfl)); intro g8 hg8 w8 hbox8 hb8; have G8 := Aside0.mk hg8; clear hg8; have q7 := (hb8.block g7 (blk_lt hbox7)).trans hbox7; have hS := (hM.out.below hb7).below hb8; have xm : w8.cell? ⟨B, 0, none⟩ = some (.map (some bm)) := (blk_cell hS.at_ 0).trans rfl; obtain ⟨v4, v8, hAV, hlk⟩ := hS.look_hit he.out; obtain ⟨A4, c4, rfl⟩ := Kd.R_slice hAV.1; obtain ⟨A8, c8, rfl⟩ := Kd.R_slice hAV.2; have HAV := Aside0.mk hAV; have hlook : (Instr.lookup 59 (.map (some bm)) (.agg #[.int .i64 cl, .int .i64 ca]) true).run Try.prog w8 = .ok (.tuple #[.agg #[.string bytes, .int .i64 err, .int .i64 b0, .int .i64 b1, .int .i64 b2, .slice A4 names.length c4, .string path, .bool dir, .int .i64 quota, .slice A8 blocks.length c8, .int .i64 writer, .int .i64 n], .bool true]) w8 := hlk; clear hS hAV hlk) | ((with_reducible refine gate_dst (N := 11) rfl ?_); refine box_event ?hg11 (N := 11) ?hd11 (cs := #[.string ⟨#[]⟩, .int .i64 0, .int .i64 0, .int .i64 0, .int .i64 0, .slice none 0 0, .string ⟨#[]⟩, .bool false, .int .i64 0, .slice none 0 0, .int .i64 0, .int .i64 0]) (t := 66) ?hr11 ?_; (case hd11 => rfl); (case hg11 => rfl); (case hr11 => first | (go_simp; done) | (go_simp; rfl)); intro g11 hg11 w11 hbox11 hb11; have G11 := Aside0.mk hg11; clear hg11; have p8 := (hb11.block g8 (blk_lt hbox8)).trans hbox8; have p7 := (hb11.block g7 (blk_lt q7)).trans q7; have ne8 : g8 ≠ g11 := Nat.ne_of_lt (Nat.lt_of_lt_of_eq (blk_lt hbox8) G11.out.symm); have ne7 : g7 ≠ g11 := Nat.ne_of_lt (Nat.lt_of_lt_of_eq (blk_lt q7) G11.out.symm)) | ((with_reducible refine gate_store (t := 66) (p := 11) rfl ?_); refine wpList_store_all rfl rfl 66 (.tmp 11) _ rfl (g := g11) rfl [.string bytes, .int .i64 err, .int .i64 b0, .int .i64 b1, .int .i64 b2, .slice A4 names.length c4, .string path, .bool dir, .int .i64 quota, .slice A8 blocks.length c8, .int .i64 writer, .int .i64 n] rfl hbox11 size66 rfl rfl ?_; intro w12 h12 d12; have o8 := (d12.block g8 (blk_lt p8) ne8).trans p8; have o7 := (d12.block g7 (blk_lt p7) ne7).trans p7) | ((with_reducible refine gate_ (.load 28 (.tmp 7)) rfl ?_); refine wpList_load_all rfl 28 (.tmp 7) rfl (g := g7) (off := 0) rfl [.int .i64 a0_0, .string a0_1, .string a0_2, .int .i64 a0_3, .int .i64 a0_4, .int .i64 a0_5, .slice A0_6 l0_6.length c0_6] o7 agg28 size28 rfl ?_) | (go_at_call 13; refine (edit_Encode.calls k a0_0 a0_1 a0_2 a0_3 a0_4 a0_5 A0_6 c0_6 l0_6 b bad _ (Kd.C_below hr.out (gr_one (below_step (below_step hb7 hb8) hb11) d12 (Nat.le_trans (Nat.le_trans hb7.size hb8.size) (Nat.le_of_eq G11.out.symm)))) hc.out henc.out).mono ?_; rintro e_ w14 ⟨rfl, hb14⟩; have p11 := (hb14.block g11 (blk_lt h12)).trans h12; have p8b := (hb14.block g8 (blk_lt o8)).trans o8; have xb : w14.cell? ⟨g11, 0, none⟩ = some (.string bytes) := (blk_cell p11 0).trans rfl) | ((with_reducible refine gate_store (t := 38) (p := 8) rfl ?_); refine wpList_store_all rfl rfl 38 (.tmp 8) _ rfl (g := g8) rfl [.int .i64 0, .int .i64 0, .int .i64 0, .int .i64 0, .slice none 0 0, .string ⟨#[]⟩, .bool false, .int .i64 0, .slice none 0 0, .int .i64 0, .int .i64 0] rfl p8b size38 rfl rfl ?_; intro w15 h15 d15; have r0 : w15.cell? ⟨g8, 0, none⟩ = some (.int .i64 0) := (blk_cell h15 0).trans rfl; have r1 : w15.cell? ⟨g8, 1, none⟩ = some (.int .i64 0) := (blk_cell h15 1).trans rfl; have r2 : w15.cell? ⟨g8, 2, none⟩ = some (.int .i64 0) := (blk_cell h15 2).trans rfl; have r3 : w15.cell? ⟨g8, 3, none⟩ = some (.int .i64 0) := (blk_cell h15 3).trans rfl; have r4 : w15.cell? ⟨g8, 4, none⟩ = some (.slice none 0 0) := (blk_cell h15 4).trans rfl; have r5 : w15.cell? ⟨g8, 5, none⟩ = some (.string ⟨#[]⟩) := (blk_cell h15 5).trans rfl; have r6 : w15.cell? ⟨g8, 6, none⟩ = some (.bool false) := (blk_cell h15 6).trans rfl; have r7 : w15.cell? ⟨g8, 7, none⟩ = some (.int .i64 0) := (blk_cell h15 7).trans rfl; have r8 : w15.cell? ⟨g8, 8, none⟩ = some (.slice none 0 0) := (blk_cell h15 8).trans rfl; have r9 : w15.cell? ⟨g8, 9, none⟩ = some (.int .i64 0) := (blk_cell h15 9).trans rfl; have r10 : w15.cell? ⟨g8, 10, none⟩ = some (.int .i64 0) := (blk_cell h15 10).trans rfl))
  (try simp only [Exit.inBlock, Exit.then])
  refine bodyPost_ret (by simp [results, Try.results11, go_sem, r0, r1, r2, r3, r4, r5, r6, r7, r8, r9, r10]; try rfl) rfl ?_
  have s8 : W.heap.size ≤ g8 := Nat.le_trans hb7.size (Nat.le_of_eq G8.out.symm)
  have s11 : W.heap.size ≤ g11 := Nat.le_trans (Nat.le_trans hb7.size hb8.size) (Nat.le_of_eq G11.out.symm)
  have B12 := gr_one (below_step (below_step hb7 hb8) hb11) d12 s11
  exact ⟨rfl, gr_one (below_step B12 hb14) d15 s8⟩
set_option maxHeartbeats 400000 in
set_option maxRecDepth 100000 in
theorem get_bad2 (h : StM W B D N bm sl DM os es) (cl ca : Int) (a0_0 : Int) (a0_1 : ByteArray) (a0_2 : ByteArray) (a0_3 : Int) (a0_4 : Int) (a0_5 : Int) (A0_6 : Option Addr) (c0_6 : Nat) (l0_6 : List Int) (bytes : ByteArray) (err b0 b1 b2 : Int) (names : List ByteArray) (path : ByteArray) (dir : Bool) (quota : Int) (blocks : List S32) (writer n : Int) (he : (⟨(cl, ca), bytes, ⟨err, b0, b1, b2, names, path, dir, quota, blocks, writer, n⟩⟩ : Ent) ∈ es)
    (k : Nat) (b : ByteArray) (bad : Int) (hr : Kd.C (Kd.int .i64) W A0_6 l0_6.length l0_6) (hc : l0_6.length ≤ c0_6) (henc : edit_Encode.f k a0_0 a0_1 a0_2 a0_3 a0_4 a0_5 l0_6 = some (b, bad)) (h0 : bad = 0) (hbad : b.toList ≠ bytes.toList) :
    Calls Try.prog 11 #[.pointer (some ⟨B, 0, none⟩), .int .i64 cl, .int .i64 ca, .agg #[.int .i64 a0_0, .string a0_1, .string a0_2, .int .i64 a0_3, .int .i64 a0_4, .int .i64 a0_5, .slice A0_6 l0_6.length c0_6]] W fun e w' => e = .returned (.tuple #[.agg #[.int .i64 0, .int .i64 0, .int .i64 0, .int .i64 0, .slice none 0 0, .string ⟨#[]⟩, .bool false, .int .i64 0, .slice none 0 0, .int .i64 0, .int .i64 0], .bool false, .int .i64 14]) ∧ Below W.heap.size W w' := by
  have hu28 := Try.underlying28
  have hu32 := Try.underlying32
  have hu36 := Try.underlying36
  have hu38 := Try.underlying38
  have hu62 := Try.underlying62
  have hu64 := Try.underlying64
  have hu66 := Try.underlying66
  have hM := Aside0.mk h
  have he := Aside0.mk he
  have hr := Aside0.mk hr
  have hc := Aside0.mk hc
  have henc := Aside0.mk henc
  clear h
  have c3 : (bad == 0) = true := by simp [h0]
  have c4' : (bad != 0) = false := by simp [h0]
  clear h0
  have c0 : (b.toList == bytes.toList) = false := by simpa using hbad
  have c1 : (b.toList != bytes.toList) = true := by simpa using hbad
  have c2 : decide (b.toList = bytes.toList) = false := by simpa using hbad
  clear hbad
  go_enter Try.func11, Try.ntmps11
  go_wp2_with (first | ((with_reducible refine gate_dst (N := 7) rfl ?_); refine box_event ?hg7 (N := 7) ?hd7 (cs := #[.int .i64 a0_0, .string a0_1, .string a0_2, .int .i64 a0_3, .int .i64 a0_4, .int .i64 a0_5, .slice A0_6 l0_6.length c0_6]) (t := 28) ?hr7 ?_; (case hd7 => rfl); (case hg7 => rfl); (case hr7 => first | (go_simp; done) | (go_simp; rfl)); intro g7 hg7 w7 hbox7 hb7; have G7 := Aside0.mk hg7; clear hg7) | ((with_reducible refine gate_dst (N := 8) rfl ?_); refine box_event ?hg8 (N := 8) ?hd8 (cs := #[.int .i64 0, .int .i64 0, .int .i64 0, .int .i64 0, .slice none 0 0, .string ⟨#[]⟩, .bool false, .int .i64 0, .slice none 0 0, .int .i64 0, .int .i64 0]) (t := 38) ?hr8 ?_; (case hd8 => rfl); (case hg8 => rfl); (case hr8 => first | (go_simp; done) | (go_simp; rfl)); intro g8 hg8 w8 hbox8 hb8; have G8 := Aside0.mk hg8; clear hg8; have q7 := (hb8.block g7 (blk_lt hbox7)).trans hbox7; have hS := (hM.out.below hb7).below hb8; have xm : w8.cell? ⟨B, 0, none⟩ = some (.map (some bm)) := (blk_cell hS.at_ 0).trans rfl; obtain ⟨v4, v8, hAV, hlk⟩ := hS.look_hit he.out; obtain ⟨A4, c4, rfl⟩ := Kd.R_slice hAV.1; obtain ⟨A8, c8, rfl⟩ := Kd.R_slice hAV.2; have HAV := Aside0.mk hAV; have hlook : (Instr.lookup 59 (.map (some bm)) (.agg #[.int .i64 cl, .int .i64 ca]) true).run Try.prog w8 = .ok (.tuple #[.agg #[.string bytes, .int .i64 err, .int .i64 b0, .int .i64 b1, .int .i64 b2, .slice A4 names.length c4, .string path, .bool dir, .int .i64 quota, .slice A8 blocks.length c8, .int .i64 writer, .int .i64 n], .bool true]) w8 := hlk; clear hS hAV hlk) | ((with_reducible refine gate_dst (N := 11) rfl ?_); refine box_event ?hg11 (N := 11) ?hd11 (cs := #[.string ⟨#[]⟩, .int .i64 0, .int .i64 0, .int .i64 0, .int .i64 0, .slice none 0 0, .string ⟨#[]⟩, .bool false, .int .i64 0, .slice none 0 0, .int .i64 0, .int .i64 0]) (t := 66) ?hr11 ?_; (case hd11 => rfl); (case hg11 => rfl); (case hr11 => first | (go_simp; done) | (go_simp; rfl)); intro g11 hg11 w11 hbox11 hb11; have G11 := Aside0.mk hg11; clear hg11; have p8 := (hb11.block g8 (blk_lt hbox8)).trans hbox8; have p7 := (hb11.block g7 (blk_lt q7)).trans q7; have ne8 : g8 ≠ g11 := Nat.ne_of_lt (Nat.lt_of_lt_of_eq (blk_lt hbox8) G11.out.symm); have ne7 : g7 ≠ g11 := Nat.ne_of_lt (Nat.lt_of_lt_of_eq (blk_lt q7) G11.out.symm)) | ((with_reducible refine gate_store (t := 66) (p := 11) rfl ?_); refine wpList_store_all rfl rfl 66 (.tmp 11) _ rfl (g := g11) rfl [.string bytes, .int .i64 err, .int .i64 b0, .int .i64 b1, .int .i64 b2, .slice A4 names.length c4, .string path, .bool dir, .int .i64 quota, .slice A8 blocks.length c8, .int .i64 writer, .int .i64 n] rfl hbox11 size66 rfl rfl ?_; intro w12 h12 d12; have o8 := (d12.block g8 (blk_lt p8) ne8).trans p8; have o7 := (d12.block g7 (blk_lt p7) ne7).trans p7) | ((with_reducible refine gate_ (.load 28 (.tmp 7)) rfl ?_); refine wpList_load_all rfl 28 (.tmp 7) rfl (g := g7) (off := 0) rfl [.int .i64 a0_0, .string a0_1, .string a0_2, .int .i64 a0_3, .int .i64 a0_4, .int .i64 a0_5, .slice A0_6 l0_6.length c0_6] o7 agg28 size28 rfl ?_) | (go_at_call 13; refine (edit_Encode.calls k a0_0 a0_1 a0_2 a0_3 a0_4 a0_5 A0_6 c0_6 l0_6 b bad _ (Kd.C_below hr.out (gr_one (below_step (below_step hb7 hb8) hb11) d12 (Nat.le_trans (Nat.le_trans hb7.size hb8.size) (Nat.le_of_eq G11.out.symm)))) hc.out henc.out).mono ?_; rintro e_ w14 ⟨rfl, hb14⟩; have p11 := (hb14.block g11 (blk_lt h12)).trans h12; have p8b := (hb14.block g8 (blk_lt o8)).trans o8; have xb : w14.cell? ⟨g11, 0, none⟩ = some (.string bytes) := (blk_cell p11 0).trans rfl) | ((with_reducible refine gate_store (t := 38) (p := 8) rfl ?_); refine wpList_store_all rfl rfl 38 (.tmp 8) _ rfl (g := g8) rfl [.int .i64 0, .int .i64 0, .int .i64 0, .int .i64 0, .slice none 0 0, .string ⟨#[]⟩, .bool false, .int .i64 0, .slice none 0 0, .int .i64 0, .int .i64 0] rfl p8b size38 rfl rfl ?_; intro w15 h15 d15; have r0 : w15.cell? ⟨g8, 0, none⟩ = some (.int .i64 0) := (blk_cell h15 0).trans rfl; have r1 : w15.cell? ⟨g8, 1, none⟩ = some (.int .i64 0) := (blk_cell h15 1).trans rfl; have r2 : w15.cell? ⟨g8, 2, none⟩ = some (.int .i64 0) := (blk_cell h15 2).trans rfl; have r3 : w15.cell? ⟨g8, 3, none⟩ = some (.int .i64 0) := (blk_cell h15 3).trans rfl; have r4 : w15.cell? ⟨g8, 4, none⟩ = some (.slice none 0 0) := (blk_cell h15 4).trans rfl; have r5 : w15.cell? ⟨g8, 5, none⟩ = some (.string ⟨#[]⟩) := (blk_cell h15 5).trans rfl; have r6 : w15.cell? ⟨g8, 6, none⟩ = some (.bool false) := (blk_cell h15 6).trans rfl; have r7 : w15.cell? ⟨g8, 7, none⟩ = some (.int .i64 0) := (blk_cell h15 7).trans rfl; have r8 : w15.cell? ⟨g8, 8, none⟩ = some (.slice none 0 0) := (blk_cell h15 8).trans rfl; have r9 : w15.cell? ⟨g8, 9, none⟩ = some (.int .i64 0) := (blk_cell h15 9).trans rfl; have r10 : w15.cell? ⟨g8, 10, none⟩ = some (.int .i64 0) := (blk_cell h15 10).trans rfl))
  (try simp only [Exit.inBlock, Exit.then])
  refine bodyPost_ret (by simp [results, Try.results11, go_sem, r0, r1, r2, r3, r4, r5, r6, r7, r8, r9, r10]; try rfl) rfl ?_
  have s8 : W.heap.size ≤ g8 := Nat.le_trans hb7.size (Nat.le_of_eq G8.out.symm)
  have s11 : W.heap.size ≤ g11 := Nat.le_trans (Nat.le_trans hb7.size hb8.size) (Nat.le_of_eq G11.out.symm)
  have B12 := gr_one (below_step (below_step hb7 hb8) hb11) d12 s11
  exact ⟨rfl, gr_one (below_step B12 hb14) d15 s8⟩
set_option maxHeartbeats 400000 in
set_option maxRecDepth 100000 in
theorem get_hit (h : StM W B D N bm sl DM os es) (cl ca : Int) (a0_0 : Int) (a0_1 : ByteArray) (a0_2 : ByteArray) (a0_3 : Int) (a0_4 : Int) (a0_5 : Int) (A0_6 : Option Addr) (c0_6 : Nat) (l0_6 : List Int) (bytes : ByteArray) (err b0 b1 b2 : Int) (names : List ByteArray) (path : ByteArray) (dir : Bool) (quota : Int) (blocks : List S32) (writer n : Int) (he : (⟨(cl, ca), bytes, ⟨err, b0, b1, b2, names, path, dir, quota, blocks, writer, n⟩⟩ : Ent) ∈ es)
    (k : Nat) (b : ByteArray) (hr : Kd.C (Kd.int .i64) W A0_6 l0_6.length l0_6) (hc : l0_6.length ≤ c0_6) (henc : edit_Encode.f k a0_0 a0_1 a0_2 a0_3 a0_4 a0_5 l0_6 = some (b, 0)) (hb : b.toList = bytes.toList) :
    Calls Try.prog 11 #[.pointer (some ⟨B, 0, none⟩), .int .i64 cl, .int .i64 ca, .agg #[.int .i64 a0_0, .string a0_1, .string a0_2, .int .i64 a0_3, .int .i64 a0_4, .int .i64 a0_5, .slice A0_6 l0_6.length c0_6]] W fun e w' => ∃ B4 d4 B8 d8, e = .returned (.tuple #[.agg #[.int .i64 err, .int .i64 b0, .int .i64 b1, .int .i64 b2, .slice B4 names.length d4, .string path, .bool dir, .int .i64 quota, .slice B8 blocks.length d8, .int .i64 writer, .int .i64 n], .bool true, .int .i64 0]) ∧ Kd.R Kd.string 9 w' W.heap.size (fun _ => True) (.slice B4 names.length d4) names ∧ Kd.R k32 32 w' W.heap.size (fun _ => True) (.slice B8 blocks.length d8) blocks ∧ Below W.heap.size W w' := by
  have hu28 := Try.underlying28
  have hu32 := Try.underlying32
  have hu36 := Try.underlying36
  have hu38 := Try.underlying38
  have hu62 := Try.underlying62
  have hu64 := Try.underlying64
  have hu66 := Try.underlying66
  have hM := Aside0.mk h
  have hft := Aside0.mk (h.fits _ he)
  have he := Aside0.mk he
  have hr := Aside0.mk hr
  have hc := Aside0.mk hc
  have henc := Aside0.mk henc
  obtain ⟨bad, hbad⟩ : ∃ bad : Int, bad = 0 := ⟨0, rfl⟩
  rw [← hbad] at henc
  have c3 : (bad == 0) = true := by simp [hbad]
  have c4' : (bad != 0) = false := by simp [hbad]
  have c0 : (b.toList == bytes.toList) = true := by simp [hb]
  have c1 : (b.toList != bytes.toList) = false := by simp [hb]
  have c2 : decide (b.toList = bytes.toList) = true := by simp [hb]
  clear hb h hbad
  go_enter Try.func11, Try.ntmps11
  go_wp2_with (first | ((with_reducible refine gate_dst (N := 7) rfl ?_); refine box_event ?hg7 (N := 7) ?hd7 (cs := #[.int .i64 a0_0, .string a0_1, .string a0_2, .int .i64 a0_3, .int .i64 a0_4, .int .i64 a0_5, .slice A0_6 l0_6.length c0_6]) (t := 28) ?hr7 ?_; (case hd7 => rfl); (case hg7 => rfl); (case hr7 => first | (go_simp; done) | (go_simp; rfl)); intro g7 hg7 w7 hbox7 hb7; have G7 := Aside0.mk hg7; clear hg7) | ((with_reducible refine gate_dst (N := 8) rfl ?_); refine box_event ?hg8 (N := 8) ?hd8 (cs := #[.int .i64 0, .int .i64 0, .int .i64 0, .int .i64 0, .slice none 0 0, .string ⟨#[]⟩, .bool false, .int .i64 0, .slice none 0 0, .int .i64 0, .int .i64 0]) (t := 38) ?hr8 ?_; (case hd8 => rfl); (case hg8 => rfl); (case hr8 => first | (go_simp; done) | (go_simp; rfl)); intro g8 hg8 w8 hbox8 hb8; have G8 := Aside0.mk hg8; clear hg8; have q7 := (hb8.block g7 (blk_lt hbox7)).trans hbox7; have hS := (hM.out.below hb7).below hb8; have xm : w8.cell? ⟨B, 0, none⟩ = some (.map (some bm)) := (blk_cell hS.at_ 0).trans rfl; obtain ⟨v4, v8, hAV, hlk⟩ := hS.look_hit he.out; obtain ⟨A4, c4, rfl⟩ := Kd.R_slice hAV.1; obtain ⟨A8, c8, rfl⟩ := Kd.R_slice hAV.2; have HAV := Aside0.mk hAV; have hlook : (Instr.lookup 59 (.map (some bm)) (.agg #[.int .i64 cl, .int .i64 ca]) true).run Try.prog w8 = .ok (.tuple #[.agg #[.string bytes, .int .i64 err, .int .i64 b0, .int .i64 b1, .int .i64 b2, .slice A4 names.length c4, .string path, .bool dir, .int .i64 quota, .slice A8 blocks.length c8, .int .i64 writer, .int .i64 n], .bool true]) w8 := hlk; clear hS hAV hlk) | ((with_reducible refine gate_dst (N := 11) rfl ?_); refine box_event ?hg11 (N := 11) ?hd11 (cs := #[.string ⟨#[]⟩, .int .i64 0, .int .i64 0, .int .i64 0, .int .i64 0, .slice none 0 0, .string ⟨#[]⟩, .bool false, .int .i64 0, .slice none 0 0, .int .i64 0, .int .i64 0]) (t := 66) ?hr11 ?_; (case hd11 => rfl); (case hg11 => rfl); (case hr11 => first | (go_simp; done) | (go_simp; rfl)); intro g11 hg11 w11 hbox11 hb11; have G11 := Aside0.mk hg11; clear hg11; have p8 := (hb11.block g8 (blk_lt hbox8)).trans hbox8; have p7 := (hb11.block g7 (blk_lt q7)).trans q7; have ne8 : g8 ≠ g11 := Nat.ne_of_lt (Nat.lt_of_lt_of_eq (blk_lt hbox8) G11.out.symm); have ne7 : g7 ≠ g11 := Nat.ne_of_lt (Nat.lt_of_lt_of_eq (blk_lt q7) G11.out.symm)) | ((with_reducible refine gate_store (t := 66) (p := 11) rfl ?_); refine wpList_store_all rfl rfl 66 (.tmp 11) _ rfl (g := g11) rfl [.string bytes, .int .i64 err, .int .i64 b0, .int .i64 b1, .int .i64 b2, .slice A4 names.length c4, .string path, .bool dir, .int .i64 quota, .slice A8 blocks.length c8, .int .i64 writer, .int .i64 n] rfl hbox11 size66 rfl rfl ?_; intro w12 h12 d12; have o8 := (d12.block g8 (blk_lt p8) ne8).trans p8; have o7 := (d12.block g7 (blk_lt p7) ne7).trans p7) | ((with_reducible refine gate_ (.load 28 (.tmp 7)) rfl ?_); refine wpList_load_all rfl 28 (.tmp 7) rfl (g := g7) (off := 0) rfl [.int .i64 a0_0, .string a0_1, .string a0_2, .int .i64 a0_3, .int .i64 a0_4, .int .i64 a0_5, .slice A0_6 l0_6.length c0_6] o7 agg28 size28 rfl ?_) | (go_at_call 13; refine (edit_Encode.calls k a0_0 a0_1 a0_2 a0_3 a0_4 a0_5 A0_6 c0_6 l0_6 b bad _ (Kd.C_below hr.out (gr_one (below_step (below_step hb7 hb8) hb11) d12 (Nat.le_trans (Nat.le_trans hb7.size hb8.size) (Nat.le_of_eq G11.out.symm)))) hc.out henc.out).mono ?_; rintro e_ w14 ⟨rfl, hb14⟩; have p11 := (hb14.block g11 (blk_lt h12)).trans h12; have p8b := (hb14.block g8 (blk_lt o8)).trans o8; have xb : w14.cell? ⟨g11, 0, none⟩ = some (.string bytes) := (blk_cell p11 0).trans rfl) | ((with_reducible refine gate_ (.load 38 (.tmp 43)) rfl ?_); refine wpList_load_all rfl 38 (.tmp 43) rfl (g := g11) (off := 1) rfl [.int .i64 err, .int .i64 b0, .int .i64 b1, .int .i64 b2, .slice A4 names.length c4, .string path, .bool dir, .int .i64 quota, .slice A8 blocks.length c8, .int .i64 writer, .int .i64 n] p11 agg38 size38 rfl ?_) | (go_at_call 21; refine (copied_calls ⟨err, b0, b1, b2, names, path, dir, quota, blocks, writer, n⟩ hft.out A4 A8 c4 c8 _ (Kd.C_below (Kd.R_reads' HAV.out.1).2.2 (below_step (gr_one hb11 d12 (Nat.le_of_eq G11.out.symm)) hb14)) (Kd.R_reads' HAV.out.1).2.1 (Kd.C_below (Kd.R_reads' HAV.out.2).2.2 (below_step (gr_one hb11 d12 (Nat.le_of_eq G11.out.symm)) hb14)) (Kd.R_reads' HAV.out.2).2.1).mono ?_; rintro e_ w16 ⟨B4, d4, B8, d8, rfl, hR4, hR8, hb16⟩; have HR4 := Aside0.mk hR4; have HR8 := Aside0.mk hR8; clear hR4 hR8; have p8c := (hb16.block g8 (blk_lt p8b)).trans p8b) | ((with_reducible refine gate_store (t := 38) (p := 8) rfl ?_); refine wpList_store_all rfl rfl 38 (.tmp 8) _ rfl (g := g8) rfl [.int .i64 err, .int .i64 b0, .int .i64 b1, .int .i64 b2, .slice B4 names.length d4, .string path, .bool dir, .int .i64 quota, .slice B8 blocks.length d8, .int .i64 writer, .int .i64 n] rfl p8c size38 rfl rfl ?_; intro w17 h17 d17; have r0 : w17.cell? ⟨g8, 0, none⟩ = some (.int .i64 err) := (blk_cell h17 0).trans rfl; have r1 : w17.cell? ⟨g8, 1, none⟩ = some (.int .i64 b0) := (blk_cell h17 1).trans rfl; have r2 : w17.cell? ⟨g8, 2, none⟩ = some (.int .i64 b1) := (blk_cell h17 2).trans rfl; have r3 : w17.cell? ⟨g8, 3, none⟩ = some (.int .i64 b2) := (blk_cell h17 3).trans rfl; have r4 : w17.cell? ⟨g8, 4, none⟩ = some (.slice B4 names.length d4) := (blk_cell h17 4).trans rfl; have r5 : w17.cell? ⟨g8, 5, none⟩ = some (.string path) := (blk_cell h17 5).trans rfl; have r6 : w17.cell? ⟨g8, 6, none⟩ = some (.bool dir) := (blk_cell h17 6).trans rfl; have r7 : w17.cell? ⟨g8, 7, none⟩ = some (.int .i64 quota) := (blk_cell h17 7).trans rfl; have r8 : w17.cell? ⟨g8, 8, none⟩ = some (.slice B8 blocks.length d8) := (blk_cell h17 8).trans rfl; have r9 : w17.cell? ⟨g8, 9, none⟩ = some (.int .i64 writer) := (blk_cell h17 9).trans rfl; have r10 : w17.cell? ⟨g8, 10, none⟩ = some (.int .i64 n) := (blk_cell h17 10).trans rfl))
  (try simp only [Exit.inBlock, Exit.then])
  refine bodyPost_ret (by simp [results, Try.results11, go_sem, r0, r1, r2, r3, r4, r5, r6, r7, r8, r9, r10]; try rfl) rfl ?_
  have s8 : W.heap.size ≤ g8 := Nat.le_trans hb7.size (Nat.le_of_eq G8.out.symm)
  have s11 : W.heap.size ≤ g11 := Nat.le_trans (Nat.le_trans hb7.size hb8.size) (Nat.le_of_eq G11.out.symm)
  have B12 := gr_one (below_step (below_step hb7 hb8) hb11) d12 s11
  have B14 := below_step B12 hb14
  refine ⟨B4, d4, B8, d8, rfl, ?_, ?_, gr_one (below_step B14 hb16) d17 s8⟩
  · exact R_gr (Kd.R_lower HR4.out B14.size) d17 (fun i c q hi hc => by subst hi; rw [p8c] at hc; injection hc with hc; injection hc with _ hc; rw [← hc]; decide)
  · exact R_gr (Kd.R_lower HR8.out B14.size) d17 (fun i c q hi hc => by subst hi; rw [p8c] at hc; injection hc with hc; injection hc with _ hc; rw [← hc]; decide)
end Go.Proofs.Ytjailboidlmadaa.P
end
