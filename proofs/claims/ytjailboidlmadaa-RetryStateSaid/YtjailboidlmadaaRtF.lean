/- A cache's memory: its struct, its map, its row of keys, and the answers' own rows; what reads and stores of the map do to it. -/
import Derived.Test.YtjailboidlmadaaRtE
namespace Go.Proofs.Ytjailboidlmadaa.P
open Go.RowKit Go.Maps Go.WideMaps Go.Proofs.YtjailboidlmadaaW.PrintWords Go.Proofs.YtjailboidlmadaaW.PrintLast Go.Proofs.YtjailboidlmadaaW.PrintMore
set_option linter.unusedVariables false
set_option linter.unusedSimpArgs false

/-- what is kept of a call -/
structure Ent where
  key : Int × Int
  bytes : ByteArray
  a : Ans
/-- how an element of the map reads: as itself -/
def RV (v : Value) : Option (DataW Value × List MemPlace) := some (.held v, [])
/-- the element's value -/
def dv (b : ByteArray) (a : Ans) (v4 v8 : Value) : Value := .agg (Value.string b :: a.cells v4 v8).toArray
/-- an answer's two rows are the cache's own -/
def AnsV (W : World) (D : Nat → Prop) (a : Ans) (v4 v8 : Value) : Prop := Kd.R Kd.string 9 W 0 D v4 a.names ∧ Kd.R k32 32 W 0 D v8 a.blocks
def ans0 : Ans := ⟨0, 0, 0, 0, [], ⟨#[]⟩, false, 0, [], 0, 0⟩
def zv66 : Value := dv ⟨#[]⟩ ans0 (.slice none 0 0) (.slice none 0 0)
theorem zero66 (w : World) : (zeroValue 66).run Try.prog w = .ok zv66 w := by kernel_rfl

/-- the memory: os are the keys in their order, es is what the map holds -/
structure StM (W : World) (B : Nat) (D : Nat → Prop) (N : Nat) (bm : Nat) (sl : Value) (DM : DataW Value) (os : List (Int × Int)) (es : List Ent) : Prop where
  hB : D B
  hbm : D bm
  at_ : W.heap[B]? = some (.cells #[.map (some bm), sl] 62 (0, 0))
  map : W.ownsMap Try.prog 64 RV bm N DM
  ord : KR W D sl os
  nodup : (es.map Ent.key).Nodup
  wf : ∀ e ∈ es, kwf e.key
  hit : ∀ e ∈ es, ∃ v4 v8, Maps.has DM (klit e.key) = true ∧ (∀ z, DM.atKey (klit e.key) z = .held (dv e.bytes e.a v4 v8)) ∧ AnsV W D e.a v4 v8
  miss : ∀ k, kwf k → k ∉ es.map Ent.key → Maps.has DM (klit k) = false
  fits : ∀ e ∈ es, e.a.fits

variable {W W' : World} {B N bm : Nat} {D D' : Nat → Prop} {sl : Value} {DM : DataW Value} {os : List (Int × Int)} {es : List Ent}

theorem AnsV.step {a : Ans} {v4 v8 : Value} (h : AnsV W D a v4 v8) (hD : ∀ i, D i → D' i) (hb : ∀ i c q, D i → W.heap[i]? = some (.cells c q (0, 0)) → (q = 9 ∨ q = 32) → W'.heap[i]? = W.heap[i]?) : AnsV W' D' a v4 v8 := by
  refine ⟨Kd.R_mono (Kd.R_step (Kd.R_bound h.1) (fun k ho _ => ?_)) (fun k hk => hD k hk.1), Kd.R_mono (Kd.R_step (Kd.R_bound h.2) (fun k ho _ => ?_)) (fun k hk => hD k hk.1)⟩
  · obtain ⟨hd, _, _, q, hq, c, hc⟩ := ho
    have : q = 9 := by
      have e : Kd.string.E = [] := rfl
      rw [e] at hq
      simpa using hq
    exact hb k c q hd hc (.inl this)
  · obtain ⟨hd, _, _, q, hq, c, hc⟩ := ho
    have : q = 32 := by
      have e : k32.E = [] := rfl
      rw [e] at hq
      simpa using hq
    exact hb k c q hd hc (.inr this)
theorem owns_step {k b n : Nat} {R : Value → Option (DataW Value × List MemPlace)} (h : W.ownsMap Try.prog k R b n DM) (hb : W'.heap[b]? = W.heap[b]?) : W'.ownsMap Try.prog k R b n DM := by
  obtain ⟨es, clock, h1, r⟩ := h
  exact ⟨es, clock, hb.trans h1, r⟩
theorem owns_at {k b n : Nat} {R : Value → Option (DataW Value × List MemPlace)} (h : W.ownsMap Try.prog k R b n DM) : ∃ es c, W.heap[b]? = some (.map es c) := by
  obtain ⟨es, clock, h1, r⟩ := h
  exact ⟨_, _, h1⟩
/-- the memory stays while what it stands on stays -/
theorem StM.step (h : StM W B D N bm sl DM os es) (hD : ∀ i, D i → D' i) (hB : W'.heap[B]? = W.heap[B]?) (hm : W'.heap[bm]? = W.heap[bm]?) (hb : ∀ i c q, D i → W.heap[i]? = some (.cells c q (0, 0)) → (q = 64 ∨ q = 9 ∨ q = 32) → W'.heap[i]? = W.heap[i]?) : StM W' B D' N bm sl DM os es :=
  ⟨hD _ h.hB, hD _ h.hbm, hB.trans h.at_, owns_step h.map hm, h.ord.step hD (fun i c hd hc => hb i c 64 hd hc (.inl rfl)), h.nodup, h.wf, fun e he => by
    obtain ⟨v4, v8, h1, h2, h3⟩ := h.hit e he
    exact ⟨v4, v8, h1, h2, h3.step hD (fun i c q hd hc hq => hb i c q hd hc (.inr hq))⟩, h.miss, h.fits⟩
theorem StM.ltB (h : StM W B D N bm sl DM os es) : B < W.heap.size := blk_lt h.at_
theorem StM.ltm (h : StM W B D N bm sl DM os es) : bm < W.heap.size := h.map.lt
theorem StM.ne (h : StM W B D N bm sl DM os es) : bm ≠ B := by
  rintro rfl
  obtain ⟨es, c, h1⟩ := owns_at h.map
  rw [h.at_] at h1
  cases h1
theorem StM.gr {S : Nat → Prop} (h : StM W B D N bm sl DM os es) (hg : Gr S W W') (hS : ∀ i, D i → ¬ S i) : StM W' B D N bm sl DM os es :=
  h.step (fun _ h => h) (hg.block _ h.ltB (hS _ h.hB)) (hg.block _ h.ltm (hS _ h.hbm)) (fun i c q hd hc _ => hg.block _ (blk_lt hc) (hS i hd))
theorem StM.below (h : StM W B D N bm sl DM os es) (hb : Below W.heap.size W W') : StM W' B D N bm sl DM os es := h.gr (S := fun _ => False) (Gr.of_below hb) (fun _ _ h => h)
theorem StM.bound (h : StM W B D N bm sl DM os es) : StM W B (fun i => D i ∧ i < W.heap.size) N bm sl DM os es :=
  ⟨⟨h.hB, h.ltB⟩, ⟨h.hbm, h.ltm⟩, h.at_, h.map, h.ord.bound, h.nodup, h.wf, fun e he => by
    obtain ⟨v4, v8, h1, h2, h3⟩ := h.hit e he
    exact ⟨v4, v8, h1, h2, Kd.R_mono (Kd.R_bound h3.1) (fun k hk => ⟨hk.1, hk.2.2.1⟩), Kd.R_mono (Kd.R_bound h3.2) (fun k hk => ⟨hk.1, hk.2.2.1⟩)⟩, h.miss, h.fits⟩
theorem StM.mono (h : StM W B D N bm sl DM os es) (hD : ∀ i, D i → D' i) : StM W B D' N bm sl DM os es := h.step hD rfl rfl (fun _ _ _ _ _ _ => rfl)

/-! ### the map is asked -/
theorem StM.look_hit (h : StM W B D N bm sl DM os es) {e : Ent} (he : e ∈ es) : ∃ v4 v8, AnsV W D e.a v4 v8 ∧ (Instr.lookup 59 (.map (some bm)) (kv e.key) true).run Try.prog W = .ok (.tuple #[dv e.bytes e.a v4 v8, .bool true]) W := by
  obtain ⟨v4, v8, h1, h2, h3⟩ := h.hit e he
  obtain ⟨v, ps, hr, hv⟩ := h.map.look_ok law64 Try.underlying59 (zero66 W) (zd := .held zv66) (zp := []) rfl (key_of (h.wf e he))
  rw [h2, h1] at *
  obtain rfl : v = dv e.bytes e.a v4 v8 := by
    unfold RV at hv
    injection hv with hv
    injection hv with hv _
    injection hv
  exact ⟨v4, v8, h3, hr⟩
theorem StM.look_miss (h : StM W B D N bm sl DM os es) {k : Int × Int} (hk : kwf k) (hn : k ∉ es.map Ent.key) : (Instr.lookup 59 (.map (some bm)) (kv k) true).run Try.prog W = .ok (.tuple #[zv66, .bool false]) W := by
  obtain ⟨v, ps, hr, hv⟩ := h.map.look_ok law64 Try.underlying59 (zero66 W) (zd := .held zv66) (zp := []) rfl (key_of hk)
  have hm := h.miss k hk hn
  rw [Maps.atKey_of_not_has hm] at hv
  rw [hm] at hr
  obtain rfl : v = zv66 := by
    unfold RV at hv
    injection hv with hv
    injection hv with hv _
    injection hv
  exact hr
/-! ### the map is written -/
theorem mem_keys {k : Int × Int} {es : List Ent} (h : k ∈ es.map Ent.key) : ∃ e ∈ es, e.key = k := by
  obtain ⟨e, he, rfl⟩ := List.mem_map.1 h
  exact ⟨e, he, rfl⟩
/-- all but the entry of key k -/
def noKey (k : Int × Int) (es : List Ent) : List Ent := es.filter fun e => !(e.key == k)
theorem noKey_mem {k : Int × Int} {es : List Ent} {e : Ent} : e ∈ noKey k es ↔ e ∈ es ∧ e.key ≠ k := by
  unfold noKey
  rw [List.mem_filter]
  simp
theorem noKey_keys (k : Int × Int) (es : List Ent) : (noKey k es).map Ent.key = (es.map Ent.key).filter fun x => !(x == k) := by
  unfold noKey
  rw [List.filter_map]
  rfl
theorem nodup_noKey {k : Int × Int} {es : List Ent} (h : (es.map Ent.key).Nodup) : ((noKey k es).map Ent.key).Nodup := by
  rw [noKey_keys]
  exact h.filter _
theorem turned_other {i : Nat} (ht : W.mapTurned W' bm) (hi : i ≠ bm) : W'.heap[i]? = W.heap[i]? := by
  obtain ⟨es, clock, es', clock', hb, rfl⟩ := ht
  exact ChangeMaps.heap_setBlock_other hb _ hi
theorem cells_ne_map (h : StM W B D N bm sl DM os es) {i q : Nat} {c : Array Value} (hc : W.heap[i]? = some (.cells c q (0, 0))) : i ≠ bm := by
  rintro rfl
  obtain ⟨_, _, h1⟩ := owns_at h.map
  rw [hc] at h1
  cases h1
theorem StM.put (h : StM W B D N bm sl DM os es) (hN : N < maxLen) {k : Int × Int} (hk : kwf k) (b : ByteArray) (a : Ans) (hf : a.fits) {v4 v8 : Value} (hv : AnsV W D a v4 v8) :
    ∃ W' DM', (Instr.mapUpdate 59 (.map (some bm)) (kv k) (dv b a v4 v8)).run Try.prog W = .ok () W' ∧ StM W' B D (N + 1) bm sl DM' os (noKey k es ++ [⟨k, b, a⟩]) ∧ Gr (fun i => i = bm) W W' := by
  obtain ⟨W', hr, ho, ht⟩ := h.map.store law64 Try.underlying59 hN (key_of hk) (val := dv b a v4 v8) (d := .held (dv b a v4 v8)) (ps := []) rfl
  have hfr : ∀ i c q, D i → W.heap[i]? = some (.cells c q (0, 0)) → (q = 9 ∨ q = 32) → W'.heap[i]? = W.heap[i]? := fun i c q _ hc _ => turned_other ht (cells_ne_map h hc)
  have hne : ∀ e ∈ noKey k es, klit e.key ≠ klit k := fun e he q => (noKey_mem.1 he).2 (klit_inj (h.wf e (noKey_mem.1 he).1) hk q)
  have hkey := (nodup_noKey (k := k) h.nodup)
  refine ⟨W', _, hr, ⟨h.hB, h.hbm, (turned_other ht (Ne.symm h.ne)).trans h.at_, ho, h.ord.step (fun _ h => h) (fun i c _ hc => turned_other ht (cells_ne_map h hc)), ?_, ?_, ?_, ?_, ?_⟩, (Gr.of_grown ht.grown).mono (fun i hi => .inl (by injection hi))⟩
  · rw [List.map_append, List.nodup_append]
    refine ⟨hkey, by simp, fun x hx y hy => ?_⟩
    rw [List.map_cons, List.map_nil, List.mem_singleton] at hy
    subst hy
    obtain ⟨e, he, rfl⟩ := mem_keys hx
    exact (noKey_mem.1 he).2
  · intro e he
    rcases List.mem_append.1 he with he | he
    · exact h.wf e (noKey_mem.1 he).1
    · rw [List.mem_singleton.1 he]; exact hk
  · intro e he
    rcases List.mem_append.1 he with he | he
    · obtain ⟨x4, x8, h1, h2, h3⟩ := h.hit e (noKey_mem.1 he).1
      exact ⟨x4, x8, by rw [Maps.has_put_other (hne e he)]; exact h1, fun z => by rw [Maps.atKey_put_other (hne e he)]; exact h2 z, h3.step (fun _ h => h) hfr⟩
    · rw [List.mem_singleton.1 he]
      exact ⟨v4, v8, Maps.has_put_same h.map.isMap (klit_key k) _, fun z => Maps.atKey_put_same h.map.isMap (klit_key k) _ z, hv.step (fun _ h => h) hfr⟩
  · intro k' hk' hn
    have hkk : klit k' ≠ klit k := fun q => hn (by rw [klit_inj hk' hk q]; simp)
    rw [Maps.has_put_other hkk]
    refine h.miss k' hk' (fun hm => hn ?_)
    obtain ⟨e, he, rfl⟩ := mem_keys hm
    rw [List.map_append]
    exact List.mem_append_left _ (List.mem_map_of_mem (noKey_mem.2 ⟨he, fun q => hkk (by rw [q])⟩))
  · intro e he
    rcases List.mem_append.1 he with he | he
    · exact h.fits e (noKey_mem.1 he).1
    · rw [List.mem_singleton.1 he]; exact hf
theorem StM.del (h : StM W B D N bm sl DM os es) {k : Int × Int} (hk : kwf k) (ty : TypeId) :
    ∃ W' DM', (Builtin.delete_ #[59, 64] ty #[.map (some bm), kv k]).run Try.prog W = .ok (.tuple #[]) W' ∧ StM W' B D N bm sl DM' os (noKey k es) ∧ Gr (fun i => i = bm) W W' := by
  obtain ⟨W', hr, ho, ht⟩ := h.map.drop law64 Try.underlying59 (key_of hk) ty
  have hfr : ∀ i c q, D i → W.heap[i]? = some (.cells c q (0, 0)) → (q = 9 ∨ q = 32) → W'.heap[i]? = W.heap[i]? := fun i c q _ hc _ => turned_other ht (cells_ne_map h hc)
  have hne : ∀ e ∈ noKey k es, klit e.key ≠ klit k := fun e he q => (noKey_mem.1 he).2 (klit_inj (h.wf e (noKey_mem.1 he).1) hk q)
  refine ⟨W', _, hr, ⟨h.hB, h.hbm, (turned_other ht (Ne.symm h.ne)).trans h.at_, ho, h.ord.step (fun _ h => h) (fun i c _ hc => turned_other ht (cells_ne_map h hc)), nodup_noKey h.nodup, fun e he => h.wf e (noKey_mem.1 he).1, ?_, ?_, fun e he => h.fits e (noKey_mem.1 he).1⟩, (Gr.of_grown ht.grown).mono (fun i hi => .inl (by injection hi))⟩
  · intro e he
    obtain ⟨x4, x8, h1, h2, h3⟩ := h.hit e (noKey_mem.1 he).1
    exact ⟨x4, x8, by rw [Maps.has_del_other (hne e he)]; exact h1, fun z => by rw [Maps.atKey_del_other (hne e he)]; exact h2 z, h3.step (fun _ h => h) hfr⟩
  · intro k' hk' hn
    by_cases hkk : klit k' = klit k
    · rw [hkk]; exact Maps.has_del_same
    · rw [Maps.has_del_other hkk]
      refine h.miss k' hk' (fun hm => hn ?_)
      obtain ⟨e, he, rfl⟩ := mem_keys hm
      exact List.mem_map_of_mem (noKey_mem.2 ⟨he, fun q => hkk (by rw [q])⟩)
/-- the order's field is another row -/
theorem StM.order (h : StM W B D N bm sl DM os es) {sl' : Value} {os' : List (Int × Int)} (hk : KR W D sl' os') : StM (W.setCell ⟨B, 1, none⟩ sl') B D N bm sl' DM os' es := by
  have hB := heap_setCell_same W B 1 _ 62 sl' h.at_
  have hne : ∀ i c q, D i → W.heap[i]? = some (.cells c q (0, 0)) → (q = 64 ∨ q = 9 ∨ q = 32) → (W.setCell ⟨B, 1, none⟩ sl').heap[i]? = W.heap[i]? := fun i c q _ hc hq => by
    refine Below.heap_setCell W ⟨B, 1, none⟩ sl' i (fun e => ?_)
    rw [e, h.at_] at hc
    injection hc with hc
    injection hc with _ hc
    rcases hq with rfl | rfl | rfl <;> cases hc
  refine ⟨h.hB, h.hbm, hB, owns_step h.map (Below.heap_setCell W ⟨B, 1, none⟩ sl' bm h.ne), hk.step (fun _ h => h) (fun i c hd hc => hne i c 64 hd hc (.inl rfl)), h.nodup, h.wf, fun e he => ?_, h.miss, h.fits⟩
  obtain ⟨v4, v8, h1, h2, h3⟩ := h.hit e he
  exact ⟨v4, v8, h1, h2, h3.step (fun _ h => h) (fun i c q hd hc hq => hne i c q hd hc (.inr hq))⟩
end Go.Proofs.Ytjailboidlmadaa.P
