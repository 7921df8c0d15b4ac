/- slices.DeleteFunc at a row of keys, over whatever predicate its closure answers: those of which it says no stay, in their order, in the same block. -/
import Derived.Test.YtjailboidlmadaaRtC
namespace Go.Proofs.Ytjailboidlmadaa.P
open Go.RowKit Go.Maps Go.WideMaps Go.Proofs.YtjailboidlmadaaW.PrintWords Go.Proofs.YtjailboidlmadaaW.PrintLast Go.Proofs.YtjailboidlmadaaW.PrintMore
attribute [local go_sem] max2_int min2_int max_two min_two max_three min_three max_four min_four
set_option linter.unusedVariables false
set_option linter.unusedSimpArgs false

theorem KB.there {W : World} {g off cap : Nat} {ks : List (Int × Int)} {cells : Array Value} (h : KB W g off cap ks cells) {i : Nat} (hi : i < cap) : ∃ u, W.cell? ⟨g, off + i * 2, none⟩ = some u := by
  obtain ⟨u, hu, _⟩ := h.cell (i * 2) (by omega)
  exact ⟨u, hu⟩
theorem KB.there1 {W : World} {g off cap : Nat} {ks : List (Int × Int)} {cells : Array Value} (h : KB W g off cap ks cells) {i : Nat} (hi : i < cap) : ∃ u, W.cell? ⟨g, off + i * 2 + 1, none⟩ = some u := by
  obtain ⟨u, hu, _⟩ := h.cell (i * 2 + 1) (by omega)
  exact ⟨u, by rw [Nat.add_assoc]; exact hu⟩
theorem zero_cells2 (n : Nat) : ∀ u ∈ (Builtin.zeroCells (Value.agg #[.int .i64 0, .int .i64 0]).cells n).toList, u.oneCell' = true := by
  intro u hu
  obtain ⟨i, hi, rfl⟩ := List.mem_iff_getElem.1 hu
  simp [Builtin.zeroCells, Value.cells]
  rcases (by omega : i % 2 = 0 ∨ i % 2 = 1) with h | h <;> simp [h] <;> rfl
theorem run_clear64 (W : World) (g o n c : Nat) (hn : 0 < n) (hc : ∀ j, j < n * 2 → (W.cell? ⟨g, o + j, none⟩).isSome = true) (hf : ∀ j, j < n * 2 → W.frozen? ⟨g, o + j, none⟩ = false) (ty : TypeId) :
    (Builtin.clear_ #[60] ty #[.slice (some ⟨g, o, none⟩) n c]).run Try.prog W = .ok (.tuple #[]) (W.setCells g o (Builtin.zeroCells (Value.agg #[.int .i64 0, .int .i64 0]).cells n).toList) := by
  have hlen : (Builtin.zeroCells (Value.agg #[.int .i64 0, .int .i64 0]).cells n).toList.length = n * 2 := by
    rw [Array.length_toList, size_zeroCells]; rfl
  have hst := run_storeCells_cells (P := Try.prog) g o (Builtin.zeroCells (Value.agg #[.int .i64 0, .int .i64 0]).cells n).toList 0 W (fun j hj => by rw [hlen] at hj; simpa using hc j hj) (fun j hj => by rw [hlen] at hj; simpa using hf j hj) (zero_cells2 n)
  simp only [Nat.add_zero] at hst
  obtain ⟨m, rfl⟩ : ∃ m, n = m + 1 := ⟨n - 1, by omega⟩
  simp [Builtin.clear_, run_underlying Try.underlying60, zero64, hst]

theorem filter_step {p : Int × Int → Bool} {ks : List (Int × Int)} {j : Nat} {q : Int × Int} (hq : ks[j]? = some q) : (ks.take (j + 1)).filter (fun k => !p k) = (ks.take j).filter (fun k => !p k) ++ (if p q = true then [] else [q]) := by
  have hlt : j < ks.length := (List.getElem?_eq_some_iff.1 hq).1
  have he := (List.getElem?_eq_some_iff.1 hq).2
  rw [List.take_succ_eq_append_getElem hlt, List.filter_append, he]
  congr 1
  cases h : p q <;> simp [h]
/-- the row in the middle of DeleteFunc: the first i are those that stay of the first j; behind j all is as it was -/
structure Mid (p : Int × Int → Bool) (ks : List (Int × Int)) (i j : Nat) (cur : List (Int × Int)) : Prop where
  len : cur.length = ks.length
  lt : i < j
  le : j ≤ ks.length
  head : cur.take i = (ks.take j).filter (fun k => !p k)
  rest : ∀ m, j ≤ m → cur[m]? = ks[m]?
theorem Mid.start {p : Int × Int → Bool} {ks : List (Int × Int)} {i : Nat} {q : Int × Int} (h : ∀ j k, j < i → ks[j]? = some k → p k = false) (hi : ks[i]? = some q) (hq : p q = true) : Mid p ks i (i + 1) ks := by
  have hlt : i < ks.length := (List.getElem?_eq_some_iff.1 hi).1
  refine ⟨rfl, by omega, by omega, ?_, fun _ _ => rfl⟩
  rw [filter_step hi, if_pos hq, List.append_nil, List.filter_eq_self.2]
  intro x hx
  obtain ⟨m, hm, rfl⟩ := List.mem_iff_getElem.1 hx
  rw [List.length_take] at hm
  have := h m (ks[m]'(by omega)) (by omega) (List.getElem?_eq_getElem (by omega))
  rw [List.getElem_take, this]; rfl
theorem Mid.drop {p : Int × Int → Bool} {ks cur : List (Int × Int)} {i j : Nat} {q : Int × Int} (h : Mid p ks i j cur) (hj : ks[j]? = some q) (hq : p q = true) : Mid p ks i (j + 1) cur := by
  have hlt : j < ks.length := (List.getElem?_eq_some_iff.1 hj).1
  have := h.lt
  refine ⟨h.len, by omega, by omega, ?_, fun m hm => h.rest m (by omega)⟩
  rw [filter_step hj, if_pos hq, List.append_nil]
  exact h.head
theorem Mid.keep {p : Int × Int → Bool} {ks cur : List (Int × Int)} {i j : Nat} {q : Int × Int} (h : Mid p ks i j cur) (hj : ks[j]? = some q) (hq : p q = false) : Mid p ks (i + 1) (j + 1) (cur.set i q) := by
  have hlt : j < ks.length := (List.getElem?_eq_some_iff.1 hj).1
  have := h.lt
  have hl := h.len
  refine ⟨by rw [List.length_set]; exact hl, by omega, by omega, ?_, fun m hm => ?_⟩
  · rw [filter_step hj, if_neg (by rw [hq]; decide), ← h.head, List.take_succ_eq_append_getElem (by rw [List.length_set]; omega), List.getElem_set_self, List.take_set_of_le (Nat.le_refl _)]
  · rw [List.getElem?_set_ne (by omega)]
    exact h.rest m (by omega)
theorem idxOf_cases (p : Int × Int → Bool) (ks : List (Int × Int)) : (idxOf p ks = -1 ∧ ks.filter (fun k => !p k) = ks) ∨ ∃ (i : Nat) (q : Int × Int), idxOf p ks = i ∧ ks[i]? = some q ∧ p q = true ∧ ∀ (j : Nat) (k : Int × Int), j < i → ks[j]? = some k → p k = false := by
  cases hf : ks.findIdx? p with
  | none =>
    rw [List.findIdx?_eq_none_iff] at hf
    refine .inl ⟨idxOf_miss (fun j k hk => hf k (List.mem_of_getElem? hk)), List.filter_eq_self.2 (fun x hx => by rw [hf x hx]; rfl)⟩
  | some i =>
    rw [List.findIdx?_eq_some_iff_getElem] at hf
    obtain ⟨hi, h1, h2⟩ := hf
    have hn : ∀ (j : Nat) (k : Int × Int), j < i → ks[j]? = some k → p k = false := fun j k hj hk => by
      have := h2 j hj
      rw [(List.getElem?_eq_some_iff.1 hk).2] at this
      simpa using this
    exact .inr ⟨i, _, idxOf_hit hn (List.getElem?_eq_getElem hi) h1, List.getElem?_eq_getElem hi, h1, hn⟩
set_option maxHeartbeats 4000000 in
theorem idxf_nil (gg : Nat) (cb : Array Value) (W : World) : Calls Try.prog 31 #[.slice none 0 0, .func (.func gg) #[] cb] W fun e w' => e = .returned (.int .i64 (-1)) ∧ w' = W := by
  go_enter Try.func31, Try.ntmps31
  go_wp2
  go_rounds 1
  go_ret
  exact ⟨rfl, rfl⟩
set_option maxHeartbeats 4000000 in
theorem delf_nil (gg : Nat) (cb : Array Value) (W : World) : Calls Try.prog 19 #[.slice none 0 0, .func (.func gg) #[] cb] W fun e w' => e = .returned (.slice none 0 0) ∧ w' = W := by
  go_enter Try.func19, Try.ntmps19
  go_wp2_with (go_at_call 31; refine (idxf_nil gg cb _).mono ?_; rintro e w' ⟨rfl, rfl⟩)
  go_ret
  exact ⟨rfl, rfl⟩
set_option maxHeartbeats 4000000 in
set_option maxRecDepth 100000 in
theorem delf_block {W : World} {g off cap gg : Nat} {ks : List (Int × Int)} {cells : Array Value} {cb : Array Value} {p : Int × Int → Bool} (h : KB W g off cap ks cells) (hl : ks.length ≤ 1099511627776)
    (eg : ∀ args w, (callFunc gg args).run Try.prog w = .ok (.enter gg args) w) (hp : Says gg cb p (fun i => i = g) W) :
    Calls Try.prog 19 #[.slice (some ⟨g, off, none⟩) ks.length cap, .func (.func gg) #[] cb] W fun e w' => ∃ m, e = .returned (.slice (some ⟨g, off, none⟩) m cap) ∧ m = (ks.filter fun k => !p k).length ∧ (∃ cells', KB w' g off cap (ks.filter fun k => !p k) cells') ∧ Gr (fun i => i = g) W w' := by
  have hu64 := Try.underlying64
  have hidx := idxf_calls (S := fun i => i = g ∧ False) h (fun hh => hh.2) hl eg (fun W' k hg => hp W' k (hg.mono (fun i hi => hi.2.elim)))
  rcases idxOf_cases p ks with ⟨e1, e2⟩ | ⟨i0, q0, e1, hi0, hq0, hlow⟩
  · rw [e1] at hidx
    rw [e2]
    have HK := Aside0.mk h
    clear h hp e1 e2
    go_enter Try.func19, Try.ntmps19
    go_wp2_with (go_at_call 31; refine hidx.mono ?_; rintro e w' ⟨rfl, hb⟩)
    go_ret
    exact ⟨_, rfl, rfl, ⟨_, HK.out.step (hb.block g HK.out.lt)⟩, Gr.of_below hb⟩
  · rw [e1] at hidx
    have HK := Aside0.mk h
    have HP := Aside0.mk hp
    have HL := Aside0.mk hl
    have HM := Aside0.mk (Mid.start hlow hi0 hq0)
    have hlt0 : i0 < ks.length := (List.getElem?_eq_some_iff.1 hi0).1
    have hne : ¬ ((i0 : Int) = -1) := by omega
    have hadd : wrap64 ((i0 : Int) + 1) = ((i0 + 1 : Nat) : Int) := by unfold wrap64; omega
    clear h hp hlow hi0 hq0 e1 hl
    go_enter Try.func19, Try.ntmps19
    go_wp2_with (go_at_call 31; refine hidx.mono ?_; rintro e w' ⟨rfl, hb⟩)
    have HB0 := Aside0.mk hb
    clear hidx hb
    rename_i hx1 hx2 hx3
    clear hx1 hne
    have HADD := Aside0.mk hadd
    clear hadd
    go_loopg [5, 6] (ks.length + 1) (fun gq v5 v6 wr => ∃ (i j : Nat) (cur : List (Int × Int)) (cells' : Array Value), v5 = .int .i64 i ∧ v6 = .int .i64 j ∧ Aside0 (gq + j = ks.length + 1 + (i0 + 1)) ∧ Aside0 (Mid p ks i j cur) ∧ Aside0 (KB wr g off cap cur cells') ∧ Aside0 (Gr (fun i => i = g) W wr))
    case atStart => exact ⟨i0, i0 + 1, ks, cells, rfl, by rw [HADD.out], ⟨rfl⟩, HM, ⟨HK.out.step (HB0.out.block g HK.out.lt)⟩, ⟨Gr.of_below HB0.out⟩⟩
    case round =>
      obtain ⟨i, j, cur, cells', rfl, rfl, HG, HJ, HC, HR⟩ := hrel
      by_cases hlt : j < ks.length
      · obtain ⟨⟨q1, q2⟩, hq⟩ : ∃ q, ks[j]? = some q := ⟨_, List.getElem?_eq_getElem hlt⟩
        have hcur : cur[j]? = some (q1, q2) := (HJ.out.rest j (Nat.le_refl _)).trans hq
        obtain ⟨x1, x2⟩ := HC.out.key hcur
        have hcall : ∀ o, Calls Try.prog gg (#[.agg #[.int .i64 q1, .int .i64 q2]] ++ cb) (wr.alloc o) fun e w' => e = .returned (.bool (p (q1, q2))) ∧ Below (wr.alloc o).heap.size (wr.alloc o) w' := fun o => HP.out _ (q1, q2) (HR.out.alloc o)
        have HQ := Aside0.mk hq
        have hltz : (j : Int) < (ks.length : Int) := by omega
        have hj0 : (0 : Int) ≤ (j : Int) := by omega
        have hlen := HJ.out.len
        have hlt2 := HJ.out.lt
        have hcap := HC.out.le
        have hltc : (j : Int) < (cur.length : Int) := by omega
        clear hq hcur
        dsimp only at x1 x2
        have hi0 : (0 : Int) ≤ (i : Int) := by omega
        have hilt : (i : Int) < (ks.length : Int) := by omega
        have hG := HR.out.size
        have hgl := HC.out.lt
        cases hv : p (q1, q2) with
        | true =>
          rw [hv] at hcall
          go_wp2_with (go_at_fn gg; refine (hcall _).mono ?_; rintro e w' ⟨rfl, hb'⟩)
          go_roundg (gk - 1)
          case measure => have := HG.out; omega
          case rel =>
            have hbb : w'.heap[g]? = wr.heap[g]? := (hb'.block g (by rw [World.size_alloc]; omega)).trans (Below.heap_alloc wr _ g hgl)
            exact ⟨i, j + 1, cur, cells', rfl, next_int hlt HL.out, ⟨by have := HG.out; omega⟩, ⟨HJ.out.drop HQ.out hv⟩, ⟨HC.out.step hbb⟩, ⟨(HR.out.alloc _).then_ (S' := fun i => i = g) (Gr.of_below hb') (fun i hi => .inl hi)⟩⟩
        | false =>
          rw [hv] at hcall
          go_wp2_with (go_at_fn gg; refine (hcall _).mono ?_; rintro e w' ⟨rfl, hb'⟩; have hbb : w'.heap[g]? = wr.heap[g]? := (hb'.block g (by rw [World.size_alloc]; omega)).trans (Below.heap_alloc wr _ g hgl); have HC2 := Aside0.mk (HC.out.step hbb); have y1 := HC2.out.there (i := i) (by omega); have y2 := HC2.out.there1 (i := i) (by omega); have z1 : w'.cell? ⟨wr.heap.size, 0, none⟩ = some (.int .i64 q1) := by { rw [World.cell?_of_block (a := ⟨wr.heap.size, 0, none⟩) (hb'.block _ (by rw [World.size_alloc]; exact Nat.lt_succ_self _))]; exact World.cell?_alloc_new wr _ _ 0 }; have z2 : w'.cell? ⟨wr.heap.size, 1, none⟩ = some (.int .i64 q2) := by { rw [World.cell?_of_block (a := ⟨wr.heap.size, 1, none⟩) (hb'.block _ (by rw [World.size_alloc]; exact Nat.lt_succ_self _))]; exact World.cell?_alloc_new wr _ _ 1 }; have f1 := HC2.out.frozen (off + i * 2); have f2 := HC2.out.frozen (off + i * 2 + 1); obtain ⟨u1, y1⟩ := y1; obtain ⟨u2, y2⟩ := y2)
          obtain ⟨c2, hK2⟩ := HC2.out.put (i := i) (by omega) (q1, q2) (ks' := cur.set i (q1, q2)) (by rw [List.length_set]; omega) (fun m k' hm => by
            by_cases e : m = i
            · subst e
              rw [List.getElem?_set_self (by omega)] at hm
              exact .inl ⟨rfl, (Option.some.inj hm).symm⟩
            · rw [List.getElem?_set_ne (Ne.symm e)] at hm
              exact .inr ⟨e, hm⟩)
          go_roundg (gk - 1)
          case measure => have := HG.out; omega
          case rel =>
            refine ⟨i + 1, j + 1, cur.set i (q1, q2), c2, next_int (by omega) HL.out, next_int hlt HL.out, ⟨by have := HG.out; omega⟩, ⟨HJ.out.keep HQ.out hv⟩, ⟨hK2⟩, ⟨?_⟩⟩
            exact (((HR.out.alloc _).then_ (S' := fun i => i = g) (Gr.of_below hb') (fun i hi => .inl hi)).set _ (.inl rfl)).set _ (.inl rfl)
      · obtain rfl : j = ks.length := by have := HJ.out.le; omega
        have hltz : ¬ (ks.length : Int) < (ks.length : Int) := by omega
        have hlen := HJ.out.len
        have hlt2 := HJ.out.lt
        have hcap := HC.out.le
        have hi0 : (0 : Int) ≤ (i : Int) := by omega
        have hile : (i : Int) ≤ (ks.length : Int) := by omega
        have hic : (i : Int) ≤ (cap : Int) := by omega
        have hcl : ∀ ty, (Builtin.clear_ #[60] ty #[.slice (some ⟨g, off + i * 2, none⟩) (ks.length - i) (cap - i)]).run Try.prog wr = .ok (.tuple #[]) _ := fun ty => run_clear64 wr g (off + i * 2) (ks.length - i) (cap - i) (by omega) (fun m hm => by
          obtain ⟨u, hu, _⟩ := HC.out.cell (i * 2 + m) (by omega)
          rw [Nat.add_assoc, hu]; rfl) (fun m hm => HC.out.frozen _) ty
        obtain ⟨c2, hK2⟩ := HC.out.tail i (Builtin.zeroCells (Value.agg #[.int .i64 0, .int .i64 0]).cells (ks.length - i)).toList
        have HK2 := Aside0.mk hK2
        clear hK2
        go_wp2
        go_ret
        have hm : (ks.filter fun k => !p k).length = i := by
          have := congrArg List.length HJ.out.head
          rw [List.length_take, List.take_of_length_le (Nat.le_refl _)] at this
          omega
        have hh : cur.take i = ks.filter fun k => !p k := by
          have := HJ.out.head
          rwa [List.take_of_length_le (Nat.le_refl _)] at this
        rw [hh] at HK2
        exact ⟨i, rfl, hm.symm, ⟨c2, HK2.out⟩, HR.out.setCells _ (.inl rfl)⟩
/-- slices.DeleteFunc at a row of keys -/
theorem delf_calls {W : World} {D : Nat → Prop} {v : Value} {gg : Nat} {ks : List (Int × Int)} {cb : Array Value} {p : Int × Int → Bool} (h : KR W D v ks) (hl : ks.length ≤ 1099511627776)
    (eg : ∀ args w, (callFunc gg args).run Try.prog w = .ok (.enter gg args) w) (hp : Says gg cb p (fun i => some i = v.ownBlock) W) :
    Calls Try.prog 19 #[v, .func (.func gg) #[] cb] W fun e w' => ∃ A n cap, e = .returned (.slice A n cap) ∧ KR w' D (.slice A n cap) (ks.filter fun k => !p k) ∧ Gr (fun i => some i = v.ownBlock) W w' := by
  rcases h with ⟨rfl, rfl⟩ | ⟨g, off, cap, cells, rfl, hg, h⟩
  · refine (delf_nil gg cb W).mono ?_
    rintro e w' ⟨rfl, rfl⟩
    exact ⟨none, 0, 0, rfl, .inl ⟨rfl, rfl⟩, Gr.refl _ _⟩
  · have hs : (fun i => some i = (Value.slice (some ⟨g, off, none⟩) ks.length cap).ownBlock) = fun i => i = g := by
      funext i
      simp [Value.ownBlock]
    rw [hs] at hp ⊢
    refine (delf_block h hl eg hp).mono ?_
    rintro e w' ⟨m, rfl, rfl, ⟨c, hc⟩, hgr⟩
    exact ⟨_, _, _, rfl, .inr ⟨g, off, cap, c, rfl, hg, hc⟩, hgr⟩
end Go.Proofs.Ytjailboidlmadaa.P
