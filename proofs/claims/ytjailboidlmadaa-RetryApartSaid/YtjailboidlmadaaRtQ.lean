/- retry.Forget: a client's old ones go. -/
import Derived.Test.YtjailboidlmadaaRtN
namespace Go.Proofs.Ytjailboidlmadaa.P
open Go.RowKit Go.Maps Go.WideMaps Go.Proofs.YtjailboidlmadaaW.PrintWords Go.Proofs.YtjailboidlmadaaW.PrintLast Go.Proofs.YtjailboidlmadaaW.PrintMore
attribute [local go_sem] max2_int min2_int max_two min_two max_three min_three max_four min_four
set_option linter.unusedVariables false
set_option linter.unusedSimpArgs false
variable {W : World} {B N bm : Nat} {D : Nat → Prop} {sl : Value} {DM : DataW Value} {os : List (Int × Int)} {es : List Ent}
/-- does it go? -/
def oldK (cl b : Int) (k : Int × Int) : Bool := k.1 == cl && decide (k.2 < b)
/-- what stays -/
def keepE (cl b : Int) (es : List Ent) : List Ent := es.filter fun e => !oldK cl b e.key
/-- the map behind j rounds -/
def partE (cl b : Int) (es : List Ent) (j : Nat) : List Ent := keepE cl b (es.take j) ++ es.drop j
theorem partE_zero (cl b : Int) (es : List Ent) : partE cl b es 0 = es := rfl
theorem partE_all (cl b : Int) (es : List Ent) : partE cl b es es.length = keepE cl b es := by
  unfold partE
  rw [List.take_length, List.drop_length, List.append_nil]
theorem partE_stay {cl b : Int} {es : List Ent} {j : Nat} {e : Ent} (he : es[j]? = some e) (ho : oldK cl b e.key = false) : partE cl b es (j + 1) = partE cl b es j := by
  have hlt : j < es.length := (List.getElem?_eq_some_iff.1 he).1
  have hq := (List.getElem?_eq_some_iff.1 he).2
  unfold partE keepE
  rw [List.take_succ_eq_append_getElem hlt, List.filter_append, hq, List.append_assoc, List.drop_eq_getElem_cons hlt, hq]
  rw [List.filter_cons_of_pos (by rw [ho]; rfl)]
  rfl
theorem partE_go {cl b : Int} {es : List Ent} {j : Nat} {e : Ent} (hn : (es.map Ent.key).Nodup) (he : es[j]? = some e) (ho : oldK cl b e.key = true) : noKey e.key (partE cl b es j) = partE cl b es (j + 1) := by
  have hlt : j < es.length := (List.getElem?_eq_some_iff.1 he).1
  have hq := (List.getElem?_eq_some_iff.1 he).2
  have hmem : ∀ x ∈ es.take j, x.key ≠ e.key := by
    intro x hx hk
    obtain ⟨i, hi, rfl⟩ := List.mem_iff_getElem.1 hx
    rw [List.length_take] at hi
    rw [List.getElem_take] at hk
    have := (List.getElem_inj (i := i) (j := j) (h₀ := by rw [List.length_map]; omega) (h₁ := by rw [List.length_map]; omega) hn).1 (by rw [List.getElem_map, List.getElem_map, hk, hq])
    omega
  have hmem2 : ∀ x ∈ es.drop (j + 1), x.key ≠ e.key := by
    intro x hx hk
    obtain ⟨i, hi, rfl⟩ := List.mem_iff_getElem.1 hx
    rw [List.length_drop] at hi
    rw [List.getElem_drop] at hk
    have := (List.getElem_inj (i := j + 1 + i) (j := j) (h₀ := by rw [List.length_map]; omega) (h₁ := by rw [List.length_map]; omega) hn).1 (by rw [List.getElem_map, List.getElem_map, hk, hq])
    omega
  have all : ∀ l : List Ent, (∀ x ∈ l, x.key ≠ e.key) → noKey e.key l = l := fun l h => by
    unfold noKey
    rw [List.filter_eq_self]
    intro x hx
    simpa using h x hx
  unfold partE
  rw [List.take_succ_eq_append_getElem hlt, hq, List.drop_eq_getElem_cons hlt, hq]
  unfold keepE
  rw [List.filter_append, List.filter_cons_of_neg (by rw [ho]; decide), List.filter_nil, List.append_nil]
  have h1 : noKey e.key ((es.take j).filter fun e => !oldK cl b e.key) = (es.take j).filter fun e => !oldK cl b e.key := all _ (fun x hx => hmem x (List.mem_filter.1 hx).1)
  have h2 : noKey e.key (es.drop (j + 1)) = es.drop (j + 1) := all _ hmem2
  unfold noKey at h1 h2 ⊢
  rw [List.filter_append, h1, List.filter_cons_of_neg (by simp), h2]
theorem keepE_keys (cl b : Int) (es : List Ent) : (keepE cl b es).map Ent.key = (es.map Ent.key).filter fun k => !oldK cl b k := by
  unfold keepE
  rw [List.filter_map]
  rfl
set_option maxHeartbeats 800000 in
set_option maxRecDepth 100000 in
theorem forget_m (h : StM W B D N bm sl DM (es.map Ent.key) es) (hDb : ∀ i, D i → i < W.heap.size) (hlen : es.length ≤ 1000000) (cl b : Int) :
    Calls Try.prog 17 #[.pointer (some ⟨B, 0, none⟩), .int .i64 cl, .int .i64 b] W fun e w' => e = .returned (.tuple #[]) ∧ St w' B D N (keepE cl b es) ∧ Gr D W w' := by
  have hu28 := Try.underlying28
  have hu32 := Try.underlying32
  have hu36 := Try.underlying36
  have hu38 := Try.underlying38
  have hu62 := Try.underlying62
  have hu64 := Try.underlying64
  have hu66 := Try.underlying66
  obtain ⟨A, n, cap, rfl, hn⟩ : ∃ A n cap, sl = .slice A n cap ∧ n = es.length := by obtain ⟨A1, c_, e_⟩ := h.ord.shape; exact ⟨A1, _, c_, e_, List.length_map _⟩
  have HN := Aside0.mk hn
  have HL : Aside0 (n ≤ 1099511627776) := ⟨by omega⟩
  have hM := Aside0.mk h
  have HDB := Aside0.mk hDb
  have HLE := Aside0.mk hlen
  clear h hDb hn hlen
  go_enter Try.func17, Try.ntmps17
  go_wp2_with (first | ((with_reducible refine gate_dst (N := 4) rfl ?_); refine box_event ?hg4 (N := 4) ?hd4 (cs := #[.int .i64 cl]) (t := 3) ?hr4 ?_; (case hd4 => rfl); (case hg4 => rfl); (case hr4 => first | (go_simp; done) | (go_simp; rfl)); intro g4 hg4 w4 hbox4 hb4; have G4 := Aside0.mk hg4; clear hg4) | ((with_reducible refine gate_dst (N := 5) rfl ?_); refine box_event ?hg5 (N := 5) ?hd5 (cs := #[.int .i64 b]) (t := 3) ?hr5 ?_; (case hd5 => rfl); (case hg5 => rfl); (case hr5 => first | (go_simp; done) | (go_simp; rfl)); intro g5 hg5 w5 hbox5 hb5; have G5 := Aside0.mk hg5; clear hg5; have q4 := (hb5.block g4 (blk_lt hbox4)).trans hbox4; have hS := (hM.out.below hb4).below hb5; have zo : w5.cell? ⟨B, 1, none⟩ = some (.slice A n cap) := (blk_cell hS.at_ 1).trans rfl; have HS := Aside0.mk hS; clear hS))
  have e4 : W.heap.size ≤ g4 := Nat.le_of_eq G4.out.symm
  have e5 : W.heap.size ≤ g5 := Nat.le_trans hb4.size (Nat.le_of_eq G5.out.symm)
  have nb4 : g4 ≠ bm := fun e => absurd hM.out.ltm (Nat.not_lt.2 (e ▸ e4))
  have nb5 : g5 ≠ bm := fun e => absurd hM.out.ltm (Nat.not_lt.2 (e ▸ e5))
  have B5 := Aside0.mk (below_step hb4 hb5)
  have eg : ∀ args w, (callFunc 30 args).run Try.prog w = .ok (.enter 30 args) w := enters_of Try.func30 (by kernel_rfl) rfl
  go_loopg [15] n (fun gq v15 wr => ∃ j : Nat, v15 = .int .i64 j ∧ Aside0 (gq + j = n) ∧ Aside0 (∃ DM', StM wr B D N bm (.slice A n cap) DM' (es.map Ent.key) (partE cl b es j)) ∧ Aside0 (Gr (fun i => i = bm) w5 wr))
  case atStart => exact ⟨0, rfl, ⟨by omega⟩, ⟨_, HS.out⟩, ⟨Gr.refl _ _⟩⟩
  case round =>
    obtain ⟨j, rfl, HG, HST, HGR⟩ := hrel
    obtain ⟨DM', hS⟩ := HST.out
    have r4 := (HGR.out.block g4 (blk_lt q4) nb4).trans q4
    have r5 := (HGR.out.block g5 (blk_lt hbox5) nb5).trans hbox5
    by_cases hlt : j < n
    · have hltE : j < es.length := by have := HN.out; omega
      obtain ⟨en, hen⟩ : ∃ en, es[j]? = some en := ⟨_, List.getElem?_eq_getElem hltE⟩
      obtain ⟨g, off, cells, rfl, hDg, hKB⟩ : ∃ g off cells, A = some ⟨g, off, none⟩ ∧ D g ∧ KB wr g off cap (es.map Ent.key) cells := by
        rcases hS.ord with ⟨h1, _⟩ | ⟨g, off, cap', cells, h1, h2, h3⟩
        · injection h1 with _ h1 _
          omega
        · injection h1 with h1 h4 h5
          subst h5
          exact ⟨g, off, cells, h1, h2, h3⟩
      have hkey : (es.map Ent.key)[j]? = some en.key := by rw [List.getElem?_map, hen]; rfl
      obtain ⟨x1, x2⟩ := hKB.key hkey
      have hcap := hKB.le
      have HEN := Aside0.mk hen
      have HKW : Aside0 (kwf en.key) := ⟨hM.out.wf en (List.mem_of_getElem? hen)⟩
      obtain ⟨key, by_, an⟩ := en
      obtain ⟨k1, k2⟩ := key
      dsimp only at x1 x2
      have zm : wr.cell? ⟨B, 0, none⟩ = some (.map (some bm)) := (blk_cell hS.at_ 0).trans rfl
      have hltz : (j : Int) < (n : Int) := by omega
      have hj0 : (0 : Int) ≤ (j : Int) := by omega
      have hBlt := hS.ltB
      have hSS := Aside0.mk hS
      have h4lt := blk_lt r4
      have h5lt := blk_lt r5
      have hcall : ∀ o, Calls Try.prog 30 (#[.agg #[.int .i64 k1, .int .i64 k2]] ++ #[.pointer (some ⟨g4, 0, none⟩), .pointer (some ⟨g5, 0, none⟩)]) (wr.alloc o) fun e w' => e = .returned (.bool (oldK cl b (k1, k2))) ∧ Below (wr.alloc o).heap.size (wr.alloc o) w' := fun o =>
        old_calls (x := (k1, k2)) (((below_alloc (Below.refl wr.heap.size wr) o).cell h4lt).trans ((blk_cell r4 0).trans rfl)) (((below_alloc (Below.refl wr.heap.size wr) o).cell h5lt).trans ((blk_cell r5 0).trans rfl))
      have nbw : wr.heap.size ≠ bm := fun e => absurd hS.ltm (by rw [e]; exact Nat.lt_irrefl _)
      clear hen hS hKB hkey hcap
      cases hv : oldK cl b (k1, k2) with
      | true =>
        rw [hv] at hcall
        go_wp2_with (first | (go_at_fn 30; refine (hcall _).mono ?_; rintro e w7 ⟨rfl, hb7⟩))
        have B7 := below_step (below_alloc (Below.refl wr.heap.size wr) (.cells #[.int .i64 k1, .int .i64 k2] 64)) hb7
        have z1 : w7.cell? ⟨wr.heap.size, 0, none⟩ = some (.int .i64 k1) := by rw [World.cell?_of_block (a := ⟨wr.heap.size, 0, none⟩) (hb7.block _ (by rw [World.size_alloc]; exact Nat.lt_succ_self _))]; exact World.cell?_alloc_new wr _ _ 0
        have z2 : w7.cell? ⟨wr.heap.size, 1, none⟩ = some (.int .i64 k2) := by rw [World.cell?_of_block (a := ⟨wr.heap.size, 1, none⟩) (hb7.block _ (by rw [World.size_alloc]; exact Nat.lt_succ_self _))]; exact World.cell?_alloc_new wr _ _ 1
        have zm7 : w7.cell? ⟨B, 0, none⟩ = some (.map (some bm)) := (B7.cell hBlt).trans zm
        have hgB : B ≠ bm := Ne.symm hM.out.ne
        obtain ⟨w8, DM8, hdel, hS8, hG8⟩ := ((hSS.out.below B7).below (below_drew (Below.refl _ _))).del (k := (k1, k2)) HKW.out 0
        have HDEL : Aside0 ((Builtin.delete_ #[59, 64] 0 #[.map (some bm), .agg #[.int .i64 k1, .int .i64 k2]]).run Try.prog w7.drew = .ok (.tuple #[]) w8) := ⟨hdel⟩
        have HG8 : Aside0 (Gr (fun i => i = bm) w7 w8) := ⟨((Gr.refl _ w7).drew).then_ hG8 (fun _ h => .inl h)⟩
        have HS8 := Aside0.mk hS8
        have HS6 : Aside0 (∀ W', Gr (fun i => i = bm) w7 W' → W'.cell? ⟨B, 0, none⟩ = some (.map (some bm)) ∧ W'.cell? ⟨wr.heap.size, 0, none⟩ = some (.int .i64 k1) ∧ W'.cell? ⟨wr.heap.size, 1, none⟩ = some (.int .i64 k2)) := ⟨fun W' hg => ⟨hg.cell zm7 hgB, hg.cell z1 nbw, hg.cell z2 nbw⟩⟩
        clear hdel hS8 hG8
        go_region_held3 (fun W' => W'.cell? ⟨B, 0, none⟩ = some (.map (some bm)) ∧ W'.cell? ⟨wr.heap.size, 0, none⟩ = some (.int .i64 k1) ∧ W'.cell? ⟨wr.heap.size, 1, none⟩ = some (.int .i64 k2)) (first | exact HS6.out _ ((Gr.refl _ _).drew) | exact HS6.out _ HG8.out) (first | (refine step_del rfl (.tmp 25) (.tmp 26) rfl rfl rfl HDEL.out ?_))
        go_wp2
        go_roundg (gk - 1)
        case measure => have := HG.out; omega
        case rel =>
          refine ⟨j + 1, next_int hlt HL.out, ⟨by have := HG.out; omega⟩, ⟨DM8, ?_⟩, ⟨(HGR.out.then_ (S' := fun i => i = bm) (Gr.of_below B7) (fun i hi => .inl hi)).then_ HG8.out (fun i hi => .inl hi)⟩⟩
          have := HS8.out
          rw [partE_go hM.out.nodup HEN.out hv] at this
          exact this
      | false =>
        rw [hv] at hcall
        go_wp2_with (first | (go_at_fn 30; refine (hcall _).mono ?_; rintro e w7 ⟨rfl, hb7⟩))
        have B7 := below_step (below_alloc (Below.refl wr.heap.size wr) (.cells #[.int .i64 k1, .int .i64 k2] 64)) hb7
        go_roundg (gk - 1)
        case measure => have := HG.out; omega
        case rel =>
          refine ⟨j + 1, next_int hlt HL.out, ⟨by have := HG.out; omega⟩, ⟨DM', ?_⟩, ⟨HGR.out.then_ (S' := fun i => i = bm) (Gr.of_below B7) (fun i hi => .inl hi)⟩⟩
          rw [partE_stay HEN.out hv]
          exact hSS.out.below B7
    · have hltz : ¬ (j : Int) < (n : Int) := by omega
      obtain rfl : j = n := by have := HG.out; omega
      have zB := hS.at_
      have zo' : wr.cell? ⟨B, 1, none⟩ = some (.slice A j cap) := (blk_cell zB 1).trans rfl
      have hSS := Aside0.mk hS
      have HD := delf_calls (gg := 30) (cb := #[.pointer (some ⟨g4, 0, none⟩), .pointer (some ⟨g5, 0, none⟩)]) (p := oldK cl b) hS.ord (by rw [List.length_map]; exact Nat.le_trans HLE.out (by decide)) eg (fun W' k hg => old_calls (x := k) (hg.cell ((blk_cell r4 0).trans rfl) (hS.own_ne r4 (by decide))) (hg.cell ((blk_cell r5 0).trans rfl) (hS.own_ne r5 (by decide))))
      clear hS
      go_wp2_with (first | (go_at_call 19; refine HD.mono ?_; rintro e_ w19 ⟨A2, n2, cap2, rfl, hkr, hgr⟩; have hBx := (hgr.block B (blk_lt zB) (hSS.out.own_ne zB (by decide))).trans zB; have yo : w19.cell? ⟨B, 1, none⟩ = some (.slice A j cap) := (blk_cell hBx 1).trans rfl; have yf : w19.frozen? ⟨B, 1, none⟩ = false := blk_frozen hBx 1))
      go_end0
      have hE : partE cl b es j = keepE cl b es := by rw [HN.out]; exact partE_all cl b es
      have hfin := hSS.out.reorder hgr (fun _ h => h) hkr
      rw [hE, ← keepE_keys] at hfin
      refine ⟨rfl, ⟨bm, _, _, hfin⟩, ?_⟩
      exact ((((Gr.of_below (S := D) B5.out).then_ HGR.out (fun i hi => .inl (hi ▸ hM.out.hbm))).then_ hgr (fun i hi => .inl (hM.out.sub hi))).set _ (.inl hM.out.hB))
end Go.Proofs.Ytjailboidlmadaa.P
