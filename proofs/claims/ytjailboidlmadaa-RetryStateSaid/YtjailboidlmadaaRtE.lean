/- slices.Clone at []string and []api.Block, and retry.copied: an answer as new memory. -/
import Derived.Test.YtjailboidlmadaaRtD
namespace Go.Proofs.Ytjailboidlmadaa.P
open Go.RowKit Go.Maps Go.WideMaps Go.Proofs.YtjailboidlmadaaW.PrintWords Go.Proofs.YtjailboidlmadaaW.PrintLast Go.Proofs.YtjailboidlmadaaW.PrintMore
attribute [local go_sem] max2_int min2_int max_two min_two max_three min_three max_four min_four
set_option linter.unusedVariables false
set_option linter.unusedSimpArgs false
theorem info9 : (Try.prog.info? 9).map (fun i => (i.zero, i.size, i.bytes)) = some (some (.string ⟨#[]⟩), 1, 16) := by kernel_rfl
theorem info32 : (Try.prog.info? 32).map (fun i => (i.zero, i.size, i.bytes)) = some (some (.agg #[.int .i64 0, .int .i64 0, .int .i64 0]), 3, 24) := by kernel_rfl
/-- a row without kinds of its own inside serves a read as well as a made one -/
theorem C_alloc' {α : Type} {d : Kd α} {w : World} {A : Option Addr} {n : Nat} {xs : List α} (h : d.C w A n xs) (o : Obj) : d.C (w.alloc o) A n xs := Kd.C_below h (below_alloc (Below.refl _ _) o)
set_option maxHeartbeats 4000000 in
theorem clone_str (A0 : Option Addr) (c0 : Nat) (l0 : List ByteArray) (w : World) (hr0 : Kd.C Kd.string w A0 l0.length l0) (hc0 : l0.length ≤ c0) (hl : l0.length * 16 ≤ 140737488355328) :
    Calls Try.prog 32 #[.slice A0 l0.length c0] w fun e w' => ∃ v0_ : Value, e = .returned v0_ ∧ Kd.R Kd.string 9 w' w.heap.size (fun _ => True) v0_ l0 ∧ Below w.heap.size w w' := by
  have HR0 := Aside0.mk hr0
  have HC0 := Aside0.mk hc0
  clear hr0 hc0
  have HB := Aside0.mk (Below.refl w.heap.size w)
  cases A0 with
  | none =>
    have qe : ∀ (w : World) (a : Option Addr) (n c n' c' : Nat), (binOp .eql 33 (.slice a n c) (.slice none n' c')).run Try.prog w = .ok (.bool a.isNone) w := fun w a n c n' c' => Lib.run_eql_slice_nil w _ _ a n c n' c' Try.underlying33
    have hn : l0 = [] := by
      cases l0 with
      | nil => rfl
      | cons a b =>
        obtain ⟨ad, e, _⟩ := HR0.out.2.2 (by simp)
        cases e
    subst hn
    go_enter Try.func32, Try.ntmps32
    go_wp2
    go_ret
    exact ⟨_, rfl, Kd.R_nil _ _ _ _ _, HB.out⟩
  | some ad =>
    have qe : ∀ (w : World) (a : Option Addr) (n c n' c' : Nat), (binOp .eql 33 (.slice a n c) (.slice none n' c')).run Try.prog w = .ok (.bool a.isNone) w := fun w a n c n' c' => Lib.run_eql_slice_nil w _ _ a n c n' c' Try.underlying33
    go_enter Try.func32, Try.ntmps32
    have hown := World.ownsRow_made (base := w.heap.size) (e := 9) (size := 1) w #[] 0 (Nat.le_refl _) (Nat.zero_le _) rfl
    have HW := Aside0.mk hown
    clear hown
    go_wp2_with ((with_reducible refine gate_builtin (b := .append) (xs := #[.tmp 5, .tmp 6]) rfl ?_); at_builtin; refine Kd.R_append_rows Kd.string (w0 := w) w.heap.size rfl (.tmp 5) (.tmp 6) 33 9 (.string ⟨#[]⟩) 16 rfl Try.underlying33 info9 rfl (by decide) (by omega) (.slice (some ⟨w.heap.size, 0, none⟩) 0 0) ([] : List ByteArray) l0 _ _ _ (fun _ => True) (fun _ => False) rfl rfl ?aO ?aR (fun _ _ h => h) (fun _ h => h.elim) ?aF ?aB ?aS ?aL ?_)
    case aO => exact ⟨fun _ _ => trivial, [], HW.out, Reps.none _ _⟩
    case aR => exact Kd.C_alloc HR0.out _
    case aF => exact fun _ _ => trivial
    case aB => exact below_alloc HB.out _
    case aS => exact below_size (below_alloc HB.out _)
    case aL => simp; omega
    intro v1 w1 ho hb hg hat
    go_wp2
    go_ret
    exact ⟨v1, rfl, ho, hb⟩
theorem k32_KM {W : World} {base : Nat} {ok : Nat → Prop} (x : S32) (cs : List Value) (h : k32.K W x cs) : k32.M W base ok x cs := by
  obtain rfl := k32_open h
  exact k32_mkM W base ok x
set_option maxHeartbeats 4000000 in
theorem clone_blk (A0 : Option Addr) (c0 : Nat) (l0 : List S32) (w : World) (hr0 : Kd.C k32 w A0 l0.length l0) (hc0 : l0.length ≤ c0) (hl : l0.length * 24 ≤ 140737488355328) :
    Calls Try.prog 33 #[.slice A0 l0.length c0] w fun e w' => ∃ v0_ : Value, e = .returned v0_ ∧ Kd.R k32 32 w' w.heap.size (fun _ => True) v0_ l0 ∧ Below w.heap.size w w' := by
  have HR0 := Aside0.mk hr0
  have HC0 := Aside0.mk hc0
  clear hr0 hc0
  have HB := Aside0.mk (Below.refl w.heap.size w)
  cases A0 with
  | none =>
    have qe : ∀ (w : World) (a : Option Addr) (n c n' c' : Nat), (binOp .eql 34 (.slice a n c) (.slice none n' c')).run Try.prog w = .ok (.bool a.isNone) w := fun w a n c n' c' => Lib.run_eql_slice_nil w _ _ a n c n' c' Try.underlying34
    have hn : l0 = [] := by
      cases l0 with
      | nil => rfl
      | cons a b =>
        obtain ⟨ad, e, _⟩ := HR0.out.2.2 (by simp)
        cases e
    subst hn
    go_enter Try.func33, Try.ntmps33
    go_wp2
    go_ret
    exact ⟨_, rfl, Kd.R_nil _ _ _ _ _, HB.out⟩
  | some ad =>
    have qe : ∀ (w : World) (a : Option Addr) (n c n' c' : Nat), (binOp .eql 34 (.slice a n c) (.slice none n' c')).run Try.prog w = .ok (.bool a.isNone) w := fun w a n c n' c' => Lib.run_eql_slice_nil w _ _ a n c n' c' Try.underlying34
    go_enter Try.func33, Try.ntmps33
    have hown := World.ownsRow_made (base := w.heap.size) (e := 32) (size := 3) w #[] 0 (Nat.le_refl _) (Nat.zero_le _) rfl
    have HW := Aside0.mk hown
    clear hown
    go_wp2_with ((with_reducible refine gate_builtin (b := .append) (xs := #[.tmp 5, .tmp 6]) rfl ?_); at_builtin; refine Kd.R_append_rows k32 (w0 := w) w.heap.size rfl (.tmp 5) (.tmp 6) 34 32 (.agg #[.int .i64 0, .int .i64 0, .int .i64 0]) 24 rfl Try.underlying34 info32 rfl (by decide) (by omega) (.slice (some ⟨w.heap.size, 0, none⟩) 0 0) ([] : List S32) l0 _ _ _ (fun _ => True) (fun _ => False) rfl rfl ?aO ?aR (k32_KM) (fun _ h => h.elim) ?aF ?aB ?aS ?aL ?_)
    case aO => exact ⟨fun _ _ => trivial, [], HW.out, Reps.none _ _⟩
    case aR => exact Kd.C_alloc HR0.out _
    case aF => exact fun _ _ => trivial
    case aB => exact below_alloc HB.out _
    case aS => exact below_size (below_alloc HB.out _)
    case aL => simp; omega
    intro v1 w1 ho hb hg hat
    go_wp2
    go_ret
    exact ⟨v1, rfl, ho, hb⟩

theorem row_all {W : World} {g : Nat} {t : TypeId} {c : Array Value} (h : W.heap[g]? = some (.cells c t (0, 0))) (vs : List Value) (hl : vs.length = c.size) : (W.setCells g 0 vs).heap[g]? = some (.cells vs.toArray t (0, 0)) := by
  obtain ⟨c', h1, h2, _, h4⟩ := setCells_block vs 0 W c h
  rw [h1]
  have : c' = vs.toArray := by
    apply Array.ext_getElem?
    intro i
    by_cases hi : i < vs.length
    · have := h4 i _ (List.getElem?_eq_getElem hi) (by omega)
      rw [Nat.zero_add] at this
      rw [this, List.getElem?_toArray, List.getElem?_eq_getElem hi]
    · rw [Array.getElem?_eq_none (by omega), Array.getElem?_eq_none (by rw [List.size_toArray]; omega)]
  rw [this]

/-- a row stays while blocks of other types turn -/
theorem R_gr {α : Type} {d : Kd α} {e base : Nat} {ok : Nat → Prop} {W W' : World} {v : Value} {xs : List α} {S : Nat → Prop} (h : d.R e W base ok v xs) (hg : Gr S W W') (hS : ∀ i c q, S i → W.heap[i]? = some (.cells c q (0, 0)) → q ∉ e :: d.E) : d.R e W' base ok v xs :=
  Kd.R_mono (Kd.R_step (Kd.R_bound h) (fun k ho hlt => hg.block k hlt (fun hs => by
    obtain ⟨_, _, _, q, hq, c, hc⟩ := ho
    exact hS k c q hs hc hq))) (fun _ hk => hk.1)

theorem two_types {W : World} {g1 g2 t : Nat} {c1 c2 : Array Value} {l : List Nat} (h1 : W.heap[g1]? = some (.cells c1 t (0, 0))) (h2 : W.heap[g2]? = some (.cells c2 t (0, 0))) (hl : t ∉ l) : ∀ i c q, (i = g1 ∨ i = g2) → W.heap[i]? = some (.cells c q (0, 0)) → q ∉ l := by
  rintro i c q (rfl | rfl) hc
  · rw [h1] at hc; injection hc with hc; injection hc with _ hc; rw [← hc]; exact hl
  · rw [h2] at hc; injection hc with hc; injection hc with _ hc; rw [← hc]; exact hl

/-- an answer -/
structure Ans where
  err : Int
  b0 : Int
  b1 : Int
  b2 : Int
  names : List ByteArray
  path : ByteArray
  dir : Bool
  quota : Int
  blocks : List S32
  writer : Int
  n : Int
/-- an answer's cells, its two rows being the values v4, v8 -/
def Ans.cells (a : Ans) (v4 v8 : Value) : List Value := [.int .i64 a.err, .int .i64 a.b0, .int .i64 a.b1, .int .i64 a.b2, v4, .string a.path, .bool a.dir, .int .i64 a.quota, v8, .int .i64 a.writer, .int .i64 a.n]
/-- rows that fit -/
def Ans.fits (a : Ans) : Prop := a.names.length * 16 ≤ 140737488355328 ∧ a.blocks.length * 24 ≤ 140737488355328

set_option maxHeartbeats 4000000 in
set_option maxRecDepth 100000 in
theorem copied_calls (a : Ans) (hf : a.fits) (A4 A8 : Option Addr) (c4 c8 : Nat) (w : World) (h4 : Kd.C Kd.string w A4 a.names.length a.names) (k4 : a.names.length ≤ c4) (h8 : Kd.C k32 w A8 a.blocks.length a.blocks) (k8 : a.blocks.length ≤ c8) :
    Calls Try.prog 21 #[.agg (a.cells (.slice A4 a.names.length c4) (.slice A8 a.blocks.length c8)).toArray] w fun e w' => ∃ B4 d4 B8 d8, e = .returned (.agg (a.cells (.slice B4 a.names.length d4) (.slice B8 a.blocks.length d8)).toArray) ∧ Kd.R Kd.string 9 w' w.heap.size (fun _ => True) (.slice B4 a.names.length d4) a.names ∧ Kd.R k32 32 w' w.heap.size (fun _ => True) (.slice B8 a.blocks.length d8) a.blocks ∧ Below w.heap.size w w' := by
  obtain ⟨err, b0, b1, b2, names, path, dir, quota, blocks, writer, n⟩ := a
  dsimp only [Ans.cells] at h4 k4 h8 k8 ⊢
  have hu38 := Try.underlying38
  have hu36 := Try.underlying36
  have hu32 := Try.underlying32
  have H4 := Aside0.mk h4
  have H8 := Aside0.mk h8
  have K4 := Aside0.mk k4
  have K8 := Aside0.mk k8
  have F4 := Aside0.mk hf.1
  have F8 := Aside0.mk hf.2
  clear h4 h8 k4 k8 hf
  have HB := Aside0.mk (Below.refl w.heap.size w)
  go_enter Try.func21, Try.ntmps21
  go_wp2_with (first | ((with_reducible refine gate_dst (N := 1) rfl ?_); refine box_event ?hg (N := 1) ?hd (cs := #[.int .i64 err, .int .i64 b0, .int .i64 b1, .int .i64 b2, .slice A4 names.length c4, .string path, .bool dir, .int .i64 quota, .slice A8 blocks.length c8, .int .i64 writer, .int .i64 n]) (t := 38) ?hr ?_; (case hd => rfl); (case hg => rfl); (case hr => first | (go_simp; done) | (go_simp; rfl)); intro g1 hg1 w1 hbox1 hb1; have G1 := Aside0.mk hg1; clear hg1) | ((with_reducible refine gate_dst (N := 2) rfl ?_); refine box_event ?hg2 (N := 2) ?hd2 (cs := #[.int .i64 0, .int .i64 0, .int .i64 0, .int .i64 0, .slice none 0 0, .string ⟨#[]⟩, .bool false, .int .i64 0, .slice none 0 0, .int .i64 0, .int .i64 0]) (t := 38) ?hr2 ?_; (case hd2 => rfl); (case hg2 => rfl); (case hr2 => first | (go_simp; done) | (go_simp; rfl)); intro g2 hg2 w2 hbox2 hb2; have hlt1 := blk_lt hbox1; have hne : g1 ≠ g2 := (by omega); have G2 := Aside0.mk hg2; clear hg2; have q2 := (hb2.block g1 hlt1).trans hbox1; have x4 : w2.cell? ⟨g1, 4, none⟩ = some (.slice A4 names.length c4) := (blk_cell q2 4).trans rfl; have H4b := Aside0.mk (Kd.C_below (Kd.C_below H4.out hb1) hb2)) | (go_at_call 32; refine (clone_str A4 c4 names _ H4b.out K4.out F4.out).mono ?_; rintro e_ w3 ⟨v4, rfl, hR4, hb3⟩; obtain ⟨B4, d4, rfl⟩ := Kd.R_slice hR4; have q3 := (hb3.block g1 (blk_lt q2)).trans q2; have p3 := (hb3.block g2 (blk_lt hbox2)).trans hbox2; clear x4; have y4 : w3.cell? ⟨g1, 4, none⟩ = some (.slice A4 names.length c4) := (blk_cell q3 4).trans rfl; have yf : w3.frozen? ⟨g1, 4, none⟩ = false := blk_frozen q3 4; have y8 : w3.cell? ⟨g1, 8, none⟩ = some (.slice A8 blocks.length c8) := (blk_cell q3 8).trans rfl; have HR4 := Aside0.mk hR4; clear hR4) | (go_at_call 33; have HBs := below_set (below_step (below_step hb1 hb2) hb3) (G1.out ▸ Nat.le_refl _ : w.heap.size ≤ g1) (v := .slice B4 names.length d4) (j := 4); refine (clone_blk A8 c8 blocks _ (Kd.C_below H8.out HBs) K8.out F8.out).mono ?_; rintro e_ w4 ⟨v8, rfl, hR8, hb4⟩; obtain ⟨B8, d8, rfl⟩ := Kd.R_slice hR8; have hs4 := heap_setCell_same w3 g1 4 _ 38 (.slice B4 names.length d4) q3; have q4 : w4.heap[g1]? = some (.cells #[.int .i64 err, .int .i64 b0, .int .i64 b1, .int .i64 b2, .slice B4 names.length d4, .string path, .bool dir, .int .i64 quota, .slice A8 blocks.length c8, .int .i64 writer, .int .i64 n] 38 (0, 0)) := (hb4.block g1 (blk_lt hs4)).trans hs4; have hp4 := (Below.heap_setCell w3 ⟨g1, 4, none⟩ (.slice B4 names.length d4) g2 (Ne.symm hne)).trans p3; have p4 := (hb4.block g2 (blk_lt hp4)).trans hp4; clear y4 yf y8; have HR8 := Aside0.mk hR8; clear hR8; have z0 : w4.cell? ⟨g1, 0, none⟩ = some (.int .i64 err) := (blk_cell q4 0).trans rfl; have z1 : w4.cell? ⟨g1, 1, none⟩ = some (.int .i64 b0) := (blk_cell q4 1).trans rfl; have z2 : w4.cell? ⟨g1, 2, none⟩ = some (.int .i64 b1) := (blk_cell q4 2).trans rfl; have z3 : w4.cell? ⟨g1, 3, none⟩ = some (.int .i64 b2) := (blk_cell q4 3).trans rfl; have z4 : w4.cell? ⟨g1, 4, none⟩ = some (.slice B4 names.length d4) := (blk_cell q4 4).trans rfl; have z5 : w4.cell? ⟨g1, 5, none⟩ = some (.string path) := (blk_cell q4 5).trans rfl; have z6 : w4.cell? ⟨g1, 6, none⟩ = some (.bool dir) := (blk_cell q4 6).trans rfl; have z7 : w4.cell? ⟨g1, 7, none⟩ = some (.int .i64 quota) := (blk_cell q4 7).trans rfl; have z8 : w4.cell? ⟨g1, 8, none⟩ = some (.slice A8 blocks.length c8) := (blk_cell q4 8).trans rfl; have z9 : w4.cell? ⟨g1, 9, none⟩ = some (.int .i64 writer) := (blk_cell q4 9).trans rfl; have z10 : w4.cell? ⟨g1, 10, none⟩ = some (.int .i64 n) := (blk_cell q4 10).trans rfl; have zf8 : w4.frozen? ⟨g1, 8, none⟩ = false := blk_frozen q4 8; have u0 : w4.cell? ⟨g2, 0, none⟩ = some (.int .i64 0) := (blk_cell p4 0).trans rfl; have u1 : w4.cell? ⟨g2, 1, none⟩ = some (.int .i64 0) := (blk_cell p4 1).trans rfl; have u2 : w4.cell? ⟨g2, 2, none⟩ = some (.int .i64 0) := (blk_cell p4 2).trans rfl; have u3 : w4.cell? ⟨g2, 3, none⟩ = some (.int .i64 0) := (blk_cell p4 3).trans rfl; have u4 : w4.cell? ⟨g2, 4, none⟩ = some (.slice none 0 0) := (blk_cell p4 4).trans rfl; have u5 : w4.cell? ⟨g2, 5, none⟩ = some (.string ⟨#[]⟩) := (blk_cell p4 5).trans rfl; have u6 : w4.cell? ⟨g2, 6, none⟩ = some (.bool false) := (blk_cell p4 6).trans rfl; have u7 : w4.cell? ⟨g2, 7, none⟩ = some (.int .i64 0) := (blk_cell p4 7).trans rfl; have u8 : w4.cell? ⟨g2, 8, none⟩ = some (.slice none 0 0) := (blk_cell p4 8).trans rfl; have u9 : w4.cell? ⟨g2, 9, none⟩ = some (.int .i64 0) := (blk_cell p4 9).trans rfl; have u10 : w4.cell? ⟨g2, 10, none⟩ = some (.int .i64 0) := (blk_cell p4 10).trans rfl; have f0 : w4.frozen? ⟨g2, 0, none⟩ = false := blk_frozen p4 0; have f1 : w4.frozen? ⟨g2, 1, none⟩ = false := blk_frozen p4 1; have f2 : w4.frozen? ⟨g2, 2, none⟩ = false := blk_frozen p4 2; have f3 : w4.frozen? ⟨g2, 3, none⟩ = false := blk_frozen p4 3; have f4 : w4.frozen? ⟨g2, 4, none⟩ = false := blk_frozen p4 4; have f5 : w4.frozen? ⟨g2, 5, none⟩ = false := blk_frozen p4 5; have f6 : w4.frozen? ⟨g2, 6, none⟩ = false := blk_frozen p4 6; have f7 : w4.frozen? ⟨g2, 7, none⟩ = false := blk_frozen p4 7; have f8 : w4.frozen? ⟨g2, 8, none⟩ = false := blk_frozen p4 8; have f9 : w4.frozen? ⟨g2, 9, none⟩ = false := blk_frozen p4 9; have f10 : w4.frozen? ⟨g2, 10, none⟩ = false := blk_frozen p4 10))
  obtain ⟨w5, hw5⟩ : ∃ w5, w5 = ((((((((((((w4.setCell ⟨g1, 8, none⟩ (.slice B8 blocks.length d8)).setCell ⟨g2, 0, none⟩ (.int .i64 err)).setCell ⟨g2, 1, none⟩ (.int .i64 b0)).setCell ⟨g2, 2, none⟩ (.int .i64 b1)).setCell ⟨g2, 3, none⟩ (.int .i64 b2)).setCell ⟨g2, 4, none⟩ (.slice B4 names.length d4)).setCell ⟨g2, 5, none⟩ (.string path)).setCell ⟨g2, 6, none⟩ (.bool dir)).setCell ⟨g2, 7, none⟩ (.int .i64 quota)).setCell ⟨g2, 8, none⟩ (.slice B8 blocks.length d8)).setCell ⟨g2, 9, none⟩ (.int .i64 writer)).setCell ⟨g2, 10, none⟩ (.int .i64 n)) := ⟨_, rfl⟩
  have h0 := (Below.heap_setCell w4 ⟨g1, 8, none⟩ (.slice B8 blocks.length d8) g2 (Ne.symm hne)).trans p4
  have h5 := row_all h0 [.int .i64 err, .int .i64 b0, .int .i64 b1, .int .i64 b2, .slice B4 names.length d4, .string path, .bool dir, .int .i64 quota, .slice B8 blocks.length d8, .int .i64 writer, .int .i64 n] rfl
  simp only [World.setCells, Nat.zero_add, Nat.reduceAdd] at h5
  rw [← hw5] at h5
  have HW5 := Aside0.mk hw5
  rw [← hw5]
  clear hw5 h0
  have r0 : w5.cell? ⟨g2, 0, none⟩ = some (.int .i64 err) := (blk_cell h5 0).trans rfl
  have r1 : w5.cell? ⟨g2, 1, none⟩ = some (.int .i64 b0) := (blk_cell h5 1).trans rfl
  have r2 : w5.cell? ⟨g2, 2, none⟩ = some (.int .i64 b1) := (blk_cell h5 2).trans rfl
  have r3 : w5.cell? ⟨g2, 3, none⟩ = some (.int .i64 b2) := (blk_cell h5 3).trans rfl
  have r4 : w5.cell? ⟨g2, 4, none⟩ = some (.slice B4 names.length d4) := (blk_cell h5 4).trans rfl
  have r5 : w5.cell? ⟨g2, 5, none⟩ = some (.string path) := (blk_cell h5 5).trans rfl
  have r6 : w5.cell? ⟨g2, 6, none⟩ = some (.bool dir) := (blk_cell h5 6).trans rfl
  have r7 : w5.cell? ⟨g2, 7, none⟩ = some (.int .i64 quota) := (blk_cell h5 7).trans rfl
  have r8 : w5.cell? ⟨g2, 8, none⟩ = some (.slice B8 blocks.length d8) := (blk_cell h5 8).trans rfl
  have r9 : w5.cell? ⟨g2, 9, none⟩ = some (.int .i64 writer) := (blk_cell h5 9).trans rfl
  have r10 : w5.cell? ⟨g2, 10, none⟩ = some (.int .i64 n) := (blk_cell h5 10).trans rfl
  (try simp only [Exit.inBlock, Exit.then])
  refine bodyPost_ret (by simp [results, Try.results21, go_sem, r0, r1, r2, r3, r4, r5, r6, r7, r8, r9, r10]; try rfl) rfl ?_
  have hw6 : w5 = (w4.setCell ⟨g1, 8, none⟩ (.slice B8 blocks.length d8)).setCells g2 0 [.int .i64 err, .int .i64 b0, .int .i64 b1, .int .i64 b2, .slice B4 names.length d4, .string path, .bool dir, .int .i64 quota, .slice B8 blocks.length d8, .int .i64 writer, .int .i64 n] := by
    rw [HW5.out]
    simp only [World.setCells, Nat.zero_add, Nat.reduceAdd]
  have G8 : Gr (fun i => i = g1 ∨ i = g2) w4 w5 := by
    rw [hw6]
    exact Gr.setCells (S := fun i => i = g1 ∨ i = g2) (Gr.set (S := fun i => i = g1 ∨ i = g2) (p := ⟨g1, 8, none⟩) (Gr.refl _ w4) _ (Or.inl (Or.inl rfl))) _ (Or.inl (Or.inr rfl))
  clear hw6
  have G3 : Gr (fun i => i = g1 ∨ i = g2) w3 (w3.setCell ⟨g1, 4, none⟩ (.slice B4 names.length d4)) := Gr.set (S := fun i => i = g1 ∨ i = g2) (p := ⟨g1, 4, none⟩) (Gr.refl _ w3) _ (Or.inl (Or.inl rfl))
  have G4 : Gr (fun i => i = g1 ∨ i = g2) w3 w5 := (G3.then_ (S' := fun _ => False) (Gr.of_below hb4) (fun _ h => h.elim)).then_ G8 (fun _ h => .inl h)
  have s12 : w.heap.size ≤ w2.heap.size := Nat.le_trans hb1.size hb2.size
  have s13 : w.heap.size ≤ w3.heap.size := Nat.le_trans s12 hb3.size
  have hge1 : w.heap.size ≤ g1 := by rw [G1.out]; exact Nat.le_refl _
  have hge2 : w.heap.size ≤ g2 := by rw [G2.out]; exact hb1.size
  refine ⟨B4, d4, B8, d8, rfl, ?_, ?_, ?_⟩
  · exact R_gr (Kd.R_lower HR4.out s12) G4 (two_types q3 p3 (by decide))
  · exact R_gr (Kd.R_lower HR8.out (Nat.le_trans s13 (Nat.le_of_eq (World.size_setCell _ _ _).symm))) G8 (two_types q4 p4 (by decide))
  · have h13 := below_step (below_step hb1 hb2) hb3
    exact ⟨G4.os.trans h13.os, G4.tape.trans h13.tape, G4.output.trans h13.output, Nat.le_trans h13.size G4.size, fun i hi => (G4.block i (Nat.lt_of_lt_of_le hi s13) (fun h => by rcases h with rfl | rfl <;> omega)).trans (h13.block i hi)⟩
end Go.Proofs.Ytjailboidlmadaa.P
