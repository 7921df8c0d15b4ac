/- Put, Get and Forget of the cache and of the reference, side by side: over the same list both answer alike, and the lists stay the same. -/
import Derived.Test.YtjailboidlmadaaRH
import Derived.Test.YtjailboidlmadaaRD
import Derived.Test.YtjailboidlmadaaRE
import Derived.Test.YtjailboidlmadaaRF
import Derived.DataElems
import Derived.Test.YtjailboidlmadaaPx7
import Derived.Test.YtjailboidlmadaaPx9
section

namespace Go.Proofs.Ytjailboidlmadaa.P
open Go.RowKit Go.Maps Go.WideMaps Go.Proofs.YtjailboidlmadaaW.PrintWords Go.Proofs.YtjailboidlmadaaW.PrintLast Go.Proofs.YtjailboidlmadaaW.PrintMore Go.Proofs.Ytjailboidlmadaa.Sp
set_option linter.unusedVariables false
set_option linter.unusedSimpArgs false

/-- the cache's entry of a call -/
def RC.ent (r : RC) : Ent := ⟨(r.cl, r.ca), encB r.kd r.p r.t r.cl r.ca r.n r.l6, r.a⟩
/-- a call that both keep -/
structure RC.Good (W0 : World) (r : RC) : Prop where
  right : rightB r.kd r.p r.t r.cl r.ca r.n r.l6 = true
  there : r.There W0
  fits : r.a.fits
theorem keys_ent (rs : List RC) : (rs.map RC.ent).map Ent.key = rs.map RC.key := by rw [List.map_map]; rfl
theorem noKey_ent (k : Int × Int) (rs : List RC) : noKey k (rs.map RC.ent) = (rs.filter fun r => !(r.key == k)).map RC.ent := by
  unfold noKey
  rw [List.filter_map]
  rfl
theorem keepE_ent (c b : Int) (rs : List RC) : keepE c b (rs.map RC.ent) = (keepR c b rs).map RC.ent := by
  unfold keepE keepR
  rw [List.filter_map]
  rfl
theorem trunc_map {α β : Type} (f : α → β) (l : List α) : trunc (l.map f) = (trunc l).map f := by
  unfold trunc
  rw [List.length_map]
  split
  · rw [List.map_drop]
  · rfl
theorem trunc_mem {α : Type} {l : List α} {x : α} (h : x ∈ trunc l) : x ∈ l := by
  unfold trunc at h
  split at h
  · exact List.mem_of_mem_drop h
  · exact h
theorem trunc_len {α : Type} {l : List α} (h : l.length ≤ 21) : (trunc l).length ≤ 20 := by
  unfold trunc
  split
  · rw [List.length_drop]; omega
  · omega
/-- the list behind Put -/
def putR (rs : List RC) (r : RC) : List RC := trunc ((rs.filter fun x => !(x.key == r.key)) ++ [r])
theorem putE_ent (rs : List RC) (r : RC) : putE (rs.map RC.ent) r.ent = (putR rs r).map RC.ent := by
  unfold putE putR
  rw [show r.ent.key = r.key from rfl, noKey_ent, ← trunc_map, List.map_append]
  rfl
theorem putR_good {W0 : World} {rs : List RC} {r : RC} (h : ∀ x ∈ rs, x.Good W0) (hr : r.Good W0) : ∀ x ∈ putR rs r, x.Good W0 := fun x hx => by
  rcases List.mem_append.1 (trunc_mem hx) with hx | hx
  · exact h x (List.mem_filter.1 hx).1
  · rw [List.mem_singleton.1 hx]; exact hr
theorem putR_len {rs : List RC} {r : RC} (h : rs.length ≤ 20) : (putR rs r).length ≤ 20 := trunc_len (by
  have := List.length_filter_le (fun x : RC => !(x.key == r.key)) rs
  rw [List.length_append, List.length_singleton]
  omega)
/-- where a call stands, or that it stands nowhere -/
theorem at_cases (k : Int × Int) (rs : List RC) (hn : (rs.map RC.key).Nodup) :
    (idxOf (fun x => x == k) (rs.map RC.key) = -1 ∧ k ∉ rs.map RC.key ∧ (rs.filter fun x => !(x.key == k)) = rs) ∨
    ∃ (i : Nat) (r : RC), idxOf (fun x => x == k) (rs.map RC.key) = i ∧ rs[i]? = some r ∧ r.key = k ∧ (rs.filter fun x => !(x.key == k)) = rs.take i ++ rs.drop (i + 1) := by
  by_cases hk : k ∈ rs.map RC.key
  · refine .inr ?_
    rcases idxOf_cases (fun x => x == k) (rs.map RC.key) with ⟨_, e2⟩ | ⟨i, q, e1, hi, hq, hlow⟩
    · have := List.filter_eq_self.1 e2 k hk
      simp at this
    · have hq : q = k := by simpa using hq
      rw [List.getElem?_map] at hi
      obtain ⟨r, hr, hrk⟩ : ∃ r, rs[i]? = some r ∧ r.key = q := by
        cases hri : rs[i]? with
        | none => rw [hri] at hi; cases hi
        | some r => rw [hri] at hi; exact ⟨r, rfl, Option.some.inj hi⟩
      refine ⟨i, r, e1, hr, hrk.trans hq, ?_⟩
      have hil := (List.getElem?_eq_some_iff.1 hr).1
      have hie := (List.getElem?_eq_some_iff.1 hr).2
      have hsp : rs = rs.take i ++ r :: rs.drop (i + 1) := by
        rw [← hie, ← List.drop_eq_getElem_cons hil, List.take_append_drop]
      have hnd : ((rs.take i ++ r :: rs.drop (i + 1)).map RC.key).Nodup := by rw [← hsp]; exact hn
      rw [List.map_append, List.map_cons, List.nodup_append] at hnd
      obtain ⟨_, hn2, hn3⟩ := hnd
      rw [List.nodup_cons] at hn2
      have h1 : (rs.take i).filter (fun x => !(x.key == k)) = rs.take i := List.filter_eq_self.2 (fun x hx => by
        have := hn3 x.key (List.mem_map_of_mem hx) r.key List.mem_cons_self
        rw [hrk, hq] at this
        simpa using this)
      have h2 : (rs.drop (i + 1)).filter (fun x => !(x.key == k)) = rs.drop (i + 1) := List.filter_eq_self.2 (fun x hx => by
        have hne : x.key ≠ r.key := fun e => hn2.1 (by rw [← e]; exact List.mem_map_of_mem hx)
        rw [hrk, hq] at hne
        simpa using hne)
      conv => lhs; rw [hsp]
      rw [List.filter_append, h1, List.filter_cons_of_neg (by rw [hrk, hq]; simp), h2]
  · refine .inl ⟨idxOf_miss (fun j x hx => ?_), hk, List.filter_eq_self.2 (fun x hx => ?_)⟩
    · have hm := List.mem_of_getElem? hx
      have : x ≠ k := fun e => hk (e ▸ hm)
      simpa using this
    · have : x.key ≠ k := fun e => hk (e ▸ List.mem_map_of_mem hx)
      simpa using this
theorem right_len {k : Int} {p t : ByteArray} {c q n : Int} {l : List Int} (h : rightB k p t c q n l = true) : l.length ≤ 1000 := by
  have := ((right_iff k p t c q n l).1 h).wide.2.2.2.2.1
  have h8 := (right_iff k p t c q n l).1 h
  have := h8.len
  omega
theorem RC.There.below {r : RC} {w w' : World} (h : r.There w) (hb : Below w.heap.size w w') : r.There w' := ⟨Kd.C_below h.h6 hb, h.k6, Kd.C_below h.h4 hb, h.k4, Kd.C_below h.h8 hb, h.k8⟩
theorem enc_right {k : Int} {p t : ByteArray} {c q n : Int} {l : List Int} (h : rightB k p t c q n l = true) : edit_Encode.f 40 k p t c q n l = some (encB k p t c q n l, 0) := by rw [wire_enc_at _ _ _ _ _ _ _ _ (Nat.le_refl _)]; unfold encW; rw [if_pos h]
theorem enc_wrong {k : Int} {p t : ByteArray} {c q n : Int} {l : List Int} (h : rightB k p t c q n l = false) : edit_Encode.f 40 k p t c q n l = some (⟨#[]⟩, 1) := by rw [wire_enc_at _ _ _ _ _ _ _ _ (Nat.le_refl _)]; unfold encW; rw [if_neg (by rw [h]; decide)]

/-- Put of both -/
theorem put_both {W0 : World} {rs : List RC} (hg : ∀ x ∈ rs, x.Good W0) (hl : rs.length ≤ 20) (hn : (rs.map RC.key).Nodup) (r : RC) (ht : r.There W0) (hf : r.a.fits) (hw : kwf (r.cl, r.ca)) (c m : Int) :
    ∃ (v : Int) (rs' : List RC), (∀ x ∈ rs', x.Good W0) ∧ rs'.length ≤ 20 ∧
      (∀ (W : World) (B : Nat) (D : Nat → Prop) (N : Nat), Below W0.heap.size W0 W → (∀ i, D i → W0.heap.size ≤ i) → StD W B D N (rs.map RC.ent) → N ≤ 1000000 →
        Calls Try.prog 10 #[.pointer (some ⟨B, 0, none⟩), .int .i64 c, .int .i64 m, .agg #[.int .i64 r.kd, .string r.p, .string r.t, .int .i64 r.cl, .int .i64 r.ca, .int .i64 r.n, .slice r.A6 r.l6.length r.c6], .agg #[.int .i64 r.a.err, .int .i64 r.a.b0, .int .i64 r.a.b1, .int .i64 r.a.b2, .slice r.A4 r.a.names.length r.c4, .string r.a.path, .bool r.a.dir, .int .i64 r.a.quota, .slice r.A8 r.a.blocks.length r.c8, .int .i64 r.a.writer, .int .i64 r.a.n]] W fun e w' => e = .returned (.int .i64 v) ∧ (∃ D' N', StD w' B D' N' (rs'.map RC.ent) ∧ N' ≤ N + 1 ∧ (∀ i, D' i → D i ∨ W.heap.size ≤ i)) ∧ Gr D W w') ∧
      (∀ (W : World) (X : Nat) (D : Nat → Prop) (sl : Value), Below W0.heap.size W0 W → RX W X D sl rs →
        Calls Try.prog 15 #[.pointer (some ⟨X, 0, none⟩), .int .i64 c, .int .i64 m, .agg #[.int .i64 r.kd, .string r.p, .string r.t, .int .i64 r.cl, .int .i64 r.ca, .int .i64 r.n, .slice r.A6 r.l6.length r.c6], .agg #[.int .i64 r.a.err, .int .i64 r.a.b0, .int .i64 r.a.b1, .int .i64 r.a.b2, .slice r.A4 r.a.names.length r.c4, .string r.a.path, .bool r.a.dir, .int .i64 r.a.quota, .slice r.A8 r.a.blocks.length r.c8, .int .i64 r.a.writer, .int .i64 r.a.n]] W fun e w' => e = .returned (.int .i64 v) ∧ (∃ D' sl', RX w' X D' sl' rs' ∧ (∀ i, D' i → D i ∨ W.heap.size ≤ i)) ∧ Gr D W w') := by
  obtain ⟨kd, p, t, cl, ca, n6, A6, c6, l6, ⟨err, b0, b1, b2, names, path, dir, quota, blocks, writer, n⟩, A4, c4, A8, c8⟩ := r
  have hr := ref_right_at kd p t cl ca n6 l6 24 (Nat.le_refl _)
  cases hrt : rightB kd p t cl ca n6 l6 with
  | false =>
    rw [hrt] at hr
    refine ⟨1, rs, hg, hl, fun W B D N hb hD hs hN => ?_, fun W X D sl hb hx => ?_⟩
    · refine (put_none hs c m kd p t cl ca n6 A6 c6 l6 err b0 b1 b2 names path dir quota blocks writer n A4 A8 c4 c8 40 _ 1 (ht.below hb).h6 ht.k6 (enc_wrong hrt) (by decide)).mono ?_
      rintro e w' ⟨rfl, hb'⟩
      exact ⟨rfl, ⟨D, N, hs.below hb', Nat.le_succ _, fun _ h => .inl h⟩, Gr.of_below hb'⟩
    · refine (rput_bad hx c m kd p t cl ca n6 A6 c6 l6 err b0 b1 b2 names path dir quota blocks writer n A4 c4 A8 c8 24 false hr (ht.below hb).h6 ht.k6 (.inl rfl)).mono ?_
      rintro e w' ⟨rfl, hb'⟩
      exact ⟨rfl, ⟨D, sl, hx.below hb', fun _ h => .inl h⟩, Gr.of_below hb'⟩
  | true =>
    rw [hrt] at hr
    have henc := enc_right hrt
    by_cases hk : c = cl ∧ m = ca
    · obtain ⟨rfl, rfl⟩ := hk
      have hgood : RC.Good W0 (⟨kd, p, t, c, m, n6, A6, c6, l6, ⟨err, b0, b1, b2, names, path, dir, quota, blocks, writer, n⟩, A4, c4, A8, c8⟩ : RC) := ⟨hrt, ht, hf⟩
      have hlow : ∀ {W W' : World} {D : Nat → Prop}, Below W0.heap.size W0 W → (∀ i, D i → W0.heap.size ≤ i) → Gr D W W' → Below W0.heap.size W0 W' := fun hb hD hgr => gr_low hb hgr hD
      rcases at_cases (c, m) rs hn with ⟨hi, hnot, hfil⟩ | ⟨i, r0, hi, hri, hrk, hfil⟩
      · refine ⟨0, putR rs (⟨kd, p, t, c, m, n6, A6, c6, l6, ⟨err, b0, b1, b2, names, path, dir, quota, blocks, writer, n⟩, A4, c4, A8, c8⟩ : RC), putR_good hg hgood, putR_len hl, fun W B D N hb hD hs hN => ?_, fun W X D sl hb hx => ?_⟩
        · refine (put_kept hs c m kd p t n6 A6 c6 l6 err b0 b1 b2 names path dir quota blocks writer n A4 A8 c4 c8 40 _ (ht.below hb).h6 ht.k6 henc hw (by rw [List.length_map]; omega) hN (fun W' hgr => (ht.below (hlow hb hD hgr)).h4) ht.k4 (fun W' hgr => (ht.below (hlow hb hD hgr)).h8) ht.k8 hf (.inr (by rw [keys_ent]; exact hnot))).mono ?_
          rintro e w' ⟨rfl, hs', hgr⟩
          rw [← putE_ent]
          exact ⟨rfl, ⟨_, _, hs', Nat.le_refl _, fun _ h => h.1⟩, hgr⟩
        · have hput : putR rs (⟨kd, p, t, c, m, n6, A6, c6, l6, ⟨err, b0, b1, b2, names, path, dir, quota, blocks, writer, n⟩, A4, c4, A8, c8⟩ : RC) = trunc (rs ++ [(⟨kd, p, t, c, m, n6, A6, c6, l6, ⟨err, b0, b1, b2, names, path, dir, quota, blocks, writer, n⟩, A4, c4, A8, c8⟩ : RC)]) := by
            unfold putR
            rw [show RC.key (⟨kd, p, t, c, m, n6, A6, c6, l6, ⟨err, b0, b1, b2, names, path, dir, quota, blocks, writer, n⟩, A4, c4, A8, c8⟩ : RC) = (c, m) from rfl, hfil]
          by_cases hlt : rs.length < 20
          · refine (rput_new hx hl kd p t c m n6 A6 c6 l6 err b0 b1 b2 names path dir quota blocks writer n A4 c4 A8 c8 24 hr (ht.below hb).h6 ht.k6 hi hlt).mono ?_
            rintro e w' ⟨rfl, ⟨sl', hx'⟩, hgr⟩
            rw [hput, show trunc (rs ++ [(⟨kd, p, t, c, m, n6, A6, c6, l6, ⟨err, b0, b1, b2, names, path, dir, quota, blocks, writer, n⟩, A4, c4, A8, c8⟩ : RC)]) = rs ++ [(⟨kd, p, t, c, m, n6, A6, c6, l6, ⟨err, b0, b1, b2, names, path, dir, quota, blocks, writer, n⟩, A4, c4, A8, c8⟩ : RC)] from if_neg (by rw [List.length_append, List.length_singleton]; omega)]
            exact ⟨rfl, ⟨_, _, hx', fun _ h => h⟩, hgr⟩
          · refine (rput_cut hx hl kd p t c m n6 A6 c6 l6 err b0 b1 b2 names path dir quota blocks writer n A4 c4 A8 c8 24 hr (ht.below hb).h6 ht.k6 hi (by omega)).mono ?_
            rintro e w' ⟨rfl, ⟨sl', hx'⟩, hgr⟩
            rw [hput, show trunc (rs ++ [(⟨kd, p, t, c, m, n6, A6, c6, l6, ⟨err, b0, b1, b2, names, path, dir, quota, blocks, writer, n⟩, A4, c4, A8, c8⟩ : RC)]) = (rs ++ [(⟨kd, p, t, c, m, n6, A6, c6, l6, ⟨err, b0, b1, b2, names, path, dir, quota, blocks, writer, n⟩, A4, c4, A8, c8⟩ : RC)]).drop 1 from if_pos (by rw [List.length_append, List.length_singleton]; omega)]
            exact ⟨rfl, ⟨_, _, hx', fun _ h => h⟩, hgr⟩
      · have hmem : r0 ∈ rs := List.mem_of_getElem? hri
        have hg0 := hg r0 hmem
        have hidx := hi
        obtain ⟨kd', p', t', cl', ca', n6', A6', c6', l6', ⟨err', b0', b1', b2', names', path', dir', quota', blocks', writer', n'⟩, A4', c4', A8', c8'⟩ := r0
        obtain ⟨rfl, rfl⟩ : cl' = c ∧ ca' = m := ⟨congrArg Prod.fst hrk, congrArg Prod.snd hrk⟩
        have hsm := same_at kd' p' t' cl' ca' n6' l6' kd p t cl' ca' n6 l6 (right_len hg0.right)
        have hin : RC.ent (⟨kd', p', t', cl', ca', n6', A6', c6', l6', ⟨err', b0', b1', b2', names', path', dir', quota', blocks', writer', n'⟩, A4', c4', A8', c8'⟩ : RC) ∈ rs.map RC.ent := List.mem_map_of_mem hmem
        by_cases hsame : kd' = kd ∧ p' = p ∧ t' = t ∧ cl' = cl' ∧ ca' = ca' ∧ n6' = n6 ∧ l6' = l6
        · rw [decide_eq_true hsame] at hsm
          obtain ⟨e1, e2, e3, _, _, e6, e7⟩ := hsame
          refine ⟨0, putR rs (⟨kd, p, t, cl', ca', n6, A6, c6, l6, ⟨err, b0, b1, b2, names, path, dir, quota, blocks, writer, n⟩, A4, c4, A8, c8⟩ : RC), putR_good hg hgood, putR_len hl, fun W B D N hb hD hs hN => ?_, fun W X D sl hb hx => ?_⟩
          · refine (put_kept hs cl' ca' kd p t n6 A6 c6 l6 err b0 b1 b2 names path dir quota blocks writer n A4 A8 c4 c8 40 _ (ht.below hb).h6 ht.k6 henc hw (by rw [List.length_map]; omega) hN (fun W' hgr => (ht.below (hlow hb hD hgr)).h4) ht.k4 (fun W' hgr => (ht.below (hlow hb hD hgr)).h8) ht.k8 hf (.inl ⟨_, hin, rfl, by show (encB kd' p' t' cl' ca' n6' l6').toList = _; rw [e1, e2, e3, e6, e7]⟩)).mono ?_
            rintro e w' ⟨rfl, hs', hgr⟩
            rw [← putE_ent]
            exact ⟨rfl, ⟨_, _, hs', Nat.le_refl _, fun _ h => h.1⟩, hgr⟩
          · have hput : putR rs (⟨kd, p, t, cl', ca', n6, A6, c6, l6, ⟨err, b0, b1, b2, names, path, dir, quota, blocks, writer, n⟩, A4, c4, A8, c8⟩ : RC) = (rs.take i ++ rs.drop (i + 1)) ++ [(⟨kd, p, t, cl', ca', n6, A6, c6, l6, ⟨err, b0, b1, b2, names, path, dir, quota, blocks, writer, n⟩, A4, c4, A8, c8⟩ : RC)] := by
              have hil := (List.getElem?_eq_some_iff.1 hri).1
              unfold putR
              rw [show RC.key (⟨kd, p, t, cl', ca', n6, A6, c6, l6, ⟨err, b0, b1, b2, names, path, dir, quota, blocks, writer, n⟩, A4, c4, A8, c8⟩ : RC) = (cl', ca') from rfl, hfil]
              exact if_neg (by rw [List.length_append, List.length_append, List.length_take, List.length_drop, List.length_singleton]; omega)
            refine (rput_hit hx hl kd p t cl' ca' n6 A6 c6 l6 err b0 b1 b2 names path dir quota blocks writer n A4 c4 A8 c8 24 hr (ht.below hb).h6 ht.k6 i hidx kd' p' t' cl' ca' n6' A6' c6' l6' _ A4' c4' A8' c8' hri 1100 true hsm (hg0.there.below hb).h6 hg0.there.k6 rfl).mono ?_
            rintro e w' ⟨rfl, ⟨sl', hx'⟩, hgr⟩
            rw [hput]
            exact ⟨rfl, ⟨_, _, hx', fun _ h => h⟩, hgr⟩
        · rw [decide_eq_false hsame] at hsm
          refine ⟨14, rs, hg, hl, fun W B D N hb hD hs hN => ?_, fun W X D sl hb hx => ?_⟩
          · obtain ⟨bm, sl, DM, hm⟩ := hs.st
            refine (put_state hm cl' ca' kd p t cl' ca' n6 A6 c6 l6 err b0 b1 b2 names path dir quota blocks writer n A4 A8 c4 c8 40 _ 0 (ht.below hb).h6 ht.k6 henc rfl ⟨rfl, rfl⟩ _ _ _ _ _ _ _ _ _ _ _ _ hin (fun e => hsame ?_)).mono ?_
            · obtain ⟨a1, a2, a3, _, _, a6, a7⟩ := encB_inj e.symm
              exact ⟨a1, a2, a3, rfl, rfl, a6, a7⟩
            rintro e w' ⟨rfl, hb'⟩
            exact ⟨rfl, ⟨D, N, hs.below hb', Nat.le_succ _, fun _ h => .inl h⟩, Gr.of_below hb'⟩
          · refine (rput_state hx hl kd p t cl' ca' n6 A6 c6 l6 err b0 b1 b2 names path dir quota blocks writer n A4 c4 A8 c8 24 hr (ht.below hb).h6 ht.k6 i hidx kd' p' t' cl' ca' n6' A6' c6' l6' _ A4' c4' A8' c8' hri 1100 false hsm (hg0.there.below hb).h6 hg0.there.k6 rfl).mono ?_
            rintro e w' ⟨rfl, hb'⟩
            exact ⟨rfl, ⟨D, sl, hx.below hb', fun _ h => .inl h⟩, Gr.of_below hb'⟩
    · refine ⟨1, rs, hg, hl, fun W B D N hb hD hs hN => ?_, fun W X D sl hb hx => ?_⟩
      · obtain ⟨bm, sl, DM, hm⟩ := hs.st
        refine (put_other hm c m kd p t cl ca n6 A6 c6 l6 err b0 b1 b2 names path dir quota blocks writer n A4 A8 c4 c8 40 _ 0 (ht.below hb).h6 ht.k6 henc rfl hk).mono ?_
        rintro e w' ⟨rfl, hb'⟩
        exact ⟨rfl, ⟨D, N, hs.below hb', Nat.le_succ _, fun _ h => .inl h⟩, Gr.of_below hb'⟩
      · refine (rput_bad hx c m kd p t cl ca n6 A6 c6 l6 err b0 b1 b2 names path dir quota blocks writer n A4 c4 A8 c8 24 true hr (ht.below hb).h6 ht.k6 (.inr ?_)).mono ?_
        · by_cases h1 : cl = c
          · exact .inr (fun h2 => hk ⟨h1.symm, h2.symm⟩)
          · exact .inl h1
        rintro e w' ⟨rfl, hb'⟩
        exact ⟨rfl, ⟨D, sl, hx.below hb', fun _ h => .inl h⟩, Gr.of_below hb'⟩

/-- Get of both -/
theorem get_both {W0 : World} {rs : List RC} (hg : ∀ x ∈ rs, x.Good W0) (hl : rs.length ≤ 20) (hn : (rs.map RC.key).Nodup) (kd : Int) (p t : ByteArray) (cl ca n6 : Int) (A6 : Option Addr) (c6 : Nat) (l6 : List Int) (h6 : Kd.C (Kd.int .i64) W0 A6 l6.length l6) (k6 : l6.length ≤ c6) (c m : Int) (hw : kwf (c, m)) :
    ∃ (ok : Bool) (v : Int) (a : Ans) (A4 : Option Addr) (c4 : Nat) (A8 : Option Addr) (c8 : Nat), Kd.C Kd.string W0 A4 a.names.length a.names ∧ a.names.length ≤ c4 ∧ Kd.C k32 W0 A8 a.blocks.length a.blocks ∧ a.blocks.length ≤ c8 ∧ a.fits ∧
      (∀ (W : World) (B : Nat) (D : Nat → Prop) (N : Nat), Below W0.heap.size W0 W → StD W B D N (rs.map RC.ent) →
        Calls Try.prog 11 #[.pointer (some ⟨B, 0, none⟩), .int .i64 c, .int .i64 m, .agg #[.int .i64 kd, .string p, .string t, .int .i64 cl, .int .i64 ca, .int .i64 n6, .slice A6 l6.length c6]] W fun e w' =>
          ∃ B4 d4 B8 d8, e = .returned (.tuple #[.agg #[.int .i64 a.err, .int .i64 a.b0, .int .i64 a.b1, .int .i64 a.b2, .slice B4 a.names.length d4, .string a.path, .bool a.dir, .int .i64 a.quota, .slice B8 a.blocks.length d8, .int .i64 a.writer, .int .i64 a.n], .bool ok, .int .i64 v]) ∧ Kd.R Kd.string 9 w' W.heap.size (fun _ => True) (.slice B4 a.names.length d4) a.names ∧ Kd.R k32 32 w' W.heap.size (fun _ => True) (.slice B8 a.blocks.length d8) a.blocks ∧ Below W.heap.size W w') ∧
      (∀ (W : World) (X : Nat) (D : Nat → Prop) (sl : Value), Below W0.heap.size W0 W → RX W X D sl rs →
        Calls Try.prog 16 #[.pointer (some ⟨X, 0, none⟩), .int .i64 c, .int .i64 m, .agg #[.int .i64 kd, .string p, .string t, .int .i64 cl, .int .i64 ca, .int .i64 n6, .slice A6 l6.length c6]] W fun e w' => e = .returned (.tuple #[.agg #[.int .i64 a.err, .int .i64 a.b0, .int .i64 a.b1, .int .i64 a.b2, .slice A4 a.names.length c4, .string a.path, .bool a.dir, .int .i64 a.quota, .slice A8 a.blocks.length c8, .int .i64 a.writer, .int .i64 a.n], .bool ok, .int .i64 v]) ∧ Below W.heap.size W w') := by
  have h0 : ∀ {W : World}, Kd.C Kd.string W none ans0.names.length ans0.names := fun {W} => Kd.C_nil _ W
  have h00 : ∀ {W : World}, Kd.C k32 W none ans0.blocks.length ans0.blocks := fun {W} => Kd.C_nil _ W
  have hf0 : ans0.fits := ⟨(show (0 : Nat) * 16 ≤ 140737488355328 by decide), (show (0 : Nat) * 24 ≤ 140737488355328 by decide)⟩
  rcases at_cases (c, m) rs hn with ⟨hi, hnot, hfil⟩ | ⟨i, r0, hi, hri, hrk, hfil⟩
  · refine ⟨false, 0, ans0, none, 0, none, 0, h0, Nat.le_refl _, h00, Nat.le_refl _, hf0, fun W B D N hb hs => ?_, fun W X D sl hb hx => ?_⟩
    · refine (get_none hs c m kd p t cl ca n6 A6 c6 l6 hw (by rw [keys_ent]; exact hnot)).mono ?_
      rintro e w' ⟨rfl, hb'⟩
      exact ⟨none, 0, none, 0, rfl, Kd.R_nil _ _ _ _ _, Kd.R_nil _ _ _ _ _, hb'⟩
    · exact rget_none hx (by omega) c m kd p t cl ca n6 A6 c6 l6 hi
  · have hmem : r0 ∈ rs := List.mem_of_getElem? hri
    have hg0 := hg r0 hmem
    have hidx := hi
    obtain ⟨kd', p', t', cl', ca', n6', A6', c6', l6', ⟨err', b0', b1', b2', names', path', dir', quota', blocks', writer', n'⟩, A4', c4', A8', c8'⟩ := r0
    obtain ⟨rfl, rfl⟩ : cl' = c ∧ ca' = m := ⟨congrArg Prod.fst hrk, congrArg Prod.snd hrk⟩
    have hsm := same_at kd' p' t' cl' ca' n6' l6' kd p t cl ca n6 l6 (right_len hg0.right)
    have hin : RC.ent (⟨kd', p', t', cl', ca', n6', A6', c6', l6', ⟨err', b0', b1', b2', names', path', dir', quota', blocks', writer', n'⟩, A4', c4', A8', c8'⟩ : RC) ∈ rs.map RC.ent := List.mem_map_of_mem hmem
    have hge := hg0.right
    by_cases hsame : kd' = kd ∧ p' = p ∧ t' = t ∧ cl' = cl ∧ ca' = ca ∧ n6' = n6 ∧ l6' = l6
    · rw [decide_eq_true hsame] at hsm
      have hrt : rightB kd p t cl ca n6 l6 = true := by
        have h := hg0.right
        obtain ⟨e1, e2, e3, e4, e5, e6, e7⟩ := hsame
        rw [← e1, ← e2, ← e3, ← e4, ← e5, ← e6, ← e7]
        exact h
      refine ⟨true, 0, _, A4', c4', A8', c8', hg0.there.h4, hg0.there.k4, hg0.there.h8, hg0.there.k8, hg0.fits, fun W B D N hb hs => ?_, fun W X D sl hb hx => ?_⟩
      · refine (get_kept hs cl' ca' kd p t cl ca n6 A6 c6 l6 _ _ _ _ _ _ _ _ _ _ _ _ hin 40 _ (Kd.C_below h6 hb) k6 (enc_right hrt) ?_).mono ?_
        · obtain ⟨e1, e2, e3, e4, e5, e6, e7⟩ := hsame
          show _ = (encB kd' p' t' cl' ca' n6' l6').toList
          rw [e1, e2, e3, e6, e7, ← e4, ← e5]
        rintro e w' ⟨B4, d4, B8, d8, rfl, h4, h8, hb'⟩
        exact ⟨B4, d4, B8, d8, rfl, h4, h8, hb'⟩
      · refine (rget_hit hx (by omega) cl' ca' kd p t cl ca n6 A6 c6 l6 kd' p' t' cl' ca' n6' A6' c6' l6' err' b0' b1' b2' names' path' dir' quota' blocks' writer' n' A4' c4' A8' c8' i hidx hri 1100 true hsm (hg0.there.below hb).h6 hg0.there.k6 (Kd.C_below h6 hb) k6 rfl).mono ?_
        rintro e w' ⟨rfl, hb'⟩
        exact ⟨rfl, hb'⟩
    · rw [decide_eq_false hsame] at hsm
      refine ⟨false, 14, ans0, none, 0, none, 0, h0, Nat.le_refl _, h00, Nat.le_refl _, hf0, fun W B D N hb hs => ?_, fun W X D sl hb hx => ?_⟩
      · cases hrt : rightB kd p t cl ca n6 l6 with
        | false =>
          refine (get_odd hs cl' ca' kd p t cl ca n6 A6 c6 l6 hin rfl 40 _ 1 (Kd.C_below h6 hb) k6 (enc_wrong hrt) (.inl (by decide))).mono ?_
          rintro e w' ⟨rfl, hb'⟩
          exact ⟨none, 0, none, 0, rfl, Kd.R_nil _ _ _ _ _, Kd.R_nil _ _ _ _ _, hb'⟩
        | true =>
          refine (get_odd hs cl' ca' kd p t cl ca n6 A6 c6 l6 hin rfl 40 _ 0 (Kd.C_below h6 hb) k6 (enc_right hrt) (.inr (fun e => hsame ?_))).mono ?_
          · obtain ⟨a1, a2, a3, a4, a5, a6, a7⟩ := encB_inj e
            exact ⟨a1.symm, a2.symm, a3.symm, a4.symm, a5.symm, a6.symm, a7.symm⟩
          rintro e w' ⟨rfl, hb'⟩
          exact ⟨none, 0, none, 0, rfl, Kd.R_nil _ _ _ _ _, Kd.R_nil _ _ _ _ _, hb'⟩
      · refine (rget_odd hx (by omega) cl' ca' kd p t cl ca n6 A6 c6 l6 kd' p' t' cl' ca' n6' A6' c6' l6' err' b0' b1' b2' names' path' dir' quota' blocks' writer' n' A4' c4' A8' c8' i hidx hri 1100 false hsm (hg0.there.below hb).h6 hg0.there.k6 (Kd.C_below h6 hb) k6 rfl).mono ?_
        rintro e w' ⟨rfl, hb'⟩
        exact ⟨rfl, hb'⟩

/-- Forget of both -/
theorem forget_one {W : World} {B N : Nat} {D : Nat → Prop} {rs : List RC} (h : StD W B D N (rs.map RC.ent)) (hl : rs.length ≤ 20) (c b : Int) :
    Calls Try.prog 17 #[.pointer (some ⟨B, 0, none⟩), .int .i64 c, .int .i64 b] W fun e w' => e = .returned (.tuple #[]) ∧ (∃ D', StD w' B D' N ((keepR c b rs).map RC.ent) ∧ (∀ i, D' i → D i)) ∧ Gr D W w' := by
  obtain ⟨bm, sl, DM, hm⟩ := h.st
  refine (forget_m hm h.lt (by rw [List.length_map]; omega) c b).mono ?_
  rintro e w' ⟨rfl, hs, hg⟩
  rw [keepE_ent] at hs
  exact ⟨rfl, ⟨_, hs.bound, fun _ h => h.1⟩, hg⟩
theorem keepR_good {W0 : World} {c b : Int} {rs : List RC} (h : ∀ x ∈ rs, x.Good W0) : ∀ x ∈ keepR c b rs, x.Good W0 := fun x hx => h x (List.mem_filter.1 hx).1
theorem keepR_len {c b : Int} {rs : List RC} (h : rs.length ≤ 20) : (keepR c b rs).length ≤ 20 := Nat.le_trans (List.length_filter_le _ _) h
end Go.Proofs.Ytjailboidlmadaa.P
end

section

namespace Go.Proofs.Ytjailboidlmadaa.P
open Go.RowKit Go.Maps Go.WideMaps Go.Proofs.YtjailboidlmadaaW.PrintWords Go.Proofs.YtjailboidlmadaaW.PrintLast Go.Proofs.YtjailboidlmadaaW.PrintMore
set_option linter.unusedVariables false
set_option linter.unusedSimpArgs false

/-- the cache at B holds rb, the reference's at X holds rs; they share no block, and none of them was there at w0 -/
structure Jn (w0 W : World) (B X N : Nat) (DB DX : Nat → Prop) (sl : Value) (rb rs : List RC) : Prop where
  st : StD W B DB N (rb.map RC.ent)
  rx : RX W X DX sl rs
  ltx : ∀ i, DX i → i < W.heap.size
  dis : ∀ i, DB i → ¬ DX i
  geB : ∀ i, DB i → w0.heap.size ≤ i
  geX : ∀ i, DX i → w0.heap.size ≤ i
  low : Below w0.heap.size w0 W
variable {w0 W W' : World} {B X N g : Nat} {DB DX : Nat → Prop} {sl : Value} {rb rs : List RC}
theorem Jn.below (h : Jn w0 W B X N DB DX sl rb rs) (hb : Below W.heap.size W W') : Jn w0 W' B X N DB DX sl rb rs :=
  ⟨h.st.below hb, h.rx.below hb, fun i hi => Nat.lt_of_lt_of_le (h.ltx i hi) hb.size, h.dis, h.geB, h.geX, below_step h.low hb⟩
theorem Jn.one (h : Jn w0 W B X N DB DX sl rb rs) (hg : Gr (fun i => i = g) W W') (hB : ¬ DB g) (hX : ¬ DX g) (hlo : w0.heap.size ≤ g) : Jn w0 W' B X N DB DX sl rb rs :=
  ⟨h.st.one hg hB, h.rx.gr hg (fun i hi e => hX (e ▸ hi)), fun i hi => Nat.lt_of_lt_of_le (h.ltx i hi) hg.size, h.dis, h.geB, h.geX, gr_one h.low hg hlo⟩
theorem Jn.newB (h : Jn w0 W B X N DB DX sl rb rs) (hg : W.heap.size ≤ g) : ¬ DB g := fun hd => absurd (h.st.lt g hd) (Nat.not_lt.2 hg)
theorem Jn.newX (h : Jn w0 W B X N DB DX sl rb rs) (hg : W.heap.size ≤ g) : ¬ DX g := fun hd => absurd (h.ltx g hd) (Nat.not_lt.2 hg)
theorem Jn.stepB {DB' : Nat → Prop} {N' : Nat} {rb' : List RC} (h : Jn w0 W B X N DB DX sl rb rs) (hs : StD W' B DB' N' (rb'.map RC.ent)) (hsub : ∀ i, DB' i → DB i ∨ W.heap.size ≤ i) (hg : Gr DB W W') : Jn w0 W' B X N' DB' DX sl rb' rs :=
  ⟨hs, h.rx.gr hg (fun i hi hb => h.dis i hb hi), fun i hi => Nat.lt_of_lt_of_le (h.ltx i hi) hg.size, fun i hi hx => (hsub i hi).elim (fun hb => h.dis i hb hx) (fun hge => absurd (h.ltx i hx) (Nat.not_lt.2 hge)),
    fun i hi => (hsub i hi).elim (h.geB i) (fun hge => Nat.le_trans h.low.size hge), h.geX, gr_low h.low hg h.geB⟩
theorem Jn.stepX {DX' : Nat → Prop} {sl' : Value} {rs' : List RC} (h : Jn w0 W B X N DB DX sl rb rs) (hs : RX W' X DX' sl' rs') (hsub : ∀ i, DX' i → DX i ∨ W.heap.size ≤ i) (hg : Gr DX W W') : Jn w0 W' B X N DB (fun i => DX' i ∧ i < W'.heap.size) sl' rb rs' :=
  ⟨h.st.gr hg (fun i hb hx => h.dis i hb hx), ⟨⟨hs.hX, blk_lt hs.at_⟩, hs.at_, hs.row.bound⟩, fun i hi => hi.2, fun i hi hx => (hsub i hx.1).elim (h.dis i hi) (fun hge => absurd (h.st.lt i hi) (Nat.not_lt.2 hge)),
    h.geB, fun i hi => (hsub i hi.1).elim (h.geX i) (fun hge => Nat.le_trans h.low.size hge), gr_low h.low hg h.geX⟩
theorem Jn.keys (h : Jn w0 W B X N DB DX sl rb rs) : (rb.map RC.key).Nodup := by
  have := h.st.nodup
  rw [keys_ent] at this
  exact this
theorem Jn.notB (h : Jn w0 W B X N DB DX sl rb rs) {DB' : Nat → Prop} (hn : ¬ DB g) (hl : g < W.heap.size) (hsub : ∀ i, DB' i → DB i ∨ W.heap.size ≤ i) : ¬ DB' g := fun hd => (hsub g hd).elim hn (fun hge => absurd hl (Nat.not_lt.2 hge))

/-- a row of n elements of sz cells of type e in a block of its own between lo and hi -/
def Rw (W : World) (e sz lo hi : Nat) (A : Option Addr) (n : Nat) : Prop := 0 < n → ∃ g cells, A = some ⟨g, 0, none⟩ ∧ W.heap[g]? = some (.cells cells e (0, 0)) ∧ n * sz ≤ cells.size ∧ lo ≤ g ∧ g < hi
theorem Rw.of_R {α : Type} {d : Kd α} {e base : Nat} {ok : Nat → Prop} {A : Option Addr} {n c : Nat} {xs : List α} (h : d.R e W base ok (.slice A n c) xs) : Rw W e d.sz base W.heap.size A n := fun hn => by
  obtain ⟨inner, h1, h2⟩ := Kd.R_own h
  have hl := (Kd.R_reads' h).1
  rcases h2 with ⟨h3, h4⟩ | ⟨g, cap, cur, h3, h4, h5, h6, h7, h8, h9⟩
  · omega
  · injection h3 with h3 h10 h11
    exact ⟨g, cur, h3, h5, by rw [h8, h10]; exact Nat.mul_le_mul_right _ h6, h4, blk_lt h5⟩
theorem Rw.gr {S : Nat → Prop} {e sz lo hi n : Nat} {A : Option Addr} (h : Rw W e sz lo hi A n) (hg : Gr S W W') (hS : ∀ i, lo ≤ i → i < hi → (∃ c, W.heap[i]? = some (.cells c e (0, 0))) → ¬ S i) : Rw W' e sz lo hi A n := fun hn => by
  obtain ⟨g, cells, h1, h2, h3, h4, h5⟩ := h hn
  exact ⟨g, cells, h1, (hg.block g (blk_lt h2) (hS g h4 h5 ⟨_, h2⟩)).trans h2, h3, h4, h5⟩
theorem Rw.low {e sz lo hi n : Nat} {A : Option Addr} (h : Rw W e sz lo hi A n) (hb : Below W.heap.size W W') : Rw W' e sz lo hi A n := h.gr (S := fun _ => False) (Gr.of_below hb) (fun _ _ _ _ h => h)
/-- one cell is another one -/
theorem Rw.set {e sz lo hi n : Nat} {A : Option Addr} {g j : Nat} {v : Value} {c : Array Value} (h : Rw W e sz lo hi A n) (hg : Gr (fun i => i = g) W W') (hc : W.heap[g]? = some (.cells c e (0, 0))) (h' : W'.heap[g]? = some (.cells (c.setIfInBounds j v) e (0, 0))) : Rw W' e sz lo hi A n := fun hn => by
  obtain ⟨g', cells, h1, h2, h3, h4, h5⟩ := h hn
  by_cases hgg : g' = g
  · subst hgg
    rw [hc] at h2
    injection h2 with h2
    injection h2 with h2
    subst h2
    exact ⟨g', _, h1, h', by rw [Array.size_setIfInBounds]; exact h3, h4, h5⟩
  · exact ⟨g', cells, h1, (hg.block g' (blk_lt h2) hgg).trans h2, h3, h4, h5⟩
/-- rows of unlike types -/
theorem Rw.other {e sz lo hi n e' : Nat} {A : Option Addr} {c : Array Value} (h : Rw W e sz lo hi A n) (hg : Gr (fun i => i = g) W W') (hc : W.heap[g]? = some (.cells c e' (0, 0))) (hne : e' ≠ e) : Rw W' e sz lo hi A n := h.gr hg (fun i _ _ ⟨c', hc'⟩ e1 => by
  rw [e1, hc] at hc'
  injection hc' with hc'
  injection hc' with _ hc'
  exact hne hc')

/-- the cells of a deed -/
def deedCells (kind c m : Int) (r : RC) : List Value := .int .i64 kind :: .int .i64 c :: .int .i64 m :: r.cells
/-- the deeds are there -/
def Deeds (w : World) (A : Option Addr) (n : Nat) : Prop := ∀ i, i < n → ∃ ad kind c m r, A = some ad ∧ (∀ j u, (deedCells kind c m r)[j]? = some u → w.cell? (ad.add (i * 21 + j)) = some u) ∧ r.There w ∧ (Lit.int .i64 kind).wf = true ∧ kwf (c, m) ∧ kwf (r.cl, r.ca) ∧ r.a.fits
section
variable {P : Program} {ops : Array Oper} {rest : List Oper} {o : Oper} {a : Act} {Q : Exit → Act → World → Prop} {W : World}
/-- a struct read at an element's address -/
theorem wpList_load_ad (hgd : o.guard = none) (t : TypeId) (p : Operand) (ho : o.op = .load t p) {ad : Addr} (haddr : a.eval p = .pointer (some ad)) (vs : List Value) (hc : ∀ j v, vs[j]? = some v → W.cell? (ad.add j) = some v) (ha : ∀ w, (isAgg t).run P w = .ok true w)
    (ht : (P.info? t).map (·.size) = some vs.length) (h : wpList P ops Q rest (a.put o.dst (.agg vs.toArray)) W) : wpList P ops Q (o :: rest) a W := by
  refine wpList_plain hgd fun K hK => ?_
  obtain ⟨i, hi, hsz⟩ := Option.map_eq_some_iff.1 ht
  have h1 := run_loadCells_list (P := P) (w := W) ad vs hc
  have hrun : (Instr.loadAt t (.pointer (some ad))).run P W = .ok (.agg vs.toArray) W := by
    simp [Instr.loadAt, Instr.sureAddr, loadVar, sizeOf, typeInfo, hi, hsz, ha, h1]
  unfold Oper.wp execOp
  simp only [ho, haddr, Sem.run_bind, Sem.run_pure, Result.andThen_ok, hrun]
  exact hK _ _ h
end
theorem agg53 (w : World) : (isAgg 53).run Try.prog w = .ok true w := by kernel_rfl
theorem size53 : (Try.prog.info? 53).map (·.size) = some 21 := by kernel_rfl
theorem size9 : (Try.prog.info? 9).map (·.size) = some 1 := by kernel_rfl
end Go.Proofs.Ytjailboidlmadaa.P
end

section

namespace Go.Proofs.Ytjailboidlmadaa.P
open Go.RowKit Go.Maps Go.WideMaps Go.Proofs.YtjailboidlmadaaW.PrintWords Go.Proofs.YtjailboidlmadaaW.PrintLast Go.Proofs.YtjailboidlmadaaW.PrintMore
attribute [local go_sem] max2_int min2_int max_two min_two max_three min_three max_four min_four
set_option linter.unusedVariables false
set_option linter.unusedSimpArgs false
theorem next_big {k n : Nat} (h : k < n) (hn : n ≤ 9007199254740992) : Value.int .i64 (wrap64 ((k : Int) + 1)) = .int .i64 ((k + 1 : Nat) : Int) := by
  rw [show wrap64 ((k : Int) + 1) = (k : Int) + 1 by unfold wrap64; omega]
  rfl
theorem RX.shape {W : World} {X : Nat} {D : Nat → Prop} {sl : Value} {rs : List RC} (h : RX W X D sl rs) : ∃ A cap, sl = .slice A rs.length cap := by
  obtain ⟨A, c, e⟩ := h.row.shape
  rw [List.length_map] at e
  exact ⟨A, c, e⟩
theorem len_j {w0 W : World} {B X N : Nat} {DB DX : Nat → Prop} {sl : Value} {rb rs : List RC} (h : Jn w0 W B X N DB DX sl rb rs) : Calls Try.prog 12 #[.pointer (some ⟨B, 0, none⟩)] W fun e w' => e = .returned (.int .i64 rb.length) ∧ Below W.heap.size W w' := by
  have := len_st h.st
  rw [List.length_map] at this
  exact this
theorem build51 (W : World) : (Instr.build 51 #[]).run Try.prog W = .ok (.agg #[.slice none 0 0]) W := by kernel_rfl
/-- what the law needs: the plain facts -/
def plays_Pure : Prop := (∃ k bA bB, edit_Encode.f k 1 ⟨#[47, 97]⟩ ⟨#[]⟩ 1 7 0 [] = some (bA, 0) ∧ edit_Encode.f k 1 ⟨#[47, 98]⟩ ⟨#[]⟩ 1 7 0 [] = some (bB, 0) ∧ bB.toList ≠ bA.toList) ∧
  ∀ (err b0 b1 b2 : Int) (names : List ByteArray) (path : ByteArray) (dir : Bool) (quota : Int) (blocks : List S32) (writer n : Int), names.length ≤ maxLen → blocks.length ≤ maxLen → ∃ K, tabulariumlaw13_answers.f K err b0 b1 b2 names path dir quota blocks writer n err b0 b1 b2 names path dir quota blocks writer n = some true
set_option maxHeartbeats 8000000 in
set_option maxRecDepth 100000 in
theorem plays_walk (P : plays_Pure) (A : Option Addr) (n cap : Nat) (w0 : World) (hD : Deeds w0 A n) (hn : n ≤ cap) :
    Calls Try.prog 5 #[.slice A n cap] w0 fun e w' => e = .returned (.bool true) ∧ Below w0.heap.size w0 w' := by
  have hu28 := Try.underlying28
  have hu32 := Try.underlying32
  have hu33 := Try.underlying33
  have hu34 := Try.underlying34
  have hu36 := Try.underlying36
  have hu38 := Try.underlying38
  have hu47 := Try.underlying47
  have hu49 := Try.underlying49
  have hu51 := Try.underlying51
  have hu53 := Try.underlying53
  obtain ⟨⟨k, bA, bB, hA, hB, hne⟩, hK⟩ := P
  have HX := Aside0.mk (fun W => examples_calls k bA bB hA hB hne W)
  replace hK := Aside0.mk hK
  have HD := Aside0.mk hD
  have hbd := build51
  clear hA hB hne hD
  go_enter Try.func5, Try.ntmps5
  go_wp2_with (first | (go_at_call 7; refine (HX.out _).mono ?_; rintro e_ w1 ⟨rfl, HB⟩) | (go_at_call 8; refine (new_st _).mono ?_; rintro e_ w3 ⟨B, rfl, hb3, hB3, hS⟩; have hsz := HB.size; have HB := below_step HB hb3) | ((with_reducible refine gate_dst (N := 23) rfl ?_); refine box_event ?hg5 (N := 23) ?hd5 (cs := #[.slice none 0 0]) (t := 51) ?hr5 ?_; (case hd5 => rfl); (case hg5 => rfl); (case hr5 => first | (go_simp; done) | (go_simp; rfl)); intro g5 hg5 w5 hbox5 hb5; have G5 := Aside0.mk hg5; clear hg5))
  obtain ⟨X, hXg⟩ : ∃ X, X = g5 := ⟨_, rfl⟩
  have HJ : Aside0 (∃ N DB DX sl rs, Jn w0 w5 B g5 N DB DX sl rs rs ∧ (∀ x ∈ rs, x.Good w0) ∧ rs.length ≤ 20 ∧ N ≤ 0) := ⟨0, _, fun i => i = g5, .slice none 0 0, [], ⟨hS.below hb5, ⟨rfl, hbox5, .inl ⟨rfl, rfl⟩⟩, fun i hi => by rw [hi]; exact blk_lt hbox5, fun i hi e => absurd hi.2 (by rw [e, G5.out]; exact Nat.lt_irrefl _), fun i hi => Nat.le_trans hsz hi.1, fun i hi => by rw [hi, G5.out]; exact HB.size, below_step HB hb5⟩, fun x hx => (List.not_mem_nil hx).elim, Nat.zero_le _, Nat.le_refl _⟩
  clear HB hb3 hB3 hS hsz G5 hb5 hbox5
  rw [← hXg] at HJ ⊢
  clear hXg
  go_loopg [6] 80 (fun gq v6 wr => ∃ i : Nat, v6 = .int .i64 i ∧ Aside0 (gq + i = 80) ∧ Aside0 (∃ N DB DX sl rs, Jn w0 wr B X N DB DX sl rs rs ∧ (∀ x ∈ rs, x.Good w0) ∧ rs.length ≤ 20 ∧ N ≤ i))
  case atStart => exact ⟨0, rfl, ⟨rfl⟩, HJ⟩
  case round =>
    clear HJ
    obtain ⟨i, rfl, HG, HST⟩ := hrel
    by_cases hlt : i < n
    · have hltz : (i : Int) < (n : Int) := by omega
      by_cases h80 : i < 80
      · have h80z : (i : Int) < 80 := by omega
        obtain ⟨N, DB, DX, sl, rs, hJ, hgood, hlen, hNi⟩ := HST.out
        obtain ⟨ad, kind, c, m, r, rfl, hcells, hthere, hwk, hw, hw2, hfit⟩ := HD.out i hlt
        have HCELLS : Aside0 (∀ j u, ([.int .i64 kind, .int .i64 c, .int .i64 m, .int .i64 r.kd, .string r.p, .string r.t, .int .i64 r.cl, .int .i64 r.ca, .int .i64 r.n, .slice r.A6 r.l6.length r.c6, .int .i64 r.a.err, .int .i64 r.a.b0, .int .i64 r.a.b1, .int .i64 r.a.b2, .slice r.A4 r.a.names.length r.c4, .string r.a.path, .bool r.a.dir, .int .i64 r.a.quota, .slice r.A8 r.a.blocks.length r.c8, .int .i64 r.a.writer, .int .i64 r.a.n] : List Value)[j]? = some u → wr.cell? ((ad.add (i * 21)).add j) = some u) := ⟨fun j u hu => by
          have := hcells j u hu
          rw [← Addr.add_add] at this
          exact (hJ.low.cell (World.block_lt_of_cell? w0 _ this)).trans this⟩
        obtain ⟨q, hq, hq4⟩ := pick_at hwk (m := 4) (by decide) (by decide)
        have HKD := Aside0.mk hq
        have HN : Aside0 (N ≤ 1000000) := ⟨by omega⟩
        have HNI := Aside0.mk hNi
        have HL := Aside0.mk hlen
        have HGOOD := Aside0.mk hgood
        obtain ⟨v, rs', hgood', hlen', hpb, hpx⟩ := put_both hgood hlen hJ.keys r hthere hfit hw2 c m
        obtain ⟨ok, v2, a, A4, c4, A8, c8, h4, k4, h8, k8, hfa, hgb, hgx⟩ := get_both hgood hlen hJ.keys r.kd r.p r.t r.cl r.ca r.n r.A6 r.c6 r.l6 hthere.h6 hthere.k6 c m hw
        have HGOOD' := Aside0.mk hgood'
        have HL' := Aside0.mk hlen'
        have HPB := Aside0.mk hpb
        have HPX := Aside0.mk hpx
        have HGB := Aside0.mk hgb
        have HGX := Aside0.mk hgx
        have C4 := Aside0.mk h4
        have K4 := Aside0.mk k4
        have C8 := Aside0.mk h8
        have K8 := Aside0.mk k8
        have HFA := Aside0.mk hfa
        obtain ⟨K, hkk⟩ := hK.out a.err a.b0 a.b1 a.b2 a.names a.path a.dir a.quota a.blocks a.writer a.n (by have := HFA.out.1; unfold maxLen; omega) (by have := HFA.out.2; unfold maxLen; omega)
        have HKK := Aside0.mk hkk
        clear hq hwk hw hw2 hfit hthere hcells hgood hlen hNi hgood' hlen' hpb hpx hgb hgx h4 k4 h8 k8 hfa hkk HST
        have hq5 : q = 0 ∨ q = 1 ∨ q = 2 ∨ q = 3 := by omega
        clear hq4
        rcases hq5 with rfl | rfl | rfl | rfl
        · go_wp2_with (first | ((with_reducible refine gate_ (.load 53 (.tmp 38)) rfl ?_); refine wpList_load_ad rfl 53 (.tmp 38) rfl (ad := ad.add (i * 21)) rfl [.int .i64 kind, .int .i64 c, .int .i64 m, .int .i64 r.kd, .string r.p, .string r.t, .int .i64 r.cl, .int .i64 r.ca, .int .i64 r.n, .slice r.A6 r.l6.length r.c6, .int .i64 r.a.err, .int .i64 r.a.b0, .int .i64 r.a.b1, .int .i64 r.a.b2, .slice r.A4 r.a.names.length r.c4, .string r.a.path, .bool r.a.dir, .int .i64 r.a.quota, .slice r.A8 r.a.blocks.length r.c8, .int .i64 r.a.writer, .int .i64 r.a.n] HCELLS.out agg53 size53 ?_) | ((with_reducible refine gate_dst (N := 7) rfl ?_); refine box_event ?hg7 (N := 7) ?hd7 (cs := #[.int .i64 0, .int .i64 0, .int .i64 0, .int .i64 0, .string ⟨#[]⟩, .string ⟨#[]⟩, .int .i64 0, .int .i64 0, .int .i64 0, .slice none 0 0, .int .i64 0, .int .i64 0, .int .i64 0, .int .i64 0, .slice none 0 0, .string ⟨#[]⟩, .bool false, .int .i64 0, .slice none 0 0, .int .i64 0, .int .i64 0]) (t := 53) ?hr7 ?_; (case hd7 => rfl); (case hg7 => rfl); (case hr7 => first | (go_simp; done) | (go_simp; rfl)); intro g7 hg7 w7 hbox7 hb7; have G7 := Aside0.mk hg7; clear hg7; have nB7 := hJ.newB (Nat.le_of_eq G7.out.symm); have nX7 := hJ.newX (Nat.le_of_eq G7.out.symm); have lo7 : w0.heap.size ≤ g7 := Nat.le_trans hJ.low.size (Nat.le_of_eq G7.out.symm); have hJ := hJ.below hb7; have q7 := hbox7) | ((with_reducible refine gate_store (t := 53) (p := 7) rfl ?_); refine wpList_store_all rfl rfl 53 (.tmp 7) _ rfl (g := g7) rfl [.int .i64 kind, .int .i64 c, .int .i64 m, .int .i64 r.kd, .string r.p, .string r.t, .int .i64 r.cl, .int .i64 r.ca, .int .i64 r.n, .slice r.A6 r.l6.length r.c6, .int .i64 r.a.err, .int .i64 r.a.b0, .int .i64 r.a.b1, .int .i64 r.a.b2, .slice r.A4 r.a.names.length r.c4, .string r.a.path, .bool r.a.dir, .int .i64 r.a.quota, .slice r.A8 r.a.blocks.length r.c8, .int .i64 r.a.writer, .int .i64 r.a.n] rfl q7 size53 rfl rfl ?_; intro w8 h8 d8; have hJ := hJ.one d8 nB7 nX7 lo7; have q7 := h8; have y0 : w8.cell? ⟨g7, 0, none⟩ = some (.int .i64 kind) := (blk_cell q7 0).trans rfl; have y1 : w8.cell? ⟨g7, 1, none⟩ = some (.int .i64 c) := (blk_cell q7 1).trans rfl; have y2 : w8.cell? ⟨g7, 2, none⟩ = some (.int .i64 m) := (blk_cell q7 2).trans rfl) | (go_at_call 9; (with_reducible refine (tabulariumlaw13_pick.calls _ _ _ _ HKD.out).mono ?_); rintro e_ w9 ⟨rfl, hd9⟩; have q7 := (hd9.below.block g7 (blk_lt q7)).trans q7; have hJ := hJ.below hd9.below; have y0 : w9.cell? ⟨g7, 0, none⟩ = some (.int .i64 kind) := (blk_cell q7 0).trans rfl; have y1 : w9.cell? ⟨g7, 1, none⟩ = some (.int .i64 c) := (blk_cell q7 1).trans rfl; have y2 : w9.cell? ⟨g7, 2, none⟩ = some (.int .i64 m) := (blk_cell q7 2).trans rfl) | ((with_reducible refine gate_ (.load 28 (.tmp 63)) rfl ?_); refine wpList_load_all rfl 28 (.tmp 63) rfl (g := g7) (off := 3) rfl [.int .i64 r.kd, .string r.p, .string r.t, .int .i64 r.cl, .int .i64 r.ca, .int .i64 r.n, .slice r.A6 r.l6.length r.c6] q7 agg28 size28 rfl ?_) | ((with_reducible refine gate_ (.load 38 (.tmp 65)) rfl ?_); refine wpList_load_all rfl 38 (.tmp 65) rfl (g := g7) (off := 10) rfl [.int .i64 r.a.err, .int .i64 r.a.b0, .int .i64 r.a.b1, .int .i64 r.a.b2, .slice r.A4 r.a.names.length r.c4, .string r.a.path, .bool r.a.dir, .int .i64 r.a.quota, .slice r.A8 r.a.blocks.length r.c8, .int .i64 r.a.writer, .int .i64 r.a.n] q7 agg38 size38 rfl ?_) | (go_at_call 10; refine (HPB.out _ B DB N hJ.low hJ.geB hJ.st HN.out).mono ?_; rintro e_ w10 ⟨rfl, ⟨DB', N', hS', hN', hsub'⟩, hG'⟩; have q7 := (hG'.block g7 (blk_lt q7) nB7).trans q7; have hJ := hJ.stepB hS' hsub' hG'; replace hN' := Aside0.mk hN'; clear hS' hsub' hG'; have y0 : w10.cell? ⟨g7, 0, none⟩ = some (.int .i64 kind) := (blk_cell q7 0).trans rfl; have y1 : w10.cell? ⟨g7, 1, none⟩ = some (.int .i64 c) := (blk_cell q7 1).trans rfl; have y2 : w10.cell? ⟨g7, 2, none⟩ = some (.int .i64 m) := (blk_cell q7 2).trans rfl) | ((with_reducible refine gate_ (.load 28 (.tmp 73)) rfl ?_); refine wpList_load_all rfl 28 (.tmp 73) rfl (g := g7) (off := 3) rfl [.int .i64 r.kd, .string r.p, .string r.t, .int .i64 r.cl, .int .i64 r.ca, .int .i64 r.n, .slice r.A6 r.l6.length r.c6] q7 agg28 size28 rfl ?_) | ((with_reducible refine gate_ (.load 38 (.tmp 75)) rfl ?_); refine wpList_load_all rfl 38 (.tmp 75) rfl (g := g7) (off := 10) rfl [.int .i64 r.a.err, .int .i64 r.a.b0, .int .i64 r.a.b1, .int .i64 r.a.b2, .slice r.A4 r.a.names.length r.c4, .string r.a.path, .bool r.a.dir, .int .i64 r.a.quota, .slice r.A8 r.a.blocks.length r.c8, .int .i64 r.a.writer, .int .i64 r.a.n] q7 agg38 size38 rfl ?_) | (go_at_call 15; refine (HPX.out _ X DX sl hJ.low hJ.rx).mono ?_; rintro e_ w11 ⟨rfl, ⟨DX', sl', hX', hsub2⟩, hG2⟩; have hJ := hJ.stepX hX' hsub2 hG2; clear hX' hsub2 hG2))
          obtain ⟨A2, cap2, rfl⟩ := hJ.rx.shape
          have XS : Aside0 (∀ W', Below w11.heap.size w11 W' → W'.cell? ⟨X, 0, none⟩ = some (.slice A2 rs'.length cap2)) := ⟨fun W' hb => (blk_cell (hJ.below hb).rx.at_ 0).trans rfl⟩
          go_region_held3 (fun W' => W'.cell? ⟨X, 0, none⟩ = some (.slice A2 rs'.length cap2)) (first | exact XS.out _ (below_drew (Below.refl _ _)) | exact XS.out _ HB20.out) (first | (go_at_call 12; refine (len_j (hJ.below (below_drew (Below.refl _ _)))).mono ?_; rintro e_ w20 ⟨rfl, hb20⟩; have HB20 : Aside0 (Below w11.heap.size w11 w20) := ⟨below_step (below_drew (Below.refl _ _)) hb20⟩))
          have hJ := hJ.below HB20.out
          go_wp2_with (fail)
          go_roundg (gk - 1)
          case measure => have := HG.out; omega
          case rel => exact ⟨i + 1, by first | rfl | exact next_int h80 (by decide), ⟨by have := HG.out; omega⟩, ⟨_, _, _, _, rs', hJ, HGOOD'.out, HL'.out, by have := HNI.out; have := hN'.out; omega⟩⟩
        · go_wp2_with (first | ((with_reducible refine gate_ (.load 53 (.tmp 38)) rfl ?_); refine wpList_load_ad rfl 53 (.tmp 38) rfl (ad := ad.add (i * 21)) rfl [.int .i64 kind, .int .i64 c, .int .i64 m, .int .i64 r.kd, .string r.p, .string r.t, .int .i64 r.cl, .int .i64 r.ca, .int .i64 r.n, .slice r.A6 r.l6.length r.c6, .int .i64 r.a.err, .int .i64 r.a.b0, .int .i64 r.a.b1, .int .i64 r.a.b2, .slice r.A4 r.a.names.length r.c4, .string r.a.path, .bool r.a.dir, .int .i64 r.a.quota, .slice r.A8 r.a.blocks.length r.c8, .int .i64 r.a.writer, .int .i64 r.a.n] HCELLS.out agg53 size53 ?_) | ((with_reducible refine gate_dst (N := 7) rfl ?_); refine box_event ?hg7 (N := 7) ?hd7 (cs := #[.int .i64 0, .int .i64 0, .int .i64 0, .int .i64 0, .string ⟨#[]⟩, .string ⟨#[]⟩, .int .i64 0, .int .i64 0, .int .i64 0, .slice none 0 0, .int .i64 0, .int .i64 0, .int .i64 0, .int .i64 0, .slice none 0 0, .string ⟨#[]⟩, .bool false, .int .i64 0, .slice none 0 0, .int .i64 0, .int .i64 0]) (t := 53) ?hr7 ?_; (case hd7 => rfl); (case hg7 => rfl); (case hr7 => first | (go_simp; done) | (go_simp; rfl)); intro g7 hg7 w7 hbox7 hb7; have G7 := Aside0.mk hg7; clear hg7; have nB7 := hJ.newB (Nat.le_of_eq G7.out.symm); have nX7 := hJ.newX (Nat.le_of_eq G7.out.symm); have lo7 : w0.heap.size ≤ g7 := Nat.le_trans hJ.low.size (Nat.le_of_eq G7.out.symm); have hJ := hJ.below hb7; have q7 := hbox7) | ((with_reducible refine gate_store (t := 53) (p := 7) rfl ?_); refine wpList_store_all rfl rfl 53 (.tmp 7) _ rfl (g := g7) rfl [.int .i64 kind, .int .i64 c, .int .i64 m, .int .i64 r.kd, .string r.p, .string r.t, .int .i64 r.cl, .int .i64 r.ca, .int .i64 r.n, .slice r.A6 r.l6.length r.c6, .int .i64 r.a.err, .int .i64 r.a.b0, .int .i64 r.a.b1, .int .i64 r.a.b2, .slice r.A4 r.a.names.length r.c4, .string r.a.path, .bool r.a.dir, .int .i64 r.a.quota, .slice r.A8 r.a.blocks.length r.c8, .int .i64 r.a.writer, .int .i64 r.a.n] rfl q7 size53 rfl rfl ?_; intro w8 h8 d8; have hJ := hJ.one d8 nB7 nX7 lo7; have q7 := h8; have y0 : w8.cell? ⟨g7, 0, none⟩ = some (.int .i64 kind) := (blk_cell q7 0).trans rfl; have y1 : w8.cell? ⟨g7, 1, none⟩ = some (.int .i64 c) := (blk_cell q7 1).trans rfl; have y2 : w8.cell? ⟨g7, 2, none⟩ = some (.int .i64 m) := (blk_cell q7 2).trans rfl) | (go_at_call 9; (with_reducible refine (tabulariumlaw13_pick.calls _ _ _ _ HKD.out).mono ?_); rintro e_ w9 ⟨rfl, hd9⟩; have q7 := (hd9.below.block g7 (blk_lt q7)).trans q7; have hJ := hJ.below hd9.below; have y0 : w9.cell? ⟨g7, 0, none⟩ = some (.int .i64 kind) := (blk_cell q7 0).trans rfl; have y1 : w9.cell? ⟨g7, 1, none⟩ = some (.int .i64 c) := (blk_cell q7 1).trans rfl; have y2 : w9.cell? ⟨g7, 2, none⟩ = some (.int .i64 m) := (blk_cell q7 2).trans rfl) | ((with_reducible refine gate_ (.load 28 (.tmp 63)) rfl ?_); refine wpList_load_all rfl 28 (.tmp 63) rfl (g := g7) (off := 3) rfl [.int .i64 r.kd, .string r.p, .string r.t, .int .i64 r.cl, .int .i64 r.ca, .int .i64 r.n, .slice r.A6 r.l6.length r.c6] q7 agg28 size28 rfl ?_) | ((with_reducible refine gate_ (.load 38 (.tmp 65)) rfl ?_); refine wpList_load_all rfl 38 (.tmp 65) rfl (g := g7) (off := 10) rfl [.int .i64 r.a.err, .int .i64 r.a.b0, .int .i64 r.a.b1, .int .i64 r.a.b2, .slice r.A4 r.a.names.length r.c4, .string r.a.path, .bool r.a.dir, .int .i64 r.a.quota, .slice r.A8 r.a.blocks.length r.c8, .int .i64 r.a.writer, .int .i64 r.a.n] q7 agg38 size38 rfl ?_) | (go_at_call 10; refine (HPB.out _ B DB N hJ.low hJ.geB hJ.st HN.out).mono ?_; rintro e_ w10 ⟨rfl, ⟨DB', N', hS', hN', hsub'⟩, hG'⟩; have q7 := (hG'.block g7 (blk_lt q7) nB7).trans q7; have hJ := hJ.stepB hS' hsub' hG'; replace hN' := Aside0.mk hN'; clear hS' hsub' hG'; have y0 : w10.cell? ⟨g7, 0, none⟩ = some (.int .i64 kind) := (blk_cell q7 0).trans rfl; have y1 : w10.cell? ⟨g7, 1, none⟩ = some (.int .i64 c) := (blk_cell q7 1).trans rfl; have y2 : w10.cell? ⟨g7, 2, none⟩ = some (.int .i64 m) := (blk_cell q7 2).trans rfl) | ((with_reducible refine gate_ (.load 28 (.tmp 73)) rfl ?_); refine wpList_load_all rfl 28 (.tmp 73) rfl (g := g7) (off := 3) rfl [.int .i64 r.kd, .string r.p, .string r.t, .int .i64 r.cl, .int .i64 r.ca, .int .i64 r.n, .slice r.A6 r.l6.length r.c6] q7 agg28 size28 rfl ?_) | ((with_reducible refine gate_ (.load 38 (.tmp 75)) rfl ?_); refine wpList_load_all rfl 38 (.tmp 75) rfl (g := g7) (off := 10) rfl [.int .i64 r.a.err, .int .i64 r.a.b0, .int .i64 r.a.b1, .int .i64 r.a.b2, .slice r.A4 r.a.names.length r.c4, .string r.a.path, .bool r.a.dir, .int .i64 r.a.quota, .slice r.A8 r.a.blocks.length r.c8, .int .i64 r.a.writer, .int .i64 r.a.n] q7 agg38 size38 rfl ?_) | (go_at_call 15; refine (HPX.out _ X DX sl hJ.low hJ.rx).mono ?_; rintro e_ w11 ⟨rfl, ⟨DX', sl', hX', hsub2⟩, hG2⟩; have hJ := hJ.stepX hX' hsub2 hG2; clear hX' hsub2 hG2))
          obtain ⟨A2, cap2, rfl⟩ := hJ.rx.shape
          have XS : Aside0 (∀ W', Below w11.heap.size w11 W' → W'.cell? ⟨X, 0, none⟩ = some (.slice A2 rs'.length cap2)) := ⟨fun W' hb => (blk_cell (hJ.below hb).rx.at_ 0).trans rfl⟩
          go_region_held3 (fun W' => W'.cell? ⟨X, 0, none⟩ = some (.slice A2 rs'.length cap2)) (first | exact XS.out _ (below_drew (Below.refl _ _)) | exact XS.out _ HB20.out) (first | (go_at_call 12; refine (len_j (hJ.below (below_drew (Below.refl _ _)))).mono ?_; rintro e_ w20 ⟨rfl, hb20⟩; have HB20 : Aside0 (Below w11.heap.size w11 w20) := ⟨below_step (below_drew (Below.refl _ _)) hb20⟩))
          have hJ := hJ.below HB20.out
          go_wp2_with (fail)
          go_roundg (gk - 1)
          case measure => have := HG.out; omega
          case rel => exact ⟨i + 1, by first | rfl | exact next_int h80 (by decide), ⟨by have := HG.out; omega⟩, ⟨_, _, _, _, rs', hJ, HGOOD'.out, HL'.out, by have := HNI.out; have := hN'.out; omega⟩⟩
        · go_wp2_with (first | ((with_reducible refine gate_ (.load 53 (.tmp 38)) rfl ?_); refine wpList_load_ad rfl 53 (.tmp 38) rfl (ad := ad.add (i * 21)) rfl [.int .i64 kind, .int .i64 c, .int .i64 m, .int .i64 r.kd, .string r.p, .string r.t, .int .i64 r.cl, .int .i64 r.ca, .int .i64 r.n, .slice r.A6 r.l6.length r.c6, .int .i64 r.a.err, .int .i64 r.a.b0, .int .i64 r.a.b1, .int .i64 r.a.b2, .slice r.A4 r.a.names.length r.c4, .string r.a.path, .bool r.a.dir, .int .i64 r.a.quota, .slice r.A8 r.a.blocks.length r.c8, .int .i64 r.a.writer, .int .i64 r.a.n] HCELLS.out agg53 size53 ?_) | ((with_reducible refine gate_dst (N := 7) rfl ?_); refine box_event ?hg7 (N := 7) ?hd7 (cs := #[.int .i64 0, .int .i64 0, .int .i64 0, .int .i64 0, .string ⟨#[]⟩, .string ⟨#[]⟩, .int .i64 0, .int .i64 0, .int .i64 0, .slice none 0 0, .int .i64 0, .int .i64 0, .int .i64 0, .int .i64 0, .slice none 0 0, .string ⟨#[]⟩, .bool false, .int .i64 0, .slice none 0 0, .int .i64 0, .int .i64 0]) (t := 53) ?hr7 ?_; (case hd7 => rfl); (case hg7 => rfl); (case hr7 => first | (go_simp; done) | (go_simp; rfl)); intro g7 hg7 w7 hbox7 hb7; have G7 := Aside0.mk hg7; clear hg7; have nB7 := hJ.newB (Nat.le_of_eq G7.out.symm); have nX7 := hJ.newX (Nat.le_of_eq G7.out.symm); have lo7 : w0.heap.size ≤ g7 := Nat.le_trans hJ.low.size (Nat.le_of_eq G7.out.symm); have hJ := hJ.below hb7; have q7 := hbox7) | ((with_reducible refine gate_store (t := 53) (p := 7) rfl ?_); refine wpList_store_all rfl rfl 53 (.tmp 7) _ rfl (g := g7) rfl [.int .i64 kind, .int .i64 c, .int .i64 m, .int .i64 r.kd, .string r.p, .string r.t, .int .i64 r.cl, .int .i64 r.ca, .int .i64 r.n, .slice r.A6 r.l6.length r.c6, .int .i64 r.a.err, .int .i64 r.a.b0, .int .i64 r.a.b1, .int .i64 r.a.b2, .slice r.A4 r.a.names.length r.c4, .string r.a.path, .bool r.a.dir, .int .i64 r.a.quota, .slice r.A8 r.a.blocks.length r.c8, .int .i64 r.a.writer, .int .i64 r.a.n] rfl q7 size53 rfl rfl ?_; intro w8 h8 d8; have hJ := hJ.one d8 nB7 nX7 lo7; have q7 := h8; have y0 : w8.cell? ⟨g7, 0, none⟩ = some (.int .i64 kind) := (blk_cell q7 0).trans rfl; have y1 : w8.cell? ⟨g7, 1, none⟩ = some (.int .i64 c) := (blk_cell q7 1).trans rfl; have y2 : w8.cell? ⟨g7, 2, none⟩ = some (.int .i64 m) := (blk_cell q7 2).trans rfl) | (go_at_call 9; (with_reducible refine (tabulariumlaw13_pick.calls _ _ _ _ HKD.out).mono ?_); rintro e_ w9 ⟨rfl, hd9⟩; have q7 := (hd9.below.block g7 (blk_lt q7)).trans q7; have hJ := hJ.below hd9.below; have y0 : w9.cell? ⟨g7, 0, none⟩ = some (.int .i64 kind) := (blk_cell q7 0).trans rfl; have y1 : w9.cell? ⟨g7, 1, none⟩ = some (.int .i64 c) := (blk_cell q7 1).trans rfl; have y2 : w9.cell? ⟨g7, 2, none⟩ = some (.int .i64 m) := (blk_cell q7 2).trans rfl) | ((with_reducible refine gate_ (.load 28 (.tmp 89)) rfl ?_); refine wpList_load_all rfl 28 (.tmp 89) rfl (g := g7) (off := 3) rfl [.int .i64 r.kd, .string r.p, .string r.t, .int .i64 r.cl, .int .i64 r.ca, .int .i64 r.n, .slice r.A6 r.l6.length r.c6] q7 agg28 size28 rfl ?_) | (go_at_call 11; refine (HGB.out _ B DB N hJ.low hJ.st).mono ?_; rintro e_ w10 ⟨B4, d4, B8, d8, rfl, hR4, hR8, hb10⟩; have HNW : Aside0 (∀ g, w9.heap.size ≤ g → ¬ DB g ∧ ¬ DX g ∧ w0.heap.size ≤ g) := ⟨fun g hg => ⟨hJ.newB hg, hJ.newX hg, Nat.le_trans hJ.low.size hg⟩⟩; have hJ := hJ.below hb10; have q7 := (hb10.block g7 (blk_lt q7)).trans q7; have L10 : Below w10.heap.size w10 w10 := Below.refl _ _; have RW4 := Rw.of_R hR4; have RW8 := Rw.of_R hR8; have HR4 := Aside0.mk hR4; have HR8 := Aside0.mk hR8; clear hR4 hR8; have y0 : w10.cell? ⟨g7, 0, none⟩ = some (.int .i64 kind) := (blk_cell q7 0).trans rfl; have y1 : w10.cell? ⟨g7, 1, none⟩ = some (.int .i64 c) := (blk_cell q7 1).trans rfl; have y2 : w10.cell? ⟨g7, 2, none⟩ = some (.int .i64 m) := (blk_cell q7 2).trans rfl) | ((with_reducible refine gate_dst (N := 11) rfl ?_); refine box_event ?hg11 (N := 11) ?hd11 (cs := #[.int .i64 0, .int .i64 0, .int .i64 0, .int .i64 0, .slice none 0 0, .string ⟨#[]⟩, .bool false, .int .i64 0, .slice none 0 0, .int .i64 0, .int .i64 0]) (t := 38) ?hr11 ?_; (case hd11 => rfl); (case hg11 => rfl); (case hr11 => first | (go_simp; done) | (go_simp; rfl)); intro g11 hg11 w11 hbox11 hb11; have G11 := Aside0.mk hg11; clear hg11; have nB11 := hJ.newB (Nat.le_of_eq G11.out.symm); have nX11 := hJ.newX (Nat.le_of_eq G11.out.symm); have lo11 : w0.heap.size ≤ g11 := Nat.le_trans hJ.low.size (Nat.le_of_eq G11.out.symm); have ge11 : w10.heap.size ≤ g11 := Nat.le_trans L10.size (Nat.le_of_eq G11.out.symm); have ne7 : g7 ≠ g11 := Nat.ne_of_lt (Nat.lt_of_lt_of_eq (blk_lt q7) G11.out.symm); have hJ := hJ.below hb11; have L10 := below_step L10 hb11; have q7 := (hb11.block g7 (blk_lt q7)).trans q7; have q11 := hbox11) | ((with_reducible refine gate_store (t := 38) (p := 11) rfl ?_); refine wpList_store_all rfl rfl 38 (.tmp 11) _ rfl (g := g11) rfl [.int .i64 a.err, .int .i64 a.b0, .int .i64 a.b1, .int .i64 a.b2, .slice B4 a.names.length d4, .string a.path, .bool a.dir, .int .i64 a.quota, .slice B8 a.blocks.length d8, .int .i64 a.writer, .int .i64 a.n] rfl q11 size38 rfl rfl ?_; intro w12 h12 d12; have hJ := hJ.one d12 nB11 nX11 lo11; have L10 := gr_one L10 d12 ge11; have q7 := (d12.block g7 (blk_lt q7) ne7).trans q7; have q11 := h12; have y0 : w12.cell? ⟨g7, 0, none⟩ = some (.int .i64 kind) := (blk_cell q7 0).trans rfl; have y1 : w12.cell? ⟨g7, 1, none⟩ = some (.int .i64 c) := (blk_cell q7 1).trans rfl; have y2 : w12.cell? ⟨g7, 2, none⟩ = some (.int .i64 m) := (blk_cell q7 2).trans rfl) | ((with_reducible refine gate_ (.load 28 (.tmp 101)) rfl ?_); refine wpList_load_all rfl 28 (.tmp 101) rfl (g := g7) (off := 3) rfl [.int .i64 r.kd, .string r.p, .string r.t, .int .i64 r.cl, .int .i64 r.ca, .int .i64 r.n, .slice r.A6 r.l6.length r.c6] q7 agg28 size28 rfl ?_) | (go_at_call 16; refine (HGX.out _ X DX sl hJ.low hJ.rx).mono ?_; rintro e_ w13 ⟨rfl, hb13⟩; have hJ := hJ.below hb13; have L10 := below_step L10 hb13; have q11 := (hb13.block g11 (blk_lt q11)).trans q11) | ((with_reducible refine gate_dst (N := 14) rfl ?_); refine box_event ?hg14 (N := 14) ?hd14 (cs := #[.int .i64 0, .int .i64 0, .int .i64 0, .int .i64 0, .slice none 0 0, .string ⟨#[]⟩, .bool false, .int .i64 0, .slice none 0 0, .int .i64 0, .int .i64 0]) (t := 38) ?hr14 ?_; (case hd14 => rfl); (case hg14 => rfl); (case hr14 => first | (go_simp; done) | (go_simp; rfl)); intro g14 hg14 w14 hbox14 hb14; have G14 := Aside0.mk hg14; clear hg14; have nB14 := hJ.newB (Nat.le_of_eq G14.out.symm); have nX14 := hJ.newX (Nat.le_of_eq G14.out.symm); have lo14 : w0.heap.size ≤ g14 := Nat.le_trans hJ.low.size (Nat.le_of_eq G14.out.symm); have ge14 : w10.heap.size ≤ g14 := Nat.le_trans L10.size (Nat.le_of_eq G14.out.symm); have ne11 : g11 ≠ g14 := Nat.ne_of_lt (Nat.lt_of_lt_of_eq (blk_lt q11) G14.out.symm); have hJ := hJ.below hb14; have L10 := below_step L10 hb14; have q11 := (hb14.block g11 (blk_lt q11)).trans q11; have q14 := hbox14) | ((with_reducible refine gate_store (t := 38) (p := 14) rfl ?_); refine wpList_store_all rfl rfl 38 (.tmp 14) _ rfl (g := g14) rfl [.int .i64 a.err, .int .i64 a.b0, .int .i64 a.b1, .int .i64 a.b2, .slice A4 a.names.length c4, .string a.path, .bool a.dir, .int .i64 a.quota, .slice A8 a.blocks.length c8, .int .i64 a.writer, .int .i64 a.n] rfl q14 size38 rfl rfl ?_; intro w15 h15 d15; have hJ := hJ.one d15 nB14 nX14 lo14; have L10 := gr_one L10 d15 ge14; have q11 := (d15.block g11 (blk_lt q11) ne11).trans q11; have q14 := h15) | ((with_reducible refine gate_ (.load 38 (.tmp 11)) rfl ?_); refine wpList_load_all rfl 38 (.tmp 11) rfl (g := g11) (off := 0) rfl [.int .i64 a.err, .int .i64 a.b0, .int .i64 a.b1, .int .i64 a.b2, .slice B4 a.names.length d4, .string a.path, .bool a.dir, .int .i64 a.quota, .slice B8 a.blocks.length d8, .int .i64 a.writer, .int .i64 a.n] q11 agg38 size38 rfl ?_) | ((with_reducible refine gate_ (.load 38 (.tmp 14)) rfl ?_); refine wpList_load_all rfl 38 (.tmp 14) rfl (g := g14) (off := 0) rfl [.int .i64 a.err, .int .i64 a.b0, .int .i64 a.b1, .int .i64 a.b2, .slice A4 a.names.length c4, .string a.path, .bool a.dir, .int .i64 a.quota, .slice A8 a.blocks.length c8, .int .i64 a.writer, .int .i64 a.n] q14 agg38 size38 rfl ?_) | (go_at_call 14; refine (tabulariumlaw13_answers.calls K a.err a.b0 a.b1 a.b2 B4 d4 a.names a.path a.dir a.quota B8 d8 a.blocks a.writer a.n a.err a.b0 a.b1 a.b2 A4 c4 a.names a.path a.dir a.quota A8 c8 a.blocks a.writer a.n true _ (Kd.C_below (Kd.R_reads' HR4.out).2.2 L10) (Kd.R_reads' HR4.out).2.1 (Kd.C_below (Kd.R_reads' HR8.out).2.2 L10) (Kd.R_reads' HR8.out).2.1 (Kd.C_below C4.out hJ.low) K4.out (Kd.C_below C8.out hJ.low) K8.out HKK.out).mono ?_; rintro e_ w16 ⟨rfl, hb16⟩; have hJ := hJ.below hb16; have L10 := below_step L10 hb16; have q11 := (hb16.block g11 (blk_lt q11)).trans q11; have x2 : w16.cell? ⟨g11, 4, none⟩ = some (.slice B4 a.names.length d4) := (blk_cell q11 4).trans rfl))
          have HJ0 := Aside0.mk hJ
          have H11 := Aside0.mk q11
          have RWA := Aside0.mk (RW4.gr (Gr.of_below (S := fun _ => False) L10) (fun _ _ _ _ h => h))
          have RWB := Aside0.mk (RW8.gr (Gr.of_below (S := fun _ => False) L10) (fun _ _ _ _ h => h))
          have HNE : Aside0 (∀ g, g < w10.heap.size → g11 ≠ g) := ⟨fun g hg e => absurd (e ▸ ge11) (Nat.not_le.2 hg)⟩
          obtain ⟨gk0, hgk0⟩ : ∃ g0, g0 = gk := ⟨_, rfl⟩
          have HG0 := Aside0.mk hgk0
          clear hgk0
          clear hJ q11 RW4 RW8 L10 HR4 HR8
          go_loopg [18] a.names.length (fun gq v18 wr => ∃ j : Nat, v18 = .int .i64 j ∧ Aside0 (gq + j = a.names.length) ∧ Aside0 (Jn w0 wr B X N DB DX sl rs rs) ∧ Aside0 (wr.heap[g11]? = some (.cells #[.int .i64 a.err, .int .i64 a.b0, .int .i64 a.b1, .int .i64 a.b2, .slice B4 a.names.length d4, .string a.path, .bool a.dir, .int .i64 a.quota, .slice B8 a.blocks.length d8, .int .i64 a.writer, .int .i64 a.n] 38 (0, 0))) ∧ Aside0 (Rw wr 9 1 w9.heap.size w10.heap.size B4 a.names.length) ∧ Aside0 (Rw wr 32 3 w9.heap.size w10.heap.size B8 a.blocks.length))
          case atStart => exact ⟨0, rfl, ⟨rfl⟩, HJ0, H11, RWA, RWB⟩
          case round =>
            clear HJ0 H11 RWA RWB
            obtain ⟨j, rfl, HG4, HJ0, H11, RWA, RWB⟩ := hrel
            have q11 := H11.out
            have x2 : wr.cell? ⟨g11, 4, none⟩ = some (.slice B4 a.names.length d4) := (blk_cell q11 4).trans rfl
            by_cases hj : j < a.names.length
            · have hjz : (j : Int) < (a.names.length : Int) := by omega
              have hj0 : (0 : Int) ≤ (j : Int) := by omega
              obtain ⟨gb, cb, rfl, hcb, hsz, hlo, hhi⟩ := RWA.out (by omega)
              obtain ⟨nb, nx, nlo⟩ := HNW.out gb hlo
              have hne := HNE.out gb hhi
              have hjc : j < cb.size := by omega
              go_wp2_with (first | ((with_reducible refine gate_store (t := 9) (p := 131) rfl ?_); refine wpList_store_at rfl rfl 9 (.tmp 131) _ rfl (g := gb) (j := j) rfl (.string ⟨#[63]⟩) rfl rfl hcb size9 hjc rfl ?_; intro w17 h17 d17))
              go_roundg (gk - 1)
              case measure => have := HG4.out; omega
              case rel => exact ⟨j + 1, by first | rfl | exact next_big hj (by have := HFA.out.1; have := HFA.out.2; omega), ⟨by have := HG4.out; omega⟩, ⟨HJ0.out.one d17 nb nx nlo⟩, ⟨(d17.block g11 (blk_lt q11) hne).trans q11⟩, ⟨RWA.out.set d17 hcb h17⟩, ⟨RWB.out.other d17 hcb (by decide)⟩⟩
            · have hjz : ¬ (j : Int) < (a.names.length : Int) := by omega
              clear HG4 hj
              go_wp2_with (fail)
              go_loopg [19] a.blocks.length (fun gq v19 wr => ∃ j : Nat, v19 = .int .i64 j ∧ Aside0 (gq + j = a.blocks.length) ∧ Aside0 (Jn w0 wr B X N DB DX sl rs rs) ∧ Aside0 (wr.heap[g11]? = some (.cells #[.int .i64 a.err, .int .i64 a.b0, .int .i64 a.b1, .int .i64 a.b2, .slice B4 a.names.length d4, .string a.path, .bool a.dir, .int .i64 a.quota, .slice B8 a.blocks.length d8, .int .i64 a.writer, .int .i64 a.n] 38 (0, 0))) ∧ Aside0 (Rw wr 9 1 w9.heap.size w10.heap.size B4 a.names.length) ∧ Aside0 (Rw wr 32 3 w9.heap.size w10.heap.size B8 a.blocks.length))
              case atStart => exact ⟨0, rfl, ⟨rfl⟩, HJ0, H11, RWA, RWB⟩
              case round =>
                clear HJ0 H11 RWA RWB
                obtain ⟨j, rfl, HG4, HJ0, H11, RWA, RWB⟩ := hrel
                have q11 := H11.out
                have x2 : wr.cell? ⟨g11, 8, none⟩ = some (.slice B8 a.blocks.length d8) := (blk_cell q11 8).trans rfl
                by_cases hj : j < a.blocks.length
                · have hjz : (j : Int) < (a.blocks.length : Int) := by omega
                  have hj0 : (0 : Int) ≤ (j : Int) := by omega
                  obtain ⟨gb, cb, rfl, hcb, hsz, hlo, hhi⟩ := RWB.out (by omega)
                  obtain ⟨nb, nx, nlo⟩ := HNW.out gb hlo
                  have hne := HNE.out gb hhi
                  have hjc : j * 3 < cb.size := by omega
                  go_wp2_with (first | ((with_reducible refine gate_store (t := 3) (p := 145) rfl ?_); refine wpList_store_at rfl rfl 3 (.tmp 145) _ rfl (g := gb) (j := j * 3) rfl (.int .i64 (-1)) rfl rfl hcb size3 hjc rfl ?_; intro w17 h17 d17))
                  go_roundg (gk - 1)
                  case measure => have := HG4.out; omega
                  case rel => exact ⟨j + 1, by first | rfl | exact next_big hj (by have := HFA.out.1; have := HFA.out.2; omega), ⟨by have := HG4.out; omega⟩, ⟨HJ0.out.one d17 nb nx nlo⟩, ⟨(d17.block g11 (blk_lt q11) hne).trans q11⟩, ⟨RWA.out.other d17 hcb (by decide)⟩, ⟨RWB.out.set d17 hcb h17⟩⟩
                · have hjz : ¬ (j : Int) < (a.blocks.length : Int) := by omega
                  clear HG4 hj
                  go_wp2_with (fail)
                  have hJ := HJ0.out
                  obtain ⟨A2, cap2, rfl⟩ := hJ.rx.shape
                  have XS : Aside0 (∀ W', Below wr.heap.size wr W' → W'.cell? ⟨X, 0, none⟩ = some (.slice A2 rs.length cap2)) := ⟨fun W' hb => (blk_cell (hJ.below hb).rx.at_ 0).trans rfl⟩
                  go_region_held3 (fun W' => W'.cell? ⟨X, 0, none⟩ = some (.slice A2 rs.length cap2)) (first | exact XS.out _ (below_drew (Below.refl _ _)) | exact XS.out _ HB20.out) (first | (go_at_call 12; refine (len_j (hJ.below (below_drew (Below.refl _ _)))).mono ?_; rintro e_ w20 ⟨rfl, hb20⟩; have HB20 : Aside0 (Below wr.heap.size wr w20) := ⟨below_step (below_drew (Below.refl _ _)) hb20⟩))
                  have hJ := hJ.below HB20.out
                  go_wp2_with (fail)
                  go_roundg (gk0 - 1)
                  case measure => have := HG.out; have := HG0.out; omega
                  case rel => exact ⟨i + 1, by first | rfl | exact next_int h80 (by decide), ⟨by have := HG.out; have := HG0.out; omega⟩, ⟨_, _, _, _, rs, hJ, HGOOD.out, HL.out, by have := HNI.out; omega⟩⟩
        · go_wp2_with (first | ((with_reducible refine gate_ (.load 53 (.tmp 38)) rfl ?_); refine wpList_load_ad rfl 53 (.tmp 38) rfl (ad := ad.add (i * 21)) rfl [.int .i64 kind, .int .i64 c, .int .i64 m, .int .i64 r.kd, .string r.p, .string r.t, .int .i64 r.cl, .int .i64 r.ca, .int .i64 r.n, .slice r.A6 r.l6.length r.c6, .int .i64 r.a.err, .int .i64 r.a.b0, .int .i64 r.a.b1, .int .i64 r.a.b2, .slice r.A4 r.a.names.length r.c4, .string r.a.path, .bool r.a.dir, .int .i64 r.a.quota, .slice r.A8 r.a.blocks.length r.c8, .int .i64 r.a.writer, .int .i64 r.a.n] HCELLS.out agg53 size53 ?_) | ((with_reducible refine gate_dst (N := 7) rfl ?_); refine box_event ?hg7 (N := 7) ?hd7 (cs := #[.int .i64 0, .int .i64 0, .int .i64 0, .int .i64 0, .string ⟨#[]⟩, .string ⟨#[]⟩, .int .i64 0, .int .i64 0, .int .i64 0, .slice none 0 0, .int .i64 0, .int .i64 0, .int .i64 0, .int .i64 0, .slice none 0 0, .string ⟨#[]⟩, .bool false, .int .i64 0, .slice none 0 0, .int .i64 0, .int .i64 0]) (t := 53) ?hr7 ?_; (case hd7 => rfl); (case hg7 => rfl); (case hr7 => first | (go_simp; done) | (go_simp; rfl)); intro g7 hg7 w7 hbox7 hb7; have G7 := Aside0.mk hg7; clear hg7; have nB7 := hJ.newB (Nat.le_of_eq G7.out.symm); have nX7 := hJ.newX (Nat.le_of_eq G7.out.symm); have lo7 : w0.heap.size ≤ g7 := Nat.le_trans hJ.low.size (Nat.le_of_eq G7.out.symm); have hJ := hJ.below hb7; have q7 := hbox7) | ((with_reducible refine gate_store (t := 53) (p := 7) rfl ?_); refine wpList_store_all rfl rfl 53 (.tmp 7) _ rfl (g := g7) rfl [.int .i64 kind, .int .i64 c, .int .i64 m, .int .i64 r.kd, .string r.p, .string r.t, .int .i64 r.cl, .int .i64 r.ca, .int .i64 r.n, .slice r.A6 r.l6.length r.c6, .int .i64 r.a.err, .int .i64 r.a.b0, .int .i64 r.a.b1, .int .i64 r.a.b2, .slice r.A4 r.a.names.length r.c4, .string r.a.path, .bool r.a.dir, .int .i64 r.a.quota, .slice r.A8 r.a.blocks.length r.c8, .int .i64 r.a.writer, .int .i64 r.a.n] rfl q7 size53 rfl rfl ?_; intro w8 h8 d8; have hJ := hJ.one d8 nB7 nX7 lo7; have q7 := h8; have y0 : w8.cell? ⟨g7, 0, none⟩ = some (.int .i64 kind) := (blk_cell q7 0).trans rfl; have y1 : w8.cell? ⟨g7, 1, none⟩ = some (.int .i64 c) := (blk_cell q7 1).trans rfl; have y2 : w8.cell? ⟨g7, 2, none⟩ = some (.int .i64 m) := (blk_cell q7 2).trans rfl) | (go_at_call 9; (with_reducible refine (tabulariumlaw13_pick.calls _ _ _ _ HKD.out).mono ?_); rintro e_ w9 ⟨rfl, hd9⟩; have q7 := (hd9.below.block g7 (blk_lt q7)).trans q7; have hJ := hJ.below hd9.below; have y0 : w9.cell? ⟨g7, 0, none⟩ = some (.int .i64 kind) := (blk_cell q7 0).trans rfl; have y1 : w9.cell? ⟨g7, 1, none⟩ = some (.int .i64 c) := (blk_cell q7 1).trans rfl; have y2 : w9.cell? ⟨g7, 2, none⟩ = some (.int .i64 m) := (blk_cell q7 2).trans rfl) | (go_at_call 17; refine (forget_one hJ.st HL.out c m).mono ?_; rintro e_ w10 ⟨rfl, ⟨DB', hS', hsub'⟩, hG'⟩; have q7 := (hG'.block g7 (blk_lt q7) nB7).trans q7; have hJ := hJ.stepB hS' (fun x hx => .inl (hsub' x hx)) hG'; clear hS' hsub' hG'; have y0 : w10.cell? ⟨g7, 0, none⟩ = some (.int .i64 kind) := (blk_cell q7 0).trans rfl; have y1 : w10.cell? ⟨g7, 1, none⟩ = some (.int .i64 c) := (blk_cell q7 1).trans rfl; have y2 : w10.cell? ⟨g7, 2, none⟩ = some (.int .i64 m) := (blk_cell q7 2).trans rfl) | (go_at_call 18; refine (rforget_calls hJ.rx (Nat.le_trans HL.out (by decide)) c m).mono ?_; rintro e_ w11 ⟨rfl, ⟨sl', hX'⟩, hG2⟩; have hJ := hJ.stepX hX' (fun x hx => hx) hG2; clear hX' hG2))
          obtain ⟨A2, cap2, rfl⟩ := hJ.rx.shape
          have XS : Aside0 (∀ W', Below w11.heap.size w11 W' → W'.cell? ⟨X, 0, none⟩ = some (.slice A2 (keepR c m rs).length cap2)) := ⟨fun W' hb => (blk_cell (hJ.below hb).rx.at_ 0).trans rfl⟩
          go_region_held3 (fun W' => W'.cell? ⟨X, 0, none⟩ = some (.slice A2 (keepR c m rs).length cap2)) (first | exact XS.out _ (below_drew (Below.refl _ _)) | exact XS.out _ HB20.out) (first | (go_at_call 12; refine (len_j (hJ.below (below_drew (Below.refl _ _)))).mono ?_; rintro e_ w20 ⟨rfl, hb20⟩; have HB20 : Aside0 (Below w11.heap.size w11 w20) := ⟨below_step (below_drew (Below.refl _ _)) hb20⟩))
          have hJ := hJ.below HB20.out
          go_wp2_with (fail)
          go_roundg (gk - 1)
          case measure => have := HG.out; omega
          case rel => exact ⟨i + 1, by first | rfl | exact next_int h80 (by decide), ⟨by have := HG.out; omega⟩, ⟨_, _, _, _, _, hJ, keepR_good HGOOD.out, keepR_len HL.out, by have := HNI.out; omega⟩⟩
      · have h80z : ¬ (i : Int) < 80 := by omega
        obtain ⟨N, DB, DX, sl, rs, hJ, hgood, hlen, hNi⟩ := HST.out
        have HLO := Aside0.mk hJ.low
        clear hJ hgood hlen hNi HST
        go_wp2
        go_ret
        exact ⟨rfl, HLO.out⟩
    · have hltz : ¬ (i : Int) < (n : Int) := by omega
      obtain ⟨N, DB, DX, sl, rs, hJ, hgood, hlen, hNi⟩ := HST.out
      have HLO := Aside0.mk hJ.low
      clear hJ hgood hlen hNi HST
      go_wp2
      go_ret
      exact ⟨rfl, HLO.out⟩
end Go.Proofs.Ytjailboidlmadaa.P
end
