/- A row of bytes that a text's conversion made: its block is marked behind its end; its cells are read, and written, as any row's. -/
import Derived.Test.YtljllecpmllefaaWMore
import Derived.Lib.ConvBytes
import Derived.Lib.AtoiErrMem
namespace Go.Proofs.YtljllecpmllefaaW.PrintWords
open Go.RowKit Go.Proofs.YtljllecpmllefaaW.PrintMore
set_option linter.unusedVariables false

/-- block g of W holds the bytes l, and its mark lies behind its cells -/
def BRow (T : TypeId) (W : World) (g : Nat) (l : List Int) : Prop :=
  ∃ cs hi, W.heap[g]? = some (.cells cs T (cs.size, hi)) ∧ l.length ≤ cs.size ∧ ∀ j, j < l.length → cs[j]? = some (.int .u8 (l.getD j 0))
theorem BRow.new (W : World) (T : TypeId) (s : ByteArray) : BRow T (Lib.bytesWorld W T s) W.heap.size (bytesOf s) := by
  refine ⟨_, _, Lib.bytesWorld_at_new W T s, ?_, fun j hj => ?_⟩
  · rw [bytesOf_length]
    simp [Lib.bytesCells]
  · have hj2 : j < s.size := by rw [bytesOf_length] at hj; exact hj
    have h' : j < s.data.toList.length := by rw [data_length]; exact hj2
    unfold Lib.bytesCells
    rw [Array.getElem?_append_left (by simpa using hj2)]
    simp [bytesOf, List.getD_eq_getElem?_getD, List.getElem?_eq_getElem h', Array.getElem?_map]
    have h3 : j < s.data.size := by simpa using h'
    simp [Array.getElem?_eq_getElem h3]
theorem BRow.lt {T : TypeId} {W : World} {g : Nat} {l : List Int} (h : BRow T W g l) : g < W.heap.size := by
  obtain ⟨cs, hi, h1, _⟩ := h
  exact blk_lt h1
theorem BRow.below {T : TypeId} {W W1 : World} {g : Nat} {l : List Int} (h : BRow T W g l) (hb : Below W.heap.size W W1) : BRow T W1 g l := by
  obtain ⟨cs, hi, h1, h2⟩ := h
  exact ⟨cs, hi, blk_below h1 hb, h2⟩
theorem BRow.cell {T : TypeId} {W : World} {g : Nat} {l : List Int} (h : BRow T W g l) (j : Nat) (hj : j < l.length) : W.cell? ⟨g, j, none⟩ = some (.int .u8 (l.getD j 0)) := by
  obtain ⟨cs, hi, h1, h2, h3⟩ := h
  exact (cell_of_row W g j cs T _ h1).trans (h3 j hj)
theorem BRow.frozen {T : TypeId} {W : World} {g : Nat} {l : List Int} (h : BRow T W g l) (j : Nat) (hj : j < l.length) : W.frozen? ⟨g, j, none⟩ = false := by
  obtain ⟨cs, hi, h1, h2, h3⟩ := h
  simp only [World.frozen?, h1]
  have : ¬ cs.size ≤ j := by omega
  simp [this]
theorem BRow.set {T : TypeId} {W : World} {g : Nat} {l : List Int} (h : BRow T W g l) (i : Nat) (v : Int) : BRow T (W.setCell ⟨g, i, none⟩ (.int .u8 v)) g (l.set i v) := by
  obtain ⟨cs, hi, h1, h2, h3⟩ := h
  refine ⟨cs.setIfInBounds i (.int .u8 v), hi, ?_, ?_, fun j hj => ?_⟩
  · rw [Array.size_setIfInBounds]
    simp only [World.setCell, Array.getElem?_modify, h1]
    simp
  · rw [List.length_set, Array.size_setIfInBounds]; exact h2
  · rw [List.length_set] at hj
    rw [Array.getElem?_setIfInBounds]
    by_cases e : i = j
    · subst e
      rw [if_pos rfl, if_pos (by omega)]
      rw [List.getD_eq_getElem?_getD, List.getElem?_set_self hj]; rfl
    · rw [if_neg e, h3 j hj, List.getD_eq_getElem?_getD, List.getD_eq_getElem?_getD, List.getElem?_set_ne e]
theorem BRow.text {T : TypeId} {W : World} {g : Nat} {l : List Int} (h : BRow T W g l) {P : Program} (src dst : TypeId) (hs : P.underlying src = some (.slice T)) (hT : P.underlying T = some (.int .u8)) (hd : P.underlying dst = some .string) (c : Nat) :
    (convert src dst (.slice (some ⟨g, 0, none⟩) l.length c)).run P W = .ok (.string (strOfNums l)) W := by
  refine run_convert_bytes_arg (P := P) _ src T hs hT g 0 l.length c l rfl ?_ dst hd
  intro i hi
  rw [Nat.zero_add]
  exact h.cell i hi

/-- a row of another kind is left alone by a store of a byte -/
theorem BRow.other {T : TypeId} {W : World} {g : Nat} {l : List Int} (hr : BRow T W g l) {α : Type} {d : Kd α} {e base : Nat} {ok : Nat → Prop} {v : Value} {xs : List α} (h : d.R e W base ok v xs) (ht : T ∉ e :: d.E) (i : Nat) (u : Value) : d.R e (W.setCell ⟨g, i, none⟩ u) base ok v xs :=
  Kd.R_mono (Kd.R_move (Kd.R_bound h) (fun k hk => Below.heap_setCell W ⟨g, i, none⟩ u k (by
    rintro rfl
    obtain ⟨_, _, _, q, hq, cells, hc⟩ := hk
    obtain ⟨cs, hi, h1, _⟩ := hr
    rw [h1] at hc
    injection hc with hc
    injection hc with _ ht2 _
    subst ht2
    exact ht hq))) (fun _ hk => hk.1)
/-- a raw number, turned round where it is below 0 -/
def nn (c : Int) : Int := if c < 0 then -(c + 1) else c
theorem nn_range {c : Int} (h : (Lit.int .i64 c).wf = true) : 0 ≤ nn c ∧ nn c ≤ 9223372036854775807 := by
  have : -9223372036854775808 ≤ c ∧ c ≤ 9223372036854775807 := by simpa [Lit.wf, IntKind.min, IntKind.max, IntKind.signed, IntKind.bits] using h
  unfold nn
  split <;> omega
theorem nn_neg {c : Int} (h : (Lit.int .i64 c).wf = true) (hc : c < 0) : wrap64 (-(wrap64 (c + 1))) = nn c := by
  have : -9223372036854775808 ≤ c ∧ c ≤ 9223372036854775807 := by simpa [Lit.wf, IntKind.min, IntKind.max, IntKind.signed, IntKind.bits] using h
  unfold nn wrap64
  rw [if_pos hc]
  omega
theorem nn_pos {c : Int} (hc : ¬ c < 0) : c = nn c := by unfold nn; rw [if_neg hc]
/-- the bytes of b, the one at i turned by m -/
def turnAt (b : ByteArray) (i : Nat) (m : Int) : ByteArray := strOfNums ((bytesOf b).set i (Go.bits .xor .u8 ((bytesOf b).getD i 0) m))
def bitOf (x : Int) : Int := shl .u8 1 x

end Go.Proofs.YtljllecpmllefaaW.PrintWords
