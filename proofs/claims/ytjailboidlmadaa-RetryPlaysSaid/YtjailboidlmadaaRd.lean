/- How an argument that is read as data reads as a kind's value: whole numbers, bools, texts, fractions, slices of these, structs. -/
import Derived.Test.YtjailboidlmadaaWMore
import Derived.ChangeArms
import Derived.SizedLaws
import Derived.Laws.Cover2
import Derived.DataElems
import Derived.DataReads
namespace Go.Proofs.YtjailboidlmadaaW.PrintWords
open Go.RowKit
set_option linter.unusedVariables false

section
variable {H : Type} {enc : TypeId × Value → H} {P : Program} {w : World} {base : Nat} {spare : Nat → Bool} {held : Bool}

/-- what reads as data of type t reads as a value of the kind d that is good -/
def Opens (enc : TypeId × Value → H) (P : Program) (w : World) (base : Nat) (spare : Nat → Bool) (held : Bool) (t : TypeId) {α : Type} (d : Kd α) (good : α → Prop) : Prop :=
  ∀ fuel cs y, DataW.trod enc P w base spare held fuel t cs = some y → (∀ n ∈ y.1.weights P t, n ≤ 140737488351232) → ∃ x, d.K w x cs ∧ good x

theorem opens_int {t : TypeId} {k : IntKind} (ht : P.underlying t = some (.int k)) : Opens enc P w base spare held t (Kd.int k) (fun x => (Lit.int k x).wf = true) := by
  intro fuel cs y h _
  obtain ⟨n, rfl, rfl, hw⟩ := DataW.trod_int ht h
  exact ⟨n, rfl, hw⟩

theorem opens_bool {t : TypeId} (ht : P.underlying t = some .bool) : Opens enc P w base spare held t Kd.bool (fun _ => True) := by
  intro fuel cs y h _
  obtain ⟨n, rfl, rfl⟩ := DataW.trod_bool ht h
  exact ⟨n, rfl, trivial⟩

theorem opens_string {t : TypeId} (ht : P.underlying t = some .string) : Opens enc P w base spare held t Kd.string (fun x => x.size ≤ 140737488351232) := by
  intro fuel cs y h hw
  obtain ⟨s, rfl, rfl, _⟩ := DataW.trod_string ht h
  refine ⟨s, rfl, ?_⟩
  have := hw s.data.toList.length (by simp [DataW.weights])
  rwa [Array.length_toList] at this

theorem weights_all {e : TypeId} : ∀ {l : List (DataW H)} {d : DataW H}, d ∈ l → ∀ n ∈ d.weights P e, n ∈ DataW.weightsAll P e l := by
  intro l
  induction l with
  | nil => intro d h; cases h
  | cons x l ih =>
    intro d h n hn
    rw [DataW.weightsAll, List.mem_append]
    rcases List.mem_cons.1 h with rfl | h
    · exact .inl hn
    · exact .inr (ih h n hn)

theorem choose_list {α β : Type} {R : β → α → Prop} : ∀ {l : List β}, (∀ y ∈ l, ∃ x, R y x) → ∃ xs : List α, xs.length = l.length ∧ ∀ (i : Nat) (y : β) (x : α), l[i]? = some y → xs[i]? = some x → R y x := by
  intro l
  induction l with
  | nil => intro _; exact ⟨[], rfl, fun i y x h => by simp at h⟩
  | cons y l ih =>
    intro h
    obtain ⟨x, hx⟩ := h y List.mem_cons_self
    obtain ⟨xs, h1, h2⟩ := ih fun z hz => h z (List.mem_cons_of_mem _ hz)
    refine ⟨x :: xs, by simp [h1], fun i a b ha hb => ?_⟩
    cases i with
    | zero => simp at ha hb; subst ha; subst hb; exact hx
    | succ i => simp at ha hb; exact h2 i a b ha hb

theorem opens_f64 {t : TypeId} (ht : P.underlying t = some (.float .f64)) : Opens enc P w base spare held t (Kd.scalar (Value.float .f64) (fun _ => rfl)) (fun x => (Lit.float .f64 x).wf = true) := by
  intro fuel cs y h _
  cases fuel with
  | zero => simp [DataW.trod] at h
  | succ n =>
    unfold DataW.trod at h
    rw [ht] at h
    split at h <;> simp_all
    rename_i hk
    obtain ⟨⟨rfl, hw⟩, rfl⟩ := h
    exact ⟨_, rfl, hw⟩

theorem opens_slice {α : Type} {d : Kd α} {good : α → Prop} {t e : TypeId} {b : Nat} (ht : P.underlying t = some (.slice e)) (hc : P.cellsOf e = d.sz) (hb : P.bytesOf e = b) (he : Opens enc P w base spare held e d good) :
    Opens enc P w base spare held t (Kd.slice e d) (fun xs => xs.length ≤ maxLen ∧ xs.length * b ≤ 140737488351232 ∧ ∀ x ∈ xs, good x) := by
  intro fuel cs y h hw
  rcases DataW.trod_slice ht h with ⟨rfl, rfl⟩ | ⟨a, len, cap, elems, rest, n, _, rfl, rfl, hbase, hl, hm, hlen, hel, _, _⟩
  · exact ⟨[], ⟨none, 0, rfl, Nat.le_refl _, Kd.C_nil _ _⟩, by simp, by simp, by simp⟩
  · have hx : ∀ i ∈ List.range len, ∃ x, ∃ cs, w.cells? base (a.add (i * P.cellsOf e)) (P.cellsOf e) = some cs ∧ d.K w x cs ∧ good x := by
      intro i hi
      have hi : i < len := List.mem_range.1 hi
      have h1 := hel i hi
      rw [List.getElem?_eq_getElem (by omega), Option.bind_eq_some_iff] at h1
      obtain ⟨cs, h2, h3⟩ := h1
      obtain ⟨x, hk, hg⟩ := he n cs _ h3 (fun m hm2 => hw m (by
        simp only [DataW.weights, ht, List.mem_cons, List.mem_append]
        exact .inr (.inl (weights_all (List.mem_map_of_mem (List.getElem_mem (by omega))) m hm2))))
      exact ⟨x, cs, h2, hk, hg⟩
    obtain ⟨xs, hlx, hR⟩ := choose_list hx
    rw [List.length_range] at hlx
    obtain rfl : len = xs.length := hlx.symm
    have hsz := hw ((elems.length + rest.length) * P.bytesOf e) (by simp [DataW.weights, ht])
    refine ⟨xs, ⟨some a, cap, rfl, hl, rfl, ?_, fun _ => ⟨a, rfl, fun j p hp => ?_⟩⟩, by omega, ?_, ?_⟩
    · unfold maxLen at hm; omega
    · have hj : j < xs.length := (List.getElem?_eq_some_iff.1 hp).1
      obtain ⟨cs, h1, h2, _⟩ := hR j j p (by rw [List.getElem?_range hj]) hp
      obtain ⟨_, q1, q2⟩ := World.cells?_some h1
      rw [hc] at q1 q2 h1
      refine ⟨cs, q1, h2, fun i u hu => ?_⟩
      have hi : i < d.sz := by have := (List.getElem?_eq_some_iff.1 hu).1; omega
      have := q2 i hi
      rw [Addr.add_add, hu] at this
      exact this
    · rw [hb] at hsz
      exact Nat.le_trans (Nat.mul_le_mul_right _ (by omega)) hsz
    · intro x hx2
      obtain ⟨j, hj, rfl⟩ := List.mem_iff_getElem.1 hx2
      obtain ⟨_, _, _, hg⟩ := hR j j xs[j] (by rw [List.getElem?_range hj]) (List.getElem?_eq_getElem hj)
      exact hg

/-! ### structs: field by field -/
theorem opens_field {α : Type} {d : Kd α} {good : α → Prop} {fs : Array Field} {f : Field} {xs : List (DataW H × List MemPlace)} {n i : Nat} {cs : List Value}
    (hlen : xs.length = fs.size) (hf : fs[i]? = some f) (ht : DataW.trod enc P w base spare held n f.type ((cs.drop f.offset).take (P.cellsOf f.type)) = xs[i]?)
    (hw : ∀ m ∈ DataW.weightsEach P (fs.toList.map (·.type)) (xs.map (·.1)), m ≤ 140737488351232)
    (ho : Opens enc P w base spare held f.type d good) : ∃ x, d.K w x ((cs.drop f.offset).take (P.cellsOf f.type)) ∧ good x := by
  have hi : i < fs.size := (Array.getElem?_eq_some_iff.1 hf).1
  rw [List.getElem?_eq_getElem (show i < xs.length by omega)] at ht
  refine ho n _ _ ht fun m hm => hw m ?_
  refine DataW.weights_mem_each (j := i) (t := f.type) (d := (xs[i]'(by omega)).1) ?_ ?_ m hm
  · rw [List.getElem?_map, Array.getElem?_toList, hf]; rfl
  · rw [List.getElem?_map, List.getElem?_eq_getElem (show i < xs.length by omega)]; rfl

theorem take_one {α : Type} {en : α → Value} {h1 : ∀ x, (en x).oneCell' = true} {cs : List Value} {j n : Nat} {x : α} {u : Value} (h : (Kd.scalar en h1).K w x ((cs.drop j).take n)) (hn : n = 1) (hu : cs[j]? = some u) : u = en x := by
  have h : (cs.drop j).take n = [en x] := h
  subst hn
  have h2 : (cs.drop j)[0]? = some u := by rw [List.getElem?_drop]; exact hu
  cases hq : cs.drop j with
  | nil => rw [hq] at h2; simp at h2
  | cons a l => rw [hq] at h h2; simp at h h2; rw [← h2]; exact h
theorem take_slice {α : Type} {d : Kd α} {e : TypeId} {cs : List Value} {j n : Nat} {xs : List α} {u : Value} (h : (Kd.slice e d).K w xs ((cs.drop j).take n)) (hn : n = 1) (hu : cs[j]? = some u) : ∃ A c, u = .slice A xs.length c ∧ xs.length ≤ c ∧ d.C w A xs.length xs := by
  obtain ⟨A, c, h, hl, hC⟩ := h
  subst hn
  refine ⟨A, c, ?_, hl, hC⟩
  have h2 : (cs.drop j)[0]? = some u := by rw [List.getElem?_drop]; exact hu
  cases hq : cs.drop j with
  | nil => rw [hq] at h2; simp at h2
  | cons a l => rw [hq] at h h2; simp at h h2; rw [← h2]; exact h

/-! ### arguments -/
theorem top_weights {ts : List TypeId} {ds : List (DataW H)} {j : Nat} {t : TypeId} {d : DataW H} (h : (DataW.weightsEach P ts ds).all (· ≤ reachBytes) = true) (ht : ts[j]? = some t) (hd : ds[j]? = some d) : ∀ n ∈ d.weights P t, n ≤ 140737488351232 := by
  intro n hn
  have h2 : decide (n ≤ reachBytes) = true := List.all_eq_true.1 h n (DataW.weights_mem_each ht hd n hn)
  exact of_decide_eq_true h2

theorem top_slice {α : Type} {d : Kd α} {good : List α → Prop} {t e : TypeId} {a : Option Addr} {len cap : Nat} {dd : DataW H} {ps : List MemPlace} (ho : Opens enc P w base spare held t (Kd.slice e d) good)
    (h : DataW.Trod enc P w base spare held t (.slice a len cap) dd ps) (hw : ∀ n ∈ dd.weights P t, n ≤ 140737488351232) : ∃ xs : List α, len = xs.length ∧ xs.length ≤ cap ∧ d.C w a xs.length xs ∧ good xs := by
  obtain ⟨fuel, hf⟩ := h
  obtain ⟨xs, ⟨A, c, hcs, hle, hC⟩, hg⟩ := ho fuel _ _ hf hw
  have hcs : [Value.slice a len cap] = [Value.slice A xs.length c] := hcs
  injection hcs with hcs _
  injection hcs with h1 h2 h3
  subst h1; subst h2; subst h3
  exact ⟨xs, rfl, hle, hC, hg⟩

end
end Go.Proofs.YtjailboidlmadaaW.PrintWords
