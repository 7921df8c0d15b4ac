/- The law EditBytes over plain functions: any edit is right, and written, and any bytes are read as one, as the chapter says, or refused. -/
import Derived.Test.YtecjdchjaoimfaaEx10
import Derived.Test.YtecjdchjaoimfaaEditsR
import Derived.Test.YtecjdchjaoimfaaPx18
namespace Go.Proofs.Ytecjdchjaoimfaa.Pure
open Go.RowKit Go.Proofs.Ytecjdchjaoimfaa.P Go.Proofs.Ytecjdchjaoimfaa.Sp Go.Proofs.YtecjdchjaoimfaaW.PrintWords Go.Proofs.YtecjdchjaoimfaaW.PrintLast Go.Proofs.YtecjdchjaoimfaaW.PrintMore
set_option linter.unusedVariables false

theorem bytes_l1 (b : ByteArray) (x5 : Bool) (x6 : ByteArray) (x7 : Int) (x8 : ByteArray) (x9 x11 : Bool) (x12 : Int) (k : Int) (p t : ByteArray) (c q n : Int) (l : List Int) (k2 : Int) (p2 t2 : ByteArray) (c2 q2 n2 : Int) (l2 : List Int) (k3 : Int) (p3 t3 : ByteArray) (c3 q3 n3 : Int) :
    ∀ (d i K : Nat) (l3 : List Int), l3.length ≤ 1000 → l3.length - i = d → i ≤ l3.length →
      tabulariumlaw10_EditBytes.l1 (K + d + 1) b x5 x6 x7 x8 x9 x11 x12 (i : Int) k p t c q n l k2 p2 t2 c2 q2 n2 l2 k3 p3 t3 c3 q3 n3 l3 = tabulariumlaw10_EditBytes.l0 K b x5 x6 x7 x8 x9 x11 (wrap64 (x12 + 1)) k p t c q n l k2 p2 t2 c2 q2 n2 l2 := by
  intro d
  induction d with
  | zero =>
    intro i K l3 hl hd hi
    rw [tabulariumlaw10_EditBytes.l1, if_neg (by omega)]
  | succ d ih =>
    intro i K l3 hl hd hi
    rw [tabulariumlaw10_EditBytes.l1, if_pos (by omega), if_pos (by omega), show wrap64 ((i : Int) + 1) = ((i + 1 : Nat) : Int) by unfold wrap64; omega]
    exact ih (i + 1) K _ (by rw [List.length_set]; omega) (by rw [List.length_set]; omega) (by rw [List.length_set]; omega)

theorem bytes_end (b : ByteArray) (k : Int) (p t : ByteArray) (c q n : Int) (l : List Int) (f : Bool) (k2 : Int) (p2 t2 : ByteArray) (c2 q2 n2 : Int) (l2 : List Int) (K : Nat) (hK : 30 ≤ K) :
    tabulariumlaw10_EditBytes.l0 K b true (encW k p t c q n l).1 (encW k p t c q n l).2 (encR k p t c q n l).1 (encR k p t c q n l).2 f 2 k p t c q n l k2 p2 t2 c2 q2 n2 l2 = some true := by
  obtain ⟨K, rfl⟩ : ∃ m, K = m + 1 := ⟨K - 1, by omega⟩
  rw [tabulariumlaw10_EditBytes.l0, if_neg (by decide), if_pos rfl]
  unfold encW encR
  by_cases e : rightB k p t c q n l = true
  · rw [if_pos e, if_pos e]
    simp only
    rw [if_pos trivial, if_pos trivial, if_pos trivial, right_at, ref_right_at _ _ _ _ _ _ _ K (by omega)]
    simp
  · rw [if_neg e, if_neg e]
    simp only
    rw [if_pos trivial, if_neg (by decide), if_pos trivial, right_at, ref_right_at _ _ _ _ _ _ _ K (by omega)]
    simp

theorem bytes_round (b : ByteArray) (aB : ByteArray) (aF : Int) (cB : ByteArray) (cO : Bool) (i : Int) (hi : i < 2) (k : Int) (p t : ByteArray) (c q n : Int) (l : List Int) (K : Nat) (hK : 60 ≤ K) :
    ∃ d, d ≤ 20 ∧ tabulariumlaw10_EditBytes.l0 (K + d) b true aB aF cB cO (decR (dec b)).2.2.2.2.2.2.2 i k p t c q n l (decR (dec b)).1 (decR (dec b)).2.1 (decR (dec b)).2.2.1 (decR (dec b)).2.2.2.1 (decR (dec b)).2.2.2.2.1 (decR (dec b)).2.2.2.2.2.1 (decR (dec b)).2.2.2.2.2.2.1
      = tabulariumlaw10_EditBytes.l0 K b true aB aF cB cO (decR (dec b)).2.2.2.2.2.2.2 (wrap64 (i + 1)) k p t c q n l (decR (dec b)).1 (decR (dec b)).2.1 (decR (dec b)).2.2.1 (decR (dec b)).2.2.2.1 (decR (dec b)).2.2.2.2.1 (decR (dec b)).2.2.2.2.2.1 (decR (dec b)).2.2.2.2.2.2.1 := by
  cases e : dec b with
  | none =>
    refine ⟨3, by omega, ?_⟩
    dsimp only [decR]
    rw [show K + 3 = (K + 2) + 1 from rfl, tabulariumlaw10_EditBytes.l0, if_pos hi, wire_dec_at b (K + 2) (by omega), e, Option.bind_some]
    dsimp only [decW]
    rw [same_at _ _ _ _ _ _ _ _ _ _ _ _ _ _ (by simp [maxLen]) (K + 2) (by simp), Option.bind_some, decide_eq_true rfl, if_pos rfl]
    refine (if_neg (c := (false != ((2 : Int) == 0)) = true) (by decide)).trans ?_
    rw [if_neg (by decide), show ((2 : Int) != 2) = false from rfl, show K + 2 = (K + 1) + 1 from rfl, tabulariumlaw10_EditBytes.j1, if_neg (by decide)]
    exact bytes_l1 b true aB aF cB cO false i k p t c q n l _ _ _ _ _ _ _ _ _ _ _ _ _ 0 0 K [] (by simp) (by simp) (by simp)
  | some x =>
    obtain ⟨h, hb⟩ := dec_back e
    have hl := h.len
    refine ⟨x.l.length + 3, by omega, ?_⟩
    dsimp only [decR]
    rw [show K + (x.l.length + 3) = (K + x.l.length + 2) + 1 by omega, tabulariumlaw10_EditBytes.l0, if_pos hi, wire_dec_at b _ (by omega), e, Option.bind_some]
    dsimp only [decW]
    rw [same_at _ _ _ _ _ _ _ _ _ _ _ _ _ _ (by unfold maxLen; omega) _ (by omega), Option.bind_some, decide_eq_true rfl, if_pos rfl]
    refine (if_neg (c := (true != ((0 : Int) == 0)) = true) (by decide)).trans ?_
    rw [if_pos rfl, show K + x.l.length + 2 = (K + x.l.length + 1) + 1 from rfl, tabulariumlaw10_EditBytes.j1, if_neg (by decide)]
    exact bytes_l1 b true aB aF cB cO true i k p t c q n l _ _ _ _ _ _ _ _ _ _ _ _ _ x.l.length 0 K x.l (by omega) (by omega) (by omega)

theorem EditBytes : tabulariumlaw10_EditBytes.Pure := by
  intro k p t c q n l b _ _ _ _ _ _ _ _ _ hb
  obtain ⟨d2, h2, e2⟩ := bytes_round b (encW k p t c q n l).1 (encW k p t c q n l).2 (encR k p t c q n l).1 (encR k p t c q n l).2 1 (by decide) k p t c q n l 200 (by omega)
  obtain ⟨d1, h1, e1⟩ := bytes_round b (encW k p t c q n l).1 (encW k p t c q n l).2 (encR k p t c q n l).1 (encR k p t c q n l).2 0 (by decide) k p t c q n l (200 + d2) (by omega)
  refine ⟨200 + d2 + d1, ?_⟩
  unfold tabulariumlaw10_EditBytes.f
  rw [at_rounds tabulariumlaw10_examples.mono (show 40 ≤ 200 + d2 + d1 by omega) examples_at, wire_enc_at _ _ _ _ _ _ _ _ (by omega), ref_enc_at _ _ _ _ _ _ _ _ (by omega), ref_dec_at b hb _ (by omega)]
  simp only [Option.bind_some]
  rw [e1, show wrap64 ((0 : Int) + 1) = 1 by unfold wrap64; omega, e2, show wrap64 ((1 : Int) + 1) = 2 by unfold wrap64; omega]
  exact bytes_end b k p t c q n l _ _ _ _ _ _ _ _ 200 (by omega)

end Go.Proofs.Ytecjdchjaoimfaa.Pure
