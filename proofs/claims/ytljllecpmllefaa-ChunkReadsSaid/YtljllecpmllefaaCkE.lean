/- What the reference of chapter 18 reads. -/
import Derived.Test.YtljllecpmllefaaCkD
import Derived.Test.YtljllecpmllefaaPx27
section

namespace Go.Proofs.Ytljllecpmllefaa.Sp
open Go.RowKit Go.Proofs.YtljllecpmllefaaW.PrintWords Go.Proofs.YtljllecpmllefaaW.PrintLast Go.Proofs.YtljllecpmllefaaW.PrintMore Go.Proofs.Ytljllecpmllefaa.P
set_option linter.unusedVariables false

abbrev Seen := Int × Int × Int × Bool × ByteArray × Bool × Int
def toR (x : Seen) : Int × Int × Int × Bool × ByteArray × Bool × Bool := (x.1, x.2.1, x.2.2.1, x.2.2.2.1, x.2.2.2.2.1, x.2.2.2.2.2.1, (x.2.2.2.2.2.2 == 0))
theorem list_one (c : UInt8) (s : ByteArray) : ((⟨#[c]⟩ : ByteArray) ++ s).toList = c :: s.toList := by
  rw [ByteArray.toList_eq, ByteArray.toList_eq, ByteArray.data_append, Array.toList_append]
  rfl
theorem uncons {p : ByteArray} (h : p.toList ≠ ([] : List UInt8)) : ∃ (c : UInt8) (s : ByteArray), p = (⟨#[c]⟩ : ByteArray) ++ s := by
  cases e : p.toList with
  | nil => exact absurd e h
  | cons c l =>
    refine ⟨c, ⟨l.toArray⟩, toList_inj ?_⟩
    rw [list_one, e, ByteArray.toList_eq]
theorem pos_list {p : ByteArray} (h : ¬ (p.size : Int) < 1) : p.toList ≠ ([] : List UInt8) := by
  intro q
  have := congrArg List.length q
  rw [ByteArray.toList_eq, Array.length_toList, List.length_nil] at this
  have h2 : p.size = p.data.size := rfl
  omega
theorem topen_rest (b : ByteArray) : (topen b).2.1.size ≤ b.size := by
  unfold topen
  cases e : ttext b with
  | none => exact Nat.zero_le _
  | some p =>
    obtain ⟨s, r⟩ := p
    have hz := (ttext_size e).2
    simp only
    split
    · exact Nat.zero_le _
    · split
      · simp only
        rw [ByteArray.size_extract]
        omega
      · exact Nat.zero_le _
theorem tnum_rest {b r : ByteArray} {n : Int} (h : tnum b = some (n, r)) : r.size ≤ b.size := by
  rw [(tnum_back h).1, ByteArray.size_append]; omega
/-- a part of a kind, spelled -/
theorem partv_some {a : ByteArray} (h : (topen a).2.2 = 0) {c : UInt8} {s : ByteArray} (hp : (topen a).1 = (⟨#[c]⟩ : ByteArray) ++ s) (kind : Int) : partv a kind = if (c.toNat : Int) = kind then some (s, (topen a).2.1) else none := by
  unfold partv
  rw [hp, bt_one, ext_one]
  by_cases e : (c.toNat : Int) = kind
  · rw [if_pos ⟨h, ne_one c s, e⟩, if_pos e]
  · rw [if_neg (fun q => e q.2.2), if_neg e]
theorem partv_nil {a : ByteArray} (hp : (topen a).1.toList = ([] : List UInt8)) (kind : Int) : partv a kind = none := by
  unfold partv
  rw [if_neg (fun q => q.2.1 hp)]
/-- the end -/
theorem refe_end (id gen : Int) (r d : ByteArray) : ((some (topen r)).bind fun bt285 => (if bt285.2.2 = 0 then (if bt285.1.toList = ([101] : List UInt8) then (some (id, gen, (d.size : Int), true, d, (bt285.2.1.toList == ([] : List UInt8)), true)) else (some (id, gen, (d.size : Int), false, d, (r.toList == ([] : List UInt8)), true))) else (some (id, gen, (d.size : Int), false, d, (r.toList == ([] : List UInt8)), true)))) = some (toR (endv id gen (r, d))) := by
  rw [Option.bind_some]
  unfold endv
  simp only
  by_cases h : (topen r).2.2 = 0
  · rw [if_pos h]
    by_cases n : (topen r).1.toList = ([] : List UInt8)
    · rw [n, partv_nil n, if_neg (by simp)]
      rfl
    · obtain ⟨c, s, hp⟩ := uncons n
      rw [partv_some h hp, hp, list_one]
      by_cases e : (c.toNat : Int) = 101
      · have hc : c = 101 := by
          have : c.toNat = 101 := by omega
          exact UInt8.toNat_inj.1 this
        rw [if_pos e]
        simp only
        by_cases z : s.toList = ([] : List UInt8)
        · rw [if_pos z, if_pos (by rw [hc, z])]
          rfl
        · rw [if_neg z, if_neg (by intro q; injection q with _ q; exact z q)]
          rfl
      · rw [if_neg e, if_neg (by intro q; injection q with q _; rw [q] at e; exact e rfl)]
        rfl
  · rw [if_neg h, partv_none h]
    rfl
theorem wsum {a b : Nat} (ha : a ≤ 64) (hb : b ≤ 4000) : wrap64 ((wrap64 ((a : Int) + ((1 + b : Nat) : Int))) - 1) = (a : Int) + (b : Int) := by
  have e : ((1 + b : Nat) : Int) = 1 + (b : Int) := by omega
  have w : ∀ x : Int, -9223372036854775808 ≤ x → x ≤ 9223372036854775807 → wrap64 x = x := by intro x h0 h1; unfold wrap64; omega
  rw [e, w ((a : Int) + (1 + (b : Int))) (by omega) (by omega), w ((a : Int) + (1 + (b : Int)) - 1) (by omega) (by omega)]
  omega
theorem small_no {a b : Nat} (h : (a : Int) + (b : Int) > 64) : ¬ (a + b ≤ 64) := by omega
theorem small_sum {a b : Nat} (h : ¬ ((a : Int) + (b : Int) > 64)) : a + b ≤ 9223372036854775807 ∧ a + b ≤ 64 := by omega
set_option maxHeartbeats 300000 in
theorem ref_loop (id gen : Int) : ∀ (m k : Nat) (r d : ByteArray), d.size ≤ 64 → 65 - d.size ≤ m → 40300 + m ≤ k → r.size ≤ 140737488351232 → tabulariumref18_Read.l0 k r id gen d = some (toR (endv id gen (loopv m r d)))
  | 0, k, r, d, h1, h2, hk, hr => absurd h2 (by omega)
  | m + 1, k, r, d, h1, h2, hk, hr => by
    obtain ⟨q, rfl⟩ : ∃ q, k = q + 1 := ⟨k - 1, by omega⟩
    rw [tabulariumref18_Read.l0, ref_open_at r hr q (by omega), loopv]
    by_cases n0 : r.toList = ([] : List UInt8)
    · have e : r = ⟨#[]⟩ := toList_inj (by rw [n0, ByteArray.toList_eq])
      rw [if_pos n0, show partv r 100 = none by rw [e]; exact partv_empty 100]
      exact refe_end id gen r d
    · rw [if_neg n0, Option.bind_some]
      by_cases h : (topen r).2.2 = 0
      · rw [if_pos h]
        by_cases n : (topen r).1.toList = ([] : List UInt8)
        · have z : (topen r).1.size = 0 := by
            have := congrArg List.length n
            rw [ByteArray.toList_eq, Array.length_toList, List.length_nil] at this
            exact this
          rw [if_pos (by omega), partv_nil n]
          exact refe_end id gen r d
        · obtain ⟨c, s, hp⟩ := uncons n
          have hz : (topen r).1.size = 1 + s.size := by rw [hp, ByteArray.size_append, one_size]
          have h4 := topen_size r h
          have hx : (topen r).1.extract 1 (topen r).1.size = s := by rw [hp]; exact ext_one c s
          have hb : bt (topen r).1 0 = (c.toNat : Int) := by rw [hp]; exact bt_one c s
          rw [partv_some h hp]
          by_cases c2 : ((topen r).1.size : Int) < 2
          · have s0 : s.toList = ([] : List UInt8) := by
              have : s.size = 0 := by omega
              rw [ByteArray.toList_eq]
              exact List.eq_nil_of_length_eq_zero (by rw [Array.length_toList]; exact this)
            rw [if_pos c2]
            by_cases e : (c.toNat : Int) = 100
            · rw [if_pos e]
              simp only
              rw [if_neg (fun q => q.1 s0)]
              exact refe_end id gen r d
            · rw [if_neg e]
              exact refe_end id gen r d
          · rw [if_neg c2, if_pos (by omega), hb]
            by_cases e : (c.toNat : Int) = 100
            · have w1 : wrap64 ((wrap64 ((d.size : Int) + ((topen r).1.size : Int))) - 1) = (d.size : Int) + (s.size : Int) := by
                rw [hz]
                exact wsum h1 (by omega)
              have sn : s.toList ≠ ([] : List UInt8) := pos_list (by omega)
              have hr2 := Nat.le_trans (topen_rest r) hr
              rw [if_pos e, if_pos e, w1, hx]
              simp only
              by_cases c4 : (d.size : Int) + (s.size : Int) > 64
              · rw [if_pos c4, if_neg (fun q => small_no c4 q.2)]
                exact refe_end id gen r d
              · have hs := size_pos_of sn
                rw [if_neg c4]
                have f1 : 1 ≤ ((topen r).1.size : Int) := by clear c2 c4 h1 h2 hk hr h4; omega
                have f2 := small_sum c4
                clear c4 c2 hr
                rw [if_pos f1, if_pos f2.1, if_pos ⟨sn, f2.2⟩]
                exact ref_loop id gen m q _ _ (by rw [ByteArray.size_append]; exact f2.2) (by rw [ByteArray.size_append]; clear f2; omega) (by clear f2; omega) hr2
            · rw [if_neg e, if_neg e]
              exact refe_end id gen r d
      · rw [if_neg h, partv_none h]
        exact refe_end id gen r d
theorem ref_j1 (left : ByteArray) (id gen : Int) (k : Nat) (b : Bool) (hk : 41000 ≤ k) (hr : left.size ≤ 140737488351232) : tabulariumref18_Read.j1 k left id gen b = if b = true then some (0, 0, 0, false, (⟨#[]⟩ : ByteArray), false, false) else some (toR (endv id gen (loopv 70 left (⟨#[]⟩ : ByteArray)))) := by
  obtain ⟨q, rfl⟩ : ∃ q, k = q + 1 := ⟨k - 1, by omega⟩
  rw [tabulariumref18_Read.j1, ref_loop id gen 70 q left ⟨#[]⟩ (by decide) (by decide) (by omega) hr]
set_option maxHeartbeats 300000 in
theorem refread_at (a : ByteArray) (ha : a.size ≤ 140737488351232) (k : Nat) (hk : 42000 ≤ k) : tabulariumref18_Read.f k a = some (toR (readv a)) := by
  obtain ⟨q, rfl⟩ : ∃ q, k = q + 1 := ⟨k - 1, by omega⟩
  have no : ∀ x y, tabulariumref18_Read.j0 (q + 1) x y true = some (toR (0, 0, 0, false, (⟨#[]⟩ : ByteArray), false, 2)) := by
    intro x y
    rw [tabulariumref18_Read.j0, if_pos rfl]
    rfl
  unfold tabulariumref18_Read.f readv headp
  rw [ref_open_at a ha _ (by omega), Option.bind_some]
  by_cases h : (topen a).2.2 = 0
  · rw [if_pos h]
    by_cases n : (topen a).1.toList = ([] : List UInt8)
    · have z : (topen a).1.size = 0 := by
        have := congrArg List.length n
        rw [ByteArray.toList_eq, Array.length_toList, List.length_nil] at this
        exact this
      rw [if_pos (by omega), partv_nil n, no]
    · obtain ⟨c, s, hp⟩ := uncons n
      have hz : (topen a).1.size = 1 + s.size := by rw [hp, ByteArray.size_append, one_size]
      have h4 := topen_size a h
      have hx : (topen a).1.extract 1 (topen a).1.size = s := by rw [hp]; exact ext_one c s
      have hb : bt (topen a).1 0 = (c.toNat : Int) := by rw [hp]; exact bt_one c s
      have hl := topen_rest a
      rw [if_neg (by omega), if_pos (by omega), partv_some h hp, hb]
      by_cases e : (c.toNat : Int) = 104
      · rw [if_pos e, bne_eq_false_iff_eq.2 e, tabulariumref18_Read.j0, if_neg (by decide), if_pos (by omega), hx]
        simp only
        rw [ref_take_at s (by omega) q (by omega), Option.bind_some]
        unfold tnumR tnumB
        have j1 := fun id gen b => ref_j1 (topen a).2.1 id gen q b (by omega) (by omega)
        cases e1 : tnum s with
        | none =>
          simp only
          rw [ref_take_at _ (by decide) q (by omega), Option.bind_some, if_neg (by decide), j1, if_pos rfl, if_neg (by simp)]
          rfl
        | some p =>
          obtain ⟨id, r⟩ := p
          have hr : r.size ≤ s.size := tnum_rest e1
          simp only
          rw [ref_take_at r (by omega) q (by omega), Option.bind_some, if_pos trivial]
          unfold tnumB
          cases e2 : tnum r with
          | none =>
            simp only
            rw [if_neg (by decide), j1, if_pos rfl, if_neg (by simp)]
            rfl
          | some p2 =>
            obtain ⟨gen, l⟩ := p2
            simp only
            rw [if_pos trivial]
            by_cases e3 : l.toList = ([] : List UInt8)
            · rw [if_pos e3]
              unfold numb
              by_cases c1 : id < 1
              · rw [if_pos c1, j1, if_pos rfl, if_neg (by simp; omega)]
                rfl
              · rw [if_neg c1]
                by_cases c2 : id > 9007199254740991
                · rw [if_pos c2, j1, if_pos rfl, if_neg (by simp; omega)]
                  rfl
                · rw [if_neg c2]
                  by_cases c3 : gen < 1
                  · rw [if_pos c3, j1, if_pos rfl, if_neg (by simp; omega)]
                    rfl
                  · rw [if_neg c3, j1]
                    by_cases c4 : gen > 9007199254740991
                    · rw [decide_eq_true c4, if_pos rfl, if_neg (by simp; omega)]
                      rfl
                    · rw [decide_eq_false c4, if_neg (by decide), if_pos ⟨trivial, trivial, e3, decide_eq_true (by omega), decide_eq_true (by omega)⟩]
            · rw [if_neg e3, j1, if_pos rfl, if_neg (fun q => e3 q.2.2.1)]
              rfl
      · rw [if_neg e, bne_iff_ne.2 e, no]
  · rw [if_neg h, partv_none h, no]
theorem readv_err (a : ByteArray) : (readv a).2.2.2.2.2.2 = 0 ∨ (readv a).2.2.2.2.2.2 = 2 := by
  unfold readv
  cases headp a with
  | none => exact .inr rfl
  | some p =>
    obtain ⟨id, gen, left⟩ := p
    simp only
    left
    unfold endv
    split
    · rfl
    · split <;> rfl
end Go.Proofs.Ytljllecpmllefaa.Sp
end
