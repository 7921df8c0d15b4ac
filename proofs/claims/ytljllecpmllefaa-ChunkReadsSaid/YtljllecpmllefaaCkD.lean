/- What package chunk reads, and how a file that is cut off is read. -/
import Derived.Test.YtljllecpmllefaaCkA
import Derived.Test.YtljllecpmllefaaPx7
import Derived.Test.YtljllecpmllefaaBty
section

namespace Go.Proofs.Ytljllecpmllefaa.Sp
open Go.RowKit Go.Proofs.YtljllecpmllefaaW.PrintWords Go.Proofs.YtljllecpmllefaaW.PrintLast Go.Proofs.YtljllecpmllefaaW.PrintMore Go.Proofs.Ytljllecpmllefaa.P
set_option linter.unusedVariables false

theorem take_all (b : ByteArray) (h : b.size = 4) : b.extract 0 4 = b := by
  refine nb_ext ?_
  rw [nb_extract, List.drop_zero, Nat.sub_zero, List.take_of_length_le (by rw [nb_size]; omega)]
theorem four_size' (s : ByteArray) : (four (csum s)).size = 4 := four_size _

theorem seal_form {s b : ByteArray} (h : seal_ s = some b) : s.size ≤ 4000 ∧ b = num s.size ++ (s ++ four (csum s)) := by
  unfold seal_ at h
  cases e : text s with
  | none => rw [e] at h; cases h
  | some q =>
    rw [e] at h
    obtain rfl := Option.some.inj h
    unfold text at e
    by_cases c : 4000 < s.size
    · rw [if_pos c] at e; cases e
    · rw [if_neg c] at e
      obtain rfl := Option.some.inj e
      exact ⟨by omega, by rw [ByteArray.append_assoc]⟩
theorem text_num {s : ByteArray} (h : s.size ≤ 4000) : text s = some (num s.size ++ s) := by unfold text; rw [if_neg (by omega)]
theorem cut_low (a b : ByteArray) {m : Nat} (h : m ≤ a.size) : (a ++ b).extract 0 m = a.extract 0 m := by
  apply bytes_ext
  rw [bytesOf_extract, bytesOf_extract, bytesOf_append, List.drop_zero, List.drop_zero, Nat.sub_zero, List.take_append_of_le_length (by rw [bytesOf_size]; exact h)]
theorem cut_high (a b : ByteArray) {m : Nat} (h : a.size ≤ m) : (a ++ b).extract 0 m = a ++ b.extract 0 (m - a.size) := by
  apply bytes_ext
  rw [bytesOf_extract, bytesOf_append, bytesOf_append, bytesOf_extract, List.drop_zero, List.drop_zero, Nat.sub_zero, Nat.sub_zero, List.take_append, List.take_of_length_le (by rw [bytesOf_size]; exact h), bytesOf_size]
theorem cut_size (b : ByteArray) {m : Nat} (h : m ≤ b.size) : (b.extract 0 m).size = m := by rw [ByteArray.size_extract]; omega
theorem tnum_cut {n : Int} {m : Nat} (h : m < (num n).size) : tnum ((num n).extract 0 m) = none := by
  unfold tnum
  rw [num_size] at h
  rw [bytesOf_extract, bytes_num, List.drop_zero, Nat.sub_zero, tk_cut h]
theorem ttext_cut {s t : ByteArray} (h : text s = some t) {m : Nat} (hm : m < t.size) : ttext (t.extract 0 m) = none := by
  unfold text at h
  by_cases c : 4000 < s.size
  · rw [if_pos c] at h; cases h
  · rw [if_neg c] at h
    obtain rfl := Option.some.inj h
    rw [ByteArray.size_append] at hm
    unfold ttext
    rcases Nat.lt_or_ge m (num s.size).size with c1 | c1
    · rw [cut_low _ _ (by omega), tnum_cut c1]
    · rw [cut_high _ _ c1, tnum_num (by omega)]
      have hz : (s.extract 0 (m - (num s.size).size)).size = m - (num s.size).size := cut_size s (by omega)
      simp only
      rw [if_pos (by omega)]
theorem topen_cut {s b : ByteArray} (h : seal_ s = some b) {m : Nat} (hm : m < b.size) : topen (b.extract 0 m) = (⟨#[]⟩, ⟨#[]⟩, 2) := by
  obtain ⟨hs, rfl⟩ := seal_form h
  have hf := four_size' s
  rw [← ByteArray.append_assoc] at hm ⊢
  unfold topen
  rcases Nat.lt_or_ge m (num s.size ++ s).size with c | c
  · rw [cut_low _ _ (by omega), ttext_cut (text_num hs) c]
  · rw [cut_high _ _ c, ttext_text (text_num hs)]
    rw [ByteArray.size_append] at hm
    have hz : ((four (csum s)).extract 0 (m - (num s.size ++ s).size)).size = m - (num s.size ++ s).size := cut_size _ (by omega)
    simp only
    rw [if_pos (by omega)]


/-- a part at the beginning, of a kind -/
def partv (a : ByteArray) (kind : Int) : Option (ByteArray × ByteArray) := if (topen a).2.2 = 0 ∧ (topen a).1.toList ≠ ([] : List UInt8) ∧ bt (topen a).1 0 = kind then some ((topen a).1.extract 1 (topen a).1.size, (topen a).2.1) else none
theorem part_at (a : ByteArray) (kind : Int) (k : Nat) (hk : 30 ≤ k) : chunk_part.f k a kind = some (partv a kind) := by
  unfold chunk_part.f partv
  rw [open_at a k hk, Option.bind_some]
theorem topen_size (a : ByteArray) (h : (topen a).2.2 = 0) : (topen a).1.size ≤ 4000 := by
  unfold topen at h ⊢
  cases e : ttext a with
  | none => rw [e] at h; cases h
  | some p =>
    obtain ⟨s, r⟩ := p
    have := (ttext_size e).1
    rw [e] at h
    simp only at h ⊢
    split at h
    · cases h
    · rename_i c1
      rw [if_neg c1]
      split at h
      · rename_i c2; rw [if_pos c2]; exact this
      · cases h
theorem partv_size {a s l : ByteArray} {kind : Int} (h : partv a kind = some (s, l)) : s.size ≤ 4000 := by
  unfold partv at h
  split at h
  · rename_i c
    have := topen_size a c.1
    have h := Option.some.inj h
    simp only [Prod.mk.injEq] at h
    rw [← h.1, ByteArray.size_extract]
    omega
  · cases h
theorem partv_none {a : ByteArray} (h : (topen a).2.2 ≠ 0) (kind : Int) : partv a kind = none := by
  unfold partv
  rw [if_neg (fun c => h c.1)]
theorem bt_one (c : UInt8) (s : ByteArray) : bt ((⟨#[c]⟩ : ByteArray) ++ s) 0 = (c.toNat : Int) := by
  have h := bt_nb ((⟨#[c]⟩ : ByteArray) ++ s) 0
  rw [nb_append] at h
  exact h
theorem ext_one (c : UInt8) (s : ByteArray) : ((⟨#[c]⟩ : ByteArray) ++ s).extract 1 ((⟨#[c]⟩ : ByteArray) ++ s).size = s := by
  refine nb_ext ?_
  rw [nb_extract, nb_append, show nb (⟨#[c]⟩ : ByteArray) = [c.toNat] from rfl, List.singleton_append, List.drop_succ_cons, List.drop_zero, List.take_of_length_le]
  rw [nb_size, ByteArray.size_append, one_size]; omega
theorem ne_one (c : UInt8) (s : ByteArray) : ((⟨#[c]⟩ : ByteArray) ++ s).toList ≠ ([] : List UInt8) := by
  intro q
  rw [ByteArray.toList_eq, ByteArray.data_append, Array.toList_append] at q
  simp at q
/-- a part that was written is read -/
theorem partv_seal (c : UInt8) (s r : ByteArray) (h : s.size ≤ 3999) (kind : Int) : partv (sealB ((⟨#[c]⟩ : ByteArray) ++ s) ++ r) kind = if (c.toNat : Int) = kind then some (s, r) else none := by
  have hs := (seal_small (s := (⟨#[c]⟩ : ByteArray) ++ s) (by rw [ByteArray.size_append, one_size]; omega)).1
  unfold partv
  rw [topen_seal hs r]
  simp only
  rw [bt_one, ext_one]
  by_cases e : (c.toNat : Int) = kind
  · rw [if_pos ⟨trivial, ne_one c s, e⟩, if_pos e]
  · rw [if_neg (fun q => e q.2.2), if_neg e]
theorem partv_cut (s : ByteArray) (h : s.size ≤ 4000) (m : Nat) (hm : m < (sealB s).size) (kind : Int) : partv ((sealB s).extract 0 m) kind = none := by
  refine partv_none ?_ kind
  rw [topen_cut (seal_small h).1 hm]
  decide
theorem partv_empty (kind : Int) : partv (⟨#[]⟩ : ByteArray) kind = none := by
  have h := partv_cut (⟨#[101]⟩ : ByteArray) (by rw [one_size]; omega) 0 (by have := (seal_small (s := (⟨#[101]⟩ : ByteArray)) (by rw [one_size]; omega)).2.2; omega) kind
  have e : (sealB (⟨#[101]⟩ : ByteArray)).extract 0 0 = (⟨#[]⟩ : ByteArray) := nb_ext (by rw [nb_extract, Nat.sub_self, List.take_zero]; rfl)
  rw [e] at h
  exact h
/-- the head -/
def headp (a : ByteArray) : Option (Int × Int × ByteArray) := match partv a 104 with
  | none => none
  | some (s, left) => if (tnumR s).2.2 = 0 ∧ (tnumR (tnumR s).2.1).2.2 = 0 ∧ (tnumR (tnumR s).2.1).2.1.toList = ([] : List UInt8) ∧ numb (tnumR s).1 = true ∧ numb (tnumR (tnumR s).2.1).1 = true then some ((tnumR s).1, (tnumR (tnumR s).2.1).1, left) else none
theorem head_read (a : ByteArray) (k : Nat) (hk : 30 ≤ k) : chunk_Read.head k a = some (headp a) := by
  unfold chunk_Read.head headp
  rw [part_at a 104 k hk, Option.bind_some]
  cases e : partv a 104 with
  | none => rfl
  | some p =>
    obtain ⟨s, left⟩ := p
    simp only
    rw [wire_take_at s k (by omega), Option.bind_some, wire_take_at _ k (by omega), Option.bind_some]
/-- the packets -/
def loopv : Nat → ByteArray → ByteArray → ByteArray × ByteArray
  | 0, r, d => (r, d)
  | m + 1, r, d => match partv r 100 with
    | none => (r, d)
    | some (s, left) => if s.toList ≠ ([] : List UInt8) ∧ d.size + s.size ≤ 64 then loopv m left (d ++ s) else (r, d)
theorem loop_read (k : Nat) (hk : 30 ≤ k) : ∀ m r d, d.size ≤ 64 → 65 - d.size ≤ m → chunk_Read.loop k m r d = some (loopv m r d)
  | 0, r, d, h1, h2 => absurd h2 (by omega)
  | m + 1, r, d, h1, h2 => by
    rw [chunk_Read.loop, loopv, part_at r 100 k hk, Option.bind_some]
    cases e : partv r 100 with
    | none => rfl
    | some p =>
      obtain ⟨s, left⟩ := p
      have hz := partv_size e
      simp only
      rw [if_pos (by omega)]
      by_cases c : s.toList ≠ ([] : List UInt8) ∧ d.size + s.size ≤ 64
      · have hp := size_pos_of c.1
        rw [if_pos c, if_pos c]
        exact loop_read k hk m left (d ++ s) (by rw [ByteArray.size_append]; exact c.2) (by rw [ByteArray.size_append]; omega)
      · rw [if_neg c, if_neg c]
/-- behind the packets -/
def endv (id gen : Int) (rd : ByteArray × ByteArray) : Int × Int × Int × Bool × ByteArray × Bool × Int := match partv rd.1 101 with
  | none => (id, gen, (rd.2.size : Int), false, rd.2, (rd.1.toList == ([] : List UInt8)), 0)
  | some (s, left2) => if s.toList = ([] : List UInt8) then (id, gen, (rd.2.size : Int), true, rd.2, (left2.toList == ([] : List UInt8)), 0) else (id, gen, (rd.2.size : Int), false, rd.2, (rd.1.toList == ([] : List UInt8)), 0)
/-- what a file says -/
def readv (a : ByteArray) : Int × Int × Int × Bool × ByteArray × Bool × Int := match headp a with
  | none => (0, 0, 0, false, (⟨#[]⟩ : ByteArray), false, 2)
  | some (id, gen, left) => endv id gen (loopv 70 left (⟨#[]⟩ : ByteArray))
theorem read_at (a : ByteArray) : chunk_Read.f a = some (readv a) := by
  unfold chunk_Read.f readv
  rw [show chunk_Read.fuel = 40 from rfl, head_read a 40 (by omega), Option.bind_some]
  cases e : headp a with
  | none => rfl
  | some p =>
    obtain ⟨id, gen, left⟩ := p
    simp only
    rw [show chunk_Read.rounds = 70 from rfl, loop_read 40 (by omega) 70 left ⟨#[]⟩ (by decide) (by decide), Option.bind_some, part_at _ 101 40 (by omega), Option.bind_some]
    unfold endv
    cases partv (loopv 70 left (⟨#[]⟩ : ByteArray)).1 101 with
    | none => rfl
    | some q =>
      obtain ⟨s, left2⟩ := q
      simp only
      split <;> rfl
end Go.Proofs.Ytljllecpmllefaa.Sp
end

section

namespace Go.Proofs.Ytljllecpmllefaa.Sp
open Go.RowKit Go.Proofs.YtljllecpmllefaaW.PrintWords Go.Proofs.YtljllecpmllefaaW.PrintLast Go.Proofs.YtljllecpmllefaaW.PrintMore Go.Proofs.Ytljllecpmllefaa.P
set_option linter.unusedVariables false

/-- packets, one behind the other -/
def packs : List ByteArray → ByteArray
  | [] => ⟨#[]⟩
  | p :: ds => sealB (dB p) ++ packs ds
/-- their bytes -/
def joinB : List ByteArray → ByteArray
  | [] => ⟨#[]⟩
  | p :: ds => p ++ joinB ds
theorem app_nil (a : ByteArray) : a ++ (⟨#[]⟩ : ByteArray) = a := ByteArray.append_empty
theorem nil_app (a : ByteArray) : (⟨#[]⟩ : ByteArray) ++ a = a := ByteArray.empty_append
theorem packs_snoc (p : ByteArray) : ∀ ds, packs (ds ++ [p]) = packs ds ++ sealB (dB p)
  | [] => by
    show sealB (dB p) ++ (⟨#[]⟩ : ByteArray) = (⟨#[]⟩ : ByteArray) ++ sealB (dB p)
    rw [app_nil, nil_app]
  | q :: ds => by rw [List.cons_append, packs, packs_snoc p ds, packs, ByteArray.append_assoc]
theorem joinB_snoc (p : ByteArray) : ∀ ds, joinB (ds ++ [p]) = joinB ds ++ p
  | [] => by
    show p ++ (⟨#[]⟩ : ByteArray) = (⟨#[]⟩ : ByteArray) ++ p
    rw [app_nil, nil_app]
  | q :: ds => by rw [List.cons_append, joinB, joinB_snoc p ds, joinB, ByteArray.append_assoc]
def endF (f : Bool) : ByteArray := if f = true then endB else ⟨#[]⟩
def GoodP (ds : List ByteArray) : Prop := ∀ p ∈ ds, p.toList ≠ ([] : List UInt8)
theorem nil_size : (⟨#[]⟩ : ByteArray).size = 0 := rfl
theorem ext_full (s : ByteArray) (m : Nat) (h : s.size ≤ m) : s.extract 0 m = s := by
  refine nb_ext ?_
  rw [nb_extract, List.drop_zero, Nat.sub_zero, List.take_of_length_le (by rw [nb_size]; exact h)]
theorem end_full (kind : Int) (r : ByteArray) : partv (endB ++ r) kind = if (101 : Int) = kind then some (⟨#[]⟩, r) else none := by
  have h := partv_seal 101 ⟨#[]⟩ r (by rw [nil_size]; omega) kind
  rw [app_nil] at h
  exact h
theorem end_cut (m : Nat) (hm : m < endB.size) (kind : Int) : partv (endB.extract 0 m) kind = none := partv_cut _ (by rw [one_size]; omega) m hm kind
/-- what the loop leaves of packets and an end that are cut off -/
theorem loop_file (f : Bool) : ∀ (ds : List ByteArray) (k m : Nat) (d : ByteArray), GoodP ds → d.size + (joinB ds).size ≤ 64 → 65 - d.size ≤ k →
    ∃ r d', loopv k ((packs ds ++ endF f).extract 0 m) d = (r, d') ∧ d'.size ≤ (d ++ joinB ds).size ∧ (d ++ joinB ds).extract 0 d'.size = d' ∧ (∀ s l, partv r 101 = some (s, l) → s = ⟨#[]⟩ ∧ l = ⟨#[]⟩ ∧ (packs ds ++ endF f).size ≤ m ∧ f = true) ∧
      ((packs ds ++ endF f).size ≤ m → d' = d ++ joinB ds ∧ r = endF f)
  | [], k, m, d, hg, hz, hk => by
    obtain ⟨k, rfl⟩ : ∃ q, k = q + 1 := ⟨k - 1, by rw [joinB, nil_size] at hz; omega⟩
    rw [packs, nil_app, joinB, app_nil]
    have n100 : partv ((endF f).extract 0 m) 100 = none ∧ (∀ s l, partv ((endF f).extract 0 m) 101 = some (s, l) → s = ⟨#[]⟩ ∧ l = ⟨#[]⟩ ∧ (endF f).size ≤ m ∧ f = true) := by
      unfold endF
      cases f with
      | false =>
        rw [if_neg (by decide), ext_full _ m (by rw [nil_size]; omega)]
        exact ⟨partv_empty 100, fun s l h => by rw [partv_empty] at h; cases h⟩
      | true =>
        rw [if_pos rfl]
        by_cases c : m < endB.size
        · exact ⟨end_cut m c 100, fun s l h => by rw [end_cut m c] at h; cases h⟩
        · rw [ext_full _ m (by omega)]
          have h1 := end_full 100 ⟨#[]⟩
          have h2 := end_full 101 ⟨#[]⟩
          rw [app_nil] at h1 h2
          rw [h1, h2, if_neg (by decide), if_pos rfl]
          refine ⟨rfl, fun s l h => ?_⟩
          have h := Option.some.inj h
          simp only [Prod.mk.injEq] at h
          exact ⟨h.1.symm, h.2.symm, by omega, rfl⟩
    refine ⟨(endF f).extract 0 m, d, ?_, Nat.le_refl _, ext_full d _ (Nat.le_refl _), n100.2, fun h => ⟨rfl, ext_full _ m h⟩⟩
    rw [loopv, n100.1]
  | p :: ds, k, m, d, hg, hz, hk => by
    have hp := hg p (List.mem_cons_self ..)
    have hp1 := size_pos_of hp
    rw [joinB, ByteArray.size_append] at hz
    obtain ⟨k, rfl⟩ : ∃ q, k = q + 1 := ⟨k - 1, by omega⟩
    rw [packs, joinB, ByteArray.append_assoc]
    by_cases c : m < (sealB (dB p)).size
    · rw [cut_low _ _ (by omega)]
      have hn : ∀ kind, partv ((sealB (dB p)).extract 0 m) kind = none := fun kind => partv_cut _ (by rw [dB_size]; omega) m c kind
      refine ⟨(sealB (dB p)).extract 0 m, d, by rw [loopv, hn], by rw [ByteArray.size_append]; omega, ?_, fun s l h => (by rw [hn] at h; cases h), fun h => (by rw [ByteArray.size_append] at h; omega)⟩
      rw [cut_low _ _ (Nat.le_refl _)]
      exact ext_full d _ (Nat.le_refl _)
    · have e := partv_seal 100 p ((packs ds ++ endF f).extract 0 (m - (sealB (dB p)).size)) (by omega) 100
      rw [if_pos (show (((100 : UInt8).toNat : Nat) : Int) = 100 from rfl)] at e
      rw [cut_high _ _ (by omega)]
      obtain ⟨r, d', h1, h2, h3, h4, h5⟩ := loop_file f ds k (m - (sealB (dB p)).size) (d ++ p) (fun q hq => hg q (List.mem_cons_of_mem _ hq)) (by rw [ByteArray.size_append]; omega) (by rw [ByteArray.size_append]; omega)
      rw [ByteArray.append_assoc] at h2 h3 h5
      refine ⟨r, d', ?_, h2, h3, fun s l h => ?_, fun h => h5 (by rw [ByteArray.size_append] at h; omega)⟩
      · rw [loopv]
        show (match partv (sealB ((⟨#[100]⟩ : ByteArray) ++ p) ++ (packs ds ++ endF f).extract 0 (m - (sealB (dB p)).size)) 100 with
          | none => _
          | some (s, left) => if s.toList ≠ ([] : List UInt8) ∧ d.size + s.size ≤ 64 then loopv k left (d ++ s) else _) = _
        rw [e]
        simp only
        rw [if_pos ⟨hp, by omega⟩]
        exact h1
      · obtain ⟨a1, a2, a3, a4⟩ := h4 s l h
        exact ⟨a1, a2, by rw [ByteArray.size_append]; omega, a4⟩
theorem tnumR_num {n : Int} (h : numb n = true) (r : ByteArray) : tnumR (num n ++ r) = (n, r, 0) := by
  have := numb_range h
  unfold tnumR
  rw [tnum_num (by omega) r]
/-- the head of a file is read -/
theorem headp_full {id gen : Int} (h1 : numb id = true) (h2 : numb gen = true) (r : ByteArray) : headp (sealB (hB id gen) ++ r) = some (id, gen, r) := by
  have hz := hB_size h1 h2
  have e := partv_seal 104 (num id ++ num gen) r (by unfold hB at hz; rw [ByteArray.append_assoc, ByteArray.size_append, one_size] at hz; omega) 104
  rw [if_pos (show (((104 : UInt8).toNat : Nat) : Int) = 104 from rfl), ← ByteArray.append_assoc] at e
  have t1 := tnumR_num h1 (num gen)
  have t2 := tnumR_num h2 (⟨#[]⟩ : ByteArray)
  rw [app_nil] at t2
  unfold headp
  show (match partv (sealB (((⟨#[104]⟩ : ByteArray) ++ num id) ++ num gen) ++ r) 104 with
    | none => _
    | some (s, left) => _) = _
  rw [e]
  simp only
  rw [t1, t2]
  simp only
  rw [if_pos ⟨trivial, trivial, (by rw [ByteArray.toList_eq]), h1, h2⟩]
theorem headp_cut {id gen : Int} (h1 : numb id = true) (h2 : numb gen = true) (r : ByteArray) (m : Nat) (hm : m < (sealB (hB id gen)).size) : headp ((sealB (hB id gen) ++ r).extract 0 m) = none := by
  have hz := hB_size h1 h2
  unfold headp
  rw [cut_low _ _ (by omega), partv_cut _ (by omega) m hm]
/-- a file of packets, cut off behind the head -/
theorem read_cut {id gen : Int} (h1 : numb id = true) (h2 : numb gen = true) (ds : List ByteArray) (f : Bool) (hg : GoodP ds) (hz : (joinB ds).size ≤ 64) (m : Nat) (hm : (sealB (hB id gen)).size ≤ m) :
    ∃ d' fin whole, readv ((sealB (hB id gen) ++ (packs ds ++ endF f)).extract 0 m) = (id, gen, (d'.size : Int), fin, d', whole, 0) ∧ d'.size ≤ (joinB ds).size ∧ (joinB ds).extract 0 d'.size = d' ∧ (fin = true → (sealB (hB id gen) ++ (packs ds ++ endF f)).size ≤ m) ∧
      ((sealB (hB id gen) ++ (packs ds ++ endF f)).size ≤ m → d' = joinB ds ∧ fin = f ∧ whole = true) := by
  obtain ⟨r, d', e1, e2, e3, e4, e5⟩ := loop_file f ds 70 (m - (sealB (hB id gen)).size) ⟨#[]⟩ hg (by rw [nil_size]; omega) (by decide)
  rw [nil_app] at e2 e3 e5
  have hsz : ∀ q : Nat, (packs ds ++ endF f).size ≤ m - (sealB (hB id gen)).size ↔ (sealB (hB id gen) ++ (packs ds ++ endF f)).size ≤ m := by intro q; rw [ByteArray.size_append (b := packs ds ++ endF f)]; omega
  have hend : (packs ds ++ endF f).size ≤ m - (sealB (hB id gen)).size → partv r 101 = if f = true then some (⟨#[]⟩, ⟨#[]⟩) else none := by
    intro h
    rw [(e5 h).2]
    unfold endF
    cases f with
    | false => rw [if_neg (by decide), if_neg (by decide), partv_empty]
    | true =>
      rw [if_pos rfl, if_pos rfl]
      have h2 := end_full 101 ⟨#[]⟩
      rw [app_nil, if_pos rfl] at h2
      exact h2
  have nilb : ((⟨#[]⟩ : ByteArray).toList == ([] : List UInt8)) = true := by rw [ByteArray.toList_eq]; rfl
  have hread : readv ((sealB (hB id gen) ++ (packs ds ++ endF f)).extract 0 m) = endv id gen (r, d') := by
    unfold readv
    rw [cut_high _ _ hm, headp_full h1 h2]
    simp only
    rw [e1]
  rw [hread]
  unfold endv
  cases e : partv r 101 with
  | none =>
    refine ⟨d', false, (r.toList == ([] : List UInt8)), by simp only, e2, e3, fun q => (by cases q), fun h => ?_⟩
    have h' := (hsz 0).2 h
    have hd := hend h'
    rw [e] at hd
    cases f with
    | true => rw [if_pos rfl] at hd; cases hd
    | false =>
      refine ⟨(e5 h').1, rfl, ?_⟩
      rw [(e5 h').2]
      exact nilb
  | some q =>
    obtain ⟨s, l⟩ := q
    obtain ⟨a1, a2, a3, a4⟩ := e4 s l e
    subst a1 a2 a4
    refine ⟨d', true, true, ?_, e2, e3, fun _ => (hsz 0).1 a3, fun h => ⟨(e5 a3).1, rfl, rfl⟩⟩
    simp only
    rw [if_pos (by rw [ByteArray.toList_eq]), nilb]
end Go.Proofs.Ytljllecpmllefaa.Sp
end

section

namespace Go.Proofs.Ytljllecpmllefaa.Sp
open Go.RowKit Go.Proofs.YtljllecpmllefaaW.PrintWords Go.Proofs.YtljllecpmllefaaW.PrintLast Go.Proofs.YtljllecpmllefaaW.PrintMore Go.Proofs.Ytljllecpmllefaa.P Go.Proofs.Ytljllecpmllefaa.Crc
set_option linter.unusedVariables false

theorem xor_u8 {y m : Int} (hy : 0 ≤ y ∧ y < 256) (hm : 1 ≤ m ∧ m < 256) : (0 ≤ Go.bits .xor .u8 y m ∧ Go.bits .xor .u8 y m < 256) ∧ Go.bits .xor .u8 y m ≠ y := by
  rw [u8_xor y m hy.1 hy.2 (by omega) (by omega)]
  have h1 : y.toNat ^^^ m.toNat < 2 ^ 8 := Nat.xor_lt_two_pow (by omega) (by omega)
  have h2 : y.toNat ^^^ m.toNat ≠ y.toNat := by
    intro h
    have : (y.toNat ^^^ m.toNat) ^^^ y.toNat = 0 := by rw [h, Nat.xor_self]
    rw [Nat.xor_comm y.toNat, Nat.xor_assoc, Nat.xor_self, Nat.xor_zero] at this
    omega
  refine ⟨⟨?_, ?_⟩, ?_⟩
  · show 0 ≤ ((y.toNat ^^^ m.toNat : Nat) : Int); omega
  · show ((y.toNat ^^^ m.toNat : Nat) : Int) < 256; omega
  · show ((y.toNat ^^^ m.toNat : Nat) : Int) ≠ y; omega
theorem bitOf_range {r : Int} (h0 : 0 ≤ r) (h1 : r < 8) : 1 ≤ bitOf r ∧ bitOf r < 256 := by
  rcases (show r = 0 ∨ r = 1 ∨ r = 2 ∨ r = 3 ∨ r = 4 ∨ r = 5 ∨ r = 6 ∨ r = 7 by omega) with rfl | rfl | rfl | rfl | rfl | rfl | rfl | rfl <;> decide +kernel
theorem by_get {l : List Int} (h : By l) {i : Nat} (hi : i < l.length) : 0 ≤ l.getD i 0 ∧ l.getD i 0 < 256 := by
  refine h _ ?_
  rw [List.getD_eq_getElem?_getD, List.getElem?_eq_getElem hi]
  exact List.getElem_mem hi
theorem bytes_turn (b : ByteArray) {i : Nat} {m : Int} (hi : i < b.size) (hm : 1 ≤ m ∧ m < 256) : bytesOf (turnAt b i m) = (bytesOf b).set i (Go.bits .xor .u8 ((bytesOf b).getD i 0) m) := by
  refine bytesOf_strOfNums ?_
  intro x hx
  rcases List.mem_or_eq_of_mem_set hx with h | rfl
  · exact by_bytesOf b x h
  · exact (xor_u8 (by_get (by_bytesOf b) (by rw [bytesOf_size]; exact hi)) hm).1
theorem turn_size (b : ByteArray) {i : Nat} {m : Int} (hi : i < b.size) (hm : 1 ≤ m ∧ m < 256) : (turnAt b i m).size = b.size := by
  rw [← bytesOf_size, bytes_turn b hi hm, List.length_set, bytesOf_size]
theorem turn_left (a b : ByteArray) {i : Nat} {m : Int} (hi : i < a.size) (hm : 1 ≤ m ∧ m < 256) : turnAt (a ++ b) i m = turnAt a i m ++ b := by
  refine bytes_ext ?_
  have hl : i < (bytesOf a).length := by rw [bytesOf_size]; exact hi
  rw [bytes_turn _ (by rw [ByteArray.size_append]; omega) hm, bytesOf_append, bytesOf_append, bytes_turn a hi hm, List.set_append_left _ _ hl, List.getD_eq_getElem?_getD, List.getElem?_append_left hl, List.getD_eq_getElem?_getD]
theorem turn_right (a b : ByteArray) {i : Nat} {m : Int} (hi : i < b.size) (hm : 1 ≤ m ∧ m < 256) : turnAt (a ++ b) (a.size + i) m = a ++ turnAt b i m := by
  refine bytes_ext ?_
  have hl : (bytesOf a).length ≤ a.size + i := by rw [bytesOf_size]; omega
  have he : a.size + i - (bytesOf a).length = i := by rw [bytesOf_size]; omega
  rw [bytes_turn _ (by rw [ByteArray.size_append]; omega) hm, bytesOf_append, bytesOf_append, bytes_turn b hi hm, List.set_append_right _ _ hl, List.getD_eq_getElem?_getD, List.getElem?_append_right hl, List.getD_eq_getElem?_getD, he]
theorem turn_at (b : ByteArray) {i : Nat} {m : Int} (hi : i < b.size) (hm : 1 ≤ m ∧ m < 256) : ∃ x y : Nat, x < 256 ∧ y < 256 ∧ x ≠ y ∧ nb b = (nb b).take i ++ [y] ++ (nb b).drop (i + 1) ∧ nb (turnAt b i m) = (nb b).take i ++ [x] ++ (nb b).drop (i + 1) := by
  have hl : i < (bytesOf b).length := by rw [bytesOf_size]; exact hi
  have hy := by_get (by_bytesOf b) hl
  have hx := xor_u8 hy hm
  have hn : i < (nb b).length := by rw [nb_size]; exact hi
  refine ⟨(Go.bits .xor .u8 ((bytesOf b).getD i 0) m).toNat, ((bytesOf b).getD i 0).toNat, by omega, by omega, by omega, ?_, ?_⟩
  · rw [nb_bytesOf, ← List.map_take, ← List.map_drop, ← List.map_singleton (f := Int.toNat), ← List.map_append, ← List.map_append]
    congr 1
    rw [List.append_assoc, List.singleton_append, List.getD_eq_getElem?_getD, List.getElem?_eq_getElem hl]
    simp
  · rw [nb_bytesOf, bytes_turn b hi hm, nb_bytesOf b, ← List.map_take, ← List.map_drop, ← List.map_singleton (f := Int.toNat), ← List.map_append, ← List.map_append]
    congr 1
    rw [List.set_eq_take_append_cons_drop, if_pos hl, List.append_assoc, List.singleton_append]
theorem turn_ne (b : ByteArray) {i : Nat} {m : Int} (hi : i < b.size) (hm : 1 ≤ m ∧ m < 256) : turnAt b i m ≠ b := by
  have hl : i < (bytesOf b).length := by rw [bytesOf_size]; exact hi
  have hx := (xor_u8 (by_get (by_bytesOf b) hl) hm).2
  intro e
  have h := bytes_turn b hi hm
  rw [e] at h
  have h2 := congrArg (fun l => l.getD i 0) h
  simp only [List.getD_eq_getElem?_getD, List.getElem?_set_self hl, Option.getD_some] at h2 hx
  exact hx h2.symm
theorem csum_turn (b : ByteArray) {i : Nat} {m : Int} (hi : i < b.size) (hm : 1 ≤ m ∧ m < 256) : csum (turnAt b i m) ≠ csum b := by
  obtain ⟨x, y, hx, hy, hne, h1, h2⟩ := turn_at b hi hm
  have hb := nb_lt b
  intro e
  unfold csum at e
  rw [h2] at e
  have h3 : crc (nb b) = crc ((nb b).take i ++ [y] ++ (nb b).drop (i + 1)) := congrArg crc h1
  rw [h3] at e
  have := crc_burst _ [x] [y] _ (fun c hc => hb c (List.mem_of_mem_take hc)) (by simpa using hx) (by simpa using hy) (fun c hc => hb c (List.mem_of_mem_drop hc)) rfl (by simp) e
  simp at this
  exact hne this
theorem four_head (f r : ByteArray) (h : f.size = 4) : (f ++ r).extract 0 4 = f := by
  refine nb_ext ?_
  rw [nb_extract, nb_append, List.drop_zero, Nat.sub_zero, List.take_left' (by rw [nb_size, h])]
/-- one byte turned, of the text or of its sum: told -/
theorem topen_turn {s b : ByteArray} (h : seal_ s = some b) (r : ByteArray) {q : Nat} {m : Int} (hq : q < s.size + 4) (hm : 1 ≤ m ∧ m < 256) : topen (turnAt b ((num s.size).size + q) m ++ r) = (⟨#[]⟩, ⟨#[]⟩, 3) := by
  obtain ⟨hs, rfl⟩ := seal_form h
  have hf := four_size' s
  rw [turn_right _ _ (by rw [ByteArray.size_append]; omega) hm]
  unfold topen
  rcases Nat.lt_or_ge q s.size with c | c
  · have hz := turn_size s c hm
    rw [turn_left _ _ c hm]
    have ht := text_num (s := turnAt s q m) (by omega)
    rw [hz] at ht
    rw [← ByteArray.append_assoc, ByteArray.append_assoc, ttext_text ht]
    simp only
    rw [if_neg (by rw [ByteArray.size_append]; omega), four_head _ _ hf, if_neg (fun e => csum_turn s c hm (four_inj (csum_lt _) (csum_lt _) e.symm))]
  · obtain ⟨p, rfl⟩ : ∃ p, q = s.size + p := ⟨q - s.size, by omega⟩
    have hz := turn_size (four (csum s)) (i := p) (by omega) hm
    rw [turn_right _ _ (by omega) hm, ← ByteArray.append_assoc, ByteArray.append_assoc, ttext_text (text_num hs)]
    simp only
    rw [if_neg (by rw [ByteArray.size_append]; omega), four_head _ _ (by omega), if_neg (turn_ne _ (by omega) hm)]
end Go.Proofs.Ytljllecpmllefaa.Sp
end
