/- The law ChunkBack over plain functions: what was written as packets, or as a whole, is read as it was; what is cut off tells the beginning of it. For every two numbers, every list of texts (the first ten), every flag and every int. -/
import Derived.Test.YtljllecpmllefaaCkD
import Derived.Test.YtljllecpmllefaaPx22
namespace Go.Proofs.Ytljllecpmllefaa.Pure
open Go.RowKit Go.Proofs.Ytljllecpmllefaa.Sp Go.Proofs.YtljllecpmllefaaW.PrintWords Go.Proofs.YtljllecpmllefaaW.PrintLast Go.Proofs.YtljllecpmllefaaW.PrintMore Go.Proofs.Ytljllecpmllefaa.P
set_option linter.unusedVariables false

theorem wr {x : Int} (h0 : -9223372036854775808 ≤ x) (h1 : x ≤ 9223372036854775807) : wrap64 x = x := by unfold wrap64; omega
theorem int_range {n : Int} (h : (Lit.int .i64 n).wf = true) : -9223372036854775808 ≤ n ∧ n ≤ 9223372036854775807 := by
  simpa [Lit.wf, IntKind.min, IntKind.max, IntKind.signed, IntKind.bits] using h
theorem packs_size : ∀ ds : List ByteArray, GoodP ds → (packs ds).size ≤ 17 * (joinB ds).size
  | [], _ => Nat.zero_le _
  | p :: ds, hg => by
    have ih := packs_size ds (fun q hq => hg q (List.mem_cons_of_mem _ hq))
    have hp := size_pos_of (hg p (List.mem_cons_self ..))
    rw [packs, joinB, ByteArray.size_append, ByteArray.size_append]
    by_cases c : p.size ≤ 3999
    · have := (seal_small (s := dB p) (by rw [dB_size]; omega)).2.1
      rw [dB_size] at this
      omega
    · have e : (sealB (dB p)).size = 0 := by
        unfold sealB seal_ text
        rw [if_pos (by rw [dB_size]; omega)]
        rfl
      omega
/-- the numbers that were written are read -/
theorem read_whole {id gen : Int} (h1 : numb id = true) (h2 : numb gen = true) (ds : List ByteArray) (f : Bool) (hg : GoodP ds) (hz : (joinB ds).size ≤ 64) : readv (sealB (hB id gen) ++ (packs ds ++ endF f)) = (id, gen, ((joinB ds).size : Int), f, joinB ds, true, 0) := by
  obtain ⟨d', fin, whole, e, _, _, _, e5⟩ := read_cut h1 h2 ds f hg hz (sealB (hB id gen) ++ (packs ds ++ endF f)).size (by rw [ByteArray.size_append]; omega)
  obtain ⟨rfl, rfl, rfl⟩ := e5 (Nat.le_refl _)
  rw [ext_full _ _ (Nat.le_refl _)] at e
  exact e
theorem readv_headcut {id gen : Int} (h1 : numb id = true) (h2 : numb gen = true) (r : ByteArray) (m : Nat) (hm : m < (sealB (hB id gen)).size) : readv ((sealB (hB id gen) ++ r).extract 0 m) = (0, 0, 0, false, (⟨#[]⟩ : ByteArray), false, 2) := by
  unfold readv
  rw [headp_cut h1 h2 r m hm]
theorem back_core {id gen : Int} (h1 : numb id = true) (h2 : numb gen = true) (ds : List ByteArray) (f : Bool) (hg : GoodP ds) (hz : (joinB ds).size ≤ 64) (F : ByteArray) (hF : F = sealB (hB id gen) ++ (packs ds ++ endF f)) (m : Nat) (hm : m ≤ F.size) :
    (if 0 ≤ ((m : Nat) : Int) then (if ((m : Nat) : Int) ≤ (F.size : Int) then ((chunk_Read.f (F.extract 0 (((m : Nat) : Int) : Int).toNat)).bind fun bt241 => (if ((F.extract 0 (((m : Nat) : Int) : Int).toNat).size : Int) < ((sealB (hB id gen)).size : Int) then (if true = true then (some (bt241.2.2.2.2.2.2 == 2)) else (some false)) else (if true = true then (if bt241.2.2.2.2.2.2 = 0 then (if (bt241.2.2.2.2.1.size : Int) ≤ ((joinB ds).size : Int) then (if 0 ≤ (bt241.2.2.2.2.1.size : Int) then (if ((joinB ds).extract 0 ((bt241.2.2.2.2.1.size : Int) : Int).toNat).toList = bt241.2.2.2.2.1.toList then (if bt241.2.2.1 = (bt241.2.2.2.2.1.size : Int) then (if bt241.2.2.2.1 = true then (some (((F.extract 0 (((m : Nat) : Int) : Int).toNat).size : Int) == (F.size : Int))) else (some true)) else (some false)) else (some false)) else (none)) else (some false)) else (some false)) else (some false)))) else (none)) else (none)) = some true := by
  have hc : (F.extract 0 m).size = m := cut_size F hm
  rw [if_pos (Int.natCast_nonneg m), if_pos (Int.ofNat_le.2 hm), Int.toNat_natCast, hc, read_at, Option.bind_some]
  by_cases c : m < (sealB (hB id gen)).size
  · rw [if_pos (Int.ofNat_lt.2 c), if_pos rfl, hF, readv_headcut h1 h2 _ m c]
    rfl
  · obtain ⟨d', fin, whole, e, e2, e3, e4, _⟩ := read_cut h1 h2 ds f hg hz m (Nat.le_of_not_lt c)
    rw [← hF] at e e4
    rw [if_neg (fun q => c (Int.ofNat_lt.1 q)), if_pos rfl, e]
    simp only
    rw [if_pos trivial, if_pos (Int.ofNat_le.2 e2), if_pos (Int.natCast_nonneg _), Int.toNat_natCast, e3, if_pos rfl, if_pos trivial]
    cases fin with
    | false => rw [if_neg (by decide)]
    | true =>
      have : m = F.size := Nat.le_antisymm hm (e4 rfl)
      rw [if_pos rfl, this, beq_self_eq_true]
theorem tmod_up (u n : Nat) : Int.tmod ((u : Nat) : Int) (((n + 1 : Nat)) : Int) = ((u % (n + 1) : Nat) : Int) := (Int.ofNat_tmod u (n + 1)).symm
theorem back_j4 {id gen : Int} (h1 : numb id = true) (h2 : numb gen = true) (ds : List ByteArray) (f : Bool) (hg : GoodP ds) (hz : (joinB ds).size ≤ 64) (F : ByteArray) (hF : F = sealB (hB id gen) ++ (packs ds ++ endF f)) (hs : F.size ≤ 2000) (cut : Int) (hcut : -9223372036854775808 ≤ cut ∧ cut ≤ 9223372036854775807) (k : Nat) :
    tabulariumlaw18_ChunkBack.j4 (k + 1) cut true (sealB (hB id gen)) F (joinB ds) false = some true := by
  have w1 : wrap64 ((F.size : Int) + 1) = ((F.size + 1 : Nat) : Int) := by rw [wr (by omega) (by omega)]; omega
  have ne : ¬ (((F.size + 1 : Nat) : Int) = 0) := by omega
  rw [tabulariumlaw18_ChunkBack.j4, if_neg (by decide), w1]
  by_cases c : cut < 0
  · have w2 : wrap64 (-(wrap64 (cut + 1))) = -(cut + 1) := by rw [wr (x := cut + 1) (by omega) (by omega), wr (by omega) (by omega)]
    obtain ⟨u, hu⟩ := Int.eq_ofNat_of_zero_le (show 0 ≤ -(cut + 1) by omega)
    rw [if_pos c, if_neg ne, w2, hu, tmod_up]
    exact back_core h1 h2 ds f hg hz F hF _ (Nat.le_of_lt_succ (Nat.mod_lt _ (Nat.succ_pos _)))
  · obtain ⟨u, hu⟩ := Int.eq_ofNat_of_zero_le (show 0 ≤ cut by omega)
    rw [if_neg c, if_neg ne, hu, tmod_up]
    exact back_core h1 h2 ds f hg hz F hF _ (Nat.le_of_lt_succ (Nat.mod_lt _ (Nat.succ_pos _)))
theorem nil_of {a : ByteArray} (h : a.toList = ([] : List UInt8)) : a = ⟨#[]⟩ := by
  rw [ByteArray.toList_eq] at h
  cases a with
  | mk d =>
    simp only at h
    congr 1
    exact Array.toList_eq_nil_iff.1 h
theorem wholev_packs {id gen : Int} (h1 : numb id = true) (h2 : numb gen = true) (data : ByteArray) (hz : data.size ≤ 64) (f : Bool) : ∃ ds, GoodP ds ∧ joinB ds = data ∧ wholev id gen data f = (sealB (hB id gen) ++ (packs ds ++ endF f), 0) := by
  have hh : headv id gen = (sealB (hB id gen), 0) := by unfold headv; rw [if_pos ⟨h1, h2⟩]
  have hfin : ∀ acc, finB acc f = acc ++ endF f := by
    intro acc
    unfold finB endF
    cases f with
    | false => rw [if_neg (by decide), if_neg (by decide), app_nil]
    | true => rw [if_pos rfl, if_pos rfl]
  unfold wholev
  rw [hh]
  simp only
  rw [if_pos trivial, if_neg (by omega)]
  by_cases c : data.toList = ([] : List UInt8)
  · refine ⟨[], fun p hp => by simp at hp, (nil_of c).symm, ?_⟩
    rw [if_pos c, hfin, packs, nil_app]
  · refine ⟨[data], fun p hp => ?_, by rw [joinB, joinB, app_nil], ?_⟩
    · obtain rfl := List.mem_singleton.1 hp; exact c
    · rw [if_neg c, hfin, packs, packs, app_nil, ByteArray.append_assoc]
theorem back_j3 {id gen : Int} (h1 : numb id = true) (h2 : numb gen = true) (ds : List ByteArray) (f : Bool) (hg : GoodP ds) (hz : (joinB ds).size ≤ 64) (cut : Int) (hcut : -9223372036854775808 ≤ cut ∧ cut ≤ 9223372036854775807) (k : Nat) (hk : 50 ≤ k) :
    tabulariumlaw18_ChunkBack.j3 (k + 1) id gen f cut true (sealB (hB id gen)) (sealB (hB id gen) ++ (packs ds ++ endF f)) (joinB ds) = some true := by
  obtain ⟨ds', hg', hj', hw⟩ := wholev_packs h1 h2 (joinB ds) hz f
  have r1 := read_whole h1 h2 ds f hg hz
  have r2 := read_whole h1 h2 ds' f hg' (by rw [hj']; exact hz)
  rw [hj'] at r2
  have hs : (sealB (hB id gen) ++ (packs ds ++ endF f)).size ≤ 2000 := by
    have a := (seal_small (s := hB id gen) (by have := hB_size h1 h2; omega)).2.1
    have b := packs_size ds hg
    have c := hB_size h1 h2
    have d := endB_size
    have e : (endF f).size ≤ 15 := by unfold endF; split; exact d; exact Nat.zero_le _
    rw [ByteArray.size_append, ByteArray.size_append]
    omega
  obtain ⟨q, rfl⟩ : ∃ q, k = q + 1 := ⟨k - 1, by omega⟩
  have j4 := back_j4 h1 h2 ds f hg hz _ rfl hs cut hcut q
  rw [tabulariumlaw18_ChunkBack.j3, read_at, Option.bind_some, whole_at id gen (joinB ds) f (q + 1) (by omega), Option.bind_some, hw, read_at, Option.bind_some, r1, r2]
  simp only [beq_self_eq_true, Bool.not_true, Bool.or_false]
  rw [if_neg (by decide), if_pos trivial, if_pos trivial, if_pos trivial, if_pos trivial, if_neg (by decide), if_pos trivial, if_pos trivial]
  exact j4
theorem back_l0 {id gen : Int} (h1 : numb id = true) (h2 : numb gen = true) (l2 : List ByteArray) (hl : ∀ p ∈ l2, p.size ≤ 140737488351232) (f : Bool) (cut : Int) (hcut : -9223372036854775808 ≤ cut ∧ cut ≤ 9223372036854775807) : ∀ r i (ds : List ByteArray) F, i + r = 10 → 4 * r + 200 ≤ F → GoodP ds → (joinB ds).size ≤ 64 →
    tabulariumlaw18_ChunkBack.l0 F id gen l2 f cut true (sealB (hB id gen)) (sealB (hB id gen) ++ packs ds) (joinB ds) ((i : Nat) : Int) = some true := by
  have fin : ∀ (i : Int) (ds : List ByteArray) F, 150 ≤ F → GoodP ds → (joinB ds).size ≤ 64 → tabulariumlaw18_ChunkBack.j1 F id gen l2 f cut true (sealB (hB id gen)) (sealB (hB id gen) ++ packs ds) (joinB ds) i false = some true := by
    intro i ds F hF hg hz
    obtain ⟨q, rfl⟩ : ∃ q, F = q + 1 + 1 := ⟨F - 2, by omega⟩
    have j3 := back_j3 h1 h2 ds f hg hz cut hcut q (by omega)
    have hs : (sealB (hB id gen) ++ packs ds).size ≤ 2000 := by
      have a := (seal_small (s := hB id gen) (by have := hB_size h1 h2; omega)).2.1
      have b := packs_size ds hg
      have c := hB_size h1 h2
      rw [ByteArray.size_append]
      omega
    have d := endB_size
    rw [tabulariumlaw18_ChunkBack.j1, if_neg (by decide)]
    cases f with
    | false =>
      rw [if_neg (by decide)]
      unfold endF at j3
      rw [if_neg (by decide), app_nil] at j3
      exact j3
    | true =>
      unfold endF at j3
      rw [if_pos rfl, ← ByteArray.append_assoc] at j3
      rw [if_pos rfl, end_at _ (by omega), Option.bind_some, if_pos (by omega)]
      exact j3
  intro r
  induction r with
  | zero =>
    intro i ds F hi hF hg hz
    obtain ⟨q, rfl⟩ : ∃ q, F = q + 1 := ⟨F - 1, by omega⟩
    rw [tabulariumlaw18_ChunkBack.l0]
    have e : decide (((i : Nat) : Int) < 10) = false := decide_eq_false (by omega)
    by_cases c : ((i : Nat) : Int) < (l2.length : Int)
    · rw [if_pos c, e]; exact fin _ ds q (by omega) hg hz
    · rw [if_neg c]; exact fin _ ds q (by omega) hg hz
  | succ r ih =>
    intro i ds F hi hF hg hz
    obtain ⟨q, rfl⟩ : ∃ q, F = q + 1 + 1 + 1 := ⟨F - 3, by omega⟩
    rw [tabulariumlaw18_ChunkBack.l0]
    by_cases c : ((i : Nat) : Int) < (l2.length : Int)
    · have c' : i < l2.length := Int.ofNat_lt.1 c
      have e : decide (((i : Nat) : Int) < 10) = true := decide_eq_true (by omega)
      have hrd : rdOf ByteArray.empty l2 ((i : Nat) : Int) = l2[i] := by
        unfold rdOf
        rw [Int.toNat_natCast, List.getD_eq_getElem?_getD, List.getElem?_eq_getElem c']
        rfl
      have hsz := hl l2[i] (List.getElem_mem c')
      have w1 : wrap64 (((i : Nat) : Int) + 1) = ((i + 1 : Nat) : Int) := by rw [wr (by omega) (by omega)]; omega
      rw [if_pos c, e, tabulariumlaw18_ChunkBack.j1, if_pos rfl, if_pos (Int.natCast_nonneg i), if_pos c, hrd]
      have skip : tabulariumlaw18_ChunkBack.j2 (q + 1) id gen l2 f cut true (sealB (hB id gen)) (sealB (hB id gen) ++ packs ds) (joinB ds) ((i : Nat) : Int) true = some true := by
        rw [tabulariumlaw18_ChunkBack.j2, if_pos rfl, w1]
        exact ih (i + 1) ds q (by omega) (by omega) hg hz
      by_cases c1 : l2[i].toList = ([] : List UInt8)
      · rw [if_pos c1]; exact skip
      · rw [if_neg c1, wr (by omega) (by omega)]
        by_cases c2 : ((joinB ds).size : Int) + (l2[i].size : Int) > 64
        · rw [decide_eq_true c2]; exact skip
        · have hp : packv l2[i] = (sealB (dB l2[i]), 0) := by unfold packv; rw [if_neg c1, if_neg (by omega)]
          have hs : (sealB (hB id gen) ++ packs ds).size ≤ 2000 := by
            have a := (seal_small (s := hB id gen) (by have := hB_size h1 h2; omega)).2.1
            have b := packs_size ds hg
            have c := hB_size h1 h2
            rw [ByteArray.size_append]
            omega
          have hs2 := (seal_small (s := dB l2[i]) (by rw [dB_size]; omega)).2.1
          rw [dB_size] at hs2
          rw [decide_eq_false c2, tabulariumlaw18_ChunkBack.j2, if_neg (by decide), if_pos (Int.natCast_nonneg i), if_pos c, hrd, packet_at _ q (by omega), Option.bind_some, hp]
          simp only
          rw [if_pos trivial, if_pos (by omega), if_pos (by omega), w1, ByteArray.append_assoc, ← packs_snoc, ← joinB_snoc]
          exact ih (i + 1) (ds ++ [l2[i]]) q (by omega) (by omega) (fun p hp' => by
            rcases List.mem_append.1 hp' with m | m
            · exact hg p m
            · obtain rfl := List.mem_singleton.1 m; exact c1) (by rw [joinB_snoc, ByteArray.size_append]; omega)
    · rw [if_neg c]
      exact fin _ ds _ (by omega) hg hz
theorem ChunkBack : tabulariumlaw18_ChunkBack.Pure := by
  intro id gen l2 f cut w0 w1 w2 w3 w4 w5
  refine ⟨400, ?_⟩
  have hcut := int_range w5
  unfold tabulariumlaw18_ChunkBack.f
  rw [examples_at 400 (by omega), Option.bind_some, head_at id gen 400 (by omega), Option.bind_some]
  by_cases h : numb id = true ∧ numb gen = true
  · have hh : headv id gen = (sealB (hB id gen), 0) := by unfold headv; rw [if_pos h]
    rw [hh, if_pos rfl]
    have := back_l0 h.1 h.2 l2 w4 f cut hcut 10 0 [] 400 (by omega) (by omega) (fun p hp => by simp at hp) (by rw [joinB]; exact Nat.zero_le _)
    rw [packs, joinB, app_nil] at this
    exact this
  · have hh : headv id gen = (⟨#[]⟩, 1) := by unfold headv; rw [if_neg h]
    rw [hh, if_neg (show ¬ ((1 : Int) = 0) by decide), if_pos rfl]
    simp only
    rw [ByteArray.toList_eq]
    rfl
end Go.Proofs.Ytljllecpmllefaa.Pure
