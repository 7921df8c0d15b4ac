/- RetryApart: what one client forgets the others keep. -/
import Derived.Test.YtjailboidlmadaaRtQ
import Derived.Test.YtjailboidlmadaaRtP
namespace Go.Proofs.Ytjailboidlmadaa.P
open Go.RowKit Go.Maps Go.WideMaps Go.Proofs.YtjailboidlmadaaW.PrintWords Go.Proofs.YtjailboidlmadaaW.PrintLast Go.Proofs.YtjailboidlmadaaW.PrintMore
attribute [local go_sem] max2_int min2_int max_two min_two max_three min_three max_four min_four
set_option linter.unusedVariables false
set_option linter.unusedSimpArgs false
variable {W : World} {B N bm : Nat} {D : Nat → Prop} {sl : Value} {DM : DataW Value} {os : List (Int × Int)} {es : List Ent}
theorem forget_st {W : World} {B N : Nat} {D : Nat → Prop} {es : List Ent} (h : StD W B D N es) (hlen : es.length ≤ 1000000) (cl b : Int) :
    Calls Try.prog 17 #[.pointer (some ⟨B, 0, none⟩), .int .i64 cl, .int .i64 b] W fun e w' => e = .returned (.tuple #[]) ∧ StD w' B D N (keepE cl b es) ∧ Gr D W w' := by
  obtain ⟨bm, sl, DM, hm⟩ := h.st
  refine (forget_m hm h.lt hlen cl b).mono ?_
  rintro e w' ⟨rfl, hs, hg⟩
  exact ⟨rfl, ⟨hs, fun i hi => Nat.lt_of_lt_of_le (h.lt i hi) hg.size⟩, hg⟩
def kA (n p : Nat) : Nat := p % 2
def kB (n p : Nat) : Nat := p % (2 * n) / 2
theorem ap_all : ((List.range 10).all fun n => (List.range 40).all fun p => (List.range 40).all fun q => !(decide (p - 2 * n ≤ q) && decide (q < p) && (kA n q == kA n p) && (kB n q == kB n p)) || (decide (2 * n ≤ p) && (q == p - 2 * n))) = true := by kernel_rfl
theorem ap_self : ((List.range 10).all fun n => (List.range 40).all fun p => !(decide (2 * n ≤ p)) || ((kA n (p - 2 * n) == kA n p) && (kB n (p - 2 * n) == kB n p))) = true := by kernel_rfl
theorem ap_form : ((List.range 10).all fun n => (List.range 2).all fun t => (List.range n).all fun i => (List.range 2).all fun k => (kA n (t * (2 * n) + 2 * i + k) == k) && (kB n (t * (2 * n) + 2 * i + k) == i) && ((t * (2 * n) + 2 * i + k) / (2 * n) == t)) = true := by kernel_rfl
theorem ap_count : ((List.range 10).all fun n => (List.range 12).all fun b => (((List.range (4 * n)).drop (2 * n)).filter fun p => !oldK 0 (b : Int) ((kA n p : Int), (kB n p : Int))).length == n + (n - b)) = true := by kernel_rfl
theorem ap_key {n p q : Nat} (hn : n < 10) (hp : p < 40) (h1 : p - 2 * n ≤ q) (h2 : q < p) (e1 : kA n q = kA n p) (e2 : kB n q = kB n p) : 2 * n ≤ p ∧ q = p - 2 * n := by
  have h := List.all_eq_true.1 (List.all_eq_true.1 (List.all_eq_true.1 ap_all n (List.mem_range.2 hn)) p (List.mem_range.2 hp)) q (List.mem_range.2 (by omega))
  simpa [h1, h2, e1, e2] using h
theorem ap_same {n p : Nat} (hn : n < 10) (hp : p < 40) (h1 : 2 * n ≤ p) : kA n (p - 2 * n) = kA n p ∧ kB n (p - 2 * n) = kB n p := by
  have h := List.all_eq_true.1 (List.all_eq_true.1 ap_self n (List.mem_range.2 hn)) p (List.mem_range.2 hp)
  simpa [h1] using h
theorem ap_at {n t i k : Nat} (hn : n < 10) (ht : t < 2) (hi : i < n) (hk : k < 2) : kA n (t * (2 * n) + 2 * i + k) = k ∧ kB n (t * (2 * n) + 2 * i + k) = i ∧ (t * (2 * n) + 2 * i + k) / (2 * n) = t := by
  have h := List.all_eq_true.1 (List.all_eq_true.1 (List.all_eq_true.1 (List.all_eq_true.1 ap_form n (List.mem_range.2 hn)) t (List.mem_range.2 ht)) i (List.mem_range.2 hi)) k (List.mem_range.2 hk)
  simp only [Bool.and_eq_true, beq_iff_eq] at h
  exact ⟨h.1.1, h.1.2, h.2⟩
/-- the entry of put number p -/
def apE (n : Nat) (bf : Nat → Nat → ByteArray) (p : Nat) : Ent := ⟨((kA n p : Int), (kB n p : Int)), bf (kA n p) (kB n p), ans1 (10 * ((p / (2 * n) : Nat) : Int) + (kB n p : Int))⟩
/-- what is kept behind p puts -/
def apL (n : Nat) (bf : Nat → Nat → ByteArray) (p : Nat) : List Ent := ((List.range p).drop (p - 2 * n)).map (apE n bf)
theorem apL_mem {n : Nat} {bf : Nat → Nat → ByteArray} {p : Nat} {e : Ent} : e ∈ apL n bf p ↔ ∃ j, p - 2 * n ≤ j ∧ j < p ∧ e = apE n bf j := by
  unfold apL
  rw [List.mem_map]
  constructor
  · rintro ⟨j, hj, rfl⟩
    obtain ⟨q, hq, rfl⟩ := List.mem_iff_getElem.1 hj
    rw [List.length_drop, List.length_range] at hq
    rw [List.getElem_drop, List.getElem_range]
    exact ⟨_, by omega, by omega, rfl⟩
  · rintro ⟨j, h1, h2, rfl⟩
    refine ⟨j, List.mem_iff_getElem.2 ⟨j - (p - 2 * n), by rw [List.length_drop, List.length_range]; omega, ?_⟩, rfl⟩
    rw [List.getElem_drop, List.getElem_range]
    omega
theorem apE_key {n : Nat} {bf : Nat → Nat → ByteArray} {p q : Nat} : (apE n bf q).key = (apE n bf p).key ↔ kA n q = kA n p ∧ kB n q = kB n p := by
  constructor
  · intro h
    have h1 : ((kA n q : Nat) : Int) = ((kA n p : Nat) : Int) := congrArg Prod.fst h
    have h2 : ((kB n q : Nat) : Int) = ((kB n p : Nat) : Int) := congrArg Prod.snd h
    exact ⟨by omega, by omega⟩
  · rintro ⟨h1, h2⟩
    show (((kA n q : Nat) : Int), ((kB n q : Nat) : Int)) = (((kA n p : Nat) : Int), ((kB n p : Nat) : Int))
    rw [h1, h2]
theorem apL_len (n : Nat) (bf : Nat → Nat → ByteArray) (p : Nat) : (apL n bf p).length = p - (p - 2 * n) := by unfold apL; rw [List.length_map, List.length_drop, List.length_range]
theorem apL_case {n : Nat} {bf : Nat → Nat → ByteArray} {p : Nat} (hn : n < 10) (hp : p < 40) (h0 : 0 < n) : (∃ en ∈ apL n bf p, en.key = (apE n bf p).key ∧ en.bytes.toList = (apE n bf p).bytes.toList) ∨ (apE n bf p).key ∉ (apL n bf p).map Ent.key := by
  by_cases h : 2 * n ≤ p
  · obtain ⟨e1, e2⟩ := ap_same hn hp h
    refine .inl ⟨apE n bf (p - 2 * n), apL_mem.2 ⟨p - 2 * n, Nat.le_refl _, by omega, rfl⟩, apE_key.2 ⟨e1, e2⟩, ?_⟩
    show (bf (kA n (p - 2 * n)) (kB n (p - 2 * n))).toList = (bf (kA n p) (kB n p)).toList
    rw [e1, e2]
  · refine .inr (fun hm => ?_)
    obtain ⟨e, he, hk⟩ := mem_keys hm
    obtain ⟨j, h1, h2, rfl⟩ := apL_mem.1 he
    obtain ⟨e1, e2⟩ := apE_key.1 hk
    exact h (ap_key hn hp h1 h2 e1 e2).1
theorem apL_put {n : Nat} {bf : Nat → Nat → ByteArray} {p : Nat} (hn : n < 10) (hp : p < 40) (h0 : 0 < n) : putE (apL n bf p) (apE n bf p) = apL n bf (p + 1) := by
  have e0 : noKey (apE n bf p).key (apL n bf p) = ((List.range p).drop (p + 1 - 2 * n)).map (apE n bf) := by
    by_cases h : 2 * n ≤ p
    · have e1 : (List.range p).drop (p - 2 * n) = (p - 2 * n) :: (List.range p).drop (p + 1 - 2 * n) := by
        rw [List.drop_eq_getElem_cons (by rw [List.length_range]; omega), List.getElem_range, show p - 2 * n + 1 = p + 1 - 2 * n by omega]
      unfold apL
      rw [e1, List.map_cons]
      unfold noKey
      rw [List.filter_cons_of_neg (by simp [apE_key.2 (ap_same hn hp h)]), List.filter_eq_self]
      intro e he
      obtain ⟨q, hq, rfl⟩ := List.mem_map.1 he
      obtain ⟨m, hm, rfl⟩ := List.mem_iff_getElem.1 hq
      rw [List.length_drop, List.length_range] at hm
      rw [List.getElem_drop, List.getElem_range]
      have hne : (apE n bf (p + 1 - 2 * n + m)).key ≠ (apE n bf p).key := fun hk => by
        obtain ⟨e1, e2⟩ := apE_key.1 hk
        have := (ap_key hn hp (q := p + 1 - 2 * n + m) (by omega) (by omega) e1 e2).2
        omega
      simpa using hne
    · rw [noKey_none (fun hm => by
        obtain ⟨e, he, hk⟩ := mem_keys hm
        obtain ⟨j, h1, h2, rfl⟩ := apL_mem.1 he
        obtain ⟨e1, e2⟩ := apE_key.1 hk
        exact h (ap_key hn hp h1 h2 e1 e2).1)]
      unfold apL
      rw [show p - 2 * n = p + 1 - 2 * n by omega]
  unfold putE
  rw [e0]
  have e2 : ((List.range p).drop (p + 1 - 2 * n)).map (apE n bf) ++ [apE n bf p] = apL n bf (p + 1) := by
    unfold apL
    rw [List.range_succ, List.drop_append_of_le_length (by rw [List.length_range]; omega), List.map_append]
    rfl
  rw [e2]
  unfold trunc
  rw [if_neg (by rw [apL_len]; omega)]
theorem apK_len {n : Nat} {bf : Nat → Nat → ByteArray} {b : Nat} (hn : n < 10) (hb : b < 12) : (keepE 0 (b : Int) (apL n bf (4 * n))).length = n + (n - b) := by
  have h := List.all_eq_true.1 (List.all_eq_true.1 ap_count n (List.mem_range.2 hn)) b (List.mem_range.2 hb)
  have h := beq_iff_eq.1 h
  unfold keepE apL
  rw [List.filter_map, List.length_map, show 4 * n - 2 * n = 2 * n by omega]
  exact h
theorem apK_mem {n : Nat} {bf : Nat → Nat → ByteArray} {b : Nat} {i k : Nat} (hn : n < 10) (hi : i < n) (hk : k < 2) (h : k = 1 ∨ b ≤ i) : (⟨((k : Int), (i : Int)), bf k i, ans1 (10 + (i : Int))⟩ : Ent) ∈ keepE 0 (b : Int) (apL n bf (4 * n)) := by
  obtain ⟨e1, e2, e3⟩ := ap_at (t := 1) hn (by decide) hi hk
  unfold keepE
  rw [List.mem_filter]
  refine ⟨apL_mem.2 ⟨1 * (2 * n) + 2 * i + k, by omega, by omega, ?_⟩, ?_⟩
  · unfold apE
    rw [e1, e2, e3]
    rfl
  · show (!oldK 0 (b : Int) ((k : Int), (i : Int))) = true
    unfold oldK
    rcases h with rfl | h
    · rfl
    · have : ¬ ((i : Int) < (b : Int)) := by omega
      simp [this]
theorem apK_no {bf : Nat → Nat → ByteArray} {n b i : Nat} (h : i < b) : ((0 : Int), (i : Int)) ∉ (keepE 0 (b : Int) (apL n bf (4 * n))).map Ent.key := by
  intro hm
  obtain ⟨e, he, hk⟩ := mem_keys hm
  have := (List.mem_filter.1 he).2
  rw [hk] at this
  have h2 : ((i : Int) < (b : Int)) := by omega
  simp [oldK, h2] at this
theorem kwf2 {k i : Nat} (hk : k < 2) (hi : i < 10) : kwf ((k : Int), (i : Int)) := kwf_nat (by omega) (by omega)
theorem apL_zero (n : Nat) (bf : Nat → Nat → ByteArray) : apL n bf 0 = [] := by simp [apL]
/-- the plain facts that the law needs -/
def apart_Pure : Prop := (∃ k bA bB, edit_Encode.f k 1 ⟨#[47, 97]⟩ ⟨#[]⟩ 1 7 0 [] = some (bA, 0) ∧ edit_Encode.f k 1 ⟨#[47, 98]⟩ ⟨#[]⟩ 1 7 0 [] = some (bB, 0) ∧ bB.toList ≠ bA.toList) ∧
  ∃ bf : Nat → Nat → ByteArray, ∀ (c i : Nat), c < 2 → i < 10 → edit_Encode.f 40 1 ⟨#[47, 120]⟩ ⟨#[]⟩ (c : Int) (i : Int) 0 [] = some (bf c i, 0)
set_option maxHeartbeats 1600000 in
set_option maxRecDepth 100000 in
theorem apart_walk (P : apart_Pure) (a0 a1 : Int) (w : World) (w0 : (Lit.int .i64 a0).wf = true) (w1 : (Lit.int .i64 a1).wf = true) :
    Calls Try.prog 6 #[.int .i64 a0, .int .i64 a1] w fun e w' => e = .returned (.bool true) ∧ Below w.heap.size w w' := by
  have hu28 := Try.underlying28
  have hu32 := Try.underlying32
  have hu36 := Try.underlying36
  have hu38 := Try.underlying38
  have hu62 := Try.underlying62
  have hu64 := Try.underlying64
  have hu66 := Try.underlying66
  obtain ⟨⟨k, bA, bB, hA, hB, hne⟩, bf, hE⟩ := P
  have HX := Aside0.mk (fun W => examples_calls k bA bB hA hB hne W)
  obtain ⟨n, hn, hn9⟩ := pick_at w0 (m := 10) (by decide) (by decide)
  obtain ⟨b, hb, hb11⟩ := pick_at w1 (m := 12) (by decide) (by decide)
  have HN := Aside0.mk hn
  have HBE := Aside0.mk hb
  have HN9 : Aside0 (n ≤ 10) := ⟨by omega⟩
  have HN10 : Aside0 (n < 10) := ⟨by omega⟩
  have HB12 : Aside0 (b < 12) := ⟨by omega⟩
  have HE := Aside0.mk hE
  clear hA hB hne hE hn hb hn9 hb11 w0 w1 k
  go_enter Try.func6, Try.ntmps6
  go_wp2_with (first | (go_at_call 7; refine (HX.out _).mono ?_; rintro e_ w2 ⟨rfl, HB⟩; have hsz2 := HB.size) | (go_at_call 8; refine (new_st _).mono ?_; rintro e_ w3 ⟨B, rfl, hb3, hB3, hS⟩; have HB := below_step HB hb3; have HS := Aside0.mk hS; clear hS) | (go_at_call 9; (with_reducible refine (tabulariumlaw13_pick.calls _ _ _ _ HN.out).mono ?_); rintro e_ w4 ⟨rfl, hd4⟩) | (go_at_call 9; (with_reducible refine (tabulariumlaw13_pick.calls _ _ _ _ HBE.out).mono ?_); rintro e_ w5 ⟨rfl, hd5⟩))
  have HB5 := Aside0.mk (below_step (below_step HB hd4.below) hd5.below)
  have HS5 := Aside0.mk ((HS.out.below hd4.below).below hd5.below)
  have HLO : Aside0 (∀ x, (w2.heap.size ≤ x ∧ x < w3.heap.size) → w.heap.size ≤ x) := ⟨fun x hx => Nat.le_trans hsz2 hx.1⟩
  clear HB hd4 hd5 hb3 HS
  have h4n : (2 : Nat) * (2 * n) = 4 * n := by omega
  have H4N := Aside0.mk h4n
  clear h4n
  go_loopg [7] 2 (fun gq v7 wr => ∃ t : Nat, v7 = .int .i64 t ∧ Aside0 (gq + t = 2) ∧ Aside0 (∃ D, StD wr B D (t * (2 * n)) (apL n bf (t * (2 * n))) ∧ ∀ x, D x → w.heap.size ≤ x) ∧ Aside0 (Below w.heap.size w wr))
  case atStart => exact ⟨0, rfl, ⟨rfl⟩, ⟨_, by rw [Nat.zero_mul, apL_zero]; exact HS5.out, HLO.out⟩, HB5⟩
  case round =>
    clear HS5 HB5 HLO
    obtain ⟨t, rfl, HG, HST, HBL⟩ := hrel
    by_cases ht2 : t < 2
    · have htz : (t : Int) < 2 := by omega
      go_wp2
      go_loopg [8] n (fun gq v8 wr => ∃ i : Nat, v8 = .int .i64 i ∧ Aside0 (gq + i = n) ∧ Aside0 (∃ D, StD wr B D (t * (2 * n) + 2 * i) (apL n bf (t * (2 * n) + 2 * i)) ∧ ∀ x, D x → w.heap.size ≤ x) ∧ Aside0 (Below w.heap.size w wr))
      case atStart => exact ⟨0, rfl, ⟨rfl⟩, ⟨by rw [Nat.mul_zero, Nat.add_zero]; exact HST.out⟩, HBL⟩
      case round =>
        clear HST HBL
        obtain ⟨i, rfl, HGi, HST, HBL⟩ := hrel
        by_cases hin : i < n
        · have hiz : (i : Int) < (n : Int) := by omega
          go_wp2
          go_loopg [9] 2 (fun gq v9 wr => ∃ k : Nat, v9 = .int .i64 k ∧ Aside0 (gq + k = 2) ∧ Aside0 (∃ D, StD wr B D (t * (2 * n) + 2 * i + k) (apL n bf (t * (2 * n) + 2 * i + k)) ∧ ∀ x, D x → w.heap.size ≤ x) ∧ Aside0 (Below w.heap.size w wr))
          case atStart => exact ⟨0, rfl, ⟨rfl⟩, ⟨by rw [Nat.add_zero]; exact HST.out⟩, HBL⟩
          case round =>
            clear HST HBL
            obtain ⟨k, rfl, HGk, HST, HBL⟩ := hrel
            by_cases hk2 : k < 2
            · have hkz : (k : Int) < 2 := by omega
              obtain ⟨D, hS, hD⟩ := HST.out
              have HB := HBL.out
              have HD := Aside0.mk hD
              obtain ⟨e1, e2, e3⟩ := ap_at HN10.out ht2 hin hk2
              have hE : apE n bf (t * (2 * n) + 2 * i + k) = ⟨((k : Int), (i : Int)), bf k i, ans1 (10 * (t : Int) + (i : Int))⟩ := by unfold apE; rw [e1, e2, e3]
              have hp40 : t * (2 * n) + 2 * i + k < 40 := by
                have h1 := HN10.out
                have h2 : t * (2 * n) ≤ 1 * (2 * n) := Nat.mul_le_mul_right _ (by omega)
                omega
              have hcs := apL_case (bf := bf) HN10.out hp40 (by omega)
              rw [hE] at hcs
              have hPut := apL_put (bf := bf) HN10.out hp40 (by omega)
              rw [hE] at hPut
              have hNl : t * (2 * n) + 2 * i + k ≤ 1000000 := by omega
              have hLl : (apL n bf (t * (2 * n) + 2 * i + k)).length ≤ 1000000 := by rw [apL_len]; omega
              have hmul : wrap64 (10 * (t : Int)) = 10 * (t : Int) := by unfold wrap64; omega
              have hadd : wrap64 (10 * (t : Int) + (i : Int)) = 10 * (t : Int) + (i : Int) := by have := HN10.out; unfold wrap64; omega
              have HPut := Aside0.mk hPut
              clear hD hPut hE e1 e2 e3 hp40
              go_wp2_with (first | ((with_reducible refine gate_dst (N := 10) rfl ?_); refine box_event ?hg8 (N := 10) ?hd8 (cs := #[.int .i64 0, .string ⟨#[]⟩, .string ⟨#[]⟩, .int .i64 0, .int .i64 0, .int .i64 0, .slice none 0 0]) (t := 28) ?hr8 ?_; (case hd8 => rfl); (case hg8 => rfl); (case hr8 => first | (go_simp; done) | (go_simp; rfl)); intro g8 hg8 w8 hbox8 hb8; have G8 := Aside0.mk hg8; clear hg8; have nd_g8 := hS.fresh G8.out; have ge_g8 : w.heap.size ≤ g8 := Nat.le_trans HB.size (Nat.le_of_eq G8.out.symm); have hS := hS.below hb8; have HB := below_step HB hb8; have q_g8 := hbox8) | ((with_reducible refine gate_store (t := 28) (p := 10) rfl ?_); refine wpList_store_all rfl rfl 28 (.tmp 10) _ rfl (g := g8) rfl [.int .i64 1, .string ⟨#[47, 120]⟩, .string ⟨#[]⟩, .int .i64 (k : Int), .int .i64 (i : Int), .int .i64 0, .slice none 0 0] rfl q_g8 size28 rfl rfl ?_; intro w3 h3 d3; have hS := hS.one d3 nd_g8; have HB := gr_one HB d3 ge_g8; have q_g8 := h3) | ((with_reducible refine gate_ (.load 28 (.tmp 10)) rfl ?_); refine wpList_load_all rfl 28 (.tmp 10) rfl (g := g8) (off := 0) rfl [.int .i64 1, .string ⟨#[47, 120]⟩, .string ⟨#[]⟩, .int .i64 (k : Int), .int .i64 (i : Int), .int .i64 0, .slice none 0 0] q_g8 agg28 size28 rfl ?_) | (go_at_call 10; (with_reducible refine (put_kept0 hS (k : Int) (i : Int) 1 (10 * (t : Int) + (i : Int)) ⟨#[47, 120]⟩ 40 (bf k i) (HE.out k i hk2 (Nat.lt_of_lt_of_le hin HN9.out)) (kwf2 hk2 (Nat.lt_of_lt_of_le hin HN9.out)) hLl hNl hcs).mono ?_); rintro e_ w6 ⟨rfl, hS6, hG6⟩))
              have HB6 : Below w.heap.size w w6 := ((Gr.of_below HB (S := fun x => w.heap.size ≤ x)).then_ hG6 (fun x hx => .inl (HD.out x hx))).below (Nat.le_refl _) (fun x hx => hx)
              have HS6 := Aside0.mk hS6
              rw [HPut.out] at HS6
              go_roundg (2 - (k + 1))
              case measure => have := HGk.out; omega
              case rel => exact ⟨k + 1, by first | rfl | exact next_int hk2 (by decide), ⟨by omega⟩, ⟨_, HS6.out, fun x (hx : (D x ∨ _) ∧ _) => hx.1.elim (HD.out x) (fun h => Nat.le_trans HB.size h)⟩, ⟨HB6⟩⟩
            · have hkz : ¬ (k : Int) < 2 := by omega
              obtain rfl : k = 2 := by have := HGk.out; omega
              have hp : t * (2 * n) + 2 * i + 2 = t * (2 * n) + 2 * (i + 1) := by omega
              rw [hp] at HST
              clear hp HGk hk2
              go_wp2
              go_roundg (n - (i + 1))
              case measure => have := HGi.out; omega
              case rel => exact ⟨i + 1, by first | rfl | exact next_int hin (by have := HN10.out; omega), ⟨by omega⟩, HST, HBL⟩
        · have hiz : ¬ (i : Int) < (n : Int) := by omega
          obtain rfl : i = n := by have := HGi.out; omega
          have hp : t * (2 * i) + 2 * i = (t + 1) * (2 * i) := (Nat.succ_mul t (2 * i)).symm
          rw [hp] at HST
          clear hp HGi hin
          go_wp2
          go_roundg (2 - (t + 1))
          case measure => have := HG.out; omega
          case rel => exact ⟨t + 1, by first | rfl | exact next_int ht2 (by decide), ⟨by omega⟩, HST, HBL⟩
    · have htz : ¬ (t : Int) < 2 := by omega
      obtain rfl : t = 2 := by have := HG.out; omega
      rw [H4N.out] at HST
      obtain ⟨D, hS, hD⟩ := HST.out
      have HB := HBL.out
      have HD := Aside0.mk hD
      have hlA : (apL n bf (4 * n)).length ≤ 1000000 := by rw [apL_len]; have := HN10.out; omega
      clear hD HG ht2
      go_wp2_with (first | (go_at_call 17; (with_reducible refine (forget_st hS hlA 0 (b : Int)).mono ?_); rintro e_ w6 ⟨rfl, hS6, hG6⟩))
      have HB6 : Below w.heap.size w w6 := ((Gr.of_below HB (S := fun x => w.heap.size ≤ x)).then_ hG6 (fun x hx => .inl (HD.out x hx))).below (Nat.le_refl _) (fun x hx => hx)
      have HS6 := Aside0.mk hS6
      have HB6' := Aside0.mk HB6
      clear HB6 hS6 hS HB hlA HST HBL
      go_loopg [11] n (fun gq v11 wr => ∃ i : Nat, v11 = .int .i64 i ∧ Aside0 (gq + i = n) ∧ Aside0 (StD wr B D (4 * n) (keepE 0 (b : Int) (apL n bf (4 * n)))) ∧ Aside0 (Below w.heap.size w wr))
      case atStart => exact ⟨0, rfl, ⟨rfl⟩, HS6, HB6'⟩
      case round =>
        clear HS6 HB6'
        obtain ⟨i, rfl, HG, HST, HBL⟩ := hrel
        have hS := HST.out
        have HB := HBL.out
        by_cases hin : i < n
        · have hiz : (i : Int) < (n : Int) := by omega
          have hadd : wrap64 (10 + (i : Int)) = 10 + (i : Int) := by have := HN10.out; unfold wrap64; omega
          have hE0 : Aside0 (edit_Encode.f 40 1 ⟨#[47, 120]⟩ ⟨#[]⟩ 0 (i : Int) 0 [] = some (bf 0 i, 0)) := ⟨HE.out 0 i (by decide) (Nat.lt_of_lt_of_le hin HN9.out)⟩
          have hE1 : Aside0 (edit_Encode.f 40 1 ⟨#[47, 120]⟩ ⟨#[]⟩ 1 (i : Int) 0 [] = some (bf 1 i, 0)) := ⟨HE.out 1 i (by decide) (Nat.lt_of_lt_of_le hin HN9.out)⟩
          have m1 : Aside0 ((⟨((1 : Int), (i : Int)), bf 1 i, ans1 (10 + (i : Int))⟩ : Ent) ∈ keepE 0 (b : Int) (apL n bf (4 * n))) := ⟨apK_mem (k := 1) HN10.out hin (by decide) (.inl rfl)⟩
          by_cases hbi : b ≤ i
          · have hge : (b : Int) ≤ (i : Int) := by omega
            have m0 : Aside0 ((⟨((0 : Int), (i : Int)), bf 0 i, ans1 (10 + (i : Int))⟩ : Ent) ∈ keepE 0 (b : Int) (apL n bf (4 * n))) := ⟨apK_mem (k := 0) HN10.out hin (by decide) (.inr hbi)⟩
            go_wp2_with (first | (go_at_call 11; (with_reducible refine (get_kept0 hS 0 (i : Int) 1 0 (i : Int) ⟨#[47, 120]⟩ (bf 0 i) (10 + (i : Int)) m0.out 40 (bf 0 i) hE0.out rfl).mono ?_); rintro e_ w7 ⟨B4, d4, B8, d8, rfl, hb7⟩; have hS := hS.below hb7; have HB := below_step HB hb7) | ((with_reducible refine gate_dst (N := 12) rfl ?_); refine box_event ?hg8 (N := 12) ?hd8 (cs := #[.int .i64 0, .int .i64 0, .int .i64 0, .int .i64 0, .slice none 0 0, .string ⟨#[]⟩, .bool false, .int .i64 0, .slice none 0 0, .int .i64 0, .int .i64 0]) (t := 38) ?hr8 ?_; (case hd8 => rfl); (case hg8 => rfl); (case hr8 => first | (go_simp; done) | (go_simp; rfl)); intro g8 hg8 w8 hbox8 hb8; have G8 := Aside0.mk hg8; clear hg8; have nd_g8 := hS.fresh G8.out; have ge_g8 : w.heap.size ≤ g8 := Nat.le_trans HB.size (Nat.le_of_eq G8.out.symm); have hS := hS.below hb8; have HB := below_step HB hb8; have q_g8 := hbox8) | ((with_reducible refine gate_store (t := 38) (p := 12) rfl ?_); refine wpList_store_all rfl rfl 38 (.tmp 12) _ rfl (g := g8) rfl [.int .i64 0, .int .i64 0, .int .i64 0, .int .i64 0, .slice B4 0 d4, .string ⟨#[]⟩, .bool false, .int .i64 0, .slice B8 0 d8, .int .i64 0, .int .i64 (10 + (i : Int))] rfl q_g8 size38 rfl rfl ?_; intro w9 h9 d9; have hS := hS.one d9 nd_g8; have HB := gr_one HB d9 ge_g8; have q_g8 := h9) | (go_at_call 11; (with_reducible refine (get_kept0 hS 1 (i : Int) 1 1 (i : Int) ⟨#[47, 120]⟩ (bf 1 i) (10 + (i : Int)) m1.out 40 (bf 1 i) hE1.out rfl).mono ?_); rintro e_ w10 ⟨C4, f4, C8, f8, rfl, hb10⟩; have q_g8 := (hb10.block g8 (blk_lt q_g8)).trans q_g8; have hS := hS.below hb10; have HB := below_step HB hb10) | ((with_reducible refine gate_dst (N := 15) rfl ?_); refine box_event ?hg11 (N := 15) ?hd11 (cs := #[.int .i64 0, .int .i64 0, .int .i64 0, .int .i64 0, .slice none 0 0, .string ⟨#[]⟩, .bool false, .int .i64 0, .slice none 0 0, .int .i64 0, .int .i64 0]) (t := 38) ?hr11 ?_; (case hd11 => rfl); (case hg11 => rfl); (case hr11 => first | (go_simp; done) | (go_simp; rfl)); intro g11 hg11 w11 hbox11 hb11; have G11 := Aside0.mk hg11; clear hg11; have n_g8_g11 : g8 ≠ g11 := Nat.ne_of_lt (Nat.lt_of_lt_of_eq (blk_lt q_g8) G11.out.symm); have nd_g11 := hS.fresh G11.out; have ge_g11 : w.heap.size ≤ g11 := Nat.le_trans HB.size (Nat.le_of_eq G11.out.symm); have q_g8 := (hb11.block g8 (blk_lt q_g8)).trans q_g8; have hS := hS.below hb11; have HB := below_step HB hb11; have q_g11 := hbox11) | ((with_reducible refine gate_store (t := 38) (p := 15) rfl ?_); refine wpList_store_all rfl rfl 38 (.tmp 15) _ rfl (g := g11) rfl [.int .i64 0, .int .i64 0, .int .i64 0, .int .i64 0, .slice C4 0 f4, .string ⟨#[]⟩, .bool false, .int .i64 0, .slice C8 0 f8, .int .i64 0, .int .i64 (10 + (i : Int))] rfl q_g11 size38 rfl rfl ?_; intro w12 h12 d12; have q_g8 := (d12.block g8 (blk_lt q_g8) n_g8_g11).trans q_g8; have hS := hS.one d12 nd_g11; have HB := gr_one HB d12 ge_g11; have q_g11 := h12; have xa : w12.cell? ⟨g8, 10, none⟩ = some (.int .i64 (10 + (i : Int))) := (blk_cell q_g8 10).trans rfl; have xc : w12.cell? ⟨g11, 10, none⟩ = some (.int .i64 (10 + (i : Int))) := (blk_cell h12 10).trans rfl))
            go_roundg (n - (i + 1))
            case measure => have := HG.out; omega
            case rel => exact ⟨i + 1, by first | rfl | exact next_int hin (by have := HN10.out; omega), ⟨by omega⟩, ⟨hS⟩, ⟨HB⟩⟩
          · have hge : ¬ ((b : Int) ≤ (i : Int)) := by omega
            have m0 : Aside0 (((0 : Int), (i : Int)) ∉ (keepE 0 (b : Int) (apL n bf (4 * n))).map Ent.key) := ⟨apK_no (by omega)⟩
            have hw0 : Aside0 (kwf ((0 : Int), (i : Int))) := ⟨kwf2 (k := 0) (by decide) (Nat.lt_of_lt_of_le hin HN9.out)⟩
            go_wp2_with (first | (go_at_call 11; (with_reducible refine (get_none0 hS 0 (i : Int) 1 0 (i : Int) ⟨#[47, 120]⟩ hw0.out m0.out).mono ?_); rintro e_ w7 ⟨rfl, hb7⟩; have hS := hS.below hb7; have HB := below_step HB hb7) | ((with_reducible refine gate_dst (N := 12) rfl ?_); refine box_event ?hg8 (N := 12) ?hd8 (cs := #[.int .i64 0, .int .i64 0, .int .i64 0, .int .i64 0, .slice none 0 0, .string ⟨#[]⟩, .bool false, .int .i64 0, .slice none 0 0, .int .i64 0, .int .i64 0]) (t := 38) ?hr8 ?_; (case hd8 => rfl); (case hg8 => rfl); (case hr8 => first | (go_simp; done) | (go_simp; rfl)); intro g8 hg8 w8 hbox8 hb8; have G8 := Aside0.mk hg8; clear hg8; have nd_g8 := hS.fresh G8.out; have ge_g8 : w.heap.size ≤ g8 := Nat.le_trans HB.size (Nat.le_of_eq G8.out.symm); have hS := hS.below hb8; have HB := below_step HB hb8; have q_g8 := hbox8) | ((with_reducible refine gate_store (t := 38) (p := 12) rfl ?_); refine wpList_store_all rfl rfl 38 (.tmp 12) _ rfl (g := g8) rfl [.int .i64 0, .int .i64 0, .int .i64 0, .int .i64 0, .slice none 0 0, .string ⟨#[]⟩, .bool false, .int .i64 0, .slice none 0 0, .int .i64 0, .int .i64 0] rfl q_g8 size38 rfl rfl ?_; intro w9 h9 d9; have hS := hS.one d9 nd_g8; have HB := gr_one HB d9 ge_g8; have q_g8 := h9) | (go_at_call 11; (with_reducible refine (get_kept0 hS 1 (i : Int) 1 1 (i : Int) ⟨#[47, 120]⟩ (bf 1 i) (10 + (i : Int)) m1.out 40 (bf 1 i) hE1.out rfl).mono ?_); rintro e_ w10 ⟨C4, f4, C8, f8, rfl, hb10⟩; have q_g8 := (hb10.block g8 (blk_lt q_g8)).trans q_g8; have hS := hS.below hb10; have HB := below_step HB hb10) | ((with_reducible refine gate_dst (N := 15) rfl ?_); refine box_event ?hg11 (N := 15) ?hd11 (cs := #[.int .i64 0, .int .i64 0, .int .i64 0, .int .i64 0, .slice none 0 0, .string ⟨#[]⟩, .bool false, .int .i64 0, .slice none 0 0, .int .i64 0, .int .i64 0]) (t := 38) ?hr11 ?_; (case hd11 => rfl); (case hg11 => rfl); (case hr11 => first | (go_simp; done) | (go_simp; rfl)); intro g11 hg11 w11 hbox11 hb11; have G11 := Aside0.mk hg11; clear hg11; have n_g8_g11 : g8 ≠ g11 := Nat.ne_of_lt (Nat.lt_of_lt_of_eq (blk_lt q_g8) G11.out.symm); have nd_g11 := hS.fresh G11.out; have ge_g11 : w.heap.size ≤ g11 := Nat.le_trans HB.size (Nat.le_of_eq G11.out.symm); have q_g8 := (hb11.block g8 (blk_lt q_g8)).trans q_g8; have hS := hS.below hb11; have HB := below_step HB hb11; have q_g11 := hbox11) | ((with_reducible refine gate_store (t := 38) (p := 15) rfl ?_); refine wpList_store_all rfl rfl 38 (.tmp 15) _ rfl (g := g11) rfl [.int .i64 0, .int .i64 0, .int .i64 0, .int .i64 0, .slice C4 0 f4, .string ⟨#[]⟩, .bool false, .int .i64 0, .slice C8 0 f8, .int .i64 0, .int .i64 (10 + (i : Int))] rfl q_g11 size38 rfl rfl ?_; intro w12 h12 d12; have q_g8 := (d12.block g8 (blk_lt q_g8) n_g8_g11).trans q_g8; have hS := hS.one d12 nd_g11; have HB := gr_one HB d12 ge_g11; have q_g11 := h12; have xa : w12.cell? ⟨g8, 10, none⟩ = some (.int .i64 0) := (blk_cell q_g8 10).trans rfl; have xc : w12.cell? ⟨g11, 10, none⟩ = some (.int .i64 (10 + (i : Int))) := (blk_cell h12 10).trans rfl))
            go_roundg (n - (i + 1))
            case measure => have := HG.out; omega
            case rel => exact ⟨i + 1, by first | rfl | exact next_int hin (by have := HN10.out; omega), ⟨by omega⟩, ⟨hS⟩, ⟨HB⟩⟩
        · have hiz : ¬ (i : Int) < (n : Int) := by omega
          obtain rfl : i = n := by have := HG.out; omega
          have hkl := apK_len (bf := bf) HN10.out HB12.out
          by_cases hbn : b < i
          · have h1 : 0 < (i : Int) - (b : Int) := by omega
            have hs : wrap64 ((i : Int) - (b : Int)) = (i : Int) - (b : Int) := by have := HN10.out; unfold wrap64; omega
            have ha : wrap64 ((i : Int) + ((i : Int) - (b : Int))) = (i : Int) + ((i : Int) - (b : Int)) := by have := HN10.out; unfold wrap64; omega
            have hl : ((keepE 0 (b : Int) (apL i bf (4 * i))).length : Int) = (i : Int) + ((i : Int) - (b : Int)) := by rw [hkl]; omega
            clear hkl hin HG
            go_wp2_with (first | (go_at_call 12; refine (len_st hS).mono ?_; rintro e_ w9 ⟨rfl, hb9⟩))
            go_ret
            exact ⟨rfl, below_step HB hb9⟩
          · have h1 : ¬ (0 < (i : Int) - (b : Int)) := by omega
            have hs : wrap64 ((i : Int) - (b : Int)) = (i : Int) - (b : Int) := by have := HN10.out; have := HB12.out; unfold wrap64; omega
            have ha : wrap64 (i : Int) = (i : Int) := by have := HN10.out; unfold wrap64; omega
            have hl : ((keepE 0 (b : Int) (apL i bf (4 * i))).length : Int) = (i : Int) := by rw [hkl]; omega
            clear hkl hin HG
            go_wp2_with (first | (go_at_call 12; refine (len_st hS).mono ?_; rintro e_ w9 ⟨rfl, hb9⟩))
            go_ret
            exact ⟨rfl, below_step HB hb9⟩
/-- what the law needs: the plain facts -/
def tabulariumlaw13_RetryApart.Pure : Prop := apart_Pure
theorem tabulariumlaw13_RetryApart.walk (P : tabulariumlaw13_RetryApart.Pure) (a0 : Int) (a1 : Int) (w : World) (w0 : (Lit.int .i64 a0).wf = true) (w1 : (Lit.int .i64 a1).wf = true) :
    Calls Try.prog 6 #[.int .i64 a0, .int .i64 a1] w fun e w' => e = .returned (.bool true) ∧ Below w.heap.size w w' := apart_walk P a0 a1 w w0 w1
end Go.Proofs.Ytjailboidlmadaa.P
