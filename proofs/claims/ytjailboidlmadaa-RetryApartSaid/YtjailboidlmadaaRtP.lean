/- RetryNewest: the newest calls are there. -/
import Derived.Test.YtjailboidlmadaaRtN
import Derived.Test.YtjailboidlmadaaPx7
namespace Go.Proofs.Ytjailboidlmadaa.P
open Go.RowKit Go.Maps Go.WideMaps Go.Proofs.YtjailboidlmadaaW.PrintWords Go.Proofs.YtjailboidlmadaaW.PrintLast Go.Proofs.YtjailboidlmadaaW.PrintMore
attribute [local go_sem] max2_int min2_int max_two min_two max_three min_three max_four min_four
set_option linter.unusedVariables false
set_option linter.unusedSimpArgs false
variable {W : World} {B N bm : Nat} {D : Nat → Prop} {sl : Value} {DM : DataW Value} {os : List (Int × Int)} {es : List Ent}
theorem pick_at {a : Int} (ha : (Lit.int .i64 a).wf = true) {m : Int} (h0 : 0 < m) (h1 : m < 2147483648) : ∃ r : Nat, tabulariumlaw13_pick.f a m = some (r : Int) ∧ (r : Int) < m := by
  have hb : -9223372036854775808 ≤ a ∧ a ≤ 9223372036854775807 := by simpa [Lit.wf, IntKind.min, IntKind.max, IntKind.signed, IntKind.bits] using ha
  have hm : ∀ x : Int, 0 ≤ x → ∃ r : Nat, Int.tmod x m = (r : Int) ∧ (r : Int) < m := fun x hx => by
    rw [Int.tmod_eq_emod_of_nonneg hx]
    refine ⟨(x % m).toNat, (Int.toNat_of_nonneg (Int.emod_nonneg x (by omega))).symm, ?_⟩
    rw [Int.toNat_of_nonneg (Int.emod_nonneg x (by omega))]
    exact Int.emod_lt_of_pos x h0
  unfold tabulariumlaw13_pick.f
  by_cases hn : a < 0
  · rw [if_pos hn, if_neg (by omega)]
    have e : wrap64 (-(wrap64 (a + 1))) = -(a + 1) := by unfold wrap64; omega
    rw [e]
    obtain ⟨r, h1, h2⟩ := hm (-(a + 1)) (by omega)
    exact ⟨r, by rw [h1], h2⟩
  · rw [if_neg hn, if_neg (by omega)]
    obtain ⟨r, h1, h2⟩ := hm a (by omega)
    exact ⟨r, by rw [h1], h2⟩
/-- the entry of call j -/
def newE (c : Int) (bf : Nat → ByteArray) (j : Nat) : Ent := ⟨(c, (j : Int)), bf j, ans1 j⟩
/-- what is kept behind i calls -/
def newL (c : Int) (bf : Nat → ByteArray) (i : Nat) : List Ent := ((List.range i).drop (i - 20)).map (newE c bf)
theorem newL_mem {c : Int} {bf : Nat → ByteArray} {i : Nat} {e : Ent} : e ∈ newL c bf i ↔ ∃ j, i - 20 ≤ j ∧ j < i ∧ e = newE c bf j := by
  unfold newL
  rw [List.mem_map]
  constructor
  · rintro ⟨j, hj, rfl⟩
    obtain ⟨q, hq, rfl⟩ := List.mem_iff_getElem.1 hj
    rw [List.length_drop, List.length_range] at hq
    rw [List.getElem_drop, List.getElem_range]
    exact ⟨_, by omega, by omega, rfl⟩
  · rintro ⟨j, h1, h2, rfl⟩
    refine ⟨j, List.mem_iff_getElem.2 ⟨j - (i - 20), by rw [List.length_drop, List.length_range]; omega, ?_⟩, rfl⟩
    rw [List.getElem_drop, List.getElem_range]
    omega
theorem newL_no {c : Int} {bf : Nat → ByteArray} {i j : Nat} (h : j < i - 20 ∨ i ≤ j) : (c, (j : Int)) ∉ (newL c bf i).map Ent.key := by
  intro hm
  obtain ⟨e, he, hk⟩ := mem_keys hm
  obtain ⟨q, h1, h2, rfl⟩ := newL_mem.1 he
  have : (q : Int) = (j : Int) := congrArg Prod.snd hk
  omega
theorem newL_len (c : Int) (bf : Nat → ByteArray) (i : Nat) : (newL c bf i).length = i - (i - 20) := by unfold newL; rw [List.length_map, List.length_drop, List.length_range]
theorem newL_put (c : Int) (bf : Nat → ByteArray) (i : Nat) : putE (newL c bf i) (newE c bf i) = newL c bf (i + 1) := by
  unfold putE
  rw [noKey_none (k := (newE c bf i).key) (newL_no (.inr (Nat.le_refl i)))]
  have e1 : newL c bf i ++ [newE c bf i] = ((List.range (i + 1)).drop (i - 20)).map (newE c bf) := by
    unfold newL
    rw [List.range_succ, List.drop_append_of_le_length (by rw [List.length_range]; omega), List.map_append]
    rfl
  rw [e1]
  unfold trunc newL
  rw [List.length_map, List.length_drop, List.length_range]
  split
  · rw [← List.map_drop, List.drop_drop]
    congr 2
    omega
  · congr 2
    omega
/-- the plain facts that the law needs -/
def newest_Pure : Prop := (∃ k bA bB, edit_Encode.f k 1 ⟨#[47, 97]⟩ ⟨#[]⟩ 1 7 0 [] = some (bA, 0) ∧ edit_Encode.f k 1 ⟨#[47, 98]⟩ ⟨#[]⟩ 1 7 0 [] = some (bB, 0) ∧ bB.toList ≠ bA.toList) ∧
  ∀ (c i : Nat), c < 4 → i < 61 → ∃ k b, edit_Encode.f k 3 ⟨#[47, 120]⟩ ⟨#[]⟩ (c : Int) (i : Int) 0 [] = some (b, 0)
theorem kwf_nat {c i : Nat} (hc : c < 4) (hi : i < 61) : kwf ((c : Int), (i : Int)) := by
  constructor
  · have : (-9223372036854775808 : Int) ≤ (c : Int) ∧ (c : Int) ≤ 9223372036854775807 := by omega
    simpa [Lit.wf, IntKind.min, IntKind.max, IntKind.signed, IntKind.bits] using this
  · have : (-9223372036854775808 : Int) ≤ (i : Int) ∧ (i : Int) ≤ 9223372036854775807 := by omega
    simpa [Lit.wf, IntKind.min, IntKind.max, IntKind.signed, IntKind.bits] using this
set_option maxHeartbeats 4000000 in
set_option maxRecDepth 100000 in
theorem newest_walk (P : newest_Pure) (a0 a1 : Int) (w : World) (w0 : (Lit.int .i64 a0).wf = true) (w1 : (Lit.int .i64 a1).wf = true) :
    Calls Try.prog 3 #[.int .i64 a0, .int .i64 a1] w fun e w' => e = .returned (.bool true) ∧ Below w.heap.size w w' := by
  have hu28 := Try.underlying28
  have hu32 := Try.underlying32
  have hu36 := Try.underlying36
  have hu38 := Try.underlying38
  have hu62 := Try.underlying62
  have hu64 := Try.underlying64
  have hu66 := Try.underlying66
  obtain ⟨⟨k, bA, bB, hA, hB, hne⟩, hE⟩ := P
  have HX := Aside0.mk (fun W => examples_calls k bA bB hA hB hne W)
  obtain ⟨c, hc, hc4⟩ := pick_at w0 (m := 4) (by decide) (by decide)
  obtain ⟨n, hn, hn61⟩ := pick_at w1 (m := 61) (by decide) (by decide)
  have HC := Aside0.mk hc
  have HN := Aside0.mk hn
  have HC4 : Aside0 (c < 4) := ⟨by omega⟩
  have HN61 : Aside0 (n ≤ 61) := ⟨by omega⟩
  obtain ⟨kf, bf, hbf⟩ : ∃ (kf : Nat → Nat) (bf : Nat → ByteArray), ∀ i, i < 61 → edit_Encode.f (kf i) 3 ⟨#[47, 120]⟩ ⟨#[]⟩ (c : Int) (i : Int) 0 [] = some (bf i, 0) := by
    have h : ∀ i : Nat, ∃ p : Nat × ByteArray, i < 61 → edit_Encode.f p.1 3 ⟨#[47, 120]⟩ ⟨#[]⟩ (c : Int) (i : Int) 0 [] = some (p.2, 0) := fun i => by
      by_cases hi : i < 61
      · obtain ⟨k, b, h⟩ := hE c i HC4.out hi
        exact ⟨(k, b), fun _ => h⟩
      · exact ⟨(0, ⟨#[]⟩), fun h => absurd h hi⟩
    exact ⟨fun i => (Classical.choose (h i)).1, fun i => (Classical.choose (h i)).2, fun i hi => Classical.choose_spec (h i) hi⟩
  replace hbf := Aside0.mk hbf
  clear hA hB hne hE hc hn hc4 hn61 w0 w1
  go_enter Try.func3, Try.ntmps3
  go_wp2_with (first | (go_at_call 7; refine (HX.out _).mono ?_; rintro e_ w2 ⟨rfl, HB⟩; have hsz2 := HB.size) | (go_at_call 8; refine (new_st _).mono ?_; rintro e_ w3 ⟨B, rfl, hb3, hB3, hS⟩; have HB := below_step HB hb3; have HS := Aside0.mk hS; clear hS) | (go_at_call 9; (with_reducible refine (tabulariumlaw13_pick.calls _ _ _ _ HC.out).mono ?_); rintro e_ w4 ⟨rfl, hd4⟩) | (go_at_call 9; (with_reducible refine (tabulariumlaw13_pick.calls _ _ _ _ HN.out).mono ?_); rintro e_ w5 ⟨rfl, hd5⟩))
  have HB5 := Aside0.mk (below_step (below_step HB hd4.below) hd5.below)
  have HS5 := Aside0.mk ((HS.out.below hd4.below).below hd5.below)
  have HLO : Aside0 (∀ x, (w2.heap.size ≤ x ∧ x < w3.heap.size) → w.heap.size ≤ x) := ⟨fun x hx => Nat.le_trans hsz2 hx.1⟩
  clear HB hd4 hd5 hb3 HS
  go_loopg [7] n (fun gq v7 wr => ∃ i : Nat, v7 = .int .i64 i ∧ Aside0 (gq + i = n) ∧ Aside0 (∃ D, StD wr B D i (newL c bf i) ∧ ∀ x, D x → w.heap.size ≤ x) ∧ Aside0 (Below w.heap.size w wr))
  case atStart => exact ⟨0, rfl, ⟨rfl⟩, ⟨_, HS5.out, HLO.out⟩, HB5⟩
  case round =>
    clear HS5 HB5 HLO
    obtain ⟨i, rfl, HG, HST, HBE⟩ := hrel
    by_cases hlt : i < n
    · obtain ⟨D, hS, hD⟩ := HST.out
      have HB := HBE.out
      have hltz : (i : Int) < (n : Int) := by omega
      have hNl : i ≤ 1000000 := by have := HN61.out; omega
      have hLl : (newL c bf i).length ≤ 1000000 := by rw [newL_len]; omega
      have HD := Aside0.mk hD
      clear hD
      go_wp2_with (first | ((with_reducible refine gate_dst (N := 8) rfl ?_); refine box_event ?hg8 (N := 8) ?hd8 (cs := #[.int .i64 0, .string ⟨#[]⟩, .string ⟨#[]⟩, .int .i64 0, .int .i64 0, .int .i64 0, .slice none 0 0]) (t := 28) ?hr8 ?_; (case hd8 => rfl); (case hg8 => rfl); (case hr8 => first | (go_simp; done) | (go_simp; rfl)); intro g8 hg8 w8 hbox8 hb8; have G8 := Aside0.mk hg8; clear hg8; have nd_g8 := hS.fresh G8.out; have ge_g8 : w.heap.size ≤ g8 := Nat.le_trans HB.size (Nat.le_of_eq G8.out.symm); have hS := hS.below hb8; have HB := below_step HB hb8; have q_g8 := hbox8) | ((with_reducible refine gate_store (t := 28) (p := 8) rfl ?_); refine wpList_store_all rfl rfl 28 (.tmp 8) _ rfl (g := g8) rfl [.int .i64 3, .string ⟨#[47, 120]⟩, .string ⟨#[]⟩, .int .i64 (c : Int), .int .i64 (i : Int), .int .i64 0, .slice none 0 0] rfl q_g8 size28 rfl rfl ?_; intro w3 h3 d3; have hS := hS.one d3 nd_g8; have HB := gr_one HB d3 ge_g8; have q_g8 := h3) | ((with_reducible refine gate_ (.load 28 (.tmp 8)) rfl ?_); refine wpList_load_all rfl 28 (.tmp 8) rfl (g := g8) (off := 0) rfl [.int .i64 3, .string ⟨#[47, 120]⟩, .string ⟨#[]⟩, .int .i64 (c : Int), .int .i64 (i : Int), .int .i64 0, .slice none 0 0] q_g8 agg28 size28 rfl ?_) | (go_at_call 10; (with_reducible refine (put_kept0 hS (c : Int) (i : Int) 3 (i : Int) ⟨#[47, 120]⟩ (kf i) (bf i) (hbf.out i (Nat.lt_of_lt_of_le hlt HN61.out)) (kwf_nat HC4.out (Nat.lt_of_lt_of_le hlt HN61.out)) hLl hNl (.inr (newL_no (.inr (Nat.le_refl i))))).mono ?_); rintro e_ w6 ⟨rfl, hS6, hG6⟩))
      have HB6 : Below w.heap.size w w6 := ((Gr.of_below HB (S := fun x => w.heap.size ≤ x)).then_ hG6 (fun x hx => .inl (HD.out x hx))).below (Nat.le_refl _) (fun x hx => hx)
      go_roundg (gk - 1)
      case measure => have := HG.out; omega
      case rel => exact ⟨i + 1, by first | rfl | exact next_int hlt (by have := HN61.out; omega), ⟨by have := HG.out; omega⟩, ⟨_, by rw [← newL_put]; exact hS6, fun x (hx : (D x ∨ _) ∧ _) => hx.1.elim (HD.out x) (fun h => Nat.le_trans HB.size h)⟩, ⟨HB6⟩⟩
    · have hltz : ¬ (i : Int) < (n : Int) := by omega
      obtain rfl : i = n := by have := HG.out; omega
      clear HG hlt
      go_wp2
      go_loopg [9] i (fun gq v9 wr => ∃ j : Nat, v9 = .int .i64 j ∧ Aside0 (gq + j = i) ∧ Aside0 (∃ D, StD wr B D i (newL c bf i) ∧ ∀ x, D x → w.heap.size ≤ x) ∧ Aside0 (Below w.heap.size w wr))
      case atStart => exact ⟨0, rfl, ⟨rfl⟩, HST, HBE⟩
      case round =>
        clear HST HBE
        obtain ⟨j, rfl, HG, HST, HBE⟩ := hrel
        by_cases hlt : j < i
        · obtain ⟨D, hS, hD⟩ := HST.out
          have HB := HBE.out
          have hltz : (j : Int) < (i : Int) := by omega
          have hsub : wrap64 ((i : Int) - 20) = (i : Int) - 20 := by have := HN61.out; unfold wrap64; omega
          have HD := Aside0.mk hD
          clear hD
          by_cases hin : i - 20 ≤ j
          · have hge : ((i : Int) - 20 ≤ (j : Int)) := by omega
            replace hin := Aside0.mk hin
            go_wp2_with (first | ((with_reducible refine gate_dst (N := 10) rfl ?_); refine box_event ?hg8 (N := 10) ?hd8 (cs := #[.int .i64 0, .string ⟨#[]⟩, .string ⟨#[]⟩, .int .i64 0, .int .i64 0, .int .i64 0, .slice none 0 0]) (t := 28) ?hr8 ?_; (case hd8 => rfl); (case hg8 => rfl); (case hr8 => first | (go_simp; done) | (go_simp; rfl)); intro g8 hg8 w8 hbox8 hb8; have G8 := Aside0.mk hg8; clear hg8; have nd_g8 := hS.fresh G8.out; have ge_g8 : w.heap.size ≤ g8 := Nat.le_trans HB.size (Nat.le_of_eq G8.out.symm); have hS := hS.below hb8; have HB := below_step HB hb8; have q_g8 := hbox8) | ((with_reducible refine gate_store (t := 28) (p := 10) rfl ?_); refine wpList_store_all rfl rfl 28 (.tmp 10) _ rfl (g := g8) rfl [.int .i64 3, .string ⟨#[47, 120]⟩, .string ⟨#[]⟩, .int .i64 (c : Int), .int .i64 (j : Int), .int .i64 0, .slice none 0 0] rfl q_g8 size28 rfl rfl ?_; intro w3 h3 d3; have hS := hS.one d3 nd_g8; have HB := gr_one HB d3 ge_g8; have q_g8 := h3) | ((with_reducible refine gate_ (.load 28 (.tmp 10)) rfl ?_); refine wpList_load_all rfl 28 (.tmp 10) rfl (g := g8) (off := 0) rfl [.int .i64 3, .string ⟨#[47, 120]⟩, .string ⟨#[]⟩, .int .i64 (c : Int), .int .i64 (j : Int), .int .i64 0, .slice none 0 0] q_g8 agg28 size28 rfl ?_) | (go_at_call 11; (with_reducible refine (get_kept0 hS (c : Int) (j : Int) 3 (c : Int) (j : Int) ⟨#[47, 120]⟩ (bf j) (j : Int) (newL_mem.2 ⟨j, hin.out, hlt, rfl⟩) (kf j) (bf j) (hbf.out j (Nat.lt_of_lt_of_le hlt HN61.out)) rfl).mono ?_); rintro e_ w7 ⟨B4, d4, B8, d8, rfl, hb7⟩; have q_g8 := (hb7.block g8 (blk_lt q_g8)).trans q_g8; have hS := hS.below hb7; have HB := below_step HB hb7) | ((with_reducible refine gate_dst (N := 11) rfl ?_); refine box_event ?hg11 (N := 11) ?hd11 (cs := #[.int .i64 0, .int .i64 0, .int .i64 0, .int .i64 0, .slice none 0 0, .string ⟨#[]⟩, .bool false, .int .i64 0, .slice none 0 0, .int .i64 0, .int .i64 0]) (t := 38) ?hr11 ?_; (case hd11 => rfl); (case hg11 => rfl); (case hr11 => first | (go_simp; done) | (go_simp; rfl)); intro g11 hg11 w11 hbox11 hb11; have G11 := Aside0.mk hg11; clear hg11; have n_g8_g11 : g8 ≠ g11 := Nat.ne_of_lt (Nat.lt_of_lt_of_eq (blk_lt q_g8) G11.out.symm); have nd_g11 := hS.fresh G11.out; have ge_g11 : w.heap.size ≤ g11 := Nat.le_trans HB.size (Nat.le_of_eq G11.out.symm); have q_g8 := (hb11.block g8 (blk_lt q_g8)).trans q_g8; have hS := hS.below hb11; have HB := below_step HB hb11; have q_g11 := hbox11) | ((with_reducible refine gate_store (t := 38) (p := 11) rfl ?_); refine wpList_store_all rfl rfl 38 (.tmp 11) _ rfl (g := g11) rfl [.int .i64 0, .int .i64 0, .int .i64 0, .int .i64 0, .slice B4 0 d4, .string ⟨#[]⟩, .bool false, .int .i64 0, .slice B8 0 d8, .int .i64 0, .int .i64 (j : Int)] rfl q_g11 size38 rfl rfl ?_; intro w12 h12 d12; have q_g8 := (d12.block g8 (blk_lt q_g8) n_g8_g11).trans q_g8; have hS := hS.one d12 nd_g11; have HB := gr_one HB d12 ge_g11; have q_g11 := h12; have xa : w12.cell? ⟨g11, 10, none⟩ = some (.int .i64 (j : Int)) := (blk_cell h12 10).trans rfl))
            go_roundg (gk - 1)
            case measure => have := HG.out; omega
            case rel => exact ⟨j + 1, by first | rfl | exact next_int hlt (by have := HN61.out; omega), ⟨by have := HG.out; omega⟩, ⟨D, hS, HD.out⟩, ⟨HB⟩⟩
          · have hge : ¬ ((i : Int) - 20 ≤ (j : Int)) := by omega
            replace hin := Aside0.mk (Nat.lt_of_not_le hin)
            go_wp2_with (first | ((with_reducible refine gate_dst (N := 10) rfl ?_); refine box_event ?hg8 (N := 10) ?hd8 (cs := #[.int .i64 0, .string ⟨#[]⟩, .string ⟨#[]⟩, .int .i64 0, .int .i64 0, .int .i64 0, .slice none 0 0]) (t := 28) ?hr8 ?_; (case hd8 => rfl); (case hg8 => rfl); (case hr8 => first | (go_simp; done) | (go_simp; rfl)); intro g8 hg8 w8 hbox8 hb8; have G8 := Aside0.mk hg8; clear hg8; have nd_g8 := hS.fresh G8.out; have ge_g8 : w.heap.size ≤ g8 := Nat.le_trans HB.size (Nat.le_of_eq G8.out.symm); have hS := hS.below hb8; have HB := below_step HB hb8; have q_g8 := hbox8) | ((with_reducible refine gate_store (t := 28) (p := 10) rfl ?_); refine wpList_store_all rfl rfl 28 (.tmp 10) _ rfl (g := g8) rfl [.int .i64 3, .string ⟨#[47, 120]⟩, .string ⟨#[]⟩, .int .i64 (c : Int), .int .i64 (j : Int), .int .i64 0, .slice none 0 0] rfl q_g8 size28 rfl rfl ?_; intro w3 h3 d3; have hS := hS.one d3 nd_g8; have HB := gr_one HB d3 ge_g8; have q_g8 := h3) | ((with_reducible refine gate_ (.load 28 (.tmp 10)) rfl ?_); refine wpList_load_all rfl 28 (.tmp 10) rfl (g := g8) (off := 0) rfl [.int .i64 3, .string ⟨#[47, 120]⟩, .string ⟨#[]⟩, .int .i64 (c : Int), .int .i64 (j : Int), .int .i64 0, .slice none 0 0] q_g8 agg28 size28 rfl ?_) | (go_at_call 11; (with_reducible refine (get_none0 hS (c : Int) (j : Int) 3 (c : Int) (j : Int) ⟨#[47, 120]⟩ (kwf_nat HC4.out (Nat.lt_of_lt_of_le hlt HN61.out)) (newL_no (.inl hin.out))).mono ?_); rintro e_ w7 ⟨rfl, hb7⟩; have q_g8 := (hb7.block g8 (blk_lt q_g8)).trans q_g8; have hS := hS.below hb7; have HB := below_step HB hb7) | ((with_reducible refine gate_dst (N := 11) rfl ?_); refine box_event ?hg11 (N := 11) ?hd11 (cs := #[.int .i64 0, .int .i64 0, .int .i64 0, .int .i64 0, .slice none 0 0, .string ⟨#[]⟩, .bool false, .int .i64 0, .slice none 0 0, .int .i64 0, .int .i64 0]) (t := 38) ?hr11 ?_; (case hd11 => rfl); (case hg11 => rfl); (case hr11 => first | (go_simp; done) | (go_simp; rfl)); intro g11 hg11 w11 hbox11 hb11; have G11 := Aside0.mk hg11; clear hg11; have n_g8_g11 : g8 ≠ g11 := Nat.ne_of_lt (Nat.lt_of_lt_of_eq (blk_lt q_g8) G11.out.symm); have nd_g11 := hS.fresh G11.out; have ge_g11 : w.heap.size ≤ g11 := Nat.le_trans HB.size (Nat.le_of_eq G11.out.symm); have q_g8 := (hb11.block g8 (blk_lt q_g8)).trans q_g8; have hS := hS.below hb11; have HB := below_step HB hb11; have q_g11 := hbox11) | ((with_reducible refine gate_store (t := 38) (p := 11) rfl ?_); refine wpList_store_all rfl rfl 38 (.tmp 11) _ rfl (g := g11) rfl [.int .i64 0, .int .i64 0, .int .i64 0, .int .i64 0, .slice none 0 0, .string ⟨#[]⟩, .bool false, .int .i64 0, .slice none 0 0, .int .i64 0, .int .i64 0] rfl q_g11 size38 rfl rfl ?_; intro w12 h12 d12; have q_g8 := (d12.block g8 (blk_lt q_g8) n_g8_g11).trans q_g8; have hS := hS.one d12 nd_g11; have HB := gr_one HB d12 ge_g11; have q_g11 := h12; have xa : w12.cell? ⟨g11, 10, none⟩ = some (.int .i64 0) := (blk_cell h12 10).trans rfl))
            go_roundg (gk - 1)
            case measure => have := HG.out; omega
            case rel => exact ⟨j + 1, by first | rfl | exact next_int hlt (by have := HN61.out; omega), ⟨by have := HG.out; omega⟩, ⟨D, hS, HD.out⟩, ⟨HB⟩⟩
        · have hltz : ¬ (j : Int) < (i : Int) := by omega
          obtain rfl : j = i := by have := HG.out; omega
          obtain ⟨D, hS, hD⟩ := HST.out
          have HB := HBE.out
          clear hlt HG
          have hnl := newL_len c bf j
          by_cases h20 : j < 20
          · have h20z : (j : Int) < 20 := by omega
            have hl : (newL c bf j).length = j := by omega
            clear hnl
            go_wp2_with (first | (go_at_call 12; refine (len_st hS).mono ?_; rintro e_ w9 ⟨rfl, hb9⟩))
            go_ret
            exact ⟨rfl, below_step HB hb9⟩
          · by_cases h21 : 20 < j
            · have h20z : (20 : Int) < (j : Int) := by omega
              have hl : (newL c bf j).length = 20 := by omega
              clear hnl
              go_wp2_with (first | (go_at_call 12; refine (len_st hS).mono ?_; rintro e_ w9 ⟨rfl, hb9⟩))
              go_ret
              exact ⟨rfl, below_step HB hb9⟩
            · obtain rfl : j = 20 := by omega
              have hl : (newL c bf 20).length = 20 := by omega
              clear hnl h20 h21
              go_wp2_with (first | (go_at_call 12; refine (len_st hS).mono ?_; rintro e_ w9 ⟨rfl, hb9⟩))
              go_ret
              exact ⟨rfl, below_step HB hb9⟩
/-- what the law needs: the plain facts -/
def tabulariumlaw13_RetryNewest.Pure : Prop := newest_Pure
theorem tabulariumlaw13_RetryNewest.walk (P : tabulariumlaw13_RetryNewest.Pure) (a0 : Int) (a1 : Int) (w : World) (w0 : (Lit.int .i64 a0).wf = true) (w1 : (Lit.int .i64 a1).wf = true) :
    Calls Try.prog 3 #[.int .i64 a0, .int .i64 a1] w fun e w' => e = .returned (.bool true) ∧ Below w.heap.size w w' := newest_walk P a0 a1 w w0 w1
end Go.Proofs.Ytjailboidlmadaa.P
