/- The Go functions of this seat as plain Lean functions, and for each the proof that its call gives what the plain function gives. Printed by a program of this session. -/
import Derived.Test.YtjailboidlmadaaPz
import Derived.Test.YtjailboidlmadaaPx0
import Derived.Test.YtjailboidlmadaaPx3
import Derived.Test.YtjailboidlmadaaPx4
import Derived.Test.YtjailboidlmadaaPx5
namespace Go.Proofs.Ytjailboidlmadaa.P
open Go.RowKit Go.Proofs.YtjailboidlmadaaW.PrintWords Go.Proofs.YtjailboidlmadaaW.PrintLast Go.Proofs.YtjailboidlmadaaW.PrintMore
attribute [local go_sem] max2_int min2_int max_two min_two max_three min_three max_four min_four   -- for this text's walks alone
set_option linter.unusedVariables false
set_option linter.unusedSimpArgs false

/-! ### edit_Encode: function 13 -/
def edit_Encode.f (k : Nat) (a0_0 : Int) (a0_1 : ByteArray) (a0_2 : ByteArray) (a0_3 : Int) (a0_4 : Int) (a0_5 : Int) (l0_6 : List Int) : Option (ByteArray × Int) := (edit_Right.f a0_0 a0_1 a0_2 a0_3 a0_4 a0_5 l0_6).bind fun t109 => (if t109 = true then ((wire_Text.f k a0_1).bind fun bt110 => ((wire_Text.f k a0_2).bind fun bt112 => ((edit_nums.f k (([a0_0] : List Int))).bind fun t117 => (if t117.size + bt110.1.size ≤ 9223372036854775807 then (if (t117 ++ bt110.1).size + bt112.1.size ≤ 9223372036854775807 then ((edit_nums.f k (([a0_3, a0_4, a0_5, (l0_6.length : Int)] : List Int))).bind fun t121 => (if ((t117 ++ bt110.1) ++ bt112.1).size + t121.size ≤ 9223372036854775807 then ((edit_nums.f k l0_6).bind fun t122 => (if (((t117 ++ bt110.1) ++ bt112.1) ++ t121).size + t122.size ≤ 9223372036854775807 then (some ((((t117 ++ bt110.1) ++ bt112.1) ++ t121) ++ t122, 0)) else (none))) else (none))) else (none)) else (none))))) else (some ((⟨#[]⟩ : ByteArray), 1)))
theorem edit_Encode.mono : ∀ a0 a1 a2 a3 a4 a5 a6 k, LeO (edit_Encode.f k a0 a1 a2 a3 a4 a5 a6) (edit_Encode.f (k + 1) a0 a1 a2 a3 a4 a5 a6) := by
 intro a0 a1 a2 a3 a4 a5 a6 k
 unfold edit_Encode.f
 repeat' first
   | (with_reducible exact edit_nums.mono _ _)
   | (with_reducible exact wire_Text.mono _ _)
   | (with_reducible exact LeO.refl _)
   | (with_reducible exact LeO.none _)
   | (with_reducible refine LeO.ite ?_ ?_)
   | (with_reducible refine LeO.bind ?_ (fun _ => ?_))
   | exact edit_nums.mono _ _
   | exact wire_Text.mono _ _
   | exact LeO.none _
   | refine LeO.ite ?_ ?_
   | refine LeO.bind ?_ (fun _ => ?_)
def edit_Encode.T5 : Bool × List (List Nat × List Nat) := (true, [([], []), ([0], [0]), ([1], [1]), ([2], [2]), ([], []), ([3, 4], [3, 4]), ([], []), ([5, 6], [5, 6]), ([], []), ([8], [8]), ([], []), ([10], [10]), ([], []), ([12], [12]), ([], []), ([14], [14]), ([15], [15]), ([9, 11, 13, 16], [9, 11, 13, 16]), ([17, 3], [17]), ([7, 18], [7, 18]), ([], []), ([20], [20]), ([21, 18], [21]), ([19, 22], [19, 22]), ([23, 22, 0, 1, 2, 3, 4, 5, 6, 7, 8, 9, 10, 11, 12, 13, 14, 15, 16, 17, 18, 19, 20, 21, 22, 23], [23]), ([24, 0, 1, 2, 3, 4, 5, 6, 7, 8, 9, 10, 11, 12, 13, 14, 15, 16, 17, 18, 19, 20, 21, 22, 23, 24], [])])
def edit_Encode.B5 : List Nat := [0, 1, 3, 7, 0, 31, 0, 127, 0, 256, 0, 1024, 0, 4096, 0, 16384, 49152, 130816, 261903, 524287, 0, 1048576, 3669775, 8388607, 16777215, 33554431]
theorem edit_Encode.tab5 : rtab .any (opsOf Try.f13 5) = edit_Encode.T5 := by kernel_rfl
theorem edit_Encode.bits5 : waitsOk edit_Encode.T5.2 edit_Encode.B5 = true := by kernel_rfl
set_option maxHeartbeats 8000000 in
set_option maxRecDepth 100000 in
theorem edit_Encode.calls (k : Nat) (a0_0 : Int) (a0_1 : ByteArray) (a0_2 : ByteArray) (a0_3 : Int) (a0_4 : Int) (a0_5 : Int) (A0_6 : Option Addr) (c0_6 : Nat) (l0_6 : List Int) (r1 : ByteArray) (r2 : Int) (w : World) (hr0_6 : Kd.C (Kd.int .i64) w A0_6 l0_6.length l0_6) (hc0_6 : l0_6.length ≤ c0_6) (h : edit_Encode.f k a0_0 a0_1 a0_2 a0_3 a0_4 a0_5 l0_6 = some (r1, r2)) :
  Calls Try.prog 13 #[.agg #[.int .i64 a0_0, .string a0_1, .string a0_2, .int .i64 a0_3, .int .i64 a0_4, .int .i64 a0_5, .slice A0_6 l0_6.length c0_6]] w fun e w' => e = .returned (.tuple #[.string r1, .int .i64 r2]) ∧ Below w.heap.size w w' := by
 have hu28 := Try.underlying28
 have HR0_6 := Aside0.mk hr0_6
 have HC0_6 := Aside0.mk hc0_6
 clear hr0_6 hc0_6
 have HB := Aside0.mk (Below.refl w.heap.size w)
 have H : ((edit_Right.f a0_0 a0_1 a0_2 a0_3 a0_4 a0_5 l0_6).bind fun t109 => (if t109 = true then ((wire_Text.f k a0_1).bind fun bt110 => ((wire_Text.f k a0_2).bind fun bt112 => ((edit_nums.f k (([a0_0] : List Int))).bind fun t117 => (if t117.size + bt110.1.size ≤ 9223372036854775807 then (if (t117 ++ bt110.1).size + bt112.1.size ≤ 9223372036854775807 then ((edit_nums.f k (([a0_3, a0_4, a0_5, (l0_6.length : Int)] : List Int))).bind fun t121 => (if ((t117 ++ bt110.1) ++ bt112.1).size + t121.size ≤ 9223372036854775807 then ((edit_nums.f k l0_6).bind fun t122 => (if (((t117 ++ bt110.1) ++ bt112.1) ++ t121).size + t122.size ≤ 9223372036854775807 then (some ((((t117 ++ bt110.1) ++ bt112.1) ++ t121) ++ t122, 0)) else (none))) else (none))) else (none)) else (none))))) else (some ((⟨#[]⟩ : ByteArray), 1)))) = some (r1, r2) := h
 clear h
 replace H := Option.bind_eq_some_iff.mp H
 obtain ⟨t109, A20, H⟩ := H
 replace H : (if t109 = true then ((wire_Text.f k a0_1).bind fun bt110 => ((wire_Text.f k a0_2).bind fun bt112 => ((edit_nums.f k (([a0_0] : List Int))).bind fun t117 => (if t117.size + bt110.1.size ≤ 9223372036854775807 then (if (t117 ++ bt110.1).size + bt112.1.size ≤ 9223372036854775807 then ((edit_nums.f k (([a0_3, a0_4, a0_5, (l0_6.length : Int)] : List Int))).bind fun t121 => (if ((t117 ++ bt110.1) ++ bt112.1).size + t121.size ≤ 9223372036854775807 then ((edit_nums.f k l0_6).bind fun t122 => (if (((t117 ++ bt110.1) ++ bt112.1) ++ t121).size + t122.size ≤ 9223372036854775807 then (some ((((t117 ++ bt110.1) ++ bt112.1) ++ t121) ++ t122, 0)) else (none))) else (none))) else (none)) else (none))))) else (some ((⟨#[]⟩ : ByteArray), 1))) = some (r1, r2) := H
 have A2 := Aside0.mk A20
 clear A20
 by_cases c3 : t109 = true
 ·
  subst c3
  have H1 : ((wire_Text.f k a0_1).bind fun bt110 => ((wire_Text.f k a0_2).bind fun bt112 => ((edit_nums.f k (([a0_0] : List Int))).bind fun t117 => (if t117.size + bt110.1.size ≤ 9223372036854775807 then (if (t117 ++ bt110.1).size + bt112.1.size ≤ 9223372036854775807 then ((edit_nums.f k (([a0_3, a0_4, a0_5, (l0_6.length : Int)] : List Int))).bind fun t121 => (if ((t117 ++ bt110.1) ++ bt112.1).size + t121.size ≤ 9223372036854775807 then ((edit_nums.f k l0_6).bind fun t122 => (if (((t117 ++ bt110.1) ++ bt112.1) ++ t121).size + t122.size ≤ 9223372036854775807 then (some ((((t117 ++ bt110.1) ++ bt112.1) ++ t121) ++ t122, 0)) else (none))) else (none))) else (none)) else (none))))) = some (r1, r2) := by rw [if_pos rfl] at H; exact H
  clear H
  have H := H1
  clear H1
  replace H := Option.bind_eq_some_iff.mp H
  obtain ⟨⟨t110, t111⟩, A40, H⟩ := H
  replace H : ((wire_Text.f k a0_2).bind fun bt112 => ((edit_nums.f k (([a0_0] : List Int))).bind fun t117 => (if t117.size + t110.size ≤ 9223372036854775807 then (if (t117 ++ t110).size + bt112.1.size ≤ 9223372036854775807 then ((edit_nums.f k (([a0_3, a0_4, a0_5, (l0_6.length : Int)] : List Int))).bind fun t121 => (if ((t117 ++ t110) ++ bt112.1).size + t121.size ≤ 9223372036854775807 then ((edit_nums.f k l0_6).bind fun t122 => (if (((t117 ++ t110) ++ bt112.1) ++ t121).size + t122.size ≤ 9223372036854775807 then (some ((((t117 ++ t110) ++ bt112.1) ++ t121) ++ t122, 0)) else (none))) else (none))) else (none)) else (none)))) = some (r1, r2) := H
  have A4 := Aside0.mk A40
  clear A40
  replace H := Option.bind_eq_some_iff.mp H
  obtain ⟨⟨t112, t113⟩, A50, H⟩ := H
  replace H : ((edit_nums.f k (([a0_0] : List Int))).bind fun t117 => (if t117.size + t110.size ≤ 9223372036854775807 then (if (t117 ++ t110).size + t112.size ≤ 9223372036854775807 then ((edit_nums.f k (([a0_3, a0_4, a0_5, (l0_6.length : Int)] : List Int))).bind fun t121 => (if ((t117 ++ t110) ++ t112).size + t121.size ≤ 9223372036854775807 then ((edit_nums.f k l0_6).bind fun t122 => (if (((t117 ++ t110) ++ t112) ++ t121).size + t122.size ≤ 9223372036854775807 then (some ((((t117 ++ t110) ++ t112) ++ t121) ++ t122, 0)) else (none))) else (none))) else (none)) else (none))) = some (r1, r2) := H
  have A5 := Aside0.mk A50
  clear A50
  obtain ⟨y114, hy114⟩ : ∃ y_ : List Int, y_ = (([a0_0] : List Int)) := ⟨_, rfl⟩
  replace H : ((edit_nums.f k y114).bind fun t117 => (if t117.size + t110.size ≤ 9223372036854775807 then (if (t117 ++ t110).size + t112.size ≤ 9223372036854775807 then ((edit_nums.f k (([a0_3, a0_4, a0_5, (l0_6.length : Int)] : List Int))).bind fun t121 => (if ((t117 ++ t110) ++ t112).size + t121.size ≤ 9223372036854775807 then ((edit_nums.f k l0_6).bind fun t122 => (if (((t117 ++ t110) ++ t112) ++ t121).size + t122.size ≤ 9223372036854775807 then (some ((((t117 ++ t110) ++ t112) ++ t121) ++ t122, 0)) else (none))) else (none))) else (none)) else (none))) = some (r1, r2) := by first | (rw [hy114]; with_reducible exact H) | (have H2_ := (Option.bind_some _ _).symm.trans H; rw [hy114]; with_reducible exact H2_) | (have H2_ := (Option.bind_some _ _).symm.trans H; with_reducible exact H2_) | with_reducible exact H | (rw [hy114]; exact H) | exact H
  have Ny114 := Aside0.mk hy114
  clear hy114
  replace H := Option.bind_eq_some_iff.mp H
  obtain ⟨t117, A60, H⟩ := H
  replace H : (if t117.size + t110.size ≤ 9223372036854775807 then (if (t117 ++ t110).size + t112.size ≤ 9223372036854775807 then ((edit_nums.f k (([a0_3, a0_4, a0_5, (l0_6.length : Int)] : List Int))).bind fun t121 => (if ((t117 ++ t110) ++ t112).size + t121.size ≤ 9223372036854775807 then ((edit_nums.f k l0_6).bind fun t122 => (if (((t117 ++ t110) ++ t112) ++ t121).size + t122.size ≤ 9223372036854775807 then (some ((((t117 ++ t110) ++ t112) ++ t121) ++ t122, 0)) else (none))) else (none))) else (none)) else (none)) = some (r1, r2) := H
  have A6 := Aside0.mk A60
  clear A60
  by_cases c7 : t117.size + t110.size ≤ 9223372036854775807
  ·
   rw [if_pos c7] at H
   have c7b0 := eq_true c7
   have c7b1 : decide (t117.size + t110.size ≤ 9223372036854775807) = true := decide_eq_true c7
   try have c7b2 : (9223372036854775807 < t117.size + t110.size) = False := eq_false (Nat.not_lt.2 c7)
   by_cases c8 : (t117 ++ t110).size + t112.size ≤ 9223372036854775807
   ·
    rw [if_pos c8] at H
    have c8b0 := eq_true c8
    have c8b1 : decide ((t117 ++ t110).size + t112.size ≤ 9223372036854775807) = true := decide_eq_true c8
    try have c8b2 : (9223372036854775807 < (t117 ++ t110).size + t112.size) = False := eq_false (Nat.not_lt.2 c8)
    (try (have c8b3 := c8b2; simp only [ByteArray.size_extract, ByteArray.size_append, Nat.min_self] at c8b3; (try (have c8b4 := c8b3; simp only [show ∀ a_ : UInt8, (⟨#[a_]⟩ : ByteArray).size = 1 from fun _ => rfl] at c8b4))))
    obtain ⟨y118, hy118⟩ : ∃ y_ : List Int, y_ = (([a0_3, a0_4, a0_5, (l0_6.length : Int)] : List Int)) := ⟨_, rfl⟩
    replace H : ((edit_nums.f k y118).bind fun t121 => (if ((t117 ++ t110) ++ t112).size + t121.size ≤ 9223372036854775807 then ((edit_nums.f k l0_6).bind fun t122 => (if (((t117 ++ t110) ++ t112) ++ t121).size + t122.size ≤ 9223372036854775807 then (some ((((t117 ++ t110) ++ t112) ++ t121) ++ t122, 0)) else (none))) else (none))) = some (r1, r2) := by first | (rw [hy118]; with_reducible exact H) | (have H2_ := (Option.bind_some _ _).symm.trans H; rw [hy118]; with_reducible exact H2_) | (have H2_ := (Option.bind_some _ _).symm.trans H; with_reducible exact H2_) | with_reducible exact H | (rw [hy118]; exact H) | exact H
    have Ny118 := Aside0.mk hy118
    clear hy118
    replace H := Option.bind_eq_some_iff.mp H
    obtain ⟨t121, A90, H⟩ := H
    replace H : (if ((t117 ++ t110) ++ t112).size + t121.size ≤ 9223372036854775807 then ((edit_nums.f k l0_6).bind fun t122 => (if (((t117 ++ t110) ++ t112) ++ t121).size + t122.size ≤ 9223372036854775807 then (some ((((t117 ++ t110) ++ t112) ++ t121) ++ t122, 0)) else (none))) else (none)) = some (r1, r2) := H
    have A9 := Aside0.mk A90
    clear A90
    by_cases c10 : ((t117 ++ t110) ++ t112).size + t121.size ≤ 9223372036854775807
    ·
     rw [if_pos c10] at H
     have c10b0 := eq_true c10
     have c10b1 : decide (((t117 ++ t110) ++ t112).size + t121.size ≤ 9223372036854775807) = true := decide_eq_true c10
     try have c10b2 : (9223372036854775807 < ((t117 ++ t110) ++ t112).size + t121.size) = False := eq_false (Nat.not_lt.2 c10)
     (try (have c10b3 := c10b2; simp only [ByteArray.size_extract, ByteArray.size_append, Nat.min_self] at c10b3; (try (have c10b4 := c10b3; simp only [show ∀ a_ : UInt8, (⟨#[a_]⟩ : ByteArray).size = 1 from fun _ => rfl] at c10b4))))
     replace H := Option.bind_eq_some_iff.mp H
     obtain ⟨t122, A110, H⟩ := H
     replace H : (if (((t117 ++ t110) ++ t112) ++ t121).size + t122.size ≤ 9223372036854775807 then (some ((((t117 ++ t110) ++ t112) ++ t121) ++ t122, 0)) else (none)) = some (r1, r2) := H
     have A11 := Aside0.mk A110
     clear A110
     by_cases c12 : (((t117 ++ t110) ++ t112) ++ t121).size + t122.size ≤ 9223372036854775807
     ·
      rw [if_pos c12] at H
      have c12b0 := eq_true c12
      have c12b1 : decide ((((t117 ++ t110) ++ t112) ++ t121).size + t122.size ≤ 9223372036854775807) = true := decide_eq_true c12
      try have c12b2 : (9223372036854775807 < (((t117 ++ t110) ++ t112) ++ t121).size + t122.size) = False := eq_false (Nat.not_lt.2 c12)
      (try (have c12b3 := c12b2; simp only [ByteArray.size_extract, ByteArray.size_append, Nat.min_self] at c12b3; (try (have c12b4 := c12b3; simp only [show ∀ a_ : UInt8, (⟨#[a_]⟩ : ByteArray).size = 1 from fun _ => rfl] at c12b4))))
      simp only [Option.some.injEq, Prod.mk.injEq] at H
      obtain ⟨rfl, rfl⟩ := H
      go_enter Try.func13, Try.ntmps13
      try go_wp2_with (first | ((with_reducible refine gate_dst (N := 1) rfl ?_); refine box_event ?hg (N := 1) ?hd (cs := #[.int .i64 a0_0, .string a0_1, .string a0_2, .int .i64 a0_3, .int .i64 a0_4, .int .i64 a0_5, .slice A0_6 l0_6.length c0_6]) (t := 28) ?hr ?_; (case hd => rfl); (case hg => rfl); (case hr => first | (go_simp; done) | (go_simp; rfl)); intro gb108 hg w13 hbox hb; have n0_ := Aside0.mk (below_step (by exact bw0 HB) hb); have n1_ := Aside0.mk (hbox); have n2_ := Aside0.mk ((by rw [hg]; exact (below_size (by exact bw0 HB)) : w.heap.size ≤ gb108)); have n3_ := Aside0.mk ((by rw [hg]; exact (below_size (by exact bw0 HB)) : w.heap.size ≤ gb108)); clear HB; have HB := n0_; have BK108 := n1_; have GW108 := n2_; have GE108 := n3_; clear n0_ n1_ n2_ n3_; clear hb hbox hg; have hcz14_0 : w13.cell? ⟨gb108, 0, none⟩ = some (.int .i64 a0_0) := (blk_cell BK108.out 0).trans rfl; have hcz14_1 : w13.cell? ⟨gb108, 1, none⟩ = some (.string a0_1) := (blk_cell BK108.out 1).trans rfl; have hcz14_2 : w13.cell? ⟨gb108, 2, none⟩ = some (.string a0_2) := (blk_cell BK108.out 2).trans rfl; have hcz14_3 : w13.cell? ⟨gb108, 3, none⟩ = some (.int .i64 a0_3) := (blk_cell BK108.out 3).trans rfl; have hcz14_4 : w13.cell? ⟨gb108, 4, none⟩ = some (.int .i64 a0_4) := (blk_cell BK108.out 4).trans rfl; have hcz14_5 : w13.cell? ⟨gb108, 5, none⟩ = some (.int .i64 a0_5) := (blk_cell BK108.out 5).trans rfl; have hcz14_6 : w13.cell? ⟨gb108, 6, none⟩ = some (.slice A0_6 l0_6.length c0_6) := (blk_cell BK108.out 6).trans rfl; have hfz14_0 := blk_frozen BK108.out 0; have hfz14_1 := blk_frozen BK108.out 1; have hfz14_2 := blk_frozen BK108.out 2; have hfz14_3 := blk_frozen BK108.out 3; have hfz14_4 := blk_frozen BK108.out 4; have hfz14_5 := blk_frozen BK108.out 5; have hfz14_6 := blk_frozen BK108.out 6) | ((with_reducible refine gate_callee (f := 22) rfl ?_); refine goesL_ (some 9) rfl rfl Try.func22 (by kernel_rfl) rfl #[.agg #[.int .i64 a0_0, .string a0_1, .string a0_2, .int .i64 a0_3, .int .i64 a0_4, .int .i64 a0_5, .slice A0_6 l0_6.length c0_6]] rfl (by (try simp only [List.map_toArray, List.map_cons, List.map_nil]); first | done | rfl | (simp only [List.length_drop, List.length_take]; rfl)) ?_; (with_reducible refine (edit_Right.calls a0_0 a0_1 a0_2 a0_3 a0_4 a0_5 _ _ l0_6 true _ ?side1 ?side2 A2.out).mono ?_); (case side1 => repeat (first | exact (Kd.C_below HR0_6.out HB.out) | (with_reducible refine Kd.C_alloc ?_ _) | (with_reducible refine Kd.C_drewN ?_ _) | (with_reducible refine Kd.C_drew ?_))); (case side2 => exact HC0_6.out); rintro e w15 ⟨rfl, hb⟩; refine ⟨_, rfl, ?_⟩; have n0_ := Aside0.mk (blk_below (g := gb108) (o := .cells #[.int .i64 a0_0, .string a0_1, .string a0_2, .int .i64 a0_3, .int .i64 a0_4, .int .i64 a0_5, .slice A0_6 l0_6.length c0_6] 28 (0, 0)) (kx BK108) hb); have n1_ := Aside0.mk (below_step (by exact bw1 HB GE108.out) hb); clear BK108; clear HB; have BK108 := n0_; have HB := n1_; clear n0_ n1_; (try clear hb); (try clear hb2); (try clear hk); (try clear hi); have hcz16_0 : w15.cell? ⟨gb108, 0, none⟩ = some (.int .i64 a0_0) := (blk_cell BK108.out 0).trans rfl; have hcz16_1 : w15.cell? ⟨gb108, 1, none⟩ = some (.string a0_1) := (blk_cell BK108.out 1).trans rfl; have hcz16_2 : w15.cell? ⟨gb108, 2, none⟩ = some (.string a0_2) := (blk_cell BK108.out 2).trans rfl; have hcz16_3 : w15.cell? ⟨gb108, 3, none⟩ = some (.int .i64 a0_3) := (blk_cell BK108.out 3).trans rfl; have hcz16_4 : w15.cell? ⟨gb108, 4, none⟩ = some (.int .i64 a0_4) := (blk_cell BK108.out 4).trans rfl; have hcz16_5 : w15.cell? ⟨gb108, 5, none⟩ = some (.int .i64 a0_5) := (blk_cell BK108.out 5).trans rfl; have hcz16_6 : w15.cell? ⟨gb108, 6, none⟩ = some (.slice A0_6 l0_6.length c0_6) := (blk_cell BK108.out 6).trans rfl; have hfz16_0 := blk_frozen BK108.out 0; have hfz16_1 := blk_frozen BK108.out 1; have hfz16_2 := blk_frozen BK108.out 2; have hfz16_3 := blk_frozen BK108.out 3; have hfz16_4 := blk_frozen BK108.out 4; have hfz16_5 := blk_frozen BK108.out 5; have hfz16_6 := blk_frozen BK108.out 6) | ((with_reducible refine gate_callee (f := 23) rfl ?_); refine goesL_ (some 14) rfl rfl Try.func23 (by kernel_rfl) rfl #[.string a0_1] rfl (by (try simp only [List.map_toArray, List.map_cons, List.map_nil]); first | done | rfl | (simp only [List.length_drop, List.length_take]; rfl)) ?_; (with_reducible refine (wire_Text.calls k a0_1 t110 t111 _ A4.out).mono ?_); rintro e w17 ⟨rfl, hb⟩; refine ⟨_, rfl, ?_⟩; have n0_ := Aside0.mk (blk_below (g := gb108) (o := .cells #[.int .i64 a0_0, .string a0_1, .string a0_2, .int .i64 a0_3, .int .i64 a0_4, .int .i64 a0_5, .slice A0_6 l0_6.length c0_6] 28 (0, 0)) (kx BK108) hb); have n1_ := Aside0.mk (below_step (by exact bw1 HB GE108.out) hb); clear BK108; clear HB; have BK108 := n0_; have HB := n1_; clear n0_ n1_; (try clear hb); (try clear hb2); (try clear hk); (try clear hi); have hcz18_0 : w17.cell? ⟨gb108, 0, none⟩ = some (.int .i64 a0_0) := (blk_cell BK108.out 0).trans rfl; have hcz18_1 : w17.cell? ⟨gb108, 1, none⟩ = some (.string a0_1) := (blk_cell BK108.out 1).trans rfl; have hcz18_2 : w17.cell? ⟨gb108, 2, none⟩ = some (.string a0_2) := (blk_cell BK108.out 2).trans rfl; have hcz18_3 : w17.cell? ⟨gb108, 3, none⟩ = some (.int .i64 a0_3) := (blk_cell BK108.out 3).trans rfl; have hcz18_4 : w17.cell? ⟨gb108, 4, none⟩ = some (.int .i64 a0_4) := (blk_cell BK108.out 4).trans rfl; have hcz18_5 : w17.cell? ⟨gb108, 5, none⟩ = some (.int .i64 a0_5) := (blk_cell BK108.out 5).trans rfl; have hcz18_6 : w17.cell? ⟨gb108, 6, none⟩ = some (.slice A0_6 l0_6.length c0_6) := (blk_cell BK108.out 6).trans rfl; have hfz18_0 := blk_frozen BK108.out 0; have hfz18_1 := blk_frozen BK108.out 1; have hfz18_2 := blk_frozen BK108.out 2; have hfz18_3 := blk_frozen BK108.out 3; have hfz18_4 := blk_frozen BK108.out 4; have hfz18_5 := blk_frozen BK108.out 5; have hfz18_6 := blk_frozen BK108.out 6) | ((with_reducible refine gate_callee (f := 23) rfl ?_); refine goesL_ (some 20) rfl rfl Try.func23 (by kernel_rfl) rfl #[.string a0_2] rfl (by (try simp only [List.map_toArray, List.map_cons, List.map_nil]); first | done | rfl | (simp only [List.length_drop, List.length_take]; rfl)) ?_; (with_reducible refine (wire_Text.calls k a0_2 t112 t113 _ A5.out).mono ?_); rintro e w19 ⟨rfl, hb⟩; refine ⟨_, rfl, ?_⟩; have n0_ := Aside0.mk (blk_below (g := gb108) (o := .cells #[.int .i64 a0_0, .string a0_1, .string a0_2, .int .i64 a0_3, .int .i64 a0_4, .int .i64 a0_5, .slice A0_6 l0_6.length c0_6] 28 (0, 0)) (kx BK108) hb); have n1_ := Aside0.mk (below_step (by exact bw1 HB GE108.out) hb); clear BK108; clear HB; have BK108 := n0_; have HB := n1_; clear n0_ n1_; (try clear hb); (try clear hb2); (try clear hk); (try clear hi)))
      have n0_ := Aside0.mk (blk_drew BK108.out)
      have n1_ := Aside0.mk (below_drew1 HB.out)
      clear BK108; clear HB
      have BK108 := n0_
      have HB := n1_; clear n0_ n1_
      refine start_ (n := 26) (S := fun w' => True) (ds := []) (nz 26 0) (by kernel_rfl) rfl (by kernel_rfl) trivial (fun hHeld => ?_); refine with_tabW edit_Encode.tab5 edit_Encode.bits5 (fun HT_ HW_ => ?_)
      generalize w19.drew = w20 at BK108 HB hHeld ⊢
      refine zp HT_ 0 23 1 ?_
      refine zp HT_ 4 27 17 ?_
      refine zp HT_ 6 29 81 ?_
      refine zp HT_ 8 31 337 ?_
      refine zp HT_ 10 33 1361 ?_
      refine zp HT_ 12 35 5457 ?_
      refine zp HT_ 14 37 21841 ?_
      refine zp HT_ 20 43 1070417 ?_
      refine inv_at [1, 2, 3, 5, 7, 9, 11, 13, 15, 16, 17, 18, 19, 21, 22, 23, 24, 25] (fun a0_ b a w' => ∃ (v115 : Value) (v119 : Value), a = putSel a0_ b [(1, 24, .int .i64 a0_0), (2, 25, v115), (3, 26, .string t117), (5, 28, .string (t117 ++ t110)), (7, 30, .string ((t117 ++ t110) ++ t112)), (9, 32, .int .i64 a0_3), (11, 34, .int .i64 a0_4), (13, 36, .int .i64 a0_5), (15, 38, .slice A0_6 l0_6.length c0_6), (16, 39, .int .i64 (l0_6.length : Int)), (17, 40, v119), (18, 41, .string t121), (19, 42, .string (((t117 ++ t110) ++ t112) ++ t121)), (21, 44, .slice A0_6 l0_6.length c0_6), (22, 45, .string t122), (23, 46, .string ((((t117 ++ t110) ++ t112) ++ t121) ++ t122)), (24, 2, .string ((((t117 ++ t110) ++ t112) ++ t121) ++ t122)), (25, 3, .int .i64 0)] ∧ (w'.heap[gb108]? = some (.cells #[.int .i64 a0_0, .string a0_1, .string a0_2, .int .i64 a0_3, .int .i64 a0_4, .int .i64 a0_5, .slice A0_6 l0_6.length c0_6] 28 (0, 0))) ∧ (Below w.heap.size w w') ∧ (b 2 = true → Kd.R (Kd.int .i64) 3 w' w.heap.size (fun _ => True) v115 y114) ∧ (b 17 = true → Kd.R (Kd.int .i64) 3 w' w.heap.size (fun _ => True) v119 y118)) HT_.out HW_.out (by kernel_rfl) (by kernel_rfl) ?_ ?_ ?_
      ·
       exact ⟨.bool false, .bool false, by simp only [putSel, Bool.false_eq_true, if_false], BK108.out, HB.out, fun h_ => absurd h_ (by decide), fun h_ => absurd h_ (by decide)⟩
      ·
       skip
       clear BK108 HB
       refine steps_cons ?_ ?_
       ·
        rintro b a w' ⟨v115, v119, ha, Q_BK108, Q_HB, Q_HO116, Q_HO120⟩ hb_ hon hoff
        refine ⟨_, rfl, fun K hK => ?_⟩
        have e23 : a.tmps[23]? = some (.pointer (some ⟨gb108, 0, none⟩)) := by rw [ha]; exact (putSel_off rfl).trans rfl
        replace ha := Aside0.mk ha
        have BK108 := Aside0.mk Q_BK108
        have HB := Aside0.mk Q_HB
        have hc0_ : w'.cell? ⟨gb108, 0, none⟩ = some (.int .i64 a0_0) := (blk_cell BK108.out 0).trans rfl
        have hc1_ : w'.cell? ⟨gb108, 1, none⟩ = some (.string a0_1) := (blk_cell BK108.out 1).trans rfl
        have hc2_ : w'.cell? ⟨gb108, 2, none⟩ = some (.string a0_2) := (blk_cell BK108.out 2).trans rfl
        have hc3_ : w'.cell? ⟨gb108, 3, none⟩ = some (.int .i64 a0_3) := (blk_cell BK108.out 3).trans rfl
        have hc4_ : w'.cell? ⟨gb108, 4, none⟩ = some (.int .i64 a0_4) := (blk_cell BK108.out 4).trans rfl
        have hc5_ : w'.cell? ⟨gb108, 5, none⟩ = some (.int .i64 a0_5) := (blk_cell BK108.out 5).trans rfl
        have hc6_ : w'.cell? ⟨gb108, 6, none⟩ = some (.slice A0_6 l0_6.length c0_6) := (blk_cell BK108.out 6).trans rfl
        refine value_ (w1 := w') (v := .int .i64 a0_0) (by rfl) rfl ?_ ?_
        ·
         go_simp
         (try simp only [i64_w])
         try rfl
         all_goals (try (simp only [ByteArray.size_append] at *; omega))
        refine hK.out _ _ ⟨v115, v119, (by rw [ha.out]; exact putSel_upk 0 hb_ rfl rfl rfl), Q_BK108, Q_HB, fun h0_ => absurd ((hoff 2 (by kernel_rfl)).symm.trans h0_) (by decide), Q_HO120⟩
       refine steps_cons ?_ ?_
       ·
        rintro b a w' ⟨v115, v119, ha, Q_BK108, Q_HB, Q_HO116, Q_HO120⟩ hb_ hon hoff
        refine ⟨_, rfl, fun K hK => ?_⟩
        have e24 : a.tmps[24]? = some (.int .i64 a0_0) := by rw [ha]; exact putSel_on (e := (1, 24, .int .i64 a0_0)) 0 rfl rfl (hon 1 (by kernel_rfl)) rfl
        replace ha := Aside0.mk ha
        have BK108 := Aside0.mk Q_BK108
        have HB := Aside0.mk Q_HB
        refine Kd.R_lit_step (Kd.int .i64) _ 3 ?hg (N := 25) ?hd (xs := ([a0_0] : List Int)) (inner := [.int .i64 a0_0]) (ok := fun _ => True) (okp := fun _ => True) ?hr ?hp (fun _ hk => hk) trivial (Below.refl _ _) (Nat.le_refl _) (by simp) ?_; (case hd => rfl); (case hg => rfl); (case hr => first | (go_simp; done) | (go_simp; rfl)); (case hp => exact (Reps.one (show Kd.M (Kd.int .i64) _ _ _ a0_0 [.int .i64 a0_0] from rfl) (Reps.none _ _)))
        intro v115 w21 ho22 hb hg_ hnew_
        clear hg_ hnew_
        (first | rw [← Ny114.out] at ho22 | (simp only [Int.reduceToNat] at ho22; rw [← Ny114.out] at ho22))
        have n0_ := Aside0.mk (Kd.R_lower ho22 (below_size (by exact bw1 HB GE108.out)))
        have n1_ := Aside0.mk (blk_below (g := gb108) (o := .cells #[.int .i64 a0_0, .string a0_1, .string a0_2, .int .i64 a0_3, .int .i64 a0_4, .int .i64 a0_5, .slice A0_6 l0_6.length c0_6] 28 (0, 0)) (kx BK108) hb)
        have n2_ := Aside0.mk (below_step (by exact bw1 HB GE108.out) hb)
        have z_HO120 := fun (h0_ : b 17 = true) => (show Kd.R (Kd.int .i64) 3 w21 w.heap.size (fun _ => True) v119 y118 from by first | exact (Kd.R_elder' (by (with_reducible repeat (first | apply Kd.R_alloc | apply Kd.R_drewN | apply Kd.R_drew)); exact (Q_HO120 h0_)) (Kd.R_base ho22) hb) | exact Kd.R_mono (Kd.R_elder' (by (with_reducible repeat (first | apply Kd.R_alloc | apply Kd.R_drewN | apply Kd.R_drew)); exact (Q_HO120 h0_)) (Kd.R_base ho22) hb) (fun _ h_ => by first | trivial | exact h_ | exact h_.1))
        clear BK108; clear HB
        have HO116 := n0_
        have BK108 := n1_
        have HB := n2_; clear n0_ n1_ n2_; clear hb ho22
        refine hK.out _ _ ⟨v115, v119, (by rw [ha.out]; exact putSel_upk 1 hb_ rfl rfl rfl), (kx BK108), (by exact bw1 HB GE108.out), fun _ => (by (with_reducible repeat (first | apply Kd.R_alloc | apply Kd.R_drewN | apply Kd.R_drew)); exact HO116.out), z_HO120⟩
       refine steps_cons ?_ ?_
       ·
        rintro b a w' ⟨v115, v119, ha, Q_BK108, Q_HB, Q_HO116, Q_HO120⟩ hb_ hon hoff
        refine ⟨_, rfl, fun K hK => ?_⟩
        have e25 : a.tmps[25]? = some (v115) := by rw [ha]; exact putSel_on (e := (2, 25, v115)) 1 rfl rfl (hon 2 (by kernel_rfl)) rfl
        replace ha := Aside0.mk ha
        have BK108 := Aside0.mk Q_BK108
        have HB := Aside0.mk Q_HB
        have HO116 := Aside0.mk (Q_HO116 (hon 2 (by kernel_rfl)))
        obtain ⟨Ao24, co24, eo24⟩ := Kd.R_slice HO116.out
        (first | subst eo24 | (injection eo24 with f1_ f2_ f3_; have f4_ := f1_.symm; have f5_ := f3_.symm; clear f1_ f2_ f3_; subst f4_; subst f5_))
        refine goes_ Try.func24 (by kernel_rfl) rfl #[.slice Ao24 y114.length co24] (by rfl) rfl rfl (by first | (simp only [List.map_toArray, List.map_cons, List.map_nil, Act.eval, Array.getD_eq_getD_getElem?, Option.getD_some, e25]; done) | (simp only [List.map_toArray, List.map_cons, List.map_nil, Act.eval, Array.getD_eq_getD_getElem?, Option.getD_some, e25]; rfl)) ?_
        with_reducible refine (edit_nums.calls k _ _ y114 t117 _ ?side1 ?side2 A6.out).mono ?_
        (case side1 => repeat (first | exact (Kd.R_reads' HO116.out).2.2 | (with_reducible refine Kd.C_alloc ?_ _) | (with_reducible refine Kd.C_drewN ?_ _) | (with_reducible refine Kd.C_drew ?_)))
        (case side2 => exact (Kd.R_reads' HO116.out).2.1)
        rintro e w25 ⟨rfl, hb⟩
        refine ⟨_, rfl, ?_⟩
        have n0_ := Aside0.mk (Kd.R_below (by (with_reducible repeat (first | apply Kd.R_alloc | apply Kd.R_drewN | apply Kd.R_drew)); exact HO116.out) hb)
        have n1_ := Aside0.mk (blk_below (g := gb108) (o := .cells #[.int .i64 a0_0, .string a0_1, .string a0_2, .int .i64 a0_3, .int .i64 a0_4, .int .i64 a0_5, .slice A0_6 l0_6.length c0_6] 28 (0, 0)) (kx BK108) hb)
        have n2_ := Aside0.mk (below_step (by exact bw1 HB GE108.out) hb)
        have z_HO120 := fun (h0_ : b 17 = true) => (show Kd.R (Kd.int .i64) 3 w25 w.heap.size (fun _ => True) v119 y118 from by first | exact (Kd.R_below (by (with_reducible repeat (first | apply Kd.R_alloc | apply Kd.R_drewN | apply Kd.R_drew)); exact (Q_HO120 h0_)) hb) | exact Kd.R_mono (Kd.R_below (by (with_reducible repeat (first | apply Kd.R_alloc | apply Kd.R_drewN | apply Kd.R_drew)); exact (Q_HO120 h0_)) hb) (fun _ h_ => by first | trivial | exact h_ | exact h_.1))
        clear HO116; clear BK108; clear HB
        have HO116 := n0_
        have BK108 := n1_
        have HB := n2_; clear n0_ n1_ n2_; (try clear hb); (try clear hb2); (try clear hk); (try clear hi)
        refine hK.out _ _ ⟨.slice Ao24 y114.length co24, v119, (by rw [ha.out]; exact putSel_upk 2 hb_ rfl rfl rfl), (kx BK108), (by exact bw1 HB GE108.out), fun _ => (by (with_reducible repeat (first | apply Kd.R_alloc | apply Kd.R_drewN | apply Kd.R_drew)); exact HO116.out), z_HO120⟩
       refine steps_cons ?_ ?_
       ·
        rintro b a w' ⟨v115, v119, ha, Q_BK108, Q_HB, Q_HO116, Q_HO120⟩ hb_ hon hoff
        refine ⟨_, rfl, fun K hK => ?_⟩
        have e26 : a.tmps[26]? = some (.string t117) := by rw [ha]; exact putSel_on (e := (3, 26, .string t117)) 2 rfl rfl (hon 3 (by kernel_rfl)) rfl
        have e27 : a.tmps[27]? = some (.string t110) := by rw [ha]; exact (putSel_off rfl).trans rfl
        replace ha := Aside0.mk ha
        have BK108 := Aside0.mk Q_BK108
        have HB := Aside0.mk Q_HB
        have HO116 := Aside0.mk (Q_HO116 (hon 2 (by kernel_rfl)))
        refine value_ (w1 := w') (v := .string (t117 ++ t110)) (by rfl) rfl ?_ ?_
        ·
         go_simp
         (try simp only [i64_w])
         try rfl
         all_goals (try (simp only [ByteArray.size_append] at *; omega))
        refine hK.out _ _ ⟨v115, v119, (by rw [ha.out]; exact putSel_upk 3 hb_ rfl rfl rfl), Q_BK108, Q_HB, Q_HO116, Q_HO120⟩
       refine steps_cons ?_ ?_
       ·
        rintro b a w' ⟨v115, v119, ha, Q_BK108, Q_HB, Q_HO116, Q_HO120⟩ hb_ hon hoff
        refine ⟨_, rfl, fun K hK => ?_⟩
        have e28 : a.tmps[28]? = some (.string (t117 ++ t110)) := by rw [ha]; exact putSel_on (e := (5, 28, .string (t117 ++ t110))) 3 rfl rfl (hon 5 (by kernel_rfl)) rfl
        have e29 : a.tmps[29]? = some (.string t112) := by rw [ha]; exact (putSel_off rfl).trans rfl
        replace ha := Aside0.mk ha
        have BK108 := Aside0.mk Q_BK108
        have HB := Aside0.mk Q_HB
        have HO116 := Aside0.mk (Q_HO116 (hon 2 (by kernel_rfl)))
        refine value_ (w1 := w') (v := .string ((t117 ++ t110) ++ t112)) (by rfl) rfl ?_ ?_
        ·
         go_simp
         (try simp only [i64_w])
         try rfl
         all_goals (try (simp only [ByteArray.size_append] at *; omega))
        refine hK.out _ _ ⟨v115, v119, (by rw [ha.out]; exact putSel_upk 4 hb_ rfl rfl rfl), Q_BK108, Q_HB, Q_HO116, Q_HO120⟩
       refine steps_cons ?_ ?_
       ·
        rintro b a w' ⟨v115, v119, ha, Q_BK108, Q_HB, Q_HO116, Q_HO120⟩ hb_ hon hoff
        refine ⟨_, rfl, fun K hK => ?_⟩
        have e31 : a.tmps[31]? = some (.pointer (some ⟨gb108, 3, none⟩)) := by rw [ha]; exact (putSel_off rfl).trans rfl
        replace ha := Aside0.mk ha
        have BK108 := Aside0.mk Q_BK108
        have HB := Aside0.mk Q_HB
        have hc0_ : w'.cell? ⟨gb108, 0, none⟩ = some (.int .i64 a0_0) := (blk_cell BK108.out 0).trans rfl
        have hc1_ : w'.cell? ⟨gb108, 1, none⟩ = some (.string a0_1) := (blk_cell BK108.out 1).trans rfl
        have hc2_ : w'.cell? ⟨gb108, 2, none⟩ = some (.string a0_2) := (blk_cell BK108.out 2).trans rfl
        have hc3_ : w'.cell? ⟨gb108, 3, none⟩ = some (.int .i64 a0_3) := (blk_cell BK108.out 3).trans rfl
        have hc4_ : w'.cell? ⟨gb108, 4, none⟩ = some (.int .i64 a0_4) := (blk_cell BK108.out 4).trans rfl
        have hc5_ : w'.cell? ⟨gb108, 5, none⟩ = some (.int .i64 a0_5) := (blk_cell BK108.out 5).trans rfl
        have hc6_ : w'.cell? ⟨gb108, 6, none⟩ = some (.slice A0_6 l0_6.length c0_6) := (blk_cell BK108.out 6).trans rfl
        refine value_ (w1 := w') (v := .int .i64 a0_3) (by rfl) rfl ?_ ?_
        ·
         go_simp
         (try simp only [i64_w])
         try rfl
         all_goals (try (simp only [ByteArray.size_append] at *; omega))
        refine hK.out _ _ ⟨v115, v119, (by rw [ha.out]; exact putSel_upk 5 hb_ rfl rfl rfl), Q_BK108, Q_HB, Q_HO116, fun h0_ => absurd ((hoff 17 (by kernel_rfl)).symm.trans h0_) (by decide)⟩
       refine steps_cons ?_ ?_
       ·
        rintro b a w' ⟨v115, v119, ha, Q_BK108, Q_HB, Q_HO116, Q_HO120⟩ hb_ hon hoff
        refine ⟨_, rfl, fun K hK => ?_⟩
        have e33 : a.tmps[33]? = some (.pointer (some ⟨gb108, 4, none⟩)) := by rw [ha]; exact (putSel_off rfl).trans rfl
        replace ha := Aside0.mk ha
        have BK108 := Aside0.mk Q_BK108
        have HB := Aside0.mk Q_HB
        have hc0_ : w'.cell? ⟨gb108, 0, none⟩ = some (.int .i64 a0_0) := (blk_cell BK108.out 0).trans rfl
        have hc1_ : w'.cell? ⟨gb108, 1, none⟩ = some (.string a0_1) := (blk_cell BK108.out 1).trans rfl
        have hc2_ : w'.cell? ⟨gb108, 2, none⟩ = some (.string a0_2) := (blk_cell BK108.out 2).trans rfl
        have hc3_ : w'.cell? ⟨gb108, 3, none⟩ = some (.int .i64 a0_3) := (blk_cell BK108.out 3).trans rfl
        have hc4_ : w'.cell? ⟨gb108, 4, none⟩ = some (.int .i64 a0_4) := (blk_cell BK108.out 4).trans rfl
        have hc5_ : w'.cell? ⟨gb108, 5, none⟩ = some (.int .i64 a0_5) := (blk_cell BK108.out 5).trans rfl
        have hc6_ : w'.cell? ⟨gb108, 6, none⟩ = some (.slice A0_6 l0_6.length c0_6) := (blk_cell BK108.out 6).trans rfl
        refine value_ (w1 := w') (v := .int .i64 a0_4) (by rfl) rfl ?_ ?_
        ·
         go_simp
         (try simp only [i64_w])
         try rfl
         all_goals (try (simp only [ByteArray.size_append] at *; omega))
        refine hK.out _ _ ⟨v115, v119, (by rw [ha.out]; exact putSel_upk 6 hb_ rfl rfl rfl), Q_BK108, Q_HB, Q_HO116, fun h0_ => absurd ((hoff 17 (by kernel_rfl)).symm.trans h0_) (by decide)⟩
       refine steps_cons ?_ ?_
       ·
        rintro b a w' ⟨v115, v119, ha, Q_BK108, Q_HB, Q_HO116, Q_HO120⟩ hb_ hon hoff
        refine ⟨_, rfl, fun K hK => ?_⟩
        have e35 : a.tmps[35]? = some (.pointer (some ⟨gb108, 5, none⟩)) := by rw [ha]; exact (putSel_off rfl).trans rfl
        replace ha := Aside0.mk ha
        have BK108 := Aside0.mk Q_BK108
        have HB := Aside0.mk Q_HB
        have hc0_ : w'.cell? ⟨gb108, 0, none⟩ = some (.int .i64 a0_0) := (blk_cell BK108.out 0).trans rfl
        have hc1_ : w'.cell? ⟨gb108, 1, none⟩ = some (.string a0_1) := (blk_cell BK108.out 1).trans rfl
        have hc2_ : w'.cell? ⟨gb108, 2, none⟩ = some (.string a0_2) := (blk_cell BK108.out 2).trans rfl
        have hc3_ : w'.cell? ⟨gb108, 3, none⟩ = some (.int .i64 a0_3) := (blk_cell BK108.out 3).trans rfl
        have hc4_ : w'.cell? ⟨gb108, 4, none⟩ = some (.int .i64 a0_4) := (blk_cell BK108.out 4).trans rfl
        have hc5_ : w'.cell? ⟨gb108, 5, none⟩ = some (.int .i64 a0_5) := (blk_cell BK108.out 5).trans rfl
        have hc6_ : w'.cell? ⟨gb108, 6, none⟩ = some (.slice A0_6 l0_6.length c0_6) := (blk_cell BK108.out 6).trans rfl
        refine value_ (w1 := w') (v := .int .i64 a0_5) (by rfl) rfl ?_ ?_
        ·
         go_simp
         (try simp only [i64_w])
         try rfl
         all_goals (try (simp only [ByteArray.size_append] at *; omega))
        refine hK.out _ _ ⟨v115, v119, (by rw [ha.out]; exact putSel_upk 7 hb_ rfl rfl rfl), Q_BK108, Q_HB, Q_HO116, fun h0_ => absurd ((hoff 17 (by kernel_rfl)).symm.trans h0_) (by decide)⟩
       refine steps_cons ?_ ?_
       ·
        rintro b a w' ⟨v115, v119, ha, Q_BK108, Q_HB, Q_HO116, Q_HO120⟩ hb_ hon hoff
        refine ⟨_, rfl, fun K hK => ?_⟩
        have e37 : a.tmps[37]? = some (.pointer (some ⟨gb108, 6, none⟩)) := by rw [ha]; exact (putSel_off rfl).trans rfl
        replace ha := Aside0.mk ha
        have BK108 := Aside0.mk Q_BK108
        have HB := Aside0.mk Q_HB
        have hc0_ : w'.cell? ⟨gb108, 0, none⟩ = some (.int .i64 a0_0) := (blk_cell BK108.out 0).trans rfl
        have hc1_ : w'.cell? ⟨gb108, 1, none⟩ = some (.string a0_1) := (blk_cell BK108.out 1).trans rfl
        have hc2_ : w'.cell? ⟨gb108, 2, none⟩ = some (.string a0_2) := (blk_cell BK108.out 2).trans rfl
        have hc3_ : w'.cell? ⟨gb108, 3, none⟩ = some (.int .i64 a0_3) := (blk_cell BK108.out 3).trans rfl
        have hc4_ : w'.cell? ⟨gb108, 4, none⟩ = some (.int .i64 a0_4) := (blk_cell BK108.out 4).trans rfl
        have hc5_ : w'.cell? ⟨gb108, 5, none⟩ = some (.int .i64 a0_5) := (blk_cell BK108.out 5).trans rfl
        have hc6_ : w'.cell? ⟨gb108, 6, none⟩ = some (.slice A0_6 l0_6.length c0_6) := (blk_cell BK108.out 6).trans rfl
        refine value_ (w1 := w') (v := .slice A0_6 l0_6.length c0_6) (by rfl) rfl ?_ ?_
        ·
         go_simp
         (try simp only [i64_w])
         try rfl
         all_goals (try (simp only [ByteArray.size_append] at *; omega))
        refine hK.out _ _ ⟨v115, v119, (by rw [ha.out]; exact putSel_upk 8 hb_ rfl rfl rfl), Q_BK108, Q_HB, Q_HO116, fun h0_ => absurd ((hoff 17 (by kernel_rfl)).symm.trans h0_) (by decide)⟩
       refine steps_cons ?_ ?_
       ·
        rintro b a w' ⟨v115, v119, ha, Q_BK108, Q_HB, Q_HO116, Q_HO120⟩ hb_ hon hoff
        refine ⟨_, rfl, fun K hK => ?_⟩
        have e38 : a.tmps[38]? = some (.slice A0_6 l0_6.length c0_6) := by rw [ha]; exact putSel_on (e := (15, 38, .slice A0_6 l0_6.length c0_6)) 8 rfl rfl (hon 15 (by kernel_rfl)) rfl
        replace ha := Aside0.mk ha
        have BK108 := Aside0.mk Q_BK108
        have HB := Aside0.mk Q_HB
        refine value_ (w1 := w') (v := .int .i64 (l0_6.length : Int)) (by rfl) rfl ?_ ?_
        ·
         go_simp
         (try simp only [i64_w])
         try rfl
         all_goals (try (simp only [ByteArray.size_append] at *; omega))
        refine hK.out _ _ ⟨v115, v119, (by rw [ha.out]; exact putSel_upk 9 hb_ rfl rfl rfl), Q_BK108, Q_HB, Q_HO116, fun h0_ => absurd ((hoff 17 (by kernel_rfl)).symm.trans h0_) (by decide)⟩
       refine steps_cons ?_ ?_
       ·
        rintro b a w' ⟨v115, v119, ha, Q_BK108, Q_HB, Q_HO116, Q_HO120⟩ hb_ hon hoff
        refine ⟨_, rfl, fun K hK => ?_⟩
        have e32 : a.tmps[32]? = some (.int .i64 a0_3) := by rw [ha]; exact putSel_on (e := (9, 32, .int .i64 a0_3)) 5 rfl rfl (hon 9 (by kernel_rfl)) rfl
        have e34 : a.tmps[34]? = some (.int .i64 a0_4) := by rw [ha]; exact putSel_on (e := (11, 34, .int .i64 a0_4)) 6 rfl rfl (hon 11 (by kernel_rfl)) rfl
        have e36 : a.tmps[36]? = some (.int .i64 a0_5) := by rw [ha]; exact putSel_on (e := (13, 36, .int .i64 a0_5)) 7 rfl rfl (hon 13 (by kernel_rfl)) rfl
        have e39 : a.tmps[39]? = some (.int .i64 (l0_6.length : Int)) := by rw [ha]; exact putSel_on (e := (16, 39, .int .i64 (l0_6.length : Int))) 9 rfl rfl (hon 16 (by kernel_rfl)) rfl
        replace ha := Aside0.mk ha
        have BK108 := Aside0.mk Q_BK108
        have HB := Aside0.mk Q_HB
        refine Kd.R_lit_step (Kd.int .i64) _ 3 ?hg (N := 40) ?hd (xs := ([a0_3, a0_4, a0_5, (l0_6.length : Int)] : List Int)) (inner := [.int .i64 a0_3, .int .i64 a0_4, .int .i64 a0_5, .int .i64 (l0_6.length : Int)]) (ok := fun _ => True) (okp := fun _ => True) ?hr ?hp (fun _ hk => hk) trivial (Below.refl _ _) (Nat.le_refl _) (by simp) ?_; (case hd => rfl); (case hg => rfl); (case hr => first | (go_simp; done) | (go_simp; rfl)); (case hp => exact (Reps.one (show Kd.M (Kd.int .i64) _ _ _ a0_3 [.int .i64 a0_3] from rfl) (Reps.one (show Kd.M (Kd.int .i64) _ _ _ a0_4 [.int .i64 a0_4] from rfl) (Reps.one (show Kd.M (Kd.int .i64) _ _ _ a0_5 [.int .i64 a0_5] from rfl) (Reps.one (show Kd.M (Kd.int .i64) _ _ _ (l0_6.length : Int) [.int .i64 (l0_6.length : Int)] from rfl) (Reps.none _ _))))))
        intro v119 w21 ho22 hb hg_ hnew_
        clear hg_ hnew_
        (first | rw [← Ny118.out] at ho22 | (simp only [Int.reduceToNat] at ho22; rw [← Ny118.out] at ho22))
        have n0_ := Aside0.mk (Kd.R_lower ho22 (below_size (by exact bw1 HB GE108.out)))
        have n1_ := Aside0.mk (blk_below (g := gb108) (o := .cells #[.int .i64 a0_0, .string a0_1, .string a0_2, .int .i64 a0_3, .int .i64 a0_4, .int .i64 a0_5, .slice A0_6 l0_6.length c0_6] 28 (0, 0)) (kx BK108) hb)
        have n2_ := Aside0.mk (below_step (by exact bw1 HB GE108.out) hb)
        have z_HO116 := fun (h0_ : b 2 = true) => (show Kd.R (Kd.int .i64) 3 w21 w.heap.size (fun _ => True) v115 y114 from by first | exact (Kd.R_elder' (by (with_reducible repeat (first | apply Kd.R_alloc | apply Kd.R_drewN | apply Kd.R_drew)); exact (Q_HO116 h0_)) (Kd.R_base ho22) hb) | exact Kd.R_mono (Kd.R_elder' (by (with_reducible repeat (first | apply Kd.R_alloc | apply Kd.R_drewN | apply Kd.R_drew)); exact (Q_HO116 h0_)) (Kd.R_base ho22) hb) (fun _ h_ => by first | trivial | exact h_ | exact h_.1))
        clear BK108; clear HB
        have HO120 := n0_
        have BK108 := n1_
        have HB := n2_; clear n0_ n1_ n2_; clear hb ho22
        refine hK.out _ _ ⟨v115, v119, (by rw [ha.out]; exact putSel_upk 10 hb_ rfl rfl rfl), (kx BK108), (by exact bw1 HB GE108.out), z_HO116, fun _ => (by (with_reducible repeat (first | apply Kd.R_alloc | apply Kd.R_drewN | apply Kd.R_drew)); exact HO120.out)⟩
       refine steps_cons ?_ ?_
       ·
        rintro b a w' ⟨v115, v119, ha, Q_BK108, Q_HB, Q_HO116, Q_HO120⟩ hb_ hon hoff
        refine ⟨_, rfl, fun K hK => ?_⟩
        have e40 : a.tmps[40]? = some (v119) := by rw [ha]; exact putSel_on (e := (17, 40, v119)) 10 rfl rfl (hon 17 (by kernel_rfl)) rfl
        replace ha := Aside0.mk ha
        have BK108 := Aside0.mk Q_BK108
        have HB := Aside0.mk Q_HB
        have HO116 := Aside0.mk (Q_HO116 (hon 2 (by kernel_rfl)))
        have HO120 := Aside0.mk (Q_HO120 (hon 17 (by kernel_rfl)))
        obtain ⟨Ao28, co28, eo28⟩ := Kd.R_slice HO120.out
        (first | subst eo28 | (injection eo28 with f1_ f2_ f3_; have f4_ := f1_.symm; have f5_ := f3_.symm; clear f1_ f2_ f3_; subst f4_; subst f5_))
        refine goes_ Try.func24 (by kernel_rfl) rfl #[.slice Ao28 y118.length co28] (by rfl) rfl rfl (by first | (simp only [List.map_toArray, List.map_cons, List.map_nil, Act.eval, Array.getD_eq_getD_getElem?, Option.getD_some, e40]; done) | (simp only [List.map_toArray, List.map_cons, List.map_nil, Act.eval, Array.getD_eq_getD_getElem?, Option.getD_some, e40]; rfl)) ?_
        with_reducible refine (edit_nums.calls k _ _ y118 t121 _ ?side1 ?side2 A9.out).mono ?_
        (case side1 => repeat (first | exact (Kd.R_reads' HO120.out).2.2 | (with_reducible refine Kd.C_alloc ?_ _) | (with_reducible refine Kd.C_drewN ?_ _) | (with_reducible refine Kd.C_drew ?_)))
        (case side2 => exact (Kd.R_reads' HO120.out).2.1)
        rintro e w29 ⟨rfl, hb⟩
        refine ⟨_, rfl, ?_⟩
        have n0_ := Aside0.mk (Kd.R_below (by (with_reducible repeat (first | apply Kd.R_alloc | apply Kd.R_drewN | apply Kd.R_drew)); exact HO116.out) hb)
        have n1_ := Aside0.mk (Kd.R_below (by (with_reducible repeat (first | apply Kd.R_alloc | apply Kd.R_drewN | apply Kd.R_drew)); exact HO120.out) hb)
        have n2_ := Aside0.mk (blk_below (g := gb108) (o := .cells #[.int .i64 a0_0, .string a0_1, .string a0_2, .int .i64 a0_3, .int .i64 a0_4, .int .i64 a0_5, .slice A0_6 l0_6.length c0_6] 28 (0, 0)) (kx BK108) hb)
        have n3_ := Aside0.mk (below_step (by exact bw1 HB GE108.out) hb)
        clear HO116; clear HO120; clear BK108; clear HB
        have HO116 := n0_
        have HO120 := n1_
        have BK108 := n2_
        have HB := n3_; clear n0_ n1_ n2_ n3_; (try clear hb); (try clear hb2); (try clear hk); (try clear hi)
        refine hK.out _ _ ⟨v115, .slice Ao28 y118.length co28, (by rw [ha.out]; exact putSel_upk 11 hb_ rfl rfl rfl), (kx BK108), (by exact bw1 HB GE108.out), fun _ => (by (with_reducible repeat (first | apply Kd.R_alloc | apply Kd.R_drewN | apply Kd.R_drew)); exact HO116.out), fun _ => (by (with_reducible repeat (first | apply Kd.R_alloc | apply Kd.R_drewN | apply Kd.R_drew)); exact HO120.out)⟩
       refine steps_cons ?_ ?_
       ·
        rintro b a w' ⟨v115, v119, ha, Q_BK108, Q_HB, Q_HO116, Q_HO120⟩ hb_ hon hoff
        refine ⟨_, rfl, fun K hK => ?_⟩
        have e30 : a.tmps[30]? = some (.string ((t117 ++ t110) ++ t112)) := by rw [ha]; exact putSel_on (e := (7, 30, .string ((t117 ++ t110) ++ t112))) 4 rfl rfl (hon 7 (by kernel_rfl)) rfl
        have e41 : a.tmps[41]? = some (.string t121) := by rw [ha]; exact putSel_on (e := (18, 41, .string t121)) 11 rfl rfl (hon 18 (by kernel_rfl)) rfl
        replace ha := Aside0.mk ha
        have BK108 := Aside0.mk Q_BK108
        have HB := Aside0.mk Q_HB
        have HO116 := Aside0.mk (Q_HO116 (hon 2 (by kernel_rfl)))
        have HO120 := Aside0.mk (Q_HO120 (hon 17 (by kernel_rfl)))
        refine value_ (w1 := w') (v := .string (((t117 ++ t110) ++ t112) ++ t121)) (by rfl) rfl ?_ ?_
        ·
         go_simp
         (try simp only [i64_w])
         try rfl
         all_goals (try (simp only [ByteArray.size_append] at *; omega))
        refine hK.out _ _ ⟨v115, v119, (by rw [ha.out]; exact putSel_upk 12 hb_ rfl rfl rfl), Q_BK108, Q_HB, Q_HO116, Q_HO120⟩
       refine steps_cons ?_ ?_
       ·
        rintro b a w' ⟨v115, v119, ha, Q_BK108, Q_HB, Q_HO116, Q_HO120⟩ hb_ hon hoff
        refine ⟨_, rfl, fun K hK => ?_⟩
        have e43 : a.tmps[43]? = some (.pointer (some ⟨gb108, 6, none⟩)) := by rw [ha]; exact (putSel_off rfl).trans rfl
        replace ha := Aside0.mk ha
        have BK108 := Aside0.mk Q_BK108
        have HB := Aside0.mk Q_HB
        have hc0_ : w'.cell? ⟨gb108, 0, none⟩ = some (.int .i64 a0_0) := (blk_cell BK108.out 0).trans rfl
        have hc1_ : w'.cell? ⟨gb108, 1, none⟩ = some (.string a0_1) := (blk_cell BK108.out 1).trans rfl
        have hc2_ : w'.cell? ⟨gb108, 2, none⟩ = some (.string a0_2) := (blk_cell BK108.out 2).trans rfl
        have hc3_ : w'.cell? ⟨gb108, 3, none⟩ = some (.int .i64 a0_3) := (blk_cell BK108.out 3).trans rfl
        have hc4_ : w'.cell? ⟨gb108, 4, none⟩ = some (.int .i64 a0_4) := (blk_cell BK108.out 4).trans rfl
        have hc5_ : w'.cell? ⟨gb108, 5, none⟩ = some (.int .i64 a0_5) := (blk_cell BK108.out 5).trans rfl
        have hc6_ : w'.cell? ⟨gb108, 6, none⟩ = some (.slice A0_6 l0_6.length c0_6) := (blk_cell BK108.out 6).trans rfl
        refine value_ (w1 := w') (v := .slice A0_6 l0_6.length c0_6) (by rfl) rfl ?_ ?_
        ·
         go_simp
         (try simp only [i64_w])
         try rfl
         all_goals (try (simp only [ByteArray.size_append] at *; omega))
        refine hK.out _ _ ⟨v115, v119, (by rw [ha.out]; exact putSel_upk 13 hb_ rfl rfl rfl), Q_BK108, Q_HB, Q_HO116, Q_HO120⟩
       refine steps_cons ?_ ?_
       ·
        rintro b a w' ⟨v115, v119, ha, Q_BK108, Q_HB, Q_HO116, Q_HO120⟩ hb_ hon hoff
        refine ⟨_, rfl, fun K hK => ?_⟩
        have e44 : a.tmps[44]? = some (.slice A0_6 l0_6.length c0_6) := by rw [ha]; exact putSel_on (e := (21, 44, .slice A0_6 l0_6.length c0_6)) 13 rfl rfl (hon 21 (by kernel_rfl)) rfl
        replace ha := Aside0.mk ha
        have BK108 := Aside0.mk Q_BK108
        have HB := Aside0.mk Q_HB
        have HO116 := Aside0.mk (Q_HO116 (hon 2 (by kernel_rfl)))
        have HO120 := Aside0.mk (Q_HO120 (hon 17 (by kernel_rfl)))
        refine goes_ Try.func24 (by kernel_rfl) rfl #[.slice A0_6 l0_6.length c0_6] (by rfl) rfl rfl (by first | (simp only [List.map_toArray, List.map_cons, List.map_nil, Act.eval, Array.getD_eq_getD_getElem?, Option.getD_some, e44]; done) | (simp only [List.map_toArray, List.map_cons, List.map_nil, Act.eval, Array.getD_eq_getD_getElem?, Option.getD_some, e44]; rfl)) ?_
        with_reducible refine (edit_nums.calls k _ _ l0_6 t122 _ ?side1 ?side2 A11.out).mono ?_
        (case side1 => repeat (first | exact (Kd.C_below HR0_6.out HB.out) | (with_reducible refine Kd.C_alloc ?_ _) | (with_reducible refine Kd.C_drewN ?_ _) | (with_reducible refine Kd.C_drew ?_)))
        (case side2 => exact HC0_6.out)
        rintro e w30 ⟨rfl, hb⟩
        refine ⟨_, rfl, ?_⟩
        have n0_ := Aside0.mk (Kd.R_below (by (with_reducible repeat (first | apply Kd.R_alloc | apply Kd.R_drewN | apply Kd.R_drew)); exact HO116.out) hb)
        have n1_ := Aside0.mk (Kd.R_below (by (with_reducible repeat (first | apply Kd.R_alloc | apply Kd.R_drewN | apply Kd.R_drew)); exact HO120.out) hb)
        have n2_ := Aside0.mk (blk_below (g := gb108) (o := .cells #[.int .i64 a0_0, .string a0_1, .string a0_2, .int .i64 a0_3, .int .i64 a0_4, .int .i64 a0_5, .slice A0_6 l0_6.length c0_6] 28 (0, 0)) (kx BK108) hb)
        have n3_ := Aside0.mk (below_step (by exact bw1 HB GE108.out) hb)
        clear HO116; clear HO120; clear BK108; clear HB
        have HO116 := n0_
        have HO120 := n1_
        have BK108 := n2_
        have HB := n3_; clear n0_ n1_ n2_ n3_; (try clear hb); (try clear hb2); (try clear hk); (try clear hi)
        refine hK.out _ _ ⟨v115, v119, (by rw [ha.out]; exact putSel_upk 14 hb_ rfl rfl rfl), (kx BK108), (by exact bw1 HB GE108.out), fun _ => (by (with_reducible repeat (first | apply Kd.R_alloc | apply Kd.R_drewN | apply Kd.R_drew)); exact HO116.out), fun _ => (by (with_reducible repeat (first | apply Kd.R_alloc | apply Kd.R_drewN | apply Kd.R_drew)); exact HO120.out)⟩
       refine steps_cons ?_ ?_
       ·
        rintro b a w' ⟨v115, v119, ha, Q_BK108, Q_HB, Q_HO116, Q_HO120⟩ hb_ hon hoff
        refine ⟨_, rfl, fun K hK => ?_⟩
        have e42 : a.tmps[42]? = some (.string (((t117 ++ t110) ++ t112) ++ t121)) := by rw [ha]; exact putSel_on (e := (19, 42, .string (((t117 ++ t110) ++ t112) ++ t121))) 12 rfl rfl (hon 19 (by kernel_rfl)) rfl
        have e45 : a.tmps[45]? = some (.string t122) := by rw [ha]; exact putSel_on (e := (22, 45, .string t122)) 14 rfl rfl (hon 22 (by kernel_rfl)) rfl
        replace ha := Aside0.mk ha
        have BK108 := Aside0.mk Q_BK108
        have HB := Aside0.mk Q_HB
        have HO116 := Aside0.mk (Q_HO116 (hon 2 (by kernel_rfl)))
        have HO120 := Aside0.mk (Q_HO120 (hon 17 (by kernel_rfl)))
        refine value_ (w1 := w') (v := .string ((((t117 ++ t110) ++ t112) ++ t121) ++ t122)) (by rfl) rfl ?_ ?_
        ·
         go_simp
         (try simp only [i64_w])
         try rfl
         all_goals (try (simp only [ByteArray.size_append] at *; omega))
        refine hK.out _ _ ⟨v115, v119, (by rw [ha.out]; exact putSel_upk 15 hb_ rfl rfl rfl), Q_BK108, Q_HB, Q_HO116, Q_HO120⟩
       refine steps_cons ?_ ?_
       ·
        rintro b a w' ⟨v115, v119, ha, Q_BK108, Q_HB, Q_HO116, Q_HO120⟩ hb_ hon hoff
        refine ⟨_, rfl, fun K hK => ?_⟩
        have e46 : a.tmps[46]? = some (.string ((((t117 ++ t110) ++ t112) ++ t121) ++ t122)) := by rw [ha]; exact putSel_on (e := (23, 46, .string ((((t117 ++ t110) ++ t112) ++ t121) ++ t122))) 15 rfl rfl (hon 23 (by kernel_rfl)) rfl
        replace ha := Aside0.mk ha
        have BK108 := Aside0.mk Q_BK108
        have HB := Aside0.mk Q_HB
        have HO116 := Aside0.mk (Q_HO116 (hon 2 (by kernel_rfl)))
        have HO120 := Aside0.mk (Q_HO120 (hon 17 (by kernel_rfl)))
        refine value_ (w1 := w') (v := .string ((((t117 ++ t110) ++ t112) ++ t121) ++ t122)) (by rfl) rfl ?_ ?_
        ·
         go_simp
         (try simp only [i64_w])
         try rfl
         all_goals (try (simp only [ByteArray.size_append] at *; omega))
        refine hK.out _ _ ⟨v115, v119, (by rw [ha.out]; exact putSel_upk 16 hb_ rfl rfl rfl), Q_BK108, Q_HB, Q_HO116, Q_HO120⟩
       refine steps_cons ?_ ?_
       ·
        rintro b a w' ⟨v115, v119, ha, Q_BK108, Q_HB, Q_HO116, Q_HO120⟩ hb_ hon hoff
        refine ⟨_, rfl, fun K hK => ?_⟩
        replace ha := Aside0.mk ha
        have BK108 := Aside0.mk Q_BK108
        have HB := Aside0.mk Q_HB
        have HO116 := Aside0.mk (Q_HO116 (hon 2 (by kernel_rfl)))
        have HO120 := Aside0.mk (Q_HO120 (hon 17 (by kernel_rfl)))
        refine value_ (w1 := w') (v := .int .i64 0) (by rfl) rfl ?_ ?_
        ·
         go_simp
         (try simp only [i64_w])
         try rfl
         all_goals (try (simp only [ByteArray.size_append] at *; omega))
        refine hK.out _ _ ⟨v115, v119, (by rw [ha.out]; exact putSel_upk 17 hb_ rfl rfl rfl), Q_BK108, Q_HB, Q_HO116, Q_HO120⟩
       exact steps_nil
      rintro b a w30 hall ⟨v115, v119, ha, Q_BK108, Q_HB, Q_HO116, Q_HO120⟩
      clear BK108 HB
      have hb1_ := hall 1 (by kernel_rfl)
      have hb2_ := hall 2 (by kernel_rfl)
      have hb3_ := hall 3 (by kernel_rfl)
      have hb5_ := hall 5 (by kernel_rfl)
      have hb7_ := hall 7 (by kernel_rfl)
      have hb9_ := hall 9 (by kernel_rfl)
      have hb11_ := hall 11 (by kernel_rfl)
      have hb13_ := hall 13 (by kernel_rfl)
      have hb15_ := hall 15 (by kernel_rfl)
      have hb16_ := hall 16 (by kernel_rfl)
      have hb17_ := hall 17 (by kernel_rfl)
      have hb18_ := hall 18 (by kernel_rfl)
      have hb19_ := hall 19 (by kernel_rfl)
      have hb21_ := hall 21 (by kernel_rfl)
      have hb22_ := hall 22 (by kernel_rfl)
      have hb23_ := hall 23 (by kernel_rfl)
      have hb24_ := hall 24 (by kernel_rfl)
      have hb25_ := hall 25 (by kernel_rfl)
      subst ha
      simp only [putSel, hb1_, hb2_, hb3_, hb5_, hb7_, hb9_, hb11_, hb13_, hb15_, hb16_, hb17_, hb18_, hb19_, hb21_, hb22_, hb23_, hb24_, hb25_, if_true, Act.put, List.setIfInBounds_toArray, List.set_cons_zero, List.set_cons_succ]
      have BK108 := Aside0.mk Q_BK108
      clear Q_BK108
      have HB := Aside0.mk Q_HB
      clear Q_HB
      have HO116 := Aside0.mk (Q_HO116 hb2_)
      clear Q_HO116
      have HO120 := Aside0.mk (Q_HO120 hb17_)
      clear Q_HO120; clear hall hb1_ hb2_ hb3_ hb5_ hb7_ hb9_ hb11_ hb13_ hb15_ hb16_ hb17_ hb18_ hb19_ hb21_ hb22_ hb23_ hb24_ hb25_
      try go_wp2
      go_ret2
      exact ⟨by first | rfl | (simp [errW_none, errW_some] <;> rfl) | (simp [*, errW_none, errW_some] <;> rfl), by repeat (first | (with_reducible first | exact HB.out | apply below_alloc | apply pw_below_drewN | apply below_drew1 | refine below_set ?_ GE108.out) | exact HB.out)⟩
     ·
      rw [if_neg c12] at H
      exact absurd H (by simp)
    ·
     rw [if_neg c10] at H
     exact absurd H (by simp)
   ·
    rw [if_neg c8] at H
    exact absurd H (by simp)
  ·
   rw [if_neg c7] at H
   exact absurd H (by simp)
 ·
  replace c3 := Bool.eq_false_iff.mpr c3
  subst c3
  have H1 : (some ((⟨#[]⟩ : ByteArray), 1)) = some (r1, r2) := by rw [if_neg (show ¬ (false = true) by decide)] at H; exact H
  clear H
  have H := H1
  clear H1
  simp only [Option.some.injEq, Prod.mk.injEq] at H
  obtain ⟨rfl, rfl⟩ := H
  go_enter Try.func13, Try.ntmps13
  go_wp2_with (first | ((with_reducible refine gate_dst (N := 1) rfl ?_); refine box_event ?hg (N := 1) ?hd (cs := #[.int .i64 a0_0, .string a0_1, .string a0_2, .int .i64 a0_3, .int .i64 a0_4, .int .i64 a0_5, .slice A0_6 l0_6.length c0_6]) (t := 28) ?hr ?_; (case hd => rfl); (case hg => rfl); (case hr => first | (go_simp; done) | (go_simp; rfl)); intro gb108 hg w31 hbox hb; have n0_ := Aside0.mk (below_step (by exact bw0 HB) hb); have n1_ := Aside0.mk (hbox); have n2_ := Aside0.mk ((by rw [hg]; exact (below_size (by exact bw0 HB)) : w.heap.size ≤ gb108)); have n3_ := Aside0.mk ((by rw [hg]; exact (below_size (by exact bw0 HB)) : w.heap.size ≤ gb108)); clear HB; have HB := n0_; have BK108 := n1_; have GW108 := n2_; have GE108 := n3_; clear n0_ n1_ n2_ n3_; clear hb hbox hg; have hcz32_0 : w31.cell? ⟨gb108, 0, none⟩ = some (.int .i64 a0_0) := (blk_cell BK108.out 0).trans rfl; have hcz32_1 : w31.cell? ⟨gb108, 1, none⟩ = some (.string a0_1) := (blk_cell BK108.out 1).trans rfl; have hcz32_2 : w31.cell? ⟨gb108, 2, none⟩ = some (.string a0_2) := (blk_cell BK108.out 2).trans rfl; have hcz32_3 : w31.cell? ⟨gb108, 3, none⟩ = some (.int .i64 a0_3) := (blk_cell BK108.out 3).trans rfl; have hcz32_4 : w31.cell? ⟨gb108, 4, none⟩ = some (.int .i64 a0_4) := (blk_cell BK108.out 4).trans rfl; have hcz32_5 : w31.cell? ⟨gb108, 5, none⟩ = some (.int .i64 a0_5) := (blk_cell BK108.out 5).trans rfl; have hcz32_6 : w31.cell? ⟨gb108, 6, none⟩ = some (.slice A0_6 l0_6.length c0_6) := (blk_cell BK108.out 6).trans rfl; have hfz32_0 := blk_frozen BK108.out 0; have hfz32_1 := blk_frozen BK108.out 1; have hfz32_2 := blk_frozen BK108.out 2; have hfz32_3 := blk_frozen BK108.out 3; have hfz32_4 := blk_frozen BK108.out 4; have hfz32_5 := blk_frozen BK108.out 5; have hfz32_6 := blk_frozen BK108.out 6) | ((with_reducible refine gate_callee (f := 22) rfl ?_); refine goesL_ (some 9) rfl rfl Try.func22 (by kernel_rfl) rfl #[.agg #[.int .i64 a0_0, .string a0_1, .string a0_2, .int .i64 a0_3, .int .i64 a0_4, .int .i64 a0_5, .slice A0_6 l0_6.length c0_6]] rfl (by (try simp only [List.map_toArray, List.map_cons, List.map_nil]); first | done | rfl | (simp only [List.length_drop, List.length_take]; rfl)) ?_; (with_reducible refine (edit_Right.calls a0_0 a0_1 a0_2 a0_3 a0_4 a0_5 _ _ l0_6 false _ ?side1 ?side2 A2.out).mono ?_); (case side1 => repeat (first | exact (Kd.C_below HR0_6.out HB.out) | (with_reducible refine Kd.C_alloc ?_ _) | (with_reducible refine Kd.C_drewN ?_ _) | (with_reducible refine Kd.C_drew ?_))); (case side2 => exact HC0_6.out); rintro e w33 ⟨rfl, hb⟩; refine ⟨_, rfl, ?_⟩; have n0_ := Aside0.mk (blk_below (g := gb108) (o := .cells #[.int .i64 a0_0, .string a0_1, .string a0_2, .int .i64 a0_3, .int .i64 a0_4, .int .i64 a0_5, .slice A0_6 l0_6.length c0_6] 28 (0, 0)) (kx BK108) hb); have n1_ := Aside0.mk (below_step (by exact bw1 HB GE108.out) hb); clear BK108; clear HB; have BK108 := n0_; have HB := n1_; clear n0_ n1_; (try clear hb); (try clear hb2); (try clear hk); (try clear hi)))
  go_ret2
  exact ⟨by first | rfl | (simp [errW_none, errW_some] <;> rfl) | (simp [*, errW_none, errW_some] <;> rfl), by repeat (first | (with_reducible first | exact HB.out | apply below_alloc | apply pw_below_drewN | apply below_drew1 | refine below_set ?_ GE108.out) | exact HB.out)⟩

end Go.Proofs.Ytjailboidlmadaa.P
