/- The Go functions of this seat as plain Lean functions, and for each the proof that its call gives what the plain function gives. Printed by a program of this session. -/
import Derived.Test.YtljllecpmllefaaPx0
import Derived.Test.YtljllecpmllefaaPx7
import Derived.Test.YtljllecpmllefaaPx9
import Derived.Test.YtljllecpmllefaaPx10
import Derived.Test.YtljllecpmllefaaPx11
import Derived.Test.YtljllecpmllefaaBty
namespace Go.Proofs.Ytljllecpmllefaa.P
open Go.RowKit Go.Proofs.YtljllecpmllefaaW.PrintWords Go.Proofs.YtljllecpmllefaaW.PrintLast Go.Proofs.YtljllecpmllefaaW.PrintMore
attribute [local go_sem] max2_int min2_int max_two min_two max_three min_three max_four min_four   -- for this text's walks alone
set_option linter.unusedVariables false
set_option linter.unusedSimpArgs false

/-! ### tabulariumlaw18_ChunkBit: function 4 -/
/-- what the law needs: the plain facts -/
def tabulariumlaw18_ChunkBit.Pure : Prop := ∀ (a0 a1 : Int) (a2 a3 : ByteArray) (a4 : Int), (Lit.int .i64 a0).wf = true → (Lit.int .i64 a1).wf = true → a2.size ≤ 140737488351232 → a3.size ≤ 140737488351232 → (Lit.int .i64 a4).wf = true →
  ∃ (k : Nat) (O T hh a b : ByteArray) (e : Int), O = a2.extract 0 (mn (a2.size : Int) 31).toNat ++ (⟨#[33]⟩ : ByteArray) ∧ T = a3.extract 0 (mn (a3.size : Int) 31).toNat ++ (⟨#[63]⟩ : ByteArray) ∧ tabulariumlaw18_examples.f k = some true ∧ chunk_Head.f k a0 a1 = some (hh, e) ∧ chunk_Packet.f k O = some (a, 0) ∧ chunk_Packet.f k T = some (b, 0) ∧
  (e ≠ 0 ∨ e = 0 ∧ 3 ≤ hh.size ∧ hh.size ≤ 100 ∧ 3 ≤ a.size ∧ a.size ≤ 100 ∧ 3 ≤ b.size ∧ b.size ≤ 100 ∧
    ∃ B A : Nat, (B : Int) = nn a4 % (8 * ((a.size : Int) + (b.size : Int) - 2)) ∧ (8 * (a.size - 1) ≤ B → A = 8 * (hh.size + 1) + B + 8) ∧ (B < 8 * (a.size - 1) → A = 8 * (hh.size + 1) + B) ∧ A < 8 * (hh.size + a.size + b.size) ∧
      ∃ x1 x2 x3 x4 s, chunk_Read.f (turnAt (hh ++ a ++ b) (A / 8) (bitOf ((A : Int) % 8))) = some (x1, x2, x3, x4, s, false, 0) ∧ (A < 8 * (hh.size + a.size) → s = ⟨#[]⟩) ∧ (8 * (hh.size + a.size) ≤ A → s = O))
theorem bit_mn (s : ByteArray) : 0 ≤ mn (s.size : Int) 31 ∧ mn (s.size : Int) 31 ≤ (s.size : Int) := by unfold mn; split <;> omega
theorem bit_cut (s : ByteArray) (c : UInt8) : (s.extract 0 (mn (s.size : Int) 31).toNat ++ (⟨#[c]⟩ : ByteArray)).size ≤ 32 := by
  rw [ByteArray.size_append, ByteArray.size_extract]
  show _ + 1 ≤ 32
  have := bit_mn s
  have h : mn (s.size : Int) 31 ≤ 31 := by unfold mn; split <;> omega
  omega
set_option maxHeartbeats 4000000 in
set_option maxRecDepth 100000 in
theorem tabulariumlaw18_ChunkBit.walk (P : tabulariumlaw18_ChunkBit.Pure) (a0 : Int) (a1 : Int) (a2 : ByteArray) (a3 : ByteArray) (a4 : Int) (w : World) (w0 : (Lit.int .i64 a0).wf = true) (w1 : (Lit.int .i64 a1).wf = true) (w2 : a2.size ≤ 140737488351232) (w3 : a3.size ≤ 140737488351232) (w4 : (Lit.int .i64 a4).wf = true) :
    Calls Try.prog 4 #[.int .i64 a0, .int .i64 a1, .string a2, .string a3, .int .i64 a4] w fun e w' => e = .returned (.bool true) ∧ Below w.heap.size w w' := by
  obtain ⟨k, O, T, hh, a, b, e, hO, hT, hx0, hh0, hp0, hp1, hc⟩ := P a0 a1 a2 a3 a4 w0 w1 w2 w3 w4
  have hu26 := Try.underlying26
  have hu24 := Try.underlying24
  have HX := Aside0.mk hx0
  have HH := Aside0.mk hh0
  have HP := Aside0.mk hp0
  have HQ := Aside0.mk hp1
  clear hx0 hh0 hp0 hp1 P
  have HB := Aside0.mk (Below.refl w.heap.size w)
  have zO : O.size ≤ 32 := by rw [hO]; exact bit_cut a2 33
  have zT : T.size ≤ 32 := by rw [hT]; exact bit_cut a3 63
  obtain ⟨m1, hm1⟩ : ∃ m : Int, mn (a2.size : Int) 31 = m := ⟨_, rfl⟩
  obtain ⟨m2, hm2⟩ : ∃ m : Int, mn (a3.size : Int) 31 = m := ⟨_, rfl⟩
  have p1 := bit_mn a2
  have p2 := bit_mn a3
  rw [hm1] at hO p1
  rw [hm2] at hT p2
  have m1_ : (if 31 < (a2.size : Int) then 31 else (a2.size : Int)) = m1 := hm1
  have m2_ : (if 31 < (a3.size : Int) then 31 else (a3.size : Int)) = m2 := hm2
  clear hm1 hm2
  have q1 := eq_true p1.1
  have q2 := eq_true p1.2
  have q3 := eq_true p2.1
  have q4 := eq_true p2.2
  clear p1 p2
  have ZO := Aside0.mk zO
  have ZT := Aside0.mk zT
  clear zO zT
  rcases hc with hc | ⟨rfl, h1, h2, h3, h4, h5, h6, B, A, hBe, hA1, hA2, hA3, x1, x2, x3, x4, s, hr, hs1, hs2⟩
  · have c1 : (e != 0) = true := bne_iff_ne.mpr hc
    clear hc
    go_enter Try.func4, Try.ntmps4
    go_wp2_with (first | (go_at_call 8; (with_reducible refine (tabulariumlaw18_examples.calls k true _ HX.out).mono ?_); rintro e_ w3 ⟨rfl, hb⟩; have HB1 := Aside0.mk (below_step HB.out hb); clear hb) | (go_at_call 11; (with_reducible refine (chunk_Head.calls k a0 a1 hh e _ HH.out).mono ?_); rintro e_ w4 ⟨rfl, hb⟩; have HB2 := Aside0.mk (below_step HB1.out hb); clear hb) | (go_at_call 12; rw [← hO]; (with_reducible refine (chunk_Packet.calls k O a 0 _ HP.out).mono ?_); rintro e_ w5 ⟨rfl, hb⟩; have HB3 := Aside0.mk (below_step HB2.out hb); clear hb) | (go_at_call 12; rw [← hT]; (with_reducible refine (chunk_Packet.calls k T b 0 _ HQ.out).mono ?_); rintro e_ w6 ⟨rfl, hb⟩; have HB4 := Aside0.mk (below_step HB3.out hb); clear hb))
    go_ret
    exact ⟨rfl, HB4.out⟩
  · have HR := Aside0.mk hr
    have HS1 := Aside0.mk hs1
    have HS2 := Aside0.mk hs2
    have HA1 := Aside0.mk hA1
    have HA2 := Aside0.mk hA2
    clear hr hs1 hs2 hA1 hA2
    have W4 := Aside0.mk w4
    have hn := nn_range w4
    have r4_ : -9223372036854775808 ≤ a4 ∧ a4 ≤ 9223372036854775807 := by simpa [Lit.wf, IntKind.min, IntKind.max, IntKind.signed, IntKind.bits] using w4
    clear w4 w0 w1
    have c1 : decide ((hh.size : Int) < 3) = false := decide_eq_false (by omega)
    have c2 : decide ((a.size : Int) < 3) = false := decide_eq_false (by omega)
    have c3 : decide ((b.size : Int) < 3) = false := decide_eq_false (by omega)
    go_enter Try.func4, Try.ntmps4
    go_upto_if 82 with (first | (go_at_call 8; (with_reducible refine (tabulariumlaw18_examples.calls k true _ HX.out).mono ?_); rintro e_ w3 ⟨rfl, hb⟩; have HB1 := Aside0.mk (below_step HB.out hb); clear hb) | (go_at_call 11; (with_reducible refine (chunk_Head.calls k a0 a1 hh 0 _ HH.out).mono ?_); rintro e_ w4 ⟨rfl, hb⟩; have HB2 := Aside0.mk (below_step HB1.out hb); clear hb) | (go_at_call 12; rw [← hO]; (with_reducible refine (chunk_Packet.calls k O a 0 _ HP.out).mono ?_); rintro e_ w5 ⟨rfl, hb⟩; have HB3 := Aside0.mk (below_step HB2.out hb); clear hb) | (go_at_call 12; rw [← hT]; (with_reducible refine (chunk_Packet.calls k T b 0 _ HQ.out).mono ?_); rintro e_ w6 ⟨rfl, hb⟩; have HB4 := Aside0.mk (below_step HB3.out hb); clear hb))
    have HO := Aside0.mk hO
    clear q1 q2 q3 q4 m1_ m2_ hO hT c1 c2 c3
    go_cut [4] (fun v4 wc => v4 = .int .i64 (nn a4) ∧ wc = w6)
    case first =>
      by_cases c2 : a4 < 0
      · have E_ := Aside0.mk (show -(a4 + 1) = nn a4 by unfold nn; rw [if_pos c2])
        go_wp2
        go_meet
        case rel => exact ⟨by rw [E_.out], rfl⟩
      · have E_ := Aside0.mk (nn_pos c2)
        go_wp2
        go_meet
        case rel => exact ⟨by rw [← E_.out], rfl⟩
    case rest =>
      obtain ⟨rfl, rfl⟩ := hcut
      clear r4_ W4
      have hX : (hh ++ a ++ b).size = hh.size + a.size + b.size := by rw [ByteArray.size_append, ByteArray.size_append]
      have kb := fun W => print_bytes (P := Try.prog) 9 36 5 Try.underlying9 Try.underlying36 Try.underlying5 (hh ++ a ++ b) W
      go_upto_region 13 with (fail)
      go_cut [18] (fun v18 wd => ∃ g c, v18 = .slice (some ⟨g, 0, none⟩) (hh.size + a.size + b.size) c ∧ (hh.size + a.size + b.size) ≤ c ∧ BRow 5 wd g (bytesOf (hh ++ a ++ b)) ∧ w.heap.size ≤ g ∧ Below w.heap.size w wd)
      case first =>
        go_wp2
        go_meet
        case rel => exact ⟨_, _, rfl, grownCap_ge _ _ _ _, BRow.new _ _ (hh ++ a ++ b), HB4.out.size, bytes_below HB4.out HB4.out.size _ (hh ++ a ++ b)⟩
      case rest =>
        obtain ⟨g, c, rfl, hc, hrow, hg, hb⟩ := hcut
        have HB5 := Aside0.mk hb
        have HW := Aside0.mk hrow
        have HG := Aside0.mk hg
        clear hb hrow hg kb
        have hm0 : 0 < 8 * ((a.size : Int) + (b.size : Int) - 2) := by omega
        have hB0 : (B : Int) < 8 * ((a.size : Int) + (b.size : Int) - 2) := by rw [hBe]; exact Int.emod_lt_of_pos _ hm0
        have HBe := Aside0.mk hBe
        clear hBe
        go_upto_region 14 with (fail)
        go_cut [4] (fun v4 we => v4 = .int .i64 (B : Int) ∧ we = wc)
        case first =>
          clear hB0
          go_wp2
          go_meet
          case rel => exact ⟨by rw [HBe.out], rfl⟩
        case rest =>
          obtain ⟨rfl, rfl⟩ := hcut
          clear hm0 hn
          go_upto_if 112 with (fail)
          go_cut [19] (fun v19 wf => v19 = .int .i64 (A : Int) ∧ wf = wc)
          case first =>
            by_cases hb : 8 * (a.size - 1) ≤ B
            · have e1 : decide ((8 : Int) * ((a.size : Int) - 1) ≤ (B : Int)) = true := decide_eq_true (by omega)
              have e3 : ((8 : Int) * ((hh.size : Int) + 1) + (B : Int) + 8) = (A : Int) := by rw [HA1.out hb]; omega
              go_wp2
              go_meet
              case rel => exact ⟨by first | rfl | rw [e3], rfl⟩
            · have e1 : decide ((8 : Int) * ((a.size : Int) - 1) ≤ (B : Int)) = false := decide_eq_false (by omega)
              have e3 : ((8 : Int) * ((hh.size : Int) + 1) + (B : Int)) = (A : Int) := by rw [HA2.out (by omega)]; omega
              go_wp2
              go_meet
              case rel => exact ⟨by first | rfl | rw [e3], rfl⟩
          case rest =>
            obtain ⟨rfl, rfl⟩ := hcut
            clear hB0
            have HL := Aside0.mk (bytesOf_length (hh ++ a ++ b))
            have hq : A / 8 < hh.size + a.size + b.size := by omega
            have hcell := HW.out.cell (A / 8) (by rw [HL.out, hX]; exact hq)
            have hfz := HW.out.frozen (A / 8) (by rw [HL.out, hX]; exact hq)
            have hA0 : IntKind.i64.wrap ((A : Int) / 8) = (A : Int) / 8 := IntWalk.i64_in _ (by omega)
            have hs0 : 0 ≤ (A : Int) / 8 := by omega
            have hs3 : (A : Int) / 8 < (hh.size : Int) + (a.size : Int) + (b.size : Int) := by omega
            have hs5 : (A : Int) / 8 < ((hh.size + a.size + b.size : Nat) : Int) := by omega
            have hs4 : ((A : Int) / 8).toNat = A / 8 := by omega
            obtain ⟨M, hM⟩ : ∃ M, M = bitOf ((A : Int) % 8) := ⟨_, rfl⟩
            have HM := Aside0.mk hM
            clear hM
            have hM2 : IntKind.u8.wrap (2 ^ ((A : Int) % 8).toNat) = M := by
              have h_ := shl_small (k := .u8) (x := 1) (y := (A : Int) % 8) HM.out.symm (by show (A : Int) % 8 ≤ 8; omega)
              rw [Int.one_mul] at h_
              exact h_
            have hM3 : IntKind.u8.wrap (2 ^ min ((A : Int) % 8).toNat 8) = M := by rw [Nat.min_eq_left (by omega)]; exact hM2
            have hb8 : (A : Int) % 8 < 8 := by omega
            have hb0 : 0 ≤ (A : Int) % 8 := by omega
            go_upto_region 18 with (fail)
            go_cut [18] (fun v18 wg => v18 = .slice (some ⟨g, 0, none⟩) (hh.size + a.size + b.size) c ∧ BRow 5 wg g ((bytesOf (hh ++ a ++ b)).set (A / 8) (Go.bits .xor .u8 ((bytesOf (hh ++ a ++ b)).getD (A / 8) 0) M)) ∧ Below w.heap.size w wg)
            case first =>
              go_region
              go_wp2
              go_meet
              case rel => exact ⟨rfl, by rw [List.getD_eq_getElem?_getD]; exact (HW.out.set _ _).below (below_drew1 (Below.refl _ _)), below_drew1 (below_set HB5.out HG.out)⟩
            case rest =>
              obtain ⟨rfl, hr4, hb4⟩ := hcut
              have kt := hr4.text (P := Try.prog) 36 9 Try.underlying36 Try.underlying5 Try.underlying9 c
              rw [List.length_set, HL.out, hX] at kt
              obtain ⟨tx, htx⟩ : ∃ tx, tx = strOfNums ((bytesOf (hh ++ a ++ b)).set (A / 8) (Go.bits .xor .u8 ((bytesOf (hh ++ a ++ b)).getD (A / 8) 0) M)) := ⟨_, rfl⟩
              rw [← htx] at kt
              have HT := Aside0.mk (show chunk_Read.f tx = some (x1, x2, x3, x4, s, false, 0) by rw [htx, HM.out]; exact HR.out)
              have HB6 := Aside0.mk hb4
              clear hb4 hr4 hcell hfz htx hq hA0 hs0 hs3 hs5 hs4 hM2 hM3 hb8 hb0
              by_cases hlt : A < 8 * (hh.size + a.size)
              · have e1 : decide ((A : Int) < 8 * ((hh.size : Int) + (a.size : Int))) = true := decide_eq_true (by omega)
                obtain rfl := HS1.out hlt
                clear hlt
                go_wp2_with (first | (go_at_call 9; (with_reducible refine (chunk_Read.calls tx x1 x2 x3 x4 _ false 0 _ HT.out).mono ?_); rintro e_ w7 ⟨rfl, hb⟩; have HB7 := Aside0.mk (below_step HB6.out hb); clear hb) | ((with_reducible refine gate_dst (N := 20) rfl ?_); (try (refine gate_guard (by rfl) ?_; dsimp only)); refine box_event ?hg (N := 20) ?hd (cs := #[.int .i64 0, .int .i64 0, .int .i64 0, .bool false]) (t := 26) ?hr ?_; (case hd => rfl); (case hg => rfl); (case hr => first | (go_simp; done) | (go_simp; rfl)); intro g8 hg w8 hbox hb; have HB8 := Aside0.mk (below_step HB7.out hb); have HG8 := Aside0.mk ((by rw [hg]; exact below_size HB7.out) : w.heap.size ≤ g8); have HBK := Aside0.mk hbox; clear hb hbox hg; have hz0 : w8.cell? ⟨g8, 0, none⟩ = some (.int .i64 0) := (blk_cell HBK.out 0).trans rfl; have hz1 : w8.cell? ⟨g8, 1, none⟩ = some (.int .i64 0) := (blk_cell HBK.out 1).trans rfl; have hz2 : w8.cell? ⟨g8, 2, none⟩ = some (.int .i64 0) := (blk_cell HBK.out 2).trans rfl; have hz3 : w8.cell? ⟨g8, 3, none⟩ = some (.bool false) := (blk_cell HBK.out 3).trans rfl; have hf0 := blk_frozen HBK.out 0; have hf1 := blk_frozen HBK.out 1; have hf2 := blk_frozen HBK.out 2; have hf3 := blk_frozen HBK.out 3))
                go_ret
                exact ⟨rfl, by repeat (first | (with_reducible first | exact HB8.out | refine below_set ?_ HG8.out) | exact HB8.out)⟩
              · have e1 : decide ((A : Int) < 8 * ((hh.size : Int) + (a.size : Int))) = false := decide_eq_false (by omega)
                have HT2 := Aside0.mk (show chunk_Read.f tx = some (x1, x2, x3, x4, a2.extract 0 m1.toNat ++ (⟨#[33]⟩ : ByteArray), false, 0) by rw [← HO.out, ← HS2.out (by omega)]; exact HT.out)
                clear hlt HT
                go_wp2_with (first | (go_at_call 9; (with_reducible refine (chunk_Read.calls tx x1 x2 x3 x4 _ false 0 _ HT2.out).mono ?_); rintro e_ w7 ⟨rfl, hb⟩; have HB7 := Aside0.mk (below_step HB6.out hb); clear hb) | ((with_reducible refine gate_dst (N := 20) rfl ?_); (try (refine gate_guard (by rfl) ?_; dsimp only)); refine box_event ?hg (N := 20) ?hd (cs := #[.int .i64 0, .int .i64 0, .int .i64 0, .bool false]) (t := 26) ?hr ?_; (case hd => rfl); (case hg => rfl); (case hr => first | (go_simp; done) | (go_simp; rfl)); intro g8 hg w8 hbox hb; have HB8 := Aside0.mk (below_step HB7.out hb); have HG8 := Aside0.mk ((by rw [hg]; exact below_size HB7.out) : w.heap.size ≤ g8); have HBK := Aside0.mk hbox; clear hb hbox hg; have hz0 : w8.cell? ⟨g8, 0, none⟩ = some (.int .i64 0) := (blk_cell HBK.out 0).trans rfl; have hz1 : w8.cell? ⟨g8, 1, none⟩ = some (.int .i64 0) := (blk_cell HBK.out 1).trans rfl; have hz2 : w8.cell? ⟨g8, 2, none⟩ = some (.int .i64 0) := (blk_cell HBK.out 2).trans rfl; have hz3 : w8.cell? ⟨g8, 3, none⟩ = some (.bool false) := (blk_cell HBK.out 3).trans rfl; have hf0 := blk_frozen HBK.out 0; have hf1 := blk_frozen HBK.out 1; have hf2 := blk_frozen HBK.out 2; have hf3 := blk_frozen HBK.out 3))
                go_ret
                exact ⟨rfl, by repeat (first | (with_reducible first | exact HB8.out | refine below_set ?_ HG8.out) | exact HB8.out)⟩

end Go.Proofs.Ytljllecpmllefaa.P
