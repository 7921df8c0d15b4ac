/- The Go functions of this seat as plain Lean functions, and for each the proof that its call gives what the plain function gives. Printed by a program of this session. -/
import Derived.Test.YtljllecpmllefaaPz
import Derived.Test.YtljllecpmllefaaPx0
import Derived.Test.YtljllecpmllefaaPx1
import Derived.Test.YtljllecpmllefaaPx7
import Derived.Test.YtljllecpmllefaaPx9
import Derived.Test.YtljllecpmllefaaPx10
import Derived.Test.YtljllecpmllefaaPx11
import Derived.Test.YtljllecpmllefaaPx14
namespace Go.Proofs.Ytljllecpmllefaa.P
open Go.RowKit Go.Proofs.YtljllecpmllefaaW.PrintWords Go.Proofs.YtljllecpmllefaaW.PrintLast Go.Proofs.YtljllecpmllefaaW.PrintMore
attribute [local go_sem] max2_int min2_int max_two min_two max_three min_three max_four min_four   -- for this text's walks alone
set_option linter.unusedVariables false
set_option linter.unusedSimpArgs false

attribute [local go_sem high] eqA26
/-! ### tabulariumlaw18_ChunkBack: function 6 -/
mutual
def tabulariumlaw18_ChunkBack.l0 : Nat → Int → Int → List ByteArray → Bool → Int → Bool → ByteArray → ByteArray → ByteArray → Int → Option (Bool)
 | 0, _, _, _, _, _, _, _, _, _, _ => none
 | k + 1, x0, x1, x2, x3, x4, x11, x12, x14, x15, x16 => if x16 < (x2.length : Int) then (tabulariumlaw18_ChunkBack.j1 k x0 x1 x2 x3 x4 x11 x12 x14 x15 x16 (decide (x16 < 10))) else (tabulariumlaw18_ChunkBack.j1 k x0 x1 x2 x3 x4 x11 x12 x14 x15 x16 false)
def tabulariumlaw18_ChunkBack.j1 : Nat → Int → Int → List ByteArray → Bool → Int → Bool → ByteArray → ByteArray → ByteArray → Int → Bool → Option (Bool)
 | 0, _, _, _, _, _, _, _, _, _, _, _ => none
 | k + 1, x0, x1, x2, x3, x4, x11, x12, x14, x15, x16, x57 => if x57 = true then (if 0 ≤ x16 then (if x16 < (x2.length : Int) then (if (rdOf ByteArray.empty x2 x16).toList = ([] : List UInt8) then (tabulariumlaw18_ChunkBack.j2 k x0 x1 x2 x3 x4 x11 x12 x14 x15 x16 true) else (tabulariumlaw18_ChunkBack.j2 k x0 x1 x2 x3 x4 x11 x12 x14 x15 x16 (decide ((wrap64 ((x15.size : Int) + ((rdOf ByteArray.empty x2 x16).size : Int))) > 64)))) else (none)) else (none)) else (if x3 = true then ((chunk_End.f k).bind fun t221 => (if x14.size + t221.size ≤ 9223372036854775807 then (tabulariumlaw18_ChunkBack.j3 k x0 x1 x3 x4 x11 x12 (x14 ++ t221) x15) else (none))) else (tabulariumlaw18_ChunkBack.j3 k x0 x1 x3 x4 x11 x12 x14 x15))
def tabulariumlaw18_ChunkBack.j2 : Nat → Int → Int → List ByteArray → Bool → Int → Bool → ByteArray → ByteArray → ByteArray → Int → Bool → Option (Bool)
 | 0, _, _, _, _, _, _, _, _, _, _, _ => none
 | k + 1, x0, x1, x2, x3, x4, x11, x12, x14, x15, x16, x75 => if x75 = true then (tabulariumlaw18_ChunkBack.l0 k x0 x1 x2 x3 x4 x11 x12 x14 x15 (wrap64 (x16 + 1))) else (if 0 ≤ x16 then (if x16 < (x2.length : Int) then ((chunk_Packet.f k (rdOf ByteArray.empty x2 x16)).bind fun bt218 => (if bt218.2 = 0 then (if x14.size + bt218.1.size ≤ 9223372036854775807 then (if x15.size + (rdOf ByteArray.empty x2 x16).size ≤ 9223372036854775807 then (tabulariumlaw18_ChunkBack.l0 k x0 x1 x2 x3 x4 x11 x12 (x14 ++ bt218.1) (x15 ++ (rdOf ByteArray.empty x2 x16)) (wrap64 (x16 + 1))) else (none)) else (none)) else (some false))) else (none)) else (none))
def tabulariumlaw18_ChunkBack.j3 : Nat → Int → Int → Bool → Int → Bool → ByteArray → ByteArray → ByteArray → Option (Bool)
 | 0, _, _, _, _, _, _, _, _ => none
 | k + 1, x0, x1, x3, x4, x11, x12, x14, x15 => (chunk_Read.f x14).bind fun bt223 => ((chunk_Whole.f k x0 x1 x15 x3).bind fun bt231 => ((chunk_Read.f bt231.1).bind fun bt233 => (if ((!(bt223.1 == x0) || (!(bt223.2.1 == x1) || (!(bt223.2.2.1 == (x15.size : Int))))) || (!(bt223.2.2.2.1 == x3))) = true then (tabulariumlaw18_ChunkBack.j4 k x4 x11 x12 x14 x15 true) else (if bt223.2.2.2.2.1.toList = x15.toList then (if bt223.2.2.2.2.2.1 = true then (if bt223.2.2.2.2.2.2 = 0 then (if bt231.2 = 0 then (if ((!(bt233.1 == x0) || (!(bt233.2.1 == x1) || (!(bt233.2.2.1 == (x15.size : Int))))) || (!(bt233.2.2.2.1 == x3))) = true then (tabulariumlaw18_ChunkBack.j4 k x4 x11 x12 x14 x15 true) else (if bt233.2.2.2.2.1.toList = x15.toList then (if bt233.2.2.2.2.2.1 = true then (tabulariumlaw18_ChunkBack.j4 k x4 x11 x12 x14 x15 (bt233.2.2.2.2.2.2 != 0)) else (tabulariumlaw18_ChunkBack.j4 k x4 x11 x12 x14 x15 true)) else (tabulariumlaw18_ChunkBack.j4 k x4 x11 x12 x14 x15 true))) else (tabulariumlaw18_ChunkBack.j4 k x4 x11 x12 x14 x15 true)) else (tabulariumlaw18_ChunkBack.j4 k x4 x11 x12 x14 x15 true)) else (tabulariumlaw18_ChunkBack.j4 k x4 x11 x12 x14 x15 true)) else (tabulariumlaw18_ChunkBack.j4 k x4 x11 x12 x14 x15 true)))))
def tabulariumlaw18_ChunkBack.j4 : Nat → Int → Bool → ByteArray → ByteArray → ByteArray → Bool → Option (Bool)
 | 0, _, _, _, _, _, _ => none
 | k + 1, x4, x11, x12, x14, x15, x165 => if x165 = true then (some false) else (if x4 < 0 then (if (wrap64 ((x14.size : Int) + 1)) = 0 then (none) else (if 0 ≤ (Int.tmod (wrap64 (-(wrap64 (x4 + 1)))) (wrap64 ((x14.size : Int) + 1))) then (if (Int.tmod (wrap64 (-(wrap64 (x4 + 1)))) (wrap64 ((x14.size : Int) + 1))) ≤ (x14.size : Int) then ((chunk_Read.f (x14.extract 0 ((Int.tmod (wrap64 (-(wrap64 (x4 + 1)))) (wrap64 ((x14.size : Int) + 1))) : Int).toNat)).bind fun bt241 => (if ((x14.extract 0 ((Int.tmod (wrap64 (-(wrap64 (x4 + 1)))) (wrap64 ((x14.size : Int) + 1))) : Int).toNat).size : Int) < (x12.size : Int) then (if x11 = true then (some (bt241.2.2.2.2.2.2 == 2)) else (some false)) else (if x11 = true then (if bt241.2.2.2.2.2.2 = 0 then (if (bt241.2.2.2.2.1.size : Int) ≤ (x15.size : Int) then (if 0 ≤ (bt241.2.2.2.2.1.size : Int) then (if (x15.extract 0 ((bt241.2.2.2.2.1.size : Int) : Int).toNat).toList = bt241.2.2.2.2.1.toList then (if bt241.2.2.1 = (bt241.2.2.2.2.1.size : Int) then (if bt241.2.2.2.1 = true then (some (((x14.extract 0 ((Int.tmod (wrap64 (-(wrap64 (x4 + 1)))) (wrap64 ((x14.size : Int) + 1))) : Int).toNat).size : Int) == (x14.size : Int))) else (some true)) else (some false)) else (some false)) else (none)) else (some false)) else (some false)) else (some false)))) else (none)) else (none))) else (if (wrap64 ((x14.size : Int) + 1)) = 0 then (none) else (if 0 ≤ (Int.tmod x4 (wrap64 ((x14.size : Int) + 1))) then (if (Int.tmod x4 (wrap64 ((x14.size : Int) + 1))) ≤ (x14.size : Int) then ((chunk_Read.f (x14.extract 0 ((Int.tmod x4 (wrap64 ((x14.size : Int) + 1))) : Int).toNat)).bind fun bt249 => (if ((x14.extract 0 ((Int.tmod x4 (wrap64 ((x14.size : Int) + 1))) : Int).toNat).size : Int) < (x12.size : Int) then (if x11 = true then (some (bt249.2.2.2.2.2.2 == 2)) else (some false)) else (if x11 = true then (if bt249.2.2.2.2.2.2 = 0 then (if (bt249.2.2.2.2.1.size : Int) ≤ (x15.size : Int) then (if 0 ≤ (bt249.2.2.2.2.1.size : Int) then (if (x15.extract 0 ((bt249.2.2.2.2.1.size : Int) : Int).toNat).toList = bt249.2.2.2.2.1.toList then (if bt249.2.2.1 = (bt249.2.2.2.2.1.size : Int) then (if bt249.2.2.2.1 = true then (some (((x14.extract 0 ((Int.tmod x4 (wrap64 ((x14.size : Int) + 1))) : Int).toNat).size : Int) == (x14.size : Int))) else (some true)) else (some false)) else (some false)) else (none)) else (some false)) else (some false)) else (some false)))) else (none)) else (none))))
end
def tabulariumlaw18_ChunkBack.f (k : Nat) (a0 : Int) (a1 : Int) (l2 : List ByteArray) (a3 : Bool) (a4 : Int) : Option (Bool) := (tabulariumlaw18_examples.f k).bind fun t212 => ((chunk_Head.f k a0 a1).bind fun bt213 => (if bt213.2 = 0 then (tabulariumlaw18_ChunkBack.l0 k a0 a1 l2 a3 a4 t212 bt213.1 bt213.1 (⟨#[]⟩ : ByteArray) 0) else (if t212 = true then (some (bt213.1.toList == ([] : List UInt8))) else (some false))))
theorem tabulariumlaw18_ChunkBack.mono_l : ∀ k, (∀ y0 y1 y2 y3 y4 y5 y6 y7 y8 y9, LeO (tabulariumlaw18_ChunkBack.l0 k y0 y1 y2 y3 y4 y5 y6 y7 y8 y9) (tabulariumlaw18_ChunkBack.l0 (k + 1) y0 y1 y2 y3 y4 y5 y6 y7 y8 y9)) ∧ (∀ y0 y1 y2 y3 y4 y5 y6 y7 y8 y9 y10, LeO (tabulariumlaw18_ChunkBack.j1 k y0 y1 y2 y3 y4 y5 y6 y7 y8 y9 y10) (tabulariumlaw18_ChunkBack.j1 (k + 1) y0 y1 y2 y3 y4 y5 y6 y7 y8 y9 y10)) ∧ (∀ y0 y1 y2 y3 y4 y5 y6 y7 y8 y9 y10, LeO (tabulariumlaw18_ChunkBack.j2 k y0 y1 y2 y3 y4 y5 y6 y7 y8 y9 y10) (tabulariumlaw18_ChunkBack.j2 (k + 1) y0 y1 y2 y3 y4 y5 y6 y7 y8 y9 y10)) ∧ (∀ y0 y1 y2 y3 y4 y5 y6 y7, LeO (tabulariumlaw18_ChunkBack.j3 k y0 y1 y2 y3 y4 y5 y6 y7) (tabulariumlaw18_ChunkBack.j3 (k + 1) y0 y1 y2 y3 y4 y5 y6 y7)) ∧ (∀ y0 y1 y2 y3 y4 y5, LeO (tabulariumlaw18_ChunkBack.j4 k y0 y1 y2 y3 y4 y5) (tabulariumlaw18_ChunkBack.j4 (k + 1) y0 y1 y2 y3 y4 y5))
 | 0 => ⟨fun _ _ _ _ _ _ _ _ _ _ r h => by simp [tabulariumlaw18_ChunkBack.l0] at h, fun _ _ _ _ _ _ _ _ _ _ _ r h => by simp [tabulariumlaw18_ChunkBack.j1] at h, fun _ _ _ _ _ _ _ _ _ _ _ r h => by simp [tabulariumlaw18_ChunkBack.j2] at h, fun _ _ _ _ _ _ _ _ r h => by simp [tabulariumlaw18_ChunkBack.j3] at h, fun _ _ _ _ _ _ r h => by simp [tabulariumlaw18_ChunkBack.j4] at h⟩
 | k + 1 => by
  obtain ⟨ih0, ih1, ih2, ih3, ih4⟩ := tabulariumlaw18_ChunkBack.mono_l k
  refine ⟨?_, ?_, ?_, ?_, ?_⟩
  ·
   intro y0 y1 y2 y3 y4 y5 y6 y7 y8 y9
   unfold tabulariumlaw18_ChunkBack.l0
   repeat' first
   | (with_reducible exact ih0 _ _ _ _ _ _ _ _ _ _)
   | (with_reducible exact ih1 _ _ _ _ _ _ _ _ _ _ _)
   | (with_reducible exact ih2 _ _ _ _ _ _ _ _ _ _ _)
   | (with_reducible exact ih3 _ _ _ _ _ _ _ _)
   | (with_reducible exact ih4 _ _ _ _ _ _)
   | (with_reducible exact chunk_End.mono _)
   | (with_reducible exact chunk_Head.mono _ _ _)
   | (with_reducible exact chunk_Packet.mono _ _)
   | (with_reducible exact chunk_Whole.mono _ _ _ _ _)
   | (with_reducible exact tabulariumlaw18_examples.mono _)
   | (with_reducible exact LeO.refl _)
   | (with_reducible exact LeO.none _)
   | (with_reducible refine LeO.ite ?_ ?_)
   | (with_reducible refine LeO.bind ?_ (fun _ => ?_))
   | exact ih0 _ _ _ _ _ _ _ _ _ _
   | exact ih1 _ _ _ _ _ _ _ _ _ _ _
   | exact ih2 _ _ _ _ _ _ _ _ _ _ _
   | exact ih3 _ _ _ _ _ _ _ _
   | exact ih4 _ _ _ _ _ _
   | exact chunk_End.mono _
   | exact chunk_Head.mono _ _ _
   | exact chunk_Packet.mono _ _
   | exact chunk_Whole.mono _ _ _ _ _
   | exact tabulariumlaw18_examples.mono _
   | exact LeO.none _
   | refine LeO.ite ?_ ?_
   | refine LeO.bind ?_ (fun _ => ?_)
  ·
   intro y0 y1 y2 y3 y4 y5 y6 y7 y8 y9 y10
   unfold tabulariumlaw18_ChunkBack.j1
   repeat' first
   | (with_reducible exact ih0 _ _ _ _ _ _ _ _ _ _)
   | (with_reducible exact ih1 _ _ _ _ _ _ _ _ _ _ _)
   | (with_reducible exact ih2 _ _ _ _ _ _ _ _ _ _ _)
   | (with_reducible exact ih3 _ _ _ _ _ _ _ _)
   | (with_reducible exact ih4 _ _ _ _ _ _)
   | (with_reducible exact chunk_End.mono _)
   | (with_reducible exact chunk_Head.mono _ _ _)
   | (with_reducible exact chunk_Packet.mono _ _)
   | (with_reducible exact chunk_Whole.mono _ _ _ _ _)
   | (with_reducible exact tabulariumlaw18_examples.mono _)
   | (with_reducible exact LeO.refl _)
   | (with_reducible exact LeO.none _)
   | (with_reducible refine LeO.ite ?_ ?_)
   | (with_reducible refine LeO.bind ?_ (fun _ => ?_))
   | exact ih0 _ _ _ _ _ _ _ _ _ _
   | exact ih1 _ _ _ _ _ _ _ _ _ _ _
   | exact ih2 _ _ _ _ _ _ _ _ _ _ _
   | exact ih3 _ _ _ _ _ _ _ _
   | exact ih4 _ _ _ _ _ _
   | exact chunk_End.mono _
   | exact chunk_Head.mono _ _ _
   | exact chunk_Packet.mono _ _
   | exact chunk_Whole.mono _ _ _ _ _
   | exact tabulariumlaw18_examples.mono _
   | exact LeO.none _
   | refine LeO.ite ?_ ?_
   | refine LeO.bind ?_ (fun _ => ?_)
  ·
   intro y0 y1 y2 y3 y4 y5 y6 y7 y8 y9 y10
   unfold tabulariumlaw18_ChunkBack.j2
   repeat' first
   | (with_reducible exact ih0 _ _ _ _ _ _ _ _ _ _)
   | (with_reducible exact ih1 _ _ _ _ _ _ _ _ _ _ _)
   | (with_reducible exact ih2 _ _ _ _ _ _ _ _ _ _ _)
   | (with_reducible exact ih3 _ _ _ _ _ _ _ _)
   | (with_reducible exact ih4 _ _ _ _ _ _)
   | (with_reducible exact chunk_End.mono _)
   | (with_reducible exact chunk_Head.mono _ _ _)
   | (with_reducible exact chunk_Packet.mono _ _)
   | (with_reducible exact chunk_Whole.mono _ _ _ _ _)
   | (with_reducible exact tabulariumlaw18_examples.mono _)
   | (with_reducible exact LeO.refl _)
   | (with_reducible exact LeO.none _)
   | (with_reducible refine LeO.ite ?_ ?_)
   | (with_reducible refine LeO.bind ?_ (fun _ => ?_))
   | exact ih0 _ _ _ _ _ _ _ _ _ _
   | exact ih1 _ _ _ _ _ _ _ _ _ _ _
   | exact ih2 _ _ _ _ _ _ _ _ _ _ _
   | exact ih3 _ _ _ _ _ _ _ _
   | exact ih4 _ _ _ _ _ _
   | exact chunk_End.mono _
   | exact chunk_Head.mono _ _ _
   | exact chunk_Packet.mono _ _
   | exact chunk_Whole.mono _ _ _ _ _
   | exact tabulariumlaw18_examples.mono _
   | exact LeO.none _
   | refine LeO.ite ?_ ?_
   | refine LeO.bind ?_ (fun _ => ?_)
  ·
   intro y0 y1 y2 y3 y4 y5 y6 y7
   unfold tabulariumlaw18_ChunkBack.j3
   repeat' first
   | (with_reducible exact ih0 _ _ _ _ _ _ _ _ _ _)
   | (with_reducible exact ih1 _ _ _ _ _ _ _ _ _ _ _)
   | (with_reducible exact ih2 _ _ _ _ _ _ _ _ _ _ _)
   | (with_reducible exact ih3 _ _ _ _ _ _ _ _)
   | (with_reducible exact ih4 _ _ _ _ _ _)
   | (with_reducible exact chunk_End.mono _)
   | (with_reducible exact chunk_Head.mono _ _ _)
   | (with_reducible exact chunk_Packet.mono _ _)
   | (with_reducible exact chunk_Whole.mono _ _ _ _ _)
   | (with_reducible exact tabulariumlaw18_examples.mono _)
   | (with_reducible exact LeO.refl _)
   | (with_reducible exact LeO.none _)
   | (with_reducible refine LeO.ite ?_ ?_)
   | (with_reducible refine LeO.bind ?_ (fun _ => ?_))
   | exact ih0 _ _ _ _ _ _ _ _ _ _
   | exact ih1 _ _ _ _ _ _ _ _ _ _ _
   | exact ih2 _ _ _ _ _ _ _ _ _ _ _
   | exact ih3 _ _ _ _ _ _ _ _
   | exact ih4 _ _ _ _ _ _
   | exact chunk_End.mono _
   | exact chunk_Head.mono _ _ _
   | exact chunk_Packet.mono _ _
   | exact chunk_Whole.mono _ _ _ _ _
   | exact tabulariumlaw18_examples.mono _
   | exact LeO.none _
   | refine LeO.ite ?_ ?_
   | refine LeO.bind ?_ (fun _ => ?_)
  ·
   intro y0 y1 y2 y3 y4 y5
   unfold tabulariumlaw18_ChunkBack.j4
   repeat' first
   | (with_reducible exact ih0 _ _ _ _ _ _ _ _ _ _)
   | (with_reducible exact ih1 _ _ _ _ _ _ _ _ _ _ _)
   | (with_reducible exact ih2 _ _ _ _ _ _ _ _ _ _ _)
   | (with_reducible exact ih3 _ _ _ _ _ _ _ _)
   | (with_reducible exact ih4 _ _ _ _ _ _)
   | (with_reducible exact chunk_End.mono _)
   | (with_reducible exact chunk_Head.mono _ _ _)
   | (with_reducible exact chunk_Packet.mono _ _)
   | (with_reducible exact chunk_Whole.mono _ _ _ _ _)
   | (with_reducible exact tabulariumlaw18_examples.mono _)
   | (with_reducible exact LeO.refl _)
   | (with_reducible exact LeO.none _)
   | (with_reducible refine LeO.ite ?_ ?_)
   | (with_reducible refine LeO.bind ?_ (fun _ => ?_))
   | exact ih0 _ _ _ _ _ _ _ _ _ _
   | exact ih1 _ _ _ _ _ _ _ _ _ _ _
   | exact ih2 _ _ _ _ _ _ _ _ _ _ _
   | exact ih3 _ _ _ _ _ _ _ _
   | exact ih4 _ _ _ _ _ _
   | exact chunk_End.mono _
   | exact chunk_Head.mono _ _ _
   | exact chunk_Packet.mono _ _
   | exact chunk_Whole.mono _ _ _ _ _
   | exact tabulariumlaw18_examples.mono _
   | exact LeO.none _
   | refine LeO.ite ?_ ?_
   | refine LeO.bind ?_ (fun _ => ?_)
theorem tabulariumlaw18_ChunkBack.mono : ∀ a0 a1 a2 a3 a4 k, LeO (tabulariumlaw18_ChunkBack.f k a0 a1 a2 a3 a4) (tabulariumlaw18_ChunkBack.f (k + 1) a0 a1 a2 a3 a4) := by
 intro a0 a1 a2 a3 a4 k
 obtain ⟨ih0, ih1, ih2, ih3, ih4⟩ := tabulariumlaw18_ChunkBack.mono_l k
 unfold tabulariumlaw18_ChunkBack.f
 repeat' first
   | (with_reducible exact ih0 _ _ _ _ _ _ _ _ _ _)
   | (with_reducible exact ih1 _ _ _ _ _ _ _ _ _ _ _)
   | (with_reducible exact ih2 _ _ _ _ _ _ _ _ _ _ _)
   | (with_reducible exact ih3 _ _ _ _ _ _ _ _)
   | (with_reducible exact ih4 _ _ _ _ _ _)
   | (with_reducible exact chunk_End.mono _)
   | (with_reducible exact chunk_Head.mono _ _ _)
   | (with_reducible exact chunk_Packet.mono _ _)
   | (with_reducible exact chunk_Whole.mono _ _ _ _ _)
   | (with_reducible exact tabulariumlaw18_examples.mono _)
   | (with_reducible exact LeO.refl _)
   | (with_reducible exact LeO.none _)
   | (with_reducible refine LeO.ite ?_ ?_)
   | (with_reducible refine LeO.bind ?_ (fun _ => ?_))
   | exact ih0 _ _ _ _ _ _ _ _ _ _
   | exact ih1 _ _ _ _ _ _ _ _ _ _ _
   | exact ih2 _ _ _ _ _ _ _ _ _ _ _
   | exact ih3 _ _ _ _ _ _ _ _
   | exact ih4 _ _ _ _ _ _
   | exact chunk_End.mono _
   | exact chunk_Head.mono _ _ _
   | exact chunk_Packet.mono _ _
   | exact chunk_Whole.mono _ _ _ _ _
   | exact tabulariumlaw18_examples.mono _
   | exact LeO.none _
   | refine LeO.ite ?_ ?_
   | refine LeO.bind ?_ (fun _ => ?_)
theorem cutmax (x : ByteArray) (j : Int) (h0 : (0 ≤ j) = True) (h1 : (j ≤ (x.size : Int)) = True) : (((x.extract 0 j.toNat).size : Nat) : Int) = max j 0 := by
 have q0 := of_eq_true h0
 have q1 := of_eq_true h1
 rw [ByteArray.size_extract]; omega
theorem cutmaxT (x : ByteArray) (j : Int) (n : Nat) (hs : (((x.extract 0 j.toNat).size : Nat) : Int) = max j 0) (b : Bool) (h : decide ((((x.extract 0 j.toNat).size : Nat) : Int) < (n : Int)) = b) : decide (max j 0 < (n : Int)) = b := by
 rw [← hs]; exact h
theorem cutmaxA (x : ByteArray) (j : Int) (n : Nat) (hs : (((x.extract 0 j.toNat).size : Nat) : Int) = max j 0) (h : decide ((((x.extract 0 j.toNat).size : Nat) : Int) < (n : Int)) = true) : (max j 0 < (n : Int)) = True := by
 rw [← hs]; exact eq_true (of_decide_eq_true h)
theorem cutmaxB (x : ByteArray) (j : Int) (n : Nat) (hs : (((x.extract 0 j.toNat).size : Nat) : Int) = max j 0) (h : decide ((((x.extract 0 j.toNat).size : Nat) : Int) < (n : Int)) = false) : (max j 0 < (n : Int)) = False := by
 rw [← hs]; exact eq_false (of_decide_eq_false h)
set_option maxHeartbeats 8000000 in
set_option maxRecDepth 100000 in
theorem tabulariumlaw18_ChunkBack.calls (k : Nat) (a0 : Int) (a1 : Int) (A2 : Option Addr) (c2 : Nat) (l2 : List ByteArray) (a3 : Bool) (a4 : Int) (r : Bool) (w : World) (hr2 : Kd.C Kd.string w A2 l2.length l2) (hc2 : l2.length ≤ c2) (h : tabulariumlaw18_ChunkBack.f k a0 a1 l2 a3 a4 = some r) :
  Calls Try.prog 6 #[.int .i64 a0, .int .i64 a1, .slice A2 l2.length c2, .bool a3, .int .i64 a4] w fun e w' => e = .returned (.bool r) ∧ Below w.heap.size w w' := by
 have hu24 := Try.underlying24
 have hu26 := Try.underlying26
 have HR2 := Aside0.mk hr2
 have HC2 := Aside0.mk hc2
 clear hr2 hc2
 have HB := Aside0.mk (Below.refl w.heap.size w)
 have H : ((tabulariumlaw18_examples.f k).bind fun t212 => ((chunk_Head.f k a0 a1).bind fun bt213 => (if bt213.2 = 0 then (tabulariumlaw18_ChunkBack.l0 k a0 a1 l2 a3 a4 t212 bt213.1 bt213.1 (⟨#[]⟩ : ByteArray) 0) else (if t212 = true then (some (bt213.1.toList == ([] : List UInt8))) else (some false))))) = some r := h
 clear h
 replace H := Option.bind_eq_some_iff.mp H
 obtain ⟨t212, A60, H⟩ := H
 replace H : ((chunk_Head.f k a0 a1).bind fun bt213 => (if bt213.2 = 0 then (tabulariumlaw18_ChunkBack.l0 k a0 a1 l2 a3 a4 t212 bt213.1 bt213.1 (⟨#[]⟩ : ByteArray) 0) else (if t212 = true then (some (bt213.1.toList == ([] : List UInt8))) else (some false)))) = some r := H
 have A6 := Aside0.mk A60
 clear A60
 replace H := Option.bind_eq_some_iff.mp H
 obtain ⟨⟨t213, t214⟩, A70, H⟩ := H
 replace H : (if t214 = 0 then (tabulariumlaw18_ChunkBack.l0 k a0 a1 l2 a3 a4 t212 t213 t213 (⟨#[]⟩ : ByteArray) 0) else (if t212 = true then (some (t213.toList == ([] : List UInt8))) else (some false))) = some r := H
 have A7 := Aside0.mk A70
 clear A70
 by_cases c8 : t214 = 0
 ·
  rw [if_pos c8] at H
  have c8b0 : (t214 == 0) = true := beq_iff_eq.mpr c8
  have c8b1 : (t214 != 0) = false := bne_eq_false_iff_eq.mpr c8
  clear c8
  have H' := Aside0.mk H
  clear H
  go_enter Try.func6, Try.ntmps6
  go_wp2_with (first | ((with_reducible refine gate_callee (f := 8) rfl ?_); refine goesL_ (some 35) rfl rfl Try.func8 (by kernel_rfl) rfl #[] rfl (by (try simp only [List.map_toArray, List.map_cons, List.map_nil]); first | done | rfl | (simp only [List.length_drop, List.length_take]; rfl)) ?_; (with_reducible refine (tabulariumlaw18_examples.calls k  t212 _ A6.out).mono ?_); rintro e w9 ⟨rfl, hb⟩; refine ⟨_, rfl, ?_⟩; have n0_ := Aside0.mk (below_step (by exact bw0 HB) hb); clear HB; have HB := n0_; clear n0_; (try clear hb); (try clear hb2); (try clear hk); (try clear hi)) | ((with_reducible refine gate_callee (f := 11) rfl ?_); refine goesL_ (some 39) rfl rfl Try.func11 (by kernel_rfl) rfl #[.int .i64 a0, .int .i64 a1] rfl (by (try simp only [List.map_toArray, List.map_cons, List.map_nil]); first | done | rfl | (simp only [List.length_drop, List.length_take]; rfl)) ?_; (with_reducible refine (chunk_Head.calls k a0 a1 t213 t214 _ A7.out).mono ?_); rintro e w10 ⟨rfl, hb⟩; refine ⟨_, rfl, ?_⟩; have n0_ := Aside0.mk (below_step (by exact bw0 HB) hb); clear HB; have HB := n0_; clear n0_; (try clear hb); (try clear hb2); (try clear hk); (try clear hi)))
  go_loopg [14, 15, 16] k (fun kq v14 v15 v16 w' => ∃ (x14_1 : ByteArray) (x15_1 : ByteArray) (x16_1 : Int), v14 = .string x14_1 ∧ v15 = .string x15_1 ∧ v16 = .int .i64 x16_1 ∧ Aside0 (tabulariumlaw18_ChunkBack.l0 kq a0 a1 l2 a3 a4 t212 t213 x14_1 x15_1 x16_1 = some r) ∧ Aside0 (kq ≤ k) ∧ Aside0 (Below w.heap.size w w'))
  case atStart => exact ⟨(t213), ((⟨#[]⟩ : ByteArray)), (0), (by first | rfl | (simp; done) | (simp [*]; done) | (simp; exact (fun (l_ : List UInt8) => by cases l_ <;> rfl : ∀ l_ : List UInt8, l_.isEmpty = !(l_ != [])) _)), (by first | rfl | (simp; done) | (simp [*]; done) | (simp; exact (fun (l_ : List UInt8) => by cases l_ <;> rfl : ∀ l_ : List UInt8, l_.isEmpty = !(l_ != [])) _)), (by first | rfl | (simp; done) | (simp [*]; done) | (simp; exact (fun (l_ : List UInt8) => by cases l_ <;> rfl : ∀ l_ : List UInt8, l_.isEmpty = !(l_ != [])) _)), H', ⟨Nat.le_refl _⟩, ⟨by repeat (first | (with_reducible first | exact HB.out | apply below_alloc | apply pw_below_drewN | apply below_drew1) | exact HB.out)⟩⟩
  case round =>
   clear H'
   try clear c1
   try clear c2
   try clear p2
   try clear c6
   try clear c8
   try clear c8b0
   try clear c8b1
   obtain ⟨x14_1, x15_1, x16_1, rfl, rfl, rfl, HA, HK1, HB⟩ := hrel
   cases gk with
   | zero => exact absurd HA.out (by simp [tabulariumlaw18_ChunkBack.l0])
   | succ k1 =>
    have H := HA.out
    clear HA
    simp only [tabulariumlaw18_ChunkBack.l0] at H
    have HC11 := Aside0.mk H
    clear H
    go_upto_region 8 with (fail)
    go_cut [57] (fun v57 wc => ∃ (kq : Nat) (x57_10 : Bool), v57 = .bool x57_10 ∧ Aside0 (tabulariumlaw18_ChunkBack.j1 kq a0 a1 l2 a3 a4 t212 t213 x14_1 x15_1 x16_1 x57_10 = some r) ∧ Aside0 (kq ≤ k1) ∧ Aside0 (Below w.heap.size w wc))
    case first =>
     have H := HC11.out
     clear HC11
     by_cases c12 : x16_1 < (l2.length : Int)
     ·
      rw [if_pos c12] at H
      have c12b0 : decide (x16_1 < (l2.length : Int)) = true := decide_eq_true c12
      clear c12
      (first | rw [c12b0] | (simp only [i64_w, i32_w]; rw [c12b0]) | skip)
      have H' := Aside0.mk H
      clear H
      as_aux_lemma =>
       go_wp2
       go_meet
       case rel => exact ⟨_, (decide (x16_1 < 10)), (by first | rfl | (simp; done) | (simp [*]; done) | (simp; exact (fun (l_ : List UInt8) => by cases l_ <;> rfl : ∀ l_ : List UInt8, l_.isEmpty = !(l_ != [])) _)), H', ⟨by have := HK1.out; first | omega | exact Nat.le_refl _⟩, ⟨by repeat (first | (with_reducible first | exact HB.out | apply below_alloc | apply pw_below_drewN | apply below_drew1) | exact HB.out)⟩⟩
     ·
      rw [if_neg c12] at H
      have c12b0 : decide (x16_1 < (l2.length : Int)) = false := decide_eq_false c12
      clear c12
      (first | rw [c12b0] | (simp only [i64_w, i32_w]; rw [c12b0]) | skip)
      have H' := Aside0.mk H
      clear H
      as_aux_lemma =>
       go_wp2
       go_meet
       case rel => exact ⟨_, (false), (by first | rfl | (simp; done) | (simp [*]; done) | (simp; exact (fun (l_ : List UInt8) => by cases l_ <;> rfl : ∀ l_ : List UInt8, l_.isEmpty = !(l_ != [])) _)), H', ⟨by have := HK1.out; first | omega | exact Nat.le_refl _⟩, ⟨by repeat (first | (with_reducible first | exact HB.out | apply below_alloc | apply pw_below_drewN | apply below_drew1) | exact HB.out)⟩⟩
    case rest => as_aux_lemma =>
     clear HC11
     try clear c1
     try clear c2
     try clear p2
     try clear c6
     try clear c8
     try clear c8b0
     try clear c8b1
     try clear c11
     try clear c12
     try clear c12b0
     try clear p2
     obtain ⟨kq, x57_10, rfl, HA, HJ10, HB⟩ := hcut
     cases kq with
     | zero => exact absurd HA.out (by simp [tabulariumlaw18_ChunkBack.j1])
     | succ kj10 =>
      have H := HA.out
      clear HA
      simp only [tabulariumlaw18_ChunkBack.j1] at H
      by_cases c13 : x57_10 = true
      ·
       subst c13
       have H1 : (if 0 ≤ x16_1 then (if x16_1 < (l2.length : Int) then (if (rdOf ByteArray.empty l2 x16_1).toList = ([] : List UInt8) then (tabulariumlaw18_ChunkBack.j2 kj10 a0 a1 l2 a3 a4 t212 t213 x14_1 x15_1 x16_1 true) else (tabulariumlaw18_ChunkBack.j2 kj10 a0 a1 l2 a3 a4 t212 t213 x14_1 x15_1 x16_1 (decide ((wrap64 ((x15_1.size : Int) + ((rdOf ByteArray.empty l2 x16_1).size : Int))) > 64)))) else (none)) else (none)) = some r := by rw [if_pos rfl] at H; exact H
       clear H
       have H := H1
       clear H1
       have HC14 := Aside0.mk H
       clear H
       go_upto_region 10 with (fail)
       go_cut [75] (fun v75 wc => ∃ (kq : Nat) (x75_13 : Bool), v75 = .bool x75_13 ∧ Aside0 (tabulariumlaw18_ChunkBack.j2 kq a0 a1 l2 a3 a4 t212 t213 x14_1 x15_1 x16_1 x75_13 = some r) ∧ Aside0 (kq ≤ kj10) ∧ Aside0 (Below w.heap.size w wc))
       case first =>
        have H := HC14.out
        clear HC14
        by_cases c15 : 0 ≤ x16_1
        ·
         rw [if_pos c15] at H
         have c15b0 : decide (0 ≤ x16_1) = true := decide_eq_true c15
         clear c15
         (first | rw [c15b0] | (simp only [i64_w, i32_w]; rw [c15b0]) | skip)
         by_cases c16 : x16_1 < (l2.length : Int)
         ·
          rw [if_pos c16] at H
          have c16b0 : decide (x16_1 < (l2.length : Int)) = true := decide_eq_true c16
          clear c16
          by_cases c17 : (rdOf ByteArray.empty l2 x16_1).toList = ([] : List UInt8)
          ·
           rw [if_pos c17] at H
           have c17b0 : ((rdOf ByteArray.empty l2 x16_1).toList == ([] : List UInt8)) = true := beq_iff_eq.mpr c17
           have c17b1 : ((rdOf ByteArray.empty l2 x16_1).toList != ([] : List UInt8)) = false := bne_eq_false_iff_eq.mpr c17
           clear c17
           have H' := Aside0.mk H
           clear H
           have p215 : 0 ≤ (x16_1 : Int) := of_decide_eq_true (by first | (with_reducible assumption) | assumption)
           have q215 : x16_1 < (l2.length : Int) := of_decide_eq_true (by first | (with_reducible assumption) | assumption)
           obtain ⟨ad215, e215, hx215_0⟩ := Kd.at_string HR2.out x16_1 p215 q215
           cases e215
           replace hx215_0 := (HB.out.cell (World.block_lt_of_cell? w _ hx215_0)).trans hx215_0
           replace p215 := eq_true p215; replace q215 := eq_true q215
           as_aux_lemma =>
            go_wp2
            go_meet
            case rel => exact ⟨_, (true), (by first | rfl | (simp; done) | (simp [*]; done) | (simp; exact (fun (l_ : List UInt8) => by cases l_ <;> rfl : ∀ l_ : List UInt8, l_.isEmpty = !(l_ != [])) _)), H', ⟨by have := HK1.out; have := HJ10.out; first | omega | exact Nat.le_refl _⟩, ⟨by repeat (first | (with_reducible first | exact HB.out | apply below_alloc | apply pw_below_drewN | apply below_drew1) | exact HB.out)⟩⟩
          ·
           rw [if_neg c17] at H
           have c17b0 : ((rdOf ByteArray.empty l2 x16_1).toList == ([] : List UInt8)) = false := beq_eq_false_iff_ne.mpr c17
           have c17b1 : ((rdOf ByteArray.empty l2 x16_1).toList != ([] : List UInt8)) = true := bne_iff_ne.mpr c17
           have H' := Aside0.mk H
           clear H
           have p215 : 0 ≤ (x16_1 : Int) := of_decide_eq_true (by first | (with_reducible assumption) | assumption)
           have q215 : x16_1 < (l2.length : Int) := of_decide_eq_true (by first | (with_reducible assumption) | assumption)
           obtain ⟨ad215, e215, hx215_0⟩ := Kd.at_string HR2.out x16_1 p215 q215
           cases e215
           replace hx215_0 := (HB.out.cell (World.block_lt_of_cell? w _ hx215_0)).trans hx215_0
           replace p215 := eq_true p215; replace q215 := eq_true q215
           have p216 : 0 ≤ (x16_1 : Int) := of_decide_eq_true (by first | (with_reducible assumption) | assumption)
           have q216 : x16_1 < (l2.length : Int) := of_decide_eq_true (by first | (with_reducible assumption) | assumption)
           obtain ⟨ad216, e216, hx216_0⟩ := Kd.at_string HR2.out x16_1 p216 q216
           obtain rfl : ad215 = ad216 := (by injection e216)
           replace hx216_0 := (HB.out.cell (World.block_lt_of_cell? w _ hx216_0)).trans hx216_0
           replace p216 := eq_true p216; replace q216 := eq_true q216
           as_aux_lemma =>
            go_wp2
            go_meet
            case rel => exact ⟨_, (decide ((wrap64 ((x15_1.size : Int) + ((rdOf ByteArray.empty l2 x16_1).size : Int))) > 64)), (by first | rfl | (simp; done) | (simp [*]; done) | (simp; exact (fun (l_ : List UInt8) => by cases l_ <;> rfl : ∀ l_ : List UInt8, l_.isEmpty = !(l_ != [])) _)), H', ⟨by have := HK1.out; have := HJ10.out; first | omega | exact Nat.le_refl _⟩, ⟨by repeat (first | (with_reducible first | exact HB.out | apply below_alloc | apply pw_below_drewN | apply below_drew1) | exact HB.out)⟩⟩
         ·
          rw [if_neg c16] at H
          exact absurd H (by simp)
        ·
         rw [if_neg c15] at H
         exact absurd H (by simp)
       case rest => as_aux_lemma =>
        clear HC14
        try clear c1
        try clear c2
        try clear p2
        try clear q2
        try clear hx2
        try clear c6
        try clear p6
        try clear c8
        try clear c8b0
        try clear c8b1
        try clear c11
        try clear c12
        try clear c12b0
        try clear c13
        try clear c15
        try clear c15b0
        try clear c16
        try clear c16b0
        try clear c17
        try clear c17b0
        try clear c17b1
        try clear hx215_0
        try clear hx216_0
        try clear p2
        try clear p215
        try clear p216
        try clear q215
        try clear q216
        obtain ⟨kq, x75_13, rfl, HA, HJ13, HB⟩ := hcut
        cases kq with
        | zero => exact absurd HA.out (by simp [tabulariumlaw18_ChunkBack.j2])
        | succ kj13 =>
         have H := HA.out
         clear HA
         simp only [tabulariumlaw18_ChunkBack.j2] at H
         by_cases c18 : x75_13 = true
         ·
          subst c18
          have H1 : (tabulariumlaw18_ChunkBack.l0 kj13 a0 a1 l2 a3 a4 t212 t213 x14_1 x15_1 (wrap64 (x16_1 + 1))) = some r := by rw [if_pos rfl] at H; exact H
          clear H
          have H := H1
          clear H1
          have H' := Aside0.mk H
          clear H
          as_aux_lemma =>
           go_wp2
           go_roundg kj13
           case measure => have := HK1.out; have := HJ10.out; have := HJ13.out; omega
           case rel => exact ⟨(x14_1), (x15_1), (wrap64 (x16_1 + 1)), (by first | rfl | (simp; done) | (simp [*]; done) | (simp; exact (fun (l_ : List UInt8) => by cases l_ <;> rfl : ∀ l_ : List UInt8, l_.isEmpty = !(l_ != [])) _)), (by first | rfl | (simp; done) | (simp [*]; done) | (simp; exact (fun (l_ : List UInt8) => by cases l_ <;> rfl : ∀ l_ : List UInt8, l_.isEmpty = !(l_ != [])) _)), (by first | rfl | (simp; done) | (simp [*]; done) | (simp; exact (fun (l_ : List UInt8) => by cases l_ <;> rfl : ∀ l_ : List UInt8, l_.isEmpty = !(l_ != [])) _)), H', ⟨by have := HK1.out; have := HJ10.out; have := HJ13.out; omega⟩, ⟨by repeat (first | (with_reducible first | exact HB.out | apply below_alloc | apply pw_below_drewN | apply below_drew1) | exact HB.out)⟩⟩
         ·
          replace c18 := Bool.eq_false_iff.mpr c18
          subst c18
          have H1 : (if 0 ≤ x16_1 then (if x16_1 < (l2.length : Int) then ((chunk_Packet.f kj13 (rdOf ByteArray.empty l2 x16_1)).bind fun bt218 => (if bt218.2 = 0 then (if x14_1.size + bt218.1.size ≤ 9223372036854775807 then (if x15_1.size + (rdOf ByteArray.empty l2 x16_1).size ≤ 9223372036854775807 then (tabulariumlaw18_ChunkBack.l0 kj13 a0 a1 l2 a3 a4 t212 t213 (x14_1 ++ bt218.1) (x15_1 ++ (rdOf ByteArray.empty l2 x16_1)) (wrap64 (x16_1 + 1))) else (none)) else (none)) else (some false))) else (none)) else (none)) = some r := by rw [if_neg (show ¬ (false = true) by decide)] at H; exact H
          clear H
          have H := H1
          clear H1
          by_cases c19 : 0 ≤ x16_1
          ·
           rw [if_pos c19] at H
           have c19b0 : decide (0 ≤ x16_1) = true := decide_eq_true c19
           clear c19
           by_cases c20 : x16_1 < (l2.length : Int)
           ·
            rw [if_pos c20] at H
            have c20b0 : decide (x16_1 < (l2.length : Int)) = true := decide_eq_true c20
            clear c20
            replace H := Option.bind_eq_some_iff.mp H
            obtain ⟨⟨t218, t219⟩, A210, H⟩ := H
            replace H : (if t219 = 0 then (if x14_1.size + t218.size ≤ 9223372036854775807 then (if x15_1.size + (rdOf ByteArray.empty l2 x16_1).size ≤ 9223372036854775807 then (tabulariumlaw18_ChunkBack.l0 kj13 a0 a1 l2 a3 a4 t212 t213 (x14_1 ++ t218) (x15_1 ++ (rdOf ByteArray.empty l2 x16_1)) (wrap64 (x16_1 + 1))) else (none)) else (none)) else (some false)) = some r := H
            have A21 := Aside0.mk A210
            clear A210
            by_cases c22 : t219 = 0
            ·
             rw [if_pos c22] at H
             have c22b0 : (t219 == 0) = true := beq_iff_eq.mpr c22
             have c22b1 : (t219 != 0) = false := bne_eq_false_iff_eq.mpr c22
             clear c22
             by_cases c23 : x14_1.size + t218.size ≤ 9223372036854775807
             ·
              rw [if_pos c23] at H
              have c23b0 := eq_true c23
              have c23b1 : decide (x14_1.size + t218.size ≤ 9223372036854775807) = true := decide_eq_true c23
              try have c23b2 : (9223372036854775807 < x14_1.size + t218.size) = False := eq_false (Nat.not_lt.2 c23)
              by_cases c24 : x15_1.size + (rdOf ByteArray.empty l2 x16_1).size ≤ 9223372036854775807
              ·
               rw [if_pos c24] at H
               have c24b0 := eq_true c24
               have c24b1 : decide (x15_1.size + (rdOf ByteArray.empty l2 x16_1).size ≤ 9223372036854775807) = true := decide_eq_true c24
               try have c24b2 : (9223372036854775807 < x15_1.size + (rdOf ByteArray.empty l2 x16_1).size) = False := eq_false (Nat.not_lt.2 c24)
               have H' := Aside0.mk H
               clear H
               have p217 : 0 ≤ (x16_1 : Int) := of_decide_eq_true (by first | (with_reducible assumption) | assumption)
               have q217 : x16_1 < (l2.length : Int) := of_decide_eq_true (by first | (with_reducible assumption) | assumption)
               obtain ⟨ad217, e217, hx217_0⟩ := Kd.at_string HR2.out x16_1 p217 q217
               cases e217
               replace hx217_0 := (HB.out.cell (World.block_lt_of_cell? w _ hx217_0)).trans hx217_0
               replace p217 := eq_true p217; replace q217 := eq_true q217
               as_aux_lemma =>
                go_wp2_with (first | ((with_reducible refine gate_callee (f := 12) rfl ?_); refine goesL_ (some 81) rfl rfl Try.func12 (by kernel_rfl) rfl #[.string (rdOf ByteArray.empty l2 x16_1)] rfl (by (try simp only [List.map_toArray, List.map_cons, List.map_nil]); first | done | rfl | (simp only [List.length_drop, List.length_take]; rfl)) ?_; (with_reducible refine (chunk_Packet.calls kj13 (rdOf ByteArray.empty l2 x16_1) t218 t219 _ A21.out).mono ?_); rintro e w25 ⟨rfl, hb⟩; refine ⟨_, rfl, ?_⟩; have n0_ := Aside0.mk (below_step (by exact bw0 HB) hb); clear HB; have HB := n0_; clear n0_; (try clear hb); (try clear hb2); (try clear hk); (try clear hi); have p220 : 0 ≤ (x16_1 : Int) := of_decide_eq_true (by first | (with_reducible assumption) | assumption); have q220 : x16_1 < (l2.length : Int) := of_decide_eq_true (by first | (with_reducible assumption) | assumption); obtain ⟨ad220, e220, hx220_0⟩ := Kd.at_string HR2.out x16_1 p220 q220; obtain rfl : ad217 = ad220 := (by injection e220); replace hx220_0 := (HB.out.cell (World.block_lt_of_cell? w _ hx220_0)).trans hx220_0; replace p220 := eq_true p220; replace q220 := eq_true q220))
                go_roundg kj13
                case measure => have := HK1.out; have := HJ10.out; have := HJ13.out; omega
                case rel => exact ⟨(x14_1 ++ t218), (x15_1 ++ (rdOf ByteArray.empty l2 x16_1)), (wrap64 (x16_1 + 1)), (by first | rfl | (simp; done) | (simp [*]; done) | (simp; exact (fun (l_ : List UInt8) => by cases l_ <;> rfl : ∀ l_ : List UInt8, l_.isEmpty = !(l_ != [])) _)), (by first | rfl | (simp; done) | (simp [*]; done) | (simp; exact (fun (l_ : List UInt8) => by cases l_ <;> rfl : ∀ l_ : List UInt8, l_.isEmpty = !(l_ != [])) _)), (by first | rfl | (simp; done) | (simp [*]; done) | (simp; exact (fun (l_ : List UInt8) => by cases l_ <;> rfl : ∀ l_ : List UInt8, l_.isEmpty = !(l_ != [])) _)), H', ⟨by have := HK1.out; have := HJ10.out; have := HJ13.out; omega⟩, ⟨by repeat (first | (with_reducible first | exact HB.out | apply below_alloc | apply pw_below_drewN | apply below_drew1) | exact HB.out)⟩⟩
              ·
               rw [if_neg c24] at H
               exact absurd H (by simp)
             ·
              rw [if_neg c23] at H
              exact absurd H (by simp)
            ·
             rw [if_neg c22] at H
             have c22b0 : (t219 == 0) = false := beq_eq_false_iff_ne.mpr c22
             have c22b1 : (t219 != 0) = true := bne_iff_ne.mpr c22
             obtain rfl := Option.some.inj H
             have p217 : 0 ≤ (x16_1 : Int) := of_decide_eq_true (by first | (with_reducible assumption) | assumption)
             have q217 : x16_1 < (l2.length : Int) := of_decide_eq_true (by first | (with_reducible assumption) | assumption)
             obtain ⟨ad217, e217, hx217_0⟩ := Kd.at_string HR2.out x16_1 p217 q217
             cases e217
             replace hx217_0 := (HB.out.cell (World.block_lt_of_cell? w _ hx217_0)).trans hx217_0
             replace p217 := eq_true p217; replace q217 := eq_true q217
             as_aux_lemma =>
              go_wp2_with (first | ((with_reducible refine gate_callee (f := 12) rfl ?_); refine goesL_ (some 81) rfl rfl Try.func12 (by kernel_rfl) rfl #[.string (rdOf ByteArray.empty l2 x16_1)] rfl (by (try simp only [List.map_toArray, List.map_cons, List.map_nil]); first | done | rfl | (simp only [List.length_drop, List.length_take]; rfl)) ?_; (with_reducible refine (chunk_Packet.calls kj13 (rdOf ByteArray.empty l2 x16_1) t218 t219 _ A21.out).mono ?_); rintro e w26 ⟨rfl, hb⟩; refine ⟨_, rfl, ?_⟩; have n0_ := Aside0.mk (below_step (by exact bw0 HB) hb); clear HB; have HB := n0_; clear n0_; (try clear hb); (try clear hb2); (try clear hk); (try clear hi)))
              go_ret
              exact ⟨by first | rfl | (simp [errW_none, errW_some] <;> rfl) | (simp [*, errW_none, errW_some] <;> rfl), by repeat (first | (with_reducible first | exact HB.out | apply below_alloc | apply pw_below_drewN | apply below_drew1) | exact HB.out)⟩
           ·
            rw [if_neg c20] at H
            exact absurd H (by simp)
          ·
           rw [if_neg c19] at H
           exact absurd H (by simp)
      ·
       replace c13 := Bool.eq_false_iff.mpr c13
       subst c13
       have H1 : (if a3 = true then ((chunk_End.f kj10).bind fun t221 => (if x14_1.size + t221.size ≤ 9223372036854775807 then (tabulariumlaw18_ChunkBack.j3 kj10 a0 a1 a3 a4 t212 t213 (x14_1 ++ t221) x15_1) else (none))) else (tabulariumlaw18_ChunkBack.j3 kj10 a0 a1 a3 a4 t212 t213 x14_1 x15_1)) = some r := by rw [if_neg (show ¬ (false = true) by decide)] at H; exact H
       clear H
       have H := H1
       clear H1
       have HC27 := Aside0.mk H
       clear H
       go_upto_if 95 with (fail)
       go_cut [14] (fun v14 wc => ∃ (kq : Nat) (x14_26 : ByteArray), v14 = .string x14_26 ∧ Aside0 (tabulariumlaw18_ChunkBack.j3 kq a0 a1 a3 a4 t212 t213 x14_26 x15_1 = some r) ∧ Aside0 (kq ≤ kj10) ∧ Aside0 (Below w.heap.size w wc))
       case first =>
        have H := HC27.out
        clear HC27
        by_cases c28 : a3 = true
        ·
         subst c28
         have H1 : ((chunk_End.f kj10).bind fun t221 => (if x14_1.size + t221.size ≤ 9223372036854775807 then (tabulariumlaw18_ChunkBack.j3 kj10 a0 a1 true a4 t212 t213 (x14_1 ++ t221) x15_1) else (none))) = some r := by rw [if_pos rfl] at H; exact H
         clear H
         have H := H1
         clear H1
         replace H := Option.bind_eq_some_iff.mp H
         obtain ⟨t221, A290, H⟩ := H
         replace H : (if x14_1.size + t221.size ≤ 9223372036854775807 then (tabulariumlaw18_ChunkBack.j3 kj10 a0 a1 true a4 t212 t213 (x14_1 ++ t221) x15_1) else (none)) = some r := H
         have A29 := Aside0.mk A290
         clear A290
         by_cases c30 : x14_1.size + t221.size ≤ 9223372036854775807
         ·
          rw [if_pos c30] at H
          have c30b0 := eq_true c30
          have c30b1 : decide (x14_1.size + t221.size ≤ 9223372036854775807) = true := decide_eq_true c30
          try have c30b2 : (9223372036854775807 < x14_1.size + t221.size) = False := eq_false (Nat.not_lt.2 c30)
          have H' := Aside0.mk H
          clear H
          as_aux_lemma =>
           go_wp2_with (first | ((with_reducible refine gate_callee (f := 14) rfl ?_); refine goesL_ (some 97) rfl rfl Try.func14 (by kernel_rfl) rfl #[] rfl (by (try simp only [List.map_toArray, List.map_cons, List.map_nil]); first | done | rfl | (simp only [List.length_drop, List.length_take]; rfl)) ?_; (with_reducible refine (chunk_End.calls kj10  t221 _ A29.out).mono ?_); rintro e w31 ⟨rfl, hb⟩; refine ⟨_, rfl, ?_⟩; have n0_ := Aside0.mk (below_step (by exact bw0 HB) hb); clear HB; have HB := n0_; clear n0_; (try clear hb); (try clear hb2); (try clear hk); (try clear hi)))
           go_meet
           case rel => exact ⟨_, (x14_1 ++ t221), (by first | rfl | (simp; done) | (simp [*]; done) | (simp; exact (fun (l_ : List UInt8) => by cases l_ <;> rfl : ∀ l_ : List UInt8, l_.isEmpty = !(l_ != [])) _)), H', ⟨by have := HK1.out; have := HJ10.out; first | omega | exact Nat.le_refl _⟩, ⟨by repeat (first | (with_reducible first | exact HB.out | apply below_alloc | apply pw_below_drewN | apply below_drew1) | exact HB.out)⟩⟩
         ·
          rw [if_neg c30] at H
          exact absurd H (by simp)
        ·
         replace c28 := Bool.eq_false_iff.mpr c28
         subst c28
         have H1 : (tabulariumlaw18_ChunkBack.j3 kj10 a0 a1 false a4 t212 t213 x14_1 x15_1) = some r := by rw [if_neg (show ¬ (false = true) by decide)] at H; exact H
         clear H
         have H := H1
         clear H1
         have H' := Aside0.mk H
         clear H
         as_aux_lemma =>
          go_wp2
          go_meet
          case rel => exact ⟨_, (x14_1), (by first | rfl | (simp; done) | (simp [*]; done) | (simp; exact (fun (l_ : List UInt8) => by cases l_ <;> rfl : ∀ l_ : List UInt8, l_.isEmpty = !(l_ != [])) _)), H', ⟨by have := HK1.out; have := HJ10.out; first | omega | exact Nat.le_refl _⟩, ⟨by repeat (first | (with_reducible first | exact HB.out | apply below_alloc | apply pw_below_drewN | apply below_drew1) | exact HB.out)⟩⟩
       case rest => as_aux_lemma =>
        clear HC27
        try clear c1
        try clear c2
        try clear p2
        try clear q2
        try clear hx2
        try clear c3
        try clear c6
        try clear p6
        try clear c8
        try clear c8b0
        try clear c8b1
        try clear c11
        try clear c12
        try clear c12b0
        try clear c13
        try clear c14
        try clear c15
        try clear c15b0
        try clear c16
        try clear c16b0
        try clear c17
        try clear c17b0
        try clear c17b1
        try clear c18
        try clear c19
        try clear c19b0
        try clear c20
        try clear c20b0
        try clear p21
        try clear q21
        try clear hx21
        try clear c22
        try clear c22b0
        try clear c22b1
        try clear p22
        try clear q22
        try clear hx22
        try clear c23
        try clear c23b0
        try clear c23b1
        try clear c23b2
        try clear c24
        try clear c24b0
        try clear c24b1
        try clear c24b2
        try clear c28
        try clear c30
        try clear c30b0
        try clear c30b1
        try clear c30b2
        try clear hx215_0
        try clear hx216_0
        try clear hx217_0
        try clear hx220_0
        try clear p2
        try clear p215
        try clear p216
        try clear p217
        try clear p220
        try clear p6
        try clear q2
        try clear q215
        try clear q216
        try clear q217
        try clear q220
        obtain ⟨kq, x14_26, rfl, HA, HJ26, HB⟩ := hcut
        cases kq with
        | zero => exact absurd HA.out (by simp [tabulariumlaw18_ChunkBack.j3])
        | succ kj26 =>
         have H := HA.out
         clear HA
         simp only [tabulariumlaw18_ChunkBack.j3] at H
         replace H := Option.bind_eq_some_iff.mp H
         obtain ⟨⟨t223, t224, t225, t226, t227, t228, t229⟩, A320, H⟩ := H
         replace H : ((chunk_Whole.f kj26 a0 a1 x15_1 a3).bind fun bt231 => ((chunk_Read.f bt231.1).bind fun bt233 => (if ((!(t223 == a0) || (!(t224 == a1) || (!(t225 == (x15_1.size : Int))))) || (!(t226 == a3))) = true then (tabulariumlaw18_ChunkBack.j4 kj26 a4 t212 t213 x14_26 x15_1 true) else (if t227.toList = x15_1.toList then (if t228 = true then (if t229 = 0 then (if bt231.2 = 0 then (if ((!(bt233.1 == a0) || (!(bt233.2.1 == a1) || (!(bt233.2.2.1 == (x15_1.size : Int))))) || (!(bt233.2.2.2.1 == a3))) = true then (tabulariumlaw18_ChunkBack.j4 kj26 a4 t212 t213 x14_26 x15_1 true) else (if bt233.2.2.2.2.1.toList = x15_1.toList then (if bt233.2.2.2.2.2.1 = true then (tabulariumlaw18_ChunkBack.j4 kj26 a4 t212 t213 x14_26 x15_1 (bt233.2.2.2.2.2.2 != 0)) else (tabulariumlaw18_ChunkBack.j4 kj26 a4 t212 t213 x14_26 x15_1 true)) else (tabulariumlaw18_ChunkBack.j4 kj26 a4 t212 t213 x14_26 x15_1 true))) else (tabulariumlaw18_ChunkBack.j4 kj26 a4 t212 t213 x14_26 x15_1 true)) else (tabulariumlaw18_ChunkBack.j4 kj26 a4 t212 t213 x14_26 x15_1 true)) else (tabulariumlaw18_ChunkBack.j4 kj26 a4 t212 t213 x14_26 x15_1 true)) else (tabulariumlaw18_ChunkBack.j4 kj26 a4 t212 t213 x14_26 x15_1 true))))) = some r := H
         have A32 := Aside0.mk A320
         clear A320
         replace H := Option.bind_eq_some_iff.mp H
         obtain ⟨⟨t231, t232⟩, A330, H⟩ := H
         replace H : ((chunk_Read.f t231).bind fun bt233 => (if ((!(t223 == a0) || (!(t224 == a1) || (!(t225 == (x15_1.size : Int))))) || (!(t226 == a3))) = true then (tabulariumlaw18_ChunkBack.j4 kj26 a4 t212 t213 x14_26 x15_1 true) else (if t227.toList = x15_1.toList then (if t228 = true then (if t229 = 0 then (if t232 = 0 then (if ((!(bt233.1 == a0) || (!(bt233.2.1 == a1) || (!(bt233.2.2.1 == (x15_1.size : Int))))) || (!(bt233.2.2.2.1 == a3))) = true then (tabulariumlaw18_ChunkBack.j4 kj26 a4 t212 t213 x14_26 x15_1 true) else (if bt233.2.2.2.2.1.toList = x15_1.toList then (if bt233.2.2.2.2.2.1 = true then (tabulariumlaw18_ChunkBack.j4 kj26 a4 t212 t213 x14_26 x15_1 (bt233.2.2.2.2.2.2 != 0)) else (tabulariumlaw18_ChunkBack.j4 kj26 a4 t212 t213 x14_26 x15_1 true)) else (tabulariumlaw18_ChunkBack.j4 kj26 a4 t212 t213 x14_26 x15_1 true))) else (tabulariumlaw18_ChunkBack.j4 kj26 a4 t212 t213 x14_26 x15_1 true)) else (tabulariumlaw18_ChunkBack.j4 kj26 a4 t212 t213 x14_26 x15_1 true)) else (tabulariumlaw18_ChunkBack.j4 kj26 a4 t212 t213 x14_26 x15_1 true)) else (tabulariumlaw18_ChunkBack.j4 kj26 a4 t212 t213 x14_26 x15_1 true)))) = some r := H
         have A33 := Aside0.mk A330
         clear A330
         replace H := Option.bind_eq_some_iff.mp H
         obtain ⟨⟨t233, t234, t235, t236, t237, t238, t239⟩, A340, H⟩ := H
         replace H : (if ((!(t223 == a0) || (!(t224 == a1) || (!(t225 == (x15_1.size : Int))))) || (!(t226 == a3))) = true then (tabulariumlaw18_ChunkBack.j4 kj26 a4 t212 t213 x14_26 x15_1 true) else (if t227.toList = x15_1.toList then (if t228 = true then (if t229 = 0 then (if t232 = 0 then (if ((!(t233 == a0) || (!(t234 == a1) || (!(t235 == (x15_1.size : Int))))) || (!(t236 == a3))) = true then (tabulariumlaw18_ChunkBack.j4 kj26 a4 t212 t213 x14_26 x15_1 true) else (if t237.toList = x15_1.toList then (if t238 = true then (tabulariumlaw18_ChunkBack.j4 kj26 a4 t212 t213 x14_26 x15_1 (t239 != 0)) else (tabulariumlaw18_ChunkBack.j4 kj26 a4 t212 t213 x14_26 x15_1 true)) else (tabulariumlaw18_ChunkBack.j4 kj26 a4 t212 t213 x14_26 x15_1 true))) else (tabulariumlaw18_ChunkBack.j4 kj26 a4 t212 t213 x14_26 x15_1 true)) else (tabulariumlaw18_ChunkBack.j4 kj26 a4 t212 t213 x14_26 x15_1 true)) else (tabulariumlaw18_ChunkBack.j4 kj26 a4 t212 t213 x14_26 x15_1 true)) else (tabulariumlaw18_ChunkBack.j4 kj26 a4 t212 t213 x14_26 x15_1 true))) = some r := H
         have A34 := Aside0.mk A340
         clear A340
         have HC35 := Aside0.mk H
         clear H
         go_upto_region 22 with (first | ((with_reducible refine gate_dst (N := 19) rfl ?_); (try (refine gate_guard (by rfl) ?_; dsimp only)); refine box_event ?hg (N := 19) ?hd (cs := #[.int .i64 0, .int .i64 0, .int .i64 0, .bool false]) (t := 26) ?hr ?_; (case hd => rfl); (case hg => rfl); (case hr => first | (go_simp; done) | (go_simp; rfl)); intro gb222 hg w36 hbox hb; have n0_ := Aside0.mk (below_step (by exact bw0 HB) hb); have n1_ := Aside0.mk (hbox); have n2_ := Aside0.mk ((by rw [hg]; exact (below_size (by exact bw0 HB)) : w.heap.size ≤ gb222)); have n3_ := Aside0.mk ((by rw [hg]; exact (below_size (by exact bw0 HB)) : w.heap.size ≤ gb222)); clear HB; have HB := n0_; have BK222 := n1_; have GW222 := n2_; have GE222 := n3_; clear n0_ n1_ n2_ n3_; clear hb hbox hg; have hcz37_0 : w36.cell? ⟨gb222, 0, none⟩ = some (.int .i64 0) := (blk_cell BK222.out 0).trans rfl; have hcz37_1 : w36.cell? ⟨gb222, 1, none⟩ = some (.int .i64 0) := (blk_cell BK222.out 1).trans rfl; have hcz37_2 : w36.cell? ⟨gb222, 2, none⟩ = some (.int .i64 0) := (blk_cell BK222.out 2).trans rfl; have hcz37_3 : w36.cell? ⟨gb222, 3, none⟩ = some (.bool false) := (blk_cell BK222.out 3).trans rfl; have hfz37_0 := blk_frozen BK222.out 0; have hfz37_1 := blk_frozen BK222.out 1; have hfz37_2 := blk_frozen BK222.out 2; have hfz37_3 := blk_frozen BK222.out 3) | ((with_reducible refine gate_callee (f := 9) rfl ?_); refine goesL_ (some 108) rfl rfl Try.func9 (by kernel_rfl) rfl #[.string x14_26] rfl (by (try simp only [List.map_toArray, List.map_cons, List.map_nil]); first | done | rfl | (simp only [List.length_drop, List.length_take]; rfl)) ?_; (with_reducible refine (chunk_Read.calls x14_26 t223 t224 t225 t226 t227 t228 t229 _ A32.out).mono ?_); rintro e w38 ⟨rfl, hb⟩; refine ⟨_, rfl, ?_⟩; have n0_ := Aside0.mk (blk_below (g := gb222) (o := .cells #[.int .i64 a0, .int .i64 a1, .int .i64 (x15_1.size : Int), .bool a3] 26 (0, 0)) (by (with_reducible repeat (first | refine blk_drewN ?_ _ | refine blk_drew ?_ | refine blk_alloc ?_ _)); refine blk_put (cs := #[.int .i64 a0, .int .i64 a1, .int .i64 (x15_1.size : Int), .bool false]) ?_ 3 _ rfl; (with_reducible repeat (first | refine blk_drewN ?_ _ | refine blk_drew ?_ | refine blk_alloc ?_ _)); refine blk_put (cs := #[.int .i64 a0, .int .i64 a1, .int .i64 0, .bool false]) ?_ 2 _ rfl; (with_reducible repeat (first | refine blk_drewN ?_ _ | refine blk_drew ?_ | refine blk_alloc ?_ _)); refine blk_put (cs := #[.int .i64 a0, .int .i64 0, .int .i64 0, .bool false]) ?_ 1 _ rfl; (with_reducible repeat (first | refine blk_drewN ?_ _ | refine blk_drew ?_ | refine blk_alloc ?_ _)); refine blk_put (cs := #[.int .i64 0, .int .i64 0, .int .i64 0, .bool false]) ?_ 0 _ rfl; (with_reducible repeat (first | refine blk_drewN ?_ _ | refine blk_drew ?_ | refine blk_alloc ?_ _)); exact BK222.out) hb); have n1_ := Aside0.mk (below_step (by exact bw1 HB GE222.out) hb); clear BK222; clear HB; have BK222 := n0_; have HB := n1_; clear n0_ n1_; (try clear hb); (try clear hb2); (try clear hk); (try clear hi)) | ((with_reducible refine gate_dst (N := 20) rfl ?_); (try (refine gate_guard (by rfl) ?_; dsimp only)); refine box_event ?hg (N := 20) ?hd (cs := #[.int .i64 0, .int .i64 0, .int .i64 0, .bool false]) (t := 26) ?hr ?_; (case hd => rfl); (case hg => rfl); (case hr => first | (go_simp; done) | (go_simp; rfl)); intro gb230 hg w39 hbox hb; have n0_ := Aside0.mk (blk_below (g := gb222) (o := .cells #[.int .i64 a0, .int .i64 a1, .int .i64 (x15_1.size : Int), .bool a3] 26 (0, 0)) (kx BK222) hb); have n1_ := Aside0.mk (below_step (by exact bw1 HB GE222.out) hb); have n2_ := Aside0.mk (hbox); have n3_ := Aside0.mk ((by rw [hg]; exact (below_size (by exact bw1 HB GE222.out)) : w.heap.size ≤ gb230)); have n4_ := Aside0.mk ((by rw [hg]; exact (below_size (by exact bw1 HB GE222.out)) : w.heap.size ≤ gb230)); have n5_ := Aside0.mk ((by rw [hg]; exact Nat.ne_of_lt (blk_lt (g := gb222) (o := .cells #[.int .i64 a0, .int .i64 a1, .int .i64 (x15_1.size : Int), .bool a3] 26 (0, 0)) (kx BK222)) : gb222 ≠ gb230)); have n6_ := Aside0.mk ((by rw [hg]; exact Nat.ne_of_gt (blk_lt (g := gb222) (o := .cells #[.int .i64 a0, .int .i64 a1, .int .i64 (x15_1.size : Int), .bool a3] 26 (0, 0)) (kx BK222)) : gb230 ≠ gb222)); clear BK222; clear HB; have BK222 := n0_; have HB := n1_; have BK230 := n2_; have GW230 := n3_; have GE230 := n4_; have NB222_230 := n5_; have NB230_222 := n6_; clear n0_ n1_ n2_ n3_ n4_ n5_ n6_; clear hb hbox hg; have hnb40 := NB230_222.out; have hnc40 := NB222_230.out; have hcz41_0 : w39.cell? ⟨gb230, 0, none⟩ = some (.int .i64 0) := (blk_cell BK230.out 0).trans rfl; have hcz41_1 : w39.cell? ⟨gb230, 1, none⟩ = some (.int .i64 0) := (blk_cell BK230.out 1).trans rfl; have hcz41_2 : w39.cell? ⟨gb230, 2, none⟩ = some (.int .i64 0) := (blk_cell BK230.out 2).trans rfl; have hcz41_3 : w39.cell? ⟨gb230, 3, none⟩ = some (.bool false) := (blk_cell BK230.out 3).trans rfl; have hfz41_0 := blk_frozen BK230.out 0; have hfz41_1 := blk_frozen BK230.out 1; have hfz41_2 := blk_frozen BK230.out 2; have hfz41_3 := blk_frozen BK230.out 3) | ((with_reducible refine gate_callee (f := 15) rfl ?_); refine goesL_ (some 118) rfl rfl Try.func15 (by kernel_rfl) rfl #[.int .i64 a0, .int .i64 a1, .string x15_1, .bool a3] rfl (by (try simp only [List.map_toArray, List.map_cons, List.map_nil]); first | done | rfl | (simp only [List.length_drop, List.length_take]; rfl)) ?_; (with_reducible refine (chunk_Whole.calls kj26 a0 a1 x15_1 a3 t231 t232 _ A33.out).mono ?_); rintro e w42 ⟨rfl, hb⟩; refine ⟨_, rfl, ?_⟩; have n0_ := Aside0.mk (blk_below (g := gb222) (o := .cells #[.int .i64 a0, .int .i64 a1, .int .i64 (x15_1.size : Int), .bool a3] 26 (0, 0)) (by (with_reducible repeat (first | refine blk_drewN ?_ _ | refine blk_drew ?_ | refine blk_alloc ?_ _)); refine blk_far ?_ NB222_230.out _; (with_reducible repeat (first | refine blk_drewN ?_ _ | refine blk_drew ?_ | refine blk_alloc ?_ _)); refine blk_far ?_ NB222_230.out _; (with_reducible repeat (first | refine blk_drewN ?_ _ | refine blk_drew ?_ | refine blk_alloc ?_ _)); refine blk_far ?_ NB222_230.out _; (with_reducible repeat (first | refine blk_drewN ?_ _ | refine blk_drew ?_ | refine blk_alloc ?_ _)); refine blk_far ?_ NB222_230.out _; (with_reducible repeat (first | refine blk_drewN ?_ _ | refine blk_drew ?_ | refine blk_alloc ?_ _)); exact BK222.out) hb); have n1_ := Aside0.mk (blk_below (g := gb230) (o := .cells #[.int .i64 t223, .int .i64 t224, .int .i64 t225, .bool t226] 26 (0, 0)) (by (with_reducible repeat (first | refine blk_drewN ?_ _ | refine blk_drew ?_ | refine blk_alloc ?_ _)); refine blk_put (cs := #[.int .i64 t223, .int .i64 t224, .int .i64 t225, .bool false]) ?_ 3 _ rfl; (with_reducible repeat (first | refine blk_drewN ?_ _ | refine blk_drew ?_ | refine blk_alloc ?_ _)); refine blk_put (cs := #[.int .i64 t223, .int .i64 t224, .int .i64 0, .bool false]) ?_ 2 _ rfl; (with_reducible repeat (first | refine blk_drewN ?_ _ | refine blk_drew ?_ | refine blk_alloc ?_ _)); refine blk_put (cs := #[.int .i64 t223, .int .i64 0, .int .i64 0, .bool false]) ?_ 1 _ rfl; (with_reducible repeat (first | refine blk_drewN ?_ _ | refine blk_drew ?_ | refine blk_alloc ?_ _)); refine blk_put (cs := #[.int .i64 0, .int .i64 0, .int .i64 0, .bool false]) ?_ 0 _ rfl; (with_reducible repeat (first | refine blk_drewN ?_ _ | refine blk_drew ?_ | refine blk_alloc ?_ _)); exact BK230.out) hb); have n2_ := Aside0.mk (below_step (by exact bw2 HB GE222.out GE230.out) hb); clear BK222; clear BK230; clear HB; have BK222 := n0_; have BK230 := n1_; have HB := n2_; clear n0_ n1_ n2_; (try clear hb); (try clear hb2); (try clear hk); (try clear hi)) | ((with_reducible refine gate_callee (f := 9) rfl ?_); refine goesL_ (some 123) rfl rfl Try.func9 (by kernel_rfl) rfl #[.string t231] rfl (by (try simp only [List.map_toArray, List.map_cons, List.map_nil]); first | done | rfl | (simp only [List.length_drop, List.length_take]; rfl)) ?_; (with_reducible refine (chunk_Read.calls t231 t233 t234 t235 t236 t237 t238 t239 _ A34.out).mono ?_); rintro e w43 ⟨rfl, hb⟩; refine ⟨_, rfl, ?_⟩; have n0_ := Aside0.mk (blk_below (g := gb222) (o := .cells #[.int .i64 a0, .int .i64 a1, .int .i64 (x15_1.size : Int), .bool a3] 26 (0, 0)) (kx BK222) hb); have n1_ := Aside0.mk (blk_below (g := gb230) (o := .cells #[.int .i64 t223, .int .i64 t224, .int .i64 t225, .bool t226] 26 (0, 0)) (kx BK230) hb); have n2_ := Aside0.mk (below_step (by exact bw2 HB GE222.out GE230.out) hb); clear BK222; clear BK230; clear HB; have BK222 := n0_; have BK230 := n1_; have HB := n2_; clear n0_ n1_ n2_; (try clear hb); (try clear hb2); (try clear hk); (try clear hi)) | ((with_reducible refine gate_dst (N := 26) rfl ?_); (try (refine gate_guard (by rfl) ?_; dsimp only)); refine box_event ?hg (N := 26) ?hd (cs := #[.int .i64 0, .int .i64 0, .int .i64 0, .bool false]) (t := 26) ?hr ?_; (case hd => rfl); (case hg => rfl); (case hr => first | (go_simp; done) | (go_simp; rfl)); intro gb240 hg w44 hbox hb; have n0_ := Aside0.mk (blk_below (g := gb222) (o := .cells #[.int .i64 a0, .int .i64 a1, .int .i64 (x15_1.size : Int), .bool a3] 26 (0, 0)) (kx BK222) hb); have n1_ := Aside0.mk (blk_below (g := gb230) (o := .cells #[.int .i64 t223, .int .i64 t224, .int .i64 t225, .bool t226] 26 (0, 0)) (kx BK230) hb); have n2_ := Aside0.mk (below_step (by exact bw2 HB GE222.out GE230.out) hb); have n3_ := Aside0.mk (hbox); have n4_ := Aside0.mk ((by rw [hg]; exact (below_size (by exact bw2 HB GE222.out GE230.out)) : w.heap.size ≤ gb240)); have n5_ := Aside0.mk ((by rw [hg]; exact (below_size (by exact bw2 HB GE222.out GE230.out)) : w.heap.size ≤ gb240)); have n6_ := Aside0.mk ((by rw [hg]; exact Nat.ne_of_lt (blk_lt (g := gb222) (o := .cells #[.int .i64 a0, .int .i64 a1, .int .i64 (x15_1.size : Int), .bool a3] 26 (0, 0)) (kx BK222)) : gb222 ≠ gb240)); have n7_ := Aside0.mk ((by rw [hg]; exact Nat.ne_of_gt (blk_lt (g := gb222) (o := .cells #[.int .i64 a0, .int .i64 a1, .int .i64 (x15_1.size : Int), .bool a3] 26 (0, 0)) (kx BK222)) : gb240 ≠ gb222)); have n8_ := Aside0.mk ((by rw [hg]; exact Nat.ne_of_lt (blk_lt (g := gb230) (o := .cells #[.int .i64 t223, .int .i64 t224, .int .i64 t225, .bool t226] 26 (0, 0)) (kx BK230)) : gb230 ≠ gb240)); have n9_ := Aside0.mk ((by rw [hg]; exact Nat.ne_of_gt (blk_lt (g := gb230) (o := .cells #[.int .i64 t223, .int .i64 t224, .int .i64 t225, .bool t226] 26 (0, 0)) (kx BK230)) : gb240 ≠ gb230)); clear BK222; clear BK230; clear HB; have BK222 := n0_; have BK230 := n1_; have HB := n2_; have BK240 := n3_; have GW240 := n4_; have GE240 := n5_; have NB222_240 := n6_; have NB240_222 := n7_; have NB230_240 := n8_; have NB240_230 := n9_; clear n0_ n1_ n2_ n3_ n4_ n5_ n6_ n7_ n8_ n9_; clear hb hbox hg; have hnb45 := NB240_222.out; have hnc45 := NB222_240.out; have hnb46 := NB240_230.out; have hnc46 := NB230_240.out; have hcz47_0 : w44.cell? ⟨gb240, 0, none⟩ = some (.int .i64 0) := (blk_cell BK240.out 0).trans rfl; have hcz47_1 : w44.cell? ⟨gb240, 1, none⟩ = some (.int .i64 0) := (blk_cell BK240.out 1).trans rfl; have hcz47_2 : w44.cell? ⟨gb240, 2, none⟩ = some (.int .i64 0) := (blk_cell BK240.out 2).trans rfl; have hcz47_3 : w44.cell? ⟨gb240, 3, none⟩ = some (.bool false) := (blk_cell BK240.out 3).trans rfl; have hfz47_0 := blk_frozen BK240.out 0; have hfz47_1 := blk_frozen BK240.out 1; have hfz47_2 := blk_frozen BK240.out 2; have hfz47_3 := blk_frozen BK240.out 3))
         (try simp only [Act.put, List.setIfInBounds_toArray, List.set_cons_zero, List.set_cons_succ])
         go_cut [165] (fun v165 wc => ∃ (kq : Nat) (x165_34 : Bool), v165 = .bool x165_34 ∧ Aside0 (tabulariumlaw18_ChunkBack.j4 kq a4 t212 t213 x14_26 x15_1 x165_34 = some r) ∧ Aside0 (kq ≤ kj26) ∧ Aside0 (wc.heap[gb222]? = some (.cells #[.int .i64 a0, .int .i64 a1, .int .i64 (x15_1.size : Int), .bool a3] 26 (0, 0))) ∧ Aside0 (wc.heap[gb230]? = some (.cells #[.int .i64 t223, .int .i64 t224, .int .i64 t225, .bool t226] 26 (0, 0))) ∧ Aside0 (wc.heap[gb240]? = some (.cells #[.int .i64 t233, .int .i64 t234, .int .i64 t235, .bool t236] 26 (0, 0))) ∧ Aside0 (Below w.heap.size w wc))
         case first =>
          have H := HC35.out
          clear HC35
          by_cases c48 : ((!(t223 == a0) || (!(t224 == a1) || (!(t225 == (x15_1.size : Int))))) || (!(t226 == a3))) = true
          ·
           rw [if_pos c48] at H
           have c48b0 : ((!(t223 == a0) || (!(t224 == a1) || (!(t225 == (x15_1.size : Int))))) || (!(t226 == a3))) = true := c48
           clear c48
           (first | rw [c48b0] | (simp only [i64_w, i32_w]; rw [c48b0]) | skip)
           have H' := Aside0.mk H
           clear H
           have hnb49 := NB230_222.out
           have hnc49 := NB222_230.out
           have hnb50 := NB230_240.out
           have hnc50 := NB240_230.out
           have hcz51_0 : w44.cell? ⟨gb230, 0, none⟩ = some (.int .i64 t223) := (blk_cell BK230.out 0).trans rfl
           have hcz51_1 : w44.cell? ⟨gb230, 1, none⟩ = some (.int .i64 t224) := (blk_cell BK230.out 1).trans rfl
           have hcz51_2 : w44.cell? ⟨gb230, 2, none⟩ = some (.int .i64 t225) := (blk_cell BK230.out 2).trans rfl
           have hcz51_3 : w44.cell? ⟨gb230, 3, none⟩ = some (.bool t226) := (blk_cell BK230.out 3).trans rfl
           have hfz51_0 := blk_frozen BK230.out 0
           have hfz51_1 := blk_frozen BK230.out 1
           have hfz51_2 := blk_frozen BK230.out 2
           have hfz51_3 := blk_frozen BK230.out 3
           have hnb52 := NB222_240.out
           have hnc52 := NB240_222.out
           have hcz53_0 : w44.cell? ⟨gb222, 0, none⟩ = some (.int .i64 a0) := (blk_cell BK222.out 0).trans rfl
           have hcz53_1 : w44.cell? ⟨gb222, 1, none⟩ = some (.int .i64 a1) := (blk_cell BK222.out 1).trans rfl
           have hcz53_2 : w44.cell? ⟨gb222, 2, none⟩ = some (.int .i64 (x15_1.size : Int)) := (blk_cell BK222.out 2).trans rfl
           have hcz53_3 : w44.cell? ⟨gb222, 3, none⟩ = some (.bool a3) := (blk_cell BK222.out 3).trans rfl
           have hfz53_0 := blk_frozen BK222.out 0
           have hfz53_1 := blk_frozen BK222.out 1
           have hfz53_2 := blk_frozen BK222.out 2
           have hfz53_3 := blk_frozen BK222.out 3
           as_aux_lemma =>
            go_wp2
            go_meet
            case rel => exact ⟨_, (true), (by first | rfl | (simp; done) | (simp [*]; done) | (simp; exact (fun (l_ : List UInt8) => by cases l_ <;> rfl : ∀ l_ : List UInt8, l_.isEmpty = !(l_ != [])) _)), H', ⟨by have := HK1.out; have := HJ10.out; have := HJ26.out; first | omega | exact Nat.le_refl _⟩, ⟨by (with_reducible repeat (first | refine blk_drewN ?_ _ | refine blk_drew ?_ | refine blk_alloc ?_ _)); refine blk_far ?_ NB222_240.out _; (with_reducible repeat (first | refine blk_drewN ?_ _ | refine blk_drew ?_ | refine blk_alloc ?_ _)); refine blk_far ?_ NB222_240.out _; (with_reducible repeat (first | refine blk_drewN ?_ _ | refine blk_drew ?_ | refine blk_alloc ?_ _)); refine blk_far ?_ NB222_240.out _; (with_reducible repeat (first | refine blk_drewN ?_ _ | refine blk_drew ?_ | refine blk_alloc ?_ _)); refine blk_far ?_ NB222_240.out _; (with_reducible repeat (first | refine blk_drewN ?_ _ | refine blk_drew ?_ | refine blk_alloc ?_ _)); exact BK222.out⟩, ⟨by (with_reducible repeat (first | refine blk_drewN ?_ _ | refine blk_drew ?_ | refine blk_alloc ?_ _)); refine blk_far ?_ NB230_240.out _; (with_reducible repeat (first | refine blk_drewN ?_ _ | refine blk_drew ?_ | refine blk_alloc ?_ _)); refine blk_far ?_ NB230_240.out _; (with_reducible repeat (first | refine blk_drewN ?_ _ | refine blk_drew ?_ | refine blk_alloc ?_ _)); refine blk_far ?_ NB230_240.out _; (with_reducible repeat (first | refine blk_drewN ?_ _ | refine blk_drew ?_ | refine blk_alloc ?_ _)); refine blk_far ?_ NB230_240.out _; (with_reducible repeat (first | refine blk_drewN ?_ _ | refine blk_drew ?_ | refine blk_alloc ?_ _)); exact BK230.out⟩, ⟨by (with_reducible repeat (first | refine blk_drewN ?_ _ | refine blk_drew ?_ | refine blk_alloc ?_ _)); refine blk_put (cs := #[.int .i64 t233, .int .i64 t234, .int .i64 t235, .bool false]) ?_ 3 _ rfl; (with_reducible repeat (first | refine blk_drewN ?_ _ | refine blk_drew ?_ | refine blk_alloc ?_ _)); refine blk_put (cs := #[.int .i64 t233, .int .i64 t234, .int .i64 0, .bool false]) ?_ 2 _ rfl; (with_reducible repeat (first | refine blk_drewN ?_ _ | refine blk_drew ?_ | refine blk_alloc ?_ _)); refine blk_put (cs := #[.int .i64 t233, .int .i64 0, .int .i64 0, .bool false]) ?_ 1 _ rfl; (with_reducible repeat (first | refine blk_drewN ?_ _ | refine blk_drew ?_ | refine blk_alloc ?_ _)); refine blk_put (cs := #[.int .i64 0, .int .i64 0, .int .i64 0, .bool false]) ?_ 0 _ rfl; (with_reducible repeat (first | refine blk_drewN ?_ _ | refine blk_drew ?_ | refine blk_alloc ?_ _)); exact BK240.out⟩, ⟨by repeat (first | (with_reducible first | exact HB.out | apply below_alloc | apply pw_below_drewN | apply below_drew1 | refine below_set ?_ GE222.out | refine below_set ?_ GE230.out | refine below_set ?_ GE240.out) | exact HB.out)⟩⟩
          ·
           rw [if_neg c48] at H
           have c48b0 : ((!(t223 == a0) || (!(t224 == a1) || (!(t225 == (x15_1.size : Int))))) || (!(t226 == a3))) = false := by simpa using c48
           clear c48
           (first | rw [c48b0] | (simp only [i64_w, i32_w]; rw [c48b0]) | skip)
           by_cases c54 : t227.toList = x15_1.toList
           ·
            rw [if_pos c54] at H
            have c54b0 : (t227.toList == x15_1.toList) = true := beq_iff_eq.mpr c54
            have c54b1 : (t227.toList != x15_1.toList) = false := bne_eq_false_iff_eq.mpr c54
            clear c54
            by_cases c55 : t228 = true
            ·
             subst c55
             have H1 : (if t229 = 0 then (if t232 = 0 then (if ((!(t233 == a0) || (!(t234 == a1) || (!(t235 == (x15_1.size : Int))))) || (!(t236 == a3))) = true then (tabulariumlaw18_ChunkBack.j4 kj26 a4 t212 t213 x14_26 x15_1 true) else (if t237.toList = x15_1.toList then (if t238 = true then (tabulariumlaw18_ChunkBack.j4 kj26 a4 t212 t213 x14_26 x15_1 (t239 != 0)) else (tabulariumlaw18_ChunkBack.j4 kj26 a4 t212 t213 x14_26 x15_1 true)) else (tabulariumlaw18_ChunkBack.j4 kj26 a4 t212 t213 x14_26 x15_1 true))) else (tabulariumlaw18_ChunkBack.j4 kj26 a4 t212 t213 x14_26 x15_1 true)) else (tabulariumlaw18_ChunkBack.j4 kj26 a4 t212 t213 x14_26 x15_1 true)) = some r := by rw [if_pos rfl] at H; exact H
             clear H
             have H := H1
             clear H1
             by_cases c56 : t229 = 0
             ·
              rw [if_pos c56] at H
              have c56b0 : (t229 == 0) = true := beq_iff_eq.mpr c56
              have c56b1 : (t229 != 0) = false := bne_eq_false_iff_eq.mpr c56
              clear c56
              by_cases c57 : t232 = 0
              ·
               rw [if_pos c57] at H
               have c57b0 : (t232 == 0) = true := beq_iff_eq.mpr c57
               have c57b1 : (t232 != 0) = false := bne_eq_false_iff_eq.mpr c57
               clear c57
               by_cases c58 : ((!(t233 == a0) || (!(t234 == a1) || (!(t235 == (x15_1.size : Int))))) || (!(t236 == a3))) = true
               ·
                rw [if_pos c58] at H
                have c58b0 : ((!(t233 == a0) || (!(t234 == a1) || (!(t235 == (x15_1.size : Int))))) || (!(t236 == a3))) = true := c58
                clear c58
                have H' := Aside0.mk H
                clear H
                have hnb59 := NB230_222.out
                have hnc59 := NB222_230.out
                have hnb60 := NB230_240.out
                have hnc60 := NB240_230.out
                have hcz61_0 : w44.cell? ⟨gb230, 0, none⟩ = some (.int .i64 t223) := (blk_cell BK230.out 0).trans rfl
                have hcz61_1 : w44.cell? ⟨gb230, 1, none⟩ = some (.int .i64 t224) := (blk_cell BK230.out 1).trans rfl
                have hcz61_2 : w44.cell? ⟨gb230, 2, none⟩ = some (.int .i64 t225) := (blk_cell BK230.out 2).trans rfl
                have hcz61_3 : w44.cell? ⟨gb230, 3, none⟩ = some (.bool t226) := (blk_cell BK230.out 3).trans rfl
                have hfz61_0 := blk_frozen BK230.out 0
                have hfz61_1 := blk_frozen BK230.out 1
                have hfz61_2 := blk_frozen BK230.out 2
                have hfz61_3 := blk_frozen BK230.out 3
                have hnb62 := NB222_240.out
                have hnc62 := NB240_222.out
                have hcz63_0 : w44.cell? ⟨gb222, 0, none⟩ = some (.int .i64 a0) := (blk_cell BK222.out 0).trans rfl
                have hcz63_1 : w44.cell? ⟨gb222, 1, none⟩ = some (.int .i64 a1) := (blk_cell BK222.out 1).trans rfl
                have hcz63_2 : w44.cell? ⟨gb222, 2, none⟩ = some (.int .i64 (x15_1.size : Int)) := (blk_cell BK222.out 2).trans rfl
                have hcz63_3 : w44.cell? ⟨gb222, 3, none⟩ = some (.bool a3) := (blk_cell BK222.out 3).trans rfl
                have hfz63_0 := blk_frozen BK222.out 0
                have hfz63_1 := blk_frozen BK222.out 1
                have hfz63_2 := blk_frozen BK222.out 2
                have hfz63_3 := blk_frozen BK222.out 3
                have hcz64_0 : w44.cell? ⟨gb240, 0, none⟩ = some (.int .i64 0) := (blk_cell BK240.out 0).trans rfl
                have hcz64_1 : w44.cell? ⟨gb240, 1, none⟩ = some (.int .i64 0) := (blk_cell BK240.out 1).trans rfl
                have hcz64_2 : w44.cell? ⟨gb240, 2, none⟩ = some (.int .i64 0) := (blk_cell BK240.out 2).trans rfl
                have hcz64_3 : w44.cell? ⟨gb240, 3, none⟩ = some (.bool false) := (blk_cell BK240.out 3).trans rfl
                have hfz64_0 := blk_frozen BK240.out 0
                have hfz64_1 := blk_frozen BK240.out 1
                have hfz64_2 := blk_frozen BK240.out 2
                have hfz64_3 := blk_frozen BK240.out 3
                as_aux_lemma =>
                 go_wp2
                 go_meet
                 case rel => exact ⟨_, (true), (by first | rfl | (simp; done) | (simp [*]; done) | (simp; exact (fun (l_ : List UInt8) => by cases l_ <;> rfl : ∀ l_ : List UInt8, l_.isEmpty = !(l_ != [])) _)), H', ⟨by have := HK1.out; have := HJ10.out; have := HJ26.out; first | omega | exact Nat.le_refl _⟩, ⟨by (with_reducible repeat (first | refine blk_drewN ?_ _ | refine blk_drew ?_ | refine blk_alloc ?_ _)); refine blk_far ?_ NB222_240.out _; (with_reducible repeat (first | refine blk_drewN ?_ _ | refine blk_drew ?_ | refine blk_alloc ?_ _)); refine blk_far ?_ NB222_240.out _; (with_reducible repeat (first | refine blk_drewN ?_ _ | refine blk_drew ?_ | refine blk_alloc ?_ _)); refine blk_far ?_ NB222_240.out _; (with_reducible repeat (first | refine blk_drewN ?_ _ | refine blk_drew ?_ | refine blk_alloc ?_ _)); refine blk_far ?_ NB222_240.out _; (with_reducible repeat (first | refine blk_drewN ?_ _ | refine blk_drew ?_ | refine blk_alloc ?_ _)); exact BK222.out⟩, ⟨by (with_reducible repeat (first | refine blk_drewN ?_ _ | refine blk_drew ?_ | refine blk_alloc ?_ _)); refine blk_far ?_ NB230_240.out _; (with_reducible repeat (first | refine blk_drewN ?_ _ | refine blk_drew ?_ | refine blk_alloc ?_ _)); refine blk_far ?_ NB230_240.out _; (with_reducible repeat (first | refine blk_drewN ?_ _ | refine blk_drew ?_ | refine blk_alloc ?_ _)); refine blk_far ?_ NB230_240.out _; (with_reducible repeat (first | refine blk_drewN ?_ _ | refine blk_drew ?_ | refine blk_alloc ?_ _)); refine blk_far ?_ NB230_240.out _; (with_reducible repeat (first | refine blk_drewN ?_ _ | refine blk_drew ?_ | refine blk_alloc ?_ _)); exact BK230.out⟩, ⟨by (with_reducible repeat (first | refine blk_drewN ?_ _ | refine blk_drew ?_ | refine blk_alloc ?_ _)); refine blk_put (cs := #[.int .i64 t233, .int .i64 t234, .int .i64 t235, .bool false]) ?_ 3 _ rfl; (with_reducible repeat (first | refine blk_drewN ?_ _ | refine blk_drew ?_ | refine blk_alloc ?_ _)); refine blk_put (cs := #[.int .i64 t233, .int .i64 t234, .int .i64 0, .bool false]) ?_ 2 _ rfl; (with_reducible repeat (first | refine blk_drewN ?_ _ | refine blk_drew ?_ | refine blk_alloc ?_ _)); refine blk_put (cs := #[.int .i64 t233, .int .i64 0, .int .i64 0, .bool false]) ?_ 1 _ rfl; (with_reducible repeat (first | refine blk_drewN ?_ _ | refine blk_drew ?_ | refine blk_alloc ?_ _)); refine blk_put (cs := #[.int .i64 0, .int .i64 0, .int .i64 0, .bool false]) ?_ 0 _ rfl; (with_reducible repeat (first | refine blk_drewN ?_ _ | refine blk_drew ?_ | refine blk_alloc ?_ _)); exact BK240.out⟩, ⟨by repeat (first | (with_reducible first | exact HB.out | apply below_alloc | apply pw_below_drewN | apply below_drew1 | refine below_set ?_ GE222.out | refine below_set ?_ GE230.out | refine below_set ?_ GE240.out) | exact HB.out)⟩⟩
               ·
                rw [if_neg c58] at H
                have c58b0 : ((!(t233 == a0) || (!(t234 == a1) || (!(t235 == (x15_1.size : Int))))) || (!(t236 == a3))) = false := by simpa using c58
                clear c58
                by_cases c65 : t237.toList = x15_1.toList
                ·
                 rw [if_pos c65] at H
                 have c65b0 : (t237.toList == x15_1.toList) = true := beq_iff_eq.mpr c65
                 have c65b1 : (t237.toList != x15_1.toList) = false := bne_eq_false_iff_eq.mpr c65
                 clear c65
                 by_cases c66 : t238 = true
                 ·
                  subst c66
                  have H1 : (tabulariumlaw18_ChunkBack.j4 kj26 a4 t212 t213 x14_26 x15_1 (t239 != 0)) = some r := by rw [if_pos rfl] at H; exact H
                  clear H
                  have H := H1
                  clear H1
                  have H' := Aside0.mk H
                  clear H
                  have hnb67 := NB230_222.out
                  have hnc67 := NB222_230.out
                  have hnb68 := NB230_240.out
                  have hnc68 := NB240_230.out
                  have hcz69_0 : w44.cell? ⟨gb230, 0, none⟩ = some (.int .i64 t223) := (blk_cell BK230.out 0).trans rfl
                  have hcz69_1 : w44.cell? ⟨gb230, 1, none⟩ = some (.int .i64 t224) := (blk_cell BK230.out 1).trans rfl
                  have hcz69_2 : w44.cell? ⟨gb230, 2, none⟩ = some (.int .i64 t225) := (blk_cell BK230.out 2).trans rfl
                  have hcz69_3 : w44.cell? ⟨gb230, 3, none⟩ = some (.bool t226) := (blk_cell BK230.out 3).trans rfl
                  have hfz69_0 := blk_frozen BK230.out 0
                  have hfz69_1 := blk_frozen BK230.out 1
                  have hfz69_2 := blk_frozen BK230.out 2
                  have hfz69_3 := blk_frozen BK230.out 3
                  have hnb70 := NB222_240.out
                  have hnc70 := NB240_222.out
                  have hcz71_0 : w44.cell? ⟨gb222, 0, none⟩ = some (.int .i64 a0) := (blk_cell BK222.out 0).trans rfl
                  have hcz71_1 : w44.cell? ⟨gb222, 1, none⟩ = some (.int .i64 a1) := (blk_cell BK222.out 1).trans rfl
                  have hcz71_2 : w44.cell? ⟨gb222, 2, none⟩ = some (.int .i64 (x15_1.size : Int)) := (blk_cell BK222.out 2).trans rfl
                  have hcz71_3 : w44.cell? ⟨gb222, 3, none⟩ = some (.bool a3) := (blk_cell BK222.out 3).trans rfl
                  have hfz71_0 := blk_frozen BK222.out 0
                  have hfz71_1 := blk_frozen BK222.out 1
                  have hfz71_2 := blk_frozen BK222.out 2
                  have hfz71_3 := blk_frozen BK222.out 3
                  have hcz72_0 : w44.cell? ⟨gb240, 0, none⟩ = some (.int .i64 0) := (blk_cell BK240.out 0).trans rfl
                  have hcz72_1 : w44.cell? ⟨gb240, 1, none⟩ = some (.int .i64 0) := (blk_cell BK240.out 1).trans rfl
                  have hcz72_2 : w44.cell? ⟨gb240, 2, none⟩ = some (.int .i64 0) := (blk_cell BK240.out 2).trans rfl
                  have hcz72_3 : w44.cell? ⟨gb240, 3, none⟩ = some (.bool false) := (blk_cell BK240.out 3).trans rfl
                  have hfz72_0 := blk_frozen BK240.out 0
                  have hfz72_1 := blk_frozen BK240.out 1
                  have hfz72_2 := blk_frozen BK240.out 2
                  have hfz72_3 := blk_frozen BK240.out 3
                  as_aux_lemma =>
                   go_wp2
                   go_meet
                   case rel => exact ⟨_, ((t239 != 0)), (by first | rfl | (simp; done) | (simp [*]; done) | (simp; exact (fun (l_ : List UInt8) => by cases l_ <;> rfl : ∀ l_ : List UInt8, l_.isEmpty = !(l_ != [])) _)), H', ⟨by have := HK1.out; have := HJ10.out; have := HJ26.out; first | omega | exact Nat.le_refl _⟩, ⟨by (with_reducible repeat (first | refine blk_drewN ?_ _ | refine blk_drew ?_ | refine blk_alloc ?_ _)); refine blk_far ?_ NB222_240.out _; (with_reducible repeat (first | refine blk_drewN ?_ _ | refine blk_drew ?_ | refine blk_alloc ?_ _)); refine blk_far ?_ NB222_240.out _; (with_reducible repeat (first | refine blk_drewN ?_ _ | refine blk_drew ?_ | refine blk_alloc ?_ _)); refine blk_far ?_ NB222_240.out _; (with_reducible repeat (first | refine blk_drewN ?_ _ | refine blk_drew ?_ | refine blk_alloc ?_ _)); refine blk_far ?_ NB222_240.out _; (with_reducible repeat (first | refine blk_drewN ?_ _ | refine blk_drew ?_ | refine blk_alloc ?_ _)); exact BK222.out⟩, ⟨by (with_reducible repeat (first | refine blk_drewN ?_ _ | refine blk_drew ?_ | refine blk_alloc ?_ _)); refine blk_far ?_ NB230_240.out _; (with_reducible repeat (first | refine blk_drewN ?_ _ | refine blk_drew ?_ | refine blk_alloc ?_ _)); refine blk_far ?_ NB230_240.out _; (with_reducible repeat (first | refine blk_drewN ?_ _ | refine blk_drew ?_ | refine blk_alloc ?_ _)); refine blk_far ?_ NB230_240.out _; (with_reducible repeat (first | refine blk_drewN ?_ _ | refine blk_drew ?_ | refine blk_alloc ?_ _)); refine blk_far ?_ NB230_240.out _; (with_reducible repeat (first | refine blk_drewN ?_ _ | refine blk_drew ?_ | refine blk_alloc ?_ _)); exact BK230.out⟩, ⟨by (with_reducible repeat (first | refine blk_drewN ?_ _ | refine blk_drew ?_ | refine blk_alloc ?_ _)); refine blk_put (cs := #[.int .i64 t233, .int .i64 t234, .int .i64 t235, .bool false]) ?_ 3 _ rfl; (with_reducible repeat (first | refine blk_drewN ?_ _ | refine blk_drew ?_ | refine blk_alloc ?_ _)); refine blk_put (cs := #[.int .i64 t233, .int .i64 t234, .int .i64 0, .bool false]) ?_ 2 _ rfl; (with_reducible repeat (first | refine blk_drewN ?_ _ | refine blk_drew ?_ | refine blk_alloc ?_ _)); refine blk_put (cs := #[.int .i64 t233, .int .i64 0, .int .i64 0, .bool false]) ?_ 1 _ rfl; (with_reducible repeat (first | refine blk_drewN ?_ _ | refine blk_drew ?_ | refine blk_alloc ?_ _)); refine blk_put (cs := #[.int .i64 0, .int .i64 0, .int .i64 0, .bool false]) ?_ 0 _ rfl; (with_reducible repeat (first | refine blk_drewN ?_ _ | refine blk_drew ?_ | refine blk_alloc ?_ _)); exact BK240.out⟩, ⟨by repeat (first | (with_reducible first | exact HB.out | apply below_alloc | apply pw_below_drewN | apply below_drew1 | refine below_set ?_ GE222.out | refine below_set ?_ GE230.out | refine below_set ?_ GE240.out) | exact HB.out)⟩⟩
                 ·
                  replace c66 := Bool.eq_false_iff.mpr c66
                  subst c66
                  have H1 : (tabulariumlaw18_ChunkBack.j4 kj26 a4 t212 t213 x14_26 x15_1 true) = some r := by rw [if_neg (show ¬ (false = true) by decide)] at H; exact H
                  clear H
                  have H := H1
                  clear H1
                  have H' := Aside0.mk H
                  clear H
                  have hnb73 := NB230_222.out
                  have hnc73 := NB222_230.out
                  have hnb74 := NB230_240.out
                  have hnc74 := NB240_230.out
                  have hcz75_0 : w44.cell? ⟨gb230, 0, none⟩ = some (.int .i64 t223) := (blk_cell BK230.out 0).trans rfl
                  have hcz75_1 : w44.cell? ⟨gb230, 1, none⟩ = some (.int .i64 t224) := (blk_cell BK230.out 1).trans rfl
                  have hcz75_2 : w44.cell? ⟨gb230, 2, none⟩ = some (.int .i64 t225) := (blk_cell BK230.out 2).trans rfl
                  have hcz75_3 : w44.cell? ⟨gb230, 3, none⟩ = some (.bool t226) := (blk_cell BK230.out 3).trans rfl
                  have hfz75_0 := blk_frozen BK230.out 0
                  have hfz75_1 := blk_frozen BK230.out 1
                  have hfz75_2 := blk_frozen BK230.out 2
                  have hfz75_3 := blk_frozen BK230.out 3
                  have hnb76 := NB222_240.out
                  have hnc76 := NB240_222.out
                  have hcz77_0 : w44.cell? ⟨gb222, 0, none⟩ = some (.int .i64 a0) := (blk_cell BK222.out 0).trans rfl
                  have hcz77_1 : w44.cell? ⟨gb222, 1, none⟩ = some (.int .i64 a1) := (blk_cell BK222.out 1).trans rfl
                  have hcz77_2 : w44.cell? ⟨gb222, 2, none⟩ = some (.int .i64 (x15_1.size : Int)) := (blk_cell BK222.out 2).trans rfl
                  have hcz77_3 : w44.cell? ⟨gb222, 3, none⟩ = some (.bool a3) := (blk_cell BK222.out 3).trans rfl
                  have hfz77_0 := blk_frozen BK222.out 0
                  have hfz77_1 := blk_frozen BK222.out 1
                  have hfz77_2 := blk_frozen BK222.out 2
                  have hfz77_3 := blk_frozen BK222.out 3
                  have hcz78_0 : w44.cell? ⟨gb240, 0, none⟩ = some (.int .i64 0) := (blk_cell BK240.out 0).trans rfl
                  have hcz78_1 : w44.cell? ⟨gb240, 1, none⟩ = some (.int .i64 0) := (blk_cell BK240.out 1).trans rfl
                  have hcz78_2 : w44.cell? ⟨gb240, 2, none⟩ = some (.int .i64 0) := (blk_cell BK240.out 2).trans rfl
                  have hcz78_3 : w44.cell? ⟨gb240, 3, none⟩ = some (.bool false) := (blk_cell BK240.out 3).trans rfl
                  have hfz78_0 := blk_frozen BK240.out 0
                  have hfz78_1 := blk_frozen BK240.out 1
                  have hfz78_2 := blk_frozen BK240.out 2
                  have hfz78_3 := blk_frozen BK240.out 3
                  as_aux_lemma =>
                   go_wp2
                   go_meet
                   case rel => exact ⟨_, (true), (by first | rfl | (simp; done) | (simp [*]; done) | (simp; exact (fun (l_ : List UInt8) => by cases l_ <;> rfl : ∀ l_ : List UInt8, l_.isEmpty = !(l_ != [])) _)), H', ⟨by have := HK1.out; have := HJ10.out; have := HJ26.out; first | omega | exact Nat.le_refl _⟩, ⟨by (with_reducible repeat (first | refine blk_drewN ?_ _ | refine blk_drew ?_ | refine blk_alloc ?_ _)); refine blk_far ?_ NB222_240.out _; (with_reducible repeat (first | refine blk_drewN ?_ _ | refine blk_drew ?_ | refine blk_alloc ?_ _)); refine blk_far ?_ NB222_240.out _; (with_reducible repeat (first | refine blk_drewN ?_ _ | refine blk_drew ?_ | refine blk_alloc ?_ _)); refine blk_far ?_ NB222_240.out _; (with_reducible repeat (first | refine blk_drewN ?_ _ | refine blk_drew ?_ | refine blk_alloc ?_ _)); refine blk_far ?_ NB222_240.out _; (with_reducible repeat (first | refine blk_drewN ?_ _ | refine blk_drew ?_ | refine blk_alloc ?_ _)); exact BK222.out⟩, ⟨by (with_reducible repeat (first | refine blk_drewN ?_ _ | refine blk_drew ?_ | refine blk_alloc ?_ _)); refine blk_far ?_ NB230_240.out _; (with_reducible repeat (first | refine blk_drewN ?_ _ | refine blk_drew ?_ | refine blk_alloc ?_ _)); refine blk_far ?_ NB230_240.out _; (with_reducible repeat (first | refine blk_drewN ?_ _ | refine blk_drew ?_ | refine blk_alloc ?_ _)); refine blk_far ?_ NB230_240.out _; (with_reducible repeat (first | refine blk_drewN ?_ _ | refine blk_drew ?_ | refine blk_alloc ?_ _)); refine blk_far ?_ NB230_240.out _; (with_reducible repeat (first | refine blk_drewN ?_ _ | refine blk_drew ?_ | refine blk_alloc ?_ _)); exact BK230.out⟩, ⟨by (with_reducible repeat (first | refine blk_drewN ?_ _ | refine blk_drew ?_ | refine blk_alloc ?_ _)); refine blk_put (cs := #[.int .i64 t233, .int .i64 t234, .int .i64 t235, .bool false]) ?_ 3 _ rfl; (with_reducible repeat (first | refine blk_drewN ?_ _ | refine blk_drew ?_ | refine blk_alloc ?_ _)); refine blk_put (cs := #[.int .i64 t233, .int .i64 t234, .int .i64 0, .bool false]) ?_ 2 _ rfl; (with_reducible repeat (first | refine blk_drewN ?_ _ | refine blk_drew ?_ | refine blk_alloc ?_ _)); refine blk_put (cs := #[.int .i64 t233, .int .i64 0, .int .i64 0, .bool false]) ?_ 1 _ rfl; (with_reducible repeat (first | refine blk_drewN ?_ _ | refine blk_drew ?_ | refine blk_alloc ?_ _)); refine blk_put (cs := #[.int .i64 0, .int .i64 0, .int .i64 0, .bool false]) ?_ 0 _ rfl; (with_reducible repeat (first | refine blk_drewN ?_ _ | refine blk_drew ?_ | refine blk_alloc ?_ _)); exact BK240.out⟩, ⟨by repeat (first | (with_reducible first | exact HB.out | apply below_alloc | apply pw_below_drewN | apply below_drew1 | refine below_set ?_ GE222.out | refine below_set ?_ GE230.out | refine below_set ?_ GE240.out) | exact HB.out)⟩⟩
                ·
                 rw [if_neg c65] at H
                 have c65b0 : (t237.toList == x15_1.toList) = false := beq_eq_false_iff_ne.mpr c65
                 have c65b1 : (t237.toList != x15_1.toList) = true := bne_iff_ne.mpr c65
                 have H' := Aside0.mk H
                 clear H
                 have hnb79 := NB230_222.out
                 have hnc79 := NB222_230.out
                 have hnb80 := NB230_240.out
                 have hnc80 := NB240_230.out
                 have hcz81_0 : w44.cell? ⟨gb230, 0, none⟩ = some (.int .i64 t223) := (blk_cell BK230.out 0).trans rfl
                 have hcz81_1 : w44.cell? ⟨gb230, 1, none⟩ = some (.int .i64 t224) := (blk_cell BK230.out 1).trans rfl
                 have hcz81_2 : w44.cell? ⟨gb230, 2, none⟩ = some (.int .i64 t225) := (blk_cell BK230.out 2).trans rfl
                 have hcz81_3 : w44.cell? ⟨gb230, 3, none⟩ = some (.bool t226) := (blk_cell BK230.out 3).trans rfl
                 have hfz81_0 := blk_frozen BK230.out 0
                 have hfz81_1 := blk_frozen BK230.out 1
                 have hfz81_2 := blk_frozen BK230.out 2
                 have hfz81_3 := blk_frozen BK230.out 3
                 have hnb82 := NB222_240.out
                 have hnc82 := NB240_222.out
                 have hcz83_0 : w44.cell? ⟨gb222, 0, none⟩ = some (.int .i64 a0) := (blk_cell BK222.out 0).trans rfl
                 have hcz83_1 : w44.cell? ⟨gb222, 1, none⟩ = some (.int .i64 a1) := (blk_cell BK222.out 1).trans rfl
                 have hcz83_2 : w44.cell? ⟨gb222, 2, none⟩ = some (.int .i64 (x15_1.size : Int)) := (blk_cell BK222.out 2).trans rfl
                 have hcz83_3 : w44.cell? ⟨gb222, 3, none⟩ = some (.bool a3) := (blk_cell BK222.out 3).trans rfl
                 have hfz83_0 := blk_frozen BK222.out 0
                 have hfz83_1 := blk_frozen BK222.out 1
                 have hfz83_2 := blk_frozen BK222.out 2
                 have hfz83_3 := blk_frozen BK222.out 3
                 have hcz84_0 : w44.cell? ⟨gb240, 0, none⟩ = some (.int .i64 0) := (blk_cell BK240.out 0).trans rfl
                 have hcz84_1 : w44.cell? ⟨gb240, 1, none⟩ = some (.int .i64 0) := (blk_cell BK240.out 1).trans rfl
                 have hcz84_2 : w44.cell? ⟨gb240, 2, none⟩ = some (.int .i64 0) := (blk_cell BK240.out 2).trans rfl
                 have hcz84_3 : w44.cell? ⟨gb240, 3, none⟩ = some (.bool false) := (blk_cell BK240.out 3).trans rfl
                 have hfz84_0 := blk_frozen BK240.out 0
                 have hfz84_1 := blk_frozen BK240.out 1
                 have hfz84_2 := blk_frozen BK240.out 2
                 have hfz84_3 := blk_frozen BK240.out 3
                 as_aux_lemma =>
                  go_wp2
                  go_meet
                  case rel => exact ⟨_, (true), (by first | rfl | (simp; done) | (simp [*]; done) | (simp; exact (fun (l_ : List UInt8) => by cases l_ <;> rfl : ∀ l_ : List UInt8, l_.isEmpty = !(l_ != [])) _)), H', ⟨by have := HK1.out; have := HJ10.out; have := HJ26.out; first | omega | exact Nat.le_refl _⟩, ⟨by (with_reducible repeat (first | refine blk_drewN ?_ _ | refine blk_drew ?_ | refine blk_alloc ?_ _)); refine blk_far ?_ NB222_240.out _; (with_reducible repeat (first | refine blk_drewN ?_ _ | refine blk_drew ?_ | refine blk_alloc ?_ _)); refine blk_far ?_ NB222_240.out _; (with_reducible repeat (first | refine blk_drewN ?_ _ | refine blk_drew ?_ | refine blk_alloc ?_ _)); refine blk_far ?_ NB222_240.out _; (with_reducible repeat (first | refine blk_drewN ?_ _ | refine blk_drew ?_ | refine blk_alloc ?_ _)); refine blk_far ?_ NB222_240.out _; (with_reducible repeat (first | refine blk_drewN ?_ _ | refine blk_drew ?_ | refine blk_alloc ?_ _)); exact BK222.out⟩, ⟨by (with_reducible repeat (first | refine blk_drewN ?_ _ | refine blk_drew ?_ | refine blk_alloc ?_ _)); refine blk_far ?_ NB230_240.out _; (with_reducible repeat (first | refine blk_drewN ?_ _ | refine blk_drew ?_ | refine blk_alloc ?_ _)); refine blk_far ?_ NB230_240.out _; (with_reducible repeat (first | refine blk_drewN ?_ _ | refine blk_drew ?_ | refine blk_alloc ?_ _)); refine blk_far ?_ NB230_240.out _; (with_reducible repeat (first | refine blk_drewN ?_ _ | refine blk_drew ?_ | refine blk_alloc ?_ _)); refine blk_far ?_ NB230_240.out _; (with_reducible repeat (first | refine blk_drewN ?_ _ | refine blk_drew ?_ | refine blk_alloc ?_ _)); exact BK230.out⟩, ⟨by (with_reducible repeat (first | refine blk_drewN ?_ _ | refine blk_drew ?_ | refine blk_alloc ?_ _)); refine blk_put (cs := #[.int .i64 t233, .int .i64 t234, .int .i64 t235, .bool false]) ?_ 3 _ rfl; (with_reducible repeat (first | refine blk_drewN ?_ _ | refine blk_drew ?_ | refine blk_alloc ?_ _)); refine blk_put (cs := #[.int .i64 t233, .int .i64 t234, .int .i64 0, .bool false]) ?_ 2 _ rfl; (with_reducible repeat (first | refine blk_drewN ?_ _ | refine blk_drew ?_ | refine blk_alloc ?_ _)); refine blk_put (cs := #[.int .i64 t233, .int .i64 0, .int .i64 0, .bool false]) ?_ 1 _ rfl; (with_reducible repeat (first | refine blk_drewN ?_ _ | refine blk_drew ?_ | refine blk_alloc ?_ _)); refine blk_put (cs := #[.int .i64 0, .int .i64 0, .int .i64 0, .bool false]) ?_ 0 _ rfl; (with_reducible repeat (first | refine blk_drewN ?_ _ | refine blk_drew ?_ | refine blk_alloc ?_ _)); exact BK240.out⟩, ⟨by repeat (first | (with_reducible first | exact HB.out | apply below_alloc | apply pw_below_drewN | apply below_drew1 | refine below_set ?_ GE222.out | refine below_set ?_ GE230.out | refine below_set ?_ GE240.out) | exact HB.out)⟩⟩
              ·
               rw [if_neg c57] at H
               have c57b0 : (t232 == 0) = false := beq_eq_false_iff_ne.mpr c57
               have c57b1 : (t232 != 0) = true := bne_iff_ne.mpr c57
               have H' := Aside0.mk H
               clear H
               have hnb85 := NB230_222.out
               have hnc85 := NB222_230.out
               have hnb86 := NB230_240.out
               have hnc86 := NB240_230.out
               have hcz87_0 : w44.cell? ⟨gb230, 0, none⟩ = some (.int .i64 t223) := (blk_cell BK230.out 0).trans rfl
               have hcz87_1 : w44.cell? ⟨gb230, 1, none⟩ = some (.int .i64 t224) := (blk_cell BK230.out 1).trans rfl
               have hcz87_2 : w44.cell? ⟨gb230, 2, none⟩ = some (.int .i64 t225) := (blk_cell BK230.out 2).trans rfl
               have hcz87_3 : w44.cell? ⟨gb230, 3, none⟩ = some (.bool t226) := (blk_cell BK230.out 3).trans rfl
               have hfz87_0 := blk_frozen BK230.out 0
               have hfz87_1 := blk_frozen BK230.out 1
               have hfz87_2 := blk_frozen BK230.out 2
               have hfz87_3 := blk_frozen BK230.out 3
               have hnb88 := NB222_240.out
               have hnc88 := NB240_222.out
               have hcz89_0 : w44.cell? ⟨gb222, 0, none⟩ = some (.int .i64 a0) := (blk_cell BK222.out 0).trans rfl
               have hcz89_1 : w44.cell? ⟨gb222, 1, none⟩ = some (.int .i64 a1) := (blk_cell BK222.out 1).trans rfl
               have hcz89_2 : w44.cell? ⟨gb222, 2, none⟩ = some (.int .i64 (x15_1.size : Int)) := (blk_cell BK222.out 2).trans rfl
               have hcz89_3 : w44.cell? ⟨gb222, 3, none⟩ = some (.bool a3) := (blk_cell BK222.out 3).trans rfl
               have hfz89_0 := blk_frozen BK222.out 0
               have hfz89_1 := blk_frozen BK222.out 1
               have hfz89_2 := blk_frozen BK222.out 2
               have hfz89_3 := blk_frozen BK222.out 3
               as_aux_lemma =>
                go_wp2
                go_meet
                case rel => exact ⟨_, (true), (by first | rfl | (simp; done) | (simp [*]; done) | (simp; exact (fun (l_ : List UInt8) => by cases l_ <;> rfl : ∀ l_ : List UInt8, l_.isEmpty = !(l_ != [])) _)), H', ⟨by have := HK1.out; have := HJ10.out; have := HJ26.out; first | omega | exact Nat.le_refl _⟩, ⟨by (with_reducible repeat (first | refine blk_drewN ?_ _ | refine blk_drew ?_ | refine blk_alloc ?_ _)); refine blk_far ?_ NB222_240.out _; (with_reducible repeat (first | refine blk_drewN ?_ _ | refine blk_drew ?_ | refine blk_alloc ?_ _)); refine blk_far ?_ NB222_240.out _; (with_reducible repeat (first | refine blk_drewN ?_ _ | refine blk_drew ?_ | refine blk_alloc ?_ _)); refine blk_far ?_ NB222_240.out _; (with_reducible repeat (first | refine blk_drewN ?_ _ | refine blk_drew ?_ | refine blk_alloc ?_ _)); refine blk_far ?_ NB222_240.out _; (with_reducible repeat (first | refine blk_drewN ?_ _ | refine blk_drew ?_ | refine blk_alloc ?_ _)); exact BK222.out⟩, ⟨by (with_reducible repeat (first | refine blk_drewN ?_ _ | refine blk_drew ?_ | refine blk_alloc ?_ _)); refine blk_far ?_ NB230_240.out _; (with_reducible repeat (first | refine blk_drewN ?_ _ | refine blk_drew ?_ | refine blk_alloc ?_ _)); refine blk_far ?_ NB230_240.out _; (with_reducible repeat (first | refine blk_drewN ?_ _ | refine blk_drew ?_ | refine blk_alloc ?_ _)); refine blk_far ?_ NB230_240.out _; (with_reducible repeat (first | refine blk_drewN ?_ _ | refine blk_drew ?_ | refine blk_alloc ?_ _)); refine blk_far ?_ NB230_240.out _; (with_reducible repeat (first | refine blk_drewN ?_ _ | refine blk_drew ?_ | refine blk_alloc ?_ _)); exact BK230.out⟩, ⟨by (with_reducible repeat (first | refine blk_drewN ?_ _ | refine blk_drew ?_ | refine blk_alloc ?_ _)); refine blk_put (cs := #[.int .i64 t233, .int .i64 t234, .int .i64 t235, .bool false]) ?_ 3 _ rfl; (with_reducible repeat (first | refine blk_drewN ?_ _ | refine blk_drew ?_ | refine blk_alloc ?_ _)); refine blk_put (cs := #[.int .i64 t233, .int .i64 t234, .int .i64 0, .bool false]) ?_ 2 _ rfl; (with_reducible repeat (first | refine blk_drewN ?_ _ | refine blk_drew ?_ | refine blk_alloc ?_ _)); refine blk_put (cs := #[.int .i64 t233, .int .i64 0, .int .i64 0, .bool false]) ?_ 1 _ rfl; (with_reducible repeat (first | refine blk_drewN ?_ _ | refine blk_drew ?_ | refine blk_alloc ?_ _)); refine blk_put (cs := #[.int .i64 0, .int .i64 0, .int .i64 0, .bool false]) ?_ 0 _ rfl; (with_reducible repeat (first | refine blk_drewN ?_ _ | refine blk_drew ?_ | refine blk_alloc ?_ _)); exact BK240.out⟩, ⟨by repeat (first | (with_reducible first | exact HB.out | apply below_alloc | apply pw_below_drewN | apply below_drew1 | refine below_set ?_ GE222.out | refine below_set ?_ GE230.out | refine below_set ?_ GE240.out) | exact HB.out)⟩⟩
             ·
              rw [if_neg c56] at H
              have c56b0 : (t229 == 0) = false := beq_eq_false_iff_ne.mpr c56
              have c56b1 : (t229 != 0) = true := bne_iff_ne.mpr c56
              have H' := Aside0.mk H
              clear H
              have hnb90 := NB230_222.out
              have hnc90 := NB222_230.out
              have hnb91 := NB230_240.out
              have hnc91 := NB240_230.out
              have hcz92_0 : w44.cell? ⟨gb230, 0, none⟩ = some (.int .i64 t223) := (blk_cell BK230.out 0).trans rfl
              have hcz92_1 : w44.cell? ⟨gb230, 1, none⟩ = some (.int .i64 t224) := (blk_cell BK230.out 1).trans rfl
              have hcz92_2 : w44.cell? ⟨gb230, 2, none⟩ = some (.int .i64 t225) := (blk_cell BK230.out 2).trans rfl
              have hcz92_3 : w44.cell? ⟨gb230, 3, none⟩ = some (.bool t226) := (blk_cell BK230.out 3).trans rfl
              have hfz92_0 := blk_frozen BK230.out 0
              have hfz92_1 := blk_frozen BK230.out 1
              have hfz92_2 := blk_frozen BK230.out 2
              have hfz92_3 := blk_frozen BK230.out 3
              have hnb93 := NB222_240.out
              have hnc93 := NB240_222.out
              have hcz94_0 : w44.cell? ⟨gb222, 0, none⟩ = some (.int .i64 a0) := (blk_cell BK222.out 0).trans rfl
              have hcz94_1 : w44.cell? ⟨gb222, 1, none⟩ = some (.int .i64 a1) := (blk_cell BK222.out 1).trans rfl
              have hcz94_2 : w44.cell? ⟨gb222, 2, none⟩ = some (.int .i64 (x15_1.size : Int)) := (blk_cell BK222.out 2).trans rfl
              have hcz94_3 : w44.cell? ⟨gb222, 3, none⟩ = some (.bool a3) := (blk_cell BK222.out 3).trans rfl
              have hfz94_0 := blk_frozen BK222.out 0
              have hfz94_1 := blk_frozen BK222.out 1
              have hfz94_2 := blk_frozen BK222.out 2
              have hfz94_3 := blk_frozen BK222.out 3
              as_aux_lemma =>
               go_wp2
               go_meet
               case rel => exact ⟨_, (true), (by first | rfl | (simp; done) | (simp [*]; done) | (simp; exact (fun (l_ : List UInt8) => by cases l_ <;> rfl : ∀ l_ : List UInt8, l_.isEmpty = !(l_ != [])) _)), H', ⟨by have := HK1.out; have := HJ10.out; have := HJ26.out; first | omega | exact Nat.le_refl _⟩, ⟨by (with_reducible repeat (first | refine blk_drewN ?_ _ | refine blk_drew ?_ | refine blk_alloc ?_ _)); refine blk_far ?_ NB222_240.out _; (with_reducible repeat (first | refine blk_drewN ?_ _ | refine blk_drew ?_ | refine blk_alloc ?_ _)); refine blk_far ?_ NB222_240.out _; (with_reducible repeat (first | refine blk_drewN ?_ _ | refine blk_drew ?_ | refine blk_alloc ?_ _)); refine blk_far ?_ NB222_240.out _; (with_reducible repeat (first | refine blk_drewN ?_ _ | refine blk_drew ?_ | refine blk_alloc ?_ _)); refine blk_far ?_ NB222_240.out _; (with_reducible repeat (first | refine blk_drewN ?_ _ | refine blk_drew ?_ | refine blk_alloc ?_ _)); exact BK222.out⟩, ⟨by (with_reducible repeat (first | refine blk_drewN ?_ _ | refine blk_drew ?_ | refine blk_alloc ?_ _)); refine blk_far ?_ NB230_240.out _; (with_reducible repeat (first | refine blk_drewN ?_ _ | refine blk_drew ?_ | refine blk_alloc ?_ _)); refine blk_far ?_ NB230_240.out _; (with_reducible repeat (first | refine blk_drewN ?_ _ | refine blk_drew ?_ | refine blk_alloc ?_ _)); refine blk_far ?_ NB230_240.out _; (with_reducible repeat (first | refine blk_drewN ?_ _ | refine blk_drew ?_ | refine blk_alloc ?_ _)); refine blk_far ?_ NB230_240.out _; (with_reducible repeat (first | refine blk_drewN ?_ _ | refine blk_drew ?_ | refine blk_alloc ?_ _)); exact BK230.out⟩, ⟨by (with_reducible repeat (first | refine blk_drewN ?_ _ | refine blk_drew ?_ | refine blk_alloc ?_ _)); refine blk_put (cs := #[.int .i64 t233, .int .i64 t234, .int .i64 t235, .bool false]) ?_ 3 _ rfl; (with_reducible repeat (first | refine blk_drewN ?_ _ | refine blk_drew ?_ | refine blk_alloc ?_ _)); refine blk_put (cs := #[.int .i64 t233, .int .i64 t234, .int .i64 0, .bool false]) ?_ 2 _ rfl; (with_reducible repeat (first | refine blk_drewN ?_ _ | refine blk_drew ?_ | refine blk_alloc ?_ _)); refine blk_put (cs := #[.int .i64 t233, .int .i64 0, .int .i64 0, .bool false]) ?_ 1 _ rfl; (with_reducible repeat (first | refine blk_drewN ?_ _ | refine blk_drew ?_ | refine blk_alloc ?_ _)); refine blk_put (cs := #[.int .i64 0, .int .i64 0, .int .i64 0, .bool false]) ?_ 0 _ rfl; (with_reducible repeat (first | refine blk_drewN ?_ _ | refine blk_drew ?_ | refine blk_alloc ?_ _)); exact BK240.out⟩, ⟨by repeat (first | (with_reducible first | exact HB.out | apply below_alloc | apply pw_below_drewN | apply below_drew1 | refine below_set ?_ GE222.out | refine below_set ?_ GE230.out | refine below_set ?_ GE240.out) | exact HB.out)⟩⟩
            ·
             replace c55 := Bool.eq_false_iff.mpr c55
             subst c55
             have H1 : (tabulariumlaw18_ChunkBack.j4 kj26 a4 t212 t213 x14_26 x15_1 true) = some r := by rw [if_neg (show ¬ (false = true) by decide)] at H; exact H
             clear H
             have H := H1
             clear H1
             have H' := Aside0.mk H
             clear H
             have hnb95 := NB230_222.out
             have hnc95 := NB222_230.out
             have hnb96 := NB230_240.out
             have hnc96 := NB240_230.out
             have hcz97_0 : w44.cell? ⟨gb230, 0, none⟩ = some (.int .i64 t223) := (blk_cell BK230.out 0).trans rfl
             have hcz97_1 : w44.cell? ⟨gb230, 1, none⟩ = some (.int .i64 t224) := (blk_cell BK230.out 1).trans rfl
             have hcz97_2 : w44.cell? ⟨gb230, 2, none⟩ = some (.int .i64 t225) := (blk_cell BK230.out 2).trans rfl
             have hcz97_3 : w44.cell? ⟨gb230, 3, none⟩ = some (.bool t226) := (blk_cell BK230.out 3).trans rfl
             have hfz97_0 := blk_frozen BK230.out 0
             have hfz97_1 := blk_frozen BK230.out 1
             have hfz97_2 := blk_frozen BK230.out 2
             have hfz97_3 := blk_frozen BK230.out 3
             have hnb98 := NB222_240.out
             have hnc98 := NB240_222.out
             have hcz99_0 : w44.cell? ⟨gb222, 0, none⟩ = some (.int .i64 a0) := (blk_cell BK222.out 0).trans rfl
             have hcz99_1 : w44.cell? ⟨gb222, 1, none⟩ = some (.int .i64 a1) := (blk_cell BK222.out 1).trans rfl
             have hcz99_2 : w44.cell? ⟨gb222, 2, none⟩ = some (.int .i64 (x15_1.size : Int)) := (blk_cell BK222.out 2).trans rfl
             have hcz99_3 : w44.cell? ⟨gb222, 3, none⟩ = some (.bool a3) := (blk_cell BK222.out 3).trans rfl
             have hfz99_0 := blk_frozen BK222.out 0
             have hfz99_1 := blk_frozen BK222.out 1
             have hfz99_2 := blk_frozen BK222.out 2
             have hfz99_3 := blk_frozen BK222.out 3
             as_aux_lemma =>
              go_wp2
              go_meet
              case rel => exact ⟨_, (true), (by first | rfl | (simp; done) | (simp [*]; done) | (simp; exact (fun (l_ : List UInt8) => by cases l_ <;> rfl : ∀ l_ : List UInt8, l_.isEmpty = !(l_ != [])) _)), H', ⟨by have := HK1.out; have := HJ10.out; have := HJ26.out; first | omega | exact Nat.le_refl _⟩, ⟨by (with_reducible repeat (first | refine blk_drewN ?_ _ | refine blk_drew ?_ | refine blk_alloc ?_ _)); refine blk_far ?_ NB222_240.out _; (with_reducible repeat (first | refine blk_drewN ?_ _ | refine blk_drew ?_ | refine blk_alloc ?_ _)); refine blk_far ?_ NB222_240.out _; (with_reducible repeat (first | refine blk_drewN ?_ _ | refine blk_drew ?_ | refine blk_alloc ?_ _)); refine blk_far ?_ NB222_240.out _; (with_reducible repeat (first | refine blk_drewN ?_ _ | refine blk_drew ?_ | refine blk_alloc ?_ _)); refine blk_far ?_ NB222_240.out _; (with_reducible repeat (first | refine blk_drewN ?_ _ | refine blk_drew ?_ | refine blk_alloc ?_ _)); exact BK222.out⟩, ⟨by (with_reducible repeat (first | refine blk_drewN ?_ _ | refine blk_drew ?_ | refine blk_alloc ?_ _)); refine blk_far ?_ NB230_240.out _; (with_reducible repeat (first | refine blk_drewN ?_ _ | refine blk_drew ?_ | refine blk_alloc ?_ _)); refine blk_far ?_ NB230_240.out _; (with_reducible repeat (first | refine blk_drewN ?_ _ | refine blk_drew ?_ | refine blk_alloc ?_ _)); refine blk_far ?_ NB230_240.out _; (with_reducible repeat (first | refine blk_drewN ?_ _ | refine blk_drew ?_ | refine blk_alloc ?_ _)); refine blk_far ?_ NB230_240.out _; (with_reducible repeat (first | refine blk_drewN ?_ _ | refine blk_drew ?_ | refine blk_alloc ?_ _)); exact BK230.out⟩, ⟨by (with_reducible repeat (first | refine blk_drewN ?_ _ | refine blk_drew ?_ | refine blk_alloc ?_ _)); refine blk_put (cs := #[.int .i64 t233, .int .i64 t234, .int .i64 t235, .bool false]) ?_ 3 _ rfl; (with_reducible repeat (first | refine blk_drewN ?_ _ | refine blk_drew ?_ | refine blk_alloc ?_ _)); refine blk_put (cs := #[.int .i64 t233, .int .i64 t234, .int .i64 0, .bool false]) ?_ 2 _ rfl; (with_reducible repeat (first | refine blk_drewN ?_ _ | refine blk_drew ?_ | refine blk_alloc ?_ _)); refine blk_put (cs := #[.int .i64 t233, .int .i64 0, .int .i64 0, .bool false]) ?_ 1 _ rfl; (with_reducible repeat (first | refine blk_drewN ?_ _ | refine blk_drew ?_ | refine blk_alloc ?_ _)); refine blk_put (cs := #[.int .i64 0, .int .i64 0, .int .i64 0, .bool false]) ?_ 0 _ rfl; (with_reducible repeat (first | refine blk_drewN ?_ _ | refine blk_drew ?_ | refine blk_alloc ?_ _)); exact BK240.out⟩, ⟨by repeat (first | (with_reducible first | exact HB.out | apply below_alloc | apply pw_below_drewN | apply below_drew1 | refine below_set ?_ GE222.out | refine below_set ?_ GE230.out | refine below_set ?_ GE240.out) | exact HB.out)⟩⟩
           ·
            rw [if_neg c54] at H
            have c54b0 : (t227.toList == x15_1.toList) = false := beq_eq_false_iff_ne.mpr c54
            have c54b1 : (t227.toList != x15_1.toList) = true := bne_iff_ne.mpr c54
            have H' := Aside0.mk H
            clear H
            have hnb100 := NB230_222.out
            have hnc100 := NB222_230.out
            have hnb101 := NB230_240.out
            have hnc101 := NB240_230.out
            have hcz102_0 : w44.cell? ⟨gb230, 0, none⟩ = some (.int .i64 t223) := (blk_cell BK230.out 0).trans rfl
            have hcz102_1 : w44.cell? ⟨gb230, 1, none⟩ = some (.int .i64 t224) := (blk_cell BK230.out 1).trans rfl
            have hcz102_2 : w44.cell? ⟨gb230, 2, none⟩ = some (.int .i64 t225) := (blk_cell BK230.out 2).trans rfl
            have hcz102_3 : w44.cell? ⟨gb230, 3, none⟩ = some (.bool t226) := (blk_cell BK230.out 3).trans rfl
            have hfz102_0 := blk_frozen BK230.out 0
            have hfz102_1 := blk_frozen BK230.out 1
            have hfz102_2 := blk_frozen BK230.out 2
            have hfz102_3 := blk_frozen BK230.out 3
            have hnb103 := NB222_240.out
            have hnc103 := NB240_222.out
            have hcz104_0 : w44.cell? ⟨gb222, 0, none⟩ = some (.int .i64 a0) := (blk_cell BK222.out 0).trans rfl
            have hcz104_1 : w44.cell? ⟨gb222, 1, none⟩ = some (.int .i64 a1) := (blk_cell BK222.out 1).trans rfl
            have hcz104_2 : w44.cell? ⟨gb222, 2, none⟩ = some (.int .i64 (x15_1.size : Int)) := (blk_cell BK222.out 2).trans rfl
            have hcz104_3 : w44.cell? ⟨gb222, 3, none⟩ = some (.bool a3) := (blk_cell BK222.out 3).trans rfl
            have hfz104_0 := blk_frozen BK222.out 0
            have hfz104_1 := blk_frozen BK222.out 1
            have hfz104_2 := blk_frozen BK222.out 2
            have hfz104_3 := blk_frozen BK222.out 3
            as_aux_lemma =>
             go_wp2
             go_meet
             case rel => exact ⟨_, (true), (by first | rfl | (simp; done) | (simp [*]; done) | (simp; exact (fun (l_ : List UInt8) => by cases l_ <;> rfl : ∀ l_ : List UInt8, l_.isEmpty = !(l_ != [])) _)), H', ⟨by have := HK1.out; have := HJ10.out; have := HJ26.out; first | omega | exact Nat.le_refl _⟩, ⟨by (with_reducible repeat (first | refine blk_drewN ?_ _ | refine blk_drew ?_ | refine blk_alloc ?_ _)); refine blk_far ?_ NB222_240.out _; (with_reducible repeat (first | refine blk_drewN ?_ _ | refine blk_drew ?_ | refine blk_alloc ?_ _)); refine blk_far ?_ NB222_240.out _; (with_reducible repeat (first | refine blk_drewN ?_ _ | refine blk_drew ?_ | refine blk_alloc ?_ _)); refine blk_far ?_ NB222_240.out _; (with_reducible repeat (first | refine blk_drewN ?_ _ | refine blk_drew ?_ | refine blk_alloc ?_ _)); refine blk_far ?_ NB222_240.out _; (with_reducible repeat (first | refine blk_drewN ?_ _ | refine blk_drew ?_ | refine blk_alloc ?_ _)); exact BK222.out⟩, ⟨by (with_reducible repeat (first | refine blk_drewN ?_ _ | refine blk_drew ?_ | refine blk_alloc ?_ _)); refine blk_far ?_ NB230_240.out _; (with_reducible repeat (first | refine blk_drewN ?_ _ | refine blk_drew ?_ | refine blk_alloc ?_ _)); refine blk_far ?_ NB230_240.out _; (with_reducible repeat (first | refine blk_drewN ?_ _ | refine blk_drew ?_ | refine blk_alloc ?_ _)); refine blk_far ?_ NB230_240.out _; (with_reducible repeat (first | refine blk_drewN ?_ _ | refine blk_drew ?_ | refine blk_alloc ?_ _)); refine blk_far ?_ NB230_240.out _; (with_reducible repeat (first | refine blk_drewN ?_ _ | refine blk_drew ?_ | refine blk_alloc ?_ _)); exact BK230.out⟩, ⟨by (with_reducible repeat (first | refine blk_drewN ?_ _ | refine blk_drew ?_ | refine blk_alloc ?_ _)); refine blk_put (cs := #[.int .i64 t233, .int .i64 t234, .int .i64 t235, .bool false]) ?_ 3 _ rfl; (with_reducible repeat (first | refine blk_drewN ?_ _ | refine blk_drew ?_ | refine blk_alloc ?_ _)); refine blk_put (cs := #[.int .i64 t233, .int .i64 t234, .int .i64 0, .bool false]) ?_ 2 _ rfl; (with_reducible repeat (first | refine blk_drewN ?_ _ | refine blk_drew ?_ | refine blk_alloc ?_ _)); refine blk_put (cs := #[.int .i64 t233, .int .i64 0, .int .i64 0, .bool false]) ?_ 1 _ rfl; (with_reducible repeat (first | refine blk_drewN ?_ _ | refine blk_drew ?_ | refine blk_alloc ?_ _)); refine blk_put (cs := #[.int .i64 0, .int .i64 0, .int .i64 0, .bool false]) ?_ 0 _ rfl; (with_reducible repeat (first | refine blk_drewN ?_ _ | refine blk_drew ?_ | refine blk_alloc ?_ _)); exact BK240.out⟩, ⟨by repeat (first | (with_reducible first | exact HB.out | apply below_alloc | apply pw_below_drewN | apply below_drew1 | refine below_set ?_ GE222.out | refine below_set ?_ GE230.out | refine below_set ?_ GE240.out) | exact HB.out)⟩⟩
         case rest => as_aux_lemma =>
          clear HC35
          try clear c1
          try clear c2
          try clear p2
          try clear q2
          try clear hx2
          try clear c3
          try clear c4
          try clear c5
          try clear c6
          try clear p6
          try clear c7
          try clear c8
          try clear c8b0
          try clear c8b1
          try clear c9
          try clear c10
          try clear c11
          try clear c12
          try clear c12b0
          try clear c13
          try clear c14
          try clear c15
          try clear c15b0
          try clear c16
          try clear c16b0
          try clear c17
          try clear c17b0
          try clear c17b1
          try clear c18
          try clear c19
          try clear c19b0
          try clear c20
          try clear c20b0
          try clear p21
          try clear q21
          try clear hx21
          try clear c22
          try clear c22b0
          try clear c22b1
          try clear p22
          try clear q22
          try clear hx22
          try clear c23
          try clear c23b0
          try clear c23b1
          try clear c23b2
          try clear c24
          try clear c24b0
          try clear c24b1
          try clear c24b2
          try clear c28
          try clear c30
          try clear c30b0
          try clear c30b1
          try clear c30b2
          try clear c40
          try clear c45
          try clear c46
          try clear c48
          try clear c48b0
          try clear c49
          try clear c50
          try clear c52
          try clear c54
          try clear c54b0
          try clear c54b1
          try clear c55
          try clear c56
          try clear c56b0
          try clear c56b1
          try clear c57
          try clear c57b0
          try clear c57b1
          try clear c58
          try clear c58b0
          try clear c59
          try clear c60
          try clear c62
          try clear p64
          try clear c65
          try clear c65b0
          try clear c65b1
          try clear c66
          try clear c67
          try clear c68
          try clear c70
          try clear c73
          try clear c74
          try clear c76
          try clear c79
          try clear c80
          try clear c82
          try clear c85
          try clear c86
          try clear c88
          try clear c90
          try clear c91
          try clear c93
          try clear c95
          try clear c96
          try clear c98
          try clear c100
          try clear c101
          try clear c103
          try clear hcz102_0
          try clear hcz102_1
          try clear hcz102_2
          try clear hcz102_3
          try clear hcz104_0
          try clear hcz104_1
          try clear hcz104_2
          try clear hcz104_3
          try clear hcz37_0
          try clear hcz37_1
          try clear hcz37_2
          try clear hcz37_3
          try clear hcz41_0
          try clear hcz41_1
          try clear hcz41_2
          try clear hcz41_3
          try clear hcz47_0
          try clear hcz47_1
          try clear hcz47_2
          try clear hcz47_3
          try clear hcz51_0
          try clear hcz51_1
          try clear hcz51_2
          try clear hcz51_3
          try clear hcz53_0
          try clear hcz53_1
          try clear hcz53_2
          try clear hcz53_3
          try clear hcz61_0
          try clear hcz61_1
          try clear hcz61_2
          try clear hcz61_3
          try clear hcz63_0
          try clear hcz63_1
          try clear hcz63_2
          try clear hcz63_3
          try clear hcz64_0
          try clear hcz64_1
          try clear hcz64_2
          try clear hcz64_3
          try clear hcz69_0
          try clear hcz69_1
          try clear hcz69_2
          try clear hcz69_3
          try clear hcz71_0
          try clear hcz71_1
          try clear hcz71_2
          try clear hcz71_3
          try clear hcz72_0
          try clear hcz72_1
          try clear hcz72_2
          try clear hcz72_3
          try clear hcz75_0
          try clear hcz75_1
          try clear hcz75_2
          try clear hcz75_3
          try clear hcz77_0
          try clear hcz77_1
          try clear hcz77_2
          try clear hcz77_3
          try clear hcz78_0
          try clear hcz78_1
          try clear hcz78_2
          try clear hcz78_3
          try clear hcz81_0
          try clear hcz81_1
          try clear hcz81_2
          try clear hcz81_3
          try clear hcz83_0
          try clear hcz83_1
          try clear hcz83_2
          try clear hcz83_3
          try clear hcz84_0
          try clear hcz84_1
          try clear hcz84_2
          try clear hcz84_3
          try clear hcz87_0
          try clear hcz87_1
          try clear hcz87_2
          try clear hcz87_3
          try clear hcz89_0
          try clear hcz89_1
          try clear hcz89_2
          try clear hcz89_3
          try clear hcz92_0
          try clear hcz92_1
          try clear hcz92_2
          try clear hcz92_3
          try clear hcz94_0
          try clear hcz94_1
          try clear hcz94_2
          try clear hcz94_3
          try clear hcz97_0
          try clear hcz97_1
          try clear hcz97_2
          try clear hcz97_3
          try clear hcz99_0
          try clear hcz99_1
          try clear hcz99_2
          try clear hcz99_3
          try clear hfz102_0
          try clear hfz102_1
          try clear hfz102_2
          try clear hfz102_3
          try clear hfz104_0
          try clear hfz104_1
          try clear hfz104_2
          try clear hfz104_3
          try clear hfz37_0
          try clear hfz37_1
          try clear hfz37_2
          try clear hfz37_3
          try clear hfz41_0
          try clear hfz41_1
          try clear hfz41_2
          try clear hfz41_3
          try clear hfz47_0
          try clear hfz47_1
          try clear hfz47_2
          try clear hfz47_3
          try clear hfz51_0
          try clear hfz51_1
          try clear hfz51_2
          try clear hfz51_3
          try clear hfz53_0
          try clear hfz53_1
          try clear hfz53_2
          try clear hfz53_3
          try clear hfz61_0
          try clear hfz61_1
          try clear hfz61_2
          try clear hfz61_3
          try clear hfz63_0
          try clear hfz63_1
          try clear hfz63_2
          try clear hfz63_3
          try clear hfz64_0
          try clear hfz64_1
          try clear hfz64_2
          try clear hfz64_3
          try clear hfz69_0
          try clear hfz69_1
          try clear hfz69_2
          try clear hfz69_3
          try clear hfz71_0
          try clear hfz71_1
          try clear hfz71_2
          try clear hfz71_3
          try clear hfz72_0
          try clear hfz72_1
          try clear hfz72_2
          try clear hfz72_3
          try clear hfz75_0
          try clear hfz75_1
          try clear hfz75_2
          try clear hfz75_3
          try clear hfz77_0
          try clear hfz77_1
          try clear hfz77_2
          try clear hfz77_3
          try clear hfz78_0
          try clear hfz78_1
          try clear hfz78_2
          try clear hfz78_3
          try clear hfz81_0
          try clear hfz81_1
          try clear hfz81_2
          try clear hfz81_3
          try clear hfz83_0
          try clear hfz83_1
          try clear hfz83_2
          try clear hfz83_3
          try clear hfz84_0
          try clear hfz84_1
          try clear hfz84_2
          try clear hfz84_3
          try clear hfz87_0
          try clear hfz87_1
          try clear hfz87_2
          try clear hfz87_3
          try clear hfz89_0
          try clear hfz89_1
          try clear hfz89_2
          try clear hfz89_3
          try clear hfz92_0
          try clear hfz92_1
          try clear hfz92_2
          try clear hfz92_3
          try clear hfz94_0
          try clear hfz94_1
          try clear hfz94_2
          try clear hfz94_3
          try clear hfz97_0
          try clear hfz97_1
          try clear hfz97_2
          try clear hfz97_3
          try clear hfz99_0
          try clear hfz99_1
          try clear hfz99_2
          try clear hfz99_3
          try clear hx215_0
          try clear hx216_0
          try clear hx217_0
          try clear hx220_0
          try clear p2
          try clear p21
          try clear p215
          try clear p216
          try clear p217
          try clear p22
          try clear p220
          try clear p6
          try clear q2
          try clear q21
          try clear q215
          try clear q216
          try clear q217
          try clear q22
          try clear q220
          obtain ⟨kq, x165_34, rfl, HA, HJ34, BK222, BK230, BK240, HB⟩ := hcut
          cases kq with
          | zero => exact absurd HA.out (by simp [tabulariumlaw18_ChunkBack.j4])
          | succ kj34 =>
           have H := HA.out
           clear HA
           simp only [tabulariumlaw18_ChunkBack.j4] at H
           by_cases c105 : x165_34 = true
           ·
            subst c105
            have H1 : (some false) = some r := by rw [if_pos rfl] at H; exact H
            clear H
            have H := H1
            clear H1
            obtain rfl := Option.some.inj H
            as_aux_lemma =>
             go_wp2
             go_ret
             exact ⟨by first | rfl | (simp [errW_none, errW_some] <;> rfl) | (simp [*, errW_none, errW_some] <;> rfl), by repeat (first | (with_reducible first | exact HB.out | apply below_alloc | apply pw_below_drewN | apply below_drew1 | refine below_set ?_ GE222.out | refine below_set ?_ GE230.out | refine below_set ?_ GE240.out) | exact HB.out)⟩
           ·
            replace c105 := Bool.eq_false_iff.mpr c105
            subst c105
            have H1 : (if a4 < 0 then (if (wrap64 ((x14_26.size : Int) + 1)) = 0 then (none) else (if 0 ≤ (Int.tmod (wrap64 (-(wrap64 (a4 + 1)))) (wrap64 ((x14_26.size : Int) + 1))) then (if (Int.tmod (wrap64 (-(wrap64 (a4 + 1)))) (wrap64 ((x14_26.size : Int) + 1))) ≤ (x14_26.size : Int) then ((chunk_Read.f (x14_26.extract 0 ((Int.tmod (wrap64 (-(wrap64 (a4 + 1)))) (wrap64 ((x14_26.size : Int) + 1))) : Int).toNat)).bind fun bt241 => (if ((x14_26.extract 0 ((Int.tmod (wrap64 (-(wrap64 (a4 + 1)))) (wrap64 ((x14_26.size : Int) + 1))) : Int).toNat).size : Int) < (t213.size : Int) then (if t212 = true then (some (bt241.2.2.2.2.2.2 == 2)) else (some false)) else (if t212 = true then (if bt241.2.2.2.2.2.2 = 0 then (if (bt241.2.2.2.2.1.size : Int) ≤ (x15_1.size : Int) then (if 0 ≤ (bt241.2.2.2.2.1.size : Int) then (if (x15_1.extract 0 ((bt241.2.2.2.2.1.size : Int) : Int).toNat).toList = bt241.2.2.2.2.1.toList then (if bt241.2.2.1 = (bt241.2.2.2.2.1.size : Int) then (if bt241.2.2.2.1 = true then (some (((x14_26.extract 0 ((Int.tmod (wrap64 (-(wrap64 (a4 + 1)))) (wrap64 ((x14_26.size : Int) + 1))) : Int).toNat).size : Int) == (x14_26.size : Int))) else (some true)) else (some false)) else (some false)) else (none)) else (some false)) else (some false)) else (some false)))) else (none)) else (none))) else (if (wrap64 ((x14_26.size : Int) + 1)) = 0 then (none) else (if 0 ≤ (Int.tmod a4 (wrap64 ((x14_26.size : Int) + 1))) then (if (Int.tmod a4 (wrap64 ((x14_26.size : Int) + 1))) ≤ (x14_26.size : Int) then ((chunk_Read.f (x14_26.extract 0 ((Int.tmod a4 (wrap64 ((x14_26.size : Int) + 1))) : Int).toNat)).bind fun bt249 => (if ((x14_26.extract 0 ((Int.tmod a4 (wrap64 ((x14_26.size : Int) + 1))) : Int).toNat).size : Int) < (t213.size : Int) then (if t212 = true then (some (bt249.2.2.2.2.2.2 == 2)) else (some false)) else (if t212 = true then (if bt249.2.2.2.2.2.2 = 0 then (if (bt249.2.2.2.2.1.size : Int) ≤ (x15_1.size : Int) then (if 0 ≤ (bt249.2.2.2.2.1.size : Int) then (if (x15_1.extract 0 ((bt249.2.2.2.2.1.size : Int) : Int).toNat).toList = bt249.2.2.2.2.1.toList then (if bt249.2.2.1 = (bt249.2.2.2.2.1.size : Int) then (if bt249.2.2.2.1 = true then (some (((x14_26.extract 0 ((Int.tmod a4 (wrap64 ((x14_26.size : Int) + 1))) : Int).toNat).size : Int) == (x14_26.size : Int))) else (some true)) else (some false)) else (some false)) else (none)) else (some false)) else (some false)) else (some false)))) else (none)) else (none)))) = some r := by rw [if_neg (show ¬ (false = true) by decide)] at H; exact H
            clear H
            have H := H1
            clear H1
            by_cases c106 : a4 < 0
            ·
             rw [if_pos c106] at H
             have c106b0 : decide (a4 < 0) = true := decide_eq_true c106
             clear c106
             by_cases c107 : (wrap64 ((x14_26.size : Int) + 1)) = 0
             ·
              rw [if_pos c107] at H
              exact absurd H (by simp)
             ·
              rw [if_neg c107] at H
              have c107b0 : ((wrap64 ((x14_26.size : Int) + 1)) == 0) = false := beq_eq_false_iff_ne.mpr c107
              have c107b1 : ((wrap64 ((x14_26.size : Int) + 1)) != 0) = true := bne_iff_ne.mpr c107
              obtain ⟨ji108, hji108⟩ : ∃ j_ : Int, (Int.tmod (wrap64 (-(wrap64 (a4 + 1)))) (wrap64 ((x14_26.size : Int) + 1))) = j_ := ⟨_, rfl⟩
              replace H : (if 0 ≤ (ji108) then (if (ji108) ≤ (x14_26.size : Int) then ((chunk_Read.f (x14_26.extract 0 ((ji108) : Int).toNat)).bind fun bt241 => (if ((x14_26.extract 0 ((ji108) : Int).toNat).size : Int) < (t213.size : Int) then (if t212 = true then (some (bt241.2.2.2.2.2.2 == 2)) else (some false)) else (if t212 = true then (if bt241.2.2.2.2.2.2 = 0 then (if (bt241.2.2.2.2.1.size : Int) ≤ (x15_1.size : Int) then (if 0 ≤ (bt241.2.2.2.2.1.size : Int) then (if (x15_1.extract 0 ((bt241.2.2.2.2.1.size : Int) : Int).toNat).toList = bt241.2.2.2.2.1.toList then (if bt241.2.2.1 = (bt241.2.2.2.2.1.size : Int) then (if bt241.2.2.2.1 = true then (some (((x14_26.extract 0 ((ji108) : Int).toNat).size : Int) == (x14_26.size : Int))) else (some true)) else (some false)) else (some false)) else (none)) else (some false)) else (some false)) else (some false)))) else (none)) else (none)) = some r := by first | (rw [hji108] at H; exact H) | (simp only [hji108] at H ⊢; exact H)
              by_cases c109 : 0 ≤ (ji108)
              ·
               rw [if_pos c109] at H
               have c109b0 := eq_true c109
               have c109b1 : decide (0 ≤ (ji108)) = true := decide_eq_true c109
               clear c109
               by_cases c110 : (ji108) ≤ (x14_26.size : Int)
               ·
                rw [if_pos c110] at H
                have c110b0 := eq_true c110
                have c110b1 : decide ((ji108) ≤ (x14_26.size : Int)) = true := decide_eq_true c110
                clear c110
                replace H := Option.bind_eq_some_iff.mp H
                obtain ⟨⟨t241, t242, t243, t244, t245, t246, t247⟩, A1110, H⟩ := H
                replace H : (if ((x14_26.extract 0 ((ji108) : Int).toNat).size : Int) < (t213.size : Int) then (if t212 = true then (some (t247 == 2)) else (some false)) else (if t212 = true then (if t247 = 0 then (if (t245.size : Int) ≤ (x15_1.size : Int) then (if 0 ≤ (t245.size : Int) then (if (x15_1.extract 0 ((t245.size : Int) : Int).toNat).toList = t245.toList then (if t243 = (t245.size : Int) then (if t244 = true then (some (((x14_26.extract 0 ((ji108) : Int).toNat).size : Int) == (x14_26.size : Int))) else (some true)) else (some false)) else (some false)) else (none)) else (some false)) else (some false)) else (some false))) = some r := H
                have A111 := Aside0.mk A1110
                have hszji108 := cutmax x14_26 ji108 c109b0 c110b0
                clear A1110
                by_cases c112 : ((x14_26.extract 0 ((ji108) : Int).toNat).size : Int) < (t213.size : Int)
                ·
                 rw [if_pos c112] at H
                 have c112b0 : decide (((x14_26.extract 0 ((ji108) : Int).toNat).size : Int) < (t213.size : Int)) = true := decide_eq_true c112
                 have c112b1 : decide ((x14_26.extract 0 ((ji108) : Int).toNat).size < t213.size) = true := decide_eq_true (Int.ofNat_lt.mp c112)
                 have c112b2 := cutmaxT x14_26 ji108 t213.size hszji108 true c112b0
                 have c112b3 := cutmaxA x14_26 ji108 t213.size hszji108 c112b0
                 clear c112
                 by_cases c113 : t212 = true
                 ·
                  subst c113
                  have H1 : (some (t247 == 2)) = some r := by rw [if_pos rfl] at H; exact H
                  clear H
                  have H := H1
                  clear H1
                  obtain rfl := Option.some.inj H
                  as_aux_lemma =>
                   go_wp2_with (first | ((with_reducible refine gate_callee (f := 9) rfl ?_); refine goesL_ (some 180) rfl rfl Try.func9 (by kernel_rfl) rfl #[.string (x14_26.extract 0 ((ji108) : Int).toNat)] rfl (by (try simp only [List.map_toArray, List.map_cons, List.map_nil]); first | done | (simp only [hji108]; rfl) | rfl | (simp only [List.length_drop, List.length_take]; rfl)) ?_; (with_reducible refine (chunk_Read.calls (x14_26.extract 0 ((ji108) : Int).toNat) t241 t242 t243 t244 t245 t246 t247 _ A111.out).mono ?_); rintro e w114 ⟨rfl, hb⟩; refine ⟨_, rfl, ?_⟩; have n0_ := Aside0.mk (blk_below (g := gb222) (o := .cells #[.int .i64 a0, .int .i64 a1, .int .i64 (x15_1.size : Int), .bool a3] 26 (0, 0)) (kx BK222) hb); have n1_ := Aside0.mk (blk_below (g := gb230) (o := .cells #[.int .i64 t223, .int .i64 t224, .int .i64 t225, .bool t226] 26 (0, 0)) (kx BK230) hb); have n2_ := Aside0.mk (blk_below (g := gb240) (o := .cells #[.int .i64 t233, .int .i64 t234, .int .i64 t235, .bool t236] 26 (0, 0)) (kx BK240) hb); have n3_ := Aside0.mk (below_step (by repeat (first | (with_reducible first | exact HB.out | apply below_alloc | apply pw_below_drewN | apply below_drew1 | refine below_set ?_ GE222.out | refine below_set ?_ GE230.out | refine below_set ?_ GE240.out) | exact HB.out)) hb); clear BK222; clear BK230; clear BK240; clear HB; have BK222 := n0_; have BK230 := n1_; have BK240 := n2_; have HB := n3_; clear n0_ n1_ n2_ n3_; (try clear hb); (try clear hb2); (try clear hk); (try clear hi)) | ((with_reducible refine gate_dst (N := 31) rfl ?_); (try (refine gate_guard (by rfl) ?_; dsimp only)); refine box_event ?hg (N := 31) ?hd (cs := #[.int .i64 0, .int .i64 0, .int .i64 0, .bool false]) (t := 26) ?hr ?_; (case hd => rfl); (case hg => rfl); (case hr => first | (go_simp; done) | (go_simp; rfl)); intro gb248 hg w115 hbox hb; have n0_ := Aside0.mk (blk_below (g := gb222) (o := .cells #[.int .i64 a0, .int .i64 a1, .int .i64 (x15_1.size : Int), .bool a3] 26 (0, 0)) (kx BK222) hb); have n1_ := Aside0.mk (blk_below (g := gb230) (o := .cells #[.int .i64 t223, .int .i64 t224, .int .i64 t225, .bool t226] 26 (0, 0)) (kx BK230) hb); have n2_ := Aside0.mk (blk_below (g := gb240) (o := .cells #[.int .i64 t233, .int .i64 t234, .int .i64 t235, .bool t236] 26 (0, 0)) (kx BK240) hb); have n3_ := Aside0.mk (below_step (by repeat (first | (with_reducible first | exact HB.out | apply below_alloc | apply pw_below_drewN | apply below_drew1 | refine below_set ?_ GE222.out | refine below_set ?_ GE230.out | refine below_set ?_ GE240.out) | exact HB.out)) hb); have n4_ := Aside0.mk (hbox); have n5_ := Aside0.mk ((by rw [hg]; exact (below_size (by repeat (first | (with_reducible first | exact HB.out | apply below_alloc | apply pw_below_drewN | apply below_drew1 | refine below_set ?_ GE222.out | refine below_set ?_ GE230.out | refine below_set ?_ GE240.out) | exact HB.out))) : w.heap.size ≤ gb248)); have n6_ := Aside0.mk ((by rw [hg]; exact (below_size (by repeat (first | (with_reducible first | exact HB.out | apply below_alloc | apply pw_below_drewN | apply below_drew1 | refine below_set ?_ GE222.out | refine below_set ?_ GE230.out | refine below_set ?_ GE240.out) | exact HB.out))) : w.heap.size ≤ gb248)); have n7_ := Aside0.mk ((by rw [hg]; exact Nat.ne_of_lt (blk_lt (g := gb222) (o := .cells #[.int .i64 a0, .int .i64 a1, .int .i64 (x15_1.size : Int), .bool a3] 26 (0, 0)) (kx BK222)) : gb222 ≠ gb248)); have n8_ := Aside0.mk ((by rw [hg]; exact Nat.ne_of_gt (blk_lt (g := gb222) (o := .cells #[.int .i64 a0, .int .i64 a1, .int .i64 (x15_1.size : Int), .bool a3] 26 (0, 0)) (kx BK222)) : gb248 ≠ gb222)); have n9_ := Aside0.mk ((by rw [hg]; exact Nat.ne_of_lt (blk_lt (g := gb230) (o := .cells #[.int .i64 t223, .int .i64 t224, .int .i64 t225, .bool t226] 26 (0, 0)) (kx BK230)) : gb230 ≠ gb248)); have n10_ := Aside0.mk ((by rw [hg]; exact Nat.ne_of_gt (blk_lt (g := gb230) (o := .cells #[.int .i64 t223, .int .i64 t224, .int .i64 t225, .bool t226] 26 (0, 0)) (kx BK230)) : gb248 ≠ gb230)); have n11_ := Aside0.mk ((by rw [hg]; exact Nat.ne_of_lt (blk_lt (g := gb240) (o := .cells #[.int .i64 t233, .int .i64 t234, .int .i64 t235, .bool t236] 26 (0, 0)) (kx BK240)) : gb240 ≠ gb248)); have n12_ := Aside0.mk ((by rw [hg]; exact Nat.ne_of_gt (blk_lt (g := gb240) (o := .cells #[.int .i64 t233, .int .i64 t234, .int .i64 t235, .bool t236] 26 (0, 0)) (kx BK240)) : gb248 ≠ gb240)); clear BK222; clear BK230; clear BK240; clear HB; have BK222 := n0_; have BK230 := n1_; have BK240 := n2_; have HB := n3_; have BK248 := n4_; have GW248 := n5_; have GE248 := n6_; have NB222_248 := n7_; have NB248_222 := n8_; have NB230_248 := n9_; have NB248_230 := n10_; have NB240_248 := n11_; have NB248_240 := n12_; clear n0_ n1_ n2_ n3_ n4_ n5_ n6_ n7_ n8_ n9_ n10_ n11_ n12_; clear hb hbox hg; have hnb116 := NB248_222.out; have hnc116 := NB222_248.out; have hnb117 := NB248_230.out; have hnc117 := NB230_248.out; have hnb118 := NB248_240.out; have hnc118 := NB240_248.out; have hcz119_0 : w115.cell? ⟨gb248, 0, none⟩ = some (.int .i64 0) := (blk_cell BK248.out 0).trans rfl; have hcz119_1 : w115.cell? ⟨gb248, 1, none⟩ = some (.int .i64 0) := (blk_cell BK248.out 1).trans rfl; have hcz119_2 : w115.cell? ⟨gb248, 2, none⟩ = some (.int .i64 0) := (blk_cell BK248.out 2).trans rfl; have hcz119_3 : w115.cell? ⟨gb248, 3, none⟩ = some (.bool false) := (blk_cell BK248.out 3).trans rfl; have hfz119_0 := blk_frozen BK248.out 0; have hfz119_1 := blk_frozen BK248.out 1; have hfz119_2 := blk_frozen BK248.out 2; have hfz119_3 := blk_frozen BK248.out 3))
                   go_ret
                   exact ⟨by first | rfl | (rw [hszji108]) | (simp [errW_none, errW_some] <;> rfl) | (simp only [← hji108]; first | rfl | (simp [errW_none, errW_some] <;> rfl)) | (simp [*, errW_none, errW_some] <;> rfl), by repeat (first | (with_reducible first | exact HB.out | apply below_alloc | apply pw_below_drewN | apply below_drew1 | refine below_set ?_ GE222.out | refine below_set ?_ GE230.out | refine below_set ?_ GE240.out | refine below_set ?_ GE248.out) | exact HB.out)⟩
                 ·
                  replace c113 := Bool.eq_false_iff.mpr c113
                  subst c113
                  have H1 : (some false) = some r := by rw [if_neg (show ¬ (false = true) by decide)] at H; exact H
                  clear H
                  have H := H1
                  clear H1
                  obtain rfl := Option.some.inj H
                  as_aux_lemma =>
                   go_wp2_with (first | ((with_reducible refine gate_callee (f := 9) rfl ?_); refine goesL_ (some 180) rfl rfl Try.func9 (by kernel_rfl) rfl #[.string (x14_26.extract 0 ((ji108) : Int).toNat)] rfl (by (try simp only [List.map_toArray, List.map_cons, List.map_nil]); first | done | (simp only [hji108]; rfl) | rfl | (simp only [List.length_drop, List.length_take]; rfl)) ?_; (with_reducible refine (chunk_Read.calls (x14_26.extract 0 ((ji108) : Int).toNat) t241 t242 t243 t244 t245 t246 t247 _ A111.out).mono ?_); rintro e w120 ⟨rfl, hb⟩; refine ⟨_, rfl, ?_⟩; have n0_ := Aside0.mk (blk_below (g := gb222) (o := .cells #[.int .i64 a0, .int .i64 a1, .int .i64 (x15_1.size : Int), .bool a3] 26 (0, 0)) (kx BK222) hb); have n1_ := Aside0.mk (blk_below (g := gb230) (o := .cells #[.int .i64 t223, .int .i64 t224, .int .i64 t225, .bool t226] 26 (0, 0)) (kx BK230) hb); have n2_ := Aside0.mk (blk_below (g := gb240) (o := .cells #[.int .i64 t233, .int .i64 t234, .int .i64 t235, .bool t236] 26 (0, 0)) (kx BK240) hb); have n3_ := Aside0.mk (below_step (by repeat (first | (with_reducible first | exact HB.out | apply below_alloc | apply pw_below_drewN | apply below_drew1 | refine below_set ?_ GE222.out | refine below_set ?_ GE230.out | refine below_set ?_ GE240.out) | exact HB.out)) hb); clear BK222; clear BK230; clear BK240; clear HB; have BK222 := n0_; have BK230 := n1_; have BK240 := n2_; have HB := n3_; clear n0_ n1_ n2_ n3_; (try clear hb); (try clear hb2); (try clear hk); (try clear hi)) | ((with_reducible refine gate_dst (N := 31) rfl ?_); (try (refine gate_guard (by rfl) ?_; dsimp only)); refine box_event ?hg (N := 31) ?hd (cs := #[.int .i64 0, .int .i64 0, .int .i64 0, .bool false]) (t := 26) ?hr ?_; (case hd => rfl); (case hg => rfl); (case hr => first | (go_simp; done) | (go_simp; rfl)); intro gb248 hg w121 hbox hb; have n0_ := Aside0.mk (blk_below (g := gb222) (o := .cells #[.int .i64 a0, .int .i64 a1, .int .i64 (x15_1.size : Int), .bool a3] 26 (0, 0)) (kx BK222) hb); have n1_ := Aside0.mk (blk_below (g := gb230) (o := .cells #[.int .i64 t223, .int .i64 t224, .int .i64 t225, .bool t226] 26 (0, 0)) (kx BK230) hb); have n2_ := Aside0.mk (blk_below (g := gb240) (o := .cells #[.int .i64 t233, .int .i64 t234, .int .i64 t235, .bool t236] 26 (0, 0)) (kx BK240) hb); have n3_ := Aside0.mk (below_step (by repeat (first | (with_reducible first | exact HB.out | apply below_alloc | apply pw_below_drewN | apply below_drew1 | refine below_set ?_ GE222.out | refine below_set ?_ GE230.out | refine below_set ?_ GE240.out) | exact HB.out)) hb); have n4_ := Aside0.mk (hbox); have n5_ := Aside0.mk ((by rw [hg]; exact (below_size (by repeat (first | (with_reducible first | exact HB.out | apply below_alloc | apply pw_below_drewN | apply below_drew1 | refine below_set ?_ GE222.out | refine below_set ?_ GE230.out | refine below_set ?_ GE240.out) | exact HB.out))) : w.heap.size ≤ gb248)); have n6_ := Aside0.mk ((by rw [hg]; exact (below_size (by repeat (first | (with_reducible first | exact HB.out | apply below_alloc | apply pw_below_drewN | apply below_drew1 | refine below_set ?_ GE222.out | refine below_set ?_ GE230.out | refine below_set ?_ GE240.out) | exact HB.out))) : w.heap.size ≤ gb248)); have n7_ := Aside0.mk ((by rw [hg]; exact Nat.ne_of_lt (blk_lt (g := gb222) (o := .cells #[.int .i64 a0, .int .i64 a1, .int .i64 (x15_1.size : Int), .bool a3] 26 (0, 0)) (kx BK222)) : gb222 ≠ gb248)); have n8_ := Aside0.mk ((by rw [hg]; exact Nat.ne_of_gt (blk_lt (g := gb222) (o := .cells #[.int .i64 a0, .int .i64 a1, .int .i64 (x15_1.size : Int), .bool a3] 26 (0, 0)) (kx BK222)) : gb248 ≠ gb222)); have n9_ := Aside0.mk ((by rw [hg]; exact Nat.ne_of_lt (blk_lt (g := gb230) (o := .cells #[.int .i64 t223, .int .i64 t224, .int .i64 t225, .bool t226] 26 (0, 0)) (kx BK230)) : gb230 ≠ gb248)); have n10_ := Aside0.mk ((by rw [hg]; exact Nat.ne_of_gt (blk_lt (g := gb230) (o := .cells #[.int .i64 t223, .int .i64 t224, .int .i64 t225, .bool t226] 26 (0, 0)) (kx BK230)) : gb248 ≠ gb230)); have n11_ := Aside0.mk ((by rw [hg]; exact Nat.ne_of_lt (blk_lt (g := gb240) (o := .cells #[.int .i64 t233, .int .i64 t234, .int .i64 t235, .bool t236] 26 (0, 0)) (kx BK240)) : gb240 ≠ gb248)); have n12_ := Aside0.mk ((by rw [hg]; exact Nat.ne_of_gt (blk_lt (g := gb240) (o := .cells #[.int .i64 t233, .int .i64 t234, .int .i64 t235, .bool t236] 26 (0, 0)) (kx BK240)) : gb248 ≠ gb240)); clear BK222; clear BK230; clear BK240; clear HB; have BK222 := n0_; have BK230 := n1_; have BK240 := n2_; have HB := n3_; have BK248 := n4_; have GW248 := n5_; have GE248 := n6_; have NB222_248 := n7_; have NB248_222 := n8_; have NB230_248 := n9_; have NB248_230 := n10_; have NB240_248 := n11_; have NB248_240 := n12_; clear n0_ n1_ n2_ n3_ n4_ n5_ n6_ n7_ n8_ n9_ n10_ n11_ n12_; clear hb hbox hg; have hnb122 := NB248_222.out; have hnc122 := NB222_248.out; have hnb123 := NB248_230.out; have hnc123 := NB230_248.out; have hnb124 := NB248_240.out; have hnc124 := NB240_248.out; have hcz125_0 : w121.cell? ⟨gb248, 0, none⟩ = some (.int .i64 0) := (blk_cell BK248.out 0).trans rfl; have hcz125_1 : w121.cell? ⟨gb248, 1, none⟩ = some (.int .i64 0) := (blk_cell BK248.out 1).trans rfl; have hcz125_2 : w121.cell? ⟨gb248, 2, none⟩ = some (.int .i64 0) := (blk_cell BK248.out 2).trans rfl; have hcz125_3 : w121.cell? ⟨gb248, 3, none⟩ = some (.bool false) := (blk_cell BK248.out 3).trans rfl; have hfz125_0 := blk_frozen BK248.out 0; have hfz125_1 := blk_frozen BK248.out 1; have hfz125_2 := blk_frozen BK248.out 2; have hfz125_3 := blk_frozen BK248.out 3))
                   go_ret
                   exact ⟨by first | rfl | (rw [hszji108]) | (simp [errW_none, errW_some] <;> rfl) | (simp only [← hji108]; first | rfl | (simp [errW_none, errW_some] <;> rfl)) | (simp [*, errW_none, errW_some] <;> rfl), by repeat (first | (with_reducible first | exact HB.out | apply below_alloc | apply pw_below_drewN | apply below_drew1 | refine below_set ?_ GE222.out | refine below_set ?_ GE230.out | refine below_set ?_ GE240.out | refine below_set ?_ GE248.out) | exact HB.out)⟩
                ·
                 rw [if_neg c112] at H
                 have c112b0 : decide (((x14_26.extract 0 ((ji108) : Int).toNat).size : Int) < (t213.size : Int)) = false := decide_eq_false c112
                 have c112b1 : decide ((x14_26.extract 0 ((ji108) : Int).toNat).size < t213.size) = false := decide_eq_false (fun h => c112 (Int.ofNat_lt.mpr h))
                 have c112b2 := cutmaxT x14_26 ji108 t213.size hszji108 false c112b0
                 have c112b3 := cutmaxB x14_26 ji108 t213.size hszji108 c112b0
                 clear c112
                 by_cases c126 : t212 = true
                 ·
                  subst c126
                  have H1 : (if t247 = 0 then (if (t245.size : Int) ≤ (x15_1.size : Int) then (if 0 ≤ (t245.size : Int) then (if (x15_1.extract 0 ((t245.size : Int) : Int).toNat).toList = t245.toList then (if t243 = (t245.size : Int) then (if t244 = true then (some (((x14_26.extract 0 ((ji108) : Int).toNat).size : Int) == (x14_26.size : Int))) else (some true)) else (some false)) else (some false)) else (none)) else (some false)) else (some false)) = some r := by rw [if_pos rfl] at H; exact H
                  clear H
                  have H := H1
                  clear H1
                  by_cases c127 : t247 = 0
                  ·
                   rw [if_pos c127] at H
                   have c127b0 : (t247 == 0) = true := beq_iff_eq.mpr c127
                   have c127b1 : (t247 != 0) = false := bne_eq_false_iff_eq.mpr c127
                   clear c127
                   by_cases c128 : (t245.size : Int) ≤ (x15_1.size : Int)
                   ·
                    rw [if_pos c128] at H
                    have c128b0 : decide ((t245.size : Int) ≤ (x15_1.size : Int)) = true := decide_eq_true c128
                    have c128b1 : decide (t245.size ≤ x15_1.size) = true := decide_eq_true (Int.ofNat_le.mp c128)
                    clear c128
                    by_cases c129 : 0 ≤ (t245.size : Int)
                    ·
                     rw [if_pos c129] at H
                     have c129b0 := eq_true c129
                     have c129b1 : decide (0 ≤ (t245.size : Int)) = true := decide_eq_true c129
                     clear c129
                     have c130b0 := eq_true (of_decide_eq_true (by first | (with_reducible assumption) | assumption) : (t245.size : Int) ≤ (x15_1.size : Int))
                     by_cases c131 : (x15_1.extract 0 ((t245.size : Int) : Int).toNat).toList = t245.toList
                     ·
                      rw [if_pos c131] at H
                      have c131b0 : ((x15_1.extract 0 ((t245.size : Int) : Int).toNat).toList == t245.toList) = true := beq_iff_eq.mpr c131
                      have c131b1 : ((x15_1.extract 0 ((t245.size : Int) : Int).toNat).toList != t245.toList) = false := bne_eq_false_iff_eq.mpr c131
                      have c131b2 := c131b0
                      have c131b3 := c131b1
                      simp only [Int.toNat_natCast] at c131b2 c131b3
                      clear c131
                      by_cases c132 : t243 = (t245.size : Int)
                      ·
                       rw [if_pos c132] at H
                       have c132b0 : (t243 == (t245.size : Int)) = true := beq_iff_eq.mpr c132
                       have c132b1 : (t243 != (t245.size : Int)) = false := bne_eq_false_iff_eq.mpr c132
                       clear c132
                       by_cases c133 : t244 = true
                       ·
                        subst c133
                        have H1 : (some (((x14_26.extract 0 ((ji108) : Int).toNat).size : Int) == (x14_26.size : Int))) = some r := by rw [if_pos rfl] at H; exact H
                        clear H
                        have H := H1
                        clear H1
                        obtain rfl := Option.some.inj H
                        as_aux_lemma =>
                         go_wp2_with (first | ((with_reducible refine gate_callee (f := 9) rfl ?_); refine goesL_ (some 180) rfl rfl Try.func9 (by kernel_rfl) rfl #[.string (x14_26.extract 0 ((ji108) : Int).toNat)] rfl (by (try simp only [List.map_toArray, List.map_cons, List.map_nil]); first | done | (simp only [hji108]; rfl) | rfl | (simp only [List.length_drop, List.length_take]; rfl)) ?_; (with_reducible refine (chunk_Read.calls (x14_26.extract 0 ((ji108) : Int).toNat) t241 t242 t243 true t245 t246 t247 _ A111.out).mono ?_); rintro e w134 ⟨rfl, hb⟩; refine ⟨_, rfl, ?_⟩; have n0_ := Aside0.mk (blk_below (g := gb222) (o := .cells #[.int .i64 a0, .int .i64 a1, .int .i64 (x15_1.size : Int), .bool a3] 26 (0, 0)) (kx BK222) hb); have n1_ := Aside0.mk (blk_below (g := gb230) (o := .cells #[.int .i64 t223, .int .i64 t224, .int .i64 t225, .bool t226] 26 (0, 0)) (kx BK230) hb); have n2_ := Aside0.mk (blk_below (g := gb240) (o := .cells #[.int .i64 t233, .int .i64 t234, .int .i64 t235, .bool t236] 26 (0, 0)) (kx BK240) hb); have n3_ := Aside0.mk (below_step (by repeat (first | (with_reducible first | exact HB.out | apply below_alloc | apply pw_below_drewN | apply below_drew1 | refine below_set ?_ GE222.out | refine below_set ?_ GE230.out | refine below_set ?_ GE240.out) | exact HB.out)) hb); clear BK222; clear BK230; clear BK240; clear HB; have BK222 := n0_; have BK230 := n1_; have BK240 := n2_; have HB := n3_; clear n0_ n1_ n2_ n3_; (try clear hb); (try clear hb2); (try clear hk); (try clear hi)) | ((with_reducible refine gate_dst (N := 31) rfl ?_); (try (refine gate_guard (by rfl) ?_; dsimp only)); refine box_event ?hg (N := 31) ?hd (cs := #[.int .i64 0, .int .i64 0, .int .i64 0, .bool false]) (t := 26) ?hr ?_; (case hd => rfl); (case hg => rfl); (case hr => first | (go_simp; done) | (go_simp; rfl)); intro gb248 hg w135 hbox hb; have n0_ := Aside0.mk (blk_below (g := gb222) (o := .cells #[.int .i64 a0, .int .i64 a1, .int .i64 (x15_1.size : Int), .bool a3] 26 (0, 0)) (kx BK222) hb); have n1_ := Aside0.mk (blk_below (g := gb230) (o := .cells #[.int .i64 t223, .int .i64 t224, .int .i64 t225, .bool t226] 26 (0, 0)) (kx BK230) hb); have n2_ := Aside0.mk (blk_below (g := gb240) (o := .cells #[.int .i64 t233, .int .i64 t234, .int .i64 t235, .bool t236] 26 (0, 0)) (kx BK240) hb); have n3_ := Aside0.mk (below_step (by repeat (first | (with_reducible first | exact HB.out | apply below_alloc | apply pw_below_drewN | apply below_drew1 | refine below_set ?_ GE222.out | refine below_set ?_ GE230.out | refine below_set ?_ GE240.out) | exact HB.out)) hb); have n4_ := Aside0.mk (hbox); have n5_ := Aside0.mk ((by rw [hg]; exact (below_size (by repeat (first | (with_reducible first | exact HB.out | apply below_alloc | apply pw_below_drewN | apply below_drew1 | refine below_set ?_ GE222.out | refine below_set ?_ GE230.out | refine below_set ?_ GE240.out) | exact HB.out))) : w.heap.size ≤ gb248)); have n6_ := Aside0.mk ((by rw [hg]; exact (below_size (by repeat (first | (with_reducible first | exact HB.out | apply below_alloc | apply pw_below_drewN | apply below_drew1 | refine below_set ?_ GE222.out | refine below_set ?_ GE230.out | refine below_set ?_ GE240.out) | exact HB.out))) : w.heap.size ≤ gb248)); have n7_ := Aside0.mk ((by rw [hg]; exact Nat.ne_of_lt (blk_lt (g := gb222) (o := .cells #[.int .i64 a0, .int .i64 a1, .int .i64 (x15_1.size : Int), .bool a3] 26 (0, 0)) (kx BK222)) : gb222 ≠ gb248)); have n8_ := Aside0.mk ((by rw [hg]; exact Nat.ne_of_gt (blk_lt (g := gb222) (o := .cells #[.int .i64 a0, .int .i64 a1, .int .i64 (x15_1.size : Int), .bool a3] 26 (0, 0)) (kx BK222)) : gb248 ≠ gb222)); have n9_ := Aside0.mk ((by rw [hg]; exact Nat.ne_of_lt (blk_lt (g := gb230) (o := .cells #[.int .i64 t223, .int .i64 t224, .int .i64 t225, .bool t226] 26 (0, 0)) (kx BK230)) : gb230 ≠ gb248)); have n10_ := Aside0.mk ((by rw [hg]; exact Nat.ne_of_gt (blk_lt (g := gb230) (o := .cells #[.int .i64 t223, .int .i64 t224, .int .i64 t225, .bool t226] 26 (0, 0)) (kx BK230)) : gb248 ≠ gb230)); have n11_ := Aside0.mk ((by rw [hg]; exact Nat.ne_of_lt (blk_lt (g := gb240) (o := .cells #[.int .i64 t233, .int .i64 t234, .int .i64 t235, .bool t236] 26 (0, 0)) (kx BK240)) : gb240 ≠ gb248)); have n12_ := Aside0.mk ((by rw [hg]; exact Nat.ne_of_gt (blk_lt (g := gb240) (o := .cells #[.int .i64 t233, .int .i64 t234, .int .i64 t235, .bool t236] 26 (0, 0)) (kx BK240)) : gb248 ≠ gb240)); clear BK222; clear BK230; clear BK240; clear HB; have BK222 := n0_; have BK230 := n1_; have BK240 := n2_; have HB := n3_; have BK248 := n4_; have GW248 := n5_; have GE248 := n6_; have NB222_248 := n7_; have NB248_222 := n8_; have NB230_248 := n9_; have NB248_230 := n10_; have NB240_248 := n11_; have NB248_240 := n12_; clear n0_ n1_ n2_ n3_ n4_ n5_ n6_ n7_ n8_ n9_ n10_ n11_ n12_; clear hb hbox hg; have hnb136 := NB248_222.out; have hnc136 := NB222_248.out; have hnb137 := NB248_230.out; have hnc137 := NB230_248.out; have hnb138 := NB248_240.out; have hnc138 := NB240_248.out; have hcz139_0 : w135.cell? ⟨gb248, 0, none⟩ = some (.int .i64 0) := (blk_cell BK248.out 0).trans rfl; have hcz139_1 : w135.cell? ⟨gb248, 1, none⟩ = some (.int .i64 0) := (blk_cell BK248.out 1).trans rfl; have hcz139_2 : w135.cell? ⟨gb248, 2, none⟩ = some (.int .i64 0) := (blk_cell BK248.out 2).trans rfl; have hcz139_3 : w135.cell? ⟨gb248, 3, none⟩ = some (.bool false) := (blk_cell BK248.out 3).trans rfl; have hfz139_0 := blk_frozen BK248.out 0; have hfz139_1 := blk_frozen BK248.out 1; have hfz139_2 := blk_frozen BK248.out 2; have hfz139_3 := blk_frozen BK248.out 3))
                         go_ret
                         exact ⟨by first | rfl | (rw [hszji108]) | (simp [errW_none, errW_some] <;> rfl) | (simp only [← hji108]; first | rfl | (simp [errW_none, errW_some] <;> rfl)) | (simp [*, errW_none, errW_some] <;> rfl), by repeat (first | (with_reducible first | exact HB.out | apply below_alloc | apply pw_below_drewN | apply below_drew1 | refine below_set ?_ GE222.out | refine below_set ?_ GE230.out | refine below_set ?_ GE240.out | refine below_set ?_ GE248.out) | exact HB.out)⟩
                       ·
                        replace c133 := Bool.eq_false_iff.mpr c133
                        subst c133
                        have H1 : (some true) = some r := by rw [if_neg (show ¬ (false = true) by decide)] at H; exact H
                        clear H
                        have H := H1
                        clear H1
                        obtain rfl := Option.some.inj H
                        as_aux_lemma =>
                         go_wp2_with (first | ((with_reducible refine gate_callee (f := 9) rfl ?_); refine goesL_ (some 180) rfl rfl Try.func9 (by kernel_rfl) rfl #[.string (x14_26.extract 0 ((ji108) : Int).toNat)] rfl (by (try simp only [List.map_toArray, List.map_cons, List.map_nil]); first | done | (simp only [hji108]; rfl) | rfl | (simp only [List.length_drop, List.length_take]; rfl)) ?_; (with_reducible refine (chunk_Read.calls (x14_26.extract 0 ((ji108) : Int).toNat) t241 t242 t243 false t245 t246 t247 _ A111.out).mono ?_); rintro e w140 ⟨rfl, hb⟩; refine ⟨_, rfl, ?_⟩; have n0_ := Aside0.mk (blk_below (g := gb222) (o := .cells #[.int .i64 a0, .int .i64 a1, .int .i64 (x15_1.size : Int), .bool a3] 26 (0, 0)) (kx BK222) hb); have n1_ := Aside0.mk (blk_below (g := gb230) (o := .cells #[.int .i64 t223, .int .i64 t224, .int .i64 t225, .bool t226] 26 (0, 0)) (kx BK230) hb); have n2_ := Aside0.mk (blk_below (g := gb240) (o := .cells #[.int .i64 t233, .int .i64 t234, .int .i64 t235, .bool t236] 26 (0, 0)) (kx BK240) hb); have n3_ := Aside0.mk (below_step (by repeat (first | (with_reducible first | exact HB.out | apply below_alloc | apply pw_below_drewN | apply below_drew1 | refine below_set ?_ GE222.out | refine below_set ?_ GE230.out | refine below_set ?_ GE240.out) | exact HB.out)) hb); clear BK222; clear BK230; clear BK240; clear HB; have BK222 := n0_; have BK230 := n1_; have BK240 := n2_; have HB := n3_; clear n0_ n1_ n2_ n3_; (try clear hb); (try clear hb2); (try clear hk); (try clear hi)) | ((with_reducible refine gate_dst (N := 31) rfl ?_); (try (refine gate_guard (by rfl) ?_; dsimp only)); refine box_event ?hg (N := 31) ?hd (cs := #[.int .i64 0, .int .i64 0, .int .i64 0, .bool false]) (t := 26) ?hr ?_; (case hd => rfl); (case hg => rfl); (case hr => first | (go_simp; done) | (go_simp; rfl)); intro gb248 hg w141 hbox hb; have n0_ := Aside0.mk (blk_below (g := gb222) (o := .cells #[.int .i64 a0, .int .i64 a1, .int .i64 (x15_1.size : Int), .bool a3] 26 (0, 0)) (kx BK222) hb); have n1_ := Aside0.mk (blk_below (g := gb230) (o := .cells #[.int .i64 t223, .int .i64 t224, .int .i64 t225, .bool t226] 26 (0, 0)) (kx BK230) hb); have n2_ := Aside0.mk (blk_below (g := gb240) (o := .cells #[.int .i64 t233, .int .i64 t234, .int .i64 t235, .bool t236] 26 (0, 0)) (kx BK240) hb); have n3_ := Aside0.mk (below_step (by repeat (first | (with_reducible first | exact HB.out | apply below_alloc | apply pw_below_drewN | apply below_drew1 | refine below_set ?_ GE222.out | refine below_set ?_ GE230.out | refine below_set ?_ GE240.out) | exact HB.out)) hb); have n4_ := Aside0.mk (hbox); have n5_ := Aside0.mk ((by rw [hg]; exact (below_size (by repeat (first | (with_reducible first | exact HB.out | apply below_alloc | apply pw_below_drewN | apply below_drew1 | refine below_set ?_ GE222.out | refine below_set ?_ GE230.out | refine below_set ?_ GE240.out) | exact HB.out))) : w.heap.size ≤ gb248)); have n6_ := Aside0.mk ((by rw [hg]; exact (below_size (by repeat (first | (with_reducible first | exact HB.out | apply below_alloc | apply pw_below_drewN | apply below_drew1 | refine below_set ?_ GE222.out | refine below_set ?_ GE230.out | refine below_set ?_ GE240.out) | exact HB.out))) : w.heap.size ≤ gb248)); have n7_ := Aside0.mk ((by rw [hg]; exact Nat.ne_of_lt (blk_lt (g := gb222) (o := .cells #[.int .i64 a0, .int .i64 a1, .int .i64 (x15_1.size : Int), .bool a3] 26 (0, 0)) (kx BK222)) : gb222 ≠ gb248)); have n8_ := Aside0.mk ((by rw [hg]; exact Nat.ne_of_gt (blk_lt (g := gb222) (o := .cells #[.int .i64 a0, .int .i64 a1, .int .i64 (x15_1.size : Int), .bool a3] 26 (0, 0)) (kx BK222)) : gb248 ≠ gb222)); have n9_ := Aside0.mk ((by rw [hg]; exact Nat.ne_of_lt (blk_lt (g := gb230) (o := .cells #[.int .i64 t223, .int .i64 t224, .int .i64 t225, .bool t226] 26 (0, 0)) (kx BK230)) : gb230 ≠ gb248)); have n10_ := Aside0.mk ((by rw [hg]; exact Nat.ne_of_gt (blk_lt (g := gb230) (o := .cells #[.int .i64 t223, .int .i64 t224, .int .i64 t225, .bool t226] 26 (0, 0)) (kx BK230)) : gb248 ≠ gb230)); have n11_ := Aside0.mk ((by rw [hg]; exact Nat.ne_of_lt (blk_lt (g := gb240) (o := .cells #[.int .i64 t233, .int .i64 t234, .int .i64 t235, .bool t236] 26 (0, 0)) (kx BK240)) : gb240 ≠ gb248)); have n12_ := Aside0.mk ((by rw [hg]; exact Nat.ne_of_gt (blk_lt (g := gb240) (o := .cells #[.int .i64 t233, .int .i64 t234, .int .i64 t235, .bool t236] 26 (0, 0)) (kx BK240)) : gb248 ≠ gb240)); clear BK222; clear BK230; clear BK240; clear HB; have BK222 := n0_; have BK230 := n1_; have BK240 := n2_; have HB := n3_; have BK248 := n4_; have GW248 := n5_; have GE248 := n6_; have NB222_248 := n7_; have NB248_222 := n8_; have NB230_248 := n9_; have NB248_230 := n10_; have NB240_248 := n11_; have NB248_240 := n12_; clear n0_ n1_ n2_ n3_ n4_ n5_ n6_ n7_ n8_ n9_ n10_ n11_ n12_; clear hb hbox hg; have hnb142 := NB248_222.out; have hnc142 := NB222_248.out; have hnb143 := NB248_230.out; have hnc143 := NB230_248.out; have hnb144 := NB248_240.out; have hnc144 := NB240_248.out; have hcz145_0 : w141.cell? ⟨gb248, 0, none⟩ = some (.int .i64 0) := (blk_cell BK248.out 0).trans rfl; have hcz145_1 : w141.cell? ⟨gb248, 1, none⟩ = some (.int .i64 0) := (blk_cell BK248.out 1).trans rfl; have hcz145_2 : w141.cell? ⟨gb248, 2, none⟩ = some (.int .i64 0) := (blk_cell BK248.out 2).trans rfl; have hcz145_3 : w141.cell? ⟨gb248, 3, none⟩ = some (.bool false) := (blk_cell BK248.out 3).trans rfl; have hfz145_0 := blk_frozen BK248.out 0; have hfz145_1 := blk_frozen BK248.out 1; have hfz145_2 := blk_frozen BK248.out 2; have hfz145_3 := blk_frozen BK248.out 3))
                         go_ret
                         exact ⟨by first | rfl | (rw [hszji108]) | (simp [errW_none, errW_some] <;> rfl) | (simp only [← hji108]; first | rfl | (simp [errW_none, errW_some] <;> rfl)) | (simp [*, errW_none, errW_some] <;> rfl), by repeat (first | (with_reducible first | exact HB.out | apply below_alloc | apply pw_below_drewN | apply below_drew1 | refine below_set ?_ GE222.out | refine below_set ?_ GE230.out | refine below_set ?_ GE240.out | refine below_set ?_ GE248.out) | exact HB.out)⟩
                      ·
                       rw [if_neg c132] at H
                       have c132b0 : (t243 == (t245.size : Int)) = false := beq_eq_false_iff_ne.mpr c132
                       have c132b1 : (t243 != (t245.size : Int)) = true := bne_iff_ne.mpr c132
                       obtain rfl := Option.some.inj H
                       as_aux_lemma =>
                        go_wp2_with (first | ((with_reducible refine gate_callee (f := 9) rfl ?_); refine goesL_ (some 180) rfl rfl Try.func9 (by kernel_rfl) rfl #[.string (x14_26.extract 0 ((ji108) : Int).toNat)] rfl (by (try simp only [List.map_toArray, List.map_cons, List.map_nil]); first | done | (simp only [hji108]; rfl) | rfl | (simp only [List.length_drop, List.length_take]; rfl)) ?_; (with_reducible refine (chunk_Read.calls (x14_26.extract 0 ((ji108) : Int).toNat) t241 t242 t243 t244 t245 t246 t247 _ A111.out).mono ?_); rintro e w146 ⟨rfl, hb⟩; refine ⟨_, rfl, ?_⟩; have n0_ := Aside0.mk (blk_below (g := gb222) (o := .cells #[.int .i64 a0, .int .i64 a1, .int .i64 (x15_1.size : Int), .bool a3] 26 (0, 0)) (kx BK222) hb); have n1_ := Aside0.mk (blk_below (g := gb230) (o := .cells #[.int .i64 t223, .int .i64 t224, .int .i64 t225, .bool t226] 26 (0, 0)) (kx BK230) hb); have n2_ := Aside0.mk (blk_below (g := gb240) (o := .cells #[.int .i64 t233, .int .i64 t234, .int .i64 t235, .bool t236] 26 (0, 0)) (kx BK240) hb); have n3_ := Aside0.mk (below_step (by repeat (first | (with_reducible first | exact HB.out | apply below_alloc | apply pw_below_drewN | apply below_drew1 | refine below_set ?_ GE222.out | refine below_set ?_ GE230.out | refine below_set ?_ GE240.out) | exact HB.out)) hb); clear BK222; clear BK230; clear BK240; clear HB; have BK222 := n0_; have BK230 := n1_; have BK240 := n2_; have HB := n3_; clear n0_ n1_ n2_ n3_; (try clear hb); (try clear hb2); (try clear hk); (try clear hi)) | ((with_reducible refine gate_dst (N := 31) rfl ?_); (try (refine gate_guard (by rfl) ?_; dsimp only)); refine box_event ?hg (N := 31) ?hd (cs := #[.int .i64 0, .int .i64 0, .int .i64 0, .bool false]) (t := 26) ?hr ?_; (case hd => rfl); (case hg => rfl); (case hr => first | (go_simp; done) | (go_simp; rfl)); intro gb248 hg w147 hbox hb; have n0_ := Aside0.mk (blk_below (g := gb222) (o := .cells #[.int .i64 a0, .int .i64 a1, .int .i64 (x15_1.size : Int), .bool a3] 26 (0, 0)) (kx BK222) hb); have n1_ := Aside0.mk (blk_below (g := gb230) (o := .cells #[.int .i64 t223, .int .i64 t224, .int .i64 t225, .bool t226] 26 (0, 0)) (kx BK230) hb); have n2_ := Aside0.mk (blk_below (g := gb240) (o := .cells #[.int .i64 t233, .int .i64 t234, .int .i64 t235, .bool t236] 26 (0, 0)) (kx BK240) hb); have n3_ := Aside0.mk (below_step (by repeat (first | (with_reducible first | exact HB.out | apply below_alloc | apply pw_below_drewN | apply below_drew1 | refine below_set ?_ GE222.out | refine below_set ?_ GE230.out | refine below_set ?_ GE240.out) | exact HB.out)) hb); have n4_ := Aside0.mk (hbox); have n5_ := Aside0.mk ((by rw [hg]; exact (below_size (by repeat (first | (with_reducible first | exact HB.out | apply below_alloc | apply pw_below_drewN | apply below_drew1 | refine below_set ?_ GE222.out | refine below_set ?_ GE230.out | refine below_set ?_ GE240.out) | exact HB.out))) : w.heap.size ≤ gb248)); have n6_ := Aside0.mk ((by rw [hg]; exact (below_size (by repeat (first | (with_reducible first | exact HB.out | apply below_alloc | apply pw_below_drewN | apply below_drew1 | refine below_set ?_ GE222.out | refine below_set ?_ GE230.out | refine below_set ?_ GE240.out) | exact HB.out))) : w.heap.size ≤ gb248)); have n7_ := Aside0.mk ((by rw [hg]; exact Nat.ne_of_lt (blk_lt (g := gb222) (o := .cells #[.int .i64 a0, .int .i64 a1, .int .i64 (x15_1.size : Int), .bool a3] 26 (0, 0)) (kx BK222)) : gb222 ≠ gb248)); have n8_ := Aside0.mk ((by rw [hg]; exact Nat.ne_of_gt (blk_lt (g := gb222) (o := .cells #[.int .i64 a0, .int .i64 a1, .int .i64 (x15_1.size : Int), .bool a3] 26 (0, 0)) (kx BK222)) : gb248 ≠ gb222)); have n9_ := Aside0.mk ((by rw [hg]; exact Nat.ne_of_lt (blk_lt (g := gb230) (o := .cells #[.int .i64 t223, .int .i64 t224, .int .i64 t225, .bool t226] 26 (0, 0)) (kx BK230)) : gb230 ≠ gb248)); have n10_ := Aside0.mk ((by rw [hg]; exact Nat.ne_of_gt (blk_lt (g := gb230) (o := .cells #[.int .i64 t223, .int .i64 t224, .int .i64 t225, .bool t226] 26 (0, 0)) (kx BK230)) : gb248 ≠ gb230)); have n11_ := Aside0.mk ((by rw [hg]; exact Nat.ne_of_lt (blk_lt (g := gb240) (o := .cells #[.int .i64 t233, .int .i64 t234, .int .i64 t235, .bool t236] 26 (0, 0)) (kx BK240)) : gb240 ≠ gb248)); have n12_ := Aside0.mk ((by rw [hg]; exact Nat.ne_of_gt (blk_lt (g := gb240) (o := .cells #[.int .i64 t233, .int .i64 t234, .int .i64 t235, .bool t236] 26 (0, 0)) (kx BK240)) : gb248 ≠ gb240)); clear BK222; clear BK230; clear BK240; clear HB; have BK222 := n0_; have BK230 := n1_; have BK240 := n2_; have HB := n3_; have BK248 := n4_; have GW248 := n5_; have GE248 := n6_; have NB222_248 := n7_; have NB248_222 := n8_; have NB230_248 := n9_; have NB248_230 := n10_; have NB240_248 := n11_; have NB248_240 := n12_; clear n0_ n1_ n2_ n3_ n4_ n5_ n6_ n7_ n8_ n9_ n10_ n11_ n12_; clear hb hbox hg; have hnb148 := NB248_222.out; have hnc148 := NB222_248.out; have hnb149 := NB248_230.out; have hnc149 := NB230_248.out; have hnb150 := NB248_240.out; have hnc150 := NB240_248.out; have hcz151_0 : w147.cell? ⟨gb248, 0, none⟩ = some (.int .i64 0) := (blk_cell BK248.out 0).trans rfl; have hcz151_1 : w147.cell? ⟨gb248, 1, none⟩ = some (.int .i64 0) := (blk_cell BK248.out 1).trans rfl; have hcz151_2 : w147.cell? ⟨gb248, 2, none⟩ = some (.int .i64 0) := (blk_cell BK248.out 2).trans rfl; have hcz151_3 : w147.cell? ⟨gb248, 3, none⟩ = some (.bool false) := (blk_cell BK248.out 3).trans rfl; have hfz151_0 := blk_frozen BK248.out 0; have hfz151_1 := blk_frozen BK248.out 1; have hfz151_2 := blk_frozen BK248.out 2; have hfz151_3 := blk_frozen BK248.out 3))
                        go_ret
                        exact ⟨by first | rfl | (rw [hszji108]) | (simp [errW_none, errW_some] <;> rfl) | (simp only [← hji108]; first | rfl | (simp [errW_none, errW_some] <;> rfl)) | (simp [*, errW_none, errW_some] <;> rfl), by repeat (first | (with_reducible first | exact HB.out | apply below_alloc | apply pw_below_drewN | apply below_drew1 | refine below_set ?_ GE222.out | refine below_set ?_ GE230.out | refine below_set ?_ GE240.out | refine below_set ?_ GE248.out) | exact HB.out)⟩
                     ·
                      rw [if_neg c131] at H
                      have c131b0 : ((x15_1.extract 0 ((t245.size : Int) : Int).toNat).toList == t245.toList) = false := beq_eq_false_iff_ne.mpr c131
                      have c131b1 : ((x15_1.extract 0 ((t245.size : Int) : Int).toNat).toList != t245.toList) = true := bne_iff_ne.mpr c131
                      have c131b2 := c131b0
                      have c131b3 := c131b1
                      simp only [Int.toNat_natCast] at c131b2 c131b3
                      obtain rfl := Option.some.inj H
                      as_aux_lemma =>
                       go_wp2_with (first | ((with_reducible refine gate_callee (f := 9) rfl ?_); refine goesL_ (some 180) rfl rfl Try.func9 (by kernel_rfl) rfl #[.string (x14_26.extract 0 ((ji108) : Int).toNat)] rfl (by (try simp only [List.map_toArray, List.map_cons, List.map_nil]); first | done | (simp only [hji108]; rfl) | rfl | (simp only [List.length_drop, List.length_take]; rfl)) ?_; (with_reducible refine (chunk_Read.calls (x14_26.extract 0 ((ji108) : Int).toNat) t241 t242 t243 t244 t245 t246 t247 _ A111.out).mono ?_); rintro e w152 ⟨rfl, hb⟩; refine ⟨_, rfl, ?_⟩; have n0_ := Aside0.mk (blk_below (g := gb222) (o := .cells #[.int .i64 a0, .int .i64 a1, .int .i64 (x15_1.size : Int), .bool a3] 26 (0, 0)) (kx BK222) hb); have n1_ := Aside0.mk (blk_below (g := gb230) (o := .cells #[.int .i64 t223, .int .i64 t224, .int .i64 t225, .bool t226] 26 (0, 0)) (kx BK230) hb); have n2_ := Aside0.mk (blk_below (g := gb240) (o := .cells #[.int .i64 t233, .int .i64 t234, .int .i64 t235, .bool t236] 26 (0, 0)) (kx BK240) hb); have n3_ := Aside0.mk (below_step (by repeat (first | (with_reducible first | exact HB.out | apply below_alloc | apply pw_below_drewN | apply below_drew1 | refine below_set ?_ GE222.out | refine below_set ?_ GE230.out | refine below_set ?_ GE240.out) | exact HB.out)) hb); clear BK222; clear BK230; clear BK240; clear HB; have BK222 := n0_; have BK230 := n1_; have BK240 := n2_; have HB := n3_; clear n0_ n1_ n2_ n3_; (try clear hb); (try clear hb2); (try clear hk); (try clear hi)) | ((with_reducible refine gate_dst (N := 31) rfl ?_); (try (refine gate_guard (by rfl) ?_; dsimp only)); refine box_event ?hg (N := 31) ?hd (cs := #[.int .i64 0, .int .i64 0, .int .i64 0, .bool false]) (t := 26) ?hr ?_; (case hd => rfl); (case hg => rfl); (case hr => first | (go_simp; done) | (go_simp; rfl)); intro gb248 hg w153 hbox hb; have n0_ := Aside0.mk (blk_below (g := gb222) (o := .cells #[.int .i64 a0, .int .i64 a1, .int .i64 (x15_1.size : Int), .bool a3] 26 (0, 0)) (kx BK222) hb); have n1_ := Aside0.mk (blk_below (g := gb230) (o := .cells #[.int .i64 t223, .int .i64 t224, .int .i64 t225, .bool t226] 26 (0, 0)) (kx BK230) hb); have n2_ := Aside0.mk (blk_below (g := gb240) (o := .cells #[.int .i64 t233, .int .i64 t234, .int .i64 t235, .bool t236] 26 (0, 0)) (kx BK240) hb); have n3_ := Aside0.mk (below_step (by repeat (first | (with_reducible first | exact HB.out | apply below_alloc | apply pw_below_drewN | apply below_drew1 | refine below_set ?_ GE222.out | refine below_set ?_ GE230.out | refine below_set ?_ GE240.out) | exact HB.out)) hb); have n4_ := Aside0.mk (hbox); have n5_ := Aside0.mk ((by rw [hg]; exact (below_size (by repeat (first | (with_reducible first | exact HB.out | apply below_alloc | apply pw_below_drewN | apply below_drew1 | refine below_set ?_ GE222.out | refine below_set ?_ GE230.out | refine below_set ?_ GE240.out) | exact HB.out))) : w.heap.size ≤ gb248)); have n6_ := Aside0.mk ((by rw [hg]; exact (below_size (by repeat (first | (with_reducible first | exact HB.out | apply below_alloc | apply pw_below_drewN | apply below_drew1 | refine below_set ?_ GE222.out | refine below_set ?_ GE230.out | refine below_set ?_ GE240.out) | exact HB.out))) : w.heap.size ≤ gb248)); have n7_ := Aside0.mk ((by rw [hg]; exact Nat.ne_of_lt (blk_lt (g := gb222) (o := .cells #[.int .i64 a0, .int .i64 a1, .int .i64 (x15_1.size : Int), .bool a3] 26 (0, 0)) (kx BK222)) : gb222 ≠ gb248)); have n8_ := Aside0.mk ((by rw [hg]; exact Nat.ne_of_gt (blk_lt (g := gb222) (o := .cells #[.int .i64 a0, .int .i64 a1, .int .i64 (x15_1.size : Int), .bool a3] 26 (0, 0)) (kx BK222)) : gb248 ≠ gb222)); have n9_ := Aside0.mk ((by rw [hg]; exact Nat.ne_of_lt (blk_lt (g := gb230) (o := .cells #[.int .i64 t223, .int .i64 t224, .int .i64 t225, .bool t226] 26 (0, 0)) (kx BK230)) : gb230 ≠ gb248)); have n10_ := Aside0.mk ((by rw [hg]; exact Nat.ne_of_gt (blk_lt (g := gb230) (o := .cells #[.int .i64 t223, .int .i64 t224, .int .i64 t225, .bool t226] 26 (0, 0)) (kx BK230)) : gb248 ≠ gb230)); have n11_ := Aside0.mk ((by rw [hg]; exact Nat.ne_of_lt (blk_lt (g := gb240) (o := .cells #[.int .i64 t233, .int .i64 t234, .int .i64 t235, .bool t236] 26 (0, 0)) (kx BK240)) : gb240 ≠ gb248)); have n12_ := Aside0.mk ((by rw [hg]; exact Nat.ne_of_gt (blk_lt (g := gb240) (o := .cells #[.int .i64 t233, .int .i64 t234, .int .i64 t235, .bool t236] 26 (0, 0)) (kx BK240)) : gb248 ≠ gb240)); clear BK222; clear BK230; clear BK240; clear HB; have BK222 := n0_; have BK230 := n1_; have BK240 := n2_; have HB := n3_; have BK248 := n4_; have GW248 := n5_; have GE248 := n6_; have NB222_248 := n7_; have NB248_222 := n8_; have NB230_248 := n9_; have NB248_230 := n10_; have NB240_248 := n11_; have NB248_240 := n12_; clear n0_ n1_ n2_ n3_ n4_ n5_ n6_ n7_ n8_ n9_ n10_ n11_ n12_; clear hb hbox hg; have hnb154 := NB248_222.out; have hnc154 := NB222_248.out; have hnb155 := NB248_230.out; have hnc155 := NB230_248.out; have hnb156 := NB248_240.out; have hnc156 := NB240_248.out; have hcz157_0 : w153.cell? ⟨gb248, 0, none⟩ = some (.int .i64 0) := (blk_cell BK248.out 0).trans rfl; have hcz157_1 : w153.cell? ⟨gb248, 1, none⟩ = some (.int .i64 0) := (blk_cell BK248.out 1).trans rfl; have hcz157_2 : w153.cell? ⟨gb248, 2, none⟩ = some (.int .i64 0) := (blk_cell BK248.out 2).trans rfl; have hcz157_3 : w153.cell? ⟨gb248, 3, none⟩ = some (.bool false) := (blk_cell BK248.out 3).trans rfl; have hfz157_0 := blk_frozen BK248.out 0; have hfz157_1 := blk_frozen BK248.out 1; have hfz157_2 := blk_frozen BK248.out 2; have hfz157_3 := blk_frozen BK248.out 3))
                       go_ret
                       exact ⟨by first | rfl | (rw [hszji108]) | (simp [errW_none, errW_some] <;> rfl) | (simp only [← hji108]; first | rfl | (simp [errW_none, errW_some] <;> rfl)) | (simp [*, errW_none, errW_some] <;> rfl), by repeat (first | (with_reducible first | exact HB.out | apply below_alloc | apply pw_below_drewN | apply below_drew1 | refine below_set ?_ GE222.out | refine below_set ?_ GE230.out | refine below_set ?_ GE240.out | refine below_set ?_ GE248.out) | exact HB.out)⟩
                    ·
                     rw [if_neg c129] at H
                     exact absurd H (by simp)
                   ·
                    rw [if_neg c128] at H
                    have c128b0 : decide ((t245.size : Int) ≤ (x15_1.size : Int)) = false := decide_eq_false c128
                    have c128b1 : decide (t245.size ≤ x15_1.size) = false := decide_eq_false (fun h => c128 (Int.ofNat_le.mpr h))
                    clear c128
                    obtain rfl := Option.some.inj H
                    as_aux_lemma =>
                     go_wp2_with (first | ((with_reducible refine gate_callee (f := 9) rfl ?_); refine goesL_ (some 180) rfl rfl Try.func9 (by kernel_rfl) rfl #[.string (x14_26.extract 0 ((ji108) : Int).toNat)] rfl (by (try simp only [List.map_toArray, List.map_cons, List.map_nil]); first | done | (simp only [hji108]; rfl) | rfl | (simp only [List.length_drop, List.length_take]; rfl)) ?_; (with_reducible refine (chunk_Read.calls (x14_26.extract 0 ((ji108) : Int).toNat) t241 t242 t243 t244 t245 t246 t247 _ A111.out).mono ?_); rintro e w158 ⟨rfl, hb⟩; refine ⟨_, rfl, ?_⟩; have n0_ := Aside0.mk (blk_below (g := gb222) (o := .cells #[.int .i64 a0, .int .i64 a1, .int .i64 (x15_1.size : Int), .bool a3] 26 (0, 0)) (kx BK222) hb); have n1_ := Aside0.mk (blk_below (g := gb230) (o := .cells #[.int .i64 t223, .int .i64 t224, .int .i64 t225, .bool t226] 26 (0, 0)) (kx BK230) hb); have n2_ := Aside0.mk (blk_below (g := gb240) (o := .cells #[.int .i64 t233, .int .i64 t234, .int .i64 t235, .bool t236] 26 (0, 0)) (kx BK240) hb); have n3_ := Aside0.mk (below_step (by repeat (first | (with_reducible first | exact HB.out | apply below_alloc | apply pw_below_drewN | apply below_drew1 | refine below_set ?_ GE222.out | refine below_set ?_ GE230.out | refine below_set ?_ GE240.out) | exact HB.out)) hb); clear BK222; clear BK230; clear BK240; clear HB; have BK222 := n0_; have BK230 := n1_; have BK240 := n2_; have HB := n3_; clear n0_ n1_ n2_ n3_; (try clear hb); (try clear hb2); (try clear hk); (try clear hi)) | ((with_reducible refine gate_dst (N := 31) rfl ?_); (try (refine gate_guard (by rfl) ?_; dsimp only)); refine box_event ?hg (N := 31) ?hd (cs := #[.int .i64 0, .int .i64 0, .int .i64 0, .bool false]) (t := 26) ?hr ?_; (case hd => rfl); (case hg => rfl); (case hr => first | (go_simp; done) | (go_simp; rfl)); intro gb248 hg w159 hbox hb; have n0_ := Aside0.mk (blk_below (g := gb222) (o := .cells #[.int .i64 a0, .int .i64 a1, .int .i64 (x15_1.size : Int), .bool a3] 26 (0, 0)) (kx BK222) hb); have n1_ := Aside0.mk (blk_below (g := gb230) (o := .cells #[.int .i64 t223, .int .i64 t224, .int .i64 t225, .bool t226] 26 (0, 0)) (kx BK230) hb); have n2_ := Aside0.mk (blk_below (g := gb240) (o := .cells #[.int .i64 t233, .int .i64 t234, .int .i64 t235, .bool t236] 26 (0, 0)) (kx BK240) hb); have n3_ := Aside0.mk (below_step (by repeat (first | (with_reducible first | exact HB.out | apply below_alloc | apply pw_below_drewN | apply below_drew1 | refine below_set ?_ GE222.out | refine below_set ?_ GE230.out | refine below_set ?_ GE240.out) | exact HB.out)) hb); have n4_ := Aside0.mk (hbox); have n5_ := Aside0.mk ((by rw [hg]; exact (below_size (by repeat (first | (with_reducible first | exact HB.out | apply below_alloc | apply pw_below_drewN | apply below_drew1 | refine below_set ?_ GE222.out | refine below_set ?_ GE230.out | refine below_set ?_ GE240.out) | exact HB.out))) : w.heap.size ≤ gb248)); have n6_ := Aside0.mk ((by rw [hg]; exact (below_size (by repeat (first | (with_reducible first | exact HB.out | apply below_alloc | apply pw_below_drewN | apply below_drew1 | refine below_set ?_ GE222.out | refine below_set ?_ GE230.out | refine below_set ?_ GE240.out) | exact HB.out))) : w.heap.size ≤ gb248)); have n7_ := Aside0.mk ((by rw [hg]; exact Nat.ne_of_lt (blk_lt (g := gb222) (o := .cells #[.int .i64 a0, .int .i64 a1, .int .i64 (x15_1.size : Int), .bool a3] 26 (0, 0)) (kx BK222)) : gb222 ≠ gb248)); have n8_ := Aside0.mk ((by rw [hg]; exact Nat.ne_of_gt (blk_lt (g := gb222) (o := .cells #[.int .i64 a0, .int .i64 a1, .int .i64 (x15_1.size : Int), .bool a3] 26 (0, 0)) (kx BK222)) : gb248 ≠ gb222)); have n9_ := Aside0.mk ((by rw [hg]; exact Nat.ne_of_lt (blk_lt (g := gb230) (o := .cells #[.int .i64 t223, .int .i64 t224, .int .i64 t225, .bool t226] 26 (0, 0)) (kx BK230)) : gb230 ≠ gb248)); have n10_ := Aside0.mk ((by rw [hg]; exact Nat.ne_of_gt (blk_lt (g := gb230) (o := .cells #[.int .i64 t223, .int .i64 t224, .int .i64 t225, .bool t226] 26 (0, 0)) (kx BK230)) : gb248 ≠ gb230)); have n11_ := Aside0.mk ((by rw [hg]; exact Nat.ne_of_lt (blk_lt (g := gb240) (o := .cells #[.int .i64 t233, .int .i64 t234, .int .i64 t235, .bool t236] 26 (0, 0)) (kx BK240)) : gb240 ≠ gb248)); have n12_ := Aside0.mk ((by rw [hg]; exact Nat.ne_of_gt (blk_lt (g := gb240) (o := .cells #[.int .i64 t233, .int .i64 t234, .int .i64 t235, .bool t236] 26 (0, 0)) (kx BK240)) : gb248 ≠ gb240)); clear BK222; clear BK230; clear BK240; clear HB; have BK222 := n0_; have BK230 := n1_; have BK240 := n2_; have HB := n3_; have BK248 := n4_; have GW248 := n5_; have GE248 := n6_; have NB222_248 := n7_; have NB248_222 := n8_; have NB230_248 := n9_; have NB248_230 := n10_; have NB240_248 := n11_; have NB248_240 := n12_; clear n0_ n1_ n2_ n3_ n4_ n5_ n6_ n7_ n8_ n9_ n10_ n11_ n12_; clear hb hbox hg; have hnb160 := NB248_222.out; have hnc160 := NB222_248.out; have hnb161 := NB248_230.out; have hnc161 := NB230_248.out; have hnb162 := NB248_240.out; have hnc162 := NB240_248.out; have hcz163_0 : w159.cell? ⟨gb248, 0, none⟩ = some (.int .i64 0) := (blk_cell BK248.out 0).trans rfl; have hcz163_1 : w159.cell? ⟨gb248, 1, none⟩ = some (.int .i64 0) := (blk_cell BK248.out 1).trans rfl; have hcz163_2 : w159.cell? ⟨gb248, 2, none⟩ = some (.int .i64 0) := (blk_cell BK248.out 2).trans rfl; have hcz163_3 : w159.cell? ⟨gb248, 3, none⟩ = some (.bool false) := (blk_cell BK248.out 3).trans rfl; have hfz163_0 := blk_frozen BK248.out 0; have hfz163_1 := blk_frozen BK248.out 1; have hfz163_2 := blk_frozen BK248.out 2; have hfz163_3 := blk_frozen BK248.out 3))
                     go_ret
                     exact ⟨by first | rfl | (rw [hszji108]) | (simp [errW_none, errW_some] <;> rfl) | (simp only [← hji108]; first | rfl | (simp [errW_none, errW_some] <;> rfl)) | (simp [*, errW_none, errW_some] <;> rfl), by repeat (first | (with_reducible first | exact HB.out | apply below_alloc | apply pw_below_drewN | apply below_drew1 | refine below_set ?_ GE222.out | refine below_set ?_ GE230.out | refine below_set ?_ GE240.out | refine below_set ?_ GE248.out) | exact HB.out)⟩
                  ·
                   rw [if_neg c127] at H
                   have c127b0 : (t247 == 0) = false := beq_eq_false_iff_ne.mpr c127
                   have c127b1 : (t247 != 0) = true := bne_iff_ne.mpr c127
                   obtain rfl := Option.some.inj H
                   as_aux_lemma =>
                    go_wp2_with (first | ((with_reducible refine gate_callee (f := 9) rfl ?_); refine goesL_ (some 180) rfl rfl Try.func9 (by kernel_rfl) rfl #[.string (x14_26.extract 0 ((ji108) : Int).toNat)] rfl (by (try simp only [List.map_toArray, List.map_cons, List.map_nil]); first | done | (simp only [hji108]; rfl) | rfl | (simp only [List.length_drop, List.length_take]; rfl)) ?_; (with_reducible refine (chunk_Read.calls (x14_26.extract 0 ((ji108) : Int).toNat) t241 t242 t243 t244 t245 t246 t247 _ A111.out).mono ?_); rintro e w164 ⟨rfl, hb⟩; refine ⟨_, rfl, ?_⟩; have n0_ := Aside0.mk (blk_below (g := gb222) (o := .cells #[.int .i64 a0, .int .i64 a1, .int .i64 (x15_1.size : Int), .bool a3] 26 (0, 0)) (kx BK222) hb); have n1_ := Aside0.mk (blk_below (g := gb230) (o := .cells #[.int .i64 t223, .int .i64 t224, .int .i64 t225, .bool t226] 26 (0, 0)) (kx BK230) hb); have n2_ := Aside0.mk (blk_below (g := gb240) (o := .cells #[.int .i64 t233, .int .i64 t234, .int .i64 t235, .bool t236] 26 (0, 0)) (kx BK240) hb); have n3_ := Aside0.mk (below_step (by repeat (first | (with_reducible first | exact HB.out | apply below_alloc | apply pw_below_drewN | apply below_drew1 | refine below_set ?_ GE222.out | refine below_set ?_ GE230.out | refine below_set ?_ GE240.out) | exact HB.out)) hb); clear BK222; clear BK230; clear BK240; clear HB; have BK222 := n0_; have BK230 := n1_; have BK240 := n2_; have HB := n3_; clear n0_ n1_ n2_ n3_; (try clear hb); (try clear hb2); (try clear hk); (try clear hi)) | ((with_reducible refine gate_dst (N := 31) rfl ?_); (try (refine gate_guard (by rfl) ?_; dsimp only)); refine box_event ?hg (N := 31) ?hd (cs := #[.int .i64 0, .int .i64 0, .int .i64 0, .bool false]) (t := 26) ?hr ?_; (case hd => rfl); (case hg => rfl); (case hr => first | (go_simp; done) | (go_simp; rfl)); intro gb248 hg w165 hbox hb; have n0_ := Aside0.mk (blk_below (g := gb222) (o := .cells #[.int .i64 a0, .int .i64 a1, .int .i64 (x15_1.size : Int), .bool a3] 26 (0, 0)) (kx BK222) hb); have n1_ := Aside0.mk (blk_below (g := gb230) (o := .cells #[.int .i64 t223, .int .i64 t224, .int .i64 t225, .bool t226] 26 (0, 0)) (kx BK230) hb); have n2_ := Aside0.mk (blk_below (g := gb240) (o := .cells #[.int .i64 t233, .int .i64 t234, .int .i64 t235, .bool t236] 26 (0, 0)) (kx BK240) hb); have n3_ := Aside0.mk (below_step (by repeat (first | (with_reducible first | exact HB.out | apply below_alloc | apply pw_below_drewN | apply below_drew1 | refine below_set ?_ GE222.out | refine below_set ?_ GE230.out | refine below_set ?_ GE240.out) | exact HB.out)) hb); have n4_ := Aside0.mk (hbox); have n5_ := Aside0.mk ((by rw [hg]; exact (below_size (by repeat (first | (with_reducible first | exact HB.out | apply below_alloc | apply pw_below_drewN | apply below_drew1 | refine below_set ?_ GE222.out | refine below_set ?_ GE230.out | refine below_set ?_ GE240.out) | exact HB.out))) : w.heap.size ≤ gb248)); have n6_ := Aside0.mk ((by rw [hg]; exact (below_size (by repeat (first | (with_reducible first | exact HB.out | apply below_alloc | apply pw_below_drewN | apply below_drew1 | refine below_set ?_ GE222.out | refine below_set ?_ GE230.out | refine below_set ?_ GE240.out) | exact HB.out))) : w.heap.size ≤ gb248)); have n7_ := Aside0.mk ((by rw [hg]; exact Nat.ne_of_lt (blk_lt (g := gb222) (o := .cells #[.int .i64 a0, .int .i64 a1, .int .i64 (x15_1.size : Int), .bool a3] 26 (0, 0)) (kx BK222)) : gb222 ≠ gb248)); have n8_ := Aside0.mk ((by rw [hg]; exact Nat.ne_of_gt (blk_lt (g := gb222) (o := .cells #[.int .i64 a0, .int .i64 a1, .int .i64 (x15_1.size : Int), .bool a3] 26 (0, 0)) (kx BK222)) : gb248 ≠ gb222)); have n9_ := Aside0.mk ((by rw [hg]; exact Nat.ne_of_lt (blk_lt (g := gb230) (o := .cells #[.int .i64 t223, .int .i64 t224, .int .i64 t225, .bool t226] 26 (0, 0)) (kx BK230)) : gb230 ≠ gb248)); have n10_ := Aside0.mk ((by rw [hg]; exact Nat.ne_of_gt (blk_lt (g := gb230) (o := .cells #[.int .i64 t223, .int .i64 t224, .int .i64 t225, .bool t226] 26 (0, 0)) (kx BK230)) : gb248 ≠ gb230)); have n11_ := Aside0.mk ((by rw [hg]; exact Nat.ne_of_lt (blk_lt (g := gb240) (o := .cells #[.int .i64 t233, .int .i64 t234, .int .i64 t235, .bool t236] 26 (0, 0)) (kx BK240)) : gb240 ≠ gb248)); have n12_ := Aside0.mk ((by rw [hg]; exact Nat.ne_of_gt (blk_lt (g := gb240) (o := .cells #[.int .i64 t233, .int .i64 t234, .int .i64 t235, .bool t236] 26 (0, 0)) (kx BK240)) : gb248 ≠ gb240)); clear BK222; clear BK230; clear BK240; clear HB; have BK222 := n0_; have BK230 := n1_; have BK240 := n2_; have HB := n3_; have BK248 := n4_; have GW248 := n5_; have GE248 := n6_; have NB222_248 := n7_; have NB248_222 := n8_; have NB230_248 := n9_; have NB248_230 := n10_; have NB240_248 := n11_; have NB248_240 := n12_; clear n0_ n1_ n2_ n3_ n4_ n5_ n6_ n7_ n8_ n9_ n10_ n11_ n12_; clear hb hbox hg; have hnb166 := NB248_222.out; have hnc166 := NB222_248.out; have hnb167 := NB248_230.out; have hnc167 := NB230_248.out; have hnb168 := NB248_240.out; have hnc168 := NB240_248.out; have hcz169_0 : w165.cell? ⟨gb248, 0, none⟩ = some (.int .i64 0) := (blk_cell BK248.out 0).trans rfl; have hcz169_1 : w165.cell? ⟨gb248, 1, none⟩ = some (.int .i64 0) := (blk_cell BK248.out 1).trans rfl; have hcz169_2 : w165.cell? ⟨gb248, 2, none⟩ = some (.int .i64 0) := (blk_cell BK248.out 2).trans rfl; have hcz169_3 : w165.cell? ⟨gb248, 3, none⟩ = some (.bool false) := (blk_cell BK248.out 3).trans rfl; have hfz169_0 := blk_frozen BK248.out 0; have hfz169_1 := blk_frozen BK248.out 1; have hfz169_2 := blk_frozen BK248.out 2; have hfz169_3 := blk_frozen BK248.out 3))
                    go_ret
                    exact ⟨by first | rfl | (rw [hszji108]) | (simp [errW_none, errW_some] <;> rfl) | (simp only [← hji108]; first | rfl | (simp [errW_none, errW_some] <;> rfl)) | (simp [*, errW_none, errW_some] <;> rfl), by repeat (first | (with_reducible first | exact HB.out | apply below_alloc | apply pw_below_drewN | apply below_drew1 | refine below_set ?_ GE222.out | refine below_set ?_ GE230.out | refine below_set ?_ GE240.out | refine below_set ?_ GE248.out) | exact HB.out)⟩
                 ·
                  replace c126 := Bool.eq_false_iff.mpr c126
                  subst c126
                  have H1 : (some false) = some r := by rw [if_neg (show ¬ (false = true) by decide)] at H; exact H
                  clear H
                  have H := H1
                  clear H1
                  obtain rfl := Option.some.inj H
                  as_aux_lemma =>
                   go_wp2_with (first | ((with_reducible refine gate_callee (f := 9) rfl ?_); refine goesL_ (some 180) rfl rfl Try.func9 (by kernel_rfl) rfl #[.string (x14_26.extract 0 ((ji108) : Int).toNat)] rfl (by (try simp only [List.map_toArray, List.map_cons, List.map_nil]); first | done | (simp only [hji108]; rfl) | rfl | (simp only [List.length_drop, List.length_take]; rfl)) ?_; (with_reducible refine (chunk_Read.calls (x14_26.extract 0 ((ji108) : Int).toNat) t241 t242 t243 t244 t245 t246 t247 _ A111.out).mono ?_); rintro e w170 ⟨rfl, hb⟩; refine ⟨_, rfl, ?_⟩; have n0_ := Aside0.mk (blk_below (g := gb222) (o := .cells #[.int .i64 a0, .int .i64 a1, .int .i64 (x15_1.size : Int), .bool a3] 26 (0, 0)) (kx BK222) hb); have n1_ := Aside0.mk (blk_below (g := gb230) (o := .cells #[.int .i64 t223, .int .i64 t224, .int .i64 t225, .bool t226] 26 (0, 0)) (kx BK230) hb); have n2_ := Aside0.mk (blk_below (g := gb240) (o := .cells #[.int .i64 t233, .int .i64 t234, .int .i64 t235, .bool t236] 26 (0, 0)) (kx BK240) hb); have n3_ := Aside0.mk (below_step (by repeat (first | (with_reducible first | exact HB.out | apply below_alloc | apply pw_below_drewN | apply below_drew1 | refine below_set ?_ GE222.out | refine below_set ?_ GE230.out | refine below_set ?_ GE240.out) | exact HB.out)) hb); clear BK222; clear BK230; clear BK240; clear HB; have BK222 := n0_; have BK230 := n1_; have BK240 := n2_; have HB := n3_; clear n0_ n1_ n2_ n3_; (try clear hb); (try clear hb2); (try clear hk); (try clear hi)) | ((with_reducible refine gate_dst (N := 31) rfl ?_); (try (refine gate_guard (by rfl) ?_; dsimp only)); refine box_event ?hg (N := 31) ?hd (cs := #[.int .i64 0, .int .i64 0, .int .i64 0, .bool false]) (t := 26) ?hr ?_; (case hd => rfl); (case hg => rfl); (case hr => first | (go_simp; done) | (go_simp; rfl)); intro gb248 hg w171 hbox hb; have n0_ := Aside0.mk (blk_below (g := gb222) (o := .cells #[.int .i64 a0, .int .i64 a1, .int .i64 (x15_1.size : Int), .bool a3] 26 (0, 0)) (kx BK222) hb); have n1_ := Aside0.mk (blk_below (g := gb230) (o := .cells #[.int .i64 t223, .int .i64 t224, .int .i64 t225, .bool t226] 26 (0, 0)) (kx BK230) hb); have n2_ := Aside0.mk (blk_below (g := gb240) (o := .cells #[.int .i64 t233, .int .i64 t234, .int .i64 t235, .bool t236] 26 (0, 0)) (kx BK240) hb); have n3_ := Aside0.mk (below_step (by repeat (first | (with_reducible first | exact HB.out | apply below_alloc | apply pw_below_drewN | apply below_drew1 | refine below_set ?_ GE222.out | refine below_set ?_ GE230.out | refine below_set ?_ GE240.out) | exact HB.out)) hb); have n4_ := Aside0.mk (hbox); have n5_ := Aside0.mk ((by rw [hg]; exact (below_size (by repeat (first | (with_reducible first | exact HB.out | apply below_alloc | apply pw_below_drewN | apply below_drew1 | refine below_set ?_ GE222.out | refine below_set ?_ GE230.out | refine below_set ?_ GE240.out) | exact HB.out))) : w.heap.size ≤ gb248)); have n6_ := Aside0.mk ((by rw [hg]; exact (below_size (by repeat (first | (with_reducible first | exact HB.out | apply below_alloc | apply pw_below_drewN | apply below_drew1 | refine below_set ?_ GE222.out | refine below_set ?_ GE230.out | refine below_set ?_ GE240.out) | exact HB.out))) : w.heap.size ≤ gb248)); have n7_ := Aside0.mk ((by rw [hg]; exact Nat.ne_of_lt (blk_lt (g := gb222) (o := .cells #[.int .i64 a0, .int .i64 a1, .int .i64 (x15_1.size : Int), .bool a3] 26 (0, 0)) (kx BK222)) : gb222 ≠ gb248)); have n8_ := Aside0.mk ((by rw [hg]; exact Nat.ne_of_gt (blk_lt (g := gb222) (o := .cells #[.int .i64 a0, .int .i64 a1, .int .i64 (x15_1.size : Int), .bool a3] 26 (0, 0)) (kx BK222)) : gb248 ≠ gb222)); have n9_ := Aside0.mk ((by rw [hg]; exact Nat.ne_of_lt (blk_lt (g := gb230) (o := .cells #[.int .i64 t223, .int .i64 t224, .int .i64 t225, .bool t226] 26 (0, 0)) (kx BK230)) : gb230 ≠ gb248)); have n10_ := Aside0.mk ((by rw [hg]; exact Nat.ne_of_gt (blk_lt (g := gb230) (o := .cells #[.int .i64 t223, .int .i64 t224, .int .i64 t225, .bool t226] 26 (0, 0)) (kx BK230)) : gb248 ≠ gb230)); have n11_ := Aside0.mk ((by rw [hg]; exact Nat.ne_of_lt (blk_lt (g := gb240) (o := .cells #[.int .i64 t233, .int .i64 t234, .int .i64 t235, .bool t236] 26 (0, 0)) (kx BK240)) : gb240 ≠ gb248)); have n12_ := Aside0.mk ((by rw [hg]; exact Nat.ne_of_gt (blk_lt (g := gb240) (o := .cells #[.int .i64 t233, .int .i64 t234, .int .i64 t235, .bool t236] 26 (0, 0)) (kx BK240)) : gb248 ≠ gb240)); clear BK222; clear BK230; clear BK240; clear HB; have BK222 := n0_; have BK230 := n1_; have BK240 := n2_; have HB := n3_; have BK248 := n4_; have GW248 := n5_; have GE248 := n6_; have NB222_248 := n7_; have NB248_222 := n8_; have NB230_248 := n9_; have NB248_230 := n10_; have NB240_248 := n11_; have NB248_240 := n12_; clear n0_ n1_ n2_ n3_ n4_ n5_ n6_ n7_ n8_ n9_ n10_ n11_ n12_; clear hb hbox hg; have hnb172 := NB248_222.out; have hnc172 := NB222_248.out; have hnb173 := NB248_230.out; have hnc173 := NB230_248.out; have hnb174 := NB248_240.out; have hnc174 := NB240_248.out; have hcz175_0 : w171.cell? ⟨gb248, 0, none⟩ = some (.int .i64 0) := (blk_cell BK248.out 0).trans rfl; have hcz175_1 : w171.cell? ⟨gb248, 1, none⟩ = some (.int .i64 0) := (blk_cell BK248.out 1).trans rfl; have hcz175_2 : w171.cell? ⟨gb248, 2, none⟩ = some (.int .i64 0) := (blk_cell BK248.out 2).trans rfl; have hcz175_3 : w171.cell? ⟨gb248, 3, none⟩ = some (.bool false) := (blk_cell BK248.out 3).trans rfl; have hfz175_0 := blk_frozen BK248.out 0; have hfz175_1 := blk_frozen BK248.out 1; have hfz175_2 := blk_frozen BK248.out 2; have hfz175_3 := blk_frozen BK248.out 3))
                   go_ret
                   exact ⟨by first | rfl | (rw [hszji108]) | (simp [errW_none, errW_some] <;> rfl) | (simp only [← hji108]; first | rfl | (simp [errW_none, errW_some] <;> rfl)) | (simp [*, errW_none, errW_some] <;> rfl), by repeat (first | (with_reducible first | exact HB.out | apply below_alloc | apply pw_below_drewN | apply below_drew1 | refine below_set ?_ GE222.out | refine below_set ?_ GE230.out | refine below_set ?_ GE240.out | refine below_set ?_ GE248.out) | exact HB.out)⟩
               ·
                rw [if_neg c110] at H
                exact absurd H (by simp)
              ·
               rw [if_neg c109] at H
               exact absurd H (by simp)
            ·
             rw [if_neg c106] at H
             have c106b0 : decide (a4 < 0) = false := decide_eq_false c106
             clear c106
             by_cases c176 : (wrap64 ((x14_26.size : Int) + 1)) = 0
             ·
              rw [if_pos c176] at H
              exact absurd H (by simp)
             ·
              rw [if_neg c176] at H
              have c176b0 : ((wrap64 ((x14_26.size : Int) + 1)) == 0) = false := beq_eq_false_iff_ne.mpr c176
              have c176b1 : ((wrap64 ((x14_26.size : Int) + 1)) != 0) = true := bne_iff_ne.mpr c176
              obtain ⟨ji177, hji177⟩ : ∃ j_ : Int, (Int.tmod a4 (wrap64 ((x14_26.size : Int) + 1))) = j_ := ⟨_, rfl⟩
              replace H : (if 0 ≤ (ji177) then (if (ji177) ≤ (x14_26.size : Int) then ((chunk_Read.f (x14_26.extract 0 ((ji177) : Int).toNat)).bind fun bt249 => (if ((x14_26.extract 0 ((ji177) : Int).toNat).size : Int) < (t213.size : Int) then (if t212 = true then (some (bt249.2.2.2.2.2.2 == 2)) else (some false)) else (if t212 = true then (if bt249.2.2.2.2.2.2 = 0 then (if (bt249.2.2.2.2.1.size : Int) ≤ (x15_1.size : Int) then (if 0 ≤ (bt249.2.2.2.2.1.size : Int) then (if (x15_1.extract 0 ((bt249.2.2.2.2.1.size : Int) : Int).toNat).toList = bt249.2.2.2.2.1.toList then (if bt249.2.2.1 = (bt249.2.2.2.2.1.size : Int) then (if bt249.2.2.2.1 = true then (some (((x14_26.extract 0 ((ji177) : Int).toNat).size : Int) == (x14_26.size : Int))) else (some true)) else (some false)) else (some false)) else (none)) else (some false)) else (some false)) else (some false)))) else (none)) else (none)) = some r := by first | (rw [hji177] at H; exact H) | (simp only [hji177] at H ⊢; exact H)
              by_cases c178 : 0 ≤ (ji177)
              ·
               rw [if_pos c178] at H
               have c178b0 := eq_true c178
               have c178b1 : decide (0 ≤ (ji177)) = true := decide_eq_true c178
               clear c178
               by_cases c179 : (ji177) ≤ (x14_26.size : Int)
               ·
                rw [if_pos c179] at H
                have c179b0 := eq_true c179
                have c179b1 : decide ((ji177) ≤ (x14_26.size : Int)) = true := decide_eq_true c179
                clear c179
                replace H := Option.bind_eq_some_iff.mp H
                obtain ⟨⟨t249, t250, t251, t252, t253, t254, t255⟩, A1800, H⟩ := H
                replace H : (if ((x14_26.extract 0 ((ji177) : Int).toNat).size : Int) < (t213.size : Int) then (if t212 = true then (some (t255 == 2)) else (some false)) else (if t212 = true then (if t255 = 0 then (if (t253.size : Int) ≤ (x15_1.size : Int) then (if 0 ≤ (t253.size : Int) then (if (x15_1.extract 0 ((t253.size : Int) : Int).toNat).toList = t253.toList then (if t251 = (t253.size : Int) then (if t252 = true then (some (((x14_26.extract 0 ((ji177) : Int).toNat).size : Int) == (x14_26.size : Int))) else (some true)) else (some false)) else (some false)) else (none)) else (some false)) else (some false)) else (some false))) = some r := H
                have A180 := Aside0.mk A1800
                have hszji177 := cutmax x14_26 ji177 c178b0 c179b0
                clear A1800
                by_cases c181 : ((x14_26.extract 0 ((ji177) : Int).toNat).size : Int) < (t213.size : Int)
                ·
                 rw [if_pos c181] at H
                 have c181b0 : decide (((x14_26.extract 0 ((ji177) : Int).toNat).size : Int) < (t213.size : Int)) = true := decide_eq_true c181
                 have c181b1 : decide ((x14_26.extract 0 ((ji177) : Int).toNat).size < t213.size) = true := decide_eq_true (Int.ofNat_lt.mp c181)
                 have c181b2 := cutmaxT x14_26 ji177 t213.size hszji177 true c181b0
                 have c181b3 := cutmaxA x14_26 ji177 t213.size hszji177 c181b0
                 clear c181
                 by_cases c182 : t212 = true
                 ·
                  subst c182
                  have H1 : (some (t255 == 2)) = some r := by rw [if_pos rfl] at H; exact H
                  clear H
                  have H := H1
                  clear H1
                  obtain rfl := Option.some.inj H
                  as_aux_lemma =>
                   go_wp2_with (first | ((with_reducible refine gate_callee (f := 9) rfl ?_); refine goesL_ (some 180) rfl rfl Try.func9 (by kernel_rfl) rfl #[.string (x14_26.extract 0 ((ji177) : Int).toNat)] rfl (by (try simp only [List.map_toArray, List.map_cons, List.map_nil]); first | done | (simp only [hji177]; rfl) | rfl | (simp only [List.length_drop, List.length_take]; rfl)) ?_; (with_reducible refine (chunk_Read.calls (x14_26.extract 0 ((ji177) : Int).toNat) t249 t250 t251 t252 t253 t254 t255 _ A180.out).mono ?_); rintro e w183 ⟨rfl, hb⟩; refine ⟨_, rfl, ?_⟩; have n0_ := Aside0.mk (blk_below (g := gb222) (o := .cells #[.int .i64 a0, .int .i64 a1, .int .i64 (x15_1.size : Int), .bool a3] 26 (0, 0)) (kx BK222) hb); have n1_ := Aside0.mk (blk_below (g := gb230) (o := .cells #[.int .i64 t223, .int .i64 t224, .int .i64 t225, .bool t226] 26 (0, 0)) (kx BK230) hb); have n2_ := Aside0.mk (blk_below (g := gb240) (o := .cells #[.int .i64 t233, .int .i64 t234, .int .i64 t235, .bool t236] 26 (0, 0)) (kx BK240) hb); have n3_ := Aside0.mk (below_step (by repeat (first | (with_reducible first | exact HB.out | apply below_alloc | apply pw_below_drewN | apply below_drew1 | refine below_set ?_ GE222.out | refine below_set ?_ GE230.out | refine below_set ?_ GE240.out) | exact HB.out)) hb); clear BK222; clear BK230; clear BK240; clear HB; have BK222 := n0_; have BK230 := n1_; have BK240 := n2_; have HB := n3_; clear n0_ n1_ n2_ n3_; (try clear hb); (try clear hb2); (try clear hk); (try clear hi)) | ((with_reducible refine gate_dst (N := 31) rfl ?_); (try (refine gate_guard (by rfl) ?_; dsimp only)); refine box_event ?hg (N := 31) ?hd (cs := #[.int .i64 0, .int .i64 0, .int .i64 0, .bool false]) (t := 26) ?hr ?_; (case hd => rfl); (case hg => rfl); (case hr => first | (go_simp; done) | (go_simp; rfl)); intro gb256 hg w184 hbox hb; have n0_ := Aside0.mk (blk_below (g := gb222) (o := .cells #[.int .i64 a0, .int .i64 a1, .int .i64 (x15_1.size : Int), .bool a3] 26 (0, 0)) (kx BK222) hb); have n1_ := Aside0.mk (blk_below (g := gb230) (o := .cells #[.int .i64 t223, .int .i64 t224, .int .i64 t225, .bool t226] 26 (0, 0)) (kx BK230) hb); have n2_ := Aside0.mk (blk_below (g := gb240) (o := .cells #[.int .i64 t233, .int .i64 t234, .int .i64 t235, .bool t236] 26 (0, 0)) (kx BK240) hb); have n3_ := Aside0.mk (below_step (by repeat (first | (with_reducible first | exact HB.out | apply below_alloc | apply pw_below_drewN | apply below_drew1 | refine below_set ?_ GE222.out | refine below_set ?_ GE230.out | refine below_set ?_ GE240.out) | exact HB.out)) hb); have n4_ := Aside0.mk (hbox); have n5_ := Aside0.mk ((by rw [hg]; exact (below_size (by repeat (first | (with_reducible first | exact HB.out | apply below_alloc | apply pw_below_drewN | apply below_drew1 | refine below_set ?_ GE222.out | refine below_set ?_ GE230.out | refine below_set ?_ GE240.out) | exact HB.out))) : w.heap.size ≤ gb256)); have n6_ := Aside0.mk ((by rw [hg]; exact (below_size (by repeat (first | (with_reducible first | exact HB.out | apply below_alloc | apply pw_below_drewN | apply below_drew1 | refine below_set ?_ GE222.out | refine below_set ?_ GE230.out | refine below_set ?_ GE240.out) | exact HB.out))) : w.heap.size ≤ gb256)); have n7_ := Aside0.mk ((by rw [hg]; exact Nat.ne_of_lt (blk_lt (g := gb222) (o := .cells #[.int .i64 a0, .int .i64 a1, .int .i64 (x15_1.size : Int), .bool a3] 26 (0, 0)) (kx BK222)) : gb222 ≠ gb256)); have n8_ := Aside0.mk ((by rw [hg]; exact Nat.ne_of_gt (blk_lt (g := gb222) (o := .cells #[.int .i64 a0, .int .i64 a1, .int .i64 (x15_1.size : Int), .bool a3] 26 (0, 0)) (kx BK222)) : gb256 ≠ gb222)); have n9_ := Aside0.mk ((by rw [hg]; exact Nat.ne_of_lt (blk_lt (g := gb230) (o := .cells #[.int .i64 t223, .int .i64 t224, .int .i64 t225, .bool t226] 26 (0, 0)) (kx BK230)) : gb230 ≠ gb256)); have n10_ := Aside0.mk ((by rw [hg]; exact Nat.ne_of_gt (blk_lt (g := gb230) (o := .cells #[.int .i64 t223, .int .i64 t224, .int .i64 t225, .bool t226] 26 (0, 0)) (kx BK230)) : gb256 ≠ gb230)); have n11_ := Aside0.mk ((by rw [hg]; exact Nat.ne_of_lt (blk_lt (g := gb240) (o := .cells #[.int .i64 t233, .int .i64 t234, .int .i64 t235, .bool t236] 26 (0, 0)) (kx BK240)) : gb240 ≠ gb256)); have n12_ := Aside0.mk ((by rw [hg]; exact Nat.ne_of_gt (blk_lt (g := gb240) (o := .cells #[.int .i64 t233, .int .i64 t234, .int .i64 t235, .bool t236] 26 (0, 0)) (kx BK240)) : gb256 ≠ gb240)); clear BK222; clear BK230; clear BK240; clear HB; have BK222 := n0_; have BK230 := n1_; have BK240 := n2_; have HB := n3_; have BK256 := n4_; have GW256 := n5_; have GE256 := n6_; have NB222_256 := n7_; have NB256_222 := n8_; have NB230_256 := n9_; have NB256_230 := n10_; have NB240_256 := n11_; have NB256_240 := n12_; clear n0_ n1_ n2_ n3_ n4_ n5_ n6_ n7_ n8_ n9_ n10_ n11_ n12_; clear hb hbox hg; have hnb185 := NB256_222.out; have hnc185 := NB222_256.out; have hnb186 := NB256_230.out; have hnc186 := NB230_256.out; have hnb187 := NB256_240.out; have hnc187 := NB240_256.out; have hcz188_0 : w184.cell? ⟨gb256, 0, none⟩ = some (.int .i64 0) := (blk_cell BK256.out 0).trans rfl; have hcz188_1 : w184.cell? ⟨gb256, 1, none⟩ = some (.int .i64 0) := (blk_cell BK256.out 1).trans rfl; have hcz188_2 : w184.cell? ⟨gb256, 2, none⟩ = some (.int .i64 0) := (blk_cell BK256.out 2).trans rfl; have hcz188_3 : w184.cell? ⟨gb256, 3, none⟩ = some (.bool false) := (blk_cell BK256.out 3).trans rfl; have hfz188_0 := blk_frozen BK256.out 0; have hfz188_1 := blk_frozen BK256.out 1; have hfz188_2 := blk_frozen BK256.out 2; have hfz188_3 := blk_frozen BK256.out 3))
                   go_ret
                   exact ⟨by first | rfl | (rw [hszji177]) | (simp [errW_none, errW_some] <;> rfl) | (simp only [← hji177]; first | rfl | (simp [errW_none, errW_some] <;> rfl)) | (simp [*, errW_none, errW_some] <;> rfl), by repeat (first | (with_reducible first | exact HB.out | apply below_alloc | apply pw_below_drewN | apply below_drew1 | refine below_set ?_ GE222.out | refine below_set ?_ GE230.out | refine below_set ?_ GE240.out | refine below_set ?_ GE256.out) | exact HB.out)⟩
                 ·
                  replace c182 := Bool.eq_false_iff.mpr c182
                  subst c182
                  have H1 : (some false) = some r := by rw [if_neg (show ¬ (false = true) by decide)] at H; exact H
                  clear H
                  have H := H1
                  clear H1
                  obtain rfl := Option.some.inj H
                  as_aux_lemma =>
                   go_wp2_with (first | ((with_reducible refine gate_callee (f := 9) rfl ?_); refine goesL_ (some 180) rfl rfl Try.func9 (by kernel_rfl) rfl #[.string (x14_26.extract 0 ((ji177) : Int).toNat)] rfl (by (try simp only [List.map_toArray, List.map_cons, List.map_nil]); first | done | (simp only [hji177]; rfl) | rfl | (simp only [List.length_drop, List.length_take]; rfl)) ?_; (with_reducible refine (chunk_Read.calls (x14_26.extract 0 ((ji177) : Int).toNat) t249 t250 t251 t252 t253 t254 t255 _ A180.out).mono ?_); rintro e w189 ⟨rfl, hb⟩; refine ⟨_, rfl, ?_⟩; have n0_ := Aside0.mk (blk_below (g := gb222) (o := .cells #[.int .i64 a0, .int .i64 a1, .int .i64 (x15_1.size : Int), .bool a3] 26 (0, 0)) (kx BK222) hb); have n1_ := Aside0.mk (blk_below (g := gb230) (o := .cells #[.int .i64 t223, .int .i64 t224, .int .i64 t225, .bool t226] 26 (0, 0)) (kx BK230) hb); have n2_ := Aside0.mk (blk_below (g := gb240) (o := .cells #[.int .i64 t233, .int .i64 t234, .int .i64 t235, .bool t236] 26 (0, 0)) (kx BK240) hb); have n3_ := Aside0.mk (below_step (by repeat (first | (with_reducible first | exact HB.out | apply below_alloc | apply pw_below_drewN | apply below_drew1 | refine below_set ?_ GE222.out | refine below_set ?_ GE230.out | refine below_set ?_ GE240.out) | exact HB.out)) hb); clear BK222; clear BK230; clear BK240; clear HB; have BK222 := n0_; have BK230 := n1_; have BK240 := n2_; have HB := n3_; clear n0_ n1_ n2_ n3_; (try clear hb); (try clear hb2); (try clear hk); (try clear hi)) | ((with_reducible refine gate_dst (N := 31) rfl ?_); (try (refine gate_guard (by rfl) ?_; dsimp only)); refine box_event ?hg (N := 31) ?hd (cs := #[.int .i64 0, .int .i64 0, .int .i64 0, .bool false]) (t := 26) ?hr ?_; (case hd => rfl); (case hg => rfl); (case hr => first | (go_simp; done) | (go_simp; rfl)); intro gb256 hg w190 hbox hb; have n0_ := Aside0.mk (blk_below (g := gb222) (o := .cells #[.int .i64 a0, .int .i64 a1, .int .i64 (x15_1.size : Int), .bool a3] 26 (0, 0)) (kx BK222) hb); have n1_ := Aside0.mk (blk_below (g := gb230) (o := .cells #[.int .i64 t223, .int .i64 t224, .int .i64 t225, .bool t226] 26 (0, 0)) (kx BK230) hb); have n2_ := Aside0.mk (blk_below (g := gb240) (o := .cells #[.int .i64 t233, .int .i64 t234, .int .i64 t235, .bool t236] 26 (0, 0)) (kx BK240) hb); have n3_ := Aside0.mk (below_step (by repeat (first | (with_reducible first | exact HB.out | apply below_alloc | apply pw_below_drewN | apply below_drew1 | refine below_set ?_ GE222.out | refine below_set ?_ GE230.out | refine below_set ?_ GE240.out) | exact HB.out)) hb); have n4_ := Aside0.mk (hbox); have n5_ := Aside0.mk ((by rw [hg]; exact (below_size (by repeat (first | (with_reducible first | exact HB.out | apply below_alloc | apply pw_below_drewN | apply below_drew1 | refine below_set ?_ GE222.out | refine below_set ?_ GE230.out | refine below_set ?_ GE240.out) | exact HB.out))) : w.heap.size ≤ gb256)); have n6_ := Aside0.mk ((by rw [hg]; exact (below_size (by repeat (first | (with_reducible first | exact HB.out | apply below_alloc | apply pw_below_drewN | apply below_drew1 | refine below_set ?_ GE222.out | refine below_set ?_ GE230.out | refine below_set ?_ GE240.out) | exact HB.out))) : w.heap.size ≤ gb256)); have n7_ := Aside0.mk ((by rw [hg]; exact Nat.ne_of_lt (blk_lt (g := gb222) (o := .cells #[.int .i64 a0, .int .i64 a1, .int .i64 (x15_1.size : Int), .bool a3] 26 (0, 0)) (kx BK222)) : gb222 ≠ gb256)); have n8_ := Aside0.mk ((by rw [hg]; exact Nat.ne_of_gt (blk_lt (g := gb222) (o := .cells #[.int .i64 a0, .int .i64 a1, .int .i64 (x15_1.size : Int), .bool a3] 26 (0, 0)) (kx BK222)) : gb256 ≠ gb222)); have n9_ := Aside0.mk ((by rw [hg]; exact Nat.ne_of_lt (blk_lt (g := gb230) (o := .cells #[.int .i64 t223, .int .i64 t224, .int .i64 t225, .bool t226] 26 (0, 0)) (kx BK230)) : gb230 ≠ gb256)); have n10_ := Aside0.mk ((by rw [hg]; exact Nat.ne_of_gt (blk_lt (g := gb230) (o := .cells #[.int .i64 t223, .int .i64 t224, .int .i64 t225, .bool t226] 26 (0, 0)) (kx BK230)) : gb256 ≠ gb230)); have n11_ := Aside0.mk ((by rw [hg]; exact Nat.ne_of_lt (blk_lt (g := gb240) (o := .cells #[.int .i64 t233, .int .i64 t234, .int .i64 t235, .bool t236] 26 (0, 0)) (kx BK240)) : gb240 ≠ gb256)); have n12_ := Aside0.mk ((by rw [hg]; exact Nat.ne_of_gt (blk_lt (g := gb240) (o := .cells #[.int .i64 t233, .int .i64 t234, .int .i64 t235, .bool t236] 26 (0, 0)) (kx BK240)) : gb256 ≠ gb240)); clear BK222; clear BK230; clear BK240; clear HB; have BK222 := n0_; have BK230 := n1_; have BK240 := n2_; have HB := n3_; have BK256 := n4_; have GW256 := n5_; have GE256 := n6_; have NB222_256 := n7_; have NB256_222 := n8_; have NB230_256 := n9_; have NB256_230 := n10_; have NB240_256 := n11_; have NB256_240 := n12_; clear n0_ n1_ n2_ n3_ n4_ n5_ n6_ n7_ n8_ n9_ n10_ n11_ n12_; clear hb hbox hg; have hnb191 := NB256_222.out; have hnc191 := NB222_256.out; have hnb192 := NB256_230.out; have hnc192 := NB230_256.out; have hnb193 := NB256_240.out; have hnc193 := NB240_256.out; have hcz194_0 : w190.cell? ⟨gb256, 0, none⟩ = some (.int .i64 0) := (blk_cell BK256.out 0).trans rfl; have hcz194_1 : w190.cell? ⟨gb256, 1, none⟩ = some (.int .i64 0) := (blk_cell BK256.out 1).trans rfl; have hcz194_2 : w190.cell? ⟨gb256, 2, none⟩ = some (.int .i64 0) := (blk_cell BK256.out 2).trans rfl; have hcz194_3 : w190.cell? ⟨gb256, 3, none⟩ = some (.bool false) := (blk_cell BK256.out 3).trans rfl; have hfz194_0 := blk_frozen BK256.out 0; have hfz194_1 := blk_frozen BK256.out 1; have hfz194_2 := blk_frozen BK256.out 2; have hfz194_3 := blk_frozen BK256.out 3))
                   go_ret
                   exact ⟨by first | rfl | (rw [hszji177]) | (simp [errW_none, errW_some] <;> rfl) | (simp only [← hji177]; first | rfl | (simp [errW_none, errW_some] <;> rfl)) | (simp [*, errW_none, errW_some] <;> rfl), by repeat (first | (with_reducible first | exact HB.out | apply below_alloc | apply pw_below_drewN | apply below_drew1 | refine below_set ?_ GE222.out | refine below_set ?_ GE230.out | refine below_set ?_ GE240.out | refine below_set ?_ GE256.out) | exact HB.out)⟩
                ·
                 rw [if_neg c181] at H
                 have c181b0 : decide (((x14_26.extract 0 ((ji177) : Int).toNat).size : Int) < (t213.size : Int)) = false := decide_eq_false c181
                 have c181b1 : decide ((x14_26.extract 0 ((ji177) : Int).toNat).size < t213.size) = false := decide_eq_false (fun h => c181 (Int.ofNat_lt.mpr h))
                 have c181b2 := cutmaxT x14_26 ji177 t213.size hszji177 false c181b0
                 have c181b3 := cutmaxB x14_26 ji177 t213.size hszji177 c181b0
                 clear c181
                 by_cases c195 : t212 = true
                 ·
                  subst c195
                  have H1 : (if t255 = 0 then (if (t253.size : Int) ≤ (x15_1.size : Int) then (if 0 ≤ (t253.size : Int) then (if (x15_1.extract 0 ((t253.size : Int) : Int).toNat).toList = t253.toList then (if t251 = (t253.size : Int) then (if t252 = true then (some (((x14_26.extract 0 ((ji177) : Int).toNat).size : Int) == (x14_26.size : Int))) else (some true)) else (some false)) else (some false)) else (none)) else (some false)) else (some false)) = some r := by rw [if_pos rfl] at H; exact H
                  clear H
                  have H := H1
                  clear H1
                  by_cases c196 : t255 = 0
                  ·
                   rw [if_pos c196] at H
                   have c196b0 : (t255 == 0) = true := beq_iff_eq.mpr c196
                   have c196b1 : (t255 != 0) = false := bne_eq_false_iff_eq.mpr c196
                   clear c196
                   by_cases c197 : (t253.size : Int) ≤ (x15_1.size : Int)
                   ·
                    rw [if_pos c197] at H
                    have c197b0 : decide ((t253.size : Int) ≤ (x15_1.size : Int)) = true := decide_eq_true c197
                    have c197b1 : decide (t253.size ≤ x15_1.size) = true := decide_eq_true (Int.ofNat_le.mp c197)
                    clear c197
                    by_cases c198 : 0 ≤ (t253.size : Int)
                    ·
                     rw [if_pos c198] at H
                     have c198b0 := eq_true c198
                     have c198b1 : decide (0 ≤ (t253.size : Int)) = true := decide_eq_true c198
                     clear c198
                     have c199b0 := eq_true (of_decide_eq_true (by first | (with_reducible assumption) | assumption) : (t253.size : Int) ≤ (x15_1.size : Int))
                     by_cases c200 : (x15_1.extract 0 ((t253.size : Int) : Int).toNat).toList = t253.toList
                     ·
                      rw [if_pos c200] at H
                      have c200b0 : ((x15_1.extract 0 ((t253.size : Int) : Int).toNat).toList == t253.toList) = true := beq_iff_eq.mpr c200
                      have c200b1 : ((x15_1.extract 0 ((t253.size : Int) : Int).toNat).toList != t253.toList) = false := bne_eq_false_iff_eq.mpr c200
                      have c200b2 := c200b0
                      have c200b3 := c200b1
                      simp only [Int.toNat_natCast] at c200b2 c200b3
                      clear c200
                      by_cases c201 : t251 = (t253.size : Int)
                      ·
                       rw [if_pos c201] at H
                       have c201b0 : (t251 == (t253.size : Int)) = true := beq_iff_eq.mpr c201
                       have c201b1 : (t251 != (t253.size : Int)) = false := bne_eq_false_iff_eq.mpr c201
                       clear c201
                       by_cases c202 : t252 = true
                       ·
                        subst c202
                        have H1 : (some (((x14_26.extract 0 ((ji177) : Int).toNat).size : Int) == (x14_26.size : Int))) = some r := by rw [if_pos rfl] at H; exact H
                        clear H
                        have H := H1
                        clear H1
                        obtain rfl := Option.some.inj H
                        as_aux_lemma =>
                         go_wp2_with (first | ((with_reducible refine gate_callee (f := 9) rfl ?_); refine goesL_ (some 180) rfl rfl Try.func9 (by kernel_rfl) rfl #[.string (x14_26.extract 0 ((ji177) : Int).toNat)] rfl (by (try simp only [List.map_toArray, List.map_cons, List.map_nil]); first | done | (simp only [hji177]; rfl) | rfl | (simp only [List.length_drop, List.length_take]; rfl)) ?_; (with_reducible refine (chunk_Read.calls (x14_26.extract 0 ((ji177) : Int).toNat) t249 t250 t251 true t253 t254 t255 _ A180.out).mono ?_); rintro e w203 ⟨rfl, hb⟩; refine ⟨_, rfl, ?_⟩; have n0_ := Aside0.mk (blk_below (g := gb222) (o := .cells #[.int .i64 a0, .int .i64 a1, .int .i64 (x15_1.size : Int), .bool a3] 26 (0, 0)) (kx BK222) hb); have n1_ := Aside0.mk (blk_below (g := gb230) (o := .cells #[.int .i64 t223, .int .i64 t224, .int .i64 t225, .bool t226] 26 (0, 0)) (kx BK230) hb); have n2_ := Aside0.mk (blk_below (g := gb240) (o := .cells #[.int .i64 t233, .int .i64 t234, .int .i64 t235, .bool t236] 26 (0, 0)) (kx BK240) hb); have n3_ := Aside0.mk (below_step (by repeat (first | (with_reducible first | exact HB.out | apply below_alloc | apply pw_below_drewN | apply below_drew1 | refine below_set ?_ GE222.out | refine below_set ?_ GE230.out | refine below_set ?_ GE240.out) | exact HB.out)) hb); clear BK222; clear BK230; clear BK240; clear HB; have BK222 := n0_; have BK230 := n1_; have BK240 := n2_; have HB := n3_; clear n0_ n1_ n2_ n3_; (try clear hb); (try clear hb2); (try clear hk); (try clear hi)) | ((with_reducible refine gate_dst (N := 31) rfl ?_); (try (refine gate_guard (by rfl) ?_; dsimp only)); refine box_event ?hg (N := 31) ?hd (cs := #[.int .i64 0, .int .i64 0, .int .i64 0, .bool false]) (t := 26) ?hr ?_; (case hd => rfl); (case hg => rfl); (case hr => first | (go_simp; done) | (go_simp; rfl)); intro gb256 hg w204 hbox hb; have n0_ := Aside0.mk (blk_below (g := gb222) (o := .cells #[.int .i64 a0, .int .i64 a1, .int .i64 (x15_1.size : Int), .bool a3] 26 (0, 0)) (kx BK222) hb); have n1_ := Aside0.mk (blk_below (g := gb230) (o := .cells #[.int .i64 t223, .int .i64 t224, .int .i64 t225, .bool t226] 26 (0, 0)) (kx BK230) hb); have n2_ := Aside0.mk (blk_below (g := gb240) (o := .cells #[.int .i64 t233, .int .i64 t234, .int .i64 t235, .bool t236] 26 (0, 0)) (kx BK240) hb); have n3_ := Aside0.mk (below_step (by repeat (first | (with_reducible first | exact HB.out | apply below_alloc | apply pw_below_drewN | apply below_drew1 | refine below_set ?_ GE222.out | refine below_set ?_ GE230.out | refine below_set ?_ GE240.out) | exact HB.out)) hb); have n4_ := Aside0.mk (hbox); have n5_ := Aside0.mk ((by rw [hg]; exact (below_size (by repeat (first | (with_reducible first | exact HB.out | apply below_alloc | apply pw_below_drewN | apply below_drew1 | refine below_set ?_ GE222.out | refine below_set ?_ GE230.out | refine below_set ?_ GE240.out) | exact HB.out))) : w.heap.size ≤ gb256)); have n6_ := Aside0.mk ((by rw [hg]; exact (below_size (by repeat (first | (with_reducible first | exact HB.out | apply below_alloc | apply pw_below_drewN | apply below_drew1 | refine below_set ?_ GE222.out | refine below_set ?_ GE230.out | refine below_set ?_ GE240.out) | exact HB.out))) : w.heap.size ≤ gb256)); have n7_ := Aside0.mk ((by rw [hg]; exact Nat.ne_of_lt (blk_lt (g := gb222) (o := .cells #[.int .i64 a0, .int .i64 a1, .int .i64 (x15_1.size : Int), .bool a3] 26 (0, 0)) (kx BK222)) : gb222 ≠ gb256)); have n8_ := Aside0.mk ((by rw [hg]; exact Nat.ne_of_gt (blk_lt (g := gb222) (o := .cells #[.int .i64 a0, .int .i64 a1, .int .i64 (x15_1.size : Int), .bool a3] 26 (0, 0)) (kx BK222)) : gb256 ≠ gb222)); have n9_ := Aside0.mk ((by rw [hg]; exact Nat.ne_of_lt (blk_lt (g := gb230) (o := .cells #[.int .i64 t223, .int .i64 t224, .int .i64 t225, .bool t226] 26 (0, 0)) (kx BK230)) : gb230 ≠ gb256)); have n10_ := Aside0.mk ((by rw [hg]; exact Nat.ne_of_gt (blk_lt (g := gb230) (o := .cells #[.int .i64 t223, .int .i64 t224, .int .i64 t225, .bool t226] 26 (0, 0)) (kx BK230)) : gb256 ≠ gb230)); have n11_ := Aside0.mk ((by rw [hg]; exact Nat.ne_of_lt (blk_lt (g := gb240) (o := .cells #[.int .i64 t233, .int .i64 t234, .int .i64 t235, .bool t236] 26 (0, 0)) (kx BK240)) : gb240 ≠ gb256)); have n12_ := Aside0.mk ((by rw [hg]; exact Nat.ne_of_gt (blk_lt (g := gb240) (o := .cells #[.int .i64 t233, .int .i64 t234, .int .i64 t235, .bool t236] 26 (0, 0)) (kx BK240)) : gb256 ≠ gb240)); clear BK222; clear BK230; clear BK240; clear HB; have BK222 := n0_; have BK230 := n1_; have BK240 := n2_; have HB := n3_; have BK256 := n4_; have GW256 := n5_; have GE256 := n6_; have NB222_256 := n7_; have NB256_222 := n8_; have NB230_256 := n9_; have NB256_230 := n10_; have NB240_256 := n11_; have NB256_240 := n12_; clear n0_ n1_ n2_ n3_ n4_ n5_ n6_ n7_ n8_ n9_ n10_ n11_ n12_; clear hb hbox hg; have hnb205 := NB256_222.out; have hnc205 := NB222_256.out; have hnb206 := NB256_230.out; have hnc206 := NB230_256.out; have hnb207 := NB256_240.out; have hnc207 := NB240_256.out; have hcz208_0 : w204.cell? ⟨gb256, 0, none⟩ = some (.int .i64 0) := (blk_cell BK256.out 0).trans rfl; have hcz208_1 : w204.cell? ⟨gb256, 1, none⟩ = some (.int .i64 0) := (blk_cell BK256.out 1).trans rfl; have hcz208_2 : w204.cell? ⟨gb256, 2, none⟩ = some (.int .i64 0) := (blk_cell BK256.out 2).trans rfl; have hcz208_3 : w204.cell? ⟨gb256, 3, none⟩ = some (.bool false) := (blk_cell BK256.out 3).trans rfl; have hfz208_0 := blk_frozen BK256.out 0; have hfz208_1 := blk_frozen BK256.out 1; have hfz208_2 := blk_frozen BK256.out 2; have hfz208_3 := blk_frozen BK256.out 3))
                         go_ret
                         exact ⟨by first | rfl | (rw [hszji177]) | (simp [errW_none, errW_some] <;> rfl) | (simp only [← hji177]; first | rfl | (simp [errW_none, errW_some] <;> rfl)) | (simp [*, errW_none, errW_some] <;> rfl), by repeat (first | (with_reducible first | exact HB.out | apply below_alloc | apply pw_below_drewN | apply below_drew1 | refine below_set ?_ GE222.out | refine below_set ?_ GE230.out | refine below_set ?_ GE240.out | refine below_set ?_ GE256.out) | exact HB.out)⟩
                       ·
                        replace c202 := Bool.eq_false_iff.mpr c202
                        subst c202
                        have H1 : (some true) = some r := by rw [if_neg (show ¬ (false = true) by decide)] at H; exact H
                        clear H
                        have H := H1
                        clear H1
                        obtain rfl := Option.some.inj H
                        as_aux_lemma =>
                         go_wp2_with (first | ((with_reducible refine gate_callee (f := 9) rfl ?_); refine goesL_ (some 180) rfl rfl Try.func9 (by kernel_rfl) rfl #[.string (x14_26.extract 0 ((ji177) : Int).toNat)] rfl (by (try simp only [List.map_toArray, List.map_cons, List.map_nil]); first | done | (simp only [hji177]; rfl) | rfl | (simp only [List.length_drop, List.length_take]; rfl)) ?_; (with_reducible refine (chunk_Read.calls (x14_26.extract 0 ((ji177) : Int).toNat) t249 t250 t251 false t253 t254 t255 _ A180.out).mono ?_); rintro e w209 ⟨rfl, hb⟩; refine ⟨_, rfl, ?_⟩; have n0_ := Aside0.mk (blk_below (g := gb222) (o := .cells #[.int .i64 a0, .int .i64 a1, .int .i64 (x15_1.size : Int), .bool a3] 26 (0, 0)) (kx BK222) hb); have n1_ := Aside0.mk (blk_below (g := gb230) (o := .cells #[.int .i64 t223, .int .i64 t224, .int .i64 t225, .bool t226] 26 (0, 0)) (kx BK230) hb); have n2_ := Aside0.mk (blk_below (g := gb240) (o := .cells #[.int .i64 t233, .int .i64 t234, .int .i64 t235, .bool t236] 26 (0, 0)) (kx BK240) hb); have n3_ := Aside0.mk (below_step (by repeat (first | (with_reducible first | exact HB.out | apply below_alloc | apply pw_below_drewN | apply below_drew1 | refine below_set ?_ GE222.out | refine below_set ?_ GE230.out | refine below_set ?_ GE240.out) | exact HB.out)) hb); clear BK222; clear BK230; clear BK240; clear HB; have BK222 := n0_; have BK230 := n1_; have BK240 := n2_; have HB := n3_; clear n0_ n1_ n2_ n3_; (try clear hb); (try clear hb2); (try clear hk); (try clear hi)) | ((with_reducible refine gate_dst (N := 31) rfl ?_); (try (refine gate_guard (by rfl) ?_; dsimp only)); refine box_event ?hg (N := 31) ?hd (cs := #[.int .i64 0, .int .i64 0, .int .i64 0, .bool false]) (t := 26) ?hr ?_; (case hd => rfl); (case hg => rfl); (case hr => first | (go_simp; done) | (go_simp; rfl)); intro gb256 hg w210 hbox hb; have n0_ := Aside0.mk (blk_below (g := gb222) (o := .cells #[.int .i64 a0, .int .i64 a1, .int .i64 (x15_1.size : Int), .bool a3] 26 (0, 0)) (kx BK222) hb); have n1_ := Aside0.mk (blk_below (g := gb230) (o := .cells #[.int .i64 t223, .int .i64 t224, .int .i64 t225, .bool t226] 26 (0, 0)) (kx BK230) hb); have n2_ := Aside0.mk (blk_below (g := gb240) (o := .cells #[.int .i64 t233, .int .i64 t234, .int .i64 t235, .bool t236] 26 (0, 0)) (kx BK240) hb); have n3_ := Aside0.mk (below_step (by repeat (first | (with_reducible first | exact HB.out | apply below_alloc | apply pw_below_drewN | apply below_drew1 | refine below_set ?_ GE222.out | refine below_set ?_ GE230.out | refine below_set ?_ GE240.out) | exact HB.out)) hb); have n4_ := Aside0.mk (hbox); have n5_ := Aside0.mk ((by rw [hg]; exact (below_size (by repeat (first | (with_reducible first | exact HB.out | apply below_alloc | apply pw_below_drewN | apply below_drew1 | refine below_set ?_ GE222.out | refine below_set ?_ GE230.out | refine below_set ?_ GE240.out) | exact HB.out))) : w.heap.size ≤ gb256)); have n6_ := Aside0.mk ((by rw [hg]; exact (below_size (by repeat (first | (with_reducible first | exact HB.out | apply below_alloc | apply pw_below_drewN | apply below_drew1 | refine below_set ?_ GE222.out | refine below_set ?_ GE230.out | refine below_set ?_ GE240.out) | exact HB.out))) : w.heap.size ≤ gb256)); have n7_ := Aside0.mk ((by rw [hg]; exact Nat.ne_of_lt (blk_lt (g := gb222) (o := .cells #[.int .i64 a0, .int .i64 a1, .int .i64 (x15_1.size : Int), .bool a3] 26 (0, 0)) (kx BK222)) : gb222 ≠ gb256)); have n8_ := Aside0.mk ((by rw [hg]; exact Nat.ne_of_gt (blk_lt (g := gb222) (o := .cells #[.int .i64 a0, .int .i64 a1, .int .i64 (x15_1.size : Int), .bool a3] 26 (0, 0)) (kx BK222)) : gb256 ≠ gb222)); have n9_ := Aside0.mk ((by rw [hg]; exact Nat.ne_of_lt (blk_lt (g := gb230) (o := .cells #[.int .i64 t223, .int .i64 t224, .int .i64 t225, .bool t226] 26 (0, 0)) (kx BK230)) : gb230 ≠ gb256)); have n10_ := Aside0.mk ((by rw [hg]; exact Nat.ne_of_gt (blk_lt (g := gb230) (o := .cells #[.int .i64 t223, .int .i64 t224, .int .i64 t225, .bool t226] 26 (0, 0)) (kx BK230)) : gb256 ≠ gb230)); have n11_ := Aside0.mk ((by rw [hg]; exact Nat.ne_of_lt (blk_lt (g := gb240) (o := .cells #[.int .i64 t233, .int .i64 t234, .int .i64 t235, .bool t236] 26 (0, 0)) (kx BK240)) : gb240 ≠ gb256)); have n12_ := Aside0.mk ((by rw [hg]; exact Nat.ne_of_gt (blk_lt (g := gb240) (o := .cells #[.int .i64 t233, .int .i64 t234, .int .i64 t235, .bool t236] 26 (0, 0)) (kx BK240)) : gb256 ≠ gb240)); clear BK222; clear BK230; clear BK240; clear HB; have BK222 := n0_; have BK230 := n1_; have BK240 := n2_; have HB := n3_; have BK256 := n4_; have GW256 := n5_; have GE256 := n6_; have NB222_256 := n7_; have NB256_222 := n8_; have NB230_256 := n9_; have NB256_230 := n10_; have NB240_256 := n11_; have NB256_240 := n12_; clear n0_ n1_ n2_ n3_ n4_ n5_ n6_ n7_ n8_ n9_ n10_ n11_ n12_; clear hb hbox hg; have hnb211 := NB256_222.out; have hnc211 := NB222_256.out; have hnb212 := NB256_230.out; have hnc212 := NB230_256.out; have hnb213 := NB256_240.out; have hnc213 := NB240_256.out; have hcz214_0 : w210.cell? ⟨gb256, 0, none⟩ = some (.int .i64 0) := (blk_cell BK256.out 0).trans rfl; have hcz214_1 : w210.cell? ⟨gb256, 1, none⟩ = some (.int .i64 0) := (blk_cell BK256.out 1).trans rfl; have hcz214_2 : w210.cell? ⟨gb256, 2, none⟩ = some (.int .i64 0) := (blk_cell BK256.out 2).trans rfl; have hcz214_3 : w210.cell? ⟨gb256, 3, none⟩ = some (.bool false) := (blk_cell BK256.out 3).trans rfl; have hfz214_0 := blk_frozen BK256.out 0; have hfz214_1 := blk_frozen BK256.out 1; have hfz214_2 := blk_frozen BK256.out 2; have hfz214_3 := blk_frozen BK256.out 3))
                         go_ret
                         exact ⟨by first | rfl | (rw [hszji177]) | (simp [errW_none, errW_some] <;> rfl) | (simp only [← hji177]; first | rfl | (simp [errW_none, errW_some] <;> rfl)) | (simp [*, errW_none, errW_some] <;> rfl), by repeat (first | (with_reducible first | exact HB.out | apply below_alloc | apply pw_below_drewN | apply below_drew1 | refine below_set ?_ GE222.out | refine below_set ?_ GE230.out | refine below_set ?_ GE240.out | refine below_set ?_ GE256.out) | exact HB.out)⟩
                      ·
                       rw [if_neg c201] at H
                       have c201b0 : (t251 == (t253.size : Int)) = false := beq_eq_false_iff_ne.mpr c201
                       have c201b1 : (t251 != (t253.size : Int)) = true := bne_iff_ne.mpr c201
                       obtain rfl := Option.some.inj H
                       as_aux_lemma =>
                        go_wp2_with (first | ((with_reducible refine gate_callee (f := 9) rfl ?_); refine goesL_ (some 180) rfl rfl Try.func9 (by kernel_rfl) rfl #[.string (x14_26.extract 0 ((ji177) : Int).toNat)] rfl (by (try simp only [List.map_toArray, List.map_cons, List.map_nil]); first | done | (simp only [hji177]; rfl) | rfl | (simp only [List.length_drop, List.length_take]; rfl)) ?_; (with_reducible refine (chunk_Read.calls (x14_26.extract 0 ((ji177) : Int).toNat) t249 t250 t251 t252 t253 t254 t255 _ A180.out).mono ?_); rintro e w215 ⟨rfl, hb⟩; refine ⟨_, rfl, ?_⟩; have n0_ := Aside0.mk (blk_below (g := gb222) (o := .cells #[.int .i64 a0, .int .i64 a1, .int .i64 (x15_1.size : Int), .bool a3] 26 (0, 0)) (kx BK222) hb); have n1_ := Aside0.mk (blk_below (g := gb230) (o := .cells #[.int .i64 t223, .int .i64 t224, .int .i64 t225, .bool t226] 26 (0, 0)) (kx BK230) hb); have n2_ := Aside0.mk (blk_below (g := gb240) (o := .cells #[.int .i64 t233, .int .i64 t234, .int .i64 t235, .bool t236] 26 (0, 0)) (kx BK240) hb); have n3_ := Aside0.mk (below_step (by repeat (first | (with_reducible first | exact HB.out | apply below_alloc | apply pw_below_drewN | apply below_drew1 | refine below_set ?_ GE222.out | refine below_set ?_ GE230.out | refine below_set ?_ GE240.out) | exact HB.out)) hb); clear BK222; clear BK230; clear BK240; clear HB; have BK222 := n0_; have BK230 := n1_; have BK240 := n2_; have HB := n3_; clear n0_ n1_ n2_ n3_; (try clear hb); (try clear hb2); (try clear hk); (try clear hi)) | ((with_reducible refine gate_dst (N := 31) rfl ?_); (try (refine gate_guard (by rfl) ?_; dsimp only)); refine box_event ?hg (N := 31) ?hd (cs := #[.int .i64 0, .int .i64 0, .int .i64 0, .bool false]) (t := 26) ?hr ?_; (case hd => rfl); (case hg => rfl); (case hr => first | (go_simp; done) | (go_simp; rfl)); intro gb256 hg w216 hbox hb; have n0_ := Aside0.mk (blk_below (g := gb222) (o := .cells #[.int .i64 a0, .int .i64 a1, .int .i64 (x15_1.size : Int), .bool a3] 26 (0, 0)) (kx BK222) hb); have n1_ := Aside0.mk (blk_below (g := gb230) (o := .cells #[.int .i64 t223, .int .i64 t224, .int .i64 t225, .bool t226] 26 (0, 0)) (kx BK230) hb); have n2_ := Aside0.mk (blk_below (g := gb240) (o := .cells #[.int .i64 t233, .int .i64 t234, .int .i64 t235, .bool t236] 26 (0, 0)) (kx BK240) hb); have n3_ := Aside0.mk (below_step (by repeat (first | (with_reducible first | exact HB.out | apply below_alloc | apply pw_below_drewN | apply below_drew1 | refine below_set ?_ GE222.out | refine below_set ?_ GE230.out | refine below_set ?_ GE240.out) | exact HB.out)) hb); have n4_ := Aside0.mk (hbox); have n5_ := Aside0.mk ((by rw [hg]; exact (below_size (by repeat (first | (with_reducible first | exact HB.out | apply below_alloc | apply pw_below_drewN | apply below_drew1 | refine below_set ?_ GE222.out | refine below_set ?_ GE230.out | refine below_set ?_ GE240.out) | exact HB.out))) : w.heap.size ≤ gb256)); have n6_ := Aside0.mk ((by rw [hg]; exact (below_size (by repeat (first | (with_reducible first | exact HB.out | apply below_alloc | apply pw_below_drewN | apply below_drew1 | refine below_set ?_ GE222.out | refine below_set ?_ GE230.out | refine below_set ?_ GE240.out) | exact HB.out))) : w.heap.size ≤ gb256)); have n7_ := Aside0.mk ((by rw [hg]; exact Nat.ne_of_lt (blk_lt (g := gb222) (o := .cells #[.int .i64 a0, .int .i64 a1, .int .i64 (x15_1.size : Int), .bool a3] 26 (0, 0)) (kx BK222)) : gb222 ≠ gb256)); have n8_ := Aside0.mk ((by rw [hg]; exact Nat.ne_of_gt (blk_lt (g := gb222) (o := .cells #[.int .i64 a0, .int .i64 a1, .int .i64 (x15_1.size : Int), .bool a3] 26 (0, 0)) (kx BK222)) : gb256 ≠ gb222)); have n9_ := Aside0.mk ((by rw [hg]; exact Nat.ne_of_lt (blk_lt (g := gb230) (o := .cells #[.int .i64 t223, .int .i64 t224, .int .i64 t225, .bool t226] 26 (0, 0)) (kx BK230)) : gb230 ≠ gb256)); have n10_ := Aside0.mk ((by rw [hg]; exact Nat.ne_of_gt (blk_lt (g := gb230) (o := .cells #[.int .i64 t223, .int .i64 t224, .int .i64 t225, .bool t226] 26 (0, 0)) (kx BK230)) : gb256 ≠ gb230)); have n11_ := Aside0.mk ((by rw [hg]; exact Nat.ne_of_lt (blk_lt (g := gb240) (o := .cells #[.int .i64 t233, .int .i64 t234, .int .i64 t235, .bool t236] 26 (0, 0)) (kx BK240)) : gb240 ≠ gb256)); have n12_ := Aside0.mk ((by rw [hg]; exact Nat.ne_of_gt (blk_lt (g := gb240) (o := .cells #[.int .i64 t233, .int .i64 t234, .int .i64 t235, .bool t236] 26 (0, 0)) (kx BK240)) : gb256 ≠ gb240)); clear BK222; clear BK230; clear BK240; clear HB; have BK222 := n0_; have BK230 := n1_; have BK240 := n2_; have HB := n3_; have BK256 := n4_; have GW256 := n5_; have GE256 := n6_; have NB222_256 := n7_; have NB256_222 := n8_; have NB230_256 := n9_; have NB256_230 := n10_; have NB240_256 := n11_; have NB256_240 := n12_; clear n0_ n1_ n2_ n3_ n4_ n5_ n6_ n7_ n8_ n9_ n10_ n11_ n12_; clear hb hbox hg; have hnb217 := NB256_222.out; have hnc217 := NB222_256.out; have hnb218 := NB256_230.out; have hnc218 := NB230_256.out; have hnb219 := NB256_240.out; have hnc219 := NB240_256.out; have hcz220_0 : w216.cell? ⟨gb256, 0, none⟩ = some (.int .i64 0) := (blk_cell BK256.out 0).trans rfl; have hcz220_1 : w216.cell? ⟨gb256, 1, none⟩ = some (.int .i64 0) := (blk_cell BK256.out 1).trans rfl; have hcz220_2 : w216.cell? ⟨gb256, 2, none⟩ = some (.int .i64 0) := (blk_cell BK256.out 2).trans rfl; have hcz220_3 : w216.cell? ⟨gb256, 3, none⟩ = some (.bool false) := (blk_cell BK256.out 3).trans rfl; have hfz220_0 := blk_frozen BK256.out 0; have hfz220_1 := blk_frozen BK256.out 1; have hfz220_2 := blk_frozen BK256.out 2; have hfz220_3 := blk_frozen BK256.out 3))
                        go_ret
                        exact ⟨by first | rfl | (rw [hszji177]) | (simp [errW_none, errW_some] <;> rfl) | (simp only [← hji177]; first | rfl | (simp [errW_none, errW_some] <;> rfl)) | (simp [*, errW_none, errW_some] <;> rfl), by repeat (first | (with_reducible first | exact HB.out | apply below_alloc | apply pw_below_drewN | apply below_drew1 | refine below_set ?_ GE222.out | refine below_set ?_ GE230.out | refine below_set ?_ GE240.out | refine below_set ?_ GE256.out) | exact HB.out)⟩
                     ·
                      rw [if_neg c200] at H
                      have c200b0 : ((x15_1.extract 0 ((t253.size : Int) : Int).toNat).toList == t253.toList) = false := beq_eq_false_iff_ne.mpr c200
                      have c200b1 : ((x15_1.extract 0 ((t253.size : Int) : Int).toNat).toList != t253.toList) = true := bne_iff_ne.mpr c200
                      have c200b2 := c200b0
                      have c200b3 := c200b1
                      simp only [Int.toNat_natCast] at c200b2 c200b3
                      obtain rfl := Option.some.inj H
                      as_aux_lemma =>
                       go_wp2_with (first | ((with_reducible refine gate_callee (f := 9) rfl ?_); refine goesL_ (some 180) rfl rfl Try.func9 (by kernel_rfl) rfl #[.string (x14_26.extract 0 ((ji177) : Int).toNat)] rfl (by (try simp only [List.map_toArray, List.map_cons, List.map_nil]); first | done | (simp only [hji177]; rfl) | rfl | (simp only [List.length_drop, List.length_take]; rfl)) ?_; (with_reducible refine (chunk_Read.calls (x14_26.extract 0 ((ji177) : Int).toNat) t249 t250 t251 t252 t253 t254 t255 _ A180.out).mono ?_); rintro e w221 ⟨rfl, hb⟩; refine ⟨_, rfl, ?_⟩; have n0_ := Aside0.mk (blk_below (g := gb222) (o := .cells #[.int .i64 a0, .int .i64 a1, .int .i64 (x15_1.size : Int), .bool a3] 26 (0, 0)) (kx BK222) hb); have n1_ := Aside0.mk (blk_below (g := gb230) (o := .cells #[.int .i64 t223, .int .i64 t224, .int .i64 t225, .bool t226] 26 (0, 0)) (kx BK230) hb); have n2_ := Aside0.mk (blk_below (g := gb240) (o := .cells #[.int .i64 t233, .int .i64 t234, .int .i64 t235, .bool t236] 26 (0, 0)) (kx BK240) hb); have n3_ := Aside0.mk (below_step (by repeat (first | (with_reducible first | exact HB.out | apply below_alloc | apply pw_below_drewN | apply below_drew1 | refine below_set ?_ GE222.out | refine below_set ?_ GE230.out | refine below_set ?_ GE240.out) | exact HB.out)) hb); clear BK222; clear BK230; clear BK240; clear HB; have BK222 := n0_; have BK230 := n1_; have BK240 := n2_; have HB := n3_; clear n0_ n1_ n2_ n3_; (try clear hb); (try clear hb2); (try clear hk); (try clear hi)) | ((with_reducible refine gate_dst (N := 31) rfl ?_); (try (refine gate_guard (by rfl) ?_; dsimp only)); refine box_event ?hg (N := 31) ?hd (cs := #[.int .i64 0, .int .i64 0, .int .i64 0, .bool false]) (t := 26) ?hr ?_; (case hd => rfl); (case hg => rfl); (case hr => first | (go_simp; done) | (go_simp; rfl)); intro gb256 hg w222 hbox hb; have n0_ := Aside0.mk (blk_below (g := gb222) (o := .cells #[.int .i64 a0, .int .i64 a1, .int .i64 (x15_1.size : Int), .bool a3] 26 (0, 0)) (kx BK222) hb); have n1_ := Aside0.mk (blk_below (g := gb230) (o := .cells #[.int .i64 t223, .int .i64 t224, .int .i64 t225, .bool t226] 26 (0, 0)) (kx BK230) hb); have n2_ := Aside0.mk (blk_below (g := gb240) (o := .cells #[.int .i64 t233, .int .i64 t234, .int .i64 t235, .bool t236] 26 (0, 0)) (kx BK240) hb); have n3_ := Aside0.mk (below_step (by repeat (first | (with_reducible first | exact HB.out | apply below_alloc | apply pw_below_drewN | apply below_drew1 | refine below_set ?_ GE222.out | refine below_set ?_ GE230.out | refine below_set ?_ GE240.out) | exact HB.out)) hb); have n4_ := Aside0.mk (hbox); have n5_ := Aside0.mk ((by rw [hg]; exact (below_size (by repeat (first | (with_reducible first | exact HB.out | apply below_alloc | apply pw_below_drewN | apply below_drew1 | refine below_set ?_ GE222.out | refine below_set ?_ GE230.out | refine below_set ?_ GE240.out) | exact HB.out))) : w.heap.size ≤ gb256)); have n6_ := Aside0.mk ((by rw [hg]; exact (below_size (by repeat (first | (with_reducible first | exact HB.out | apply below_alloc | apply pw_below_drewN | apply below_drew1 | refine below_set ?_ GE222.out | refine below_set ?_ GE230.out | refine below_set ?_ GE240.out) | exact HB.out))) : w.heap.size ≤ gb256)); have n7_ := Aside0.mk ((by rw [hg]; exact Nat.ne_of_lt (blk_lt (g := gb222) (o := .cells #[.int .i64 a0, .int .i64 a1, .int .i64 (x15_1.size : Int), .bool a3] 26 (0, 0)) (kx BK222)) : gb222 ≠ gb256)); have n8_ := Aside0.mk ((by rw [hg]; exact Nat.ne_of_gt (blk_lt (g := gb222) (o := .cells #[.int .i64 a0, .int .i64 a1, .int .i64 (x15_1.size : Int), .bool a3] 26 (0, 0)) (kx BK222)) : gb256 ≠ gb222)); have n9_ := Aside0.mk ((by rw [hg]; exact Nat.ne_of_lt (blk_lt (g := gb230) (o := .cells #[.int .i64 t223, .int .i64 t224, .int .i64 t225, .bool t226] 26 (0, 0)) (kx BK230)) : gb230 ≠ gb256)); have n10_ := Aside0.mk ((by rw [hg]; exact Nat.ne_of_gt (blk_lt (g := gb230) (o := .cells #[.int .i64 t223, .int .i64 t224, .int .i64 t225, .bool t226] 26 (0, 0)) (kx BK230)) : gb256 ≠ gb230)); have n11_ := Aside0.mk ((by rw [hg]; exact Nat.ne_of_lt (blk_lt (g := gb240) (o := .cells #[.int .i64 t233, .int .i64 t234, .int .i64 t235, .bool t236] 26 (0, 0)) (kx BK240)) : gb240 ≠ gb256)); have n12_ := Aside0.mk ((by rw [hg]; exact Nat.ne_of_gt (blk_lt (g := gb240) (o := .cells #[.int .i64 t233, .int .i64 t234, .int .i64 t235, .bool t236] 26 (0, 0)) (kx BK240)) : gb256 ≠ gb240)); clear BK222; clear BK230; clear BK240; clear HB; have BK222 := n0_; have BK230 := n1_; have BK240 := n2_; have HB := n3_; have BK256 := n4_; have GW256 := n5_; have GE256 := n6_; have NB222_256 := n7_; have NB256_222 := n8_; have NB230_256 := n9_; have NB256_230 := n10_; have NB240_256 := n11_; have NB256_240 := n12_; clear n0_ n1_ n2_ n3_ n4_ n5_ n6_ n7_ n8_ n9_ n10_ n11_ n12_; clear hb hbox hg; have hnb223 := NB256_222.out; have hnc223 := NB222_256.out; have hnb224 := NB256_230.out; have hnc224 := NB230_256.out; have hnb225 := NB256_240.out; have hnc225 := NB240_256.out; have hcz226_0 : w222.cell? ⟨gb256, 0, none⟩ = some (.int .i64 0) := (blk_cell BK256.out 0).trans rfl; have hcz226_1 : w222.cell? ⟨gb256, 1, none⟩ = some (.int .i64 0) := (blk_cell BK256.out 1).trans rfl; have hcz226_2 : w222.cell? ⟨gb256, 2, none⟩ = some (.int .i64 0) := (blk_cell BK256.out 2).trans rfl; have hcz226_3 : w222.cell? ⟨gb256, 3, none⟩ = some (.bool false) := (blk_cell BK256.out 3).trans rfl; have hfz226_0 := blk_frozen BK256.out 0; have hfz226_1 := blk_frozen BK256.out 1; have hfz226_2 := blk_frozen BK256.out 2; have hfz226_3 := blk_frozen BK256.out 3))
                       go_ret
                       exact ⟨by first | rfl | (rw [hszji177]) | (simp [errW_none, errW_some] <;> rfl) | (simp only [← hji177]; first | rfl | (simp [errW_none, errW_some] <;> rfl)) | (simp [*, errW_none, errW_some] <;> rfl), by repeat (first | (with_reducible first | exact HB.out | apply below_alloc | apply pw_below_drewN | apply below_drew1 | refine below_set ?_ GE222.out | refine below_set ?_ GE230.out | refine below_set ?_ GE240.out | refine below_set ?_ GE256.out) | exact HB.out)⟩
                    ·
                     rw [if_neg c198] at H
                     exact absurd H (by simp)
                   ·
                    rw [if_neg c197] at H
                    have c197b0 : decide ((t253.size : Int) ≤ (x15_1.size : Int)) = false := decide_eq_false c197
                    have c197b1 : decide (t253.size ≤ x15_1.size) = false := decide_eq_false (fun h => c197 (Int.ofNat_le.mpr h))
                    clear c197
                    obtain rfl := Option.some.inj H
                    as_aux_lemma =>
                     go_wp2_with (first | ((with_reducible refine gate_callee (f := 9) rfl ?_); refine goesL_ (some 180) rfl rfl Try.func9 (by kernel_rfl) rfl #[.string (x14_26.extract 0 ((ji177) : Int).toNat)] rfl (by (try simp only [List.map_toArray, List.map_cons, List.map_nil]); first | done | (simp only [hji177]; rfl) | rfl | (simp only [List.length_drop, List.length_take]; rfl)) ?_; (with_reducible refine (chunk_Read.calls (x14_26.extract 0 ((ji177) : Int).toNat) t249 t250 t251 t252 t253 t254 t255 _ A180.out).mono ?_); rintro e w227 ⟨rfl, hb⟩; refine ⟨_, rfl, ?_⟩; have n0_ := Aside0.mk (blk_below (g := gb222) (o := .cells #[.int .i64 a0, .int .i64 a1, .int .i64 (x15_1.size : Int), .bool a3] 26 (0, 0)) (kx BK222) hb); have n1_ := Aside0.mk (blk_below (g := gb230) (o := .cells #[.int .i64 t223, .int .i64 t224, .int .i64 t225, .bool t226] 26 (0, 0)) (kx BK230) hb); have n2_ := Aside0.mk (blk_below (g := gb240) (o := .cells #[.int .i64 t233, .int .i64 t234, .int .i64 t235, .bool t236] 26 (0, 0)) (kx BK240) hb); have n3_ := Aside0.mk (below_step (by repeat (first | (with_reducible first | exact HB.out | apply below_alloc | apply pw_below_drewN | apply below_drew1 | refine below_set ?_ GE222.out | refine below_set ?_ GE230.out | refine below_set ?_ GE240.out) | exact HB.out)) hb); clear BK222; clear BK230; clear BK240; clear HB; have BK222 := n0_; have BK230 := n1_; have BK240 := n2_; have HB := n3_; clear n0_ n1_ n2_ n3_; (try clear hb); (try clear hb2); (try clear hk); (try clear hi)) | ((with_reducible refine gate_dst (N := 31) rfl ?_); (try (refine gate_guard (by rfl) ?_; dsimp only)); refine box_event ?hg (N := 31) ?hd (cs := #[.int .i64 0, .int .i64 0, .int .i64 0, .bool false]) (t := 26) ?hr ?_; (case hd => rfl); (case hg => rfl); (case hr => first | (go_simp; done) | (go_simp; rfl)); intro gb256 hg w228 hbox hb; have n0_ := Aside0.mk (blk_below (g := gb222) (o := .cells #[.int .i64 a0, .int .i64 a1, .int .i64 (x15_1.size : Int), .bool a3] 26 (0, 0)) (kx BK222) hb); have n1_ := Aside0.mk (blk_below (g := gb230) (o := .cells #[.int .i64 t223, .int .i64 t224, .int .i64 t225, .bool t226] 26 (0, 0)) (kx BK230) hb); have n2_ := Aside0.mk (blk_below (g := gb240) (o := .cells #[.int .i64 t233, .int .i64 t234, .int .i64 t235, .bool t236] 26 (0, 0)) (kx BK240) hb); have n3_ := Aside0.mk (below_step (by repeat (first | (with_reducible first | exact HB.out | apply below_alloc | apply pw_below_drewN | apply below_drew1 | refine below_set ?_ GE222.out | refine below_set ?_ GE230.out | refine below_set ?_ GE240.out) | exact HB.out)) hb); have n4_ := Aside0.mk (hbox); have n5_ := Aside0.mk ((by rw [hg]; exact (below_size (by repeat (first | (with_reducible first | exact HB.out | apply below_alloc | apply pw_below_drewN | apply below_drew1 | refine below_set ?_ GE222.out | refine below_set ?_ GE230.out | refine below_set ?_ GE240.out) | exact HB.out))) : w.heap.size ≤ gb256)); have n6_ := Aside0.mk ((by rw [hg]; exact (below_size (by repeat (first | (with_reducible first | exact HB.out | apply below_alloc | apply pw_below_drewN | apply below_drew1 | refine below_set ?_ GE222.out | refine below_set ?_ GE230.out | refine below_set ?_ GE240.out) | exact HB.out))) : w.heap.size ≤ gb256)); have n7_ := Aside0.mk ((by rw [hg]; exact Nat.ne_of_lt (blk_lt (g := gb222) (o := .cells #[.int .i64 a0, .int .i64 a1, .int .i64 (x15_1.size : Int), .bool a3] 26 (0, 0)) (kx BK222)) : gb222 ≠ gb256)); have n8_ := Aside0.mk ((by rw [hg]; exact Nat.ne_of_gt (blk_lt (g := gb222) (o := .cells #[.int .i64 a0, .int .i64 a1, .int .i64 (x15_1.size : Int), .bool a3] 26 (0, 0)) (kx BK222)) : gb256 ≠ gb222)); have n9_ := Aside0.mk ((by rw [hg]; exact Nat.ne_of_lt (blk_lt (g := gb230) (o := .cells #[.int .i64 t223, .int .i64 t224, .int .i64 t225, .bool t226] 26 (0, 0)) (kx BK230)) : gb230 ≠ gb256)); have n10_ := Aside0.mk ((by rw [hg]; exact Nat.ne_of_gt (blk_lt (g := gb230) (o := .cells #[.int .i64 t223, .int .i64 t224, .int .i64 t225, .bool t226] 26 (0, 0)) (kx BK230)) : gb256 ≠ gb230)); have n11_ := Aside0.mk ((by rw [hg]; exact Nat.ne_of_lt (blk_lt (g := gb240) (o := .cells #[.int .i64 t233, .int .i64 t234, .int .i64 t235, .bool t236] 26 (0, 0)) (kx BK240)) : gb240 ≠ gb256)); have n12_ := Aside0.mk ((by rw [hg]; exact Nat.ne_of_gt (blk_lt (g := gb240) (o := .cells #[.int .i64 t233, .int .i64 t234, .int .i64 t235, .bool t236] 26 (0, 0)) (kx BK240)) : gb256 ≠ gb240)); clear BK222; clear BK230; clear BK240; clear HB; have BK222 := n0_; have BK230 := n1_; have BK240 := n2_; have HB := n3_; have BK256 := n4_; have GW256 := n5_; have GE256 := n6_; have NB222_256 := n7_; have NB256_222 := n8_; have NB230_256 := n9_; have NB256_230 := n10_; have NB240_256 := n11_; have NB256_240 := n12_; clear n0_ n1_ n2_ n3_ n4_ n5_ n6_ n7_ n8_ n9_ n10_ n11_ n12_; clear hb hbox hg; have hnb229 := NB256_222.out; have hnc229 := NB222_256.out; have hnb230 := NB256_230.out; have hnc230 := NB230_256.out; have hnb231 := NB256_240.out; have hnc231 := NB240_256.out; have hcz232_0 : w228.cell? ⟨gb256, 0, none⟩ = some (.int .i64 0) := (blk_cell BK256.out 0).trans rfl; have hcz232_1 : w228.cell? ⟨gb256, 1, none⟩ = some (.int .i64 0) := (blk_cell BK256.out 1).trans rfl; have hcz232_2 : w228.cell? ⟨gb256, 2, none⟩ = some (.int .i64 0) := (blk_cell BK256.out 2).trans rfl; have hcz232_3 : w228.cell? ⟨gb256, 3, none⟩ = some (.bool false) := (blk_cell BK256.out 3).trans rfl; have hfz232_0 := blk_frozen BK256.out 0; have hfz232_1 := blk_frozen BK256.out 1; have hfz232_2 := blk_frozen BK256.out 2; have hfz232_3 := blk_frozen BK256.out 3))
                     go_ret
                     exact ⟨by first | rfl | (rw [hszji177]) | (simp [errW_none, errW_some] <;> rfl) | (simp only [← hji177]; first | rfl | (simp [errW_none, errW_some] <;> rfl)) | (simp [*, errW_none, errW_some] <;> rfl), by repeat (first | (with_reducible first | exact HB.out | apply below_alloc | apply pw_below_drewN | apply below_drew1 | refine below_set ?_ GE222.out | refine below_set ?_ GE230.out | refine below_set ?_ GE240.out | refine below_set ?_ GE256.out) | exact HB.out)⟩
                  ·
                   rw [if_neg c196] at H
                   have c196b0 : (t255 == 0) = false := beq_eq_false_iff_ne.mpr c196
                   have c196b1 : (t255 != 0) = true := bne_iff_ne.mpr c196
                   obtain rfl := Option.some.inj H
                   as_aux_lemma =>
                    go_wp2_with (first | ((with_reducible refine gate_callee (f := 9) rfl ?_); refine goesL_ (some 180) rfl rfl Try.func9 (by kernel_rfl) rfl #[.string (x14_26.extract 0 ((ji177) : Int).toNat)] rfl (by (try simp only [List.map_toArray, List.map_cons, List.map_nil]); first | done | (simp only [hji177]; rfl) | rfl | (simp only [List.length_drop, List.length_take]; rfl)) ?_; (with_reducible refine (chunk_Read.calls (x14_26.extract 0 ((ji177) : Int).toNat) t249 t250 t251 t252 t253 t254 t255 _ A180.out).mono ?_); rintro e w233 ⟨rfl, hb⟩; refine ⟨_, rfl, ?_⟩; have n0_ := Aside0.mk (blk_below (g := gb222) (o := .cells #[.int .i64 a0, .int .i64 a1, .int .i64 (x15_1.size : Int), .bool a3] 26 (0, 0)) (kx BK222) hb); have n1_ := Aside0.mk (blk_below (g := gb230) (o := .cells #[.int .i64 t223, .int .i64 t224, .int .i64 t225, .bool t226] 26 (0, 0)) (kx BK230) hb); have n2_ := Aside0.mk (blk_below (g := gb240) (o := .cells #[.int .i64 t233, .int .i64 t234, .int .i64 t235, .bool t236] 26 (0, 0)) (kx BK240) hb); have n3_ := Aside0.mk (below_step (by repeat (first | (with_reducible first | exact HB.out | apply below_alloc | apply pw_below_drewN | apply below_drew1 | refine below_set ?_ GE222.out | refine below_set ?_ GE230.out | refine below_set ?_ GE240.out) | exact HB.out)) hb); clear BK222; clear BK230; clear BK240; clear HB; have BK222 := n0_; have BK230 := n1_; have BK240 := n2_; have HB := n3_; clear n0_ n1_ n2_ n3_; (try clear hb); (try clear hb2); (try clear hk); (try clear hi)) | ((with_reducible refine gate_dst (N := 31) rfl ?_); (try (refine gate_guard (by rfl) ?_; dsimp only)); refine box_event ?hg (N := 31) ?hd (cs := #[.int .i64 0, .int .i64 0, .int .i64 0, .bool false]) (t := 26) ?hr ?_; (case hd => rfl); (case hg => rfl); (case hr => first | (go_simp; done) | (go_simp; rfl)); intro gb256 hg w234 hbox hb; have n0_ := Aside0.mk (blk_below (g := gb222) (o := .cells #[.int .i64 a0, .int .i64 a1, .int .i64 (x15_1.size : Int), .bool a3] 26 (0, 0)) (kx BK222) hb); have n1_ := Aside0.mk (blk_below (g := gb230) (o := .cells #[.int .i64 t223, .int .i64 t224, .int .i64 t225, .bool t226] 26 (0, 0)) (kx BK230) hb); have n2_ := Aside0.mk (blk_below (g := gb240) (o := .cells #[.int .i64 t233, .int .i64 t234, .int .i64 t235, .bool t236] 26 (0, 0)) (kx BK240) hb); have n3_ := Aside0.mk (below_step (by repeat (first | (with_reducible first | exact HB.out | apply below_alloc | apply pw_below_drewN | apply below_drew1 | refine below_set ?_ GE222.out | refine below_set ?_ GE230.out | refine below_set ?_ GE240.out) | exact HB.out)) hb); have n4_ := Aside0.mk (hbox); have n5_ := Aside0.mk ((by rw [hg]; exact (below_size (by repeat (first | (with_reducible first | exact HB.out | apply below_alloc | apply pw_below_drewN | apply below_drew1 | refine below_set ?_ GE222.out | refine below_set ?_ GE230.out | refine below_set ?_ GE240.out) | exact HB.out))) : w.heap.size ≤ gb256)); have n6_ := Aside0.mk ((by rw [hg]; exact (below_size (by repeat (first | (with_reducible first | exact HB.out | apply below_alloc | apply pw_below_drewN | apply below_drew1 | refine below_set ?_ GE222.out | refine below_set ?_ GE230.out | refine below_set ?_ GE240.out) | exact HB.out))) : w.heap.size ≤ gb256)); have n7_ := Aside0.mk ((by rw [hg]; exact Nat.ne_of_lt (blk_lt (g := gb222) (o := .cells #[.int .i64 a0, .int .i64 a1, .int .i64 (x15_1.size : Int), .bool a3] 26 (0, 0)) (kx BK222)) : gb222 ≠ gb256)); have n8_ := Aside0.mk ((by rw [hg]; exact Nat.ne_of_gt (blk_lt (g := gb222) (o := .cells #[.int .i64 a0, .int .i64 a1, .int .i64 (x15_1.size : Int), .bool a3] 26 (0, 0)) (kx BK222)) : gb256 ≠ gb222)); have n9_ := Aside0.mk ((by rw [hg]; exact Nat.ne_of_lt (blk_lt (g := gb230) (o := .cells #[.int .i64 t223, .int .i64 t224, .int .i64 t225, .bool t226] 26 (0, 0)) (kx BK230)) : gb230 ≠ gb256)); have n10_ := Aside0.mk ((by rw [hg]; exact Nat.ne_of_gt (blk_lt (g := gb230) (o := .cells #[.int .i64 t223, .int .i64 t224, .int .i64 t225, .bool t226] 26 (0, 0)) (kx BK230)) : gb256 ≠ gb230)); have n11_ := Aside0.mk ((by rw [hg]; exact Nat.ne_of_lt (blk_lt (g := gb240) (o := .cells #[.int .i64 t233, .int .i64 t234, .int .i64 t235, .bool t236] 26 (0, 0)) (kx BK240)) : gb240 ≠ gb256)); have n12_ := Aside0.mk ((by rw [hg]; exact Nat.ne_of_gt (blk_lt (g := gb240) (o := .cells #[.int .i64 t233, .int .i64 t234, .int .i64 t235, .bool t236] 26 (0, 0)) (kx BK240)) : gb256 ≠ gb240)); clear BK222; clear BK230; clear BK240; clear HB; have BK222 := n0_; have BK230 := n1_; have BK240 := n2_; have HB := n3_; have BK256 := n4_; have GW256 := n5_; have GE256 := n6_; have NB222_256 := n7_; have NB256_222 := n8_; have NB230_256 := n9_; have NB256_230 := n10_; have NB240_256 := n11_; have NB256_240 := n12_; clear n0_ n1_ n2_ n3_ n4_ n5_ n6_ n7_ n8_ n9_ n10_ n11_ n12_; clear hb hbox hg; have hnb235 := NB256_222.out; have hnc235 := NB222_256.out; have hnb236 := NB256_230.out; have hnc236 := NB230_256.out; have hnb237 := NB256_240.out; have hnc237 := NB240_256.out; have hcz238_0 : w234.cell? ⟨gb256, 0, none⟩ = some (.int .i64 0) := (blk_cell BK256.out 0).trans rfl; have hcz238_1 : w234.cell? ⟨gb256, 1, none⟩ = some (.int .i64 0) := (blk_cell BK256.out 1).trans rfl; have hcz238_2 : w234.cell? ⟨gb256, 2, none⟩ = some (.int .i64 0) := (blk_cell BK256.out 2).trans rfl; have hcz238_3 : w234.cell? ⟨gb256, 3, none⟩ = some (.bool false) := (blk_cell BK256.out 3).trans rfl; have hfz238_0 := blk_frozen BK256.out 0; have hfz238_1 := blk_frozen BK256.out 1; have hfz238_2 := blk_frozen BK256.out 2; have hfz238_3 := blk_frozen BK256.out 3))
                    go_ret
                    exact ⟨by first | rfl | (rw [hszji177]) | (simp [errW_none, errW_some] <;> rfl) | (simp only [← hji177]; first | rfl | (simp [errW_none, errW_some] <;> rfl)) | (simp [*, errW_none, errW_some] <;> rfl), by repeat (first | (with_reducible first | exact HB.out | apply below_alloc | apply pw_below_drewN | apply below_drew1 | refine below_set ?_ GE222.out | refine below_set ?_ GE230.out | refine below_set ?_ GE240.out | refine below_set ?_ GE256.out) | exact HB.out)⟩
                 ·
                  replace c195 := Bool.eq_false_iff.mpr c195
                  subst c195
                  have H1 : (some false) = some r := by rw [if_neg (show ¬ (false = true) by decide)] at H; exact H
                  clear H
                  have H := H1
                  clear H1
                  obtain rfl := Option.some.inj H
                  as_aux_lemma =>
                   go_wp2_with (first | ((with_reducible refine gate_callee (f := 9) rfl ?_); refine goesL_ (some 180) rfl rfl Try.func9 (by kernel_rfl) rfl #[.string (x14_26.extract 0 ((ji177) : Int).toNat)] rfl (by (try simp only [List.map_toArray, List.map_cons, List.map_nil]); first | done | (simp only [hji177]; rfl) | rfl | (simp only [List.length_drop, List.length_take]; rfl)) ?_; (with_reducible refine (chunk_Read.calls (x14_26.extract 0 ((ji177) : Int).toNat) t249 t250 t251 t252 t253 t254 t255 _ A180.out).mono ?_); rintro e w239 ⟨rfl, hb⟩; refine ⟨_, rfl, ?_⟩; have n0_ := Aside0.mk (blk_below (g := gb222) (o := .cells #[.int .i64 a0, .int .i64 a1, .int .i64 (x15_1.size : Int), .bool a3] 26 (0, 0)) (kx BK222) hb); have n1_ := Aside0.mk (blk_below (g := gb230) (o := .cells #[.int .i64 t223, .int .i64 t224, .int .i64 t225, .bool t226] 26 (0, 0)) (kx BK230) hb); have n2_ := Aside0.mk (blk_below (g := gb240) (o := .cells #[.int .i64 t233, .int .i64 t234, .int .i64 t235, .bool t236] 26 (0, 0)) (kx BK240) hb); have n3_ := Aside0.mk (below_step (by repeat (first | (with_reducible first | exact HB.out | apply below_alloc | apply pw_below_drewN | apply below_drew1 | refine below_set ?_ GE222.out | refine below_set ?_ GE230.out | refine below_set ?_ GE240.out) | exact HB.out)) hb); clear BK222; clear BK230; clear BK240; clear HB; have BK222 := n0_; have BK230 := n1_; have BK240 := n2_; have HB := n3_; clear n0_ n1_ n2_ n3_; (try clear hb); (try clear hb2); (try clear hk); (try clear hi)) | ((with_reducible refine gate_dst (N := 31) rfl ?_); (try (refine gate_guard (by rfl) ?_; dsimp only)); refine box_event ?hg (N := 31) ?hd (cs := #[.int .i64 0, .int .i64 0, .int .i64 0, .bool false]) (t := 26) ?hr ?_; (case hd => rfl); (case hg => rfl); (case hr => first | (go_simp; done) | (go_simp; rfl)); intro gb256 hg w240 hbox hb; have n0_ := Aside0.mk (blk_below (g := gb222) (o := .cells #[.int .i64 a0, .int .i64 a1, .int .i64 (x15_1.size : Int), .bool a3] 26 (0, 0)) (kx BK222) hb); have n1_ := Aside0.mk (blk_below (g := gb230) (o := .cells #[.int .i64 t223, .int .i64 t224, .int .i64 t225, .bool t226] 26 (0, 0)) (kx BK230) hb); have n2_ := Aside0.mk (blk_below (g := gb240) (o := .cells #[.int .i64 t233, .int .i64 t234, .int .i64 t235, .bool t236] 26 (0, 0)) (kx BK240) hb); have n3_ := Aside0.mk (below_step (by repeat (first | (with_reducible first | exact HB.out | apply below_alloc | apply pw_below_drewN | apply below_drew1 | refine below_set ?_ GE222.out | refine below_set ?_ GE230.out | refine below_set ?_ GE240.out) | exact HB.out)) hb); have n4_ := Aside0.mk (hbox); have n5_ := Aside0.mk ((by rw [hg]; exact (below_size (by repeat (first | (with_reducible first | exact HB.out | apply below_alloc | apply pw_below_drewN | apply below_drew1 | refine below_set ?_ GE222.out | refine below_set ?_ GE230.out | refine below_set ?_ GE240.out) | exact HB.out))) : w.heap.size ≤ gb256)); have n6_ := Aside0.mk ((by rw [hg]; exact (below_size (by repeat (first | (with_reducible first | exact HB.out | apply below_alloc | apply pw_below_drewN | apply below_drew1 | refine below_set ?_ GE222.out | refine below_set ?_ GE230.out | refine below_set ?_ GE240.out) | exact HB.out))) : w.heap.size ≤ gb256)); have n7_ := Aside0.mk ((by rw [hg]; exact Nat.ne_of_lt (blk_lt (g := gb222) (o := .cells #[.int .i64 a0, .int .i64 a1, .int .i64 (x15_1.size : Int), .bool a3] 26 (0, 0)) (kx BK222)) : gb222 ≠ gb256)); have n8_ := Aside0.mk ((by rw [hg]; exact Nat.ne_of_gt (blk_lt (g := gb222) (o := .cells #[.int .i64 a0, .int .i64 a1, .int .i64 (x15_1.size : Int), .bool a3] 26 (0, 0)) (kx BK222)) : gb256 ≠ gb222)); have n9_ := Aside0.mk ((by rw [hg]; exact Nat.ne_of_lt (blk_lt (g := gb230) (o := .cells #[.int .i64 t223, .int .i64 t224, .int .i64 t225, .bool t226] 26 (0, 0)) (kx BK230)) : gb230 ≠ gb256)); have n10_ := Aside0.mk ((by rw [hg]; exact Nat.ne_of_gt (blk_lt (g := gb230) (o := .cells #[.int .i64 t223, .int .i64 t224, .int .i64 t225, .bool t226] 26 (0, 0)) (kx BK230)) : gb256 ≠ gb230)); have n11_ := Aside0.mk ((by rw [hg]; exact Nat.ne_of_lt (blk_lt (g := gb240) (o := .cells #[.int .i64 t233, .int .i64 t234, .int .i64 t235, .bool t236] 26 (0, 0)) (kx BK240)) : gb240 ≠ gb256)); have n12_ := Aside0.mk ((by rw [hg]; exact Nat.ne_of_gt (blk_lt (g := gb240) (o := .cells #[.int .i64 t233, .int .i64 t234, .int .i64 t235, .bool t236] 26 (0, 0)) (kx BK240)) : gb256 ≠ gb240)); clear BK222; clear BK230; clear BK240; clear HB; have BK222 := n0_; have BK230 := n1_; have BK240 := n2_; have HB := n3_; have BK256 := n4_; have GW256 := n5_; have GE256 := n6_; have NB222_256 := n7_; have NB256_222 := n8_; have NB230_256 := n9_; have NB256_230 := n10_; have NB240_256 := n11_; have NB256_240 := n12_; clear n0_ n1_ n2_ n3_ n4_ n5_ n6_ n7_ n8_ n9_ n10_ n11_ n12_; clear hb hbox hg; have hnb241 := NB256_222.out; have hnc241 := NB222_256.out; have hnb242 := NB256_230.out; have hnc242 := NB230_256.out; have hnb243 := NB256_240.out; have hnc243 := NB240_256.out; have hcz244_0 : w240.cell? ⟨gb256, 0, none⟩ = some (.int .i64 0) := (blk_cell BK256.out 0).trans rfl; have hcz244_1 : w240.cell? ⟨gb256, 1, none⟩ = some (.int .i64 0) := (blk_cell BK256.out 1).trans rfl; have hcz244_2 : w240.cell? ⟨gb256, 2, none⟩ = some (.int .i64 0) := (blk_cell BK256.out 2).trans rfl; have hcz244_3 : w240.cell? ⟨gb256, 3, none⟩ = some (.bool false) := (blk_cell BK256.out 3).trans rfl; have hfz244_0 := blk_frozen BK256.out 0; have hfz244_1 := blk_frozen BK256.out 1; have hfz244_2 := blk_frozen BK256.out 2; have hfz244_3 := blk_frozen BK256.out 3))
                   go_ret
                   exact ⟨by first | rfl | (rw [hszji177]) | (simp [errW_none, errW_some] <;> rfl) | (simp only [← hji177]; first | rfl | (simp [errW_none, errW_some] <;> rfl)) | (simp [*, errW_none, errW_some] <;> rfl), by repeat (first | (with_reducible first | exact HB.out | apply below_alloc | apply pw_below_drewN | apply below_drew1 | refine below_set ?_ GE222.out | refine below_set ?_ GE230.out | refine below_set ?_ GE240.out | refine below_set ?_ GE256.out) | exact HB.out)⟩
               ·
                rw [if_neg c179] at H
                exact absurd H (by simp)
              ·
               rw [if_neg c178] at H
               exact absurd H (by simp)
 ·
  rw [if_neg c8] at H
  have c8b0 : (t214 == 0) = false := beq_eq_false_iff_ne.mpr c8
  have c8b1 : (t214 != 0) = true := bne_iff_ne.mpr c8
  by_cases c245 : t212 = true
  ·
   subst c245
   have H1 : (some (t213.toList == ([] : List UInt8))) = some r := by rw [if_pos rfl] at H; exact H
   clear H
   have H := H1
   clear H1
   obtain rfl := Option.some.inj H
   go_enter Try.func6, Try.ntmps6
   as_aux_lemma =>
    go_wp2_with (first | ((with_reducible refine gate_callee (f := 8) rfl ?_); refine goesL_ (some 35) rfl rfl Try.func8 (by kernel_rfl) rfl #[] rfl (by (try simp only [List.map_toArray, List.map_cons, List.map_nil]); first | done | rfl | (simp only [List.length_drop, List.length_take]; rfl)) ?_; (with_reducible refine (tabulariumlaw18_examples.calls k  true _ A6.out).mono ?_); rintro e w246 ⟨rfl, hb⟩; refine ⟨_, rfl, ?_⟩; have n0_ := Aside0.mk (below_step (by exact bw0 HB) hb); clear HB; have HB := n0_; clear n0_; (try clear hb); (try clear hb2); (try clear hk); (try clear hi)) | ((with_reducible refine gate_callee (f := 11) rfl ?_); refine goesL_ (some 39) rfl rfl Try.func11 (by kernel_rfl) rfl #[.int .i64 a0, .int .i64 a1] rfl (by (try simp only [List.map_toArray, List.map_cons, List.map_nil]); first | done | rfl | (simp only [List.length_drop, List.length_take]; rfl)) ?_; (with_reducible refine (chunk_Head.calls k a0 a1 t213 t214 _ A7.out).mono ?_); rintro e w247 ⟨rfl, hb⟩; refine ⟨_, rfl, ?_⟩; have n0_ := Aside0.mk (below_step (by exact bw0 HB) hb); clear HB; have HB := n0_; clear n0_; (try clear hb); (try clear hb2); (try clear hk); (try clear hi)))
    go_ret
    exact ⟨by first | rfl | (simp [errW_none, errW_some] <;> rfl) | (simp [*, errW_none, errW_some] <;> rfl), by repeat (first | (with_reducible first | exact HB.out | apply below_alloc | apply pw_below_drewN | apply below_drew1) | exact HB.out)⟩
  ·
   replace c245 := Bool.eq_false_iff.mpr c245
   subst c245
   have H1 : (some false) = some r := by rw [if_neg (show ¬ (false = true) by decide)] at H; exact H
   clear H
   have H := H1
   clear H1
   obtain rfl := Option.some.inj H
   go_enter Try.func6, Try.ntmps6
   as_aux_lemma =>
    go_wp2_with (first | ((with_reducible refine gate_callee (f := 8) rfl ?_); refine goesL_ (some 35) rfl rfl Try.func8 (by kernel_rfl) rfl #[] rfl (by (try simp only [List.map_toArray, List.map_cons, List.map_nil]); first | done | rfl | (simp only [List.length_drop, List.length_take]; rfl)) ?_; (with_reducible refine (tabulariumlaw18_examples.calls k  false _ A6.out).mono ?_); rintro e w248 ⟨rfl, hb⟩; refine ⟨_, rfl, ?_⟩; have n0_ := Aside0.mk (below_step (by exact bw0 HB) hb); clear HB; have HB := n0_; clear n0_; (try clear hb); (try clear hb2); (try clear hk); (try clear hi)) | ((with_reducible refine gate_callee (f := 11) rfl ?_); refine goesL_ (some 39) rfl rfl Try.func11 (by kernel_rfl) rfl #[.int .i64 a0, .int .i64 a1] rfl (by (try simp only [List.map_toArray, List.map_cons, List.map_nil]); first | done | rfl | (simp only [List.length_drop, List.length_take]; rfl)) ?_; (with_reducible refine (chunk_Head.calls k a0 a1 t213 t214 _ A7.out).mono ?_); rintro e w249 ⟨rfl, hb⟩; refine ⟨_, rfl, ?_⟩; have n0_ := Aside0.mk (below_step (by exact bw0 HB) hb); clear HB; have HB := n0_; clear n0_; (try clear hb); (try clear hb2); (try clear hk); (try clear hi)))
    go_ret
    exact ⟨by first | rfl | (simp [errW_none, errW_some] <;> rfl) | (simp [*, errW_none, errW_some] <;> rfl), by repeat (first | (with_reducible first | exact HB.out | apply below_alloc | apply pw_below_drewN | apply below_drew1) | exact HB.out)⟩

/-- THE ONE PURE STATEMENT of tabulariumlaw18_ChunkBack. -/
def tabulariumlaw18_ChunkBack.Pure : Prop := ∀ (a0 : Int) (a1 : Int) (l2 : List ByteArray) (a3 : Bool) (a4 : Int), ((Lit.int .i64 a0).wf = true) → ((Lit.int .i64 a1).wf = true) → (l2.length ≤ maxLen) → (l2.length * 16 ≤ 140737488351232) → (∀ y2_ ∈ l2, (y2_.size ≤ 140737488351232)) → ((Lit.int .i64 a4).wf = true) → ∃ k, tabulariumlaw18_ChunkBack.f k a0 a1 l2 a3 a4 = some true
theorem tabulariumlaw18_ChunkBack.walk (P : tabulariumlaw18_ChunkBack.Pure) (a0 : Int) (a1 : Int) (A2 : Option Addr) (c2 : Nat) (l2 : List ByteArray) (a3 : Bool) (a4 : Int) (w : World) (hr2 : Kd.C Kd.string w A2 l2.length l2) (hc2 : l2.length ≤ c2) (g0 : (Lit.int .i64 a0).wf = true) (g1 : (Lit.int .i64 a1).wf = true) (g2 : l2.length ≤ maxLen) (g3 : l2.length * 16 ≤ 140737488351232) (g4 : ∀ y2_ ∈ l2, (y2_.size ≤ 140737488351232)) (g5 : (Lit.int .i64 a4).wf = true) :
  Calls Try.prog 6 #[.int .i64 a0, .int .i64 a1, .slice A2 l2.length c2, .bool a3, .int .i64 a4] w fun e w' => e = .returned (.bool true) ∧ Below w.heap.size w w' := by
 obtain ⟨k, h⟩ := P a0 a1 l2 a3 a4 g0 g1 g2 g3 g4 g5
 refine (tabulariumlaw18_ChunkBack.calls k a0 a1 A2 c2 l2 a3 a4 true w hr2 hc2 h).mono ?_
 rintro e w' ⟨rfl, hd⟩
 exact ⟨rfl, hd⟩

end Go.Proofs.Ytljllecpmllefaa.P
