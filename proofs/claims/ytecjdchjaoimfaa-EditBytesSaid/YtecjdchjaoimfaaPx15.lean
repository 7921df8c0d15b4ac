/- The Go functions of this seat as plain Lean functions, and for each the proof that its call gives what the plain function gives. Printed by a program of this session. -/
import Derived.Test.YtecjdchjaoimfaaPz
import Derived.Test.YtecjdchjaoimfaaPx0
import Derived.Test.YtecjdchjaoimfaaPx10
import Derived.Test.YtecjdchjaoimfaaPx13
import Derived.Test.YtecjdchjaoimfaaPx14
namespace Go.Proofs.Ytecjdchjaoimfaa.P
open Go.RowKit Go.Proofs.YtecjdchjaoimfaaW.PrintWords Go.Proofs.YtecjdchjaoimfaaW.PrintLast Go.Proofs.YtecjdchjaoimfaaW.PrintMore
attribute [local go_sem] max2_int min2_int max_two min_two max_three min_three max_four min_four   -- for this text's walks alone
set_option linter.unusedVariables false
set_option linter.unusedSimpArgs false

/-! ### tabulariumref10_Decode: function 10 -/
mutual
def tabulariumref10_Decode.j0 : Nat → Int → ByteArray → ByteArray → ByteArray → Int → Int → Int → Int → Bool → Option (Int × ByteArray × ByteArray × Int × Int × Int × List Int × Bool)
 | 0, _, _, _, _, _, _, _, _, _ => none
 | k + 1, x5, x6, x8, x10, x12, x14, x16, x18, x100 => if x100 = true then (some (0, (⟨#[]⟩ : ByteArray), (⟨#[]⟩ : ByteArray), 0, 0, 0, ([] : List Int), false)) else (tabulariumref10_Decode.l0 k x6 x18 0 x5 x8 x10 x12 x14 x16 ([] : List Int))
def tabulariumref10_Decode.l0 : Nat → ByteArray → Int → Int → Int → ByteArray → ByteArray → Int → Int → Int → List Int → Option (Int × ByteArray × ByteArray × Int × Int × Int × List Int × Bool)
 | 0, _, _, _, _, _, _, _, _, _, _ => none
 | k + 1, x6, x18, x20, x181000, x181001, x181002, x181003, x181004, x181005, x181006 => if x20 < x18 then ((tabulariumref01_TakeNum.f k x6).bind fun bt202 => (if bt202.2.2 = true then (if x181006.length < 17592186044416 then (tabulariumref10_Decode.l0 k bt202.2.1 x18 (wrap64 (x20 + 1)) x181000 x181001 x181002 x181003 x181004 x181005 (x181006 ++ [bt202.1])) else (none)) else (some (0, (⟨#[]⟩ : ByteArray), (⟨#[]⟩ : ByteArray), 0, 0, 0, ([] : List Int), false)))) else ((tabulariumref10_Right.f k x181000 x181001 x181002 x181003 x181004 x181005 x181006).bind fun t208 => (if t208 = true then (if x6.toList = ([] : List UInt8) then (some (x181000, x181001, x181002, x181003, x181004, x181005, x181006, true)) else (some (0, (⟨#[]⟩ : ByteArray), (⟨#[]⟩ : ByteArray), 0, 0, 0, ([] : List Int), false))) else (some (0, (⟨#[]⟩ : ByteArray), (⟨#[]⟩ : ByteArray), 0, 0, 0, ([] : List Int), false))))
end
def tabulariumref10_Decode.f (k : Nat) (a0 : ByteArray) : Option (Int × ByteArray × ByteArray × Int × Int × Int × List Int × Bool) := (tabulariumref01_TakeNum.f k a0).bind fun bt181 => ((tabulariumref01_TakeText.f k bt181.2.1).bind fun bt184 => ((tabulariumref01_TakeText.f k bt184.2.1).bind fun bt187 => ((tabulariumref01_TakeNum.f k bt187.2.1).bind fun bt190 => ((tabulariumref01_TakeNum.f k bt190.2.1).bind fun bt193 => ((tabulariumref01_TakeNum.f k bt193.2.1).bind fun bt196 => ((tabulariumref01_TakeNum.f k bt196.2.1).bind fun bt199 => (if bt181.2.2 = true then (if bt184.2.2 = true then (if bt187.2.2 = true then (if bt190.2.2 = true then (if bt193.2.2 = true then (if bt196.2.2 = true then (if bt199.2.2 = true then (if bt199.1 < 0 then (tabulariumref10_Decode.j0 k bt181.1 bt199.2.1 bt184.1 bt187.1 bt190.1 bt193.1 bt196.1 bt199.1 true) else (tabulariumref10_Decode.j0 k bt181.1 bt199.2.1 bt184.1 bt187.1 bt190.1 bt193.1 bt196.1 bt199.1 (decide (bt199.1 > 8)))) else (tabulariumref10_Decode.j0 k bt181.1 bt199.2.1 bt184.1 bt187.1 bt190.1 bt193.1 bt196.1 bt199.1 true)) else (tabulariumref10_Decode.j0 k bt181.1 bt199.2.1 bt184.1 bt187.1 bt190.1 bt193.1 bt196.1 bt199.1 true)) else (tabulariumref10_Decode.j0 k bt181.1 bt199.2.1 bt184.1 bt187.1 bt190.1 bt193.1 bt196.1 bt199.1 true)) else (tabulariumref10_Decode.j0 k bt181.1 bt199.2.1 bt184.1 bt187.1 bt190.1 bt193.1 bt196.1 bt199.1 true)) else (tabulariumref10_Decode.j0 k bt181.1 bt199.2.1 bt184.1 bt187.1 bt190.1 bt193.1 bt196.1 bt199.1 true)) else (tabulariumref10_Decode.j0 k bt181.1 bt199.2.1 bt184.1 bt187.1 bt190.1 bt193.1 bt196.1 bt199.1 true)) else (tabulariumref10_Decode.j0 k bt181.1 bt199.2.1 bt184.1 bt187.1 bt190.1 bt193.1 bt196.1 bt199.1 true))))))))
theorem tabulariumref10_Decode.mono_l : ∀ k, (∀ y0 y1 y2 y3 y4 y5 y6 y7 y8, LeO (tabulariumref10_Decode.j0 k y0 y1 y2 y3 y4 y5 y6 y7 y8) (tabulariumref10_Decode.j0 (k + 1) y0 y1 y2 y3 y4 y5 y6 y7 y8)) ∧ (∀ y0 y1 y2 y3 y4 y5 y6 y7 y8 y9, LeO (tabulariumref10_Decode.l0 k y0 y1 y2 y3 y4 y5 y6 y7 y8 y9) (tabulariumref10_Decode.l0 (k + 1) y0 y1 y2 y3 y4 y5 y6 y7 y8 y9))
 | 0 => ⟨fun _ _ _ _ _ _ _ _ _ r h => by simp [tabulariumref10_Decode.j0] at h, fun _ _ _ _ _ _ _ _ _ _ r h => by simp [tabulariumref10_Decode.l0] at h⟩
 | k + 1 => by
  obtain ⟨ih0, ih1⟩ := tabulariumref10_Decode.mono_l k
  refine ⟨?_, ?_⟩
  ·
   intro y0 y1 y2 y3 y4 y5 y6 y7 y8
   unfold tabulariumref10_Decode.j0
   repeat' first
   | (with_reducible exact ih0 _ _ _ _ _ _ _ _ _)
   | (with_reducible exact ih1 _ _ _ _ _ _ _ _ _ _)
   | (with_reducible exact tabulariumref01_TakeNum.mono _ _)
   | (with_reducible exact tabulariumref01_TakeText.mono _ _)
   | (with_reducible exact tabulariumref10_Right.mono _ _ _ _ _ _ _ _)
   | (with_reducible exact LeO.refl _)
   | (with_reducible exact LeO.none _)
   | (with_reducible refine LeO.ite ?_ ?_)
   | (with_reducible refine LeO.bind ?_ (fun _ => ?_))
   | exact ih0 _ _ _ _ _ _ _ _ _
   | exact ih1 _ _ _ _ _ _ _ _ _ _
   | exact tabulariumref01_TakeNum.mono _ _
   | exact tabulariumref01_TakeText.mono _ _
   | exact tabulariumref10_Right.mono _ _ _ _ _ _ _ _
   | exact LeO.none _
   | refine LeO.ite ?_ ?_
   | refine LeO.bind ?_ (fun _ => ?_)
  ·
   intro y0 y1 y2 y3 y4 y5 y6 y7 y8 y9
   unfold tabulariumref10_Decode.l0
   repeat' first
   | (with_reducible exact ih0 _ _ _ _ _ _ _ _ _)
   | (with_reducible exact ih1 _ _ _ _ _ _ _ _ _ _)
   | (with_reducible exact tabulariumref01_TakeNum.mono _ _)
   | (with_reducible exact tabulariumref01_TakeText.mono _ _)
   | (with_reducible exact tabulariumref10_Right.mono _ _ _ _ _ _ _ _)
   | (with_reducible exact LeO.refl _)
   | (with_reducible exact LeO.none _)
   | (with_reducible refine LeO.ite ?_ ?_)
   | (with_reducible refine LeO.bind ?_ (fun _ => ?_))
   | exact ih0 _ _ _ _ _ _ _ _ _
   | exact ih1 _ _ _ _ _ _ _ _ _ _
   | exact tabulariumref01_TakeNum.mono _ _
   | exact tabulariumref01_TakeText.mono _ _
   | exact tabulariumref10_Right.mono _ _ _ _ _ _ _ _
   | exact LeO.none _
   | refine LeO.ite ?_ ?_
   | refine LeO.bind ?_ (fun _ => ?_)
theorem tabulariumref10_Decode.mono : ∀ a0 k, LeO (tabulariumref10_Decode.f k a0) (tabulariumref10_Decode.f (k + 1) a0) := by
 intro a0 k
 obtain ⟨ih0, ih1⟩ := tabulariumref10_Decode.mono_l k
 unfold tabulariumref10_Decode.f
 repeat' first
   | (with_reducible exact ih0 _ _ _ _ _ _ _ _ _)
   | (with_reducible exact ih1 _ _ _ _ _ _ _ _ _ _)
   | (with_reducible exact tabulariumref01_TakeNum.mono _ _)
   | (with_reducible exact tabulariumref01_TakeText.mono _ _)
   | (with_reducible exact tabulariumref10_Right.mono _ _ _ _ _ _ _ _)
   | (with_reducible exact LeO.refl _)
   | (with_reducible exact LeO.none _)
   | (with_reducible refine LeO.ite ?_ ?_)
   | (with_reducible refine LeO.bind ?_ (fun _ => ?_))
   | exact ih0 _ _ _ _ _ _ _ _ _
   | exact ih1 _ _ _ _ _ _ _ _ _ _
   | exact tabulariumref01_TakeNum.mono _ _
   | exact tabulariumref01_TakeText.mono _ _
   | exact tabulariumref10_Right.mono _ _ _ _ _ _ _ _
   | exact LeO.none _
   | refine LeO.ite ?_ ?_
   | refine LeO.bind ?_ (fun _ => ?_)
set_option maxHeartbeats 8000000 in
set_option maxRecDepth 100000 in
theorem tabulariumref10_Decode.calls (k : Nat) (a0 : ByteArray) (r1 : Int) (r2 : ByteArray) (r3 : ByteArray) (r4 : Int) (r5 : Int) (r6 : Int) (r7 : List Int) (r8 : Bool) (w : World) (h : tabulariumref10_Decode.f k a0 = some (r1, r2, r3, r4, r5, r6, r7, r8)) :
  Calls Try.prog 10 #[.string a0] w fun e w' => ∃ v6_ : Value, e = .returned (.tuple #[.agg #[.int .i64 r1, .string r2, .string r3, .int .i64 r4, .int .i64 r5, .int .i64 r6, v6_], .bool r8]) ∧ Kd.R (Kd.int .i64) 3 w' w.heap.size (fun _ => True) v6_ r7 ∧ Below w.heap.size w w' := by
 have hu24 := Try.underlying24
 have HB := Aside0.mk (Below.refl w.heap.size w)
 have H : ((tabulariumref01_TakeNum.f k a0).bind fun bt181 => ((tabulariumref01_TakeText.f k bt181.2.1).bind fun bt184 => ((tabulariumref01_TakeText.f k bt184.2.1).bind fun bt187 => ((tabulariumref01_TakeNum.f k bt187.2.1).bind fun bt190 => ((tabulariumref01_TakeNum.f k bt190.2.1).bind fun bt193 => ((tabulariumref01_TakeNum.f k bt193.2.1).bind fun bt196 => ((tabulariumref01_TakeNum.f k bt196.2.1).bind fun bt199 => (if bt181.2.2 = true then (if bt184.2.2 = true then (if bt187.2.2 = true then (if bt190.2.2 = true then (if bt193.2.2 = true then (if bt196.2.2 = true then (if bt199.2.2 = true then (if bt199.1 < 0 then (tabulariumref10_Decode.j0 k bt181.1 bt199.2.1 bt184.1 bt187.1 bt190.1 bt193.1 bt196.1 bt199.1 true) else (tabulariumref10_Decode.j0 k bt181.1 bt199.2.1 bt184.1 bt187.1 bt190.1 bt193.1 bt196.1 bt199.1 (decide (bt199.1 > 8)))) else (tabulariumref10_Decode.j0 k bt181.1 bt199.2.1 bt184.1 bt187.1 bt190.1 bt193.1 bt196.1 bt199.1 true)) else (tabulariumref10_Decode.j0 k bt181.1 bt199.2.1 bt184.1 bt187.1 bt190.1 bt193.1 bt196.1 bt199.1 true)) else (tabulariumref10_Decode.j0 k bt181.1 bt199.2.1 bt184.1 bt187.1 bt190.1 bt193.1 bt196.1 bt199.1 true)) else (tabulariumref10_Decode.j0 k bt181.1 bt199.2.1 bt184.1 bt187.1 bt190.1 bt193.1 bt196.1 bt199.1 true)) else (tabulariumref10_Decode.j0 k bt181.1 bt199.2.1 bt184.1 bt187.1 bt190.1 bt193.1 bt196.1 bt199.1 true)) else (tabulariumref10_Decode.j0 k bt181.1 bt199.2.1 bt184.1 bt187.1 bt190.1 bt193.1 bt196.1 bt199.1 true)) else (tabulariumref10_Decode.j0 k bt181.1 bt199.2.1 bt184.1 bt187.1 bt190.1 bt193.1 bt196.1 bt199.1 true))))))))) = some (r1, r2, r3, r4, r5, r6, r7, r8) := h
 clear h
 replace H := Option.bind_eq_some_iff.mp H
 obtain ⟨⟨t181, t182, t183⟩, A20, H⟩ := H
 replace H : ((tabulariumref01_TakeText.f k t182).bind fun bt184 => ((tabulariumref01_TakeText.f k bt184.2.1).bind fun bt187 => ((tabulariumref01_TakeNum.f k bt187.2.1).bind fun bt190 => ((tabulariumref01_TakeNum.f k bt190.2.1).bind fun bt193 => ((tabulariumref01_TakeNum.f k bt193.2.1).bind fun bt196 => ((tabulariumref01_TakeNum.f k bt196.2.1).bind fun bt199 => (if t183 = true then (if bt184.2.2 = true then (if bt187.2.2 = true then (if bt190.2.2 = true then (if bt193.2.2 = true then (if bt196.2.2 = true then (if bt199.2.2 = true then (if bt199.1 < 0 then (tabulariumref10_Decode.j0 k t181 bt199.2.1 bt184.1 bt187.1 bt190.1 bt193.1 bt196.1 bt199.1 true) else (tabulariumref10_Decode.j0 k t181 bt199.2.1 bt184.1 bt187.1 bt190.1 bt193.1 bt196.1 bt199.1 (decide (bt199.1 > 8)))) else (tabulariumref10_Decode.j0 k t181 bt199.2.1 bt184.1 bt187.1 bt190.1 bt193.1 bt196.1 bt199.1 true)) else (tabulariumref10_Decode.j0 k t181 bt199.2.1 bt184.1 bt187.1 bt190.1 bt193.1 bt196.1 bt199.1 true)) else (tabulariumref10_Decode.j0 k t181 bt199.2.1 bt184.1 bt187.1 bt190.1 bt193.1 bt196.1 bt199.1 true)) else (tabulariumref10_Decode.j0 k t181 bt199.2.1 bt184.1 bt187.1 bt190.1 bt193.1 bt196.1 bt199.1 true)) else (tabulariumref10_Decode.j0 k t181 bt199.2.1 bt184.1 bt187.1 bt190.1 bt193.1 bt196.1 bt199.1 true)) else (tabulariumref10_Decode.j0 k t181 bt199.2.1 bt184.1 bt187.1 bt190.1 bt193.1 bt196.1 bt199.1 true)) else (tabulariumref10_Decode.j0 k t181 bt199.2.1 bt184.1 bt187.1 bt190.1 bt193.1 bt196.1 bt199.1 true)))))))) = some (r1, r2, r3, r4, r5, r6, r7, r8) := H
 have A2 := Aside0.mk A20
 clear A20
 replace H := Option.bind_eq_some_iff.mp H
 obtain ⟨⟨t184, t185, t186⟩, A30, H⟩ := H
 replace H : ((tabulariumref01_TakeText.f k t185).bind fun bt187 => ((tabulariumref01_TakeNum.f k bt187.2.1).bind fun bt190 => ((tabulariumref01_TakeNum.f k bt190.2.1).bind fun bt193 => ((tabulariumref01_TakeNum.f k bt193.2.1).bind fun bt196 => ((tabulariumref01_TakeNum.f k bt196.2.1).bind fun bt199 => (if t183 = true then (if t186 = true then (if bt187.2.2 = true then (if bt190.2.2 = true then (if bt193.2.2 = true then (if bt196.2.2 = true then (if bt199.2.2 = true then (if bt199.1 < 0 then (tabulariumref10_Decode.j0 k t181 bt199.2.1 t184 bt187.1 bt190.1 bt193.1 bt196.1 bt199.1 true) else (tabulariumref10_Decode.j0 k t181 bt199.2.1 t184 bt187.1 bt190.1 bt193.1 bt196.1 bt199.1 (decide (bt199.1 > 8)))) else (tabulariumref10_Decode.j0 k t181 bt199.2.1 t184 bt187.1 bt190.1 bt193.1 bt196.1 bt199.1 true)) else (tabulariumref10_Decode.j0 k t181 bt199.2.1 t184 bt187.1 bt190.1 bt193.1 bt196.1 bt199.1 true)) else (tabulariumref10_Decode.j0 k t181 bt199.2.1 t184 bt187.1 bt190.1 bt193.1 bt196.1 bt199.1 true)) else (tabulariumref10_Decode.j0 k t181 bt199.2.1 t184 bt187.1 bt190.1 bt193.1 bt196.1 bt199.1 true)) else (tabulariumref10_Decode.j0 k t181 bt199.2.1 t184 bt187.1 bt190.1 bt193.1 bt196.1 bt199.1 true)) else (tabulariumref10_Decode.j0 k t181 bt199.2.1 t184 bt187.1 bt190.1 bt193.1 bt196.1 bt199.1 true)) else (tabulariumref10_Decode.j0 k t181 bt199.2.1 t184 bt187.1 bt190.1 bt193.1 bt196.1 bt199.1 true))))))) = some (r1, r2, r3, r4, r5, r6, r7, r8) := H
 have A3 := Aside0.mk A30
 clear A30
 replace H := Option.bind_eq_some_iff.mp H
 obtain ⟨⟨t187, t188, t189⟩, A40, H⟩ := H
 replace H : ((tabulariumref01_TakeNum.f k t188).bind fun bt190 => ((tabulariumref01_TakeNum.f k bt190.2.1).bind fun bt193 => ((tabulariumref01_TakeNum.f k bt193.2.1).bind fun bt196 => ((tabulariumref01_TakeNum.f k bt196.2.1).bind fun bt199 => (if t183 = true then (if t186 = true then (if t189 = true then (if bt190.2.2 = true then (if bt193.2.2 = true then (if bt196.2.2 = true then (if bt199.2.2 = true then (if bt199.1 < 0 then (tabulariumref10_Decode.j0 k t181 bt199.2.1 t184 t187 bt190.1 bt193.1 bt196.1 bt199.1 true) else (tabulariumref10_Decode.j0 k t181 bt199.2.1 t184 t187 bt190.1 bt193.1 bt196.1 bt199.1 (decide (bt199.1 > 8)))) else (tabulariumref10_Decode.j0 k t181 bt199.2.1 t184 t187 bt190.1 bt193.1 bt196.1 bt199.1 true)) else (tabulariumref10_Decode.j0 k t181 bt199.2.1 t184 t187 bt190.1 bt193.1 bt196.1 bt199.1 true)) else (tabulariumref10_Decode.j0 k t181 bt199.2.1 t184 t187 bt190.1 bt193.1 bt196.1 bt199.1 true)) else (tabulariumref10_Decode.j0 k t181 bt199.2.1 t184 t187 bt190.1 bt193.1 bt196.1 bt199.1 true)) else (tabulariumref10_Decode.j0 k t181 bt199.2.1 t184 t187 bt190.1 bt193.1 bt196.1 bt199.1 true)) else (tabulariumref10_Decode.j0 k t181 bt199.2.1 t184 t187 bt190.1 bt193.1 bt196.1 bt199.1 true)) else (tabulariumref10_Decode.j0 k t181 bt199.2.1 t184 t187 bt190.1 bt193.1 bt196.1 bt199.1 true)))))) = some (r1, r2, r3, r4, r5, r6, r7, r8) := H
 have A4 := Aside0.mk A40
 clear A40
 replace H := Option.bind_eq_some_iff.mp H
 obtain ⟨⟨t190, t191, t192⟩, A50, H⟩ := H
 replace H : ((tabulariumref01_TakeNum.f k t191).bind fun bt193 => ((tabulariumref01_TakeNum.f k bt193.2.1).bind fun bt196 => ((tabulariumref01_TakeNum.f k bt196.2.1).bind fun bt199 => (if t183 = true then (if t186 = true then (if t189 = true then (if t192 = true then (if bt193.2.2 = true then (if bt196.2.2 = true then (if bt199.2.2 = true then (if bt199.1 < 0 then (tabulariumref10_Decode.j0 k t181 bt199.2.1 t184 t187 t190 bt193.1 bt196.1 bt199.1 true) else (tabulariumref10_Decode.j0 k t181 bt199.2.1 t184 t187 t190 bt193.1 bt196.1 bt199.1 (decide (bt199.1 > 8)))) else (tabulariumref10_Decode.j0 k t181 bt199.2.1 t184 t187 t190 bt193.1 bt196.1 bt199.1 true)) else (tabulariumref10_Decode.j0 k t181 bt199.2.1 t184 t187 t190 bt193.1 bt196.1 bt199.1 true)) else (tabulariumref10_Decode.j0 k t181 bt199.2.1 t184 t187 t190 bt193.1 bt196.1 bt199.1 true)) else (tabulariumref10_Decode.j0 k t181 bt199.2.1 t184 t187 t190 bt193.1 bt196.1 bt199.1 true)) else (tabulariumref10_Decode.j0 k t181 bt199.2.1 t184 t187 t190 bt193.1 bt196.1 bt199.1 true)) else (tabulariumref10_Decode.j0 k t181 bt199.2.1 t184 t187 t190 bt193.1 bt196.1 bt199.1 true)) else (tabulariumref10_Decode.j0 k t181 bt199.2.1 t184 t187 t190 bt193.1 bt196.1 bt199.1 true))))) = some (r1, r2, r3, r4, r5, r6, r7, r8) := H
 have A5 := Aside0.mk A50
 clear A50
 replace H := Option.bind_eq_some_iff.mp H
 obtain ⟨⟨t193, t194, t195⟩, A60, H⟩ := H
 replace H : ((tabulariumref01_TakeNum.f k t194).bind fun bt196 => ((tabulariumref01_TakeNum.f k bt196.2.1).bind fun bt199 => (if t183 = true then (if t186 = true then (if t189 = true then (if t192 = true then (if t195 = true then (if bt196.2.2 = true then (if bt199.2.2 = true then (if bt199.1 < 0 then (tabulariumref10_Decode.j0 k t181 bt199.2.1 t184 t187 t190 t193 bt196.1 bt199.1 true) else (tabulariumref10_Decode.j0 k t181 bt199.2.1 t184 t187 t190 t193 bt196.1 bt199.1 (decide (bt199.1 > 8)))) else (tabulariumref10_Decode.j0 k t181 bt199.2.1 t184 t187 t190 t193 bt196.1 bt199.1 true)) else (tabulariumref10_Decode.j0 k t181 bt199.2.1 t184 t187 t190 t193 bt196.1 bt199.1 true)) else (tabulariumref10_Decode.j0 k t181 bt199.2.1 t184 t187 t190 t193 bt196.1 bt199.1 true)) else (tabulariumref10_Decode.j0 k t181 bt199.2.1 t184 t187 t190 t193 bt196.1 bt199.1 true)) else (tabulariumref10_Decode.j0 k t181 bt199.2.1 t184 t187 t190 t193 bt196.1 bt199.1 true)) else (tabulariumref10_Decode.j0 k t181 bt199.2.1 t184 t187 t190 t193 bt196.1 bt199.1 true)) else (tabulariumref10_Decode.j0 k t181 bt199.2.1 t184 t187 t190 t193 bt196.1 bt199.1 true)))) = some (r1, r2, r3, r4, r5, r6, r7, r8) := H
 have A6 := Aside0.mk A60
 clear A60
 replace H := Option.bind_eq_some_iff.mp H
 obtain ⟨⟨t196, t197, t198⟩, A70, H⟩ := H
 replace H : ((tabulariumref01_TakeNum.f k t197).bind fun bt199 => (if t183 = true then (if t186 = true then (if t189 = true then (if t192 = true then (if t195 = true then (if t198 = true then (if bt199.2.2 = true then (if bt199.1 < 0 then (tabulariumref10_Decode.j0 k t181 bt199.2.1 t184 t187 t190 t193 t196 bt199.1 true) else (tabulariumref10_Decode.j0 k t181 bt199.2.1 t184 t187 t190 t193 t196 bt199.1 (decide (bt199.1 > 8)))) else (tabulariumref10_Decode.j0 k t181 bt199.2.1 t184 t187 t190 t193 t196 bt199.1 true)) else (tabulariumref10_Decode.j0 k t181 bt199.2.1 t184 t187 t190 t193 t196 bt199.1 true)) else (tabulariumref10_Decode.j0 k t181 bt199.2.1 t184 t187 t190 t193 t196 bt199.1 true)) else (tabulariumref10_Decode.j0 k t181 bt199.2.1 t184 t187 t190 t193 t196 bt199.1 true)) else (tabulariumref10_Decode.j0 k t181 bt199.2.1 t184 t187 t190 t193 t196 bt199.1 true)) else (tabulariumref10_Decode.j0 k t181 bt199.2.1 t184 t187 t190 t193 t196 bt199.1 true)) else (tabulariumref10_Decode.j0 k t181 bt199.2.1 t184 t187 t190 t193 t196 bt199.1 true))) = some (r1, r2, r3, r4, r5, r6, r7, r8) := H
 have A7 := Aside0.mk A70
 clear A70
 replace H := Option.bind_eq_some_iff.mp H
 obtain ⟨⟨t199, t200, t201⟩, A80, H⟩ := H
 replace H : (if t183 = true then (if t186 = true then (if t189 = true then (if t192 = true then (if t195 = true then (if t198 = true then (if t201 = true then (if t199 < 0 then (tabulariumref10_Decode.j0 k t181 t200 t184 t187 t190 t193 t196 t199 true) else (tabulariumref10_Decode.j0 k t181 t200 t184 t187 t190 t193 t196 t199 (decide (t199 > 8)))) else (tabulariumref10_Decode.j0 k t181 t200 t184 t187 t190 t193 t196 t199 true)) else (tabulariumref10_Decode.j0 k t181 t200 t184 t187 t190 t193 t196 t199 true)) else (tabulariumref10_Decode.j0 k t181 t200 t184 t187 t190 t193 t196 t199 true)) else (tabulariumref10_Decode.j0 k t181 t200 t184 t187 t190 t193 t196 t199 true)) else (tabulariumref10_Decode.j0 k t181 t200 t184 t187 t190 t193 t196 t199 true)) else (tabulariumref10_Decode.j0 k t181 t200 t184 t187 t190 t193 t196 t199 true)) else (tabulariumref10_Decode.j0 k t181 t200 t184 t187 t190 t193 t196 t199 true)) = some (r1, r2, r3, r4, r5, r6, r7, r8) := H
 have A8 := Aside0.mk A80
 clear A80
 have HC9 := Aside0.mk H
 clear H
 go_enter Try.func10, Try.ntmps10
 go_upto_region 9 with (first | ((with_reducible refine gate_dst (N := 2) rfl ?_); refine box_event ?hg (N := 2) ?hd (cs := #[.int .i64 0, .string (⟨#[]⟩ : ByteArray), .string (⟨#[]⟩ : ByteArray), .int .i64 0, .int .i64 0, .int .i64 0, .slice none 0 0]) (t := 24) ?hr ?_; (case hd => rfl); (case hg => rfl); (case hr => first | (go_simp; done) | (go_simp; rfl)); intro gb179 hg w10 hbox hb; have n0_ := Aside0.mk (below_step (by exact bw0 HB) hb); have n1_ := Aside0.mk (hbox); have n2_ := Aside0.mk ((by rw [hg]; exact (below_size (by exact bw0 HB)) : w.heap.size ≤ gb179)); have n3_ := Aside0.mk ((by rw [hg]; exact (below_size (by exact bw0 HB)) : w.heap.size ≤ gb179)); clear HB; have HB := n0_; have BK179 := n1_; have GW179 := n2_; have GE179 := n3_; clear n0_ n1_ n2_ n3_; clear hb hbox hg) | ((with_reducible refine gate_dst (N := 4) rfl ?_); refine box_event ?hg (N := 4) ?hd (cs := #[.int .i64 0, .string (⟨#[]⟩ : ByteArray), .string (⟨#[]⟩ : ByteArray), .int .i64 0, .int .i64 0, .int .i64 0, .slice none 0 0]) (t := 24) ?hr ?_; (case hd => rfl); (case hg => rfl); (case hr => first | (go_simp; done) | (go_simp; rfl)); intro gb180 hg w11 hbox hb; have n0_ := Aside0.mk (blk_below (g := gb179) (o := .cells #[.int .i64 0, .string (⟨#[]⟩ : ByteArray), .string (⟨#[]⟩ : ByteArray), .int .i64 0, .int .i64 0, .int .i64 0, .slice none 0 0] 24 (0, 0)) (kx BK179) hb); have n1_ := Aside0.mk (below_step (by exact bw1 HB GE179.out) hb); have n2_ := Aside0.mk (hbox); have n3_ := Aside0.mk ((by rw [hg]; exact (below_size (by exact bw1 HB GE179.out)) : w.heap.size ≤ gb180)); have n4_ := Aside0.mk ((by rw [hg]; exact (below_size (by exact bw1 HB GE179.out)) : w.heap.size ≤ gb180)); have n5_ := Aside0.mk ((by rw [hg]; exact Nat.ne_of_lt (blk_lt (g := gb179) (o := .cells #[.int .i64 0, .string (⟨#[]⟩ : ByteArray), .string (⟨#[]⟩ : ByteArray), .int .i64 0, .int .i64 0, .int .i64 0, .slice none 0 0] 24 (0, 0)) (kx BK179)) : gb179 ≠ gb180)); have n6_ := Aside0.mk ((by rw [hg]; exact Nat.ne_of_gt (blk_lt (g := gb179) (o := .cells #[.int .i64 0, .string (⟨#[]⟩ : ByteArray), .string (⟨#[]⟩ : ByteArray), .int .i64 0, .int .i64 0, .int .i64 0, .slice none 0 0] 24 (0, 0)) (kx BK179)) : gb180 ≠ gb179)); clear BK179; clear HB; have BK179 := n0_; have HB := n1_; have BK180 := n2_; have GW180 := n3_; have GE180 := n4_; have NB179_180 := n5_; have NB180_179 := n6_; clear n0_ n1_ n2_ n3_ n4_ n5_ n6_; clear hb hbox hg) | ((with_reducible refine gate_callee (f := 19) rfl ?_); refine goesL_ (some 27) rfl rfl Try.func19 (by kernel_rfl) rfl #[.string a0] rfl (by (try simp only [List.map_toArray, List.map_cons, List.map_nil]); first | done | rfl | (simp only [List.length_drop, List.length_take]; rfl)) ?_; (with_reducible refine (tabulariumref01_TakeNum.calls k a0 t181 t182 t183 _ A2.out).mono ?_); rintro e w12 ⟨rfl, hb⟩; refine ⟨_, rfl, ?_⟩; have n0_ := Aside0.mk (blk_below (g := gb179) (o := .cells #[.int .i64 0, .string (⟨#[]⟩ : ByteArray), .string (⟨#[]⟩ : ByteArray), .int .i64 0, .int .i64 0, .int .i64 0, .slice none 0 0] 24 (0, 0)) (kx BK179) hb); have n1_ := Aside0.mk (blk_below (g := gb180) (o := .cells #[.int .i64 0, .string (⟨#[]⟩ : ByteArray), .string (⟨#[]⟩ : ByteArray), .int .i64 0, .int .i64 0, .int .i64 0, .slice none 0 0] 24 (0, 0)) (kx BK180) hb); have n2_ := Aside0.mk (below_step (by exact bw2 HB GE179.out GE180.out) hb); clear BK179; clear BK180; clear HB; have BK179 := n0_; have BK180 := n1_; have HB := n2_; clear n0_ n1_ n2_; (try clear hb); (try clear hb2); (try clear hk); (try clear hi)) | ((with_reducible refine gate_callee (f := 20) rfl ?_); refine goesL_ (some 33) rfl rfl Try.func20 (by kernel_rfl) rfl #[.string t182] rfl (by (try simp only [List.map_toArray, List.map_cons, List.map_nil]); first | done | rfl | (simp only [List.length_drop, List.length_take]; rfl)) ?_; (with_reducible refine (tabulariumref01_TakeText.calls k t182 t184 t185 t186 _ A3.out).mono ?_); rintro e w13 ⟨rfl, hb⟩; refine ⟨_, rfl, ?_⟩; have n0_ := Aside0.mk (blk_below (g := gb179) (o := .cells #[.int .i64 0, .string (⟨#[]⟩ : ByteArray), .string (⟨#[]⟩ : ByteArray), .int .i64 0, .int .i64 0, .int .i64 0, .slice none 0 0] 24 (0, 0)) (kx BK179) hb); have n1_ := Aside0.mk (blk_below (g := gb180) (o := .cells #[.int .i64 0, .string (⟨#[]⟩ : ByteArray), .string (⟨#[]⟩ : ByteArray), .int .i64 0, .int .i64 0, .int .i64 0, .slice none 0 0] 24 (0, 0)) (kx BK180) hb); have n2_ := Aside0.mk (below_step (by exact bw2 HB GE179.out GE180.out) hb); clear BK179; clear BK180; clear HB; have BK179 := n0_; have BK180 := n1_; have HB := n2_; clear n0_ n1_ n2_; (try clear hb); (try clear hb2); (try clear hk); (try clear hi)) | ((with_reducible refine gate_callee (f := 20) rfl ?_); refine goesL_ (some 39) rfl rfl Try.func20 (by kernel_rfl) rfl #[.string t185] rfl (by (try simp only [List.map_toArray, List.map_cons, List.map_nil]); first | done | rfl | (simp only [List.length_drop, List.length_take]; rfl)) ?_; (with_reducible refine (tabulariumref01_TakeText.calls k t185 t187 t188 t189 _ A4.out).mono ?_); rintro e w14 ⟨rfl, hb⟩; refine ⟨_, rfl, ?_⟩; have n0_ := Aside0.mk (blk_below (g := gb179) (o := .cells #[.int .i64 0, .string (⟨#[]⟩ : ByteArray), .string (⟨#[]⟩ : ByteArray), .int .i64 0, .int .i64 0, .int .i64 0, .slice none 0 0] 24 (0, 0)) (kx BK179) hb); have n1_ := Aside0.mk (blk_below (g := gb180) (o := .cells #[.int .i64 0, .string (⟨#[]⟩ : ByteArray), .string (⟨#[]⟩ : ByteArray), .int .i64 0, .int .i64 0, .int .i64 0, .slice none 0 0] 24 (0, 0)) (kx BK180) hb); have n2_ := Aside0.mk (below_step (by exact bw2 HB GE179.out GE180.out) hb); clear BK179; clear BK180; clear HB; have BK179 := n0_; have BK180 := n1_; have HB := n2_; clear n0_ n1_ n2_; (try clear hb); (try clear hb2); (try clear hk); (try clear hi)) | ((with_reducible refine gate_callee (f := 19) rfl ?_); refine goesL_ (some 45) rfl rfl Try.func19 (by kernel_rfl) rfl #[.string t188] rfl (by (try simp only [List.map_toArray, List.map_cons, List.map_nil]); first | done | rfl | (simp only [List.length_drop, List.length_take]; rfl)) ?_; (with_reducible refine (tabulariumref01_TakeNum.calls k t188 t190 t191 t192 _ A5.out).mono ?_); rintro e w15 ⟨rfl, hb⟩; refine ⟨_, rfl, ?_⟩; have n0_ := Aside0.mk (blk_below (g := gb179) (o := .cells #[.int .i64 0, .string (⟨#[]⟩ : ByteArray), .string (⟨#[]⟩ : ByteArray), .int .i64 0, .int .i64 0, .int .i64 0, .slice none 0 0] 24 (0, 0)) (kx BK179) hb); have n1_ := Aside0.mk (blk_below (g := gb180) (o := .cells #[.int .i64 0, .string (⟨#[]⟩ : ByteArray), .string (⟨#[]⟩ : ByteArray), .int .i64 0, .int .i64 0, .int .i64 0, .slice none 0 0] 24 (0, 0)) (kx BK180) hb); have n2_ := Aside0.mk (below_step (by exact bw2 HB GE179.out GE180.out) hb); clear BK179; clear BK180; clear HB; have BK179 := n0_; have BK180 := n1_; have HB := n2_; clear n0_ n1_ n2_; (try clear hb); (try clear hb2); (try clear hk); (try clear hi)) | ((with_reducible refine gate_callee (f := 19) rfl ?_); refine goesL_ (some 51) rfl rfl Try.func19 (by kernel_rfl) rfl #[.string t191] rfl (by (try simp only [List.map_toArray, List.map_cons, List.map_nil]); first | done | rfl | (simp only [List.length_drop, List.length_take]; rfl)) ?_; (with_reducible refine (tabulariumref01_TakeNum.calls k t191 t193 t194 t195 _ A6.out).mono ?_); rintro e w16 ⟨rfl, hb⟩; refine ⟨_, rfl, ?_⟩; have n0_ := Aside0.mk (blk_below (g := gb179) (o := .cells #[.int .i64 0, .string (⟨#[]⟩ : ByteArray), .string (⟨#[]⟩ : ByteArray), .int .i64 0, .int .i64 0, .int .i64 0, .slice none 0 0] 24 (0, 0)) (kx BK179) hb); have n1_ := Aside0.mk (blk_below (g := gb180) (o := .cells #[.int .i64 0, .string (⟨#[]⟩ : ByteArray), .string (⟨#[]⟩ : ByteArray), .int .i64 0, .int .i64 0, .int .i64 0, .slice none 0 0] 24 (0, 0)) (kx BK180) hb); have n2_ := Aside0.mk (below_step (by exact bw2 HB GE179.out GE180.out) hb); clear BK179; clear BK180; clear HB; have BK179 := n0_; have BK180 := n1_; have HB := n2_; clear n0_ n1_ n2_; (try clear hb); (try clear hb2); (try clear hk); (try clear hi)) | ((with_reducible refine gate_callee (f := 19) rfl ?_); refine goesL_ (some 57) rfl rfl Try.func19 (by kernel_rfl) rfl #[.string t194] rfl (by (try simp only [List.map_toArray, List.map_cons, List.map_nil]); first | done | rfl | (simp only [List.length_drop, List.length_take]; rfl)) ?_; (with_reducible refine (tabulariumref01_TakeNum.calls k t194 t196 t197 t198 _ A7.out).mono ?_); rintro e w17 ⟨rfl, hb⟩; refine ⟨_, rfl, ?_⟩; have n0_ := Aside0.mk (blk_below (g := gb179) (o := .cells #[.int .i64 0, .string (⟨#[]⟩ : ByteArray), .string (⟨#[]⟩ : ByteArray), .int .i64 0, .int .i64 0, .int .i64 0, .slice none 0 0] 24 (0, 0)) (kx BK179) hb); have n1_ := Aside0.mk (blk_below (g := gb180) (o := .cells #[.int .i64 0, .string (⟨#[]⟩ : ByteArray), .string (⟨#[]⟩ : ByteArray), .int .i64 0, .int .i64 0, .int .i64 0, .slice none 0 0] 24 (0, 0)) (kx BK180) hb); have n2_ := Aside0.mk (below_step (by exact bw2 HB GE179.out GE180.out) hb); clear BK179; clear BK180; clear HB; have BK179 := n0_; have BK180 := n1_; have HB := n2_; clear n0_ n1_ n2_; (try clear hb); (try clear hb2); (try clear hk); (try clear hi)) | ((with_reducible refine gate_callee (f := 19) rfl ?_); refine goesL_ (some 63) rfl rfl Try.func19 (by kernel_rfl) rfl #[.string t197] rfl (by (try simp only [List.map_toArray, List.map_cons, List.map_nil]); first | done | rfl | (simp only [List.length_drop, List.length_take]; rfl)) ?_; (with_reducible refine (tabulariumref01_TakeNum.calls k t197 t199 t200 t201 _ A8.out).mono ?_); rintro e w18 ⟨rfl, hb⟩; refine ⟨_, rfl, ?_⟩; have n0_ := Aside0.mk (blk_below (g := gb179) (o := .cells #[.int .i64 0, .string (⟨#[]⟩ : ByteArray), .string (⟨#[]⟩ : ByteArray), .int .i64 0, .int .i64 0, .int .i64 0, .slice none 0 0] 24 (0, 0)) (kx BK179) hb); have n1_ := Aside0.mk (blk_below (g := gb180) (o := .cells #[.int .i64 0, .string (⟨#[]⟩ : ByteArray), .string (⟨#[]⟩ : ByteArray), .int .i64 0, .int .i64 0, .int .i64 0, .slice none 0 0] 24 (0, 0)) (kx BK180) hb); have n2_ := Aside0.mk (below_step (by exact bw2 HB GE179.out GE180.out) hb); clear BK179; clear BK180; clear HB; have BK179 := n0_; have BK180 := n1_; have HB := n2_; clear n0_ n1_ n2_; (try clear hb); (try clear hb2); (try clear hk); (try clear hi)))
 (try simp only [Act.put, List.setIfInBounds_toArray, List.set_cons_zero, List.set_cons_succ])
 go_cut [100] (fun v100 wc => ∃ (kq : Nat) (x100_8 : Bool), v100 = .bool x100_8 ∧ Aside0 (tabulariumref10_Decode.j0 kq t181 t200 t184 t187 t190 t193 t196 t199 x100_8 = some (r1, r2, r3, r4, r5, r6, r7, r8)) ∧ Aside0 (kq ≤ k) ∧ Aside0 (wc.heap[gb179]? = some (.cells #[.int .i64 0, .string (⟨#[]⟩ : ByteArray), .string (⟨#[]⟩ : ByteArray), .int .i64 0, .int .i64 0, .int .i64 0, (.slice none 0 0)] 24 (0, 0))) ∧ Aside0 (wc.heap[gb180]? = some (.cells #[.int .i64 0, .string (⟨#[]⟩ : ByteArray), .string (⟨#[]⟩ : ByteArray), .int .i64 0, .int .i64 0, .int .i64 0, (.slice none 0 0)] 24 (0, 0))) ∧ Aside0 (Below w.heap.size w wc))
 case first =>
  have H := HC9.out
  clear HC9
  by_cases c19 : t183 = true
  ·
   subst c19
   have H1 : (if t186 = true then (if t189 = true then (if t192 = true then (if t195 = true then (if t198 = true then (if t201 = true then (if t199 < 0 then (tabulariumref10_Decode.j0 k t181 t200 t184 t187 t190 t193 t196 t199 true) else (tabulariumref10_Decode.j0 k t181 t200 t184 t187 t190 t193 t196 t199 (decide (t199 > 8)))) else (tabulariumref10_Decode.j0 k t181 t200 t184 t187 t190 t193 t196 t199 true)) else (tabulariumref10_Decode.j0 k t181 t200 t184 t187 t190 t193 t196 t199 true)) else (tabulariumref10_Decode.j0 k t181 t200 t184 t187 t190 t193 t196 t199 true)) else (tabulariumref10_Decode.j0 k t181 t200 t184 t187 t190 t193 t196 t199 true)) else (tabulariumref10_Decode.j0 k t181 t200 t184 t187 t190 t193 t196 t199 true)) else (tabulariumref10_Decode.j0 k t181 t200 t184 t187 t190 t193 t196 t199 true)) = some (r1, r2, r3, r4, r5, r6, r7, r8) := by rw [if_pos rfl] at H; exact H
   clear H
   have H := H1
   clear H1
   by_cases c20 : t186 = true
   ·
    subst c20
    have H1 : (if t189 = true then (if t192 = true then (if t195 = true then (if t198 = true then (if t201 = true then (if t199 < 0 then (tabulariumref10_Decode.j0 k t181 t200 t184 t187 t190 t193 t196 t199 true) else (tabulariumref10_Decode.j0 k t181 t200 t184 t187 t190 t193 t196 t199 (decide (t199 > 8)))) else (tabulariumref10_Decode.j0 k t181 t200 t184 t187 t190 t193 t196 t199 true)) else (tabulariumref10_Decode.j0 k t181 t200 t184 t187 t190 t193 t196 t199 true)) else (tabulariumref10_Decode.j0 k t181 t200 t184 t187 t190 t193 t196 t199 true)) else (tabulariumref10_Decode.j0 k t181 t200 t184 t187 t190 t193 t196 t199 true)) else (tabulariumref10_Decode.j0 k t181 t200 t184 t187 t190 t193 t196 t199 true)) = some (r1, r2, r3, r4, r5, r6, r7, r8) := by rw [if_pos rfl] at H; exact H
    clear H
    have H := H1
    clear H1
    by_cases c21 : t189 = true
    ·
     subst c21
     have H1 : (if t192 = true then (if t195 = true then (if t198 = true then (if t201 = true then (if t199 < 0 then (tabulariumref10_Decode.j0 k t181 t200 t184 t187 t190 t193 t196 t199 true) else (tabulariumref10_Decode.j0 k t181 t200 t184 t187 t190 t193 t196 t199 (decide (t199 > 8)))) else (tabulariumref10_Decode.j0 k t181 t200 t184 t187 t190 t193 t196 t199 true)) else (tabulariumref10_Decode.j0 k t181 t200 t184 t187 t190 t193 t196 t199 true)) else (tabulariumref10_Decode.j0 k t181 t200 t184 t187 t190 t193 t196 t199 true)) else (tabulariumref10_Decode.j0 k t181 t200 t184 t187 t190 t193 t196 t199 true)) = some (r1, r2, r3, r4, r5, r6, r7, r8) := by rw [if_pos rfl] at H; exact H
     clear H
     have H := H1
     clear H1
     by_cases c22 : t192 = true
     ·
      subst c22
      have H1 : (if t195 = true then (if t198 = true then (if t201 = true then (if t199 < 0 then (tabulariumref10_Decode.j0 k t181 t200 t184 t187 t190 t193 t196 t199 true) else (tabulariumref10_Decode.j0 k t181 t200 t184 t187 t190 t193 t196 t199 (decide (t199 > 8)))) else (tabulariumref10_Decode.j0 k t181 t200 t184 t187 t190 t193 t196 t199 true)) else (tabulariumref10_Decode.j0 k t181 t200 t184 t187 t190 t193 t196 t199 true)) else (tabulariumref10_Decode.j0 k t181 t200 t184 t187 t190 t193 t196 t199 true)) = some (r1, r2, r3, r4, r5, r6, r7, r8) := by rw [if_pos rfl] at H; exact H
      clear H
      have H := H1
      clear H1
      by_cases c23 : t195 = true
      ·
       subst c23
       have H1 : (if t198 = true then (if t201 = true then (if t199 < 0 then (tabulariumref10_Decode.j0 k t181 t200 t184 t187 t190 t193 t196 t199 true) else (tabulariumref10_Decode.j0 k t181 t200 t184 t187 t190 t193 t196 t199 (decide (t199 > 8)))) else (tabulariumref10_Decode.j0 k t181 t200 t184 t187 t190 t193 t196 t199 true)) else (tabulariumref10_Decode.j0 k t181 t200 t184 t187 t190 t193 t196 t199 true)) = some (r1, r2, r3, r4, r5, r6, r7, r8) := by rw [if_pos rfl] at H; exact H
       clear H
       have H := H1
       clear H1
       by_cases c24 : t198 = true
       ·
        subst c24
        have H1 : (if t201 = true then (if t199 < 0 then (tabulariumref10_Decode.j0 k t181 t200 t184 t187 t190 t193 t196 t199 true) else (tabulariumref10_Decode.j0 k t181 t200 t184 t187 t190 t193 t196 t199 (decide (t199 > 8)))) else (tabulariumref10_Decode.j0 k t181 t200 t184 t187 t190 t193 t196 t199 true)) = some (r1, r2, r3, r4, r5, r6, r7, r8) := by rw [if_pos rfl] at H; exact H
        clear H
        have H := H1
        clear H1
        by_cases c25 : t201 = true
        ·
         subst c25
         have H1 : (if t199 < 0 then (tabulariumref10_Decode.j0 k t181 t200 t184 t187 t190 t193 t196 t199 true) else (tabulariumref10_Decode.j0 k t181 t200 t184 t187 t190 t193 t196 t199 (decide (t199 > 8)))) = some (r1, r2, r3, r4, r5, r6, r7, r8) := by rw [if_pos rfl] at H; exact H
         clear H
         have H := H1
         clear H1
         by_cases c26 : t199 < 0
         ·
          rw [if_pos c26] at H
          have c26b0 : decide (t199 < 0) = true := decide_eq_true c26
          clear c26
          (first | rw [c26b0] | (simp only [i64_w, i32_w]; rw [c26b0]) | skip)
          have H' := Aside0.mk H
          clear H
          go_wp2
          go_meet
          case rel => exact ⟨_, (true), (by first | rfl | (simp; done) | (simp [*]; done) | (simp; exact (fun (l_ : List UInt8) => by cases l_ <;> rfl : ∀ l_ : List UInt8, l_.isEmpty = !(l_ != [])) _)), H', ⟨by first | omega | exact Nat.le_refl _⟩, ⟨by (with_reducible repeat (first | refine blk_drewN ?_ _ | refine blk_drew ?_ | refine blk_alloc ?_ _)); exact BK179.out⟩, ⟨by (with_reducible repeat (first | refine blk_drewN ?_ _ | refine blk_drew ?_ | refine blk_alloc ?_ _)); exact BK180.out⟩, ⟨by repeat (first | (with_reducible first | exact HB.out | apply below_alloc | apply pw_below_drewN | apply below_drew1 | refine below_set ?_ GE179.out | refine below_set ?_ GE180.out) | exact HB.out)⟩⟩
         ·
          rw [if_neg c26] at H
          have c26b0 : decide (t199 < 0) = false := decide_eq_false c26
          clear c26
          (first | rw [c26b0] | (simp only [i64_w, i32_w]; rw [c26b0]) | skip)
          have H' := Aside0.mk H
          clear H
          go_wp2
          go_meet
          case rel => exact ⟨_, (decide (t199 > 8)), (by first | rfl | (simp; done) | (simp [*]; done) | (simp; exact (fun (l_ : List UInt8) => by cases l_ <;> rfl : ∀ l_ : List UInt8, l_.isEmpty = !(l_ != [])) _)), H', ⟨by first | omega | exact Nat.le_refl _⟩, ⟨by (with_reducible repeat (first | refine blk_drewN ?_ _ | refine blk_drew ?_ | refine blk_alloc ?_ _)); exact BK179.out⟩, ⟨by (with_reducible repeat (first | refine blk_drewN ?_ _ | refine blk_drew ?_ | refine blk_alloc ?_ _)); exact BK180.out⟩, ⟨by repeat (first | (with_reducible first | exact HB.out | apply below_alloc | apply pw_below_drewN | apply below_drew1 | refine below_set ?_ GE179.out | refine below_set ?_ GE180.out) | exact HB.out)⟩⟩
        ·
         replace c25 := Bool.eq_false_iff.mpr c25
         subst c25
         have H1 : (tabulariumref10_Decode.j0 k t181 t200 t184 t187 t190 t193 t196 t199 true) = some (r1, r2, r3, r4, r5, r6, r7, r8) := by rw [if_neg (show ¬ (false = true) by decide)] at H; exact H
         clear H
         have H := H1
         clear H1
         have H' := Aside0.mk H
         clear H
         go_wp2
         go_meet
         case rel => exact ⟨_, (true), (by first | rfl | (simp; done) | (simp [*]; done) | (simp; exact (fun (l_ : List UInt8) => by cases l_ <;> rfl : ∀ l_ : List UInt8, l_.isEmpty = !(l_ != [])) _)), H', ⟨by first | omega | exact Nat.le_refl _⟩, ⟨by (with_reducible repeat (first | refine blk_drewN ?_ _ | refine blk_drew ?_ | refine blk_alloc ?_ _)); exact BK179.out⟩, ⟨by (with_reducible repeat (first | refine blk_drewN ?_ _ | refine blk_drew ?_ | refine blk_alloc ?_ _)); exact BK180.out⟩, ⟨by repeat (first | (with_reducible first | exact HB.out | apply below_alloc | apply pw_below_drewN | apply below_drew1 | refine below_set ?_ GE179.out | refine below_set ?_ GE180.out) | exact HB.out)⟩⟩
       ·
        replace c24 := Bool.eq_false_iff.mpr c24
        subst c24
        have H1 : (tabulariumref10_Decode.j0 k t181 t200 t184 t187 t190 t193 t196 t199 true) = some (r1, r2, r3, r4, r5, r6, r7, r8) := by rw [if_neg (show ¬ (false = true) by decide)] at H; exact H
        clear H
        have H := H1
        clear H1
        have H' := Aside0.mk H
        clear H
        go_wp2
        go_meet
        case rel => exact ⟨_, (true), (by first | rfl | (simp; done) | (simp [*]; done) | (simp; exact (fun (l_ : List UInt8) => by cases l_ <;> rfl : ∀ l_ : List UInt8, l_.isEmpty = !(l_ != [])) _)), H', ⟨by first | omega | exact Nat.le_refl _⟩, ⟨by (with_reducible repeat (first | refine blk_drewN ?_ _ | refine blk_drew ?_ | refine blk_alloc ?_ _)); exact BK179.out⟩, ⟨by (with_reducible repeat (first | refine blk_drewN ?_ _ | refine blk_drew ?_ | refine blk_alloc ?_ _)); exact BK180.out⟩, ⟨by repeat (first | (with_reducible first | exact HB.out | apply below_alloc | apply pw_below_drewN | apply below_drew1 | refine below_set ?_ GE179.out | refine below_set ?_ GE180.out) | exact HB.out)⟩⟩
      ·
       replace c23 := Bool.eq_false_iff.mpr c23
       subst c23
       have H1 : (tabulariumref10_Decode.j0 k t181 t200 t184 t187 t190 t193 t196 t199 true) = some (r1, r2, r3, r4, r5, r6, r7, r8) := by rw [if_neg (show ¬ (false = true) by decide)] at H; exact H
       clear H
       have H := H1
       clear H1
       have H' := Aside0.mk H
       clear H
       go_wp2
       go_meet
       case rel => exact ⟨_, (true), (by first | rfl | (simp; done) | (simp [*]; done) | (simp; exact (fun (l_ : List UInt8) => by cases l_ <;> rfl : ∀ l_ : List UInt8, l_.isEmpty = !(l_ != [])) _)), H', ⟨by first | omega | exact Nat.le_refl _⟩, ⟨by (with_reducible repeat (first | refine blk_drewN ?_ _ | refine blk_drew ?_ | refine blk_alloc ?_ _)); exact BK179.out⟩, ⟨by (with_reducible repeat (first | refine blk_drewN ?_ _ | refine blk_drew ?_ | refine blk_alloc ?_ _)); exact BK180.out⟩, ⟨by repeat (first | (with_reducible first | exact HB.out | apply below_alloc | apply pw_below_drewN | apply below_drew1 | refine below_set ?_ GE179.out | refine below_set ?_ GE180.out) | exact HB.out)⟩⟩
     ·
      replace c22 := Bool.eq_false_iff.mpr c22
      subst c22
      have H1 : (tabulariumref10_Decode.j0 k t181 t200 t184 t187 t190 t193 t196 t199 true) = some (r1, r2, r3, r4, r5, r6, r7, r8) := by rw [if_neg (show ¬ (false = true) by decide)] at H; exact H
      clear H
      have H := H1
      clear H1
      have H' := Aside0.mk H
      clear H
      go_wp2
      go_meet
      case rel => exact ⟨_, (true), (by first | rfl | (simp; done) | (simp [*]; done) | (simp; exact (fun (l_ : List UInt8) => by cases l_ <;> rfl : ∀ l_ : List UInt8, l_.isEmpty = !(l_ != [])) _)), H', ⟨by first | omega | exact Nat.le_refl _⟩, ⟨by (with_reducible repeat (first | refine blk_drewN ?_ _ | refine blk_drew ?_ | refine blk_alloc ?_ _)); exact BK179.out⟩, ⟨by (with_reducible repeat (first | refine blk_drewN ?_ _ | refine blk_drew ?_ | refine blk_alloc ?_ _)); exact BK180.out⟩, ⟨by repeat (first | (with_reducible first | exact HB.out | apply below_alloc | apply pw_below_drewN | apply below_drew1 | refine below_set ?_ GE179.out | refine below_set ?_ GE180.out) | exact HB.out)⟩⟩
    ·
     replace c21 := Bool.eq_false_iff.mpr c21
     subst c21
     have H1 : (tabulariumref10_Decode.j0 k t181 t200 t184 t187 t190 t193 t196 t199 true) = some (r1, r2, r3, r4, r5, r6, r7, r8) := by rw [if_neg (show ¬ (false = true) by decide)] at H; exact H
     clear H
     have H := H1
     clear H1
     have H' := Aside0.mk H
     clear H
     go_wp2
     go_meet
     case rel => exact ⟨_, (true), (by first | rfl | (simp; done) | (simp [*]; done) | (simp; exact (fun (l_ : List UInt8) => by cases l_ <;> rfl : ∀ l_ : List UInt8, l_.isEmpty = !(l_ != [])) _)), H', ⟨by first | omega | exact Nat.le_refl _⟩, ⟨by (with_reducible repeat (first | refine blk_drewN ?_ _ | refine blk_drew ?_ | refine blk_alloc ?_ _)); exact BK179.out⟩, ⟨by (with_reducible repeat (first | refine blk_drewN ?_ _ | refine blk_drew ?_ | refine blk_alloc ?_ _)); exact BK180.out⟩, ⟨by repeat (first | (with_reducible first | exact HB.out | apply below_alloc | apply pw_below_drewN | apply below_drew1 | refine below_set ?_ GE179.out | refine below_set ?_ GE180.out) | exact HB.out)⟩⟩
   ·
    replace c20 := Bool.eq_false_iff.mpr c20
    subst c20
    have H1 : (tabulariumref10_Decode.j0 k t181 t200 t184 t187 t190 t193 t196 t199 true) = some (r1, r2, r3, r4, r5, r6, r7, r8) := by rw [if_neg (show ¬ (false = true) by decide)] at H; exact H
    clear H
    have H := H1
    clear H1
    have H' := Aside0.mk H
    clear H
    go_wp2
    go_meet
    case rel => exact ⟨_, (true), (by first | rfl | (simp; done) | (simp [*]; done) | (simp; exact (fun (l_ : List UInt8) => by cases l_ <;> rfl : ∀ l_ : List UInt8, l_.isEmpty = !(l_ != [])) _)), H', ⟨by first | omega | exact Nat.le_refl _⟩, ⟨by (with_reducible repeat (first | refine blk_drewN ?_ _ | refine blk_drew ?_ | refine blk_alloc ?_ _)); exact BK179.out⟩, ⟨by (with_reducible repeat (first | refine blk_drewN ?_ _ | refine blk_drew ?_ | refine blk_alloc ?_ _)); exact BK180.out⟩, ⟨by repeat (first | (with_reducible first | exact HB.out | apply below_alloc | apply pw_below_drewN | apply below_drew1 | refine below_set ?_ GE179.out | refine below_set ?_ GE180.out) | exact HB.out)⟩⟩
  ·
   replace c19 := Bool.eq_false_iff.mpr c19
   subst c19
   have H1 : (tabulariumref10_Decode.j0 k t181 t200 t184 t187 t190 t193 t196 t199 true) = some (r1, r2, r3, r4, r5, r6, r7, r8) := by rw [if_neg (show ¬ (false = true) by decide)] at H; exact H
   clear H
   have H := H1
   clear H1
   have H' := Aside0.mk H
   clear H
   go_wp2
   go_meet
   case rel => exact ⟨_, (true), (by first | rfl | (simp; done) | (simp [*]; done) | (simp; exact (fun (l_ : List UInt8) => by cases l_ <;> rfl : ∀ l_ : List UInt8, l_.isEmpty = !(l_ != [])) _)), H', ⟨by first | omega | exact Nat.le_refl _⟩, ⟨by (with_reducible repeat (first | refine blk_drewN ?_ _ | refine blk_drew ?_ | refine blk_alloc ?_ _)); exact BK179.out⟩, ⟨by (with_reducible repeat (first | refine blk_drewN ?_ _ | refine blk_drew ?_ | refine blk_alloc ?_ _)); exact BK180.out⟩, ⟨by repeat (first | (with_reducible first | exact HB.out | apply below_alloc | apply pw_below_drewN | apply below_drew1 | refine below_set ?_ GE179.out | refine below_set ?_ GE180.out) | exact HB.out)⟩⟩
 case rest =>
  clear HC9
  try clear c1
  try clear c2
  try clear p2
  try clear c10
  try clear c19
  try clear c20
  try clear c21
  try clear c22
  try clear c23
  try clear c24
  try clear c25
  try clear c26
  try clear c26b0
  obtain ⟨kq, x100_8, rfl, HA, HJ8, BK179, BK180, HB⟩ := hcut
  cases kq with
  | zero => exact absurd HA.out (by simp [tabulariumref10_Decode.j0])
  | succ kj8 =>
   have H := HA.out
   clear HA
   simp only [tabulariumref10_Decode.j0] at H
   by_cases c27 : x100_8 = true
   ·
    subst c27
    have H1 : (some (0, (⟨#[]⟩ : ByteArray), (⟨#[]⟩ : ByteArray), 0, 0, 0, ([] : List Int), false)) = some (r1, r2, r3, r4, r5, r6, r7, r8) := by rw [if_pos rfl] at H; exact H
    clear H
    have H := H1
    clear H1
    simp only [Option.some.injEq, Prod.mk.injEq] at H
    obtain ⟨rfl, rfl, rfl, rfl, rfl, rfl, rfl, rfl⟩ := H
    have hnb28 := NB179_180.out
    have hnc28 := NB180_179.out
    have hcz29_0 : wc.cell? ⟨gb179, 0, none⟩ = some (.int .i64 0) := (blk_cell BK179.out 0).trans rfl
    have hcz29_1 : wc.cell? ⟨gb179, 1, none⟩ = some (.string (⟨#[]⟩ : ByteArray)) := (blk_cell BK179.out 1).trans rfl
    have hcz29_2 : wc.cell? ⟨gb179, 2, none⟩ = some (.string (⟨#[]⟩ : ByteArray)) := (blk_cell BK179.out 2).trans rfl
    have hcz29_3 : wc.cell? ⟨gb179, 3, none⟩ = some (.int .i64 0) := (blk_cell BK179.out 3).trans rfl
    have hcz29_4 : wc.cell? ⟨gb179, 4, none⟩ = some (.int .i64 0) := (blk_cell BK179.out 4).trans rfl
    have hcz29_5 : wc.cell? ⟨gb179, 5, none⟩ = some (.int .i64 0) := (blk_cell BK179.out 5).trans rfl
    have hcz29_6 : wc.cell? ⟨gb179, 6, none⟩ = some (.slice none 0 0) := (blk_cell BK179.out 6).trans rfl
    have hfz29_0 := blk_frozen BK179.out 0
    have hfz29_1 := blk_frozen BK179.out 1
    have hfz29_2 := blk_frozen BK179.out 2
    have hfz29_3 := blk_frozen BK179.out 3
    have hfz29_4 := blk_frozen BK179.out 4
    have hfz29_5 := blk_frozen BK179.out 5
    have hfz29_6 := blk_frozen BK179.out 6
    go_wp2
    refine bodyPost_ret (results_ct rfl _ _ gb179 24 #[.int .i64 0, .string (⟨#[]⟩ : ByteArray), .string (⟨#[]⟩ : ByteArray), .int .i64 0, .int .i64 0, .int .i64 0, .slice none 0 0] (0, 0) _ rfl (by (with_reducible repeat (first | refine blk_drewN ?_ _ | refine blk_drew ?_ | refine blk_alloc ?_ _)); refine blk_put (cs := #[.int .i64 0, .string (⟨#[]⟩ : ByteArray), .string (⟨#[]⟩ : ByteArray), .int .i64 0, .int .i64 0, .int .i64 0, .slice none 0 0]) ?_ 6 _ rfl; (with_reducible repeat (first | refine blk_drewN ?_ _ | refine blk_drew ?_ | refine blk_alloc ?_ _)); refine blk_put (cs := #[.int .i64 0, .string (⟨#[]⟩ : ByteArray), .string (⟨#[]⟩ : ByteArray), .int .i64 0, .int .i64 0, .int .i64 0, .slice none 0 0]) ?_ 5 _ rfl; (with_reducible repeat (first | refine blk_drewN ?_ _ | refine blk_drew ?_ | refine blk_alloc ?_ _)); refine blk_put (cs := #[.int .i64 0, .string (⟨#[]⟩ : ByteArray), .string (⟨#[]⟩ : ByteArray), .int .i64 0, .int .i64 0, .int .i64 0, .slice none 0 0]) ?_ 4 _ rfl; (with_reducible repeat (first | refine blk_drewN ?_ _ | refine blk_drew ?_ | refine blk_alloc ?_ _)); refine blk_put (cs := #[.int .i64 0, .string (⟨#[]⟩ : ByteArray), .string (⟨#[]⟩ : ByteArray), .int .i64 0, .int .i64 0, .int .i64 0, .slice none 0 0]) ?_ 3 _ rfl; (with_reducible repeat (first | refine blk_drewN ?_ _ | refine blk_drew ?_ | refine blk_alloc ?_ _)); refine blk_put (cs := #[.int .i64 0, .string (⟨#[]⟩ : ByteArray), .string (⟨#[]⟩ : ByteArray), .int .i64 0, .int .i64 0, .int .i64 0, .slice none 0 0]) ?_ 2 _ rfl; (with_reducible repeat (first | refine blk_drewN ?_ _ | refine blk_drew ?_ | refine blk_alloc ?_ _)); refine blk_put (cs := #[.int .i64 0, .string (⟨#[]⟩ : ByteArray), .string (⟨#[]⟩ : ByteArray), .int .i64 0, .int .i64 0, .int .i64 0, .slice none 0 0]) ?_ 1 _ rfl; (with_reducible repeat (first | refine blk_drewN ?_ _ | refine blk_drew ?_ | refine blk_alloc ?_ _)); refine blk_put (cs := #[.int .i64 0, .string (⟨#[]⟩ : ByteArray), .string (⟨#[]⟩ : ByteArray), .int .i64 0, .int .i64 0, .int .i64 0, .slice none 0 0]) ?_ 0 _ rfl; (with_reducible repeat (first | refine blk_drewN ?_ _ | refine blk_drew ?_ | refine blk_alloc ?_ _)); exact BK179.out) Try.underlying24 rfl (by kernel_rfl)) rfl ?_
    exact ⟨_, by first | rfl | (simp [errW_none, errW_some] <;> rfl) | (simp [*, errW_none, errW_some] <;> rfl), by first | exact Kd.R_nil _ _ _ _ _ | exact Kd.N_nil _ _ _ _ _ | exact Kd.V_nil _ _ _ _ _ | exact Kd.Q_nil _ _ _ _ _ | exact Kd.S_nil _ _ _ _ _, by repeat (first | (with_reducible first | exact HB.out | apply below_alloc | apply pw_below_drewN | apply below_drew1 | refine below_set ?_ GE179.out | refine below_set ?_ GE180.out) | exact HB.out)⟩
   ·
    replace c27 := Bool.eq_false_iff.mpr c27
    subst c27
    have H1 : (tabulariumref10_Decode.l0 kj8 t200 t199 0 t181 t184 t187 t190 t193 t196 ([] : List Int)) = some (r1, r2, r3, r4, r5, r6, r7, r8) := by rw [if_neg (show ¬ (false = true) by decide)] at H; exact H
    clear H
    have H := H1
    clear H1
    have H' := Aside0.mk H
    clear H
    have hnb30 := NB180_179.out
    have hnc30 := NB179_180.out
    have hcz31_0 : wc.cell? ⟨gb180, 0, none⟩ = some (.int .i64 0) := (blk_cell BK180.out 0).trans rfl
    have hcz31_1 : wc.cell? ⟨gb180, 1, none⟩ = some (.string (⟨#[]⟩ : ByteArray)) := (blk_cell BK180.out 1).trans rfl
    have hcz31_2 : wc.cell? ⟨gb180, 2, none⟩ = some (.string (⟨#[]⟩ : ByteArray)) := (blk_cell BK180.out 2).trans rfl
    have hcz31_3 : wc.cell? ⟨gb180, 3, none⟩ = some (.int .i64 0) := (blk_cell BK180.out 3).trans rfl
    have hcz31_4 : wc.cell? ⟨gb180, 4, none⟩ = some (.int .i64 0) := (blk_cell BK180.out 4).trans rfl
    have hcz31_5 : wc.cell? ⟨gb180, 5, none⟩ = some (.int .i64 0) := (blk_cell BK180.out 5).trans rfl
    have hcz31_6 : wc.cell? ⟨gb180, 6, none⟩ = some (.slice none 0 0) := (blk_cell BK180.out 6).trans rfl
    have hfz31_0 := blk_frozen BK180.out 0
    have hfz31_1 := blk_frozen BK180.out 1
    have hfz31_2 := blk_frozen BK180.out 2
    have hfz31_3 := blk_frozen BK180.out 3
    have hfz31_4 := blk_frozen BK180.out 4
    have hfz31_5 := blk_frozen BK180.out 5
    have hfz31_6 := blk_frozen BK180.out 6
    go_wp2
    go_loopg [6, 20] kj8 (fun kq v6 v20 w' => ∃ (x6_2 : ByteArray) (x20_2 : Int) (x180000_2 : Int) (x180001_2 : ByteArray) (x180002_2 : ByteArray) (x180003_2 : Int) (x180004_2 : Int) (x180005_2 : Int) (x181006_2 : List Int) (u181006 : Value), v6 = .string x6_2 ∧ v20 = .int .i64 x20_2 ∧ Aside0 (tabulariumref10_Decode.l0 kq x6_2 t199 x20_2 t181 t184 t187 t190 t193 t196 x181006_2 = some (r1, r2, r3, r4, r5, r6, r7, r8)) ∧ Aside0 (kq ≤ kj8) ∧ Aside0 (Kd.R (Kd.int .i64) 3 w' w.heap.size (fun _ => True) u181006 x181006_2) ∧ Aside0 (w'.heap[gb179]? = some (.cells #[.int .i64 x180000_2, .string x180001_2, .string x180002_2, .int .i64 x180003_2, .int .i64 x180004_2, .int .i64 x180005_2, (.slice none 0 0)] 24 (0, 0))) ∧ Aside0 (w'.heap[gb180]? = some (.cells #[.int .i64 t181, .string t184, .string t187, .int .i64 t190, .int .i64 t193, .int .i64 t196, u181006] 24 (0, 0))) ∧ Aside0 (Below w.heap.size w w'))
    case atStart => exact ⟨(t200), (0), (0), ((⟨#[]⟩ : ByteArray)), ((⟨#[]⟩ : ByteArray)), (0), (0), (0), (([] : List Int)), (.slice none 0 0), (by first | rfl | (simp; done) | (simp [*]; done) | (simp; exact (fun (l_ : List UInt8) => by cases l_ <;> rfl : ∀ l_ : List UInt8, l_.isEmpty = !(l_ != [])) _)), (by first | rfl | (simp; done) | (simp [*]; done) | (simp; exact (fun (l_ : List UInt8) => by cases l_ <;> rfl : ∀ l_ : List UInt8, l_.isEmpty = !(l_ != [])) _)), H', ⟨Nat.le_refl _⟩, ⟨by first | exact Kd.R_nil _ _ _ _ _ | exact Kd.N_nil _ _ _ _ _ | exact Kd.V_nil _ _ _ _ _ | exact Kd.Q_nil _ _ _ _ _ | exact Kd.S_nil _ _ _ _ _⟩, ⟨by (with_reducible repeat (first | refine blk_drewN ?_ _ | refine blk_drew ?_ | refine blk_alloc ?_ _)); refine blk_far ?_ NB179_180.out _; (with_reducible repeat (first | refine blk_drewN ?_ _ | refine blk_drew ?_ | refine blk_alloc ?_ _)); refine blk_far ?_ NB179_180.out _; (with_reducible repeat (first | refine blk_drewN ?_ _ | refine blk_drew ?_ | refine blk_alloc ?_ _)); refine blk_far ?_ NB179_180.out _; (with_reducible repeat (first | refine blk_drewN ?_ _ | refine blk_drew ?_ | refine blk_alloc ?_ _)); refine blk_far ?_ NB179_180.out _; (with_reducible repeat (first | refine blk_drewN ?_ _ | refine blk_drew ?_ | refine blk_alloc ?_ _)); refine blk_far ?_ NB179_180.out _; (with_reducible repeat (first | refine blk_drewN ?_ _ | refine blk_drew ?_ | refine blk_alloc ?_ _)); refine blk_far ?_ NB179_180.out _; (with_reducible repeat (first | refine blk_drewN ?_ _ | refine blk_drew ?_ | refine blk_alloc ?_ _)); refine blk_far ?_ NB179_180.out _; (with_reducible repeat (first | refine blk_drewN ?_ _ | refine blk_drew ?_ | refine blk_alloc ?_ _)); exact BK179.out⟩, ⟨by (with_reducible repeat (first | refine blk_drewN ?_ _ | refine blk_drew ?_ | refine blk_alloc ?_ _)); refine blk_put (cs := #[.int .i64 t181, .string t184, .string t187, .int .i64 t190, .int .i64 t193, .int .i64 t196, .slice none 0 0]) ?_ 6 _ rfl; (with_reducible repeat (first | refine blk_drewN ?_ _ | refine blk_drew ?_ | refine blk_alloc ?_ _)); refine blk_put (cs := #[.int .i64 t181, .string t184, .string t187, .int .i64 t190, .int .i64 t193, .int .i64 0, .slice none 0 0]) ?_ 5 _ rfl; (with_reducible repeat (first | refine blk_drewN ?_ _ | refine blk_drew ?_ | refine blk_alloc ?_ _)); refine blk_put (cs := #[.int .i64 t181, .string t184, .string t187, .int .i64 t190, .int .i64 0, .int .i64 0, .slice none 0 0]) ?_ 4 _ rfl; (with_reducible repeat (first | refine blk_drewN ?_ _ | refine blk_drew ?_ | refine blk_alloc ?_ _)); refine blk_put (cs := #[.int .i64 t181, .string t184, .string t187, .int .i64 0, .int .i64 0, .int .i64 0, .slice none 0 0]) ?_ 3 _ rfl; (with_reducible repeat (first | refine blk_drewN ?_ _ | refine blk_drew ?_ | refine blk_alloc ?_ _)); refine blk_put (cs := #[.int .i64 t181, .string t184, .string (⟨#[]⟩ : ByteArray), .int .i64 0, .int .i64 0, .int .i64 0, .slice none 0 0]) ?_ 2 _ rfl; (with_reducible repeat (first | refine blk_drewN ?_ _ | refine blk_drew ?_ | refine blk_alloc ?_ _)); refine blk_put (cs := #[.int .i64 t181, .string (⟨#[]⟩ : ByteArray), .string (⟨#[]⟩ : ByteArray), .int .i64 0, .int .i64 0, .int .i64 0, .slice none 0 0]) ?_ 1 _ rfl; (with_reducible repeat (first | refine blk_drewN ?_ _ | refine blk_drew ?_ | refine blk_alloc ?_ _)); refine blk_put (cs := #[.int .i64 0, .string (⟨#[]⟩ : ByteArray), .string (⟨#[]⟩ : ByteArray), .int .i64 0, .int .i64 0, .int .i64 0, .slice none 0 0]) ?_ 0 _ rfl; (with_reducible repeat (first | refine blk_drewN ?_ _ | refine blk_drew ?_ | refine blk_alloc ?_ _)); exact BK180.out⟩, ⟨by repeat (first | (with_reducible first | exact HB.out | apply below_alloc | apply pw_below_drewN | apply below_drew1 | refine below_set ?_ GE179.out | refine below_set ?_ GE180.out) | exact HB.out)⟩⟩
    case round =>
     clear H'
     try clear c1
     try clear c2
     try clear p2
     try clear c3
     try clear c10
     try clear c19
     try clear c20
     try clear c21
     try clear c22
     try clear c23
     try clear c24
     try clear c25
     try clear c26
     try clear c26b0
     try clear c27
     try clear c28
     try clear c30
     try clear hcz29_0
     try clear hcz29_1
     try clear hcz29_2
     try clear hcz29_3
     try clear hcz29_4
     try clear hcz29_5
     try clear hcz29_6
     try clear hcz31_0
     try clear hcz31_1
     try clear hcz31_2
     try clear hcz31_3
     try clear hcz31_4
     try clear hcz31_5
     try clear hcz31_6
     try clear hfz29_0
     try clear hfz29_1
     try clear hfz29_2
     try clear hfz29_3
     try clear hfz29_4
     try clear hfz29_5
     try clear hfz29_6
     try clear hfz31_0
     try clear hfz31_1
     try clear hfz31_2
     try clear hfz31_3
     try clear hfz31_4
     try clear hfz31_5
     try clear hfz31_6
     try clear p2
     obtain ⟨x6_2, x20_2, x180000_2, x180001_2, x180002_2, x180003_2, x180004_2, x180005_2, x181006_2, u181006, rfl, rfl, HA, HK2, HO_181006, BK179, BK180, HB⟩ := hrel
     cases gk with
     | zero => exact absurd HA.out (by simp [tabulariumref10_Decode.l0])
     | succ k2 =>
      have H := HA.out
      clear HA
      simp only [tabulariumref10_Decode.l0] at H
      by_cases c32 : x20_2 < t199
      ·
       rw [if_pos c32] at H
       have c32b0 : decide (x20_2 < t199) = true := decide_eq_true c32
       clear c32
       replace H := Option.bind_eq_some_iff.mp H
       obtain ⟨⟨t202, t203, t204⟩, A330, H⟩ := H
       replace H : (if t204 = true then (if x181006_2.length < 17592186044416 then (tabulariumref10_Decode.l0 k2 t203 t199 (wrap64 (x20_2 + 1)) t181 t184 t187 t190 t193 t196 (x181006_2 ++ [t202])) else (none)) else (some (0, (⟨#[]⟩ : ByteArray), (⟨#[]⟩ : ByteArray), 0, 0, 0, ([] : List Int), false))) = some (r1, r2, r3, r4, r5, r6, r7, r8) := H
       have A33 := Aside0.mk A330
       clear A330
       by_cases c34 : t204 = true
       ·
        subst c34
        have H1 : (if x181006_2.length < 17592186044416 then (tabulariumref10_Decode.l0 k2 t203 t199 (wrap64 (x20_2 + 1)) t181 t184 t187 t190 t193 t196 (x181006_2 ++ [t202])) else (none)) = some (r1, r2, r3, r4, r5, r6, r7, r8) := by rw [if_pos rfl] at H; exact H
        clear H
        have H := H1
        clear H1
        by_cases c35 : x181006_2.length < 17592186044416
        ·
         rw [if_pos c35] at H
         have LMc35 := Aside0.mk c35
         clear c35
         obtain ⟨y205, hy205⟩ : ∃ y_ : List Int, y_ = (x181006_2 ++ [t202]) := ⟨_, rfl⟩
         replace H : (tabulariumref10_Decode.l0 k2 t203 t199 (wrap64 (x20_2 + 1)) t181 t184 t187 t190 t193 t196 y205) = some (r1, r2, r3, r4, r5, r6, r7, r8) := by first | (rw [hy205]; with_reducible exact H) | (have H2_ := (Option.bind_some _ _).symm.trans H; rw [hy205]; with_reducible exact H2_) | (have H2_ := (Option.bind_some _ _).symm.trans H; with_reducible exact H2_) | with_reducible exact H | (rw [hy205]; exact H) | exact H
         have Ny205 := Aside0.mk hy205
         clear hy205
         have H' := Aside0.mk H
         clear H
         go_wp2_with (first | ((with_reducible refine gate_callee (f := 19) rfl ?_); refine goesL_ (some 116) rfl rfl Try.func19 (by kernel_rfl) rfl #[.string x6_2] rfl (by (try simp only [List.map_toArray, List.map_cons, List.map_nil]); first | done | rfl | (simp only [List.length_drop, List.length_take]; rfl)) ?_; (with_reducible refine (tabulariumref01_TakeNum.calls k2 x6_2 t202 t203 true _ A33.out).mono ?_); rintro e w36 ⟨rfl, hb⟩; refine ⟨_, rfl, ?_⟩; have n0_ := Aside0.mk (Kd.R_below (by (with_reducible repeat (first | apply Kd.R_alloc | apply Kd.R_drewN | apply Kd.R_drew)); exact HO_181006.out) hb); have n1_ := Aside0.mk (blk_below (g := gb179) (o := .cells #[.int .i64 x180000_2, .string x180001_2, .string x180002_2, .int .i64 x180003_2, .int .i64 x180004_2, .int .i64 x180005_2, .slice none 0 0] 24 (0, 0)) (kx BK179) hb); have n2_ := Aside0.mk (blk_below (g := gb180) (o := .cells #[.int .i64 t181, .string t184, .string t187, .int .i64 t190, .int .i64 t193, .int .i64 t196, u181006] 24 (0, 0)) (kx BK180) hb); have n3_ := Aside0.mk (below_step (by exact bw2 HB GE179.out GE180.out) hb); clear HO_181006; clear BK179; clear BK180; clear HB; have HO_181006 := n0_; have BK179 := n1_; have BK180 := n2_; have HB := n3_; clear n0_ n1_ n2_ n3_; (try clear hb); (try clear hb2); (try clear hk); (try clear hi); have hnb37 := NB180_179.out; have hnc37 := NB179_180.out; have hcz38_0 : w36.cell? ⟨gb180, 0, none⟩ = some (.int .i64 t181) := (blk_cell BK180.out 0).trans rfl; have hcz38_1 : w36.cell? ⟨gb180, 1, none⟩ = some (.string t184) := (blk_cell BK180.out 1).trans rfl; have hcz38_2 : w36.cell? ⟨gb180, 2, none⟩ = some (.string t187) := (blk_cell BK180.out 2).trans rfl; have hcz38_3 : w36.cell? ⟨gb180, 3, none⟩ = some (.int .i64 t190) := (blk_cell BK180.out 3).trans rfl; have hcz38_4 : w36.cell? ⟨gb180, 4, none⟩ = some (.int .i64 t193) := (blk_cell BK180.out 4).trans rfl; have hcz38_5 : w36.cell? ⟨gb180, 5, none⟩ = some (.int .i64 t196) := (blk_cell BK180.out 5).trans rfl; have hcz38_6 : w36.cell? ⟨gb180, 6, none⟩ = some (u181006) := (blk_cell BK180.out 6).trans rfl; have hfz38_0 := blk_frozen BK180.out 0; have hfz38_1 := blk_frozen BK180.out 1; have hfz38_2 := blk_frozen BK180.out 2; have hfz38_3 := blk_frozen BK180.out 3; have hfz38_4 := blk_frozen BK180.out 4; have hfz38_5 := blk_frozen BK180.out 5; have hfz38_6 := blk_frozen BK180.out 6) | ((with_reducible refine gate_builtin (b := .append) (xs := #[.tmp 124, .tmp 126]) rfl ?_); at_builtin; refine Kd.R_append (Kd.int .i64) (w0 := w) w.heap.size rfl (.tmp 124) (.tmp 126) 22 3 (.int .i64 0) 8 rfl Try.underlying22 info3 rfl (by decide) (by omega) u181006 x181006_2 t202 [.int .i64 t202] (fun _ => True) (fun _ => False) rfl rfl ?aP (fun _ hk => hk.elim) ?aF ?aO ?aB ?aS ?aL ?_; (case aP => exact rfl); (case aB => exact (by exact bw2 HB GE179.out GE180.out)); (case aF => exact (fun _ _ => trivial)); (case aO => exact (by (with_reducible repeat (first | apply Kd.R_alloc | apply Kd.R_drewN | apply Kd.R_drew)); exact HO_181006.out)); (case aS => exact (below_size (by exact bw2 HB GE179.out GE180.out))); (case aL => have := LMc35.out; omega); intro v206 w39 ho hb hg hat; rw [← Ny205.out] at ho; have n0_ := Aside0.mk (blk_grown (g := gb179) (o := .cells #[.int .i64 x180000_2, .string x180001_2, .string x180002_2, .int .i64 x180003_2, .int .i64 x180004_2, .int .i64 x180005_2, .slice none 0 0] 24 (0, 0)) (kx BK179) hg (Kd.R_ne HO_181006.out BK179.out (by decide))); have n1_ := Aside0.mk (blk_grown (g := gb180) (o := .cells #[.int .i64 t181, .string t184, .string t187, .int .i64 t190, .int .i64 t193, .int .i64 t196, u181006] 24 (0, 0)) (kx BK180) hg (Kd.R_ne HO_181006.out BK180.out (by decide))); have n2_ := Aside0.mk (hb); have n3_ := Aside0.mk (ho); clear BK179; clear BK180; clear HB; clear HO_181006; have BK179 := n0_; have BK180 := n1_; have HB := n2_; have HO207 := n3_; clear n0_ n1_ n2_ n3_; clear ho hb hg hat; obtain ⟨Ao40, co40, eo40⟩ := Kd.R_slice HO207.out; subst eo40; have hcz41_0 : w39.cell? ⟨gb180, 0, none⟩ = some (.int .i64 t181) := (blk_cell BK180.out 0).trans rfl; have hcz41_1 : w39.cell? ⟨gb180, 1, none⟩ = some (.string t184) := (blk_cell BK180.out 1).trans rfl; have hcz41_2 : w39.cell? ⟨gb180, 2, none⟩ = some (.string t187) := (blk_cell BK180.out 2).trans rfl; have hcz41_3 : w39.cell? ⟨gb180, 3, none⟩ = some (.int .i64 t190) := (blk_cell BK180.out 3).trans rfl; have hcz41_4 : w39.cell? ⟨gb180, 4, none⟩ = some (.int .i64 t193) := (blk_cell BK180.out 4).trans rfl; have hcz41_5 : w39.cell? ⟨gb180, 5, none⟩ = some (.int .i64 t196) := (blk_cell BK180.out 5).trans rfl; have hcz41_6 : w39.cell? ⟨gb180, 6, none⟩ = some (u181006) := (blk_cell BK180.out 6).trans rfl; have hfz41_0 := blk_frozen BK180.out 0; have hfz41_1 := blk_frozen BK180.out 1; have hfz41_2 := blk_frozen BK180.out 2; have hfz41_3 := blk_frozen BK180.out 3; have hfz41_4 := blk_frozen BK180.out 4; have hfz41_5 := blk_frozen BK180.out 5; have hfz41_6 := blk_frozen BK180.out 6))
         go_roundg k2
         case measure => have := HJ8.out; have := HK2.out; omega
         case rel => exact ⟨(t203), (wrap64 (x20_2 + 1)), (x180000_2), (x180001_2), (x180002_2), (x180003_2), (x180004_2), (x180005_2), (y205), (.slice Ao40 y205.length co40), (by first | rfl | (simp; done) | (simp [*]; done) | (simp; exact (fun (l_ : List UInt8) => by cases l_ <;> rfl : ∀ l_ : List UInt8, l_.isEmpty = !(l_ != [])) _)), (by first | rfl | (simp; done) | (simp [*]; done) | (simp; exact (fun (l_ : List UInt8) => by cases l_ <;> rfl : ∀ l_ : List UInt8, l_.isEmpty = !(l_ != [])) _)), H', ⟨by have := HJ8.out; have := HK2.out; omega⟩, ⟨by (with_reducible repeat (first | apply Kd.R_alloc | apply Kd.R_drewN | apply Kd.R_drew)); exact Kd.R_mono (Kd.R_far (p := ⟨gb180, 6, none⟩) (Kd.R_types HO207.out BK180.out (by decide)) (fun _ hk => hk.2) (.slice Ao40 y205.length co40)) (fun _ hk => trivial)⟩, ⟨by (with_reducible repeat (first | refine blk_drewN ?_ _ | refine blk_drew ?_ | refine blk_alloc ?_ _)); refine blk_far ?_ NB179_180.out _; (with_reducible repeat (first | refine blk_drewN ?_ _ | refine blk_drew ?_ | refine blk_alloc ?_ _)); exact BK179.out⟩, ⟨by (with_reducible repeat (first | refine blk_drewN ?_ _ | refine blk_drew ?_ | refine blk_alloc ?_ _)); refine blk_put (cs := #[.int .i64 t181, .string t184, .string t187, .int .i64 t190, .int .i64 t193, .int .i64 t196, u181006]) ?_ 6 _ rfl; (with_reducible repeat (first | refine blk_drewN ?_ _ | refine blk_drew ?_ | refine blk_alloc ?_ _)); exact BK180.out⟩, ⟨by repeat (first | (with_reducible first | exact HB.out | apply below_alloc | apply pw_below_drewN | apply below_drew1 | refine below_set ?_ GE179.out | refine below_set ?_ GE180.out) | exact HB.out)⟩⟩
        ·
         rw [if_neg c35] at H
         exact absurd H (by simp)
       ·
        replace c34 := Bool.eq_false_iff.mpr c34
        subst c34
        have H1 : (some (0, (⟨#[]⟩ : ByteArray), (⟨#[]⟩ : ByteArray), 0, 0, 0, ([] : List Int), false)) = some (r1, r2, r3, r4, r5, r6, r7, r8) := by rw [if_neg (show ¬ (false = true) by decide)] at H; exact H
        clear H
        have H := H1
        clear H1
        simp only [Option.some.injEq, Prod.mk.injEq] at H
        obtain ⟨rfl, rfl, rfl, rfl, rfl, rfl, rfl, rfl⟩ := H
        go_wp2_with (first | ((with_reducible refine gate_callee (f := 19) rfl ?_); refine goesL_ (some 116) rfl rfl Try.func19 (by kernel_rfl) rfl #[.string x6_2] rfl (by (try simp only [List.map_toArray, List.map_cons, List.map_nil]); first | done | rfl | (simp only [List.length_drop, List.length_take]; rfl)) ?_; (with_reducible refine (tabulariumref01_TakeNum.calls k2 x6_2 t202 t203 false _ A33.out).mono ?_); rintro e w42 ⟨rfl, hb⟩; refine ⟨_, rfl, ?_⟩; have n0_ := Aside0.mk (Kd.R_below (by (with_reducible repeat (first | apply Kd.R_alloc | apply Kd.R_drewN | apply Kd.R_drew)); exact HO_181006.out) hb); have n1_ := Aside0.mk (blk_below (g := gb179) (o := .cells #[.int .i64 x180000_2, .string x180001_2, .string x180002_2, .int .i64 x180003_2, .int .i64 x180004_2, .int .i64 x180005_2, .slice none 0 0] 24 (0, 0)) (kx BK179) hb); have n2_ := Aside0.mk (blk_below (g := gb180) (o := .cells #[.int .i64 t181, .string t184, .string t187, .int .i64 t190, .int .i64 t193, .int .i64 t196, u181006] 24 (0, 0)) (kx BK180) hb); have n3_ := Aside0.mk (below_step (by exact bw2 HB GE179.out GE180.out) hb); clear HO_181006; clear BK179; clear BK180; clear HB; have HO_181006 := n0_; have BK179 := n1_; have BK180 := n2_; have HB := n3_; clear n0_ n1_ n2_ n3_; (try clear hb); (try clear hb2); (try clear hk); (try clear hi); have hnb43 := NB179_180.out; have hnc43 := NB180_179.out; have hcz44_0 : w42.cell? ⟨gb179, 0, none⟩ = some (.int .i64 x180000_2) := (blk_cell BK179.out 0).trans rfl; have hcz44_1 : w42.cell? ⟨gb179, 1, none⟩ = some (.string x180001_2) := (blk_cell BK179.out 1).trans rfl; have hcz44_2 : w42.cell? ⟨gb179, 2, none⟩ = some (.string x180002_2) := (blk_cell BK179.out 2).trans rfl; have hcz44_3 : w42.cell? ⟨gb179, 3, none⟩ = some (.int .i64 x180003_2) := (blk_cell BK179.out 3).trans rfl; have hcz44_4 : w42.cell? ⟨gb179, 4, none⟩ = some (.int .i64 x180004_2) := (blk_cell BK179.out 4).trans rfl; have hcz44_5 : w42.cell? ⟨gb179, 5, none⟩ = some (.int .i64 x180005_2) := (blk_cell BK179.out 5).trans rfl; have hcz44_6 : w42.cell? ⟨gb179, 6, none⟩ = some (.slice none 0 0) := (blk_cell BK179.out 6).trans rfl; have hfz44_0 := blk_frozen BK179.out 0; have hfz44_1 := blk_frozen BK179.out 1; have hfz44_2 := blk_frozen BK179.out 2; have hfz44_3 := blk_frozen BK179.out 3; have hfz44_4 := blk_frozen BK179.out 4; have hfz44_5 := blk_frozen BK179.out 5; have hfz44_6 := blk_frozen BK179.out 6))
        refine bodyPost_ret (results_ct rfl _ _ gb179 24 #[.int .i64 0, .string (⟨#[]⟩ : ByteArray), .string (⟨#[]⟩ : ByteArray), .int .i64 0, .int .i64 0, .int .i64 0, .slice none 0 0] (0, 0) _ rfl (by (with_reducible repeat (first | refine blk_drewN ?_ _ | refine blk_drew ?_ | refine blk_alloc ?_ _)); refine blk_put (cs := #[.int .i64 0, .string (⟨#[]⟩ : ByteArray), .string (⟨#[]⟩ : ByteArray), .int .i64 0, .int .i64 0, .int .i64 0, .slice none 0 0]) ?_ 6 _ rfl; (with_reducible repeat (first | refine blk_drewN ?_ _ | refine blk_drew ?_ | refine blk_alloc ?_ _)); refine blk_put (cs := #[.int .i64 0, .string (⟨#[]⟩ : ByteArray), .string (⟨#[]⟩ : ByteArray), .int .i64 0, .int .i64 0, .int .i64 x180005_2, .slice none 0 0]) ?_ 5 _ rfl; (with_reducible repeat (first | refine blk_drewN ?_ _ | refine blk_drew ?_ | refine blk_alloc ?_ _)); refine blk_put (cs := #[.int .i64 0, .string (⟨#[]⟩ : ByteArray), .string (⟨#[]⟩ : ByteArray), .int .i64 0, .int .i64 x180004_2, .int .i64 x180005_2, .slice none 0 0]) ?_ 4 _ rfl; (with_reducible repeat (first | refine blk_drewN ?_ _ | refine blk_drew ?_ | refine blk_alloc ?_ _)); refine blk_put (cs := #[.int .i64 0, .string (⟨#[]⟩ : ByteArray), .string (⟨#[]⟩ : ByteArray), .int .i64 x180003_2, .int .i64 x180004_2, .int .i64 x180005_2, .slice none 0 0]) ?_ 3 _ rfl; (with_reducible repeat (first | refine blk_drewN ?_ _ | refine blk_drew ?_ | refine blk_alloc ?_ _)); refine blk_put (cs := #[.int .i64 0, .string (⟨#[]⟩ : ByteArray), .string x180002_2, .int .i64 x180003_2, .int .i64 x180004_2, .int .i64 x180005_2, .slice none 0 0]) ?_ 2 _ rfl; (with_reducible repeat (first | refine blk_drewN ?_ _ | refine blk_drew ?_ | refine blk_alloc ?_ _)); refine blk_put (cs := #[.int .i64 0, .string x180001_2, .string x180002_2, .int .i64 x180003_2, .int .i64 x180004_2, .int .i64 x180005_2, .slice none 0 0]) ?_ 1 _ rfl; (with_reducible repeat (first | refine blk_drewN ?_ _ | refine blk_drew ?_ | refine blk_alloc ?_ _)); refine blk_put (cs := #[.int .i64 x180000_2, .string x180001_2, .string x180002_2, .int .i64 x180003_2, .int .i64 x180004_2, .int .i64 x180005_2, .slice none 0 0]) ?_ 0 _ rfl; (with_reducible repeat (first | refine blk_drewN ?_ _ | refine blk_drew ?_ | refine blk_alloc ?_ _)); exact BK179.out) Try.underlying24 rfl (by kernel_rfl)) rfl ?_
        exact ⟨_, by first | rfl | (simp [errW_none, errW_some] <;> rfl) | (simp [*, errW_none, errW_some] <;> rfl), by first | exact Kd.R_nil _ _ _ _ _ | exact Kd.N_nil _ _ _ _ _ | exact Kd.V_nil _ _ _ _ _ | exact Kd.Q_nil _ _ _ _ _ | exact Kd.S_nil _ _ _ _ _, by repeat (first | (with_reducible first | exact HB.out | apply below_alloc | apply pw_below_drewN | apply below_drew1 | refine below_set ?_ GE179.out | refine below_set ?_ GE180.out) | exact HB.out)⟩
      ·
       rw [if_neg c32] at H
       have c32b0 : decide (x20_2 < t199) = false := decide_eq_false c32
       clear c32
       replace H := Option.bind_eq_some_iff.mp H
       obtain ⟨t208, A450, H⟩ := H
       replace H : (if t208 = true then (if x6_2.toList = ([] : List UInt8) then (some (t181, t184, t187, t190, t193, t196, x181006_2, true)) else (some (0, (⟨#[]⟩ : ByteArray), (⟨#[]⟩ : ByteArray), 0, 0, 0, ([] : List Int), false))) else (some (0, (⟨#[]⟩ : ByteArray), (⟨#[]⟩ : ByteArray), 0, 0, 0, ([] : List Int), false))) = some (r1, r2, r3, r4, r5, r6, r7, r8) := H
       have A45 := Aside0.mk A450
       clear A450
       by_cases c46 : t208 = true
       ·
        subst c46
        have H1 : (if x6_2.toList = ([] : List UInt8) then (some (t181, t184, t187, t190, t193, t196, x181006_2, true)) else (some (0, (⟨#[]⟩ : ByteArray), (⟨#[]⟩ : ByteArray), 0, 0, 0, ([] : List Int), false))) = some (r1, r2, r3, r4, r5, r6, r7, r8) := by rw [if_pos rfl] at H; exact H
        clear H
        have H := H1
        clear H1
        by_cases c47 : x6_2.toList = ([] : List UInt8)
        ·
         rw [if_pos c47] at H
         have c47b0 : (x6_2.toList == ([] : List UInt8)) = true := beq_iff_eq.mpr c47
         have c47b1 : (x6_2.toList != ([] : List UInt8)) = false := bne_eq_false_iff_eq.mpr c47
         clear c47
         simp only [Option.some.injEq, Prod.mk.injEq] at H
         obtain ⟨rfl, rfl, rfl, rfl, rfl, rfl, rfl, rfl⟩ := H
         have hnb48 := NB180_179.out
         have hnc48 := NB179_180.out
         have hcz49_0 : wr.cell? ⟨gb180, 0, none⟩ = some (.int .i64 t181) := (blk_cell BK180.out 0).trans rfl
         have hcz49_1 : wr.cell? ⟨gb180, 1, none⟩ = some (.string t184) := (blk_cell BK180.out 1).trans rfl
         have hcz49_2 : wr.cell? ⟨gb180, 2, none⟩ = some (.string t187) := (blk_cell BK180.out 2).trans rfl
         have hcz49_3 : wr.cell? ⟨gb180, 3, none⟩ = some (.int .i64 t190) := (blk_cell BK180.out 3).trans rfl
         have hcz49_4 : wr.cell? ⟨gb180, 4, none⟩ = some (.int .i64 t193) := (blk_cell BK180.out 4).trans rfl
         have hcz49_5 : wr.cell? ⟨gb180, 5, none⟩ = some (.int .i64 t196) := (blk_cell BK180.out 5).trans rfl
         have hcz49_6 : wr.cell? ⟨gb180, 6, none⟩ = some (u181006) := (blk_cell BK180.out 6).trans rfl
         have hfz49_0 := blk_frozen BK180.out 0
         have hfz49_1 := blk_frozen BK180.out 1
         have hfz49_2 := blk_frozen BK180.out 2
         have hfz49_3 := blk_frozen BK180.out 3
         have hfz49_4 := blk_frozen BK180.out 4
         have hfz49_5 := blk_frozen BK180.out 5
         have hfz49_6 := blk_frozen BK180.out 6
         obtain ⟨Ao50, co50, eo50⟩ := Kd.R_slice HO_181006.out
         subst eo50
         go_wp2_with (first | ((with_reducible refine gate_callee (f := 14) rfl ?_); refine goesL_ (some 131) rfl rfl Try.func14 (by kernel_rfl) rfl #[.agg #[.int .i64 t181, .string t184, .string t187, .int .i64 t190, .int .i64 t193, .int .i64 t196, .slice Ao50 x181006_2.length co50]] rfl (by (try simp only [List.map_toArray, List.map_cons, List.map_nil]); first | done | rfl | (simp only [List.length_drop, List.length_take]; rfl)) ?_; (with_reducible refine (tabulariumref10_Right.calls k2 t181 t184 t187 t190 t193 t196 _ _ x181006_2 true _ ?side1 ?side2 A45.out).mono ?_); (case side1 => repeat (first | exact (Kd.R_reads' HO_181006.out).2.2 | (with_reducible refine Kd.C_alloc ?_ _) | (with_reducible refine Kd.C_drewN ?_ _) | (with_reducible refine Kd.C_drew ?_))); (case side2 => exact (Kd.R_reads' HO_181006.out).2.1); rintro e w51 ⟨rfl, hb⟩; refine ⟨_, rfl, ?_⟩; have n0_ := Aside0.mk (Kd.R_below (by (with_reducible repeat (first | apply Kd.R_alloc | apply Kd.R_drewN | apply Kd.R_drew)); exact HO_181006.out) hb); have n1_ := Aside0.mk (blk_below (g := gb179) (o := .cells #[.int .i64 x180000_2, .string x180001_2, .string x180002_2, .int .i64 x180003_2, .int .i64 x180004_2, .int .i64 x180005_2, .slice none 0 0] 24 (0, 0)) (kx BK179) hb); have n2_ := Aside0.mk (blk_below (g := gb180) (o := .cells #[.int .i64 t181, .string t184, .string t187, .int .i64 t190, .int .i64 t193, .int .i64 t196, .slice Ao50 x181006_2.length co50] 24 (0, 0)) (kx BK180) hb); have n3_ := Aside0.mk (below_step (by exact bw2 HB GE179.out GE180.out) hb); clear HO_181006; clear BK179; clear BK180; clear HB; have HO_181006 := n0_; have BK179 := n1_; have BK180 := n2_; have HB := n3_; clear n0_ n1_ n2_ n3_; (try clear hb); (try clear hb2); (try clear hk); (try clear hi); have hcz52_0 : w51.cell? ⟨gb180, 0, none⟩ = some (.int .i64 t181) := (blk_cell BK180.out 0).trans rfl; have hcz52_1 : w51.cell? ⟨gb180, 1, none⟩ = some (.string t184) := (blk_cell BK180.out 1).trans rfl; have hcz52_2 : w51.cell? ⟨gb180, 2, none⟩ = some (.string t187) := (blk_cell BK180.out 2).trans rfl; have hcz52_3 : w51.cell? ⟨gb180, 3, none⟩ = some (.int .i64 t190) := (blk_cell BK180.out 3).trans rfl; have hcz52_4 : w51.cell? ⟨gb180, 4, none⟩ = some (.int .i64 t193) := (blk_cell BK180.out 4).trans rfl; have hcz52_5 : w51.cell? ⟨gb180, 5, none⟩ = some (.int .i64 t196) := (blk_cell BK180.out 5).trans rfl; have hcz52_6 : w51.cell? ⟨gb180, 6, none⟩ = some (.slice Ao50 x181006_2.length co50) := (blk_cell BK180.out 6).trans rfl; have hfz52_0 := blk_frozen BK180.out 0; have hfz52_1 := blk_frozen BK180.out 1; have hfz52_2 := blk_frozen BK180.out 2; have hfz52_3 := blk_frozen BK180.out 3; have hfz52_4 := blk_frozen BK180.out 4; have hfz52_5 := blk_frozen BK180.out 5; have hfz52_6 := blk_frozen BK180.out 6; have hcz53_0 : w51.cell? ⟨gb179, 0, none⟩ = some (.int .i64 x180000_2) := (blk_cell BK179.out 0).trans rfl; have hcz53_1 : w51.cell? ⟨gb179, 1, none⟩ = some (.string x180001_2) := (blk_cell BK179.out 1).trans rfl; have hcz53_2 : w51.cell? ⟨gb179, 2, none⟩ = some (.string x180002_2) := (blk_cell BK179.out 2).trans rfl; have hcz53_3 : w51.cell? ⟨gb179, 3, none⟩ = some (.int .i64 x180003_2) := (blk_cell BK179.out 3).trans rfl; have hcz53_4 : w51.cell? ⟨gb179, 4, none⟩ = some (.int .i64 x180004_2) := (blk_cell BK179.out 4).trans rfl; have hcz53_5 : w51.cell? ⟨gb179, 5, none⟩ = some (.int .i64 x180005_2) := (blk_cell BK179.out 5).trans rfl; have hcz53_6 : w51.cell? ⟨gb179, 6, none⟩ = some (.slice none 0 0) := (blk_cell BK179.out 6).trans rfl; have hfz53_0 := blk_frozen BK179.out 0; have hfz53_1 := blk_frozen BK179.out 1; have hfz53_2 := blk_frozen BK179.out 2; have hfz53_3 := blk_frozen BK179.out 3; have hfz53_4 := blk_frozen BK179.out 4; have hfz53_5 := blk_frozen BK179.out 5; have hfz53_6 := blk_frozen BK179.out 6))
         refine bodyPost_ret (results_ct rfl _ _ gb179 24 #[.int .i64 t181, .string t184, .string t187, .int .i64 t190, .int .i64 t193, .int .i64 t196, .slice Ao50 x181006_2.length co50] (0, 0) _ rfl (by (with_reducible repeat (first | refine blk_drewN ?_ _ | refine blk_drew ?_ | refine blk_alloc ?_ _)); refine blk_put (cs := #[.int .i64 t181, .string t184, .string t187, .int .i64 t190, .int .i64 t193, .int .i64 t196, .slice none 0 0]) ?_ 6 _ rfl; (with_reducible repeat (first | refine blk_drewN ?_ _ | refine blk_drew ?_ | refine blk_alloc ?_ _)); refine blk_put (cs := #[.int .i64 t181, .string t184, .string t187, .int .i64 t190, .int .i64 t193, .int .i64 x180005_2, .slice none 0 0]) ?_ 5 _ rfl; (with_reducible repeat (first | refine blk_drewN ?_ _ | refine blk_drew ?_ | refine blk_alloc ?_ _)); refine blk_put (cs := #[.int .i64 t181, .string t184, .string t187, .int .i64 t190, .int .i64 x180004_2, .int .i64 x180005_2, .slice none 0 0]) ?_ 4 _ rfl; (with_reducible repeat (first | refine blk_drewN ?_ _ | refine blk_drew ?_ | refine blk_alloc ?_ _)); refine blk_put (cs := #[.int .i64 t181, .string t184, .string t187, .int .i64 x180003_2, .int .i64 x180004_2, .int .i64 x180005_2, .slice none 0 0]) ?_ 3 _ rfl; (with_reducible repeat (first | refine blk_drewN ?_ _ | refine blk_drew ?_ | refine blk_alloc ?_ _)); refine blk_put (cs := #[.int .i64 t181, .string t184, .string x180002_2, .int .i64 x180003_2, .int .i64 x180004_2, .int .i64 x180005_2, .slice none 0 0]) ?_ 2 _ rfl; (with_reducible repeat (first | refine blk_drewN ?_ _ | refine blk_drew ?_ | refine blk_alloc ?_ _)); refine blk_put (cs := #[.int .i64 t181, .string x180001_2, .string x180002_2, .int .i64 x180003_2, .int .i64 x180004_2, .int .i64 x180005_2, .slice none 0 0]) ?_ 1 _ rfl; (with_reducible repeat (first | refine blk_drewN ?_ _ | refine blk_drew ?_ | refine blk_alloc ?_ _)); refine blk_put (cs := #[.int .i64 x180000_2, .string x180001_2, .string x180002_2, .int .i64 x180003_2, .int .i64 x180004_2, .int .i64 x180005_2, .slice none 0 0]) ?_ 0 _ rfl; (with_reducible repeat (first | refine blk_drewN ?_ _ | refine blk_drew ?_ | refine blk_alloc ?_ _)); exact BK179.out) Try.underlying24 rfl (by kernel_rfl)) rfl ?_
         exact ⟨_, by first | rfl | (simp [errW_none, errW_some] <;> rfl) | (simp [*, errW_none, errW_some] <;> rfl), by (with_reducible repeat (first | apply Kd.R_alloc | apply Kd.R_drewN | apply Kd.R_drew)); exact Kd.R_mono (Kd.R_far (p := ⟨gb179, 6, none⟩) (Kd.R_far (p := ⟨gb179, 5, none⟩) (Kd.R_far (p := ⟨gb179, 4, none⟩) (Kd.R_far (p := ⟨gb179, 3, none⟩) (Kd.R_far (p := ⟨gb179, 2, none⟩) (Kd.R_far (p := ⟨gb179, 1, none⟩) (Kd.R_far (p := ⟨gb179, 0, none⟩) (Kd.R_types HO_181006.out BK179.out (by decide)) (fun _ hk => hk.2) (.int .i64 t181)) (fun _ hk => hk.2) (.string t184)) (fun _ hk => hk.2) (.string t187)) (fun _ hk => hk.2) (.int .i64 t190)) (fun _ hk => hk.2) (.int .i64 t193)) (fun _ hk => hk.2) (.int .i64 t196)) (fun _ hk => hk.2) (.slice Ao50 x181006_2.length co50)) (fun _ hk => trivial), by repeat (first | (with_reducible first | exact HB.out | apply below_alloc | apply pw_below_drewN | apply below_drew1 | refine below_set ?_ GE179.out | refine below_set ?_ GE180.out) | exact HB.out)⟩
        ·
         rw [if_neg c47] at H
         have c47b0 : (x6_2.toList == ([] : List UInt8)) = false := beq_eq_false_iff_ne.mpr c47
         have c47b1 : (x6_2.toList != ([] : List UInt8)) = true := bne_iff_ne.mpr c47
         simp only [Option.some.injEq, Prod.mk.injEq] at H
         obtain ⟨rfl, rfl, rfl, rfl, rfl, rfl, rfl, rfl⟩ := H
         have hnb54 := NB180_179.out
         have hnc54 := NB179_180.out
         have hcz55_0 : wr.cell? ⟨gb180, 0, none⟩ = some (.int .i64 t181) := (blk_cell BK180.out 0).trans rfl
         have hcz55_1 : wr.cell? ⟨gb180, 1, none⟩ = some (.string t184) := (blk_cell BK180.out 1).trans rfl
         have hcz55_2 : wr.cell? ⟨gb180, 2, none⟩ = some (.string t187) := (blk_cell BK180.out 2).trans rfl
         have hcz55_3 : wr.cell? ⟨gb180, 3, none⟩ = some (.int .i64 t190) := (blk_cell BK180.out 3).trans rfl
         have hcz55_4 : wr.cell? ⟨gb180, 4, none⟩ = some (.int .i64 t193) := (blk_cell BK180.out 4).trans rfl
         have hcz55_5 : wr.cell? ⟨gb180, 5, none⟩ = some (.int .i64 t196) := (blk_cell BK180.out 5).trans rfl
         have hcz55_6 : wr.cell? ⟨gb180, 6, none⟩ = some (u181006) := (blk_cell BK180.out 6).trans rfl
         have hfz55_0 := blk_frozen BK180.out 0
         have hfz55_1 := blk_frozen BK180.out 1
         have hfz55_2 := blk_frozen BK180.out 2
         have hfz55_3 := blk_frozen BK180.out 3
         have hfz55_4 := blk_frozen BK180.out 4
         have hfz55_5 := blk_frozen BK180.out 5
         have hfz55_6 := blk_frozen BK180.out 6
         obtain ⟨Ao56, co56, eo56⟩ := Kd.R_slice HO_181006.out
         subst eo56
         go_wp2_with (first | ((with_reducible refine gate_callee (f := 14) rfl ?_); refine goesL_ (some 131) rfl rfl Try.func14 (by kernel_rfl) rfl #[.agg #[.int .i64 t181, .string t184, .string t187, .int .i64 t190, .int .i64 t193, .int .i64 t196, .slice Ao56 x181006_2.length co56]] rfl (by (try simp only [List.map_toArray, List.map_cons, List.map_nil]); first | done | rfl | (simp only [List.length_drop, List.length_take]; rfl)) ?_; (with_reducible refine (tabulariumref10_Right.calls k2 t181 t184 t187 t190 t193 t196 _ _ x181006_2 true _ ?side1 ?side2 A45.out).mono ?_); (case side1 => repeat (first | exact (Kd.R_reads' HO_181006.out).2.2 | (with_reducible refine Kd.C_alloc ?_ _) | (with_reducible refine Kd.C_drewN ?_ _) | (with_reducible refine Kd.C_drew ?_))); (case side2 => exact (Kd.R_reads' HO_181006.out).2.1); rintro e w57 ⟨rfl, hb⟩; refine ⟨_, rfl, ?_⟩; have n0_ := Aside0.mk (Kd.R_below (by (with_reducible repeat (first | apply Kd.R_alloc | apply Kd.R_drewN | apply Kd.R_drew)); exact HO_181006.out) hb); have n1_ := Aside0.mk (blk_below (g := gb179) (o := .cells #[.int .i64 x180000_2, .string x180001_2, .string x180002_2, .int .i64 x180003_2, .int .i64 x180004_2, .int .i64 x180005_2, .slice none 0 0] 24 (0, 0)) (kx BK179) hb); have n2_ := Aside0.mk (blk_below (g := gb180) (o := .cells #[.int .i64 t181, .string t184, .string t187, .int .i64 t190, .int .i64 t193, .int .i64 t196, .slice Ao56 x181006_2.length co56] 24 (0, 0)) (kx BK180) hb); have n3_ := Aside0.mk (below_step (by exact bw2 HB GE179.out GE180.out) hb); clear HO_181006; clear BK179; clear BK180; clear HB; have HO_181006 := n0_; have BK179 := n1_; have BK180 := n2_; have HB := n3_; clear n0_ n1_ n2_ n3_; (try clear hb); (try clear hb2); (try clear hk); (try clear hi); have hcz58_0 : w57.cell? ⟨gb179, 0, none⟩ = some (.int .i64 x180000_2) := (blk_cell BK179.out 0).trans rfl; have hcz58_1 : w57.cell? ⟨gb179, 1, none⟩ = some (.string x180001_2) := (blk_cell BK179.out 1).trans rfl; have hcz58_2 : w57.cell? ⟨gb179, 2, none⟩ = some (.string x180002_2) := (blk_cell BK179.out 2).trans rfl; have hcz58_3 : w57.cell? ⟨gb179, 3, none⟩ = some (.int .i64 x180003_2) := (blk_cell BK179.out 3).trans rfl; have hcz58_4 : w57.cell? ⟨gb179, 4, none⟩ = some (.int .i64 x180004_2) := (blk_cell BK179.out 4).trans rfl; have hcz58_5 : w57.cell? ⟨gb179, 5, none⟩ = some (.int .i64 x180005_2) := (blk_cell BK179.out 5).trans rfl; have hcz58_6 : w57.cell? ⟨gb179, 6, none⟩ = some (.slice none 0 0) := (blk_cell BK179.out 6).trans rfl; have hfz58_0 := blk_frozen BK179.out 0; have hfz58_1 := blk_frozen BK179.out 1; have hfz58_2 := blk_frozen BK179.out 2; have hfz58_3 := blk_frozen BK179.out 3; have hfz58_4 := blk_frozen BK179.out 4; have hfz58_5 := blk_frozen BK179.out 5; have hfz58_6 := blk_frozen BK179.out 6))
         refine bodyPost_ret (results_ct rfl _ _ gb179 24 #[.int .i64 0, .string (⟨#[]⟩ : ByteArray), .string (⟨#[]⟩ : ByteArray), .int .i64 0, .int .i64 0, .int .i64 0, .slice none 0 0] (0, 0) _ rfl (by (with_reducible repeat (first | refine blk_drewN ?_ _ | refine blk_drew ?_ | refine blk_alloc ?_ _)); refine blk_put (cs := #[.int .i64 0, .string (⟨#[]⟩ : ByteArray), .string (⟨#[]⟩ : ByteArray), .int .i64 0, .int .i64 0, .int .i64 0, .slice none 0 0]) ?_ 6 _ rfl; (with_reducible repeat (first | refine blk_drewN ?_ _ | refine blk_drew ?_ | refine blk_alloc ?_ _)); refine blk_put (cs := #[.int .i64 0, .string (⟨#[]⟩ : ByteArray), .string (⟨#[]⟩ : ByteArray), .int .i64 0, .int .i64 0, .int .i64 x180005_2, .slice none 0 0]) ?_ 5 _ rfl; (with_reducible repeat (first | refine blk_drewN ?_ _ | refine blk_drew ?_ | refine blk_alloc ?_ _)); refine blk_put (cs := #[.int .i64 0, .string (⟨#[]⟩ : ByteArray), .string (⟨#[]⟩ : ByteArray), .int .i64 0, .int .i64 x180004_2, .int .i64 x180005_2, .slice none 0 0]) ?_ 4 _ rfl; (with_reducible repeat (first | refine blk_drewN ?_ _ | refine blk_drew ?_ | refine blk_alloc ?_ _)); refine blk_put (cs := #[.int .i64 0, .string (⟨#[]⟩ : ByteArray), .string (⟨#[]⟩ : ByteArray), .int .i64 x180003_2, .int .i64 x180004_2, .int .i64 x180005_2, .slice none 0 0]) ?_ 3 _ rfl; (with_reducible repeat (first | refine blk_drewN ?_ _ | refine blk_drew ?_ | refine blk_alloc ?_ _)); refine blk_put (cs := #[.int .i64 0, .string (⟨#[]⟩ : ByteArray), .string x180002_2, .int .i64 x180003_2, .int .i64 x180004_2, .int .i64 x180005_2, .slice none 0 0]) ?_ 2 _ rfl; (with_reducible repeat (first | refine blk_drewN ?_ _ | refine blk_drew ?_ | refine blk_alloc ?_ _)); refine blk_put (cs := #[.int .i64 0, .string x180001_2, .string x180002_2, .int .i64 x180003_2, .int .i64 x180004_2, .int .i64 x180005_2, .slice none 0 0]) ?_ 1 _ rfl; (with_reducible repeat (first | refine blk_drewN ?_ _ | refine blk_drew ?_ | refine blk_alloc ?_ _)); refine blk_put (cs := #[.int .i64 x180000_2, .string x180001_2, .string x180002_2, .int .i64 x180003_2, .int .i64 x180004_2, .int .i64 x180005_2, .slice none 0 0]) ?_ 0 _ rfl; (with_reducible repeat (first | refine blk_drewN ?_ _ | refine blk_drew ?_ | refine blk_alloc ?_ _)); exact BK179.out) Try.underlying24 rfl (by kernel_rfl)) rfl ?_
         exact ⟨_, by first | rfl | (simp [errW_none, errW_some] <;> rfl) | (simp [*, errW_none, errW_some] <;> rfl), by first | exact Kd.R_nil _ _ _ _ _ | exact Kd.N_nil _ _ _ _ _ | exact Kd.V_nil _ _ _ _ _ | exact Kd.Q_nil _ _ _ _ _ | exact Kd.S_nil _ _ _ _ _, by repeat (first | (with_reducible first | exact HB.out | apply below_alloc | apply pw_below_drewN | apply below_drew1 | refine below_set ?_ GE179.out | refine below_set ?_ GE180.out) | exact HB.out)⟩
       ·
        replace c46 := Bool.eq_false_iff.mpr c46
        subst c46
        have H1 : (some (0, (⟨#[]⟩ : ByteArray), (⟨#[]⟩ : ByteArray), 0, 0, 0, ([] : List Int), false)) = some (r1, r2, r3, r4, r5, r6, r7, r8) := by rw [if_neg (show ¬ (false = true) by decide)] at H; exact H
        clear H
        have H := H1
        clear H1
        simp only [Option.some.injEq, Prod.mk.injEq] at H
        obtain ⟨rfl, rfl, rfl, rfl, rfl, rfl, rfl, rfl⟩ := H
        have hnb59 := NB180_179.out
        have hnc59 := NB179_180.out
        have hcz60_0 : wr.cell? ⟨gb180, 0, none⟩ = some (.int .i64 t181) := (blk_cell BK180.out 0).trans rfl
        have hcz60_1 : wr.cell? ⟨gb180, 1, none⟩ = some (.string t184) := (blk_cell BK180.out 1).trans rfl
        have hcz60_2 : wr.cell? ⟨gb180, 2, none⟩ = some (.string t187) := (blk_cell BK180.out 2).trans rfl
        have hcz60_3 : wr.cell? ⟨gb180, 3, none⟩ = some (.int .i64 t190) := (blk_cell BK180.out 3).trans rfl
        have hcz60_4 : wr.cell? ⟨gb180, 4, none⟩ = some (.int .i64 t193) := (blk_cell BK180.out 4).trans rfl
        have hcz60_5 : wr.cell? ⟨gb180, 5, none⟩ = some (.int .i64 t196) := (blk_cell BK180.out 5).trans rfl
        have hcz60_6 : wr.cell? ⟨gb180, 6, none⟩ = some (u181006) := (blk_cell BK180.out 6).trans rfl
        have hfz60_0 := blk_frozen BK180.out 0
        have hfz60_1 := blk_frozen BK180.out 1
        have hfz60_2 := blk_frozen BK180.out 2
        have hfz60_3 := blk_frozen BK180.out 3
        have hfz60_4 := blk_frozen BK180.out 4
        have hfz60_5 := blk_frozen BK180.out 5
        have hfz60_6 := blk_frozen BK180.out 6
        obtain ⟨Ao61, co61, eo61⟩ := Kd.R_slice HO_181006.out
        subst eo61
        go_wp2_with (first | ((with_reducible refine gate_callee (f := 14) rfl ?_); refine goesL_ (some 131) rfl rfl Try.func14 (by kernel_rfl) rfl #[.agg #[.int .i64 t181, .string t184, .string t187, .int .i64 t190, .int .i64 t193, .int .i64 t196, .slice Ao61 x181006_2.length co61]] rfl (by (try simp only [List.map_toArray, List.map_cons, List.map_nil]); first | done | rfl | (simp only [List.length_drop, List.length_take]; rfl)) ?_; (with_reducible refine (tabulariumref10_Right.calls k2 t181 t184 t187 t190 t193 t196 _ _ x181006_2 false _ ?side1 ?side2 A45.out).mono ?_); (case side1 => repeat (first | exact (Kd.R_reads' HO_181006.out).2.2 | (with_reducible refine Kd.C_alloc ?_ _) | (with_reducible refine Kd.C_drewN ?_ _) | (with_reducible refine Kd.C_drew ?_))); (case side2 => exact (Kd.R_reads' HO_181006.out).2.1); rintro e w62 ⟨rfl, hb⟩; refine ⟨_, rfl, ?_⟩; have n0_ := Aside0.mk (Kd.R_below (by (with_reducible repeat (first | apply Kd.R_alloc | apply Kd.R_drewN | apply Kd.R_drew)); exact HO_181006.out) hb); have n1_ := Aside0.mk (blk_below (g := gb179) (o := .cells #[.int .i64 x180000_2, .string x180001_2, .string x180002_2, .int .i64 x180003_2, .int .i64 x180004_2, .int .i64 x180005_2, .slice none 0 0] 24 (0, 0)) (kx BK179) hb); have n2_ := Aside0.mk (blk_below (g := gb180) (o := .cells #[.int .i64 t181, .string t184, .string t187, .int .i64 t190, .int .i64 t193, .int .i64 t196, .slice Ao61 x181006_2.length co61] 24 (0, 0)) (kx BK180) hb); have n3_ := Aside0.mk (below_step (by exact bw2 HB GE179.out GE180.out) hb); clear HO_181006; clear BK179; clear BK180; clear HB; have HO_181006 := n0_; have BK179 := n1_; have BK180 := n2_; have HB := n3_; clear n0_ n1_ n2_ n3_; (try clear hb); (try clear hb2); (try clear hk); (try clear hi); have hcz63_0 : w62.cell? ⟨gb179, 0, none⟩ = some (.int .i64 x180000_2) := (blk_cell BK179.out 0).trans rfl; have hcz63_1 : w62.cell? ⟨gb179, 1, none⟩ = some (.string x180001_2) := (blk_cell BK179.out 1).trans rfl; have hcz63_2 : w62.cell? ⟨gb179, 2, none⟩ = some (.string x180002_2) := (blk_cell BK179.out 2).trans rfl; have hcz63_3 : w62.cell? ⟨gb179, 3, none⟩ = some (.int .i64 x180003_2) := (blk_cell BK179.out 3).trans rfl; have hcz63_4 : w62.cell? ⟨gb179, 4, none⟩ = some (.int .i64 x180004_2) := (blk_cell BK179.out 4).trans rfl; have hcz63_5 : w62.cell? ⟨gb179, 5, none⟩ = some (.int .i64 x180005_2) := (blk_cell BK179.out 5).trans rfl; have hcz63_6 : w62.cell? ⟨gb179, 6, none⟩ = some (.slice none 0 0) := (blk_cell BK179.out 6).trans rfl; have hfz63_0 := blk_frozen BK179.out 0; have hfz63_1 := blk_frozen BK179.out 1; have hfz63_2 := blk_frozen BK179.out 2; have hfz63_3 := blk_frozen BK179.out 3; have hfz63_4 := blk_frozen BK179.out 4; have hfz63_5 := blk_frozen BK179.out 5; have hfz63_6 := blk_frozen BK179.out 6))
        refine bodyPost_ret (results_ct rfl _ _ gb179 24 #[.int .i64 0, .string (⟨#[]⟩ : ByteArray), .string (⟨#[]⟩ : ByteArray), .int .i64 0, .int .i64 0, .int .i64 0, .slice none 0 0] (0, 0) _ rfl (by (with_reducible repeat (first | refine blk_drewN ?_ _ | refine blk_drew ?_ | refine blk_alloc ?_ _)); refine blk_put (cs := #[.int .i64 0, .string (⟨#[]⟩ : ByteArray), .string (⟨#[]⟩ : ByteArray), .int .i64 0, .int .i64 0, .int .i64 0, .slice none 0 0]) ?_ 6 _ rfl; (with_reducible repeat (first | refine blk_drewN ?_ _ | refine blk_drew ?_ | refine blk_alloc ?_ _)); refine blk_put (cs := #[.int .i64 0, .string (⟨#[]⟩ : ByteArray), .string (⟨#[]⟩ : ByteArray), .int .i64 0, .int .i64 0, .int .i64 x180005_2, .slice none 0 0]) ?_ 5 _ rfl; (with_reducible repeat (first | refine blk_drewN ?_ _ | refine blk_drew ?_ | refine blk_alloc ?_ _)); refine blk_put (cs := #[.int .i64 0, .string (⟨#[]⟩ : ByteArray), .string (⟨#[]⟩ : ByteArray), .int .i64 0, .int .i64 x180004_2, .int .i64 x180005_2, .slice none 0 0]) ?_ 4 _ rfl; (with_reducible repeat (first | refine blk_drewN ?_ _ | refine blk_drew ?_ | refine blk_alloc ?_ _)); refine blk_put (cs := #[.int .i64 0, .string (⟨#[]⟩ : ByteArray), .string (⟨#[]⟩ : ByteArray), .int .i64 x180003_2, .int .i64 x180004_2, .int .i64 x180005_2, .slice none 0 0]) ?_ 3 _ rfl; (with_reducible repeat (first | refine blk_drewN ?_ _ | refine blk_drew ?_ | refine blk_alloc ?_ _)); refine blk_put (cs := #[.int .i64 0, .string (⟨#[]⟩ : ByteArray), .string x180002_2, .int .i64 x180003_2, .int .i64 x180004_2, .int .i64 x180005_2, .slice none 0 0]) ?_ 2 _ rfl; (with_reducible repeat (first | refine blk_drewN ?_ _ | refine blk_drew ?_ | refine blk_alloc ?_ _)); refine blk_put (cs := #[.int .i64 0, .string x180001_2, .string x180002_2, .int .i64 x180003_2, .int .i64 x180004_2, .int .i64 x180005_2, .slice none 0 0]) ?_ 1 _ rfl; (with_reducible repeat (first | refine blk_drewN ?_ _ | refine blk_drew ?_ | refine blk_alloc ?_ _)); refine blk_put (cs := #[.int .i64 x180000_2, .string x180001_2, .string x180002_2, .int .i64 x180003_2, .int .i64 x180004_2, .int .i64 x180005_2, .slice none 0 0]) ?_ 0 _ rfl; (with_reducible repeat (first | refine blk_drewN ?_ _ | refine blk_drew ?_ | refine blk_alloc ?_ _)); exact BK179.out) Try.underlying24 rfl (by kernel_rfl)) rfl ?_
        exact ⟨_, by first | rfl | (simp [errW_none, errW_some] <;> rfl) | (simp [*, errW_none, errW_some] <;> rfl), by first | exact Kd.R_nil _ _ _ _ _ | exact Kd.N_nil _ _ _ _ _ | exact Kd.V_nil _ _ _ _ _ | exact Kd.Q_nil _ _ _ _ _ | exact Kd.S_nil _ _ _ _ _, by repeat (first | (with_reducible first | exact HB.out | apply below_alloc | apply pw_below_drewN | apply below_drew1 | refine below_set ?_ GE179.out | refine below_set ?_ GE180.out) | exact HB.out)⟩

end Go.Proofs.Ytecjdchjaoimfaa.P
