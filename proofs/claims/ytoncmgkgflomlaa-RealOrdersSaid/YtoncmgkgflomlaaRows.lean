/-
  No cell of these rows narrows 'for every input' (looked for: loops, veiled, ifaces, maps, wideKeys, modest, calm, conditions, laid).
  DERIVED. THE GIVEN ROWS OF THIS SEAT. 9 by the template 'for every input the law returns true; each argument reads behind the call as it read before'; 0 by the template 'total and deterministic' (their statements: YtoncmgkgflomlaaTotals.lean).
  GIVEN WITH THE SEED: the statements are not yours to turn. If you find one false, say at which input.
  Laid BY PROGRAM, IN A SANDBOX (cutbox-rows.mjs): the forced cells as the released guide's own fill.sh prints them over the translation 46a787c29157e956… (all of the seat's roots in one cut). By AI agents, Wed Nov 11 2026. No macro, syntax, notation, axiom, sorry.
-/
import Derived.Test.YtoncmgkgflomlaaChecked
import GoSem.Claim
import GoSem.ClaimJoined
import GoSem.ClaimMapViews
import Derived.JoinedTies
import Derived.KernelRfl
namespace Go.Proofs.Ytoncmgkgflomlaa
/- THE CELL 'sum', in the pinned program and in every row, IS THE sha256 OF THE DUMP (.gsa) THAT YtoncmgkgflomlaaProg.lean LOADS. Nothing in Lean hashes anything: it is a label: what it is worth is what the hold of that sum in a sandbox is worth. -/
noncomputable def Try.pinned : Pinned := { name := "ytoncmgkgflomlaa", sum := "46a787c29157e956221217b0b95c723da1762c98dbcd6aa7343554d68e4996b5", checked := Try.checked }
namespace Rows
def none {H : Type} : Left H := { results := [], args := [] }

/-- 'tabulariumlaw03.RealTurns': WHATEVER THE INPUT: true; the input reads as it did. -/
def realTurnsSpec : ChangeSpec := { name := "realTurns", fn := fun _ => fun
  | [d1, d2, d3] => { results := [.lit (.bool true)], args := [d1, d2, d3] }
  | _ => none }
def realTurnsRow : OpenClaim := { program := "ytoncmgkgflomlaa", sum := "46a787c29157e956221217b0b95c723da1762c98dbcd6aa7343554d68e4996b5", func := "tabularium/tabulariumlaw03.RealTurns", spec := "realTurns", inPlace := ["math.Float64bits", "math.Float64frombits"], apart := false }
def RealTurnsSaid : Prop := realTurnsRow.holds Try.pinned (OpenSpec.ofChange realTurnsSpec)

/-- ITS FALSE NEIGHBOUR: 'it returns false'. Refute it at one input. -/
def realTurnsWrong : ChangeSpec := { name := "realTurns", fn := fun _ => fun
  | [d1, d2, d3] => { results := [.lit (.bool false)], args := [d1, d2, d3] }
  | _ => none }
def RealTurnsWrongFalsely : Prop := realTurnsRow.holds Try.pinned (OpenSpec.ofChange realTurnsWrong)

/-- 'tabulariumlaw03.RealShares': WHATEVER THE INPUT: true; the input reads as it did. -/
def realSharesSpec : ChangeSpec := { name := "realShares", fn := fun _ => fun
  | [d1, d2, d3] => { results := [.lit (.bool true)], args := [d1, d2, d3] }
  | _ => none }
def realSharesRow : OpenClaim := { program := "ytoncmgkgflomlaa", sum := "46a787c29157e956221217b0b95c723da1762c98dbcd6aa7343554d68e4996b5", func := "tabularium/tabulariumlaw03.RealShares", spec := "realShares", inPlace := ["math.Float64bits", "math.Float64frombits"], apart := false }
def RealSharesSaid : Prop := realSharesRow.holds Try.pinned (OpenSpec.ofChange realSharesSpec)

/-- ITS FALSE NEIGHBOUR: 'it returns false'. Refute it at one input. -/
def realSharesWrong : ChangeSpec := { name := "realShares", fn := fun _ => fun
  | [d1, d2, d3] => { results := [.lit (.bool false)], args := [d1, d2, d3] }
  | _ => none }
def RealSharesWrongFalsely : Prop := realSharesRow.holds Try.pinned (OpenSpec.ofChange realSharesWrong)

/-- 'tabulariumlaw03.RealMore': WHATEVER THE INPUT: true; the input reads as it did. -/
def realMoreSpec : ChangeSpec := { name := "realMore", fn := fun _ => fun
  | [d1, d2, d3, d4, d5] => { results := [.lit (.bool true)], args := [d1, d2, d3, d4, d5] }
  | _ => none }
def realMoreRow : OpenClaim := { program := "ytoncmgkgflomlaa", sum := "46a787c29157e956221217b0b95c723da1762c98dbcd6aa7343554d68e4996b5", func := "tabularium/tabulariumlaw03.RealMore", spec := "realMore", inPlace := ["math.Float64bits", "math.Float64frombits"], apart := false }
def RealMoreSaid : Prop := realMoreRow.holds Try.pinned (OpenSpec.ofChange realMoreSpec)

/-- ITS FALSE NEIGHBOUR: 'it returns false'. Refute it at one input. -/
def realMoreWrong : ChangeSpec := { name := "realMore", fn := fun _ => fun
  | [d1, d2, d3, d4, d5] => { results := [.lit (.bool false)], args := [d1, d2, d3, d4, d5] }
  | _ => none }
def RealMoreWrongFalsely : Prop := realMoreRow.holds Try.pinned (OpenSpec.ofChange realMoreWrong)

/-- 'tabulariumlaw03.RealHolds': WHATEVER THE INPUT: true; the input reads as it did. -/
def realHoldsSpec : ChangeSpec := { name := "realHolds", fn := fun _ => fun
  | [d1, d2, d3] => { results := [.lit (.bool true)], args := [d1, d2, d3] }
  | _ => none }
def realHoldsRow : OpenClaim := { program := "ytoncmgkgflomlaa", sum := "46a787c29157e956221217b0b95c723da1762c98dbcd6aa7343554d68e4996b5", func := "tabularium/tabulariumlaw03.RealHolds", spec := "realHolds", inPlace := ["math.Float64bits", "math.Float64frombits"], apart := false }
def RealHoldsSaid : Prop := realHoldsRow.holds Try.pinned (OpenSpec.ofChange realHoldsSpec)

/-- ITS FALSE NEIGHBOUR: 'it returns false'. Refute it at one input. -/
def realHoldsWrong : ChangeSpec := { name := "realHolds", fn := fun _ => fun
  | [d1, d2, d3] => { results := [.lit (.bool false)], args := [d1, d2, d3] }
  | _ => none }
def RealHoldsWrongFalsely : Prop := realHoldsRow.holds Try.pinned (OpenSpec.ofChange realHoldsWrong)

/-- 'tabulariumlaw03.RealClamps': WHATEVER THE INPUT: true; the input reads as it did. -/
def realClampsSpec : ChangeSpec := { name := "realClamps", fn := fun _ => fun
  | [d1, d2, d3] => { results := [.lit (.bool true)], args := [d1, d2, d3] }
  | _ => none }
def realClampsRow : OpenClaim := { program := "ytoncmgkgflomlaa", sum := "46a787c29157e956221217b0b95c723da1762c98dbcd6aa7343554d68e4996b5", func := "tabularium/tabulariumlaw03.RealClamps", spec := "realClamps", inPlace := ["math.Float64bits", "math.Float64frombits"], apart := false }
def RealClampsSaid : Prop := realClampsRow.holds Try.pinned (OpenSpec.ofChange realClampsSpec)

/-- ITS FALSE NEIGHBOUR: 'it returns false'. Refute it at one input. -/
def realClampsWrong : ChangeSpec := { name := "realClamps", fn := fun _ => fun
  | [d1, d2, d3] => { results := [.lit (.bool false)], args := [d1, d2, d3] }
  | _ => none }
def RealClampsWrongFalsely : Prop := realClampsRow.holds Try.pinned (OpenSpec.ofChange realClampsWrong)

/-- 'tabulariumlaw03.RealReaches': WHATEVER THE INPUT: true; the input reads as it did. -/
def realReachesSpec : ChangeSpec := { name := "realReaches", fn := fun _ => fun
  | [d1, d2, d3, d4] => { results := [.lit (.bool true)], args := [d1, d2, d3, d4] }
  | _ => none }
def realReachesRow : OpenClaim := { program := "ytoncmgkgflomlaa", sum := "46a787c29157e956221217b0b95c723da1762c98dbcd6aa7343554d68e4996b5", func := "tabularium/tabulariumlaw03.RealReaches", spec := "realReaches", inPlace := ["math.Float64bits", "math.Float64frombits"], apart := false }
def RealReachesSaid : Prop := realReachesRow.holds Try.pinned (OpenSpec.ofChange realReachesSpec)

/-- ITS FALSE NEIGHBOUR: 'it returns false'. Refute it at one input. -/
def realReachesWrong : ChangeSpec := { name := "realReaches", fn := fun _ => fun
  | [d1, d2, d3, d4] => { results := [.lit (.bool false)], args := [d1, d2, d3, d4] }
  | _ => none }
def RealReachesWrongFalsely : Prop := realReachesRow.holds Try.pinned (OpenSpec.ofChange realReachesWrong)

/-- 'tabulariumlaw03.RealMeans': WHATEVER THE INPUT: true; the input reads as it did. -/
def realMeansSpec : ChangeSpec := { name := "realMeans", fn := fun _ => fun
  | [d1, d2] => { results := [.lit (.bool true)], args := [d1, d2] }
  | _ => none }
def realMeansRow : OpenClaim := { program := "ytoncmgkgflomlaa", sum := "46a787c29157e956221217b0b95c723da1762c98dbcd6aa7343554d68e4996b5", func := "tabularium/tabulariumlaw03.RealMeans", spec := "realMeans", inPlace := ["math.Float64bits", "math.Float64frombits"], apart := false }
def RealMeansSaid : Prop := realMeansRow.holds Try.pinned (OpenSpec.ofChange realMeansSpec)

/-- ITS FALSE NEIGHBOUR: 'it returns false'. Refute it at one input. -/
def realMeansWrong : ChangeSpec := { name := "realMeans", fn := fun _ => fun
  | [d1, d2] => { results := [.lit (.bool false)], args := [d1, d2] }
  | _ => none }
def RealMeansWrongFalsely : Prop := realMeansRow.holds Try.pinned (OpenSpec.ofChange realMeansWrong)

/-- 'tabulariumlaw03.RealOrders': WHATEVER THE INPUT: true; the input reads as it did. -/
def realOrdersSpec : ChangeSpec := { name := "realOrders", fn := fun _ => fun
  | [d1, d2, d3] => { results := [.lit (.bool true)], args := [d1, d2, d3] }
  | _ => none }
def realOrdersRow : OpenClaim := { program := "ytoncmgkgflomlaa", sum := "46a787c29157e956221217b0b95c723da1762c98dbcd6aa7343554d68e4996b5", func := "tabularium/tabulariumlaw03.RealOrders", spec := "realOrders", inPlace := ["math.Float64bits", "math.Float64frombits"], unfollowed := true, recurses := true, apart := false }
def RealOrdersSaid : Prop := realOrdersRow.holds Try.pinned (OpenSpec.ofChange realOrdersSpec)

/-- ITS FALSE NEIGHBOUR: 'it returns false'. Refute it at one input. -/
def realOrdersWrong : ChangeSpec := { name := "realOrders", fn := fun _ => fun
  | [d1, d2, d3] => { results := [.lit (.bool false)], args := [d1, d2, d3] }
  | _ => none }
def RealOrdersWrongFalsely : Prop := realOrdersRow.holds Try.pinned (OpenSpec.ofChange realOrdersWrong)

/-- 'tabulariumlaw03.RealSorts': WHATEVER THE INPUT: true; the input reads as it did. -/
def realSortsSpec : ChangeSpec := { name := "realSorts", fn := fun _ => fun
  | [d] => { results := [.lit (.bool true)], args := [d] }
  | _ => none }
def realSortsRow : OpenClaim := { program := "ytoncmgkgflomlaa", sum := "46a787c29157e956221217b0b95c723da1762c98dbcd6aa7343554d68e4996b5", func := "tabularium/tabulariumlaw03.RealSorts", spec := "realSorts", inPlace := ["math.Float64bits", "math.Float64frombits"], unfollowed := true, recurses := true, apart := false }
def RealSortsSaid : Prop := realSortsRow.holds Try.pinned (OpenSpec.ofChange realSortsSpec)

/-- ITS FALSE NEIGHBOUR: 'it returns false'. Refute it at one input. -/
def realSortsWrong : ChangeSpec := { name := "realSorts", fn := fun _ => fun
  | [d] => { results := [.lit (.bool false)], args := [d] }
  | _ => none }
def RealSortsWrongFalsely : Prop := realSortsRow.holds Try.pinned (OpenSpec.ofChange realSortsWrong)

/- THE SECOND FORM. 'bulk': how many values and letters a reading holds, each counted each time it is reached (what is shared counts as often as it is met; a slice's spare places count too). A statement '..UptoSaid' is the law's where the arguments, and the package variables that the reading takes, are together of bulk at most 1048576: NARROWER than '..Said'. Prove '..Said' where nothing that the law and all that it calls make is longer than what came in: it says more and counts as full. Else prove '..UptoSaid'. A law counts once. -/
mutual
def uptoBulk {H : Type} : DataW H → Nat
  | .lit (.string bytes) => bytes.length + 1
  | .lit _ => 1
  | .nil => 1
  | .ptr d => uptoBulk d + 1
  | .slice elems spare => uptoBulkAll elems + uptoBulkAll spare + 1
  | .agg parts => uptoBulkAll parts + 1
  | .iface _ d => uptoBulk d + 1
  | .map entries => uptoBulkEntries entries + 1
  | .held _ => 1
def uptoBulkAll {H : Type} : List (DataW H) → Nat
  | [] => 0
  | d :: r => uptoBulk d + uptoBulkAll r
def uptoBulkEntries {H : Type} : List (Lit × DataW H) → Nat
  | [] => 0
  | x :: r => uptoBulkEntry x + uptoBulkEntries r
def uptoBulkEntry {H : Type} : Lit × DataW H → Nat
  | (.string bytes, d) => bytes.length + uptoBulk d + 1
  | (_, d) => uptoBulk d + 1
 end
def uptoSmall : (H : Type) → List (DataW H) → Bool := fun _ ds => decide (uptoBulkAll ds ≤ 1048576)
def OpenSpec.upto (s : _root_.Go.ChangeSpec) : _root_.Go.OpenSpec := { _root_.Go.OpenSpec.ofChange s with cond := some uptoSmall }

/-- 'tabulariumlaw03.RealTurns', WHERE WHAT IT READS IS OF BULK AT MOST 1048576: true; the input reads as it did. -/
def realTurnsUptoRow : OpenClaim := { program := "ytoncmgkgflomlaa", sum := "46a787c29157e956221217b0b95c723da1762c98dbcd6aa7343554d68e4996b5", func := "tabularium/tabulariumlaw03.RealTurns", spec := "realTurns", inPlace := ["math.Float64bits", "math.Float64frombits"], apart := false, narrowed := true }
def RealTurnsUptoSaid : Prop := realTurnsUptoRow.holds Try.pinned (OpenSpec.upto realTurnsSpec)

/-- 'tabulariumlaw03.RealShares', WHERE WHAT IT READS IS OF BULK AT MOST 1048576: true; the input reads as it did. -/
def realSharesUptoRow : OpenClaim := { program := "ytoncmgkgflomlaa", sum := "46a787c29157e956221217b0b95c723da1762c98dbcd6aa7343554d68e4996b5", func := "tabularium/tabulariumlaw03.RealShares", spec := "realShares", inPlace := ["math.Float64bits", "math.Float64frombits"], apart := false, narrowed := true }
def RealSharesUptoSaid : Prop := realSharesUptoRow.holds Try.pinned (OpenSpec.upto realSharesSpec)

/-- 'tabulariumlaw03.RealMore', WHERE WHAT IT READS IS OF BULK AT MOST 1048576: true; the input reads as it did. -/
def realMoreUptoRow : OpenClaim := { program := "ytoncmgkgflomlaa", sum := "46a787c29157e956221217b0b95c723da1762c98dbcd6aa7343554d68e4996b5", func := "tabularium/tabulariumlaw03.RealMore", spec := "realMore", inPlace := ["math.Float64bits", "math.Float64frombits"], apart := false, narrowed := true }
def RealMoreUptoSaid : Prop := realMoreUptoRow.holds Try.pinned (OpenSpec.upto realMoreSpec)

/-- 'tabulariumlaw03.RealHolds', WHERE WHAT IT READS IS OF BULK AT MOST 1048576: true; the input reads as it did. -/
def realHoldsUptoRow : OpenClaim := { program := "ytoncmgkgflomlaa", sum := "46a787c29157e956221217b0b95c723da1762c98dbcd6aa7343554d68e4996b5", func := "tabularium/tabulariumlaw03.RealHolds", spec := "realHolds", inPlace := ["math.Float64bits", "math.Float64frombits"], apart := false, narrowed := true }
def RealHoldsUptoSaid : Prop := realHoldsUptoRow.holds Try.pinned (OpenSpec.upto realHoldsSpec)

/-- 'tabulariumlaw03.RealClamps', WHERE WHAT IT READS IS OF BULK AT MOST 1048576: true; the input reads as it did. -/
def realClampsUptoRow : OpenClaim := { program := "ytoncmgkgflomlaa", sum := "46a787c29157e956221217b0b95c723da1762c98dbcd6aa7343554d68e4996b5", func := "tabularium/tabulariumlaw03.RealClamps", spec := "realClamps", inPlace := ["math.Float64bits", "math.Float64frombits"], apart := false, narrowed := true }
def RealClampsUptoSaid : Prop := realClampsUptoRow.holds Try.pinned (OpenSpec.upto realClampsSpec)

/-- 'tabulariumlaw03.RealReaches', WHERE WHAT IT READS IS OF BULK AT MOST 1048576: true; the input reads as it did. -/
def realReachesUptoRow : OpenClaim := { program := "ytoncmgkgflomlaa", sum := "46a787c29157e956221217b0b95c723da1762c98dbcd6aa7343554d68e4996b5", func := "tabularium/tabulariumlaw03.RealReaches", spec := "realReaches", inPlace := ["math.Float64bits", "math.Float64frombits"], apart := false, narrowed := true }
def RealReachesUptoSaid : Prop := realReachesUptoRow.holds Try.pinned (OpenSpec.upto realReachesSpec)

/-- 'tabulariumlaw03.RealMeans', WHERE WHAT IT READS IS OF BULK AT MOST 1048576: true; the input reads as it did. -/
def realMeansUptoRow : OpenClaim := { program := "ytoncmgkgflomlaa", sum := "46a787c29157e956221217b0b95c723da1762c98dbcd6aa7343554d68e4996b5", func := "tabularium/tabulariumlaw03.RealMeans", spec := "realMeans", inPlace := ["math.Float64bits", "math.Float64frombits"], apart := false, narrowed := true }
def RealMeansUptoSaid : Prop := realMeansUptoRow.holds Try.pinned (OpenSpec.upto realMeansSpec)

/-- 'tabulariumlaw03.RealOrders', WHERE WHAT IT READS IS OF BULK AT MOST 1048576: true; the input reads as it did. -/
def realOrdersUptoRow : OpenClaim := { program := "ytoncmgkgflomlaa", sum := "46a787c29157e956221217b0b95c723da1762c98dbcd6aa7343554d68e4996b5", func := "tabularium/tabulariumlaw03.RealOrders", spec := "realOrders", inPlace := ["math.Float64bits", "math.Float64frombits"], unfollowed := true, recurses := true, apart := false, narrowed := true }
def RealOrdersUptoSaid : Prop := realOrdersUptoRow.holds Try.pinned (OpenSpec.upto realOrdersSpec)

/-- 'tabulariumlaw03.RealSorts', WHERE WHAT IT READS IS OF BULK AT MOST 1048576: true; the input reads as it did. -/
def realSortsUptoRow : OpenClaim := { program := "ytoncmgkgflomlaa", sum := "46a787c29157e956221217b0b95c723da1762c98dbcd6aa7343554d68e4996b5", func := "tabularium/tabulariumlaw03.RealSorts", spec := "realSorts", inPlace := ["math.Float64bits", "math.Float64frombits"], unfollowed := true, recurses := true, apart := false, narrowed := true }
def RealSortsUptoSaid : Prop := realSortsUptoRow.holds Try.pinned (OpenSpec.upto realSortsSpec)

end Rows
end Go.Proofs.Ytoncmgkgflomlaa
