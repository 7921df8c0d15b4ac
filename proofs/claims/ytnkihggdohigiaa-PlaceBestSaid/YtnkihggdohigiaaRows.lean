/-
  No cell of these rows narrows 'for every input' (looked for: loops, veiled, ifaces, maps, wideKeys, modest, calm, conditions, laid).
  DERIVED. THE GIVEN ROWS OF THIS SEAT. 5 by the template 'for every input the law returns true; each argument reads behind the call as it read before'; 0 by the template 'total and deterministic' (their statements: YtnkihggdohigiaaTotals.lean).
  GIVEN WITH THE SEED: the statements are not yours to turn. If you find one false, say at which input.
  Laid BY PROGRAM, IN A SANDBOX (cutbox-rows.mjs): the forced cells as the released guide's own fill.sh prints them over the translation 47b7064ae447aa61… (all of the seat's roots in one cut). By AI agents, Wed Nov 11 2026. No macro, syntax, notation, axiom, sorry.
-/
import Derived.Test.YtnkihggdohigiaaChecked
import GoSem.Claim
import GoSem.ClaimJoined
import GoSem.ClaimMapViews
import Derived.JoinedTies
import Derived.KernelRfl
namespace Go.Proofs.Ytnkihggdohigiaa
/- THE CELL 'sum', in the pinned program and in every row, IS THE sha256 OF THE DUMP (.gsa) THAT YtnkihggdohigiaaProg.lean LOADS. Nothing in Lean hashes anything: it is a label: what it is worth is what the hold of that sum in a sandbox is worth. -/
noncomputable def Try.pinned : Pinned := { name := "ytnkihggdohigiaa", sum := "47b7064ae447aa610c4e8eb6a1247af3dab48dcf5e6be59b2f84c0836c10eeeb", checked := Try.checked }
namespace Rows
def none {H : Type} : Left H := { results := [], args := [] }

/-- 'tabulariumlaw22.PlaceChooses': WHATEVER THE INPUT: true; the input reads as it did. -/
def placeChoosesSpec : ChangeSpec := { name := "placeChooses", fn := fun _ => fun
  | [d1, d2, d3, d4, d5] => { results := [.lit (.bool true)], args := [d1, d2, d3, d4, d5] }
  | _ => none }
def placeChoosesRow : OpenClaim := { program := "ytnkihggdohigiaa", sum := "47b7064ae447aa610c4e8eb6a1247af3dab48dcf5e6be59b2f84c0836c10eeeb", func := "tabularium/tabulariumlaw22.PlaceChooses", spec := "placeChooses", inPlace := ["math.Float64bits"], unfollowed := true, recurses := true, apart := false }
def PlaceChoosesSaid : Prop := placeChoosesRow.holds Try.pinned (OpenSpec.ofChange placeChoosesSpec)

/-- ITS FALSE NEIGHBOUR: 'it returns false'. Refute it at one input. -/
def placeChoosesWrong : ChangeSpec := { name := "placeChooses", fn := fun _ => fun
  | [d1, d2, d3, d4, d5] => { results := [.lit (.bool false)], args := [d1, d2, d3, d4, d5] }
  | _ => none }
def PlaceChoosesWrongFalsely : Prop := placeChoosesRow.holds Try.pinned (OpenSpec.ofChange placeChoosesWrong)

/-- 'tabulariumlaw22.PlaceBest': WHATEVER THE INPUT: true; the input reads as it did. -/
def placeBestSpec : ChangeSpec := { name := "placeBest", fn := fun _ => fun
  | [d1, d2, d3] => { results := [.lit (.bool true)], args := [d1, d2, d3] }
  | _ => none }
def placeBestRow : OpenClaim := { program := "ytnkihggdohigiaa", sum := "47b7064ae447aa610c4e8eb6a1247af3dab48dcf5e6be59b2f84c0836c10eeeb", func := "tabularium/tabulariumlaw22.PlaceBest", spec := "placeBest", inPlace := ["math.Float64bits"], unfollowed := true, recurses := true, apart := false }
def PlaceBestSaid : Prop := placeBestRow.holds Try.pinned (OpenSpec.ofChange placeBestSpec)

/-- ITS FALSE NEIGHBOUR: 'it returns false'. Refute it at one input. -/
def placeBestWrong : ChangeSpec := { name := "placeBest", fn := fun _ => fun
  | [d1, d2, d3] => { results := [.lit (.bool false)], args := [d1, d2, d3] }
  | _ => none }
def PlaceBestWrongFalsely : Prop := placeBestRow.holds Try.pinned (OpenSpec.ofChange placeBestWrong)

/-- 'tabulariumlaw22.PlaceOrder': WHATEVER THE INPUT: true; the input reads as it did. -/
def placeOrderSpec : ChangeSpec := { name := "placeOrder", fn := fun _ => fun
  | [d1, d2, d3] => { results := [.lit (.bool true)], args := [d1, d2, d3] }
  | _ => none }
def placeOrderRow : OpenClaim := { program := "ytnkihggdohigiaa", sum := "47b7064ae447aa610c4e8eb6a1247af3dab48dcf5e6be59b2f84c0836c10eeeb", func := "tabularium/tabulariumlaw22.PlaceOrder", spec := "placeOrder", inPlace := ["math.Float64bits"], unfollowed := true, recurses := true, apart := false }
def PlaceOrderSaid : Prop := placeOrderRow.holds Try.pinned (OpenSpec.ofChange placeOrderSpec)

/-- ITS FALSE NEIGHBOUR: 'it returns false'. Refute it at one input. -/
def placeOrderWrong : ChangeSpec := { name := "placeOrder", fn := fun _ => fun
  | [d1, d2, d3] => { results := [.lit (.bool false)], args := [d1, d2, d3] }
  | _ => none }
def PlaceOrderWrongFalsely : Prop := placeOrderRow.holds Try.pinned (OpenSpec.ofChange placeOrderWrong)

/-- 'tabulariumlaw22.PlaceSpread': WHATEVER THE INPUT: true; the input reads as it did. -/
def placeSpreadSpec : ChangeSpec := { name := "placeSpread", fn := fun _ => fun
  | [d1, d2] => { results := [.lit (.bool true)], args := [d1, d2] }
  | _ => none }
def placeSpreadRow : OpenClaim := { program := "ytnkihggdohigiaa", sum := "47b7064ae447aa610c4e8eb6a1247af3dab48dcf5e6be59b2f84c0836c10eeeb", func := "tabularium/tabulariumlaw22.PlaceSpread", spec := "placeSpread", inPlace := ["math.Float64bits"], unfollowed := true, recurses := true, apart := false }
def PlaceSpreadSaid : Prop := placeSpreadRow.holds Try.pinned (OpenSpec.ofChange placeSpreadSpec)

/-- ITS FALSE NEIGHBOUR: 'it returns false'. Refute it at one input. -/
def placeSpreadWrong : ChangeSpec := { name := "placeSpread", fn := fun _ => fun
  | [d1, d2] => { results := [.lit (.bool false)], args := [d1, d2] }
  | _ => none }
def PlaceSpreadWrongFalsely : Prop := placeSpreadRow.holds Try.pinned (OpenSpec.ofChange placeSpreadWrong)

/-- 'tabulariumlaw22.PlaceBarred': WHATEVER THE INPUT: true; the input reads as it did. -/
def placeBarredSpec : ChangeSpec := { name := "placeBarred", fn := fun _ => fun
  | [d1, d2, d3, d4, d5] => { results := [.lit (.bool true)], args := [d1, d2, d3, d4, d5] }
  | _ => none }
def placeBarredRow : OpenClaim := { program := "ytnkihggdohigiaa", sum := "47b7064ae447aa610c4e8eb6a1247af3dab48dcf5e6be59b2f84c0836c10eeeb", func := "tabularium/tabulariumlaw22.PlaceBarred", spec := "placeBarred", inPlace := ["math.Float64bits"], unfollowed := true, recurses := true, apart := false }
def PlaceBarredSaid : Prop := placeBarredRow.holds Try.pinned (OpenSpec.ofChange placeBarredSpec)

/-- ITS FALSE NEIGHBOUR: 'it returns false'. Refute it at one input. -/
def placeBarredWrong : ChangeSpec := { name := "placeBarred", fn := fun _ => fun
  | [d1, d2, d3, d4, d5] => { results := [.lit (.bool false)], args := [d1, d2, d3, d4, d5] }
  | _ => none }
def PlaceBarredWrongFalsely : Prop := placeBarredRow.holds Try.pinned (OpenSpec.ofChange placeBarredWrong)

/- THE SECOND FORM. 'bulk': how many values and letters a reading holds, each counted each time it is reached (what is shared counts as often as it is met; a slice's spare places count too). A statement '..UptoSaid' is the law's where the arguments, and the package variables that the reading takes, are together of bulk at most 1048576: NARROWER than '..Said'. Prove '..Said' where nothing that the law and all that it calls make is longer than what came in: it says more and counts as full. Else prove '..UptoSaid'. A law counts once. -/
mutual
def uptoBulk {H : Type} : DataW H → Nat
  | .lit (.string bytes) => bytes.length + 1
  | .lit _ => 1
  | .nil => 1
  | .ptr d => uptoBulk d + 1
  | .slice elems spare => uptoBulkAll elems + uptoBulkAll spare + 1
  | .agg parts => uptoBulkAll parts + 1
  | .iface _ d => uptoBulk d + 1
  | .map entries => uptoBulkEntries entries + 1
  | .held _ => 1
def uptoBulkAll {H : Type} : List (DataW H) → Nat
  | [] => 0
  | d :: r => uptoBulk d + uptoBulkAll r
def uptoBulkEntries {H : Type} : List (Lit × DataW H) → Nat
  | [] => 0
  | x :: r => uptoBulkEntry x + uptoBulkEntries r
def uptoBulkEntry {H : Type} : Lit × DataW H → Nat
  | (.string bytes, d) => bytes.length + uptoBulk d + 1
  | (_, d) => uptoBulk d + 1
 end
def uptoSmall : (H : Type) → List (DataW H) → Bool := fun _ ds => decide (uptoBulkAll ds ≤ 1048576)
def OpenSpec.upto (s : _root_.Go.ChangeSpec) : _root_.Go.OpenSpec := { _root_.Go.OpenSpec.ofChange s with cond := some uptoSmall }

/-- 'tabulariumlaw22.PlaceChooses', WHERE WHAT IT READS IS OF BULK AT MOST 1048576: true; the input reads as it did. -/
def placeChoosesUptoRow : OpenClaim := { program := "ytnkihggdohigiaa", sum := "47b7064ae447aa610c4e8eb6a1247af3dab48dcf5e6be59b2f84c0836c10eeeb", func := "tabularium/tabulariumlaw22.PlaceChooses", spec := "placeChooses", inPlace := ["math.Float64bits"], unfollowed := true, recurses := true, apart := false, narrowed := true }
def PlaceChoosesUptoSaid : Prop := placeChoosesUptoRow.holds Try.pinned (OpenSpec.upto placeChoosesSpec)

/-- 'tabulariumlaw22.PlaceBest', WHERE WHAT IT READS IS OF BULK AT MOST 1048576: true; the input reads as it did. -/
def placeBestUptoRow : OpenClaim := { program := "ytnkihggdohigiaa", sum := "47b7064ae447aa610c4e8eb6a1247af3dab48dcf5e6be59b2f84c0836c10eeeb", func := "tabularium/tabulariumlaw22.PlaceBest", spec := "placeBest", inPlace := ["math.Float64bits"], unfollowed := true, recurses := true, apart := false, narrowed := true }
def PlaceBestUptoSaid : Prop := placeBestUptoRow.holds Try.pinned (OpenSpec.upto placeBestSpec)

/-- 'tabulariumlaw22.PlaceOrder', WHERE WHAT IT READS IS OF BULK AT MOST 1048576: true; the input reads as it did. -/
def placeOrderUptoRow : OpenClaim := { program := "ytnkihggdohigiaa", sum := "47b7064ae447aa610c4e8eb6a1247af3dab48dcf5e6be59b2f84c0836c10eeeb", func := "tabularium/tabulariumlaw22.PlaceOrder", spec := "placeOrder", inPlace := ["math.Float64bits"], unfollowed := true, recurses := true, apart := false, narrowed := true }
def PlaceOrderUptoSaid : Prop := placeOrderUptoRow.holds Try.pinned (OpenSpec.upto placeOrderSpec)

/-- 'tabulariumlaw22.PlaceSpread', WHERE WHAT IT READS IS OF BULK AT MOST 1048576: true; the input reads as it did. -/
def placeSpreadUptoRow : OpenClaim := { program := "ytnkihggdohigiaa", sum := "47b7064ae447aa610c4e8eb6a1247af3dab48dcf5e6be59b2f84c0836c10eeeb", func := "tabularium/tabulariumlaw22.PlaceSpread", spec := "placeSpread", inPlace := ["math.Float64bits"], unfollowed := true, recurses := true, apart := false, narrowed := true }
def PlaceSpreadUptoSaid : Prop := placeSpreadUptoRow.holds Try.pinned (OpenSpec.upto placeSpreadSpec)

/-- 'tabulariumlaw22.PlaceBarred', WHERE WHAT IT READS IS OF BULK AT MOST 1048576: true; the input reads as it did. -/
def placeBarredUptoRow : OpenClaim := { program := "ytnkihggdohigiaa", sum := "47b7064ae447aa610c4e8eb6a1247af3dab48dcf5e6be59b2f84c0836c10eeeb", func := "tabularium/tabulariumlaw22.PlaceBarred", spec := "placeBarred", inPlace := ["math.Float64bits"], unfollowed := true, recurses := true, apart := false, narrowed := true }
def PlaceBarredUptoSaid : Prop := placeBarredUptoRow.holds Try.pinned (OpenSpec.upto placeBarredSpec)

end Rows
end Go.Proofs.Ytnkihggdohigiaa
