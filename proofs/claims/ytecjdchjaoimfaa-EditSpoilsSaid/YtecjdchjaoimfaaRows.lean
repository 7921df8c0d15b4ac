/-
  No cell of these rows narrows 'for every input' (looked for: loops, veiled, ifaces, maps, wideKeys, modest, calm, conditions, laid).
  DERIVED. THE GIVEN ROWS OF THIS SEAT. 4 by the template 'for every input the law returns true; each argument reads behind the call as it read before'; 0 by the template 'total and deterministic' (their statements: YtecjdchjaoimfaaTotals.lean).
  GIVEN WITH THE SEED: the statements are not yours to turn. If you find one false, say at which input.
  Laid BY PROGRAM, IN A SANDBOX (cutbox-rows.mjs): the forced cells as the released guide's own fill.sh prints them over the translation f0d0dd383f73ee9a… (all of the seat's roots in one cut). By AI agents, Wed Nov 11 2026. No macro, syntax, notation, axiom, sorry.
-/
import Derived.Test.YtecjdchjaoimfaaChecked
import GoSem.Claim
import GoSem.ClaimJoined
import GoSem.ClaimMapViews
import Derived.JoinedTies
import Derived.KernelRfl
namespace Go.Proofs.Ytecjdchjaoimfaa
/- THE CELL 'sum', in the pinned program and in every row, IS THE sha256 OF THE DUMP (.gsa) THAT YtecjdchjaoimfaaProg.lean LOADS. Nothing in Lean hashes anything: it is a label: what it is worth is what the hold of that sum in a sandbox is worth. -/
noncomputable def Try.pinned : Pinned := { name := "ytecjdchjaoimfaa", sum := "f0d0dd383f73ee9a426cd6b69be65f61d9efc6f57f41c748b0c75ad3243dd7e6", checked := Try.checked }
namespace Rows
def none {H : Type} : Left H := { results := [], args := [] }

/-- 'tabulariumlaw10.EditBytes': WHATEVER THE INPUT: true; the input reads as it did. -/
def editBytesSpec : ChangeSpec := { name := "editBytes", fn := fun _ => fun
  | [d1, d2] => { results := [.lit (.bool true)], args := [d1, d2] }
  | _ => none }
def editBytesRow : OpenClaim := { program := "ytecjdchjaoimfaa", sum := "f0d0dd383f73ee9a426cd6b69be65f61d9efc6f57f41c748b0c75ad3243dd7e6", func := "tabularium/tabulariumlaw10.EditBytes", spec := "editBytes", inPlace := ["internal/abi.NoEscape"], unfollowed := true, recurses := true, apart := false }
def EditBytesSaid : Prop := editBytesRow.holds Try.pinned (OpenSpec.ofChange editBytesSpec)

/-- ITS FALSE NEIGHBOUR: 'it returns false'. Refute it at one input. -/
def editBytesWrong : ChangeSpec := { name := "editBytes", fn := fun _ => fun
  | [d1, d2] => { results := [.lit (.bool false)], args := [d1, d2] }
  | _ => none }
def EditBytesWrongFalsely : Prop := editBytesRow.holds Try.pinned (OpenSpec.ofChange editBytesWrong)

/-- 'tabulariumlaw10.EditBack': WHATEVER THE INPUT: true; the input reads as it did. -/
def editBackSpec : ChangeSpec := { name := "editBack", fn := fun _ => fun
  | [d1, d2, d3] => { results := [.lit (.bool true)], args := [d1, d2, d3] }
  | _ => none }
def editBackRow : OpenClaim := { program := "ytecjdchjaoimfaa", sum := "f0d0dd383f73ee9a426cd6b69be65f61d9efc6f57f41c748b0c75ad3243dd7e6", func := "tabularium/tabulariumlaw10.EditBack", spec := "editBack", inPlace := ["internal/abi.NoEscape"], unfollowed := true, recurses := true, apart := false }
def EditBackSaid : Prop := editBackRow.holds Try.pinned (OpenSpec.ofChange editBackSpec)

/-- ITS FALSE NEIGHBOUR: 'it returns false'. Refute it at one input. -/
def editBackWrong : ChangeSpec := { name := "editBack", fn := fun _ => fun
  | [d1, d2, d3] => { results := [.lit (.bool false)], args := [d1, d2, d3] }
  | _ => none }
def EditBackWrongFalsely : Prop := editBackRow.holds Try.pinned (OpenSpec.ofChange editBackWrong)

/-- 'tabulariumlaw10.EditApart': WHATEVER THE INPUT: true; the input reads as it did. -/
def editApartSpec : ChangeSpec := { name := "editApart", fn := fun _ => fun
  | [d1, d2] => { results := [.lit (.bool true)], args := [d1, d2] }
  | _ => none }
def editApartRow : OpenClaim := { program := "ytecjdchjaoimfaa", sum := "f0d0dd383f73ee9a426cd6b69be65f61d9efc6f57f41c748b0c75ad3243dd7e6", func := "tabularium/tabulariumlaw10.EditApart", spec := "editApart", inPlace := ["internal/abi.NoEscape"], unfollowed := true, recurses := true, apart := false }
def EditApartSaid : Prop := editApartRow.holds Try.pinned (OpenSpec.ofChange editApartSpec)

/-- ITS FALSE NEIGHBOUR: 'it returns false'. Refute it at one input. -/
def editApartWrong : ChangeSpec := { name := "editApart", fn := fun _ => fun
  | [d1, d2] => { results := [.lit (.bool false)], args := [d1, d2] }
  | _ => none }
def EditApartWrongFalsely : Prop := editApartRow.holds Try.pinned (OpenSpec.ofChange editApartWrong)

/-- 'tabulariumlaw10.EditSpoils': WHATEVER THE INPUT: true; the input reads as it did. -/
def editSpoilsSpec : ChangeSpec := { name := "editSpoils", fn := fun _ => fun
  | [d1, d2] => { results := [.lit (.bool true)], args := [d1, d2] }
  | _ => none }
def editSpoilsRow : OpenClaim := { program := "ytecjdchjaoimfaa", sum := "f0d0dd383f73ee9a426cd6b69be65f61d9efc6f57f41c748b0c75ad3243dd7e6", func := "tabularium/tabulariumlaw10.EditSpoils", spec := "editSpoils", inPlace := ["internal/abi.NoEscape"], unfollowed := true, recurses := true, apart := false }
def EditSpoilsSaid : Prop := editSpoilsRow.holds Try.pinned (OpenSpec.ofChange editSpoilsSpec)

/-- ITS FALSE NEIGHBOUR: 'it returns false'. Refute it at one input. -/
def editSpoilsWrong : ChangeSpec := { name := "editSpoils", fn := fun _ => fun
  | [d1, d2] => { results := [.lit (.bool false)], args := [d1, d2] }
  | _ => none }
def EditSpoilsWrongFalsely : Prop := editSpoilsRow.holds Try.pinned (OpenSpec.ofChange editSpoilsWrong)

/- THE SECOND FORM. 'bulk': how many values and letters a reading holds, each counted each time it is reached (what is shared counts as often as it is met; a slice's spare places count too). A statement '..UptoSaid' is the law's where the arguments, and the package variables that the reading takes, are together of bulk at most 1048576: NARROWER than '..Said'. Prove '..Said' where nothing that the law and all that it calls make is longer than what came in: it says more and counts as full. Else prove '..UptoSaid'. A law counts once. -/
mutual
def uptoBulk {H : Type} : DataW H → Nat
  | .lit (.string bytes) => bytes.length + 1
  | .lit _ => 1
  | .nil => 1
  | .ptr d => uptoBulk d + 1
  | .slice elems spare => uptoBulkAll elems + uptoBulkAll spare + 1
  | .agg parts => uptoBulkAll parts + 1
  | .iface _ d => uptoBulk d + 1
  | .map entries => uptoBulkEntries entries + 1
  | .held _ => 1
def uptoBulkAll {H : Type} : List (DataW H) → Nat
  | [] => 0
  | d :: r => uptoBulk d + uptoBulkAll r
def uptoBulkEntries {H : Type} : List (Lit × DataW H) → Nat
  | [] => 0
  | x :: r => uptoBulkEntry x + uptoBulkEntries r
def uptoBulkEntry {H : Type} : Lit × DataW H → Nat
  | (.string bytes, d) => bytes.length + uptoBulk d + 1
  | (_, d) => uptoBulk d + 1
 end
def uptoSmall : (H : Type) → List (DataW H) → Bool := fun _ ds => decide (uptoBulkAll ds ≤ 1048576)
def OpenSpec.upto (s : _root_.Go.ChangeSpec) : _root_.Go.OpenSpec := { _root_.Go.OpenSpec.ofChange s with cond := some uptoSmall }

/-- 'tabulariumlaw10.EditBytes', WHERE WHAT IT READS IS OF BULK AT MOST 1048576: true; the input reads as it did. -/
def editBytesUptoRow : OpenClaim := { program := "ytecjdchjaoimfaa", sum := "f0d0dd383f73ee9a426cd6b69be65f61d9efc6f57f41c748b0c75ad3243dd7e6", func := "tabularium/tabulariumlaw10.EditBytes", spec := "editBytes", inPlace := ["internal/abi.NoEscape"], unfollowed := true, recurses := true, apart := false, narrowed := true }
def EditBytesUptoSaid : Prop := editBytesUptoRow.holds Try.pinned (OpenSpec.upto editBytesSpec)

/-- 'tabulariumlaw10.EditBack', WHERE WHAT IT READS IS OF BULK AT MOST 1048576: true; the input reads as it did. -/
def editBackUptoRow : OpenClaim := { program := "ytecjdchjaoimfaa", sum := "f0d0dd383f73ee9a426cd6b69be65f61d9efc6f57f41c748b0c75ad3243dd7e6", func := "tabularium/tabulariumlaw10.EditBack", spec := "editBack", inPlace := ["internal/abi.NoEscape"], unfollowed := true, recurses := true, apart := false, narrowed := true }
def EditBackUptoSaid : Prop := editBackUptoRow.holds Try.pinned (OpenSpec.upto editBackSpec)

/-- 'tabulariumlaw10.EditApart', WHERE WHAT IT READS IS OF BULK AT MOST 1048576: true; the input reads as it did. -/
def editApartUptoRow : OpenClaim := { program := "ytecjdchjaoimfaa", sum := "f0d0dd383f73ee9a426cd6b69be65f61d9efc6f57f41c748b0c75ad3243dd7e6", func := "tabularium/tabulariumlaw10.EditApart", spec := "editApart", inPlace := ["internal/abi.NoEscape"], unfollowed := true, recurses := true, apart := false, narrowed := true }
def EditApartUptoSaid : Prop := editApartUptoRow.holds Try.pinned (OpenSpec.upto editApartSpec)

/-- 'tabulariumlaw10.EditSpoils', WHERE WHAT IT READS IS OF BULK AT MOST 1048576: true; the input reads as it did. -/
def editSpoilsUptoRow : OpenClaim := { program := "ytecjdchjaoimfaa", sum := "f0d0dd383f73ee9a426cd6b69be65f61d9efc6f57f41c748b0c75ad3243dd7e6", func := "tabularium/tabulariumlaw10.EditSpoils", spec := "editSpoils", inPlace := ["internal/abi.NoEscape"], unfollowed := true, recurses := true, apart := false, narrowed := true }
def EditSpoilsUptoSaid : Prop := editSpoilsUptoRow.holds Try.pinned (OpenSpec.upto editSpoilsSpec)

end Rows
end Go.Proofs.Ytecjdchjaoimfaa
