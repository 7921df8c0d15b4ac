/-
  No cell of these rows narrows 'for every input' (looked for: loops, veiled, ifaces, maps, wideKeys, modest, calm, conditions, laid).
  DERIVED. THE GIVEN ROWS OF THIS SEAT. 4 by the template 'for every input the law returns true; each argument reads behind the call as it read before'; 0 by the template 'total and deterministic' (their statements: YtabgoiacjfekpaaTotals.lean).
  GIVEN WITH THE SEED: the statements are not yours to turn. If you find one false, say at which input.
  Laid BY PROGRAM, IN A SANDBOX (cutbox-rows.mjs): the forced cells as the released guide's own fill.sh prints them over the translation 916c5e6418868657… (all of the seat's roots in one cut). By AI agents, Wed Nov 11 2026. No macro, syntax, notation, axiom, sorry.
-/
import Derived.Test.YtabgoiacjfekpaaChecked
import GoSem.Claim
import GoSem.ClaimJoined
import GoSem.ClaimMapViews
import Derived.JoinedTies
import Derived.KernelRfl
namespace Go.Proofs.Ytabgoiacjfekpaa
/- THE CELL 'sum', in the pinned program and in every row, IS THE sha256 OF THE DUMP (.gsa) THAT YtabgoiacjfekpaaProg.lean LOADS. Nothing in Lean hashes anything: it is a label: what it is worth is what the hold of that sum in a sandbox is worth. -/
noncomputable def Try.pinned : Pinned := { name := "ytabgoiacjfekpaa", sum := "916c5e6418868657c2d1962ef96a89233777bb77b5abc969c9578d583e144f19", checked := Try.checked }
namespace Rows
def none {H : Type} : Left H := { results := [], args := [] }

/-- 'tabulariumlaw21.SafeMissing': WHATEVER THE INPUT: true; the input reads as it did. -/
def safeMissingSpec : ChangeSpec := { name := "safeMissing", fn := fun _ => fun
  | [d1, d2, d3, d4] => { results := [.lit (.bool true)], args := [d1, d2, d3, d4] }
  | _ => none }
def safeMissingRow : OpenClaim := { program := "ytabgoiacjfekpaa", sum := "916c5e6418868657c2d1962ef96a89233777bb77b5abc969c9578d583e144f19", func := "tabularium/tabulariumlaw21.SafeMissing", spec := "safeMissing", unfollowed := true, recurses := true, apart := false }
def SafeMissingSaid : Prop := safeMissingRow.holds Try.pinned (OpenSpec.ofChange safeMissingSpec)

/-- ITS FALSE NEIGHBOUR: 'it returns false'. Refute it at one input. -/
def safeMissingWrong : ChangeSpec := { name := "safeMissing", fn := fun _ => fun
  | [d1, d2, d3, d4] => { results := [.lit (.bool false)], args := [d1, d2, d3, d4] }
  | _ => none }
def SafeMissingWrongFalsely : Prop := safeMissingRow.holds Try.pinned (OpenSpec.ofChange safeMissingWrong)

/-- 'tabulariumlaw21.SafeShares': WHATEVER THE INPUT: true; the input reads as it did. -/
def safeSharesSpec : ChangeSpec := { name := "safeShares", fn := fun _ => fun
  | [d1, d2, d3] => { results := [.lit (.bool true)], args := [d1, d2, d3] }
  | _ => none }
def safeSharesRow : OpenClaim := { program := "ytabgoiacjfekpaa", sum := "916c5e6418868657c2d1962ef96a89233777bb77b5abc969c9578d583e144f19", func := "tabularium/tabulariumlaw21.SafeShares", spec := "safeShares", unfollowed := true, recurses := true, apart := false }
def SafeSharesSaid : Prop := safeSharesRow.holds Try.pinned (OpenSpec.ofChange safeSharesSpec)

/-- ITS FALSE NEIGHBOUR: 'it returns false'. Refute it at one input. -/
def safeSharesWrong : ChangeSpec := { name := "safeShares", fn := fun _ => fun
  | [d1, d2, d3] => { results := [.lit (.bool false)], args := [d1, d2, d3] }
  | _ => none }
def SafeSharesWrongFalsely : Prop := safeSharesRow.holds Try.pinned (OpenSpec.ofChange safeSharesWrong)

/-- 'tabulariumlaw21.SafeOrder': WHATEVER THE INPUT: true; the input reads as it did. -/
def safeOrderSpec : ChangeSpec := { name := "safeOrder", fn := fun _ => fun
  | [d1, d2, d3, d4, d5] => { results := [.lit (.bool true)], args := [d1, d2, d3, d4, d5] }
  | _ => none }
def safeOrderRow : OpenClaim := { program := "ytabgoiacjfekpaa", sum := "916c5e6418868657c2d1962ef96a89233777bb77b5abc969c9578d583e144f19", func := "tabularium/tabulariumlaw21.SafeOrder", spec := "safeOrder", unfollowed := true, recurses := true, apart := false }
def SafeOrderSaid : Prop := safeOrderRow.holds Try.pinned (OpenSpec.ofChange safeOrderSpec)

/-- ITS FALSE NEIGHBOUR: 'it returns false'. Refute it at one input. -/
def safeOrderWrong : ChangeSpec := { name := "safeOrder", fn := fun _ => fun
  | [d1, d2, d3, d4, d5] => { results := [.lit (.bool false)], args := [d1, d2, d3, d4, d5] }
  | _ => none }
def SafeOrderWrongFalsely : Prop := safeOrderRow.holds Try.pinned (OpenSpec.ofChange safeOrderWrong)

/-- 'tabulariumlaw21.SafePlays': WHATEVER THE INPUT: true; the input reads as it did. -/
def safePlaysSpec : ChangeSpec := { name := "safePlays", fn := fun _ => fun
  | [d1, d2, d3] => { results := [.lit (.bool true)], args := [d1, d2, d3] }
  | _ => none }
def safePlaysRow : OpenClaim := { program := "ytabgoiacjfekpaa", sum := "916c5e6418868657c2d1962ef96a89233777bb77b5abc969c9578d583e144f19", func := "tabularium/tabulariumlaw21.SafePlays", spec := "safePlays", unfollowed := true, recurses := true, apart := false }
def SafePlaysSaid : Prop := safePlaysRow.holds Try.pinned (OpenSpec.ofChange safePlaysSpec)

/-- ITS FALSE NEIGHBOUR: 'it returns false'. Refute it at one input. -/
def safePlaysWrong : ChangeSpec := { name := "safePlays", fn := fun _ => fun
  | [d1, d2, d3] => { results := [.lit (.bool false)], args := [d1, d2, d3] }
  | _ => none }
def SafePlaysWrongFalsely : Prop := safePlaysRow.holds Try.pinned (OpenSpec.ofChange safePlaysWrong)

/- THE SECOND FORM. 'bulk': how many values and letters a reading holds, each counted each time it is reached (what is shared counts as often as it is met; a slice's spare places count too). A statement '..UptoSaid' is the law's where the arguments, and the package variables that the reading takes, are together of bulk at most 1048576: NARROWER than '..Said'. Prove '..Said' where nothing that the law and all that it calls make is longer than what came in: it says more and counts as full. Else prove '..UptoSaid'. A law counts once. -/
mutual
def uptoBulk {H : Type} : DataW H → Nat
  | .lit (.string bytes) => bytes.length + 1
  | .lit _ => 1
  | .nil => 1
  | .ptr d => uptoBulk d + 1
  | .slice elems spare => uptoBulkAll elems + uptoBulkAll spare + 1
  | .agg parts => uptoBulkAll parts + 1
  | .iface _ d => uptoBulk d + 1
  | .map entries => uptoBulkEntries entries + 1
  | .held _ => 1
def uptoBulkAll {H : Type} : List (DataW H) → Nat
  | [] => 0
  | d :: r => uptoBulk d + uptoBulkAll r
def uptoBulkEntries {H : Type} : List (Lit × DataW H) → Nat
  | [] => 0
  | x :: r => uptoBulkEntry x + uptoBulkEntries r
def uptoBulkEntry {H : Type} : Lit × DataW H → Nat
  | (.string bytes, d) => bytes.length + uptoBulk d + 1
  | (_, d) => uptoBulk d + 1
 end
def uptoSmall : (H : Type) → List (DataW H) → Bool := fun _ ds => decide (uptoBulkAll ds ≤ 1048576)
def OpenSpec.upto (s : _root_.Go.ChangeSpec) : _root_.Go.OpenSpec := { _root_.Go.OpenSpec.ofChange s with cond := some uptoSmall }

/-- 'tabulariumlaw21.SafeMissing', WHERE WHAT IT READS IS OF BULK AT MOST 1048576: true; the input reads as it did. -/
def safeMissingUptoRow : OpenClaim := { program := "ytabgoiacjfekpaa", sum := "916c5e6418868657c2d1962ef96a89233777bb77b5abc969c9578d583e144f19", func := "tabularium/tabulariumlaw21.SafeMissing", spec := "safeMissing", unfollowed := true, recurses := true, apart := false, narrowed := true }
def SafeMissingUptoSaid : Prop := safeMissingUptoRow.holds Try.pinned (OpenSpec.upto safeMissingSpec)

/-- 'tabulariumlaw21.SafeShares', WHERE WHAT IT READS IS OF BULK AT MOST 1048576: true; the input reads as it did. -/
def safeSharesUptoRow : OpenClaim := { program := "ytabgoiacjfekpaa", sum := "916c5e6418868657c2d1962ef96a89233777bb77b5abc969c9578d583e144f19", func := "tabularium/tabulariumlaw21.SafeShares", spec := "safeShares", unfollowed := true, recurses := true, apart := false, narrowed := true }
def SafeSharesUptoSaid : Prop := safeSharesUptoRow.holds Try.pinned (OpenSpec.upto safeSharesSpec)

/-- 'tabulariumlaw21.SafeOrder', WHERE WHAT IT READS IS OF BULK AT MOST 1048576: true; the input reads as it did. -/
def safeOrderUptoRow : OpenClaim := { program := "ytabgoiacjfekpaa", sum := "916c5e6418868657c2d1962ef96a89233777bb77b5abc969c9578d583e144f19", func := "tabularium/tabulariumlaw21.SafeOrder", spec := "safeOrder", unfollowed := true, recurses := true, apart := false, narrowed := true }
def SafeOrderUptoSaid : Prop := safeOrderUptoRow.holds Try.pinned (OpenSpec.upto safeOrderSpec)

/-- 'tabulariumlaw21.SafePlays', WHERE WHAT IT READS IS OF BULK AT MOST 1048576: true; the input reads as it did. -/
def safePlaysUptoRow : OpenClaim := { program := "ytabgoiacjfekpaa", sum := "916c5e6418868657c2d1962ef96a89233777bb77b5abc969c9578d583e144f19", func := "tabularium/tabulariumlaw21.SafePlays", spec := "safePlays", unfollowed := true, recurses := true, apart := false, narrowed := true }
def SafePlaysUptoSaid : Prop := safePlaysUptoRow.holds Try.pinned (OpenSpec.upto safePlaysSpec)

end Rows
end Go.Proofs.Ytabgoiacjfekpaa
