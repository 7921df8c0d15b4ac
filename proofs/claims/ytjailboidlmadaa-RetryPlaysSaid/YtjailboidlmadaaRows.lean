/-
  No cell of these rows narrows 'for every input' (looked for: loops, veiled, ifaces, maps, wideKeys, modest, calm, conditions, laid).
  DERIVED. THE GIVEN ROWS OF THIS SEAT. 4 by the template 'for every input the law returns true; each argument reads behind the call as it read before'; 0 by the template 'total and deterministic' (their statements: YtjailboidlmadaaTotals.lean).
  GIVEN WITH THE SEED: the statements are not yours to turn. If you find one false, say at which input.
  Laid BY PROGRAM, IN A SANDBOX (cutbox-rows.mjs): the forced cells as the released guide's own fill.sh prints them over the translation d15cc5df23a69ab4… (all of the seat's roots in one cut). By AI agents, Wed Nov 11 2026. No macro, syntax, notation, axiom, sorry.
-/
import Derived.Test.YtjailboidlmadaaChecked
import GoSem.Claim
import GoSem.ClaimJoined
import GoSem.ClaimMapViews
import Derived.JoinedTies
import Derived.KernelRfl
namespace Go.Proofs.Ytjailboidlmadaa
/- THE CELL 'sum', in the pinned program and in every row, IS THE sha256 OF THE DUMP (.gsa) THAT YtjailboidlmadaaProg.lean LOADS. Nothing in Lean hashes anything: it is a label: what it is worth is what the hold of that sum in a sandbox is worth. -/
noncomputable def Try.pinned : Pinned := { name := "ytjailboidlmadaa", sum := "d15cc5df23a69ab41b72ea934f83908994833458d611ee594b156842255ecdb1", checked := Try.checked }
namespace Rows
def none {H : Type} : Left H := { results := [], args := [] }

/-- 'tabulariumlaw13.RetryNewest': WHATEVER THE INPUT: true; the input reads as it did. -/
def retryNewestSpec : ChangeSpec := { name := "retryNewest", fn := fun _ => fun
  | [d1, d2] => { results := [.lit (.bool true)], args := [d1, d2] }
  | _ => none }
def retryNewestRow : OpenClaim := { program := "ytjailboidlmadaa", sum := "d15cc5df23a69ab41b72ea934f83908994833458d611ee594b156842255ecdb1", func := "tabularium/tabulariumlaw13.RetryNewest", spec := "retryNewest", inPlace := ["internal/abi.NoEscape"], unfollowed := true, recurses := true, plainKeys := false, apart := false }
def RetryNewestSaid : Prop := retryNewestRow.holds Try.pinned (OpenSpec.ofChange retryNewestSpec)

/-- ITS FALSE NEIGHBOUR: 'it returns false'. Refute it at one input. -/
def retryNewestWrong : ChangeSpec := { name := "retryNewest", fn := fun _ => fun
  | [d1, d2] => { results := [.lit (.bool false)], args := [d1, d2] }
  | _ => none }
def RetryNewestWrongFalsely : Prop := retryNewestRow.holds Try.pinned (OpenSpec.ofChange retryNewestWrong)

/-- 'tabulariumlaw13.RetryState': WHATEVER THE INPUT: true; the input reads as it did. -/
def retryStateSpec : ChangeSpec := { name := "retryState", fn := fun _ => fun
  | [d1, d2, d3] => { results := [.lit (.bool true)], args := [d1, d2, d3] }
  | _ => none }
def retryStateRow : OpenClaim := { program := "ytjailboidlmadaa", sum := "d15cc5df23a69ab41b72ea934f83908994833458d611ee594b156842255ecdb1", func := "tabularium/tabulariumlaw13.RetryState", spec := "retryState", inPlace := ["internal/abi.NoEscape"], unfollowed := true, recurses := true, plainKeys := false, apart := false }
def RetryStateSaid : Prop := retryStateRow.holds Try.pinned (OpenSpec.ofChange retryStateSpec)

/-- ITS FALSE NEIGHBOUR: 'it returns false'. Refute it at one input. -/
def retryStateWrong : ChangeSpec := { name := "retryState", fn := fun _ => fun
  | [d1, d2, d3] => { results := [.lit (.bool false)], args := [d1, d2, d3] }
  | _ => none }
def RetryStateWrongFalsely : Prop := retryStateRow.holds Try.pinned (OpenSpec.ofChange retryStateWrong)

/-- 'tabulariumlaw13.RetryPlays': WHATEVER THE INPUT: true; the input reads as it did. -/
def retryPlaysSpec : ChangeSpec := { name := "retryPlays", fn := fun _ => fun
  | [d] => { results := [.lit (.bool true)], args := [d] }
  | _ => none }
def retryPlaysRow : OpenClaim := { program := "ytjailboidlmadaa", sum := "d15cc5df23a69ab41b72ea934f83908994833458d611ee594b156842255ecdb1", func := "tabularium/tabulariumlaw13.RetryPlays", spec := "retryPlays", inPlace := ["internal/abi.NoEscape"], unfollowed := true, recurses := true, plainKeys := false, apart := false }
def RetryPlaysSaid : Prop := retryPlaysRow.holds Try.pinned (OpenSpec.ofChange retryPlaysSpec)

/-- ITS FALSE NEIGHBOUR: 'it returns false'. Refute it at one input. -/
def retryPlaysWrong : ChangeSpec := { name := "retryPlays", fn := fun _ => fun
  | [d] => { results := [.lit (.bool false)], args := [d] }
  | _ => none }
def RetryPlaysWrongFalsely : Prop := retryPlaysRow.holds Try.pinned (OpenSpec.ofChange retryPlaysWrong)

/-- 'tabulariumlaw13.RetryApart': WHATEVER THE INPUT: true; the input reads as it did. -/
def retryApartSpec : ChangeSpec := { name := "retryApart", fn := fun _ => fun
  | [d1, d2] => { results := [.lit (.bool true)], args := [d1, d2] }
  | _ => none }
def retryApartRow : OpenClaim := { program := "ytjailboidlmadaa", sum := "d15cc5df23a69ab41b72ea934f83908994833458d611ee594b156842255ecdb1", func := "tabularium/tabulariumlaw13.RetryApart", spec := "retryApart", inPlace := ["internal/abi.NoEscape"], unfollowed := true, recurses := true, plainKeys := false, apart := false }
def RetryApartSaid : Prop := retryApartRow.holds Try.pinned (OpenSpec.ofChange retryApartSpec)

/-- ITS FALSE NEIGHBOUR: 'it returns false'. Refute it at one input. -/
def retryApartWrong : ChangeSpec := { name := "retryApart", fn := fun _ => fun
  | [d1, d2] => { results := [.lit (.bool false)], args := [d1, d2] }
  | _ => none }
def RetryApartWrongFalsely : Prop := retryApartRow.holds Try.pinned (OpenSpec.ofChange retryApartWrong)

/- THE SECOND FORM. 'bulk': how many values and letters a reading holds, each counted each time it is reached (what is shared counts as often as it is met; a slice's spare places count too). A statement '..UptoSaid' is the law's where the arguments, and the package variables that the reading takes, are together of bulk at most 1048576: NARROWER than '..Said'. Prove '..Said' where nothing that the law and all that it calls make is longer than what came in: it says more and counts as full. Else prove '..UptoSaid'. A law counts once. -/
mutual
def uptoBulk {H : Type} : DataW H → Nat
  | .lit (.string bytes) => bytes.length + 1
  | .lit _ => 1
  | .nil => 1
  | .ptr d => uptoBulk d + 1
  | .slice elems spare => uptoBulkAll elems + uptoBulkAll spare + 1
  | .agg parts => uptoBulkAll parts + 1
  | .iface _ d => uptoBulk d + 1
  | .map entries => uptoBulkEntries entries + 1
  | .held _ => 1
def uptoBulkAll {H : Type} : List (DataW H) → Nat
  | [] => 0
  | d :: r => uptoBulk d + uptoBulkAll r
def uptoBulkEntries {H : Type} : List (Lit × DataW H) → Nat
  | [] => 0
  | x :: r => uptoBulkEntry x + uptoBulkEntries r
def uptoBulkEntry {H : Type} : Lit × DataW H → Nat
  | (.string bytes, d) => bytes.length + uptoBulk d + 1
  | (_, d) => uptoBulk d + 1
 end
def uptoSmall : (H : Type) → List (DataW H) → Bool := fun _ ds => decide (uptoBulkAll ds ≤ 1048576)
def OpenSpec.upto (s : _root_.Go.ChangeSpec) : _root_.Go.OpenSpec := { _root_.Go.OpenSpec.ofChange s with cond := some uptoSmall }

/-- 'tabulariumlaw13.RetryNewest', WHERE WHAT IT READS IS OF BULK AT MOST 1048576: true; the input reads as it did. -/
def retryNewestUptoRow : OpenClaim := { program := "ytjailboidlmadaa", sum := "d15cc5df23a69ab41b72ea934f83908994833458d611ee594b156842255ecdb1", func := "tabularium/tabulariumlaw13.RetryNewest", spec := "retryNewest", inPlace := ["internal/abi.NoEscape"], unfollowed := true, recurses := true, plainKeys := false, apart := false, narrowed := true }
def RetryNewestUptoSaid : Prop := retryNewestUptoRow.holds Try.pinned (OpenSpec.upto retryNewestSpec)

/-- 'tabulariumlaw13.RetryState', WHERE WHAT IT READS IS OF BULK AT MOST 1048576: true; the input reads as it did. -/
def retryStateUptoRow : OpenClaim := { program := "ytjailboidlmadaa", sum := "d15cc5df23a69ab41b72ea934f83908994833458d611ee594b156842255ecdb1", func := "tabularium/tabulariumlaw13.RetryState", spec := "retryState", inPlace := ["internal/abi.NoEscape"], unfollowed := true, recurses := true, plainKeys := false, apart := false, narrowed := true }
def RetryStateUptoSaid : Prop := retryStateUptoRow.holds Try.pinned (OpenSpec.upto retryStateSpec)

/-- 'tabulariumlaw13.RetryPlays', WHERE WHAT IT READS IS OF BULK AT MOST 1048576: true; the input reads as it did. -/
def retryPlaysUptoRow : OpenClaim := { program := "ytjailboidlmadaa", sum := "d15cc5df23a69ab41b72ea934f83908994833458d611ee594b156842255ecdb1", func := "tabularium/tabulariumlaw13.RetryPlays", spec := "retryPlays", inPlace := ["internal/abi.NoEscape"], unfollowed := true, recurses := true, plainKeys := false, apart := false, narrowed := true }
def RetryPlaysUptoSaid : Prop := retryPlaysUptoRow.holds Try.pinned (OpenSpec.upto retryPlaysSpec)

/-- 'tabulariumlaw13.RetryApart', WHERE WHAT IT READS IS OF BULK AT MOST 1048576: true; the input reads as it did. -/
def retryApartUptoRow : OpenClaim := { program := "ytjailboidlmadaa", sum := "d15cc5df23a69ab41b72ea934f83908994833458d611ee594b156842255ecdb1", func := "tabularium/tabulariumlaw13.RetryApart", spec := "retryApart", inPlace := ["internal/abi.NoEscape"], unfollowed := true, recurses := true, plainKeys := false, apart := false, narrowed := true }
def RetryApartUptoSaid : Prop := retryApartUptoRow.holds Try.pinned (OpenSpec.upto retryApartSpec)

end Rows
end Go.Proofs.Ytjailboidlmadaa
