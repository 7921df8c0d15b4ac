/-
  No cell of these rows narrows 'for every input' (looked for: loops, veiled, ifaces, maps, wideKeys, modest, calm, conditions, laid).
  DERIVED. THE GIVEN ROWS OF THIS SEAT. 5 by the template 'for every input the law returns true; each argument reads behind the call as it read before'; 0 by the template 'total and deterministic' (their statements: YtljllecpmllefaaTotals.lean).
  GIVEN WITH THE SEED: the statements are not yours to turn. If you find one false, say at which input.
  Laid BY PROGRAM, IN A SANDBOX (cutbox-rows.mjs): the forced cells as the released guide's own fill.sh prints them over the translation 7a825f361a493867… (all of the seat's roots in one cut). By AI agents, Wed Nov 11 2026. No macro, syntax, notation, axiom, sorry.
-/
import Derived.Test.YtljllecpmllefaaChecked
import GoSem.Claim
import GoSem.ClaimJoined
import GoSem.ClaimMapViews
import Derived.JoinedTies
import Derived.KernelRfl
namespace Go.Proofs.Ytljllecpmllefaa
/- THE CELL 'sum', in the pinned program and in every row, IS THE sha256 OF THE DUMP (.gsa) THAT YtljllecpmllefaaProg.lean LOADS. Nothing in Lean hashes anything: it is a label: what it is worth is what the hold of that sum in a sandbox is worth. -/
noncomputable def Try.pinned : Pinned := { name := "ytljllecpmllefaa", sum := "7a825f361a493867bd5332d5d9f419e76f63f8fd1aa7b7323a7d9d7c3df0a566", checked := Try.checked }
namespace Rows
def none {H : Type} : Left H := { results := [], args := [] }

/-- 'tabulariumlaw18.ChunkReads': WHATEVER THE INPUT: true; the input reads as it did. -/
def chunkReadsSpec : ChangeSpec := { name := "chunkReads", fn := fun _ => fun
  | [d] => { results := [.lit (.bool true)], args := [d] }
  | _ => none }
def chunkReadsRow : OpenClaim := { program := "ytljllecpmllefaa", sum := "7a825f361a493867bd5332d5d9f419e76f63f8fd1aa7b7323a7d9d7c3df0a566", func := "tabularium/tabulariumlaw18.ChunkReads", spec := "chunkReads", unfollowed := true, recurses := true, apart := false }
def ChunkReadsSaid : Prop := chunkReadsRow.holds Try.pinned (OpenSpec.ofChange chunkReadsSpec)

/-- ITS FALSE NEIGHBOUR: 'it returns false'. Refute it at one input. -/
def chunkReadsWrong : ChangeSpec := { name := "chunkReads", fn := fun _ => fun
  | [d] => { results := [.lit (.bool false)], args := [d] }
  | _ => none }
def ChunkReadsWrongFalsely : Prop := chunkReadsRow.holds Try.pinned (OpenSpec.ofChange chunkReadsWrong)

/-- 'tabulariumlaw18.ChunkBit': WHATEVER THE INPUT: true; the input reads as it did. -/
def chunkBitSpec : ChangeSpec := { name := "chunkBit", fn := fun _ => fun
  | [d1, d2, d3, d4, d5] => { results := [.lit (.bool true)], args := [d1, d2, d3, d4, d5] }
  | _ => none }
def chunkBitRow : OpenClaim := { program := "ytljllecpmllefaa", sum := "7a825f361a493867bd5332d5d9f419e76f63f8fd1aa7b7323a7d9d7c3df0a566", func := "tabularium/tabulariumlaw18.ChunkBit", spec := "chunkBit", unfollowed := true, recurses := true, apart := false }
def ChunkBitSaid : Prop := chunkBitRow.holds Try.pinned (OpenSpec.ofChange chunkBitSpec)

/-- ITS FALSE NEIGHBOUR: 'it returns false'. Refute it at one input. -/
def chunkBitWrong : ChangeSpec := { name := "chunkBit", fn := fun _ => fun
  | [d1, d2, d3, d4, d5] => { results := [.lit (.bool false)], args := [d1, d2, d3, d4, d5] }
  | _ => none }
def ChunkBitWrongFalsely : Prop := chunkBitRow.holds Try.pinned (OpenSpec.ofChange chunkBitWrong)

/-- 'tabulariumlaw18.ChunkCuts': WHATEVER THE INPUT: true; the input reads as it did. -/
def chunkCutsSpec : ChangeSpec := { name := "chunkCuts", fn := fun _ => fun
  | [d1, d2, d3, d4] => { results := [.lit (.bool true)], args := [d1, d2, d3, d4] }
  | _ => none }
def chunkCutsRow : OpenClaim := { program := "ytljllecpmllefaa", sum := "7a825f361a493867bd5332d5d9f419e76f63f8fd1aa7b7323a7d9d7c3df0a566", func := "tabularium/tabulariumlaw18.ChunkCuts", spec := "chunkCuts", unfollowed := true, recurses := true, apart := false }
def ChunkCutsSaid : Prop := chunkCutsRow.holds Try.pinned (OpenSpec.ofChange chunkCutsSpec)

/-- ITS FALSE NEIGHBOUR: 'it returns false'. Refute it at one input. -/
def chunkCutsWrong : ChangeSpec := { name := "chunkCuts", fn := fun _ => fun
  | [d1, d2, d3, d4] => { results := [.lit (.bool false)], args := [d1, d2, d3, d4] }
  | _ => none }
def ChunkCutsWrongFalsely : Prop := chunkCutsRow.holds Try.pinned (OpenSpec.ofChange chunkCutsWrong)

/-- 'tabulariumlaw18.ChunkBack': WHATEVER THE INPUT: true; the input reads as it did. -/
def chunkBackSpec : ChangeSpec := { name := "chunkBack", fn := fun _ => fun
  | [d1, d2, d3, d4, d5] => { results := [.lit (.bool true)], args := [d1, d2, d3, d4, d5] }
  | _ => none }
def chunkBackRow : OpenClaim := { program := "ytljllecpmllefaa", sum := "7a825f361a493867bd5332d5d9f419e76f63f8fd1aa7b7323a7d9d7c3df0a566", func := "tabularium/tabulariumlaw18.ChunkBack", spec := "chunkBack", inPlace := ["internal/abi.NoEscape"], unfollowed := true, recurses := true, apart := false }
def ChunkBackSaid : Prop := chunkBackRow.holds Try.pinned (OpenSpec.ofChange chunkBackSpec)

/-- ITS FALSE NEIGHBOUR: 'it returns false'. Refute it at one input. -/
def chunkBackWrong : ChangeSpec := { name := "chunkBack", fn := fun _ => fun
  | [d1, d2, d3, d4, d5] => { results := [.lit (.bool false)], args := [d1, d2, d3, d4, d5] }
  | _ => none }
def ChunkBackWrongFalsely : Prop := chunkBackRow.holds Try.pinned (OpenSpec.ofChange chunkBackWrong)

/-- 'tabulariumlaw18.ChunkParts': WHATEVER THE INPUT: true; the input reads as it did. -/
def chunkPartsSpec : ChangeSpec := { name := "chunkParts", fn := fun _ => fun
  | [d1, d2, d3, d4, d5, d6] => { results := [.lit (.bool true)], args := [d1, d2, d3, d4, d5, d6] }
  | _ => none }
def chunkPartsRow : OpenClaim := { program := "ytljllecpmllefaa", sum := "7a825f361a493867bd5332d5d9f419e76f63f8fd1aa7b7323a7d9d7c3df0a566", func := "tabularium/tabulariumlaw18.ChunkParts", spec := "chunkParts", inPlace := ["internal/abi.NoEscape"], unfollowed := true, recurses := true, apart := false }
def ChunkPartsSaid : Prop := chunkPartsRow.holds Try.pinned (OpenSpec.ofChange chunkPartsSpec)

/-- ITS FALSE NEIGHBOUR: 'it returns false'. Refute it at one input. -/
def chunkPartsWrong : ChangeSpec := { name := "chunkParts", fn := fun _ => fun
  | [d1, d2, d3, d4, d5, d6] => { results := [.lit (.bool false)], args := [d1, d2, d3, d4, d5, d6] }
  | _ => none }
def ChunkPartsWrongFalsely : Prop := chunkPartsRow.holds Try.pinned (OpenSpec.ofChange chunkPartsWrong)

/- THE SECOND FORM. 'bulk': how many values and letters a reading holds, each counted each time it is reached (what is shared counts as often as it is met; a slice's spare places count too). A statement '..UptoSaid' is the law's where the arguments, and the package variables that the reading takes, are together of bulk at most 1048576: NARROWER than '..Said'. Prove '..Said' where nothing that the law and all that it calls make is longer than what came in: it says more and counts as full. Else prove '..UptoSaid'. A law counts once. -/
mutual
def uptoBulk {H : Type} : DataW H → Nat
  | .lit (.string bytes) => bytes.length + 1
  | .lit _ => 1
  | .nil => 1
  | .ptr d => uptoBulk d + 1
  | .slice elems spare => uptoBulkAll elems + uptoBulkAll spare + 1
  | .agg parts => uptoBulkAll parts + 1
  | .iface _ d => uptoBulk d + 1
  | .map entries => uptoBulkEntries entries + 1
  | .held _ => 1
def uptoBulkAll {H : Type} : List (DataW H) → Nat
  | [] => 0
  | d :: r => uptoBulk d + uptoBulkAll r
def uptoBulkEntries {H : Type} : List (Lit × DataW H) → Nat
  | [] => 0
  | x :: r => uptoBulkEntry x + uptoBulkEntries r
def uptoBulkEntry {H : Type} : Lit × DataW H → Nat
  | (.string bytes, d) => bytes.length + uptoBulk d + 1
  | (_, d) => uptoBulk d + 1
 end
def uptoSmall : (H : Type) → List (DataW H) → Bool := fun _ ds => decide (uptoBulkAll ds ≤ 1048576)
def OpenSpec.upto (s : _root_.Go.ChangeSpec) : _root_.Go.OpenSpec := { _root_.Go.OpenSpec.ofChange s with cond := some uptoSmall }

/-- 'tabulariumlaw18.ChunkReads', WHERE WHAT IT READS IS OF BULK AT MOST 1048576: true; the input reads as it did. -/
def chunkReadsUptoRow : OpenClaim := { program := "ytljllecpmllefaa", sum := "7a825f361a493867bd5332d5d9f419e76f63f8fd1aa7b7323a7d9d7c3df0a566", func := "tabularium/tabulariumlaw18.ChunkReads", spec := "chunkReads", unfollowed := true, recurses := true, apart := false, narrowed := true }
def ChunkReadsUptoSaid : Prop := chunkReadsUptoRow.holds Try.pinned (OpenSpec.upto chunkReadsSpec)

/-- 'tabulariumlaw18.ChunkBit', WHERE WHAT IT READS IS OF BULK AT MOST 1048576: true; the input reads as it did. -/
def chunkBitUptoRow : OpenClaim := { program := "ytljllecpmllefaa", sum := "7a825f361a493867bd5332d5d9f419e76f63f8fd1aa7b7323a7d9d7c3df0a566", func := "tabularium/tabulariumlaw18.ChunkBit", spec := "chunkBit", unfollowed := true, recurses := true, apart := false, narrowed := true }
def ChunkBitUptoSaid : Prop := chunkBitUptoRow.holds Try.pinned (OpenSpec.upto chunkBitSpec)

/-- 'tabulariumlaw18.ChunkCuts', WHERE WHAT IT READS IS OF BULK AT MOST 1048576: true; the input reads as it did. -/
def chunkCutsUptoRow : OpenClaim := { program := "ytljllecpmllefaa", sum := "7a825f361a493867bd5332d5d9f419e76f63f8fd1aa7b7323a7d9d7c3df0a566", func := "tabularium/tabulariumlaw18.ChunkCuts", spec := "chunkCuts", unfollowed := true, recurses := true, apart := false, narrowed := true }
def ChunkCutsUptoSaid : Prop := chunkCutsUptoRow.holds Try.pinned (OpenSpec.upto chunkCutsSpec)

/-- 'tabulariumlaw18.ChunkBack', WHERE WHAT IT READS IS OF BULK AT MOST 1048576: true; the input reads as it did. -/
def chunkBackUptoRow : OpenClaim := { program := "ytljllecpmllefaa", sum := "7a825f361a493867bd5332d5d9f419e76f63f8fd1aa7b7323a7d9d7c3df0a566", func := "tabularium/tabulariumlaw18.ChunkBack", spec := "chunkBack", inPlace := ["internal/abi.NoEscape"], unfollowed := true, recurses := true, apart := false, narrowed := true }
def ChunkBackUptoSaid : Prop := chunkBackUptoRow.holds Try.pinned (OpenSpec.upto chunkBackSpec)

/-- 'tabulariumlaw18.ChunkParts', WHERE WHAT IT READS IS OF BULK AT MOST 1048576: true; the input reads as it did. -/
def chunkPartsUptoRow : OpenClaim := { program := "ytljllecpmllefaa", sum := "7a825f361a493867bd5332d5d9f419e76f63f8fd1aa7b7323a7d9d7c3df0a566", func := "tabularium/tabulariumlaw18.ChunkParts", spec := "chunkParts", inPlace := ["internal/abi.NoEscape"], unfollowed := true, recurses := true, apart := false, narrowed := true }
def ChunkPartsUptoSaid : Prop := chunkPartsUptoRow.holds Try.pinned (OpenSpec.upto chunkPartsSpec)

end Rows
end Go.Proofs.Ytljllecpmllefaa
