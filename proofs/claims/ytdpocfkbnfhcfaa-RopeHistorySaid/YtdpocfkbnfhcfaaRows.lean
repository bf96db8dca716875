/-
  No cell of these rows narrows 'for every input' (looked for: loops, veiled, ifaces, maps, wideKeys, modest, calm, conditions, laid).
  DERIVED. THE GIVEN ROWS OF THIS SEAT. 8 by the template 'for every input the law returns true; each argument reads behind the call as it read before'; 0 by the template 'total and deterministic' (their statements: YtdpocfkbnfhcfaaTotals.lean).
  GIVEN WITH THE SEED: the statements are not yours to turn. If you find one false, say at which input.
  Laid BY PROGRAM, IN A SANDBOX (cutbox-rows.mjs): the forced cells as the released guide's own fill.sh prints them over the translation bfe867786a9482e3… (all of the seat's roots in one cut). By AI agents, Wed Nov 11 2026. No macro, syntax, notation, axiom, sorry.
-/
import Derived.Test.YtdpocfkbnfhcfaaChecked
import GoSem.Claim
import GoSem.ClaimJoined
import GoSem.ClaimMapViews
import Derived.JoinedTies
import Derived.KernelRfl
namespace Go.Proofs.Ytdpocfkbnfhcfaa
/- THE CELL 'sum', in the pinned program and in every row, IS THE sha256 OF THE DUMP (.gsa) THAT YtdpocfkbnfhcfaaProg.lean LOADS. Nothing in Lean hashes anything: it is a label: what it is worth is what the hold of that sum in a sandbox is worth. -/
noncomputable def Try.pinned : Pinned := { name := "ytdpocfkbnfhcfaa", sum := "bfe867786a9482e3bbcc8519d43eb1ca01d9e4b622bd9c62816afe9b6fa6c3bd", checked := Try.checked }
namespace Rows
def none {H : Type} : Left H := { results := [], args := [] }

/-- 'emendatelaw01.RopeRoundTrip': WHATEVER THE INPUT: true; the input reads as it did. -/
def ropeRoundTripSpec : ChangeSpec := { name := "ropeRoundTrip", fn := fun _ => fun
  | [d] => { results := [.lit (.bool true)], args := [d] }
  | _ => none }
def ropeRoundTripRow : OpenClaim := { program := "ytdpocfkbnfhcfaa", sum := "bfe867786a9482e3bbcc8519d43eb1ca01d9e4b622bd9c62816afe9b6fa6c3bd", func := "emendate/emendatelaw01.RopeRoundTrip", spec := "ropeRoundTrip", inPlace := ["internal/abi.NoEscape"], unfollowed := true, recurses := true, apart := false }
def RopeRoundTripSaid : Prop := ropeRoundTripRow.holds Try.pinned (OpenSpec.ofChange ropeRoundTripSpec)

/-- ITS FALSE NEIGHBOUR: 'it returns false'. Refute it at one input. -/
def ropeRoundTripWrong : ChangeSpec := { name := "ropeRoundTrip", fn := fun _ => fun
  | [d] => { results := [.lit (.bool false)], args := [d] }
  | _ => none }
def RopeRoundTripWrongFalsely : Prop := ropeRoundTripRow.holds Try.pinned (OpenSpec.ofChange ropeRoundTripWrong)

/-- 'emendatelaw01.RopeConcat': WHATEVER THE INPUT: true; the input reads as it did. -/
def ropeConcatSpec : ChangeSpec := { name := "ropeConcat", fn := fun _ => fun
  | [d1, d2, d3] => { results := [.lit (.bool true)], args := [d1, d2, d3] }
  | _ => none }
def ropeConcatRow : OpenClaim := { program := "ytdpocfkbnfhcfaa", sum := "bfe867786a9482e3bbcc8519d43eb1ca01d9e4b622bd9c62816afe9b6fa6c3bd", func := "emendate/emendatelaw01.RopeConcat", spec := "ropeConcat", inPlace := ["internal/abi.NoEscape"], unfollowed := true, recurses := true, apart := false }
def RopeConcatSaid : Prop := ropeConcatRow.holds Try.pinned (OpenSpec.ofChange ropeConcatSpec)

/-- ITS FALSE NEIGHBOUR: 'it returns false'. Refute it at one input. -/
def ropeConcatWrong : ChangeSpec := { name := "ropeConcat", fn := fun _ => fun
  | [d1, d2, d3] => { results := [.lit (.bool false)], args := [d1, d2, d3] }
  | _ => none }
def RopeConcatWrongFalsely : Prop := ropeConcatRow.holds Try.pinned (OpenSpec.ofChange ropeConcatWrong)

/-- 'emendatelaw01.RopeReplace': WHATEVER THE INPUT: true; the input reads as it did. -/
def ropeReplaceSpec : ChangeSpec := { name := "ropeReplace", fn := fun _ => fun
  | [d1, d2] => { results := [.lit (.bool true)], args := [d1, d2] }
  | _ => none }
def ropeReplaceRow : OpenClaim := { program := "ytdpocfkbnfhcfaa", sum := "bfe867786a9482e3bbcc8519d43eb1ca01d9e4b622bd9c62816afe9b6fa6c3bd", func := "emendate/emendatelaw01.RopeReplace", spec := "ropeReplace", inPlace := ["internal/abi.NoEscape"], unfollowed := true, recurses := true, apart := false }
def RopeReplaceSaid : Prop := ropeReplaceRow.holds Try.pinned (OpenSpec.ofChange ropeReplaceSpec)

/-- ITS FALSE NEIGHBOUR: 'it returns false'. Refute it at one input. -/
def ropeReplaceWrong : ChangeSpec := { name := "ropeReplace", fn := fun _ => fun
  | [d1, d2] => { results := [.lit (.bool false)], args := [d1, d2] }
  | _ => none }
def RopeReplaceWrongFalsely : Prop := ropeReplaceRow.holds Try.pinned (OpenSpec.ofChange ropeReplaceWrong)

/-- 'emendatelaw01.RopeSlice': WHATEVER THE INPUT: true; the input reads as it did. -/
def ropeSliceSpec : ChangeSpec := { name := "ropeSlice", fn := fun _ => fun
  | [d1, d2, d3] => { results := [.lit (.bool true)], args := [d1, d2, d3] }
  | _ => none }
def ropeSliceRow : OpenClaim := { program := "ytdpocfkbnfhcfaa", sum := "bfe867786a9482e3bbcc8519d43eb1ca01d9e4b622bd9c62816afe9b6fa6c3bd", func := "emendate/emendatelaw01.RopeSlice", spec := "ropeSlice", inPlace := ["internal/abi.NoEscape"], unfollowed := true, recurses := true, apart := false }
def RopeSliceSaid : Prop := ropeSliceRow.holds Try.pinned (OpenSpec.ofChange ropeSliceSpec)

/-- ITS FALSE NEIGHBOUR: 'it returns false'. Refute it at one input. -/
def ropeSliceWrong : ChangeSpec := { name := "ropeSlice", fn := fun _ => fun
  | [d1, d2, d3] => { results := [.lit (.bool false)], args := [d1, d2, d3] }
  | _ => none }
def RopeSliceWrongFalsely : Prop := ropeSliceRow.holds Try.pinned (OpenSpec.ofChange ropeSliceWrong)

/-- 'emendatelaw01.RopePersistent': WHATEVER THE INPUT: true; the input reads as it did. -/
def ropePersistentSpec : ChangeSpec := { name := "ropePersistent", fn := fun _ => fun
  | [d1, d2] => { results := [.lit (.bool true)], args := [d1, d2] }
  | _ => none }
def ropePersistentRow : OpenClaim := { program := "ytdpocfkbnfhcfaa", sum := "bfe867786a9482e3bbcc8519d43eb1ca01d9e4b622bd9c62816afe9b6fa6c3bd", func := "emendate/emendatelaw01.RopePersistent", spec := "ropePersistent", inPlace := ["internal/abi.NoEscape"], unfollowed := true, recurses := true, apart := false }
def RopePersistentSaid : Prop := ropePersistentRow.holds Try.pinned (OpenSpec.ofChange ropePersistentSpec)

/-- ITS FALSE NEIGHBOUR: 'it returns false'. Refute it at one input. -/
def ropePersistentWrong : ChangeSpec := { name := "ropePersistent", fn := fun _ => fun
  | [d1, d2] => { results := [.lit (.bool false)], args := [d1, d2] }
  | _ => none }
def RopePersistentWrongFalsely : Prop := ropePersistentRow.holds Try.pinned (OpenSpec.ofChange ropePersistentWrong)

/-- 'emendatelaw01.RopeGrows': WHATEVER THE INPUT: true; the input reads as it did. -/
def ropeGrowsSpec : ChangeSpec := { name := "ropeGrows", fn := fun _ => fun
  | [d1, d2] => { results := [.lit (.bool true)], args := [d1, d2] }
  | _ => none }
def ropeGrowsRow : OpenClaim := { program := "ytdpocfkbnfhcfaa", sum := "bfe867786a9482e3bbcc8519d43eb1ca01d9e4b622bd9c62816afe9b6fa6c3bd", func := "emendate/emendatelaw01.RopeGrows", spec := "ropeGrows", inPlace := ["internal/abi.NoEscape"], unfollowed := true, recurses := true, apart := false }
def RopeGrowsSaid : Prop := ropeGrowsRow.holds Try.pinned (OpenSpec.ofChange ropeGrowsSpec)

/-- ITS FALSE NEIGHBOUR: 'it returns false'. Refute it at one input. -/
def ropeGrowsWrong : ChangeSpec := { name := "ropeGrows", fn := fun _ => fun
  | [d1, d2] => { results := [.lit (.bool false)], args := [d1, d2] }
  | _ => none }
def RopeGrowsWrongFalsely : Prop := ropeGrowsRow.holds Try.pinned (OpenSpec.ofChange ropeGrowsWrong)

/-- 'emendatelaw01.RopeHistory': WHATEVER THE INPUT: true; the input reads as it did. -/
def ropeHistorySpec : ChangeSpec := { name := "ropeHistory", fn := fun _ => fun
  | [d1, d2] => { results := [.lit (.bool true)], args := [d1, d2] }
  | _ => none }
def ropeHistoryRow : OpenClaim := { program := "ytdpocfkbnfhcfaa", sum := "bfe867786a9482e3bbcc8519d43eb1ca01d9e4b622bd9c62816afe9b6fa6c3bd", func := "emendate/emendatelaw01.RopeHistory", spec := "ropeHistory", inPlace := ["internal/abi.NoEscape"], unfollowed := true, recurses := true, apart := false }
def RopeHistorySaid : Prop := ropeHistoryRow.holds Try.pinned (OpenSpec.ofChange ropeHistorySpec)

/-- ITS FALSE NEIGHBOUR: 'it returns false'. Refute it at one input. -/
def ropeHistoryWrong : ChangeSpec := { name := "ropeHistory", fn := fun _ => fun
  | [d1, d2] => { results := [.lit (.bool false)], args := [d1, d2] }
  | _ => none }
def RopeHistoryWrongFalsely : Prop := ropeHistoryRow.holds Try.pinned (OpenSpec.ofChange ropeHistoryWrong)

/-- 'emendatelaw01.RopeChunks': WHATEVER THE INPUT: true; the input reads as it did. -/
def ropeChunksSpec : ChangeSpec := { name := "ropeChunks", fn := fun _ => fun
  | [d1, d2, d3] => { results := [.lit (.bool true)], args := [d1, d2, d3] }
  | _ => none }
def ropeChunksRow : OpenClaim := { program := "ytdpocfkbnfhcfaa", sum := "bfe867786a9482e3bbcc8519d43eb1ca01d9e4b622bd9c62816afe9b6fa6c3bd", func := "emendate/emendatelaw01.RopeChunks", spec := "ropeChunks", inPlace := ["internal/abi.NoEscape"], unfollowed := true, recurses := true, apart := false }
def RopeChunksSaid : Prop := ropeChunksRow.holds Try.pinned (OpenSpec.ofChange ropeChunksSpec)

/-- ITS FALSE NEIGHBOUR: 'it returns false'. Refute it at one input. -/
def ropeChunksWrong : ChangeSpec := { name := "ropeChunks", fn := fun _ => fun
  | [d1, d2, d3] => { results := [.lit (.bool false)], args := [d1, d2, d3] }
  | _ => none }
def RopeChunksWrongFalsely : Prop := ropeChunksRow.holds Try.pinned (OpenSpec.ofChange ropeChunksWrong)

/- THE SECOND FORM. 'bulk': how many values and letters a reading holds, each counted each time it is reached (what is shared counts as often as it is met; a slice's spare places count too). A statement '..UptoSaid' is the law's where the arguments, and the package variables that the reading takes, are together of bulk at most 1048576: NARROWER than '..Said'. Prove '..Said' where nothing that the law and all that it calls make is longer than what came in: it says more and counts as full. Else prove '..UptoSaid'. A law counts once. -/
mutual
def uptoBulk {H : Type} : DataW H → Nat
  | .lit (.string bytes) => bytes.length + 1
  | .lit _ => 1
  | .nil => 1
  | .ptr d => uptoBulk d + 1
  | .slice elems spare => uptoBulkAll elems + uptoBulkAll spare + 1
  | .agg parts => uptoBulkAll parts + 1
  | .iface _ d => uptoBulk d + 1
  | .map entries => uptoBulkEntries entries + 1
  | .held _ => 1
def uptoBulkAll {H : Type} : List (DataW H) → Nat
  | [] => 0
  | d :: r => uptoBulk d + uptoBulkAll r
def uptoBulkEntries {H : Type} : List (Lit × DataW H) → Nat
  | [] => 0
  | x :: r => uptoBulkEntry x + uptoBulkEntries r
def uptoBulkEntry {H : Type} : Lit × DataW H → Nat
  | (.string bytes, d) => bytes.length + uptoBulk d + 1
  | (_, d) => uptoBulk d + 1
 end
def uptoSmall : (H : Type) → List (DataW H) → Bool := fun _ ds => decide (uptoBulkAll ds ≤ 1048576)
def OpenSpec.upto (s : _root_.Go.ChangeSpec) : _root_.Go.OpenSpec := { _root_.Go.OpenSpec.ofChange s with cond := some uptoSmall }

/-- 'emendatelaw01.RopeRoundTrip', WHERE WHAT IT READS IS OF BULK AT MOST 1048576: true; the input reads as it did. -/
def ropeRoundTripUptoRow : OpenClaim := { program := "ytdpocfkbnfhcfaa", sum := "bfe867786a9482e3bbcc8519d43eb1ca01d9e4b622bd9c62816afe9b6fa6c3bd", func := "emendate/emendatelaw01.RopeRoundTrip", spec := "ropeRoundTrip", inPlace := ["internal/abi.NoEscape"], unfollowed := true, recurses := true, apart := false, narrowed := true }
def RopeRoundTripUptoSaid : Prop := ropeRoundTripUptoRow.holds Try.pinned (OpenSpec.upto ropeRoundTripSpec)

/-- 'emendatelaw01.RopeConcat', WHERE WHAT IT READS IS OF BULK AT MOST 1048576: true; the input reads as it did. -/
def ropeConcatUptoRow : OpenClaim := { program := "ytdpocfkbnfhcfaa", sum := "bfe867786a9482e3bbcc8519d43eb1ca01d9e4b622bd9c62816afe9b6fa6c3bd", func := "emendate/emendatelaw01.RopeConcat", spec := "ropeConcat", inPlace := ["internal/abi.NoEscape"], unfollowed := true, recurses := true, apart := false, narrowed := true }
def RopeConcatUptoSaid : Prop := ropeConcatUptoRow.holds Try.pinned (OpenSpec.upto ropeConcatSpec)

/-- 'emendatelaw01.RopeReplace', WHERE WHAT IT READS IS OF BULK AT MOST 1048576: true; the input reads as it did. -/
def ropeReplaceUptoRow : OpenClaim := { program := "ytdpocfkbnfhcfaa", sum := "bfe867786a9482e3bbcc8519d43eb1ca01d9e4b622bd9c62816afe9b6fa6c3bd", func := "emendate/emendatelaw01.RopeReplace", spec := "ropeReplace", inPlace := ["internal/abi.NoEscape"], unfollowed := true, recurses := true, apart := false, narrowed := true }
def RopeReplaceUptoSaid : Prop := ropeReplaceUptoRow.holds Try.pinned (OpenSpec.upto ropeReplaceSpec)

/-- 'emendatelaw01.RopeSlice', WHERE WHAT IT READS IS OF BULK AT MOST 1048576: true; the input reads as it did. -/
def ropeSliceUptoRow : OpenClaim := { program := "ytdpocfkbnfhcfaa", sum := "bfe867786a9482e3bbcc8519d43eb1ca01d9e4b622bd9c62816afe9b6fa6c3bd", func := "emendate/emendatelaw01.RopeSlice", spec := "ropeSlice", inPlace := ["internal/abi.NoEscape"], unfollowed := true, recurses := true, apart := false, narrowed := true }
def RopeSliceUptoSaid : Prop := ropeSliceUptoRow.holds Try.pinned (OpenSpec.upto ropeSliceSpec)

/-- 'emendatelaw01.RopePersistent', WHERE WHAT IT READS IS OF BULK AT MOST 1048576: true; the input reads as it did. -/
def ropePersistentUptoRow : OpenClaim := { program := "ytdpocfkbnfhcfaa", sum := "bfe867786a9482e3bbcc8519d43eb1ca01d9e4b622bd9c62816afe9b6fa6c3bd", func := "emendate/emendatelaw01.RopePersistent", spec := "ropePersistent", inPlace := ["internal/abi.NoEscape"], unfollowed := true, recurses := true, apart := false, narrowed := true }
def RopePersistentUptoSaid : Prop := ropePersistentUptoRow.holds Try.pinned (OpenSpec.upto ropePersistentSpec)

/-- 'emendatelaw01.RopeGrows', WHERE WHAT IT READS IS OF BULK AT MOST 1048576: true; the input reads as it did. -/
def ropeGrowsUptoRow : OpenClaim := { program := "ytdpocfkbnfhcfaa", sum := "bfe867786a9482e3bbcc8519d43eb1ca01d9e4b622bd9c62816afe9b6fa6c3bd", func := "emendate/emendatelaw01.RopeGrows", spec := "ropeGrows", inPlace := ["internal/abi.NoEscape"], unfollowed := true, recurses := true, apart := false, narrowed := true }
def RopeGrowsUptoSaid : Prop := ropeGrowsUptoRow.holds Try.pinned (OpenSpec.upto ropeGrowsSpec)

/-- 'emendatelaw01.RopeHistory', WHERE WHAT IT READS IS OF BULK AT MOST 1048576: true; the input reads as it did. -/
def ropeHistoryUptoRow : OpenClaim := { program := "ytdpocfkbnfhcfaa", sum := "bfe867786a9482e3bbcc8519d43eb1ca01d9e4b622bd9c62816afe9b6fa6c3bd", func := "emendate/emendatelaw01.RopeHistory", spec := "ropeHistory", inPlace := ["internal/abi.NoEscape"], unfollowed := true, recurses := true, apart := false, narrowed := true }
def RopeHistoryUptoSaid : Prop := ropeHistoryUptoRow.holds Try.pinned (OpenSpec.upto ropeHistorySpec)

/-- 'emendatelaw01.RopeChunks', WHERE WHAT IT READS IS OF BULK AT MOST 1048576: true; the input reads as it did. -/
def ropeChunksUptoRow : OpenClaim := { program := "ytdpocfkbnfhcfaa", sum := "bfe867786a9482e3bbcc8519d43eb1ca01d9e4b622bd9c62816afe9b6fa6c3bd", func := "emendate/emendatelaw01.RopeChunks", spec := "ropeChunks", inPlace := ["internal/abi.NoEscape"], unfollowed := true, recurses := true, apart := false, narrowed := true }
def RopeChunksUptoSaid : Prop := ropeChunksUptoRow.holds Try.pinned (OpenSpec.upto ropeChunksSpec)

end Rows
end Go.Proofs.Ytdpocfkbnfhcfaa
