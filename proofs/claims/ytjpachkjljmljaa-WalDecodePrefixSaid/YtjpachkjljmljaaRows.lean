/-
  No cell of these rows narrows 'for every input' (looked for: loops, veiled, ifaces, maps, wideKeys, modest, calm, conditions, laid).
  DERIVED. THE GIVEN ROWS OF THIS SEAT. 7 by the template 'for every input the law returns true; each argument reads behind the call as it read before'; 0 by the template 'total and deterministic' (their statements: YtjpachkjljmljaaTotals.lean).
  GIVEN WITH THE SEED: the statements are not yours to turn. If you find one false, say at which input.
  Laid BY PROGRAM, IN A SANDBOX (cutbox-rows.mjs): the forced cells as the released guide's own fill.sh prints them over the translation 747846b20b1cbe3a… (all of the seat's roots in one cut). By AI agents, Wed Nov 11 2026. No macro, syntax, notation, axiom, sorry.
-/
import Derived.Test.YtjpachkjljmljaaChecked
import GoSem.Claim
import GoSem.ClaimJoined
import GoSem.ClaimMapViews
import Derived.JoinedTies
import Derived.KernelRfl
namespace Go.Proofs.Ytjpachkjljmljaa
/- THE CELL 'sum', in the pinned program and in every row, IS THE sha256 OF THE DUMP (.gsa) THAT YtjpachkjljmljaaProg.lean LOADS. Nothing in Lean hashes anything: it is a label: what it is worth is what the hold of that sum in a sandbox is worth. -/
noncomputable def Try.pinned : Pinned := { name := "ytjpachkjljmljaa", sum := "747846b20b1cbe3ae4ae87d28095025c699e9a7c2818fc2187a5e29b1fb93a45", checked := Try.checked }
namespace Rows
def none {H : Type} : Left H := { results := [], args := [] }

/-- 'emendatelaw51.WalEncodeMatchesReference': WHATEVER THE INPUT: true; the input reads as it did. -/
def walEncodeMatchesReferenceSpec : ChangeSpec := { name := "walEncodeMatchesReference", fn := fun _ => fun
  | [d1, d2] => { results := [.lit (.bool true)], args := [d1, d2] }
  | _ => none }
def walEncodeMatchesReferenceRow : OpenClaim := { program := "ytjpachkjljmljaa", sum := "747846b20b1cbe3ae4ae87d28095025c699e9a7c2818fc2187a5e29b1fb93a45", func := "emendate/emendatelaw51.WalEncodeMatchesReference", spec := "walEncodeMatchesReference", inPlace := ["internal/abi.NoEscape"], apart := false }
def WalEncodeMatchesReferenceSaid : Prop := walEncodeMatchesReferenceRow.holds Try.pinned (OpenSpec.ofChange walEncodeMatchesReferenceSpec)

/-- ITS FALSE NEIGHBOUR: 'it returns false'. Refute it at one input. -/
def walEncodeMatchesReferenceWrong : ChangeSpec := { name := "walEncodeMatchesReference", fn := fun _ => fun
  | [d1, d2] => { results := [.lit (.bool false)], args := [d1, d2] }
  | _ => none }
def WalEncodeMatchesReferenceWrongFalsely : Prop := walEncodeMatchesReferenceRow.holds Try.pinned (OpenSpec.ofChange walEncodeMatchesReferenceWrong)

/-- 'emendatelaw51.WalDecodeMatchesReference': WHATEVER THE INPUT: true; the input reads as it did. -/
def walDecodeMatchesReferenceSpec : ChangeSpec := { name := "walDecodeMatchesReference", fn := fun _ => fun
  | [d] => { results := [.lit (.bool true)], args := [d] }
  | _ => none }
def walDecodeMatchesReferenceRow : OpenClaim := { program := "ytjpachkjljmljaa", sum := "747846b20b1cbe3ae4ae87d28095025c699e9a7c2818fc2187a5e29b1fb93a45", func := "emendate/emendatelaw51.WalDecodeMatchesReference", spec := "walDecodeMatchesReference", inPlace := ["internal/abi.NoEscape"], apart := false }
def WalDecodeMatchesReferenceSaid : Prop := walDecodeMatchesReferenceRow.holds Try.pinned (OpenSpec.ofChange walDecodeMatchesReferenceSpec)

/-- ITS FALSE NEIGHBOUR: 'it returns false'. Refute it at one input. -/
def walDecodeMatchesReferenceWrong : ChangeSpec := { name := "walDecodeMatchesReference", fn := fun _ => fun
  | [d] => { results := [.lit (.bool false)], args := [d] }
  | _ => none }
def WalDecodeMatchesReferenceWrongFalsely : Prop := walDecodeMatchesReferenceRow.holds Try.pinned (OpenSpec.ofChange walDecodeMatchesReferenceWrong)

/-- 'emendatelaw51.WalRoundTrip': WHATEVER THE INPUT: true; the input reads as it did. -/
def walRoundTripSpec : ChangeSpec := { name := "walRoundTrip", fn := fun _ => fun
  | [d] => { results := [.lit (.bool true)], args := [d] }
  | _ => none }
def walRoundTripRow : OpenClaim := { program := "ytjpachkjljmljaa", sum := "747846b20b1cbe3ae4ae87d28095025c699e9a7c2818fc2187a5e29b1fb93a45", func := "emendate/emendatelaw51.WalRoundTrip", spec := "walRoundTrip", inPlace := ["internal/abi.NoEscape"], apart := false }
def WalRoundTripSaid : Prop := walRoundTripRow.holds Try.pinned (OpenSpec.ofChange walRoundTripSpec)

/-- ITS FALSE NEIGHBOUR: 'it returns false'. Refute it at one input. -/
def walRoundTripWrong : ChangeSpec := { name := "walRoundTrip", fn := fun _ => fun
  | [d] => { results := [.lit (.bool false)], args := [d] }
  | _ => none }
def WalRoundTripWrongFalsely : Prop := walRoundTripRow.holds Try.pinned (OpenSpec.ofChange walRoundTripWrong)

/-- 'emendatelaw51.WalTruncation': WHATEVER THE INPUT: true; the input reads as it did. -/
def walTruncationSpec : ChangeSpec := { name := "walTruncation", fn := fun _ => fun
  | [d1, d2] => { results := [.lit (.bool true)], args := [d1, d2] }
  | _ => none }
def walTruncationRow : OpenClaim := { program := "ytjpachkjljmljaa", sum := "747846b20b1cbe3ae4ae87d28095025c699e9a7c2818fc2187a5e29b1fb93a45", func := "emendate/emendatelaw51.WalTruncation", spec := "walTruncation", inPlace := ["internal/abi.NoEscape"], apart := false }
def WalTruncationSaid : Prop := walTruncationRow.holds Try.pinned (OpenSpec.ofChange walTruncationSpec)

/-- ITS FALSE NEIGHBOUR: 'it returns false'. Refute it at one input. -/
def walTruncationWrong : ChangeSpec := { name := "walTruncation", fn := fun _ => fun
  | [d1, d2] => { results := [.lit (.bool false)], args := [d1, d2] }
  | _ => none }
def WalTruncationWrongFalsely : Prop := walTruncationRow.holds Try.pinned (OpenSpec.ofChange walTruncationWrong)

/-- 'emendatelaw51.WalDetectsCorruption': WHATEVER THE INPUT: true; the input reads as it did. -/
def walDetectsCorruptionSpec : ChangeSpec := { name := "walDetectsCorruption", fn := fun _ => fun
  | [d1, d2, d3] => { results := [.lit (.bool true)], args := [d1, d2, d3] }
  | _ => none }
def walDetectsCorruptionRow : OpenClaim := { program := "ytjpachkjljmljaa", sum := "747846b20b1cbe3ae4ae87d28095025c699e9a7c2818fc2187a5e29b1fb93a45", func := "emendate/emendatelaw51.WalDetectsCorruption", spec := "walDetectsCorruption", inPlace := ["internal/abi.NoEscape"], apart := false }
def WalDetectsCorruptionSaid : Prop := walDetectsCorruptionRow.holds Try.pinned (OpenSpec.ofChange walDetectsCorruptionSpec)

/-- ITS FALSE NEIGHBOUR: 'it returns false'. Refute it at one input. -/
def walDetectsCorruptionWrong : ChangeSpec := { name := "walDetectsCorruption", fn := fun _ => fun
  | [d1, d2, d3] => { results := [.lit (.bool false)], args := [d1, d2, d3] }
  | _ => none }
def WalDetectsCorruptionWrongFalsely : Prop := walDetectsCorruptionRow.holds Try.pinned (OpenSpec.ofChange walDetectsCorruptionWrong)

/-- 'emendatelaw51.WalDecodePrefix': WHATEVER THE INPUT: true; the input reads as it did. -/
def walDecodePrefixSpec : ChangeSpec := { name := "walDecodePrefix", fn := fun _ => fun
  | [d] => { results := [.lit (.bool true)], args := [d] }
  | _ => none }
def walDecodePrefixRow : OpenClaim := { program := "ytjpachkjljmljaa", sum := "747846b20b1cbe3ae4ae87d28095025c699e9a7c2818fc2187a5e29b1fb93a45", func := "emendate/emendatelaw51.WalDecodePrefix", spec := "walDecodePrefix", inPlace := ["internal/abi.NoEscape"], apart := false }
def WalDecodePrefixSaid : Prop := walDecodePrefixRow.holds Try.pinned (OpenSpec.ofChange walDecodePrefixSpec)

/-- ITS FALSE NEIGHBOUR: 'it returns false'. Refute it at one input. -/
def walDecodePrefixWrong : ChangeSpec := { name := "walDecodePrefix", fn := fun _ => fun
  | [d] => { results := [.lit (.bool false)], args := [d] }
  | _ => none }
def WalDecodePrefixWrongFalsely : Prop := walDecodePrefixRow.holds Try.pinned (OpenSpec.ofChange walDecodePrefixWrong)

/-- 'emendatelaw51.WalConcatenation': WHATEVER THE INPUT: true; the input reads as it did. -/
def walConcatenationSpec : ChangeSpec := { name := "walConcatenation", fn := fun _ => fun
  | [d1, d2] => { results := [.lit (.bool true)], args := [d1, d2] }
  | _ => none }
def walConcatenationRow : OpenClaim := { program := "ytjpachkjljmljaa", sum := "747846b20b1cbe3ae4ae87d28095025c699e9a7c2818fc2187a5e29b1fb93a45", func := "emendate/emendatelaw51.WalConcatenation", spec := "walConcatenation", inPlace := ["internal/abi.NoEscape"], apart := false }
def WalConcatenationSaid : Prop := walConcatenationRow.holds Try.pinned (OpenSpec.ofChange walConcatenationSpec)

/-- ITS FALSE NEIGHBOUR: 'it returns false'. Refute it at one input. -/
def walConcatenationWrong : ChangeSpec := { name := "walConcatenation", fn := fun _ => fun
  | [d1, d2] => { results := [.lit (.bool false)], args := [d1, d2] }
  | _ => none }
def WalConcatenationWrongFalsely : Prop := walConcatenationRow.holds Try.pinned (OpenSpec.ofChange walConcatenationWrong)

/- THE SECOND FORM. 'bulk': how many values and letters a reading holds, each counted each time it is reached (what is shared counts as often as it is met; a slice's spare places count too). A statement '..UptoSaid' is the law's where the arguments, and the package variables that the reading takes, are together of bulk at most 1048576: NARROWER than '..Said'. Prove '..Said' where nothing that the law and all that it calls make is longer than what came in: it says more and counts as full. Else prove '..UptoSaid'. A law counts once. -/
mutual
def uptoBulk {H : Type} : DataW H → Nat
  | .lit (.string bytes) => bytes.length + 1
  | .lit _ => 1
  | .nil => 1
  | .ptr d => uptoBulk d + 1
  | .slice elems spare => uptoBulkAll elems + uptoBulkAll spare + 1
  | .agg parts => uptoBulkAll parts + 1
  | .iface _ d => uptoBulk d + 1
  | .map entries => uptoBulkEntries entries + 1
  | .held _ => 1
def uptoBulkAll {H : Type} : List (DataW H) → Nat
  | [] => 0
  | d :: r => uptoBulk d + uptoBulkAll r
def uptoBulkEntries {H : Type} : List (Lit × DataW H) → Nat
  | [] => 0
  | x :: r => uptoBulkEntry x + uptoBulkEntries r
def uptoBulkEntry {H : Type} : Lit × DataW H → Nat
  | (.string bytes, d) => bytes.length + uptoBulk d + 1
  | (_, d) => uptoBulk d + 1
 end
def uptoSmall : (H : Type) → List (DataW H) → Bool := fun _ ds => decide (uptoBulkAll ds ≤ 1048576)
def OpenSpec.upto (s : _root_.Go.ChangeSpec) : _root_.Go.OpenSpec := { _root_.Go.OpenSpec.ofChange s with cond := some uptoSmall }

/-- 'emendatelaw51.WalEncodeMatchesReference', WHERE WHAT IT READS IS OF BULK AT MOST 1048576: true; the input reads as it did. -/
def walEncodeMatchesReferenceUptoRow : OpenClaim := { program := "ytjpachkjljmljaa", sum := "747846b20b1cbe3ae4ae87d28095025c699e9a7c2818fc2187a5e29b1fb93a45", func := "emendate/emendatelaw51.WalEncodeMatchesReference", spec := "walEncodeMatchesReference", inPlace := ["internal/abi.NoEscape"], apart := false, narrowed := true }
def WalEncodeMatchesReferenceUptoSaid : Prop := walEncodeMatchesReferenceUptoRow.holds Try.pinned (OpenSpec.upto walEncodeMatchesReferenceSpec)

/-- 'emendatelaw51.WalDecodeMatchesReference', WHERE WHAT IT READS IS OF BULK AT MOST 1048576: true; the input reads as it did. -/
def walDecodeMatchesReferenceUptoRow : OpenClaim := { program := "ytjpachkjljmljaa", sum := "747846b20b1cbe3ae4ae87d28095025c699e9a7c2818fc2187a5e29b1fb93a45", func := "emendate/emendatelaw51.WalDecodeMatchesReference", spec := "walDecodeMatchesReference", inPlace := ["internal/abi.NoEscape"], apart := false, narrowed := true }
def WalDecodeMatchesReferenceUptoSaid : Prop := walDecodeMatchesReferenceUptoRow.holds Try.pinned (OpenSpec.upto walDecodeMatchesReferenceSpec)

/-- 'emendatelaw51.WalRoundTrip', WHERE WHAT IT READS IS OF BULK AT MOST 1048576: true; the input reads as it did. -/
def walRoundTripUptoRow : OpenClaim := { program := "ytjpachkjljmljaa", sum := "747846b20b1cbe3ae4ae87d28095025c699e9a7c2818fc2187a5e29b1fb93a45", func := "emendate/emendatelaw51.WalRoundTrip", spec := "walRoundTrip", inPlace := ["internal/abi.NoEscape"], apart := false, narrowed := true }
def WalRoundTripUptoSaid : Prop := walRoundTripUptoRow.holds Try.pinned (OpenSpec.upto walRoundTripSpec)

/-- 'emendatelaw51.WalTruncation', WHERE WHAT IT READS IS OF BULK AT MOST 1048576: true; the input reads as it did. -/
def walTruncationUptoRow : OpenClaim := { program := "ytjpachkjljmljaa", sum := "747846b20b1cbe3ae4ae87d28095025c699e9a7c2818fc2187a5e29b1fb93a45", func := "emendate/emendatelaw51.WalTruncation", spec := "walTruncation", inPlace := ["internal/abi.NoEscape"], apart := false, narrowed := true }
def WalTruncationUptoSaid : Prop := walTruncationUptoRow.holds Try.pinned (OpenSpec.upto walTruncationSpec)

/-- 'emendatelaw51.WalDetectsCorruption', WHERE WHAT IT READS IS OF BULK AT MOST 1048576: true; the input reads as it did. -/
def walDetectsCorruptionUptoRow : OpenClaim := { program := "ytjpachkjljmljaa", sum := "747846b20b1cbe3ae4ae87d28095025c699e9a7c2818fc2187a5e29b1fb93a45", func := "emendate/emendatelaw51.WalDetectsCorruption", spec := "walDetectsCorruption", inPlace := ["internal/abi.NoEscape"], apart := false, narrowed := true }
def WalDetectsCorruptionUptoSaid : Prop := walDetectsCorruptionUptoRow.holds Try.pinned (OpenSpec.upto walDetectsCorruptionSpec)

/-- 'emendatelaw51.WalDecodePrefix', WHERE WHAT IT READS IS OF BULK AT MOST 1048576: true; the input reads as it did. -/
def walDecodePrefixUptoRow : OpenClaim := { program := "ytjpachkjljmljaa", sum := "747846b20b1cbe3ae4ae87d28095025c699e9a7c2818fc2187a5e29b1fb93a45", func := "emendate/emendatelaw51.WalDecodePrefix", spec := "walDecodePrefix", inPlace := ["internal/abi.NoEscape"], apart := false, narrowed := true }
def WalDecodePrefixUptoSaid : Prop := walDecodePrefixUptoRow.holds Try.pinned (OpenSpec.upto walDecodePrefixSpec)

/-- 'emendatelaw51.WalConcatenation', WHERE WHAT IT READS IS OF BULK AT MOST 1048576: true; the input reads as it did. -/
def walConcatenationUptoRow : OpenClaim := { program := "ytjpachkjljmljaa", sum := "747846b20b1cbe3ae4ae87d28095025c699e9a7c2818fc2187a5e29b1fb93a45", func := "emendate/emendatelaw51.WalConcatenation", spec := "walConcatenation", inPlace := ["internal/abi.NoEscape"], apart := false, narrowed := true }
def WalConcatenationUptoSaid : Prop := walConcatenationUptoRow.holds Try.pinned (OpenSpec.upto walConcatenationSpec)

end Rows
end Go.Proofs.Ytjpachkjljmljaa
