/-
  No cell of these rows narrows 'for every input' (looked for: loops, veiled, ifaces, maps, wideKeys, modest, calm, conditions, laid).
  DERIVED. THE GIVEN ROWS OF THIS SEAT. 7 by the template 'for every input the law returns true; each argument reads behind the call as it read before'; 0 by the template 'total and deterministic' (their statements: YtncagpppmaehhaaTotals.lean).
  GIVEN WITH THE SEED: the statements are not yours to turn. If you find one false, say at which input.
  Laid BY PROGRAM, IN A SANDBOX (cutbox-rows.mjs): the forced cells as the released guide's own fill.sh prints them over the translation 658d663adc12ee67… (all of the seat's roots in one cut). By AI agents, Wed Nov 11 2026. No macro, syntax, notation, axiom, sorry.
-/
import Derived.Test.YtncagpppmaehhaaChecked
import GoSem.Claim
import GoSem.ClaimJoined
import GoSem.ClaimMapViews
import Derived.JoinedTies
import Derived.KernelRfl
namespace Go.Proofs.Ytncagpppmaehhaa
/- THE CELL 'sum', in the pinned program and in every row, IS THE sha256 OF THE DUMP (.gsa) THAT YtncagpppmaehhaaProg.lean LOADS. Nothing in Lean hashes anything: it is a label: what it is worth is what the hold of that sum in a sandbox is worth. -/
noncomputable def Try.pinned : Pinned := { name := "ytncagpppmaehhaa", sum := "658d663adc12ee67c918e3d3f3e7c46494718c3638034fe5663e5a46090913ad", checked := Try.checked }
namespace Rows
def none {H : Type} : Left H := { results := [], args := [] }

/-- 'emendatelaw25.RecognizerRecognize': WHATEVER THE INPUT: true; the input reads as it did. -/
def recognizerRecognizeSpec : ChangeSpec := { name := "recognizerRecognize", fn := fun _ => fun
  | [d1, d2] => { results := [.lit (.bool true)], args := [d1, d2] }
  | _ => none }
def recognizerRecognizeRow : OpenClaim := { program := "ytncagpppmaehhaa", sum := "658d663adc12ee67c918e3d3f3e7c46494718c3638034fe5663e5a46090913ad", func := "emendate/emendatelaw25.RecognizerRecognize", spec := "recognizerRecognize", unfollowed := true, recurses := true, plainKeys := false, apart := false }
def RecognizerRecognizeSaid : Prop := recognizerRecognizeRow.holds Try.pinned (OpenSpec.ofChange recognizerRecognizeSpec)

/-- ITS FALSE NEIGHBOUR: 'it returns false'. Refute it at one input. -/
def recognizerRecognizeWrong : ChangeSpec := { name := "recognizerRecognize", fn := fun _ => fun
  | [d1, d2] => { results := [.lit (.bool false)], args := [d1, d2] }
  | _ => none }
def RecognizerRecognizeWrongFalsely : Prop := recognizerRecognizeRow.holds Try.pinned (OpenSpec.ofChange recognizerRecognizeWrong)

/-- 'emendatelaw25.RecognizerViable': WHATEVER THE INPUT: true; the input reads as it did. -/
def recognizerViableSpec : ChangeSpec := { name := "recognizerViable", fn := fun _ => fun
  | [d1, d2] => { results := [.lit (.bool true)], args := [d1, d2] }
  | _ => none }
def recognizerViableRow : OpenClaim := { program := "ytncagpppmaehhaa", sum := "658d663adc12ee67c918e3d3f3e7c46494718c3638034fe5663e5a46090913ad", func := "emendate/emendatelaw25.RecognizerViable", spec := "recognizerViable", unfollowed := true, recurses := true, plainKeys := false, apart := false }
def RecognizerViableSaid : Prop := recognizerViableRow.holds Try.pinned (OpenSpec.ofChange recognizerViableSpec)

/-- ITS FALSE NEIGHBOUR: 'it returns false'. Refute it at one input. -/
def recognizerViableWrong : ChangeSpec := { name := "recognizerViable", fn := fun _ => fun
  | [d1, d2] => { results := [.lit (.bool false)], args := [d1, d2] }
  | _ => none }
def RecognizerViableWrongFalsely : Prop := recognizerViableRow.holds Try.pinned (OpenSpec.ofChange recognizerViableWrong)

/-- 'emendatelaw25.RecognizerExpected': WHATEVER THE INPUT: true; the input reads as it did. -/
def recognizerExpectedSpec : ChangeSpec := { name := "recognizerExpected", fn := fun _ => fun
  | [d1, d2] => { results := [.lit (.bool true)], args := [d1, d2] }
  | _ => none }
def recognizerExpectedRow : OpenClaim := { program := "ytncagpppmaehhaa", sum := "658d663adc12ee67c918e3d3f3e7c46494718c3638034fe5663e5a46090913ad", func := "emendate/emendatelaw25.RecognizerExpected", spec := "recognizerExpected", unfollowed := true, recurses := true, plainKeys := false, apart := false }
def RecognizerExpectedSaid : Prop := recognizerExpectedRow.holds Try.pinned (OpenSpec.ofChange recognizerExpectedSpec)

/-- ITS FALSE NEIGHBOUR: 'it returns false'. Refute it at one input. -/
def recognizerExpectedWrong : ChangeSpec := { name := "recognizerExpected", fn := fun _ => fun
  | [d1, d2] => { results := [.lit (.bool false)], args := [d1, d2] }
  | _ => none }
def RecognizerExpectedWrongFalsely : Prop := recognizerExpectedRow.holds Try.pinned (OpenSpec.ofChange recognizerExpectedWrong)

/-- 'emendatelaw25.RecognizerPrefixes': WHATEVER THE INPUT: true; the input reads as it did. -/
def recognizerPrefixesSpec : ChangeSpec := { name := "recognizerPrefixes", fn := fun _ => fun
  | [d1, d2] => { results := [.lit (.bool true)], args := [d1, d2] }
  | _ => none }
def recognizerPrefixesRow : OpenClaim := { program := "ytncagpppmaehhaa", sum := "658d663adc12ee67c918e3d3f3e7c46494718c3638034fe5663e5a46090913ad", func := "emendate/emendatelaw25.RecognizerPrefixes", spec := "recognizerPrefixes", unfollowed := true, recurses := true, plainKeys := false, apart := false }
def RecognizerPrefixesSaid : Prop := recognizerPrefixesRow.holds Try.pinned (OpenSpec.ofChange recognizerPrefixesSpec)

/-- ITS FALSE NEIGHBOUR: 'it returns false'. Refute it at one input. -/
def recognizerPrefixesWrong : ChangeSpec := { name := "recognizerPrefixes", fn := fun _ => fun
  | [d1, d2] => { results := [.lit (.bool false)], args := [d1, d2] }
  | _ => none }
def RecognizerPrefixesWrongFalsely : Prop := recognizerPrefixesRow.holds Try.pinned (OpenSpec.ofChange recognizerPrefixesWrong)

/-- 'emendatelaw25.RecognizerContinues': WHATEVER THE INPUT: true; the input reads as it did. -/
def recognizerContinuesSpec : ChangeSpec := { name := "recognizerContinues", fn := fun _ => fun
  | [d1, d2] => { results := [.lit (.bool true)], args := [d1, d2] }
  | _ => none }
def recognizerContinuesRow : OpenClaim := { program := "ytncagpppmaehhaa", sum := "658d663adc12ee67c918e3d3f3e7c46494718c3638034fe5663e5a46090913ad", func := "emendate/emendatelaw25.RecognizerContinues", spec := "recognizerContinues", unfollowed := true, recurses := true, plainKeys := false, apart := false }
def RecognizerContinuesSaid : Prop := recognizerContinuesRow.holds Try.pinned (OpenSpec.ofChange recognizerContinuesSpec)

/-- ITS FALSE NEIGHBOUR: 'it returns false'. Refute it at one input. -/
def recognizerContinuesWrong : ChangeSpec := { name := "recognizerContinues", fn := fun _ => fun
  | [d1, d2] => { results := [.lit (.bool false)], args := [d1, d2] }
  | _ => none }
def RecognizerContinuesWrongFalsely : Prop := recognizerContinuesRow.holds Try.pinned (OpenSpec.ofChange recognizerContinuesWrong)

/-- 'emendatelaw25.RecognizerReduced': WHATEVER THE INPUT: true; the input reads as it did. -/
def recognizerReducedSpec : ChangeSpec := { name := "recognizerReduced", fn := fun _ => fun
  | [d1, d2] => { results := [.lit (.bool true)], args := [d1, d2] }
  | _ => none }
def recognizerReducedRow : OpenClaim := { program := "ytncagpppmaehhaa", sum := "658d663adc12ee67c918e3d3f3e7c46494718c3638034fe5663e5a46090913ad", func := "emendate/emendatelaw25.RecognizerReduced", spec := "recognizerReduced", unfollowed := true, recurses := true, plainKeys := false, apart := false }
def RecognizerReducedSaid : Prop := recognizerReducedRow.holds Try.pinned (OpenSpec.ofChange recognizerReducedSpec)

/-- ITS FALSE NEIGHBOUR: 'it returns false'. Refute it at one input. -/
def recognizerReducedWrong : ChangeSpec := { name := "recognizerReduced", fn := fun _ => fun
  | [d1, d2] => { results := [.lit (.bool false)], args := [d1, d2] }
  | _ => none }
def RecognizerReducedWrongFalsely : Prop := recognizerReducedRow.holds Try.pinned (OpenSpec.ofChange recognizerReducedWrong)

/-- 'emendatelaw25.RecognizerNested': WHATEVER THE INPUT: true; the input reads as it did. -/
def recognizerNestedSpec : ChangeSpec := { name := "recognizerNested", fn := fun _ => fun
  | [d1, d2] => { results := [.lit (.bool true)], args := [d1, d2] }
  | _ => none }
def recognizerNestedRow : OpenClaim := { program := "ytncagpppmaehhaa", sum := "658d663adc12ee67c918e3d3f3e7c46494718c3638034fe5663e5a46090913ad", func := "emendate/emendatelaw25.RecognizerNested", spec := "recognizerNested", unfollowed := true, recurses := true, plainKeys := false, apart := false }
def RecognizerNestedSaid : Prop := recognizerNestedRow.holds Try.pinned (OpenSpec.ofChange recognizerNestedSpec)

/-- ITS FALSE NEIGHBOUR: 'it returns false'. Refute it at one input. -/
def recognizerNestedWrong : ChangeSpec := { name := "recognizerNested", fn := fun _ => fun
  | [d1, d2] => { results := [.lit (.bool false)], args := [d1, d2] }
  | _ => none }
def RecognizerNestedWrongFalsely : Prop := recognizerNestedRow.holds Try.pinned (OpenSpec.ofChange recognizerNestedWrong)

/- THE SECOND FORM. 'bulk': how many values and letters a reading holds, each counted each time it is reached (what is shared counts as often as it is met; a slice's spare places count too). A statement '..UptoSaid' is the law's where the arguments, and the package variables that the reading takes, are together of bulk at most 1048576: NARROWER than '..Said'. Prove '..Said' where nothing that the law and all that it calls make is longer than what came in: it says more and counts as full. Else prove '..UptoSaid'. A law counts once. -/
mutual
def uptoBulk {H : Type} : DataW H → Nat
  | .lit (.string bytes) => bytes.length + 1
  | .lit _ => 1
  | .nil => 1
  | .ptr d => uptoBulk d + 1
  | .slice elems spare => uptoBulkAll elems + uptoBulkAll spare + 1
  | .agg parts => uptoBulkAll parts + 1
  | .iface _ d => uptoBulk d + 1
  | .map entries => uptoBulkEntries entries + 1
  | .held _ => 1
def uptoBulkAll {H : Type} : List (DataW H) → Nat
  | [] => 0
  | d :: r => uptoBulk d + uptoBulkAll r
def uptoBulkEntries {H : Type} : List (Lit × DataW H) → Nat
  | [] => 0
  | x :: r => uptoBulkEntry x + uptoBulkEntries r
def uptoBulkEntry {H : Type} : Lit × DataW H → Nat
  | (.string bytes, d) => bytes.length + uptoBulk d + 1
  | (_, d) => uptoBulk d + 1
 end
def uptoSmall : (H : Type) → List (DataW H) → Bool := fun _ ds => decide (uptoBulkAll ds ≤ 1048576)
def OpenSpec.upto (s : _root_.Go.ChangeSpec) : _root_.Go.OpenSpec := { _root_.Go.OpenSpec.ofChange s with cond := some uptoSmall }

/-- 'emendatelaw25.RecognizerRecognize', WHERE WHAT IT READS IS OF BULK AT MOST 1048576: true; the input reads as it did. -/
def recognizerRecognizeUptoRow : OpenClaim := { program := "ytncagpppmaehhaa", sum := "658d663adc12ee67c918e3d3f3e7c46494718c3638034fe5663e5a46090913ad", func := "emendate/emendatelaw25.RecognizerRecognize", spec := "recognizerRecognize", unfollowed := true, recurses := true, plainKeys := false, apart := false, narrowed := true }
def RecognizerRecognizeUptoSaid : Prop := recognizerRecognizeUptoRow.holds Try.pinned (OpenSpec.upto recognizerRecognizeSpec)

/-- 'emendatelaw25.RecognizerViable', WHERE WHAT IT READS IS OF BULK AT MOST 1048576: true; the input reads as it did. -/
def recognizerViableUptoRow : OpenClaim := { program := "ytncagpppmaehhaa", sum := "658d663adc12ee67c918e3d3f3e7c46494718c3638034fe5663e5a46090913ad", func := "emendate/emendatelaw25.RecognizerViable", spec := "recognizerViable", unfollowed := true, recurses := true, plainKeys := false, apart := false, narrowed := true }
def RecognizerViableUptoSaid : Prop := recognizerViableUptoRow.holds Try.pinned (OpenSpec.upto recognizerViableSpec)

/-- 'emendatelaw25.RecognizerExpected', WHERE WHAT IT READS IS OF BULK AT MOST 1048576: true; the input reads as it did. -/
def recognizerExpectedUptoRow : OpenClaim := { program := "ytncagpppmaehhaa", sum := "658d663adc12ee67c918e3d3f3e7c46494718c3638034fe5663e5a46090913ad", func := "emendate/emendatelaw25.RecognizerExpected", spec := "recognizerExpected", unfollowed := true, recurses := true, plainKeys := false, apart := false, narrowed := true }
def RecognizerExpectedUptoSaid : Prop := recognizerExpectedUptoRow.holds Try.pinned (OpenSpec.upto recognizerExpectedSpec)

/-- 'emendatelaw25.RecognizerPrefixes', WHERE WHAT IT READS IS OF BULK AT MOST 1048576: true; the input reads as it did. -/
def recognizerPrefixesUptoRow : OpenClaim := { program := "ytncagpppmaehhaa", sum := "658d663adc12ee67c918e3d3f3e7c46494718c3638034fe5663e5a46090913ad", func := "emendate/emendatelaw25.RecognizerPrefixes", spec := "recognizerPrefixes", unfollowed := true, recurses := true, plainKeys := false, apart := false, narrowed := true }
def RecognizerPrefixesUptoSaid : Prop := recognizerPrefixesUptoRow.holds Try.pinned (OpenSpec.upto recognizerPrefixesSpec)

/-- 'emendatelaw25.RecognizerContinues', WHERE WHAT IT READS IS OF BULK AT MOST 1048576: true; the input reads as it did. -/
def recognizerContinuesUptoRow : OpenClaim := { program := "ytncagpppmaehhaa", sum := "658d663adc12ee67c918e3d3f3e7c46494718c3638034fe5663e5a46090913ad", func := "emendate/emendatelaw25.RecognizerContinues", spec := "recognizerContinues", unfollowed := true, recurses := true, plainKeys := false, apart := false, narrowed := true }
def RecognizerContinuesUptoSaid : Prop := recognizerContinuesUptoRow.holds Try.pinned (OpenSpec.upto recognizerContinuesSpec)

/-- 'emendatelaw25.RecognizerReduced', WHERE WHAT IT READS IS OF BULK AT MOST 1048576: true; the input reads as it did. -/
def recognizerReducedUptoRow : OpenClaim := { program := "ytncagpppmaehhaa", sum := "658d663adc12ee67c918e3d3f3e7c46494718c3638034fe5663e5a46090913ad", func := "emendate/emendatelaw25.RecognizerReduced", spec := "recognizerReduced", unfollowed := true, recurses := true, plainKeys := false, apart := false, narrowed := true }
def RecognizerReducedUptoSaid : Prop := recognizerReducedUptoRow.holds Try.pinned (OpenSpec.upto recognizerReducedSpec)

/-- 'emendatelaw25.RecognizerNested', WHERE WHAT IT READS IS OF BULK AT MOST 1048576: true; the input reads as it did. -/
def recognizerNestedUptoRow : OpenClaim := { program := "ytncagpppmaehhaa", sum := "658d663adc12ee67c918e3d3f3e7c46494718c3638034fe5663e5a46090913ad", func := "emendate/emendatelaw25.RecognizerNested", spec := "recognizerNested", unfollowed := true, recurses := true, plainKeys := false, apart := false, narrowed := true }
def RecognizerNestedUptoSaid : Prop := recognizerNestedUptoRow.holds Try.pinned (OpenSpec.upto recognizerNestedSpec)

end Rows
end Go.Proofs.Ytncagpppmaehhaa
