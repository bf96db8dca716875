/-
  NARROWER THAN 'FOR EVERY INPUT', by the rows' own cells (each row's printed sentence says how): EditscriptApplyMatchesReference: laid · EditscriptDistanceMatchesReference: laid · EditscriptDistanceIsLowerBound: laid · EditscriptAlignIsOptimal: laid · EditscriptAlignIsSmallest: laid · EditscriptOwnKinds: laid · EditscriptConcatenation: laid · EditscriptOneMore: laid.
  DERIVED. THE GIVEN ROWS OF THIS SEAT. 8 by the template 'for every input the law returns true; each argument reads behind the call as it read before'; 0 by the template 'total and deterministic' (their statements: YtlefheiohblgdaaDoorTotals.lean).
  GIVEN WITH THE SEED: the statements are not yours to turn. If you find one false, say at which input.
  Laid BY PROGRAM, IN A SANDBOX (cutbox-rows.mjs): the forced cells as the released guide's own fill.sh prints them over the translation 6e76345c21dffdc9… (all of the seat's roots in one cut). By AI agents, Wed Nov 11 2026. No macro, syntax, notation, axiom, sorry.
-/
import Derived.Test.YtlefheiohblgdaaDoorChecked
import GoSem.Claim
import GoSem.ClaimJoined
import GoSem.ClaimMapViews
import Derived.JoinedTies
import Derived.KernelRfl
namespace Go.Proofs.YtlefheiohblgdaaDoor
/- THE CELL 'sum', in the pinned program and in every row, IS THE sha256 OF THE DUMP (.gsa) THAT YtlefheiohblgdaaDoorProg.lean LOADS. Nothing in Lean hashes anything: it is a label: what it is worth is what the hold of that sum in a sandbox is worth. -/
noncomputable def Tryd.pinned : Pinned := { name := "ytlefheiohblgdaadoor", sum := "6e76345c21dffdc9bdd4a98c3b0048700787410590e28694b3c21d1a0e48c066", checked := Tryd.checked }
namespace Rows
def none {H : Type} : Left H := { results := [], args := [] }

/- WHAT THE LISTED PACKAGE-LEVEL VARIABLES READ AS WHEN THE CALL BEGINS. Each datum BY PROGRAM (the guide's laid-datum.mjs) off the statement by which the dump's own 'gosem.cut.vars' lays the variable. In a bare row this is a premise. The card (YtlefheiohblgdaaDoorCards.lean) ties it to the program's text. -/
def laid_emendate_editscript_actions {H : Type} : DataW H := .iface "func table" (.agg [.nil, .iface "func" (.lit (.string [40, 42, 101, 109, 101, 110, 100, 97, 116, 101, 47, 101, 100, 105, 116, 115, 99, 114, 105, 112, 116, 46, 115, 116, 97, 116, 101, 41, 46, 114, 101, 97, 100])), .iface "func" (.lit (.string [40, 42, 101, 109, 101, 110, 100, 97, 116, 101, 47, 101, 100, 105, 116, 115, 99, 114, 105, 112, 116, 46, 115, 116, 97, 116, 101, 41, 46, 114, 101, 109, 111, 118, 101])), .iface "func" (.lit (.string [40, 42, 101, 109, 101, 110, 100, 97, 116, 101, 47, 101, 100, 105, 116, 115, 99, 114, 105, 112, 116, 46, 115, 116, 97, 116, 101, 41, 46, 105, 110, 115, 101, 114, 116])), .iface "func" (.lit (.string [40, 42, 101, 109, 101, 110, 100, 97, 116, 101, 47, 101, 100, 105, 116, 115, 99, 114, 105, 112, 116, 46, 115, 116, 97, 116, 101, 41, 46, 115, 119, 97, 112]))])

/-- 'emendatelaw36.EditscriptApplyMatchesReference': WHATEVER THE INPUT: true; the input reads as it did. -/
def editscriptApplyMatchesReferenceSpec : ChangeSpec := { name := "editscriptApplyMatchesReference", fn := fun _ => fun
  | [d1, d2] => { results := [.lit (.bool true)], args := [d1, d2] }
  | _ => none }
def editscriptApplyMatchesReferenceRow : OpenClaim := { program := "ytlefheiohblgdaadoor", sum := "6e76345c21dffdc9bdd4a98c3b0048700787410590e28694b3c21d1a0e48c066", func := "emendate/emendatelaw36.EditscriptApplyMatchesReference", spec := "editscriptApplyMatchesReference", unfollowed := true, recurses := true, named := ["emendate/editscript.actions"], apart := false, laid := [("emendate/editscript.actions", laid_emendate_editscript_actions)] }
def EditscriptApplyMatchesReferenceSaid : Prop := editscriptApplyMatchesReferenceRow.holds Tryd.pinned (OpenSpec.ofChange editscriptApplyMatchesReferenceSpec)

/-- ITS FALSE NEIGHBOUR: 'it returns false'. Refute it at one input. -/
def editscriptApplyMatchesReferenceWrong : ChangeSpec := { name := "editscriptApplyMatchesReference", fn := fun _ => fun
  | [d1, d2] => { results := [.lit (.bool false)], args := [d1, d2] }
  | _ => none }
def EditscriptApplyMatchesReferenceWrongFalsely : Prop := editscriptApplyMatchesReferenceRow.holds Tryd.pinned (OpenSpec.ofChange editscriptApplyMatchesReferenceWrong)

/-- 'emendatelaw36.EditscriptDistanceMatchesReference': WHATEVER THE INPUT: true; the input reads as it did. -/
def editscriptDistanceMatchesReferenceSpec : ChangeSpec := { name := "editscriptDistanceMatchesReference", fn := fun _ => fun
  | [d1, d2] => { results := [.lit (.bool true)], args := [d1, d2] }
  | _ => none }
def editscriptDistanceMatchesReferenceRow : OpenClaim := { program := "ytlefheiohblgdaadoor", sum := "6e76345c21dffdc9bdd4a98c3b0048700787410590e28694b3c21d1a0e48c066", func := "emendate/emendatelaw36.EditscriptDistanceMatchesReference", spec := "editscriptDistanceMatchesReference", unfollowed := true, recurses := true, named := ["emendate/editscript.actions"], apart := false, laid := [("emendate/editscript.actions", laid_emendate_editscript_actions)] }
def EditscriptDistanceMatchesReferenceSaid : Prop := editscriptDistanceMatchesReferenceRow.holds Tryd.pinned (OpenSpec.ofChange editscriptDistanceMatchesReferenceSpec)

/-- ITS FALSE NEIGHBOUR: 'it returns false'. Refute it at one input. -/
def editscriptDistanceMatchesReferenceWrong : ChangeSpec := { name := "editscriptDistanceMatchesReference", fn := fun _ => fun
  | [d1, d2] => { results := [.lit (.bool false)], args := [d1, d2] }
  | _ => none }
def EditscriptDistanceMatchesReferenceWrongFalsely : Prop := editscriptDistanceMatchesReferenceRow.holds Tryd.pinned (OpenSpec.ofChange editscriptDistanceMatchesReferenceWrong)

/-- 'emendatelaw36.EditscriptDistanceIsLowerBound': WHATEVER THE INPUT: true; the input reads as it did. -/
def editscriptDistanceIsLowerBoundSpec : ChangeSpec := { name := "editscriptDistanceIsLowerBound", fn := fun _ => fun
  | [d1, d2] => { results := [.lit (.bool true)], args := [d1, d2] }
  | _ => none }
def editscriptDistanceIsLowerBoundRow : OpenClaim := { program := "ytlefheiohblgdaadoor", sum := "6e76345c21dffdc9bdd4a98c3b0048700787410590e28694b3c21d1a0e48c066", func := "emendate/emendatelaw36.EditscriptDistanceIsLowerBound", spec := "editscriptDistanceIsLowerBound", unfollowed := true, recurses := true, named := ["emendate/editscript.actions"], apart := false, laid := [("emendate/editscript.actions", laid_emendate_editscript_actions)] }
def EditscriptDistanceIsLowerBoundSaid : Prop := editscriptDistanceIsLowerBoundRow.holds Tryd.pinned (OpenSpec.ofChange editscriptDistanceIsLowerBoundSpec)

/-- ITS FALSE NEIGHBOUR: 'it returns false'. Refute it at one input. -/
def editscriptDistanceIsLowerBoundWrong : ChangeSpec := { name := "editscriptDistanceIsLowerBound", fn := fun _ => fun
  | [d1, d2] => { results := [.lit (.bool false)], args := [d1, d2] }
  | _ => none }
def EditscriptDistanceIsLowerBoundWrongFalsely : Prop := editscriptDistanceIsLowerBoundRow.holds Tryd.pinned (OpenSpec.ofChange editscriptDistanceIsLowerBoundWrong)

/-- 'emendatelaw36.EditscriptAlignIsOptimal': WHATEVER THE INPUT: true; the input reads as it did. -/
def editscriptAlignIsOptimalSpec : ChangeSpec := { name := "editscriptAlignIsOptimal", fn := fun _ => fun
  | [d1, d2] => { results := [.lit (.bool true)], args := [d1, d2] }
  | _ => none }
def editscriptAlignIsOptimalRow : OpenClaim := { program := "ytlefheiohblgdaadoor", sum := "6e76345c21dffdc9bdd4a98c3b0048700787410590e28694b3c21d1a0e48c066", func := "emendate/emendatelaw36.EditscriptAlignIsOptimal", spec := "editscriptAlignIsOptimal", unfollowed := true, recurses := true, named := ["emendate/editscript.actions"], apart := false, laid := [("emendate/editscript.actions", laid_emendate_editscript_actions)] }
def EditscriptAlignIsOptimalSaid : Prop := editscriptAlignIsOptimalRow.holds Tryd.pinned (OpenSpec.ofChange editscriptAlignIsOptimalSpec)

/-- ITS FALSE NEIGHBOUR: 'it returns false'. Refute it at one input. -/
def editscriptAlignIsOptimalWrong : ChangeSpec := { name := "editscriptAlignIsOptimal", fn := fun _ => fun
  | [d1, d2] => { results := [.lit (.bool false)], args := [d1, d2] }
  | _ => none }
def EditscriptAlignIsOptimalWrongFalsely : Prop := editscriptAlignIsOptimalRow.holds Tryd.pinned (OpenSpec.ofChange editscriptAlignIsOptimalWrong)

/-- 'emendatelaw36.EditscriptAlignIsSmallest': WHATEVER THE INPUT: true; the input reads as it did. -/
def editscriptAlignIsSmallestSpec : ChangeSpec := { name := "editscriptAlignIsSmallest", fn := fun _ => fun
  | [d1, d2] => { results := [.lit (.bool true)], args := [d1, d2] }
  | _ => none }
def editscriptAlignIsSmallestRow : OpenClaim := { program := "ytlefheiohblgdaadoor", sum := "6e76345c21dffdc9bdd4a98c3b0048700787410590e28694b3c21d1a0e48c066", func := "emendate/emendatelaw36.EditscriptAlignIsSmallest", spec := "editscriptAlignIsSmallest", unfollowed := true, recurses := true, named := ["emendate/editscript.actions"], apart := false, laid := [("emendate/editscript.actions", laid_emendate_editscript_actions)] }
def EditscriptAlignIsSmallestSaid : Prop := editscriptAlignIsSmallestRow.holds Tryd.pinned (OpenSpec.ofChange editscriptAlignIsSmallestSpec)

/-- ITS FALSE NEIGHBOUR: 'it returns false'. Refute it at one input. -/
def editscriptAlignIsSmallestWrong : ChangeSpec := { name := "editscriptAlignIsSmallest", fn := fun _ => fun
  | [d1, d2] => { results := [.lit (.bool false)], args := [d1, d2] }
  | _ => none }
def EditscriptAlignIsSmallestWrongFalsely : Prop := editscriptAlignIsSmallestRow.holds Tryd.pinned (OpenSpec.ofChange editscriptAlignIsSmallestWrong)

/-- 'emendatelaw36.EditscriptOwnKinds': WHATEVER THE INPUT: true; the input reads as it did. -/
def editscriptOwnKindsSpec : ChangeSpec := { name := "editscriptOwnKinds", fn := fun _ => fun
  | [d] => { results := [.lit (.bool true)], args := [d] }
  | _ => none }
def editscriptOwnKindsRow : OpenClaim := { program := "ytlefheiohblgdaadoor", sum := "6e76345c21dffdc9bdd4a98c3b0048700787410590e28694b3c21d1a0e48c066", func := "emendate/emendatelaw36.EditscriptOwnKinds", spec := "editscriptOwnKinds", unfollowed := true, recurses := true, named := ["emendate/editscript.actions"], apart := false, laid := [("emendate/editscript.actions", laid_emendate_editscript_actions)] }
def EditscriptOwnKindsSaid : Prop := editscriptOwnKindsRow.holds Tryd.pinned (OpenSpec.ofChange editscriptOwnKindsSpec)

/-- ITS FALSE NEIGHBOUR: 'it returns false'. Refute it at one input. -/
def editscriptOwnKindsWrong : ChangeSpec := { name := "editscriptOwnKinds", fn := fun _ => fun
  | [d] => { results := [.lit (.bool false)], args := [d] }
  | _ => none }
def EditscriptOwnKindsWrongFalsely : Prop := editscriptOwnKindsRow.holds Tryd.pinned (OpenSpec.ofChange editscriptOwnKindsWrong)

/-- 'emendatelaw36.EditscriptConcatenation': WHATEVER THE INPUT: true; the input reads as it did. -/
def editscriptConcatenationSpec : ChangeSpec := { name := "editscriptConcatenation", fn := fun _ => fun
  | [d1, d2, d3] => { results := [.lit (.bool true)], args := [d1, d2, d3] }
  | _ => none }
def editscriptConcatenationRow : OpenClaim := { program := "ytlefheiohblgdaadoor", sum := "6e76345c21dffdc9bdd4a98c3b0048700787410590e28694b3c21d1a0e48c066", func := "emendate/emendatelaw36.EditscriptConcatenation", spec := "editscriptConcatenation", unfollowed := true, recurses := true, named := ["emendate/editscript.actions"], apart := false, laid := [("emendate/editscript.actions", laid_emendate_editscript_actions)] }
def EditscriptConcatenationSaid : Prop := editscriptConcatenationRow.holds Tryd.pinned (OpenSpec.ofChange editscriptConcatenationSpec)

/-- ITS FALSE NEIGHBOUR: 'it returns false'. Refute it at one input. -/
def editscriptConcatenationWrong : ChangeSpec := { name := "editscriptConcatenation", fn := fun _ => fun
  | [d1, d2, d3] => { results := [.lit (.bool false)], args := [d1, d2, d3] }
  | _ => none }
def EditscriptConcatenationWrongFalsely : Prop := editscriptConcatenationRow.holds Tryd.pinned (OpenSpec.ofChange editscriptConcatenationWrong)

/-- 'emendatelaw36.EditscriptOneMore': WHATEVER THE INPUT: true; the input reads as it did. -/
def editscriptOneMoreSpec : ChangeSpec := { name := "editscriptOneMore", fn := fun _ => fun
  | [d1, d2, d3] => { results := [.lit (.bool true)], args := [d1, d2, d3] }
  | _ => none }
def editscriptOneMoreRow : OpenClaim := { program := "ytlefheiohblgdaadoor", sum := "6e76345c21dffdc9bdd4a98c3b0048700787410590e28694b3c21d1a0e48c066", func := "emendate/emendatelaw36.EditscriptOneMore", spec := "editscriptOneMore", unfollowed := true, recurses := true, named := ["emendate/editscript.actions"], apart := false, laid := [("emendate/editscript.actions", laid_emendate_editscript_actions)] }
def EditscriptOneMoreSaid : Prop := editscriptOneMoreRow.holds Tryd.pinned (OpenSpec.ofChange editscriptOneMoreSpec)

/-- ITS FALSE NEIGHBOUR: 'it returns false'. Refute it at one input. -/
def editscriptOneMoreWrong : ChangeSpec := { name := "editscriptOneMore", fn := fun _ => fun
  | [d1, d2, d3] => { results := [.lit (.bool false)], args := [d1, d2, d3] }
  | _ => none }
def EditscriptOneMoreWrongFalsely : Prop := editscriptOneMoreRow.holds Tryd.pinned (OpenSpec.ofChange editscriptOneMoreWrong)

/- THE SECOND FORM. 'bulk': how many values and letters a reading holds, each counted each time it is reached (what is shared counts as often as it is met; a slice's spare places count too). A statement '..UptoSaid' is the law's where the arguments, and the package variables that the reading takes, are together of bulk at most 1048576: NARROWER than '..Said'. Prove '..Said' where nothing that the law and all that it calls make is longer than what came in: it says more and counts as full. Else prove '..UptoSaid'. A law counts once. -/
mutual
def uptoBulk {H : Type} : DataW H → Nat
  | .lit (.string bytes) => bytes.length + 1
  | .lit _ => 1
  | .nil => 1
  | .ptr d => uptoBulk d + 1
  | .slice elems spare => uptoBulkAll elems + uptoBulkAll spare + 1
  | .agg parts => uptoBulkAll parts + 1
  | .iface _ d => uptoBulk d + 1
  | .map entries => uptoBulkEntries entries + 1
  | .held _ => 1
def uptoBulkAll {H : Type} : List (DataW H) → Nat
  | [] => 0
  | d :: r => uptoBulk d + uptoBulkAll r
def uptoBulkEntries {H : Type} : List (Lit × DataW H) → Nat
  | [] => 0
  | x :: r => uptoBulkEntry x + uptoBulkEntries r
def uptoBulkEntry {H : Type} : Lit × DataW H → Nat
  | (.string bytes, d) => bytes.length + uptoBulk d + 1
  | (_, d) => uptoBulk d + 1
 end
def uptoSmall : (H : Type) → List (DataW H) → Bool := fun _ ds => decide (uptoBulkAll ds ≤ 1048576)
def OpenSpec.upto (s : _root_.Go.ChangeSpec) : _root_.Go.OpenSpec := { _root_.Go.OpenSpec.ofChange s with cond := some uptoSmall }

/-- 'emendatelaw36.EditscriptApplyMatchesReference', WHERE WHAT IT READS IS OF BULK AT MOST 1048576: true; the input reads as it did. -/
def editscriptApplyMatchesReferenceUptoRow : OpenClaim := { program := "ytlefheiohblgdaadoor", sum := "6e76345c21dffdc9bdd4a98c3b0048700787410590e28694b3c21d1a0e48c066", func := "emendate/emendatelaw36.EditscriptApplyMatchesReference", spec := "editscriptApplyMatchesReference", unfollowed := true, recurses := true, named := ["emendate/editscript.actions"], apart := false, laid := [("emendate/editscript.actions", laid_emendate_editscript_actions)], narrowed := true }
def EditscriptApplyMatchesReferenceUptoSaid : Prop := editscriptApplyMatchesReferenceUptoRow.holds Tryd.pinned (OpenSpec.upto editscriptApplyMatchesReferenceSpec)

/-- 'emendatelaw36.EditscriptDistanceMatchesReference', WHERE WHAT IT READS IS OF BULK AT MOST 1048576: true; the input reads as it did. -/
def editscriptDistanceMatchesReferenceUptoRow : OpenClaim := { program := "ytlefheiohblgdaadoor", sum := "6e76345c21dffdc9bdd4a98c3b0048700787410590e28694b3c21d1a0e48c066", func := "emendate/emendatelaw36.EditscriptDistanceMatchesReference", spec := "editscriptDistanceMatchesReference", unfollowed := true, recurses := true, named := ["emendate/editscript.actions"], apart := false, laid := [("emendate/editscript.actions", laid_emendate_editscript_actions)], narrowed := true }
def EditscriptDistanceMatchesReferenceUptoSaid : Prop := editscriptDistanceMatchesReferenceUptoRow.holds Tryd.pinned (OpenSpec.upto editscriptDistanceMatchesReferenceSpec)

/-- 'emendatelaw36.EditscriptDistanceIsLowerBound', WHERE WHAT IT READS IS OF BULK AT MOST 1048576: true; the input reads as it did. -/
def editscriptDistanceIsLowerBoundUptoRow : OpenClaim := { program := "ytlefheiohblgdaadoor", sum := "6e76345c21dffdc9bdd4a98c3b0048700787410590e28694b3c21d1a0e48c066", func := "emendate/emendatelaw36.EditscriptDistanceIsLowerBound", spec := "editscriptDistanceIsLowerBound", unfollowed := true, recurses := true, named := ["emendate/editscript.actions"], apart := false, laid := [("emendate/editscript.actions", laid_emendate_editscript_actions)], narrowed := true }
def EditscriptDistanceIsLowerBoundUptoSaid : Prop := editscriptDistanceIsLowerBoundUptoRow.holds Tryd.pinned (OpenSpec.upto editscriptDistanceIsLowerBoundSpec)

/-- 'emendatelaw36.EditscriptAlignIsOptimal', WHERE WHAT IT READS IS OF BULK AT MOST 1048576: true; the input reads as it did. -/
def editscriptAlignIsOptimalUptoRow : OpenClaim := { program := "ytlefheiohblgdaadoor", sum := "6e76345c21dffdc9bdd4a98c3b0048700787410590e28694b3c21d1a0e48c066", func := "emendate/emendatelaw36.EditscriptAlignIsOptimal", spec := "editscriptAlignIsOptimal", unfollowed := true, recurses := true, named := ["emendate/editscript.actions"], apart := false, laid := [("emendate/editscript.actions", laid_emendate_editscript_actions)], narrowed := true }
def EditscriptAlignIsOptimalUptoSaid : Prop := editscriptAlignIsOptimalUptoRow.holds Tryd.pinned (OpenSpec.upto editscriptAlignIsOptimalSpec)

/-- 'emendatelaw36.EditscriptAlignIsSmallest', WHERE WHAT IT READS IS OF BULK AT MOST 1048576: true; the input reads as it did. -/
def editscriptAlignIsSmallestUptoRow : OpenClaim := { program := "ytlefheiohblgdaadoor", sum := "6e76345c21dffdc9bdd4a98c3b0048700787410590e28694b3c21d1a0e48c066", func := "emendate/emendatelaw36.EditscriptAlignIsSmallest", spec := "editscriptAlignIsSmallest", unfollowed := true, recurses := true, named := ["emendate/editscript.actions"], apart := false, laid := [("emendate/editscript.actions", laid_emendate_editscript_actions)], narrowed := true }
def EditscriptAlignIsSmallestUptoSaid : Prop := editscriptAlignIsSmallestUptoRow.holds Tryd.pinned (OpenSpec.upto editscriptAlignIsSmallestSpec)

/-- 'emendatelaw36.EditscriptOwnKinds', WHERE WHAT IT READS IS OF BULK AT MOST 1048576: true; the input reads as it did. -/
def editscriptOwnKindsUptoRow : OpenClaim := { program := "ytlefheiohblgdaadoor", sum := "6e76345c21dffdc9bdd4a98c3b0048700787410590e28694b3c21d1a0e48c066", func := "emendate/emendatelaw36.EditscriptOwnKinds", spec := "editscriptOwnKinds", unfollowed := true, recurses := true, named := ["emendate/editscript.actions"], apart := false, laid := [("emendate/editscript.actions", laid_emendate_editscript_actions)], narrowed := true }
def EditscriptOwnKindsUptoSaid : Prop := editscriptOwnKindsUptoRow.holds Tryd.pinned (OpenSpec.upto editscriptOwnKindsSpec)

/-- 'emendatelaw36.EditscriptConcatenation', WHERE WHAT IT READS IS OF BULK AT MOST 1048576: true; the input reads as it did. -/
def editscriptConcatenationUptoRow : OpenClaim := { program := "ytlefheiohblgdaadoor", sum := "6e76345c21dffdc9bdd4a98c3b0048700787410590e28694b3c21d1a0e48c066", func := "emendate/emendatelaw36.EditscriptConcatenation", spec := "editscriptConcatenation", unfollowed := true, recurses := true, named := ["emendate/editscript.actions"], apart := false, laid := [("emendate/editscript.actions", laid_emendate_editscript_actions)], narrowed := true }
def EditscriptConcatenationUptoSaid : Prop := editscriptConcatenationUptoRow.holds Tryd.pinned (OpenSpec.upto editscriptConcatenationSpec)

/-- 'emendatelaw36.EditscriptOneMore', WHERE WHAT IT READS IS OF BULK AT MOST 1048576: true; the input reads as it did. -/
def editscriptOneMoreUptoRow : OpenClaim := { program := "ytlefheiohblgdaadoor", sum := "6e76345c21dffdc9bdd4a98c3b0048700787410590e28694b3c21d1a0e48c066", func := "emendate/emendatelaw36.EditscriptOneMore", spec := "editscriptOneMore", unfollowed := true, recurses := true, named := ["emendate/editscript.actions"], apart := false, laid := [("emendate/editscript.actions", laid_emendate_editscript_actions)], narrowed := true }
def EditscriptOneMoreUptoSaid : Prop := editscriptOneMoreUptoRow.holds Tryd.pinned (OpenSpec.upto editscriptOneMoreSpec)

end Rows
end Go.Proofs.YtlefheiohblgdaaDoor
