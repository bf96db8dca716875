/-
  No cell of these rows narrows 'for every input' (looked for: loops, veiled, ifaces, maps, wideKeys, modest, calm, conditions, laid).
  DERIVED. THE GIVEN ROWS OF THIS SEAT. 7 by the template 'for every input the law returns true; each argument reads behind the call as it read before'; 0 by the template 'total and deterministic' (their statements: YtejhgbnpmelgcaaTotals.lean).
  GIVEN WITH THE SEED: the statements are not yours to turn. If you find one false, say at which input.
  Laid BY PROGRAM, IN A SANDBOX (cutbox-rows.mjs): the forced cells as the released guide's own fill.sh prints them over the translation 1dc27431433af343… (all of the seat's roots in one cut). By AI agents, Wed Nov 11 2026. No macro, syntax, notation, axiom, sorry.
-/
import Derived.Test.YtejhgbnpmelgcaaChecked
import GoSem.Claim
import GoSem.ClaimJoined
import GoSem.ClaimMapViews
import Derived.JoinedTies
import Derived.KernelRfl
namespace Go.Proofs.Ytejhgbnpmelgcaa
/- THE CELL 'sum', in the pinned program and in every row, IS THE sha256 OF THE DUMP (.gsa) THAT YtejhgbnpmelgcaaProg.lean LOADS. Nothing in Lean hashes anything: it is a label: what it is worth is what the hold of that sum in a sandbox is worth. -/
noncomputable def Try.pinned : Pinned := { name := "ytejhgbnpmelgcaa", sum := "1dc27431433af3431ad71a42833bc45d9ad9f026dfcacc7dd5afc54e702102ea", checked := Try.checked }
namespace Rows
def none {H : Type} : Left H := { results := [], args := [] }

/-- 'emendatelaw15.LayoutApplyMatchesReference': WHATEVER THE INPUT: true; the input reads as it did. -/
def layoutApplyMatchesReferenceSpec : ChangeSpec := { name := "layoutApplyMatchesReference", fn := fun _ => fun
  | [d] => { results := [.lit (.bool true)], args := [d] }
  | _ => none }
def layoutApplyMatchesReferenceRow : OpenClaim := { program := "ytejhgbnpmelgcaa", sum := "1dc27431433af3431ad71a42833bc45d9ad9f026dfcacc7dd5afc54e702102ea", func := "emendate/emendatelaw15.LayoutApplyMatchesReference", spec := "layoutApplyMatchesReference", unfollowed := true, recurses := true, apart := false }
def LayoutApplyMatchesReferenceSaid : Prop := layoutApplyMatchesReferenceRow.holds Try.pinned (OpenSpec.ofChange layoutApplyMatchesReferenceSpec)

/-- ITS FALSE NEIGHBOUR: 'it returns false'. Refute it at one input. -/
def layoutApplyMatchesReferenceWrong : ChangeSpec := { name := "layoutApplyMatchesReference", fn := fun _ => fun
  | [d] => { results := [.lit (.bool false)], args := [d] }
  | _ => none }
def LayoutApplyMatchesReferenceWrongFalsely : Prop := layoutApplyMatchesReferenceRow.holds Try.pinned (OpenSpec.ofChange layoutApplyMatchesReferenceWrong)

/-- 'emendatelaw15.LayoutBalanced': WHATEVER THE INPUT: true; the input reads as it did. -/
def layoutBalancedSpec : ChangeSpec := { name := "layoutBalanced", fn := fun _ => fun
  | [d] => { results := [.lit (.bool true)], args := [d] }
  | _ => none }
def layoutBalancedRow : OpenClaim := { program := "ytejhgbnpmelgcaa", sum := "1dc27431433af3431ad71a42833bc45d9ad9f026dfcacc7dd5afc54e702102ea", func := "emendate/emendatelaw15.LayoutBalanced", spec := "layoutBalanced", unfollowed := true, recurses := true, apart := false }
def LayoutBalancedSaid : Prop := layoutBalancedRow.holds Try.pinned (OpenSpec.ofChange layoutBalancedSpec)

/-- ITS FALSE NEIGHBOUR: 'it returns false'. Refute it at one input. -/
def layoutBalancedWrong : ChangeSpec := { name := "layoutBalanced", fn := fun _ => fun
  | [d] => { results := [.lit (.bool false)], args := [d] }
  | _ => none }
def LayoutBalancedWrongFalsely : Prop := layoutBalancedRow.holds Try.pinned (OpenSpec.ofChange layoutBalancedWrong)

/-- 'emendatelaw15.LayoutStripRestores': WHATEVER THE INPUT: true; the input reads as it did. -/
def layoutStripRestoresSpec : ChangeSpec := { name := "layoutStripRestores", fn := fun _ => fun
  | [d] => { results := [.lit (.bool true)], args := [d] }
  | _ => none }
def layoutStripRestoresRow : OpenClaim := { program := "ytejhgbnpmelgcaa", sum := "1dc27431433af3431ad71a42833bc45d9ad9f026dfcacc7dd5afc54e702102ea", func := "emendate/emendatelaw15.LayoutStripRestores", spec := "layoutStripRestores", unfollowed := true, recurses := true, apart := false }
def LayoutStripRestoresSaid : Prop := layoutStripRestoresRow.holds Try.pinned (OpenSpec.ofChange layoutStripRestoresSpec)

/-- ITS FALSE NEIGHBOUR: 'it returns false'. Refute it at one input. -/
def layoutStripRestoresWrong : ChangeSpec := { name := "layoutStripRestores", fn := fun _ => fun
  | [d] => { results := [.lit (.bool false)], args := [d] }
  | _ => none }
def LayoutStripRestoresWrongFalsely : Prop := layoutStripRestoresRow.holds Try.pinned (OpenSpec.ofChange layoutStripRestoresWrong)

/-- 'emendatelaw15.LayoutStripMatchesReference': WHATEVER THE INPUT: true; the input reads as it did. -/
def layoutStripMatchesReferenceSpec : ChangeSpec := { name := "layoutStripMatchesReference", fn := fun _ => fun
  | [d1, d2] => { results := [.lit (.bool true)], args := [d1, d2] }
  | _ => none }
def layoutStripMatchesReferenceRow : OpenClaim := { program := "ytejhgbnpmelgcaa", sum := "1dc27431433af3431ad71a42833bc45d9ad9f026dfcacc7dd5afc54e702102ea", func := "emendate/emendatelaw15.LayoutStripMatchesReference", spec := "layoutStripMatchesReference", unfollowed := true, recurses := true, apart := false }
def LayoutStripMatchesReferenceSaid : Prop := layoutStripMatchesReferenceRow.holds Try.pinned (OpenSpec.ofChange layoutStripMatchesReferenceSpec)

/-- ITS FALSE NEIGHBOUR: 'it returns false'. Refute it at one input. -/
def layoutStripMatchesReferenceWrong : ChangeSpec := { name := "layoutStripMatchesReference", fn := fun _ => fun
  | [d1, d2] => { results := [.lit (.bool false)], args := [d1, d2] }
  | _ => none }
def LayoutStripMatchesReferenceWrongFalsely : Prop := layoutStripMatchesReferenceRow.holds Try.pinned (OpenSpec.ofChange layoutStripMatchesReferenceWrong)

/-- 'emendatelaw15.LayoutSeparatesLines': WHATEVER THE INPUT: true; the input reads as it did. -/
def layoutSeparatesLinesSpec : ChangeSpec := { name := "layoutSeparatesLines", fn := fun _ => fun
  | [d] => { results := [.lit (.bool true)], args := [d] }
  | _ => none }
def layoutSeparatesLinesRow : OpenClaim := { program := "ytejhgbnpmelgcaa", sum := "1dc27431433af3431ad71a42833bc45d9ad9f026dfcacc7dd5afc54e702102ea", func := "emendate/emendatelaw15.LayoutSeparatesLines", spec := "layoutSeparatesLines", unfollowed := true, recurses := true, apart := false }
def LayoutSeparatesLinesSaid : Prop := layoutSeparatesLinesRow.holds Try.pinned (OpenSpec.ofChange layoutSeparatesLinesSpec)

/-- ITS FALSE NEIGHBOUR: 'it returns false'. Refute it at one input. -/
def layoutSeparatesLinesWrong : ChangeSpec := { name := "layoutSeparatesLines", fn := fun _ => fun
  | [d] => { results := [.lit (.bool false)], args := [d] }
  | _ => none }
def LayoutSeparatesLinesWrongFalsely : Prop := layoutSeparatesLinesRow.holds Try.pinned (OpenSpec.ofChange layoutSeparatesLinesWrong)

/-- 'emendatelaw15.LayoutIgnoresEmptyLines': WHATEVER THE INPUT: true; the input reads as it did. -/
def layoutIgnoresEmptyLinesSpec : ChangeSpec := { name := "layoutIgnoresEmptyLines", fn := fun _ => fun
  | [d1, d2] => { results := [.lit (.bool true)], args := [d1, d2] }
  | _ => none }
def layoutIgnoresEmptyLinesRow : OpenClaim := { program := "ytejhgbnpmelgcaa", sum := "1dc27431433af3431ad71a42833bc45d9ad9f026dfcacc7dd5afc54e702102ea", func := "emendate/emendatelaw15.LayoutIgnoresEmptyLines", spec := "layoutIgnoresEmptyLines", unfollowed := true, recurses := true, apart := false }
def LayoutIgnoresEmptyLinesSaid : Prop := layoutIgnoresEmptyLinesRow.holds Try.pinned (OpenSpec.ofChange layoutIgnoresEmptyLinesSpec)

/-- ITS FALSE NEIGHBOUR: 'it returns false'. Refute it at one input. -/
def layoutIgnoresEmptyLinesWrong : ChangeSpec := { name := "layoutIgnoresEmptyLines", fn := fun _ => fun
  | [d1, d2] => { results := [.lit (.bool false)], args := [d1, d2] }
  | _ => none }
def LayoutIgnoresEmptyLinesWrongFalsely : Prop := layoutIgnoresEmptyLinesRow.holds Try.pinned (OpenSpec.ofChange layoutIgnoresEmptyLinesWrong)

/-- 'emendatelaw15.LayoutPrefix': WHATEVER THE INPUT: true; the input reads as it did. -/
def layoutPrefixSpec : ChangeSpec := { name := "layoutPrefix", fn := fun _ => fun
  | [d1, d2] => { results := [.lit (.bool true)], args := [d1, d2] }
  | _ => none }
def layoutPrefixRow : OpenClaim := { program := "ytejhgbnpmelgcaa", sum := "1dc27431433af3431ad71a42833bc45d9ad9f026dfcacc7dd5afc54e702102ea", func := "emendate/emendatelaw15.LayoutPrefix", spec := "layoutPrefix", unfollowed := true, recurses := true, apart := false }
def LayoutPrefixSaid : Prop := layoutPrefixRow.holds Try.pinned (OpenSpec.ofChange layoutPrefixSpec)

/-- ITS FALSE NEIGHBOUR: 'it returns false'. Refute it at one input. -/
def layoutPrefixWrong : ChangeSpec := { name := "layoutPrefix", fn := fun _ => fun
  | [d1, d2] => { results := [.lit (.bool false)], args := [d1, d2] }
  | _ => none }
def LayoutPrefixWrongFalsely : Prop := layoutPrefixRow.holds Try.pinned (OpenSpec.ofChange layoutPrefixWrong)

/- THE SECOND FORM. 'bulk': how many values and letters a reading holds, each counted each time it is reached (what is shared counts as often as it is met; a slice's spare places count too). A statement '..UptoSaid' is the law's where the arguments, and the package variables that the reading takes, are together of bulk at most 1048576: NARROWER than '..Said'. Prove '..Said' where nothing that the law and all that it calls make is longer than what came in: it says more and counts as full. Else prove '..UptoSaid'. A law counts once. -/
mutual
def uptoBulk {H : Type} : DataW H → Nat
  | .lit (.string bytes) => bytes.length + 1
  | .lit _ => 1
  | .nil => 1
  | .ptr d => uptoBulk d + 1
  | .slice elems spare => uptoBulkAll elems + uptoBulkAll spare + 1
  | .agg parts => uptoBulkAll parts + 1
  | .iface _ d => uptoBulk d + 1
  | .map entries => uptoBulkEntries entries + 1
  | .held _ => 1
def uptoBulkAll {H : Type} : List (DataW H) → Nat
  | [] => 0
  | d :: r => uptoBulk d + uptoBulkAll r
def uptoBulkEntries {H : Type} : List (Lit × DataW H) → Nat
  | [] => 0
  | x :: r => uptoBulkEntry x + uptoBulkEntries r
def uptoBulkEntry {H : Type} : Lit × DataW H → Nat
  | (.string bytes, d) => bytes.length + uptoBulk d + 1
  | (_, d) => uptoBulk d + 1
 end
def uptoSmall : (H : Type) → List (DataW H) → Bool := fun _ ds => decide (uptoBulkAll ds ≤ 1048576)
def OpenSpec.upto (s : _root_.Go.ChangeSpec) : _root_.Go.OpenSpec := { _root_.Go.OpenSpec.ofChange s with cond := some uptoSmall }

/-- 'emendatelaw15.LayoutApplyMatchesReference', WHERE WHAT IT READS IS OF BULK AT MOST 1048576: true; the input reads as it did. -/
def layoutApplyMatchesReferenceUptoRow : OpenClaim := { program := "ytejhgbnpmelgcaa", sum := "1dc27431433af3431ad71a42833bc45d9ad9f026dfcacc7dd5afc54e702102ea", func := "emendate/emendatelaw15.LayoutApplyMatchesReference", spec := "layoutApplyMatchesReference", unfollowed := true, recurses := true, apart := false, narrowed := true }
def LayoutApplyMatchesReferenceUptoSaid : Prop := layoutApplyMatchesReferenceUptoRow.holds Try.pinned (OpenSpec.upto layoutApplyMatchesReferenceSpec)

/-- 'emendatelaw15.LayoutBalanced', WHERE WHAT IT READS IS OF BULK AT MOST 1048576: true; the input reads as it did. -/
def layoutBalancedUptoRow : OpenClaim := { program := "ytejhgbnpmelgcaa", sum := "1dc27431433af3431ad71a42833bc45d9ad9f026dfcacc7dd5afc54e702102ea", func := "emendate/emendatelaw15.LayoutBalanced", spec := "layoutBalanced", unfollowed := true, recurses := true, apart := false, narrowed := true }
def LayoutBalancedUptoSaid : Prop := layoutBalancedUptoRow.holds Try.pinned (OpenSpec.upto layoutBalancedSpec)

/-- 'emendatelaw15.LayoutStripRestores', WHERE WHAT IT READS IS OF BULK AT MOST 1048576: true; the input reads as it did. -/
def layoutStripRestoresUptoRow : OpenClaim := { program := "ytejhgbnpmelgcaa", sum := "1dc27431433af3431ad71a42833bc45d9ad9f026dfcacc7dd5afc54e702102ea", func := "emendate/emendatelaw15.LayoutStripRestores", spec := "layoutStripRestores", unfollowed := true, recurses := true, apart := false, narrowed := true }
def LayoutStripRestoresUptoSaid : Prop := layoutStripRestoresUptoRow.holds Try.pinned (OpenSpec.upto layoutStripRestoresSpec)

/-- 'emendatelaw15.LayoutStripMatchesReference', WHERE WHAT IT READS IS OF BULK AT MOST 1048576: true; the input reads as it did. -/
def layoutStripMatchesReferenceUptoRow : OpenClaim := { program := "ytejhgbnpmelgcaa", sum := "1dc27431433af3431ad71a42833bc45d9ad9f026dfcacc7dd5afc54e702102ea", func := "emendate/emendatelaw15.LayoutStripMatchesReference", spec := "layoutStripMatchesReference", unfollowed := true, recurses := true, apart := false, narrowed := true }
def LayoutStripMatchesReferenceUptoSaid : Prop := layoutStripMatchesReferenceUptoRow.holds Try.pinned (OpenSpec.upto layoutStripMatchesReferenceSpec)

/-- 'emendatelaw15.LayoutSeparatesLines', WHERE WHAT IT READS IS OF BULK AT MOST 1048576: true; the input reads as it did. -/
def layoutSeparatesLinesUptoRow : OpenClaim := { program := "ytejhgbnpmelgcaa", sum := "1dc27431433af3431ad71a42833bc45d9ad9f026dfcacc7dd5afc54e702102ea", func := "emendate/emendatelaw15.LayoutSeparatesLines", spec := "layoutSeparatesLines", unfollowed := true, recurses := true, apart := false, narrowed := true }
def LayoutSeparatesLinesUptoSaid : Prop := layoutSeparatesLinesUptoRow.holds Try.pinned (OpenSpec.upto layoutSeparatesLinesSpec)

/-- 'emendatelaw15.LayoutIgnoresEmptyLines', WHERE WHAT IT READS IS OF BULK AT MOST 1048576: true; the input reads as it did. -/
def layoutIgnoresEmptyLinesUptoRow : OpenClaim := { program := "ytejhgbnpmelgcaa", sum := "1dc27431433af3431ad71a42833bc45d9ad9f026dfcacc7dd5afc54e702102ea", func := "emendate/emendatelaw15.LayoutIgnoresEmptyLines", spec := "layoutIgnoresEmptyLines", unfollowed := true, recurses := true, apart := false, narrowed := true }
def LayoutIgnoresEmptyLinesUptoSaid : Prop := layoutIgnoresEmptyLinesUptoRow.holds Try.pinned (OpenSpec.upto layoutIgnoresEmptyLinesSpec)

/-- 'emendatelaw15.LayoutPrefix', WHERE WHAT IT READS IS OF BULK AT MOST 1048576: true; the input reads as it did. -/
def layoutPrefixUptoRow : OpenClaim := { program := "ytejhgbnpmelgcaa", sum := "1dc27431433af3431ad71a42833bc45d9ad9f026dfcacc7dd5afc54e702102ea", func := "emendate/emendatelaw15.LayoutPrefix", spec := "layoutPrefix", unfollowed := true, recurses := true, apart := false, narrowed := true }
def LayoutPrefixUptoSaid : Prop := layoutPrefixUptoRow.holds Try.pinned (OpenSpec.upto layoutPrefixSpec)

end Rows
end Go.Proofs.Ytejhgbnpmelgcaa
