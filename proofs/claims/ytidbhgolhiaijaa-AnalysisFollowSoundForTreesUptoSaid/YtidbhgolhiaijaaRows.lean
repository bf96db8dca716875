/-
  NARROWER THAN 'FOR EVERY INPUT', by the rows' own cells (each row's printed sentence says how): AnalysisSoundForTrees: loops · AnalysisFollowSoundForTrees: loops.
  DERIVED. THE GIVEN ROWS OF THIS SEAT. 7 by the template 'for every input the law returns true; each argument reads behind the call as it read before'; 0 by the template 'total and deterministic' (their statements: YtidbhgolhiaijaaTotals.lean).
  GIVEN WITH THE SEED: the statements are not yours to turn. If you find one false, say at which input.
  Laid BY PROGRAM, IN A SANDBOX (cutbox-rows.mjs): the forced cells as the released guide's own fill.sh prints them over the translation a1ae318bfb0c3f52… (all of the seat's roots in one cut). By AI agents, Wed Nov 11 2026. No macro, syntax, notation, axiom, sorry.
-/
import Derived.Test.YtidbhgolhiaijaaChecked
import GoSem.Claim
import GoSem.ClaimJoined
import GoSem.ClaimMapViews
import Derived.JoinedTies
import Derived.KernelRfl
namespace Go.Proofs.Ytidbhgolhiaijaa
/- THE CELL 'sum', in the pinned program and in every row, IS THE sha256 OF THE DUMP (.gsa) THAT YtidbhgolhiaijaaProg.lean LOADS. Nothing in Lean hashes anything: it is a label: what it is worth is what the hold of that sum in a sandbox is worth. -/
noncomputable def Try.pinned : Pinned := { name := "ytidbhgolhiaijaa", sum := "a1ae318bfb0c3f52588e66b8f293222e25fecfd0d64cb56f969dff4a482ddd80", checked := Try.checked }
namespace Rows
def none {H : Type} : Left H := { results := [], args := [] }

/-- 'emendatelaw21.AnalysisNullable': WHATEVER THE INPUT: true; the input reads as it did. -/
def analysisNullableSpec : ChangeSpec := { name := "analysisNullable", fn := fun _ => fun
  | [d] => { results := [.lit (.bool true)], args := [d] }
  | _ => none }
def analysisNullableRow : OpenClaim := { program := "ytidbhgolhiaijaa", sum := "a1ae318bfb0c3f52588e66b8f293222e25fecfd0d64cb56f969dff4a482ddd80", func := "emendate/emendatelaw21.AnalysisNullable", spec := "analysisNullable", unfollowed := true, recurses := true, apart := false }
def AnalysisNullableSaid : Prop := analysisNullableRow.holds Try.pinned (OpenSpec.ofChange analysisNullableSpec)

/-- ITS FALSE NEIGHBOUR: 'it returns false'. Refute it at one input. -/
def analysisNullableWrong : ChangeSpec := { name := "analysisNullable", fn := fun _ => fun
  | [d] => { results := [.lit (.bool false)], args := [d] }
  | _ => none }
def AnalysisNullableWrongFalsely : Prop := analysisNullableRow.holds Try.pinned (OpenSpec.ofChange analysisNullableWrong)

/-- 'emendatelaw21.AnalysisProductiveAndReachable': WHATEVER THE INPUT: true; the input reads as it did. -/
def analysisProductiveAndReachableSpec : ChangeSpec := { name := "analysisProductiveAndReachable", fn := fun _ => fun
  | [d] => { results := [.lit (.bool true)], args := [d] }
  | _ => none }
def analysisProductiveAndReachableRow : OpenClaim := { program := "ytidbhgolhiaijaa", sum := "a1ae318bfb0c3f52588e66b8f293222e25fecfd0d64cb56f969dff4a482ddd80", func := "emendate/emendatelaw21.AnalysisProductiveAndReachable", spec := "analysisProductiveAndReachable", unfollowed := true, recurses := true, apart := false }
def AnalysisProductiveAndReachableSaid : Prop := analysisProductiveAndReachableRow.holds Try.pinned (OpenSpec.ofChange analysisProductiveAndReachableSpec)

/-- ITS FALSE NEIGHBOUR: 'it returns false'. Refute it at one input. -/
def analysisProductiveAndReachableWrong : ChangeSpec := { name := "analysisProductiveAndReachable", fn := fun _ => fun
  | [d] => { results := [.lit (.bool false)], args := [d] }
  | _ => none }
def AnalysisProductiveAndReachableWrongFalsely : Prop := analysisProductiveAndReachableRow.holds Try.pinned (OpenSpec.ofChange analysisProductiveAndReachableWrong)

/-- 'emendatelaw21.AnalysisCyclic': WHATEVER THE INPUT: true; the input reads as it did. -/
def analysisCyclicSpec : ChangeSpec := { name := "analysisCyclic", fn := fun _ => fun
  | [d] => { results := [.lit (.bool true)], args := [d] }
  | _ => none }
def analysisCyclicRow : OpenClaim := { program := "ytidbhgolhiaijaa", sum := "a1ae318bfb0c3f52588e66b8f293222e25fecfd0d64cb56f969dff4a482ddd80", func := "emendate/emendatelaw21.AnalysisCyclic", spec := "analysisCyclic", unfollowed := true, recurses := true, apart := false }
def AnalysisCyclicSaid : Prop := analysisCyclicRow.holds Try.pinned (OpenSpec.ofChange analysisCyclicSpec)

/-- ITS FALSE NEIGHBOUR: 'it returns false'. Refute it at one input. -/
def analysisCyclicWrong : ChangeSpec := { name := "analysisCyclic", fn := fun _ => fun
  | [d] => { results := [.lit (.bool false)], args := [d] }
  | _ => none }
def AnalysisCyclicWrongFalsely : Prop := analysisCyclicRow.holds Try.pinned (OpenSpec.ofChange analysisCyclicWrong)

/-- 'emendatelaw21.AnalysisFirstAndFollow': WHATEVER THE INPUT: true; the input reads as it did. -/
def analysisFirstAndFollowSpec : ChangeSpec := { name := "analysisFirstAndFollow", fn := fun _ => fun
  | [d] => { results := [.lit (.bool true)], args := [d] }
  | _ => none }
def analysisFirstAndFollowRow : OpenClaim := { program := "ytidbhgolhiaijaa", sum := "a1ae318bfb0c3f52588e66b8f293222e25fecfd0d64cb56f969dff4a482ddd80", func := "emendate/emendatelaw21.AnalysisFirstAndFollow", spec := "analysisFirstAndFollow", unfollowed := true, recurses := true, apart := false }
def AnalysisFirstAndFollowSaid : Prop := analysisFirstAndFollowRow.holds Try.pinned (OpenSpec.ofChange analysisFirstAndFollowSpec)

/-- ITS FALSE NEIGHBOUR: 'it returns false'. Refute it at one input. -/
def analysisFirstAndFollowWrong : ChangeSpec := { name := "analysisFirstAndFollow", fn := fun _ => fun
  | [d] => { results := [.lit (.bool false)], args := [d] }
  | _ => none }
def AnalysisFirstAndFollowWrongFalsely : Prop := analysisFirstAndFollowRow.holds Try.pinned (OpenSpec.ofChange analysisFirstAndFollowWrong)

/-- 'emendatelaw21.AnalysisSoundForTrees': WHATEVER THE INPUT: true; the input reads as it did. -/
def analysisSoundForTreesSpec : ChangeSpec := { name := "analysisSoundForTrees", fn := fun _ => fun
  | [d1, d2] => { results := [.lit (.bool true)], args := [d1, d2] }
  | _ => none }
def analysisSoundForTreesRow : OpenClaim := { program := "ytidbhgolhiaijaa", sum := "a1ae318bfb0c3f52588e66b8f293222e25fecfd0d64cb56f969dff4a482ddd80", func := "emendate/emendatelaw21.AnalysisSoundForTrees", spec := "analysisSoundForTrees", unfollowed := true, recurses := true, loops := true, apart := false }
def AnalysisSoundForTreesSaid : Prop := analysisSoundForTreesRow.holds Try.pinned (OpenSpec.ofChange analysisSoundForTreesSpec)

/-- ITS FALSE NEIGHBOUR: 'it returns false'. Refute it at one input. -/
def analysisSoundForTreesWrong : ChangeSpec := { name := "analysisSoundForTrees", fn := fun _ => fun
  | [d1, d2] => { results := [.lit (.bool false)], args := [d1, d2] }
  | _ => none }
def AnalysisSoundForTreesWrongFalsely : Prop := analysisSoundForTreesRow.holds Try.pinned (OpenSpec.ofChange analysisSoundForTreesWrong)

/-- 'emendatelaw21.AnalysisFollowSoundForTrees': WHATEVER THE INPUT: true; the input reads as it did. -/
def analysisFollowSoundForTreesSpec : ChangeSpec := { name := "analysisFollowSoundForTrees", fn := fun _ => fun
  | [d1, d2] => { results := [.lit (.bool true)], args := [d1, d2] }
  | _ => none }
def analysisFollowSoundForTreesRow : OpenClaim := { program := "ytidbhgolhiaijaa", sum := "a1ae318bfb0c3f52588e66b8f293222e25fecfd0d64cb56f969dff4a482ddd80", func := "emendate/emendatelaw21.AnalysisFollowSoundForTrees", spec := "analysisFollowSoundForTrees", unfollowed := true, recurses := true, loops := true, apart := false }
def AnalysisFollowSoundForTreesSaid : Prop := analysisFollowSoundForTreesRow.holds Try.pinned (OpenSpec.ofChange analysisFollowSoundForTreesSpec)

/-- ITS FALSE NEIGHBOUR: 'it returns false'. Refute it at one input. -/
def analysisFollowSoundForTreesWrong : ChangeSpec := { name := "analysisFollowSoundForTrees", fn := fun _ => fun
  | [d1, d2] => { results := [.lit (.bool false)], args := [d1, d2] }
  | _ => none }
def AnalysisFollowSoundForTreesWrongFalsely : Prop := analysisFollowSoundForTreesRow.holds Try.pinned (OpenSpec.ofChange analysisFollowSoundForTreesWrong)

/-- 'emendatelaw21.AnalysisMoreRules': WHATEVER THE INPUT: true; the input reads as it did. -/
def analysisMoreRulesSpec : ChangeSpec := { name := "analysisMoreRules", fn := fun _ => fun
  | [d1, d2] => { results := [.lit (.bool true)], args := [d1, d2] }
  | _ => none }
def analysisMoreRulesRow : OpenClaim := { program := "ytidbhgolhiaijaa", sum := "a1ae318bfb0c3f52588e66b8f293222e25fecfd0d64cb56f969dff4a482ddd80", func := "emendate/emendatelaw21.AnalysisMoreRules", spec := "analysisMoreRules", unfollowed := true, recurses := true, apart := false }
def AnalysisMoreRulesSaid : Prop := analysisMoreRulesRow.holds Try.pinned (OpenSpec.ofChange analysisMoreRulesSpec)

/-- ITS FALSE NEIGHBOUR: 'it returns false'. Refute it at one input. -/
def analysisMoreRulesWrong : ChangeSpec := { name := "analysisMoreRules", fn := fun _ => fun
  | [d1, d2] => { results := [.lit (.bool false)], args := [d1, d2] }
  | _ => none }
def AnalysisMoreRulesWrongFalsely : Prop := analysisMoreRulesRow.holds Try.pinned (OpenSpec.ofChange analysisMoreRulesWrong)

/- THE SECOND FORM. 'bulk': how many values and letters a reading holds, each counted each time it is reached (what is shared counts as often as it is met; a slice's spare places count too). A statement '..UptoSaid' is the law's where the arguments, and the package variables that the reading takes, are together of bulk at most 1048576: NARROWER than '..Said'. Prove '..Said' where nothing that the law and all that it calls make is longer than what came in: it says more and counts as full. Else prove '..UptoSaid'. A law counts once. -/
mutual
def uptoBulk {H : Type} : DataW H → Nat
  | .lit (.string bytes) => bytes.length + 1
  | .lit _ => 1
  | .nil => 1
  | .ptr d => uptoBulk d + 1
  | .slice elems spare => uptoBulkAll elems + uptoBulkAll spare + 1
  | .agg parts => uptoBulkAll parts + 1
  | .iface _ d => uptoBulk d + 1
  | .map entries => uptoBulkEntries entries + 1
  | .held _ => 1
def uptoBulkAll {H : Type} : List (DataW H) → Nat
  | [] => 0
  | d :: r => uptoBulk d + uptoBulkAll r
def uptoBulkEntries {H : Type} : List (Lit × DataW H) → Nat
  | [] => 0
  | x :: r => uptoBulkEntry x + uptoBulkEntries r
def uptoBulkEntry {H : Type} : Lit × DataW H → Nat
  | (.string bytes, d) => bytes.length + uptoBulk d + 1
  | (_, d) => uptoBulk d + 1
 end
def uptoSmall : (H : Type) → List (DataW H) → Bool := fun _ ds => decide (uptoBulkAll ds ≤ 1048576)
def OpenSpec.upto (s : _root_.Go.ChangeSpec) : _root_.Go.OpenSpec := { _root_.Go.OpenSpec.ofChange s with cond := some uptoSmall }

/-- 'emendatelaw21.AnalysisNullable', WHERE WHAT IT READS IS OF BULK AT MOST 1048576: true; the input reads as it did. -/
def analysisNullableUptoRow : OpenClaim := { program := "ytidbhgolhiaijaa", sum := "a1ae318bfb0c3f52588e66b8f293222e25fecfd0d64cb56f969dff4a482ddd80", func := "emendate/emendatelaw21.AnalysisNullable", spec := "analysisNullable", unfollowed := true, recurses := true, apart := false, narrowed := true }
def AnalysisNullableUptoSaid : Prop := analysisNullableUptoRow.holds Try.pinned (OpenSpec.upto analysisNullableSpec)

/-- 'emendatelaw21.AnalysisProductiveAndReachable', WHERE WHAT IT READS IS OF BULK AT MOST 1048576: true; the input reads as it did. -/
def analysisProductiveAndReachableUptoRow : OpenClaim := { program := "ytidbhgolhiaijaa", sum := "a1ae318bfb0c3f52588e66b8f293222e25fecfd0d64cb56f969dff4a482ddd80", func := "emendate/emendatelaw21.AnalysisProductiveAndReachable", spec := "analysisProductiveAndReachable", unfollowed := true, recurses := true, apart := false, narrowed := true }
def AnalysisProductiveAndReachableUptoSaid : Prop := analysisProductiveAndReachableUptoRow.holds Try.pinned (OpenSpec.upto analysisProductiveAndReachableSpec)

/-- 'emendatelaw21.AnalysisCyclic', WHERE WHAT IT READS IS OF BULK AT MOST 1048576: true; the input reads as it did. -/
def analysisCyclicUptoRow : OpenClaim := { program := "ytidbhgolhiaijaa", sum := "a1ae318bfb0c3f52588e66b8f293222e25fecfd0d64cb56f969dff4a482ddd80", func := "emendate/emendatelaw21.AnalysisCyclic", spec := "analysisCyclic", unfollowed := true, recurses := true, apart := false, narrowed := true }
def AnalysisCyclicUptoSaid : Prop := analysisCyclicUptoRow.holds Try.pinned (OpenSpec.upto analysisCyclicSpec)

/-- 'emendatelaw21.AnalysisFirstAndFollow', WHERE WHAT IT READS IS OF BULK AT MOST 1048576: true; the input reads as it did. -/
def analysisFirstAndFollowUptoRow : OpenClaim := { program := "ytidbhgolhiaijaa", sum := "a1ae318bfb0c3f52588e66b8f293222e25fecfd0d64cb56f969dff4a482ddd80", func := "emendate/emendatelaw21.AnalysisFirstAndFollow", spec := "analysisFirstAndFollow", unfollowed := true, recurses := true, apart := false, narrowed := true }
def AnalysisFirstAndFollowUptoSaid : Prop := analysisFirstAndFollowUptoRow.holds Try.pinned (OpenSpec.upto analysisFirstAndFollowSpec)

/-- 'emendatelaw21.AnalysisSoundForTrees', WHERE WHAT IT READS IS OF BULK AT MOST 1048576: true; the input reads as it did. -/
def analysisSoundForTreesUptoRow : OpenClaim := { program := "ytidbhgolhiaijaa", sum := "a1ae318bfb0c3f52588e66b8f293222e25fecfd0d64cb56f969dff4a482ddd80", func := "emendate/emendatelaw21.AnalysisSoundForTrees", spec := "analysisSoundForTrees", unfollowed := true, recurses := true, loops := true, apart := false, narrowed := true }
def AnalysisSoundForTreesUptoSaid : Prop := analysisSoundForTreesUptoRow.holds Try.pinned (OpenSpec.upto analysisSoundForTreesSpec)

/-- 'emendatelaw21.AnalysisFollowSoundForTrees', WHERE WHAT IT READS IS OF BULK AT MOST 1048576: true; the input reads as it did. -/
def analysisFollowSoundForTreesUptoRow : OpenClaim := { program := "ytidbhgolhiaijaa", sum := "a1ae318bfb0c3f52588e66b8f293222e25fecfd0d64cb56f969dff4a482ddd80", func := "emendate/emendatelaw21.AnalysisFollowSoundForTrees", spec := "analysisFollowSoundForTrees", unfollowed := true, recurses := true, loops := true, apart := false, narrowed := true }
def AnalysisFollowSoundForTreesUptoSaid : Prop := analysisFollowSoundForTreesUptoRow.holds Try.pinned (OpenSpec.upto analysisFollowSoundForTreesSpec)

/-- 'emendatelaw21.AnalysisMoreRules', WHERE WHAT IT READS IS OF BULK AT MOST 1048576: true; the input reads as it did. -/
def analysisMoreRulesUptoRow : OpenClaim := { program := "ytidbhgolhiaijaa", sum := "a1ae318bfb0c3f52588e66b8f293222e25fecfd0d64cb56f969dff4a482ddd80", func := "emendate/emendatelaw21.AnalysisMoreRules", spec := "analysisMoreRules", unfollowed := true, recurses := true, apart := false, narrowed := true }
def AnalysisMoreRulesUptoSaid : Prop := analysisMoreRulesUptoRow.holds Try.pinned (OpenSpec.upto analysisMoreRulesSpec)

end Rows
end Go.Proofs.Ytidbhgolhiaijaa
