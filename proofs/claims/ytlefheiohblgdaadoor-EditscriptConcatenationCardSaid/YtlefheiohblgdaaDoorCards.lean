/-
  DERIVED. GIVEN WITH THE SEED: THE CARDS: each row of YtlefheiohblgdaaDoorRows.lean that lists a variable, with what it lists TIED to the program's text (the seventh form; the later family's looks); each row that meets fmt, with fmt's text TOLD by the authors' own Lean function (tested against real Go, not proved from fmt's source: count such statements apart). THE CARD IS WHAT COUNTS. Prove the row's statement (the work); the ties are given (YtlefheiohblgdaaDoorTie.lean); close each card by the builder's one call (the guide's Derived/Test/ToyasCard.lean, 'card_holds'). Laid BY PROGRAM, IN A SANDBOX (cutbox-door.mjs). By AI agents, Wed Nov 11 2026. No macro, syntax, notation, axiom, sorry.
-/
import Derived.Test.YtlefheiohblgdaaDoorRows
import GoSem.ClaimSeven
namespace Go.Proofs.YtlefheiohblgdaaDoor
namespace Rows

/-- THE TIED CARD OF 'emendatelaw36.EditscriptApplyMatchesReference'. -/
def editscriptApplyMatchesReferenceCard : Claim7 := { stood := { row := editscriptApplyMatchesReferenceRow, standIns := [], harness := (true, "7bd5c5ecda92266dfc461737ce209e9d5cba87df88b2681df4c73668f036458e"), looks := false }, kinds := [], alts := [], laidByText := true, laidKinds := [.funcs], laidTests := true, laidLooks := .later }
def EditscriptApplyMatchesReferenceCardSaid : Prop := Claim7.holds Tryd.pinned (.plain (OpenSpec.ofChange editscriptApplyMatchesReferenceSpec)) editscriptApplyMatchesReferenceCard

/-- THE TIED CARD OF 'emendatelaw36.EditscriptDistanceMatchesReference'. -/
def editscriptDistanceMatchesReferenceCard : Claim7 := { stood := { row := editscriptDistanceMatchesReferenceRow, standIns := [], harness := (true, "7bd5c5ecda92266dfc461737ce209e9d5cba87df88b2681df4c73668f036458e"), looks := false }, kinds := [], alts := [], laidByText := true, laidKinds := [.funcs], laidTests := true, laidLooks := .later }
def EditscriptDistanceMatchesReferenceCardSaid : Prop := Claim7.holds Tryd.pinned (.plain (OpenSpec.ofChange editscriptDistanceMatchesReferenceSpec)) editscriptDistanceMatchesReferenceCard

/-- THE TIED CARD OF 'emendatelaw36.EditscriptDistanceIsLowerBound'. -/
def editscriptDistanceIsLowerBoundCard : Claim7 := { stood := { row := editscriptDistanceIsLowerBoundRow, standIns := [], harness := (true, "7bd5c5ecda92266dfc461737ce209e9d5cba87df88b2681df4c73668f036458e"), looks := false }, kinds := [], alts := [], laidByText := true, laidKinds := [.funcs], laidTests := true, laidLooks := .later }
def EditscriptDistanceIsLowerBoundCardSaid : Prop := Claim7.holds Tryd.pinned (.plain (OpenSpec.ofChange editscriptDistanceIsLowerBoundSpec)) editscriptDistanceIsLowerBoundCard

/-- THE TIED CARD OF 'emendatelaw36.EditscriptAlignIsOptimal'. -/
def editscriptAlignIsOptimalCard : Claim7 := { stood := { row := editscriptAlignIsOptimalRow, standIns := [], harness := (true, "7bd5c5ecda92266dfc461737ce209e9d5cba87df88b2681df4c73668f036458e"), looks := false }, kinds := [], alts := [], laidByText := true, laidKinds := [.funcs], laidTests := true, laidLooks := .later }
def EditscriptAlignIsOptimalCardSaid : Prop := Claim7.holds Tryd.pinned (.plain (OpenSpec.ofChange editscriptAlignIsOptimalSpec)) editscriptAlignIsOptimalCard

/-- THE TIED CARD OF 'emendatelaw36.EditscriptAlignIsSmallest'. -/
def editscriptAlignIsSmallestCard : Claim7 := { stood := { row := editscriptAlignIsSmallestRow, standIns := [], harness := (true, "7bd5c5ecda92266dfc461737ce209e9d5cba87df88b2681df4c73668f036458e"), looks := false }, kinds := [], alts := [], laidByText := true, laidKinds := [.funcs], laidTests := true, laidLooks := .later }
def EditscriptAlignIsSmallestCardSaid : Prop := Claim7.holds Tryd.pinned (.plain (OpenSpec.ofChange editscriptAlignIsSmallestSpec)) editscriptAlignIsSmallestCard

/-- THE TIED CARD OF 'emendatelaw36.EditscriptOwnKinds'. -/
def editscriptOwnKindsCard : Claim7 := { stood := { row := editscriptOwnKindsRow, standIns := [], harness := (true, "7bd5c5ecda92266dfc461737ce209e9d5cba87df88b2681df4c73668f036458e"), looks := false }, kinds := [], alts := [], laidByText := true, laidKinds := [.funcs], laidTests := true, laidLooks := .later }
def EditscriptOwnKindsCardSaid : Prop := Claim7.holds Tryd.pinned (.plain (OpenSpec.ofChange editscriptOwnKindsSpec)) editscriptOwnKindsCard

/-- THE TIED CARD OF 'emendatelaw36.EditscriptConcatenation'. -/
def editscriptConcatenationCard : Claim7 := { stood := { row := editscriptConcatenationRow, standIns := [], harness := (true, "7bd5c5ecda92266dfc461737ce209e9d5cba87df88b2681df4c73668f036458e"), looks := false }, kinds := [], alts := [], laidByText := true, laidKinds := [.funcs], laidTests := true, laidLooks := .later }
def EditscriptConcatenationCardSaid : Prop := Claim7.holds Tryd.pinned (.plain (OpenSpec.ofChange editscriptConcatenationSpec)) editscriptConcatenationCard

/-- THE TIED CARD OF 'emendatelaw36.EditscriptOneMore'. -/
def editscriptOneMoreCard : Claim7 := { stood := { row := editscriptOneMoreRow, standIns := [], harness := (true, "7bd5c5ecda92266dfc461737ce209e9d5cba87df88b2681df4c73668f036458e"), looks := false }, kinds := [], alts := [], laidByText := true, laidKinds := [.funcs], laidTests := true, laidLooks := .later }
def EditscriptOneMoreCardSaid : Prop := Claim7.holds Tryd.pinned (.plain (OpenSpec.ofChange editscriptOneMoreSpec)) editscriptOneMoreCard

/-- THE SECOND FORM's CARD OF 'emendatelaw36.EditscriptApplyMatchesReference'. -/
def editscriptApplyMatchesReferenceUptoCard : Claim7 := { stood := { row := editscriptApplyMatchesReferenceUptoRow, standIns := [], harness := (true, "7bd5c5ecda92266dfc461737ce209e9d5cba87df88b2681df4c73668f036458e"), looks := false }, kinds := [], alts := [], laidByText := true, laidKinds := [.funcs], laidTests := true, laidLooks := .later }
def EditscriptApplyMatchesReferenceUptoCardSaid : Prop := Claim7.holds Tryd.pinned (.plain (OpenSpec.upto editscriptApplyMatchesReferenceSpec)) editscriptApplyMatchesReferenceUptoCard

/-- THE SECOND FORM's CARD OF 'emendatelaw36.EditscriptDistanceMatchesReference'. -/
def editscriptDistanceMatchesReferenceUptoCard : Claim7 := { stood := { row := editscriptDistanceMatchesReferenceUptoRow, standIns := [], harness := (true, "7bd5c5ecda92266dfc461737ce209e9d5cba87df88b2681df4c73668f036458e"), looks := false }, kinds := [], alts := [], laidByText := true, laidKinds := [.funcs], laidTests := true, laidLooks := .later }
def EditscriptDistanceMatchesReferenceUptoCardSaid : Prop := Claim7.holds Tryd.pinned (.plain (OpenSpec.upto editscriptDistanceMatchesReferenceSpec)) editscriptDistanceMatchesReferenceUptoCard

/-- THE SECOND FORM's CARD OF 'emendatelaw36.EditscriptDistanceIsLowerBound'. -/
def editscriptDistanceIsLowerBoundUptoCard : Claim7 := { stood := { row := editscriptDistanceIsLowerBoundUptoRow, standIns := [], harness := (true, "7bd5c5ecda92266dfc461737ce209e9d5cba87df88b2681df4c73668f036458e"), looks := false }, kinds := [], alts := [], laidByText := true, laidKinds := [.funcs], laidTests := true, laidLooks := .later }
def EditscriptDistanceIsLowerBoundUptoCardSaid : Prop := Claim7.holds Tryd.pinned (.plain (OpenSpec.upto editscriptDistanceIsLowerBoundSpec)) editscriptDistanceIsLowerBoundUptoCard

/-- THE SECOND FORM's CARD OF 'emendatelaw36.EditscriptAlignIsOptimal'. -/
def editscriptAlignIsOptimalUptoCard : Claim7 := { stood := { row := editscriptAlignIsOptimalUptoRow, standIns := [], harness := (true, "7bd5c5ecda92266dfc461737ce209e9d5cba87df88b2681df4c73668f036458e"), looks := false }, kinds := [], alts := [], laidByText := true, laidKinds := [.funcs], laidTests := true, laidLooks := .later }
def EditscriptAlignIsOptimalUptoCardSaid : Prop := Claim7.holds Tryd.pinned (.plain (OpenSpec.upto editscriptAlignIsOptimalSpec)) editscriptAlignIsOptimalUptoCard

/-- THE SECOND FORM's CARD OF 'emendatelaw36.EditscriptAlignIsSmallest'. -/
def editscriptAlignIsSmallestUptoCard : Claim7 := { stood := { row := editscriptAlignIsSmallestUptoRow, standIns := [], harness := (true, "7bd5c5ecda92266dfc461737ce209e9d5cba87df88b2681df4c73668f036458e"), looks := false }, kinds := [], alts := [], laidByText := true, laidKinds := [.funcs], laidTests := true, laidLooks := .later }
def EditscriptAlignIsSmallestUptoCardSaid : Prop := Claim7.holds Tryd.pinned (.plain (OpenSpec.upto editscriptAlignIsSmallestSpec)) editscriptAlignIsSmallestUptoCard

/-- THE SECOND FORM's CARD OF 'emendatelaw36.EditscriptOwnKinds'. -/
def editscriptOwnKindsUptoCard : Claim7 := { stood := { row := editscriptOwnKindsUptoRow, standIns := [], harness := (true, "7bd5c5ecda92266dfc461737ce209e9d5cba87df88b2681df4c73668f036458e"), looks := false }, kinds := [], alts := [], laidByText := true, laidKinds := [.funcs], laidTests := true, laidLooks := .later }
def EditscriptOwnKindsUptoCardSaid : Prop := Claim7.holds Tryd.pinned (.plain (OpenSpec.upto editscriptOwnKindsSpec)) editscriptOwnKindsUptoCard

/-- THE SECOND FORM's CARD OF 'emendatelaw36.EditscriptConcatenation'. -/
def editscriptConcatenationUptoCard : Claim7 := { stood := { row := editscriptConcatenationUptoRow, standIns := [], harness := (true, "7bd5c5ecda92266dfc461737ce209e9d5cba87df88b2681df4c73668f036458e"), looks := false }, kinds := [], alts := [], laidByText := true, laidKinds := [.funcs], laidTests := true, laidLooks := .later }
def EditscriptConcatenationUptoCardSaid : Prop := Claim7.holds Tryd.pinned (.plain (OpenSpec.upto editscriptConcatenationSpec)) editscriptConcatenationUptoCard

/-- THE SECOND FORM's CARD OF 'emendatelaw36.EditscriptOneMore'. -/
def editscriptOneMoreUptoCard : Claim7 := { stood := { row := editscriptOneMoreUptoRow, standIns := [], harness := (true, "7bd5c5ecda92266dfc461737ce209e9d5cba87df88b2681df4c73668f036458e"), looks := false }, kinds := [], alts := [], laidByText := true, laidKinds := [.funcs], laidTests := true, laidLooks := .later }
def EditscriptOneMoreUptoCardSaid : Prop := Claim7.holds Tryd.pinned (.plain (OpenSpec.upto editscriptOneMoreSpec)) editscriptOneMoreUptoCard
end Rows
end Go.Proofs.YtlefheiohblgdaaDoor
