/-
  DERIVED. GIVEN WITH THE SEED: THE CARDS: each row of YtffndcjmabjhiaaGreatDoorRows.lean that lists a variable, with what it lists TIED to the program's text (the seventh form; the later family's looks); each row that meets fmt, with fmt's text TOLD by the authors' own Lean function (tested against real Go, not proved from fmt's source: count such statements apart). THE CARD IS WHAT COUNTS. Prove the row's statement (the work); the ties are given (YtffndcjmabjhiaaGreatDoorTie.lean); close each card by the builder's one call (the guide's Derived/Test/ToyasCard.lean, 'card_holds'). Laid BY PROGRAM, IN A SANDBOX (cutbox-door.mjs). By AI agents, Wed Nov 11 2026. No macro, syntax, notation, axiom, sorry.
-/
import Derived.Test.YtffndcjmabjhiaaGreatDoorRows
import GoSem.ClaimSeven
namespace Go.Proofs.YtffndcjmabjhiaaGreatDoor
namespace Rows

/-- THE TIED CARD OF 'workpiecelaw07.PolyRoots'. -/
def polyRootsCard : Claim7 := { stood := { row := polyRootsRow, standIns := [], harness := (true, "73a5fc8e8c65dbd7f72069022980fad5cba6abaafa88c786858ac8d16875a3ae"), looks := true }, kinds := [], alts := [], laidByText := true, laidKinds := [.data, .data, .data, .data, .sentinel, .sentinel, .pinned], laidTests := true, laidLooks := .later }
def PolyRootsCardSaid : Prop := Claim7.holds Tryz.pinned (.plain (OpenSpec.ofChange polyRootsSpec)) polyRootsCard

/-- THE TIED CARD OF 'workpiecelaw07.PolyIsolated'. -/
def polyIsolatedCard : Claim7 := { stood := { row := polyIsolatedRow, standIns := [], harness := (true, "73a5fc8e8c65dbd7f72069022980fad5cba6abaafa88c786858ac8d16875a3ae"), looks := true }, kinds := [], alts := [], laidByText := true, laidKinds := [.data, .data, .data, .data, .sentinel, .sentinel, .pinned], laidTests := true, laidLooks := .later }
def PolyIsolatedCardSaid : Prop := Claim7.holds Tryz.pinned (.plain (OpenSpec.ofChange polyIsolatedSpec)) polyIsolatedCard

/-- THE TIED CARD OF 'workpiecelaw07.PolySplit'. -/
def polySplitCard : Claim7 := { stood := { row := polySplitRow, standIns := [], harness := (true, "73a5fc8e8c65dbd7f72069022980fad5cba6abaafa88c786858ac8d16875a3ae"), looks := true }, kinds := [], alts := [], laidByText := true, laidKinds := [.data, .data, .data, .data, .sentinel, .sentinel, .pinned], laidTests := true, laidLooks := .later }
def PolySplitCardSaid : Prop := Claim7.holds Tryz.pinned (.plain (OpenSpec.ofChange polySplitSpec)) polySplitCard

/-- THE TIED CARD OF 'workpiecelaw08.ExprTextMatchesReference'. -/
def exprTextMatchesReferenceCard : Claim7 := { stood := { row := exprTextMatchesReferenceRow, standIns := [], harness := (true, "73a5fc8e8c65dbd7f72069022980fad5cba6abaafa88c786858ac8d16875a3ae"), looks := true }, kinds := [], alts := [], laidByText := true, laidKinds := [.data, .data, .data, .data, .sentinel, .sentinel, .sentinel, .sentinel, .pinned], laidTests := true, laidLooks := .later }
def ExprTextMatchesReferenceCardSaid : Prop := Claim7.holds Tryz.pinned (.plain (OpenSpec.ofChange exprTextMatchesReferenceSpec)) exprTextMatchesReferenceCard

/-- THE TIED CARD OF 'workpiecelaw08.ExprContains'. -/
def exprContainsCard : Claim7 := { stood := { row := exprContainsRow, standIns := [], harness := (true, "73a5fc8e8c65dbd7f72069022980fad5cba6abaafa88c786858ac8d16875a3ae"), looks := true }, kinds := [], alts := [], laidByText := true, laidKinds := [.data, .data, .data, .data, .sentinel, .sentinel, .sentinel, .sentinel, .pinned], laidTests := true, laidLooks := .later }
def ExprContainsCardSaid : Prop := Claim7.holds Tryz.pinned (.plain (OpenSpec.ofChange exprContainsSpec)) exprContainsCard

/-- THE TIED CARD OF 'workpiecelaw08.ExprDepends'. -/
def exprDependsCard : Claim7 := { stood := { row := exprDependsRow, standIns := [], harness := (true, "73a5fc8e8c65dbd7f72069022980fad5cba6abaafa88c786858ac8d16875a3ae"), looks := true }, kinds := [], alts := [], laidByText := true, laidKinds := [.data, .data, .data, .data, .sentinel, .sentinel, .sentinel, .sentinel, .pinned], laidTests := true, laidLooks := .later }
def ExprDependsCardSaid : Prop := Claim7.holds Tryz.pinned (.plain (OpenSpec.ofChange exprDependsSpec)) exprDependsCard

/-- THE TIED CARD OF 'workpiecelaw08.ExprRoundTrip'. -/
def exprRoundTripCard : Claim7 := { stood := { row := exprRoundTripRow, standIns := [], harness := (true, "73a5fc8e8c65dbd7f72069022980fad5cba6abaafa88c786858ac8d16875a3ae"), looks := true }, kinds := [], alts := [], laidByText := true, laidKinds := [.data, .data, .data, .data, .sentinel, .sentinel, .sentinel, .sentinel, .pinned], laidTests := true, laidLooks := .later }
def ExprRoundTripCardSaid : Prop := Claim7.holds Tryz.pinned (.plain (OpenSpec.ofChange exprRoundTripSpec)) exprRoundTripCard

/-- THE TIED CARD OF 'workpiecelaw08.ExprPolynomial'. -/
def exprPolynomialCard : Claim7 := { stood := { row := exprPolynomialRow, standIns := [], harness := (true, "73a5fc8e8c65dbd7f72069022980fad5cba6abaafa88c786858ac8d16875a3ae"), looks := true }, kinds := [], alts := [], laidByText := true, laidKinds := [.data, .data, .data, .data, .sentinel, .sentinel, .sentinel, .sentinel, .pinned], laidTests := true, laidLooks := .later }
def ExprPolynomialCardSaid : Prop := Claim7.holds Tryz.pinned (.plain (OpenSpec.ofChange exprPolynomialSpec)) exprPolynomialCard

/-- THE SECOND FORM's CARD OF 'workpiecelaw07.PolyRoots'. -/
def polyRootsUptoCard : Claim7 := { stood := { row := polyRootsUptoRow, standIns := [], harness := (true, "73a5fc8e8c65dbd7f72069022980fad5cba6abaafa88c786858ac8d16875a3ae"), looks := true }, kinds := [], alts := [], laidByText := true, laidKinds := [.data, .data, .data, .data, .sentinel, .sentinel, .pinned], laidTests := true, laidLooks := .later }
def PolyRootsUptoCardSaid : Prop := Claim7.holds Tryz.pinned (.plain (OpenSpec.upto polyRootsSpec)) polyRootsUptoCard

/-- THE SECOND FORM's CARD OF 'workpiecelaw07.PolyIsolated'. -/
def polyIsolatedUptoCard : Claim7 := { stood := { row := polyIsolatedUptoRow, standIns := [], harness := (true, "73a5fc8e8c65dbd7f72069022980fad5cba6abaafa88c786858ac8d16875a3ae"), looks := true }, kinds := [], alts := [], laidByText := true, laidKinds := [.data, .data, .data, .data, .sentinel, .sentinel, .pinned], laidTests := true, laidLooks := .later }
def PolyIsolatedUptoCardSaid : Prop := Claim7.holds Tryz.pinned (.plain (OpenSpec.upto polyIsolatedSpec)) polyIsolatedUptoCard

/-- THE SECOND FORM's CARD OF 'workpiecelaw07.PolySplit'. -/
def polySplitUptoCard : Claim7 := { stood := { row := polySplitUptoRow, standIns := [], harness := (true, "73a5fc8e8c65dbd7f72069022980fad5cba6abaafa88c786858ac8d16875a3ae"), looks := true }, kinds := [], alts := [], laidByText := true, laidKinds := [.data, .data, .data, .data, .sentinel, .sentinel, .pinned], laidTests := true, laidLooks := .later }
def PolySplitUptoCardSaid : Prop := Claim7.holds Tryz.pinned (.plain (OpenSpec.upto polySplitSpec)) polySplitUptoCard

/-- THE SECOND FORM's CARD OF 'workpiecelaw08.ExprTextMatchesReference'. -/
def exprTextMatchesReferenceUptoCard : Claim7 := { stood := { row := exprTextMatchesReferenceUptoRow, standIns := [], harness := (true, "73a5fc8e8c65dbd7f72069022980fad5cba6abaafa88c786858ac8d16875a3ae"), looks := true }, kinds := [], alts := [], laidByText := true, laidKinds := [.data, .data, .data, .data, .sentinel, .sentinel, .sentinel, .sentinel, .pinned], laidTests := true, laidLooks := .later }
def ExprTextMatchesReferenceUptoCardSaid : Prop := Claim7.holds Tryz.pinned (.plain (OpenSpec.upto exprTextMatchesReferenceSpec)) exprTextMatchesReferenceUptoCard

/-- THE SECOND FORM's CARD OF 'workpiecelaw08.ExprContains'. -/
def exprContainsUptoCard : Claim7 := { stood := { row := exprContainsUptoRow, standIns := [], harness := (true, "73a5fc8e8c65dbd7f72069022980fad5cba6abaafa88c786858ac8d16875a3ae"), looks := true }, kinds := [], alts := [], laidByText := true, laidKinds := [.data, .data, .data, .data, .sentinel, .sentinel, .sentinel, .sentinel, .pinned], laidTests := true, laidLooks := .later }
def ExprContainsUptoCardSaid : Prop := Claim7.holds Tryz.pinned (.plain (OpenSpec.upto exprContainsSpec)) exprContainsUptoCard

/-- THE SECOND FORM's CARD OF 'workpiecelaw08.ExprDepends'. -/
def exprDependsUptoCard : Claim7 := { stood := { row := exprDependsUptoRow, standIns := [], harness := (true, "73a5fc8e8c65dbd7f72069022980fad5cba6abaafa88c786858ac8d16875a3ae"), looks := true }, kinds := [], alts := [], laidByText := true, laidKinds := [.data, .data, .data, .data, .sentinel, .sentinel, .sentinel, .sentinel, .pinned], laidTests := true, laidLooks := .later }
def ExprDependsUptoCardSaid : Prop := Claim7.holds Tryz.pinned (.plain (OpenSpec.upto exprDependsSpec)) exprDependsUptoCard

/-- THE SECOND FORM's CARD OF 'workpiecelaw08.ExprRoundTrip'. -/
def exprRoundTripUptoCard : Claim7 := { stood := { row := exprRoundTripUptoRow, standIns := [], harness := (true, "73a5fc8e8c65dbd7f72069022980fad5cba6abaafa88c786858ac8d16875a3ae"), looks := true }, kinds := [], alts := [], laidByText := true, laidKinds := [.data, .data, .data, .data, .sentinel, .sentinel, .sentinel, .sentinel, .pinned], laidTests := true, laidLooks := .later }
def ExprRoundTripUptoCardSaid : Prop := Claim7.holds Tryz.pinned (.plain (OpenSpec.upto exprRoundTripSpec)) exprRoundTripUptoCard

/-- THE SECOND FORM's CARD OF 'workpiecelaw08.ExprPolynomial'. -/
def exprPolynomialUptoCard : Claim7 := { stood := { row := exprPolynomialUptoRow, standIns := [], harness := (true, "73a5fc8e8c65dbd7f72069022980fad5cba6abaafa88c786858ac8d16875a3ae"), looks := true }, kinds := [], alts := [], laidByText := true, laidKinds := [.data, .data, .data, .data, .sentinel, .sentinel, .sentinel, .sentinel, .pinned], laidTests := true, laidLooks := .later }
def ExprPolynomialUptoCardSaid : Prop := Claim7.holds Tryz.pinned (.plain (OpenSpec.upto exprPolynomialSpec)) exprPolynomialUptoCard
end Rows
end Go.Proofs.YtffndcjmabjhiaaGreatDoor
