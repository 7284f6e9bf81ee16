/-
  DERIVED. GIVEN WITH THE SEED: THE CARDS: each row of YtaalbmnlpppeaaaGreatDoorRows.lean that lists a variable, with what it lists TIED to the program's text (the seventh form; the later family's looks); each row that meets fmt, with fmt's text TOLD by the authors' own Lean function (tested against real Go, not proved from fmt's source: count such statements apart). THE CARD IS WHAT COUNTS. Prove the row's statement (the work); the ties are given (YtaalbmnlpppeaaaGreatDoorTie.lean); close each card by the builder's one call (the guide's Derived/Test/ToyasCard.lean, 'card_holds'). Laid BY PROGRAM, IN A SANDBOX (cutbox-door.mjs). By AI agents, Wed Nov 11 2026. No macro, syntax, notation, axiom, sorry.
-/
import Derived.Test.YtaalbmnlpppeaaaGreatDoorRows
import GoSem.ClaimSeven
namespace Go.Proofs.YtaalbmnlpppeaaaGreatDoor
namespace Rows

/-- THE TIED CARD OF 'workpiecelaw07.PolyDivided'. -/
def polyDividedCard : Claim7 := { stood := { row := polyDividedRow, standIns := [], harness := (true, "7392f8e80e38b40958c07ca513c45d931d889b039e1ec880fa1fec5c5e1fbf22"), looks := true }, kinds := [], alts := [], laidByText := true, laidKinds := [.data, .data, .data, .data, .sentinel, .sentinel, .pinned], laidTests := true, laidLooks := .later }
def PolyDividedCardSaid : Prop := Claim7.holds Tryz.pinned (.plain (OpenSpec.ofChange polyDividedSpec)) polyDividedCard

/-- THE TIED CARD OF 'workpiecelaw07.PolyDerivative'. -/
def polyDerivativeCard : Claim7 := { stood := { row := polyDerivativeRow, standIns := [], harness := (true, "7392f8e80e38b40958c07ca513c45d931d889b039e1ec880fa1fec5c5e1fbf22"), looks := true }, kinds := [], alts := [], laidByText := true, laidKinds := [.data, .data, .data, .data, .sentinel, .sentinel, .pinned], laidTests := true, laidLooks := .later }
def PolyDerivativeCardSaid : Prop := Claim7.holds Tryz.pinned (.plain (OpenSpec.ofChange polyDerivativeSpec)) polyDerivativeCard

/-- THE TIED CARD OF 'workpiecelaw07.PolyRing'. -/
def polyRingCard : Claim7 := { stood := { row := polyRingRow, standIns := [], harness := (true, "7392f8e80e38b40958c07ca513c45d931d889b039e1ec880fa1fec5c5e1fbf22"), looks := true }, kinds := [], alts := [], laidByText := true, laidKinds := [.data, .data, .data, .data, .sentinel, .sentinel, .pinned], laidTests := true, laidLooks := .later }
def PolyRingCardSaid : Prop := Claim7.holds Tryz.pinned (.plain (OpenSpec.ofChange polyRingSpec)) polyRingCard

/-- THE SECOND FORM's CARD OF 'workpiecelaw07.PolyDivided'. -/
def polyDividedUptoCard : Claim7 := { stood := { row := polyDividedUptoRow, standIns := [], harness := (true, "7392f8e80e38b40958c07ca513c45d931d889b039e1ec880fa1fec5c5e1fbf22"), looks := true }, kinds := [], alts := [], laidByText := true, laidKinds := [.data, .data, .data, .data, .sentinel, .sentinel, .pinned], laidTests := true, laidLooks := .later }
def PolyDividedUptoCardSaid : Prop := Claim7.holds Tryz.pinned (.plain (OpenSpec.upto polyDividedSpec)) polyDividedUptoCard

/-- THE SECOND FORM's CARD OF 'workpiecelaw07.PolyDerivative'. -/
def polyDerivativeUptoCard : Claim7 := { stood := { row := polyDerivativeUptoRow, standIns := [], harness := (true, "7392f8e80e38b40958c07ca513c45d931d889b039e1ec880fa1fec5c5e1fbf22"), looks := true }, kinds := [], alts := [], laidByText := true, laidKinds := [.data, .data, .data, .data, .sentinel, .sentinel, .pinned], laidTests := true, laidLooks := .later }
def PolyDerivativeUptoCardSaid : Prop := Claim7.holds Tryz.pinned (.plain (OpenSpec.upto polyDerivativeSpec)) polyDerivativeUptoCard

/-- THE SECOND FORM's CARD OF 'workpiecelaw07.PolyRing'. -/
def polyRingUptoCard : Claim7 := { stood := { row := polyRingUptoRow, standIns := [], harness := (true, "7392f8e80e38b40958c07ca513c45d931d889b039e1ec880fa1fec5c5e1fbf22"), looks := true }, kinds := [], alts := [], laidByText := true, laidKinds := [.data, .data, .data, .data, .sentinel, .sentinel, .pinned], laidTests := true, laidLooks := .later }
def PolyRingUptoCardSaid : Prop := Claim7.holds Tryz.pinned (.plain (OpenSpec.upto polyRingSpec)) polyRingUptoCard
end Rows
end Go.Proofs.YtaalbmnlpppeaaaGreatDoor
