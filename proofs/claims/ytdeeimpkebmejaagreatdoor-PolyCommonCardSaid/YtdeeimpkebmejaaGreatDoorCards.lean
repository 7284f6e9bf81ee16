/-
  DERIVED. GIVEN WITH THE SEED: THE CARDS: each row of YtdeeimpkebmejaaGreatDoorRows.lean that lists a variable, with what it lists TIED to the program's text (the seventh form; the later family's looks); each row that meets fmt, with fmt's text TOLD by the authors' own Lean function (tested against real Go, not proved from fmt's source: count such statements apart). THE CARD IS WHAT COUNTS. Prove the row's statement (the work); the ties are given (YtdeeimpkebmejaaGreatDoorTie.lean); close each card by the builder's one call (the guide's Derived/Test/ToyasCard.lean, 'card_holds'). Laid BY PROGRAM, IN A SANDBOX (cutbox-door.mjs). By AI agents, Wed Nov 11 2026. No macro, syntax, notation, axiom, sorry.
-/
import Derived.Test.YtdeeimpkebmejaaGreatDoorRows
import GoSem.ClaimSeven
namespace Go.Proofs.YtdeeimpkebmejaaGreatDoor
namespace Rows

/-- THE TIED CARD OF 'workpiecelaw07.PolyCommon'. -/
def polyCommonCard : Claim7 := { stood := { row := polyCommonRow, standIns := [], harness := (true, "942d1fe7eb4440006f668c155966b06c4106ccaba203b2f30c7b4bf48a243c9d"), looks := true }, kinds := [], alts := [], laidByText := true, laidKinds := [.data, .data, .data, .data, .sentinel, .sentinel, .pinned], laidTests := true, laidLooks := .later }
def PolyCommonCardSaid : Prop := Claim7.holds Tryz.pinned (.plain (OpenSpec.ofChange polyCommonSpec)) polyCommonCard

/-- THE SECOND FORM's CARD OF 'workpiecelaw07.PolyCommon'. -/
def polyCommonUptoCard : Claim7 := { stood := { row := polyCommonUptoRow, standIns := [], harness := (true, "942d1fe7eb4440006f668c155966b06c4106ccaba203b2f30c7b4bf48a243c9d"), looks := true }, kinds := [], alts := [], laidByText := true, laidKinds := [.data, .data, .data, .data, .sentinel, .sentinel, .pinned], laidTests := true, laidLooks := .later }
def PolyCommonUptoCardSaid : Prop := Claim7.holds Tryz.pinned (.plain (OpenSpec.upto polyCommonSpec)) polyCommonUptoCard
end Rows
end Go.Proofs.YtdeeimpkebmejaaGreatDoor
