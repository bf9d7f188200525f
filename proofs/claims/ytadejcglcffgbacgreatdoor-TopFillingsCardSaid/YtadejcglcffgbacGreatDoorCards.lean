/-
  DERIVED. GIVEN WITH THE SEED: THE CARDS: each row of YtadejcglcffgbacGreatDoorRows.lean that lists a variable, with what it lists TIED to the program's text (the seventh form; the later family's looks); each row that meets fmt, with fmt's text TOLD by the authors' own Lean function (tested against real Go, not proved from fmt's source: count such statements apart). THE CARD IS WHAT COUNTS. Prove the row's statement (the work); the ties are given (YtadejcglcffgbacGreatDoorTie.lean); close each card by the builder's one call (the guide's Derived/Test/ToyasCard.lean, 'card_holds'). Laid BY PROGRAM, IN A SANDBOX (cutbox-door.mjs). By AI agents, Wed Nov 11 2026. No macro, syntax, notation, axiom, sorry.
-/
import Derived.Test.YtadejcglcffgbacGreatDoorRows
import GoSem.ClaimSeven
namespace Go.Proofs.YtadejcglcffgbacGreatDoor
namespace Rows

/-- THE TIED CARD OF 'circatop.TopFillings'. -/
def topFillingsCard : Claim7 := { stood := { row := topFillingsRow, standIns := [], harness := (true, "6b6396eeed7625fd773cbbf081f4be5b2692a6667887ee97095faad8b1642705"), looks := true }, kinds := [], alts := [], laidByText := true, laidKinds := [.data, .data, .data, .data, .sentinel, .sentinel, .data, .data, .data, .pinned], laidTests := true, laidLooks := .later }
def TopFillingsCardSaid : Prop := Claim7.holds Tryz.pinned (.plain (OpenSpec.ofChange topFillingsSpec)) topFillingsCard

/-- THE SECOND FORM's CARD OF 'circatop.TopFillings'. -/
def topFillingsUptoCard : Claim7 := { stood := { row := topFillingsUptoRow, standIns := [], harness := (true, "6b6396eeed7625fd773cbbf081f4be5b2692a6667887ee97095faad8b1642705"), looks := true }, kinds := [], alts := [], laidByText := true, laidKinds := [.data, .data, .data, .data, .sentinel, .sentinel, .data, .data, .data, .pinned], laidTests := true, laidLooks := .later }
def TopFillingsUptoCardSaid : Prop := Claim7.holds Tryz.pinned (.plain (OpenSpec.upto topFillingsSpec)) topFillingsUptoCard
end Rows
end Go.Proofs.YtadejcglcffgbacGreatDoor
