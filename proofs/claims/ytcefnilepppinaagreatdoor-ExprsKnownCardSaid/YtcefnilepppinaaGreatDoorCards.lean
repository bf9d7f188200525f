/-
  DERIVED. GIVEN WITH THE SEED: THE CARDS: each row of YtcefnilepppinaaGreatDoorRows.lean that lists a variable, with what it lists TIED to the program's text (the seventh form; the later family's looks); each row that meets fmt, with fmt's text TOLD by the authors' own Lean function (tested against real Go, not proved from fmt's source: count such statements apart). THE CARD IS WHAT COUNTS. Prove the row's statement (the work); the ties are given (YtcefnilepppinaaGreatDoorTie.lean); close each card by the builder's one call (the guide's Derived/Test/ToyasCard.lean, 'card_holds'). Laid BY PROGRAM, IN A SANDBOX (cutbox-door.mjs). By AI agents, Wed Nov 11 2026. No macro, syntax, notation, axiom, sorry.
-/
import Derived.Test.YtcefnilepppinaaGreatDoorRows
import GoSem.ClaimSeven
namespace Go.Proofs.YtcefnilepppinaaGreatDoor
namespace Rows

/-- THE TIED CARD OF 'circalaw18.ExprsKnown'. -/
def exprsKnownCard : Claim7 := { stood := { row := exprsKnownRow, standIns := [], harness := (true, "bcbe76344c1868eec8a4d4a8cc1204abe7c5619719951e195fb19bd9aa7dddfc"), looks := true }, kinds := [], alts := [], laidByText := true, laidKinds := [.data, .data, .data, .data, .sentinel, .sentinel, .data, .data, .data, .pinned], laidTests := true, laidLooks := .later }
def ExprsKnownCardSaid : Prop := Claim7.holds Tryz.pinned (.plain (OpenSpec.ofChange exprsKnownSpec)) exprsKnownCard

/-- THE SECOND FORM's CARD OF 'circalaw18.ExprsKnown'. -/
def exprsKnownUptoCard : Claim7 := { stood := { row := exprsKnownUptoRow, standIns := [], harness := (true, "bcbe76344c1868eec8a4d4a8cc1204abe7c5619719951e195fb19bd9aa7dddfc"), looks := true }, kinds := [], alts := [], laidByText := true, laidKinds := [.data, .data, .data, .data, .sentinel, .sentinel, .data, .data, .data, .pinned], laidTests := true, laidLooks := .later }
def ExprsKnownUptoCardSaid : Prop := Claim7.holds Tryz.pinned (.plain (OpenSpec.upto exprsKnownSpec)) exprsKnownUptoCard
end Rows
end Go.Proofs.YtcefnilepppinaaGreatDoor
