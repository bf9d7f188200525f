/-
  DERIVED. GIVEN WITH THE SEED: THE CARDS: each row of YtplhepcdmkbioaaGreatDoorRows.lean that lists a variable, with what it lists TIED to the program's text (the seventh form; the later family's looks); each row that meets fmt, with fmt's text TOLD by the authors' own Lean function (tested against real Go, not proved from fmt's source: count such statements apart). THE CARD IS WHAT COUNTS. Prove the row's statement (the work); the ties are given (YtplhepcdmkbioaaGreatDoorTie.lean); close each card by the builder's one call (the guide's Derived/Test/ToyasCard.lean, 'card_holds'). Laid BY PROGRAM, IN A SANDBOX (cutbox-door.mjs). By AI agents, Wed Nov 11 2026. No macro, syntax, notation, axiom, sorry.
-/
import Derived.Test.YtplhepcdmkbioaaGreatDoorRows
import GoSem.ClaimSeven
namespace Go.Proofs.YtplhepcdmkbioaaGreatDoor
namespace Rows

/-- THE TIED CARD OF 'circalaw17.BoundsParse'. -/
def boundsParseCard : Claim7 := { stood := { row := boundsParseRow, standIns := [], harness := (true, "0fec9c7afddc7cca0260b3654f8c245aad4a9c5220629a3b12e30d7e15944024"), looks := true }, kinds := [], alts := [], laidByText := true, laidKinds := [.data, .data, .data, .data, .sentinel, .sentinel, .data, .data, .data, .pinned], laidTests := true, laidLooks := .later }
def BoundsParseCardSaid : Prop := Claim7.holds Tryz.pinned (.plain (OpenSpec.ofChange boundsParseSpec)) boundsParseCard

/-- THE SECOND FORM's CARD OF 'circalaw17.BoundsParse'. -/
def boundsParseUptoCard : Claim7 := { stood := { row := boundsParseUptoRow, standIns := [], harness := (true, "0fec9c7afddc7cca0260b3654f8c245aad4a9c5220629a3b12e30d7e15944024"), looks := true }, kinds := [], alts := [], laidByText := true, laidKinds := [.data, .data, .data, .data, .sentinel, .sentinel, .data, .data, .data, .pinned], laidTests := true, laidLooks := .later }
def BoundsParseUptoCardSaid : Prop := Claim7.holds Tryz.pinned (.plain (OpenSpec.upto boundsParseSpec)) boundsParseUptoCard
end Rows
end Go.Proofs.YtplhepcdmkbioaaGreatDoor
