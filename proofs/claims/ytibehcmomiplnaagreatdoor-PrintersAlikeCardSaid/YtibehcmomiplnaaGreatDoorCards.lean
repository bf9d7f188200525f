/-
  DERIVED. GIVEN WITH THE SEED: THE CARDS: each row of YtibehcmomiplnaaGreatDoorRows.lean that lists a variable, with what it lists TIED to the program's text (the seventh form; the later family's looks); each row that meets fmt, with fmt's text TOLD by the authors' own Lean function (tested against real Go, not proved from fmt's source: count such statements apart). THE CARD IS WHAT COUNTS. Prove the row's statement (the work); the ties are given (YtibehcmomiplnaaGreatDoorTie.lean); close each card by the builder's one call (the guide's Derived/Test/ToyasCard.lean, 'card_holds'). Laid BY PROGRAM, IN A SANDBOX (cutbox-door.mjs). By AI agents, Wed Nov 11 2026. No macro, syntax, notation, axiom, sorry.
-/
import Derived.Test.YtibehcmomiplnaaGreatDoorRows
import GoSem.ClaimSeven
namespace Go.Proofs.YtibehcmomiplnaaGreatDoor
namespace Rows

/-- THE TIED CARD OF 'circalaw21.PrintersAlike'. -/
def printersAlikeCard : Claim7 := { stood := { row := printersAlikeRow, standIns := [], harness := (true, "dee9436567f84bf802a4989b9997b5340071fd749a3e61ae714ae698fbbd195d"), looks := true }, kinds := [], alts := [], laidByText := true, laidKinds := [.data, .data, .data, .data, .sentinel, .sentinel, .data, .data, .data, .pinned], laidTests := true, laidLooks := .later }
def PrintersAlikeCardSaid : Prop := Claim7.holds Tryz.pinned (.plain (OpenSpec.ofChange printersAlikeSpec)) printersAlikeCard

/-- THE SECOND FORM's CARD OF 'circalaw21.PrintersAlike'. -/
def printersAlikeUptoCard : Claim7 := { stood := { row := printersAlikeUptoRow, standIns := [], harness := (true, "dee9436567f84bf802a4989b9997b5340071fd749a3e61ae714ae698fbbd195d"), looks := true }, kinds := [], alts := [], laidByText := true, laidKinds := [.data, .data, .data, .data, .sentinel, .sentinel, .data, .data, .data, .pinned], laidTests := true, laidLooks := .later }
def PrintersAlikeUptoCardSaid : Prop := Claim7.holds Tryz.pinned (.plain (OpenSpec.upto printersAlikeSpec)) printersAlikeUptoCard
end Rows
end Go.Proofs.YtibehcmomiplnaaGreatDoor
