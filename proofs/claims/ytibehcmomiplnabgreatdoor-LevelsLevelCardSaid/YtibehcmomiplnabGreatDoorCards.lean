/-
  DERIVED. GIVEN WITH THE SEED: THE CARDS: each row of YtibehcmomiplnabGreatDoorRows.lean that lists a variable, with what it lists TIED to the program's text (the seventh form; the later family's looks); each row that meets fmt, with fmt's text TOLD by the authors' own Lean function (tested against real Go, not proved from fmt's source: count such statements apart). THE CARD IS WHAT COUNTS. Prove the row's statement (the work); the ties are given (YtibehcmomiplnabGreatDoorTie.lean); close each card by the builder's one call (the guide's Derived/Test/ToyasCard.lean, 'card_holds'). Laid BY PROGRAM, IN A SANDBOX (cutbox-door.mjs). By AI agents, Wed Nov 11 2026. No macro, syntax, notation, axiom, sorry.
-/
import Derived.Test.YtibehcmomiplnabGreatDoorRows
import GoSem.ClaimSeven
namespace Go.Proofs.YtibehcmomiplnabGreatDoor
namespace Rows

/-- THE TIED CARD OF 'circalaw22.LevelsLevel'. -/
def levelsLevelCard : Claim7 := { stood := { row := levelsLevelRow, standIns := [], harness := (true, "5faacff4a5b75e80e818ca324e7b9b881c4ccca587e09825c1bf0cb469db5b7b"), looks := true }, kinds := [], alts := [], laidByText := true, laidKinds := [.data, .data, .data, .data, .sentinel, .sentinel, .data, .data, .data, .pinned], laidTests := true, laidLooks := .later }
def LevelsLevelCardSaid : Prop := Claim7.holds Tryz.pinned (.plain (OpenSpec.ofChange levelsLevelSpec)) levelsLevelCard

/-- THE SECOND FORM's CARD OF 'circalaw22.LevelsLevel'. -/
def levelsLevelUptoCard : Claim7 := { stood := { row := levelsLevelUptoRow, standIns := [], harness := (true, "5faacff4a5b75e80e818ca324e7b9b881c4ccca587e09825c1bf0cb469db5b7b"), looks := true }, kinds := [], alts := [], laidByText := true, laidKinds := [.data, .data, .data, .data, .sentinel, .sentinel, .data, .data, .data, .pinned], laidTests := true, laidLooks := .later }
def LevelsLevelUptoCardSaid : Prop := Claim7.holds Tryz.pinned (.plain (OpenSpec.upto levelsLevelSpec)) levelsLevelUptoCard
end Rows
end Go.Proofs.YtibehcmomiplnabGreatDoor
