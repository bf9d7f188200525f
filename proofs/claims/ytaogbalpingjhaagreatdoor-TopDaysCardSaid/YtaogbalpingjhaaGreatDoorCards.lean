/-
  DERIVED. GIVEN WITH THE SEED: THE CARDS: each row of YtaogbalpingjhaaGreatDoorRows.lean that lists a variable, with what it lists TIED to the program's text (the seventh form; the later family's looks); each row that meets fmt, with fmt's text TOLD by the authors' own Lean function (tested against real Go, not proved from fmt's source: count such statements apart). THE CARD IS WHAT COUNTS. Prove the row's statement (the work); the ties are given (YtaogbalpingjhaaGreatDoorTie.lean); close each card by the builder's one call (the guide's Derived/Test/ToyasCard.lean, 'card_holds'). Laid BY PROGRAM, IN A SANDBOX (cutbox-door.mjs). By AI agents, Wed Nov 11 2026. No macro, syntax, notation, axiom, sorry.
-/
import Derived.Test.YtaogbalpingjhaaGreatDoorRows
import GoSem.ClaimSeven
namespace Go.Proofs.YtaogbalpingjhaaGreatDoor
namespace Rows

/-- THE TIED CARD OF 'circatop.TopMarks'. -/
def topMarksCard : Claim7 := { stood := { row := topMarksRow, standIns := [], harness := (true, "c5179fc0866638aca4dde507d9962c96db4c8ead3d58fb743c5275c3c4896f4a"), looks := true }, kinds := [], alts := [], laidByText := true, laidKinds := [.data, .data, .data, .data, .sentinel, .sentinel, .data, .data, .data, .pinned], laidTests := true, laidLooks := .later }
def TopMarksCardSaid : Prop := Claim7.holds Tryz.pinned (.plain (OpenSpec.ofChange topMarksSpec)) topMarksCard

/-- THE TIED CARD OF 'circatop.TopDays'. -/
def topDaysCard : Claim7 := { stood := { row := topDaysRow, standIns := [], harness := (true, "c5179fc0866638aca4dde507d9962c96db4c8ead3d58fb743c5275c3c4896f4a"), looks := true }, kinds := [], alts := [], laidByText := true, laidKinds := [.data, .data, .data, .data, .sentinel, .sentinel, .data, .data, .data, .pinned], laidTests := true, laidLooks := .later }
def TopDaysCardSaid : Prop := Claim7.holds Tryz.pinned (.plain (OpenSpec.ofChange topDaysSpec)) topDaysCard

/-- THE SECOND FORM's CARD OF 'circatop.TopMarks'. -/
def topMarksUptoCard : Claim7 := { stood := { row := topMarksUptoRow, standIns := [], harness := (true, "c5179fc0866638aca4dde507d9962c96db4c8ead3d58fb743c5275c3c4896f4a"), looks := true }, kinds := [], alts := [], laidByText := true, laidKinds := [.data, .data, .data, .data, .sentinel, .sentinel, .data, .data, .data, .pinned], laidTests := true, laidLooks := .later }
def TopMarksUptoCardSaid : Prop := Claim7.holds Tryz.pinned (.plain (OpenSpec.upto topMarksSpec)) topMarksUptoCard

/-- THE SECOND FORM's CARD OF 'circatop.TopDays'. -/
def topDaysUptoCard : Claim7 := { stood := { row := topDaysUptoRow, standIns := [], harness := (true, "c5179fc0866638aca4dde507d9962c96db4c8ead3d58fb743c5275c3c4896f4a"), looks := true }, kinds := [], alts := [], laidByText := true, laidKinds := [.data, .data, .data, .data, .sentinel, .sentinel, .data, .data, .data, .pinned], laidTests := true, laidLooks := .later }
def TopDaysUptoCardSaid : Prop := Claim7.holds Tryz.pinned (.plain (OpenSpec.upto topDaysSpec)) topDaysUptoCard
end Rows
end Go.Proofs.YtaogbalpingjhaaGreatDoor
