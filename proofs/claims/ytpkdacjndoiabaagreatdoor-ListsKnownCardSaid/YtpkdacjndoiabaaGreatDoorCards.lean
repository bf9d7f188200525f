/-
  DERIVED. GIVEN WITH THE SEED: THE CARDS: each row of YtpkdacjndoiabaaGreatDoorRows.lean that lists a variable, with what it lists TIED to the program's text (the seventh form; the later family's looks); each row that meets fmt, with fmt's text TOLD by the authors' own Lean function (tested against real Go, not proved from fmt's source: count such statements apart). THE CARD IS WHAT COUNTS. Prove the row's statement (the work); the ties are given (YtpkdacjndoiabaaGreatDoorTie.lean); close each card by the builder's one call (the guide's Derived/Test/ToyasCard.lean, 'card_holds'). Laid BY PROGRAM, IN A SANDBOX (cutbox-door.mjs). By AI agents, Wed Nov 11 2026. No macro, syntax, notation, axiom, sorry.
-/
import Derived.Test.YtpkdacjndoiabaaGreatDoorRows
import GoSem.ClaimSeven
namespace Go.Proofs.YtpkdacjndoiabaaGreatDoor
namespace Rows

/-- THE TIED CARD OF 'circalaw19.ListsParse'. -/
def listsParseCard : Claim7 := { stood := { row := listsParseRow, standIns := [], harness := (true, "3a0e3b8ce09c83e2e4518dd0c152f7ba13ee9fd7a7ecbd155bf496e93c16c7fb"), looks := true }, kinds := [], alts := [], laidByText := true, laidKinds := [.data, .data, .data, .data, .sentinel, .sentinel, .data, .data, .data, .pinned], laidTests := true, laidLooks := .later }
def ListsParseCardSaid : Prop := Claim7.holds Tryz.pinned (.plain (OpenSpec.ofChange listsParseSpec)) listsParseCard

/-- THE TIED CARD OF 'circalaw19.ListsText'. -/
def listsTextCard : Claim7 := { stood := { row := listsTextRow, standIns := [], harness := (true, "3a0e3b8ce09c83e2e4518dd0c152f7ba13ee9fd7a7ecbd155bf496e93c16c7fb"), looks := true }, kinds := [], alts := [], laidByText := true, laidKinds := [.data, .data, .data, .data, .sentinel, .sentinel, .data, .data, .data, .pinned], laidTests := true, laidLooks := .later }
def ListsTextCardSaid : Prop := Claim7.holds Tryz.pinned (.plain (OpenSpec.ofChange listsTextSpec)) listsTextCard

/-- THE TIED CARD OF 'circalaw19.ListsErrors'. -/
def listsErrorsCard : Claim7 := { stood := { row := listsErrorsRow, standIns := [], harness := (true, "3a0e3b8ce09c83e2e4518dd0c152f7ba13ee9fd7a7ecbd155bf496e93c16c7fb"), looks := true }, kinds := [], alts := [], laidByText := true, laidKinds := [.data, .data, .data, .data, .sentinel, .sentinel, .data, .data, .data, .pinned], laidTests := true, laidLooks := .later }
def ListsErrorsCardSaid : Prop := Claim7.holds Tryz.pinned (.plain (OpenSpec.ofChange listsErrorsSpec)) listsErrorsCard

/-- THE TIED CARD OF 'circalaw19.ListsKnown'. -/
def listsKnownCard : Claim7 := { stood := { row := listsKnownRow, standIns := [], harness := (true, "3a0e3b8ce09c83e2e4518dd0c152f7ba13ee9fd7a7ecbd155bf496e93c16c7fb"), looks := true }, kinds := [], alts := [], laidByText := true, laidKinds := [.data, .data, .data, .data, .sentinel, .sentinel, .data, .data, .data, .pinned], laidTests := true, laidLooks := .later }
def ListsKnownCardSaid : Prop := Claim7.holds Tryz.pinned (.plain (OpenSpec.ofChange listsKnownSpec)) listsKnownCard

/-- THE SECOND FORM's CARD OF 'circalaw19.ListsParse'. -/
def listsParseUptoCard : Claim7 := { stood := { row := listsParseUptoRow, standIns := [], harness := (true, "3a0e3b8ce09c83e2e4518dd0c152f7ba13ee9fd7a7ecbd155bf496e93c16c7fb"), looks := true }, kinds := [], alts := [], laidByText := true, laidKinds := [.data, .data, .data, .data, .sentinel, .sentinel, .data, .data, .data, .pinned], laidTests := true, laidLooks := .later }
def ListsParseUptoCardSaid : Prop := Claim7.holds Tryz.pinned (.plain (OpenSpec.upto listsParseSpec)) listsParseUptoCard

/-- THE SECOND FORM's CARD OF 'circalaw19.ListsText'. -/
def listsTextUptoCard : Claim7 := { stood := { row := listsTextUptoRow, standIns := [], harness := (true, "3a0e3b8ce09c83e2e4518dd0c152f7ba13ee9fd7a7ecbd155bf496e93c16c7fb"), looks := true }, kinds := [], alts := [], laidByText := true, laidKinds := [.data, .data, .data, .data, .sentinel, .sentinel, .data, .data, .data, .pinned], laidTests := true, laidLooks := .later }
def ListsTextUptoCardSaid : Prop := Claim7.holds Tryz.pinned (.plain (OpenSpec.upto listsTextSpec)) listsTextUptoCard

/-- THE SECOND FORM's CARD OF 'circalaw19.ListsErrors'. -/
def listsErrorsUptoCard : Claim7 := { stood := { row := listsErrorsUptoRow, standIns := [], harness := (true, "3a0e3b8ce09c83e2e4518dd0c152f7ba13ee9fd7a7ecbd155bf496e93c16c7fb"), looks := true }, kinds := [], alts := [], laidByText := true, laidKinds := [.data, .data, .data, .data, .sentinel, .sentinel, .data, .data, .data, .pinned], laidTests := true, laidLooks := .later }
def ListsErrorsUptoCardSaid : Prop := Claim7.holds Tryz.pinned (.plain (OpenSpec.upto listsErrorsSpec)) listsErrorsUptoCard

/-- THE SECOND FORM's CARD OF 'circalaw19.ListsKnown'. -/
def listsKnownUptoCard : Claim7 := { stood := { row := listsKnownUptoRow, standIns := [], harness := (true, "3a0e3b8ce09c83e2e4518dd0c152f7ba13ee9fd7a7ecbd155bf496e93c16c7fb"), looks := true }, kinds := [], alts := [], laidByText := true, laidKinds := [.data, .data, .data, .data, .sentinel, .sentinel, .data, .data, .data, .pinned], laidTests := true, laidLooks := .later }
def ListsKnownUptoCardSaid : Prop := Claim7.holds Tryz.pinned (.plain (OpenSpec.upto listsKnownSpec)) listsKnownUptoCard
end Rows
end Go.Proofs.YtpkdacjndoiabaaGreatDoor
