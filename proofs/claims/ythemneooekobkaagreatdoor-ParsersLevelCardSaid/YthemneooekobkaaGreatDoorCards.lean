/-
  DERIVED. GIVEN WITH THE SEED: THE CARDS: each row of YthemneooekobkaaGreatDoorRows.lean that lists a variable, with what it lists TIED to the program's text (the seventh form; the later family's looks); each row that meets fmt, with fmt's text TOLD by the authors' own Lean function (tested against real Go, not proved from fmt's source: count such statements apart). THE CARD IS WHAT COUNTS. Prove the row's statement (the work); the ties are given (YthemneooekobkaaGreatDoorTie.lean); close each card by the builder's one call (the guide's Derived/Test/ToyasCard.lean, 'card_holds'). Laid BY PROGRAM, IN A SANDBOX (cutbox-door.mjs). By AI agents, Wed Nov 11 2026. No macro, syntax, notation, axiom, sorry.
-/
import Derived.Test.YthemneooekobkaaGreatDoorRows
import GoSem.ClaimSeven
namespace Go.Proofs.YthemneooekobkaaGreatDoor
namespace Rows

/-- THE TIED CARD OF 'circalaw20.ParsersLevel'. -/
def parsersLevelCard : Claim7 := { stood := { row := parsersLevelRow, standIns := [], harness := (true, "a258a02d0fd783e7e456c12a8d4bd63c83b24c08ebc3ab0a55083e483de74b41"), looks := true }, kinds := [], alts := [], laidByText := true, laidKinds := [.data, .data, .data, .data, .sentinel, .sentinel, .data, .data, .data, .pinned], laidTests := true, laidLooks := .later }
def ParsersLevelCardSaid : Prop := Claim7.holds Tryz.pinned (.plain (OpenSpec.ofChange parsersLevelSpec)) parsersLevelCard

/-- THE TIED CARD OF 'circalaw20.ParsersText'. -/
def parsersTextCard : Claim7 := { stood := { row := parsersTextRow, standIns := [], harness := (true, "a258a02d0fd783e7e456c12a8d4bd63c83b24c08ebc3ab0a55083e483de74b41"), looks := true }, kinds := [], alts := [], laidByText := true, laidKinds := [.data, .data, .data, .data, .sentinel, .sentinel, .data, .data, .data, .pinned], laidTests := true, laidLooks := .later }
def ParsersTextCardSaid : Prop := Claim7.holds Tryz.pinned (.plain (OpenSpec.ofChange parsersTextSpec)) parsersTextCard

/-- THE TIED CARD OF 'circalaw21.PrintersFormat'. -/
def printersFormatCard : Claim7 := { stood := { row := printersFormatRow, standIns := [], harness := (true, "a258a02d0fd783e7e456c12a8d4bd63c83b24c08ebc3ab0a55083e483de74b41"), looks := true }, kinds := [], alts := [], laidByText := true, laidKinds := [.data, .data, .data, .data, .sentinel, .sentinel, .data, .data, .data, .pinned], laidTests := true, laidLooks := .later }
def PrintersFormatCardSaid : Prop := Claim7.holds Tryz.pinned (.plain (OpenSpec.ofChange printersFormatSpec)) printersFormatCard

/-- THE TIED CARD OF 'circalaw21.PrintersErrors'. -/
def printersErrorsCard : Claim7 := { stood := { row := printersErrorsRow, standIns := [], harness := (true, "a258a02d0fd783e7e456c12a8d4bd63c83b24c08ebc3ab0a55083e483de74b41"), looks := true }, kinds := [], alts := [], laidByText := true, laidKinds := [.data, .data, .data, .data, .sentinel, .sentinel, .data, .data, .data, .pinned], laidTests := true, laidLooks := .later }
def PrintersErrorsCardSaid : Prop := Claim7.holds Tryz.pinned (.plain (OpenSpec.ofChange printersErrorsSpec)) printersErrorsCard

/-- THE SECOND FORM's CARD OF 'circalaw20.ParsersLevel'. -/
def parsersLevelUptoCard : Claim7 := { stood := { row := parsersLevelUptoRow, standIns := [], harness := (true, "a258a02d0fd783e7e456c12a8d4bd63c83b24c08ebc3ab0a55083e483de74b41"), looks := true }, kinds := [], alts := [], laidByText := true, laidKinds := [.data, .data, .data, .data, .sentinel, .sentinel, .data, .data, .data, .pinned], laidTests := true, laidLooks := .later }
def ParsersLevelUptoCardSaid : Prop := Claim7.holds Tryz.pinned (.plain (OpenSpec.upto parsersLevelSpec)) parsersLevelUptoCard

/-- THE SECOND FORM's CARD OF 'circalaw20.ParsersText'. -/
def parsersTextUptoCard : Claim7 := { stood := { row := parsersTextUptoRow, standIns := [], harness := (true, "a258a02d0fd783e7e456c12a8d4bd63c83b24c08ebc3ab0a55083e483de74b41"), looks := true }, kinds := [], alts := [], laidByText := true, laidKinds := [.data, .data, .data, .data, .sentinel, .sentinel, .data, .data, .data, .pinned], laidTests := true, laidLooks := .later }
def ParsersTextUptoCardSaid : Prop := Claim7.holds Tryz.pinned (.plain (OpenSpec.upto parsersTextSpec)) parsersTextUptoCard

/-- THE SECOND FORM's CARD OF 'circalaw21.PrintersFormat'. -/
def printersFormatUptoCard : Claim7 := { stood := { row := printersFormatUptoRow, standIns := [], harness := (true, "a258a02d0fd783e7e456c12a8d4bd63c83b24c08ebc3ab0a55083e483de74b41"), looks := true }, kinds := [], alts := [], laidByText := true, laidKinds := [.data, .data, .data, .data, .sentinel, .sentinel, .data, .data, .data, .pinned], laidTests := true, laidLooks := .later }
def PrintersFormatUptoCardSaid : Prop := Claim7.holds Tryz.pinned (.plain (OpenSpec.upto printersFormatSpec)) printersFormatUptoCard

/-- THE SECOND FORM's CARD OF 'circalaw21.PrintersErrors'. -/
def printersErrorsUptoCard : Claim7 := { stood := { row := printersErrorsUptoRow, standIns := [], harness := (true, "a258a02d0fd783e7e456c12a8d4bd63c83b24c08ebc3ab0a55083e483de74b41"), looks := true }, kinds := [], alts := [], laidByText := true, laidKinds := [.data, .data, .data, .data, .sentinel, .sentinel, .data, .data, .data, .pinned], laidTests := true, laidLooks := .later }
def PrintersErrorsUptoCardSaid : Prop := Claim7.holds Tryz.pinned (.plain (OpenSpec.upto printersErrorsSpec)) printersErrorsUptoCard
end Rows
end Go.Proofs.YthemneooekobkaaGreatDoor
