/-
  DERIVED. GIVEN WITH THE SEED: THE CARDS: each row of YthemneooekobkabGreatDoorRows.lean that lists a variable, with what it lists TIED to the program's text (the seventh form; the later family's looks); each row that meets fmt, with fmt's text TOLD by the authors' own Lean function (tested against real Go, not proved from fmt's source: count such statements apart). THE CARD IS WHAT COUNTS. Prove the row's statement (the work); the ties are given (YthemneooekobkabGreatDoorTie.lean); close each card by the builder's one call (the guide's Derived/Test/ToyasCard.lean, 'card_holds'). Laid BY PROGRAM, IN A SANDBOX (cutbox-door.mjs). By AI agents, Wed Nov 11 2026. No macro, syntax, notation, axiom, sorry.
-/
import Derived.Test.YthemneooekobkabGreatDoorRows
import GoSem.ClaimSeven
namespace Go.Proofs.YthemneooekobkabGreatDoor
namespace Rows

/-- THE TIED CARD OF 'circalaw21.PrintersCanonical'. -/
def printersCanonicalCard : Claim7 := { stood := { row := printersCanonicalRow, standIns := [], harness := (true, "42ec552b753a74c5f40d462292ba5d9588822c34d3fa548241b2b962fc888ac2"), looks := true }, kinds := [], alts := [], laidByText := true, laidKinds := [.data, .data, .data, .data, .sentinel, .sentinel, .data, .data, .data, .pinned], laidTests := true, laidLooks := .later }
def PrintersCanonicalCardSaid : Prop := Claim7.holds Tryz.pinned (.plain (OpenSpec.ofChange printersCanonicalSpec)) printersCanonicalCard

/-- THE TIED CARD OF 'circalaw22.LevelsText'. -/
def levelsTextCard : Claim7 := { stood := { row := levelsTextRow, standIns := [], harness := (true, "42ec552b753a74c5f40d462292ba5d9588822c34d3fa548241b2b962fc888ac2"), looks := true }, kinds := [], alts := [], laidByText := true, laidKinds := [.data, .data, .data, .data, .sentinel, .sentinel, .data, .data, .data, .pinned], laidTests := true, laidLooks := .later }
def LevelsTextCardSaid : Prop := Claim7.holds Tryz.pinned (.plain (OpenSpec.ofChange levelsTextSpec)) levelsTextCard

/-- THE TIED CARD OF 'circalaw22.LevelsDate'. -/
def levelsDateCard : Claim7 := { stood := { row := levelsDateRow, standIns := [], harness := (true, "42ec552b753a74c5f40d462292ba5d9588822c34d3fa548241b2b962fc888ac2"), looks := true }, kinds := [], alts := [], laidByText := true, laidKinds := [.data, .data, .data, .data, .sentinel, .sentinel, .data, .data, .data, .pinned], laidTests := true, laidLooks := .later }
def LevelsDateCardSaid : Prop := Claim7.holds Tryz.pinned (.plain (OpenSpec.ofChange levelsDateSpec)) levelsDateCard

/-- THE TIED CARD OF 'circalaw22.LevelsLevel'. -/
def levelsLevelCard : Claim7 := { stood := { row := levelsLevelRow, standIns := [], harness := (true, "42ec552b753a74c5f40d462292ba5d9588822c34d3fa548241b2b962fc888ac2"), looks := true }, kinds := [], alts := [], laidByText := true, laidKinds := [.data, .data, .data, .data, .sentinel, .sentinel, .data, .data, .data, .pinned], laidTests := true, laidLooks := .later }
def LevelsLevelCardSaid : Prop := Claim7.holds Tryz.pinned (.plain (OpenSpec.ofChange levelsLevelSpec)) levelsLevelCard

/-- THE SECOND FORM's CARD OF 'circalaw21.PrintersCanonical'. -/
def printersCanonicalUptoCard : Claim7 := { stood := { row := printersCanonicalUptoRow, standIns := [], harness := (true, "42ec552b753a74c5f40d462292ba5d9588822c34d3fa548241b2b962fc888ac2"), looks := true }, kinds := [], alts := [], laidByText := true, laidKinds := [.data, .data, .data, .data, .sentinel, .sentinel, .data, .data, .data, .pinned], laidTests := true, laidLooks := .later }
def PrintersCanonicalUptoCardSaid : Prop := Claim7.holds Tryz.pinned (.plain (OpenSpec.upto printersCanonicalSpec)) printersCanonicalUptoCard

/-- THE SECOND FORM's CARD OF 'circalaw22.LevelsText'. -/
def levelsTextUptoCard : Claim7 := { stood := { row := levelsTextUptoRow, standIns := [], harness := (true, "42ec552b753a74c5f40d462292ba5d9588822c34d3fa548241b2b962fc888ac2"), looks := true }, kinds := [], alts := [], laidByText := true, laidKinds := [.data, .data, .data, .data, .sentinel, .sentinel, .data, .data, .data, .pinned], laidTests := true, laidLooks := .later }
def LevelsTextUptoCardSaid : Prop := Claim7.holds Tryz.pinned (.plain (OpenSpec.upto levelsTextSpec)) levelsTextUptoCard

/-- THE SECOND FORM's CARD OF 'circalaw22.LevelsDate'. -/
def levelsDateUptoCard : Claim7 := { stood := { row := levelsDateUptoRow, standIns := [], harness := (true, "42ec552b753a74c5f40d462292ba5d9588822c34d3fa548241b2b962fc888ac2"), looks := true }, kinds := [], alts := [], laidByText := true, laidKinds := [.data, .data, .data, .data, .sentinel, .sentinel, .data, .data, .data, .pinned], laidTests := true, laidLooks := .later }
def LevelsDateUptoCardSaid : Prop := Claim7.holds Tryz.pinned (.plain (OpenSpec.upto levelsDateSpec)) levelsDateUptoCard

/-- THE SECOND FORM's CARD OF 'circalaw22.LevelsLevel'. -/
def levelsLevelUptoCard : Claim7 := { stood := { row := levelsLevelUptoRow, standIns := [], harness := (true, "42ec552b753a74c5f40d462292ba5d9588822c34d3fa548241b2b962fc888ac2"), looks := true }, kinds := [], alts := [], laidByText := true, laidKinds := [.data, .data, .data, .data, .sentinel, .sentinel, .data, .data, .data, .pinned], laidTests := true, laidLooks := .later }
def LevelsLevelUptoCardSaid : Prop := Claim7.holds Tryz.pinned (.plain (OpenSpec.upto levelsLevelSpec)) levelsLevelUptoCard
end Rows
end Go.Proofs.YthemneooekobkabGreatDoor
