/-
  DERIVED. GIVEN WITH THE SEED: THE CARDS: each row of YtfiponokimbeeaaGreatDoorRows.lean that lists a variable, with what it lists TIED to the program's text (the seventh form; the later family's looks); each row that meets fmt, with fmt's text TOLD by the authors' own Lean function (tested against real Go, not proved from fmt's source: count such statements apart). THE CARD IS WHAT COUNTS. Prove the row's statement (the work); the ties are given (YtfiponokimbeeaaGreatDoorTie.lean); close each card by the builder's one call (the guide's Derived/Test/ToyasCard.lean, 'card_holds'). Laid BY PROGRAM, IN A SANDBOX (cutbox-door.mjs). By AI agents, Wed Nov 11 2026. No macro, syntax, notation, axiom, sorry.
-/
import Derived.Test.YtfiponokimbeeaaGreatDoorRows
import GoSem.ClaimSeven
namespace Go.Proofs.YtfiponokimbeeaaGreatDoor
namespace Rows

/-- THE TIED CARD OF 'circalaw21.PrintersAlike'. -/
def printersAlikeCard : Claim7 := { stood := { row := printersAlikeRow, standIns := [], harness := (true, "103fdb187453396a0d7eacfb2f795483bfee20d753dcf137d2a201ccaa431c00"), looks := true }, kinds := [], alts := [], laidByText := true, laidKinds := [.data, .data, .data, .data, .sentinel, .sentinel, .data, .data, .data, .pinned], laidTests := true, laidLooks := .later }
def PrintersAlikeCardSaid : Prop := Claim7.holds Tryz.pinned (.plain (OpenSpec.ofChange printersAlikeSpec)) printersAlikeCard

/-- THE TIED CARD OF 'circalaw21.PrintersKnown'. -/
def printersKnownCard : Claim7 := { stood := { row := printersKnownRow, standIns := [], harness := (true, "103fdb187453396a0d7eacfb2f795483bfee20d753dcf137d2a201ccaa431c00"), looks := true }, kinds := [], alts := [], laidByText := true, laidKinds := [.data, .data, .data, .data, .sentinel, .sentinel, .data, .data, .data, .pinned], laidTests := true, laidLooks := .later }
def PrintersKnownCardSaid : Prop := Claim7.holds Tryz.pinned (.plain (OpenSpec.ofChange printersKnownSpec)) printersKnownCard

/-- THE TIED CARD OF 'circalaw22.LevelsKnown'. -/
def levelsKnownCard : Claim7 := { stood := { row := levelsKnownRow, standIns := [], harness := (true, "103fdb187453396a0d7eacfb2f795483bfee20d753dcf137d2a201ccaa431c00"), looks := true }, kinds := [], alts := [], laidByText := true, laidKinds := [.data, .data, .data, .data, .sentinel, .sentinel, .data, .data, .data, .pinned], laidTests := true, laidLooks := .later }
def LevelsKnownCardSaid : Prop := Claim7.holds Tryz.pinned (.plain (OpenSpec.ofChange levelsKnownSpec)) levelsKnownCard

/-- THE TIED CARD OF 'circatop.TopInterval'. -/
def topIntervalCard : Claim7 := { stood := { row := topIntervalRow, standIns := [], harness := (true, "103fdb187453396a0d7eacfb2f795483bfee20d753dcf137d2a201ccaa431c00"), looks := true }, kinds := [], alts := [], laidByText := true, laidKinds := [.data, .data, .data, .data, .sentinel, .sentinel, .data, .data, .data, .pinned], laidTests := true, laidLooks := .later }
def TopIntervalCardSaid : Prop := Claim7.holds Tryz.pinned (.plain (OpenSpec.ofChange topIntervalSpec)) topIntervalCard

/-- THE SECOND FORM's CARD OF 'circalaw21.PrintersAlike'. -/
def printersAlikeUptoCard : Claim7 := { stood := { row := printersAlikeUptoRow, standIns := [], harness := (true, "103fdb187453396a0d7eacfb2f795483bfee20d753dcf137d2a201ccaa431c00"), looks := true }, kinds := [], alts := [], laidByText := true, laidKinds := [.data, .data, .data, .data, .sentinel, .sentinel, .data, .data, .data, .pinned], laidTests := true, laidLooks := .later }
def PrintersAlikeUptoCardSaid : Prop := Claim7.holds Tryz.pinned (.plain (OpenSpec.upto printersAlikeSpec)) printersAlikeUptoCard

/-- THE SECOND FORM's CARD OF 'circalaw21.PrintersKnown'. -/
def printersKnownUptoCard : Claim7 := { stood := { row := printersKnownUptoRow, standIns := [], harness := (true, "103fdb187453396a0d7eacfb2f795483bfee20d753dcf137d2a201ccaa431c00"), looks := true }, kinds := [], alts := [], laidByText := true, laidKinds := [.data, .data, .data, .data, .sentinel, .sentinel, .data, .data, .data, .pinned], laidTests := true, laidLooks := .later }
def PrintersKnownUptoCardSaid : Prop := Claim7.holds Tryz.pinned (.plain (OpenSpec.upto printersKnownSpec)) printersKnownUptoCard

/-- THE SECOND FORM's CARD OF 'circalaw22.LevelsKnown'. -/
def levelsKnownUptoCard : Claim7 := { stood := { row := levelsKnownUptoRow, standIns := [], harness := (true, "103fdb187453396a0d7eacfb2f795483bfee20d753dcf137d2a201ccaa431c00"), looks := true }, kinds := [], alts := [], laidByText := true, laidKinds := [.data, .data, .data, .data, .sentinel, .sentinel, .data, .data, .data, .pinned], laidTests := true, laidLooks := .later }
def LevelsKnownUptoCardSaid : Prop := Claim7.holds Tryz.pinned (.plain (OpenSpec.upto levelsKnownSpec)) levelsKnownUptoCard

/-- THE SECOND FORM's CARD OF 'circatop.TopInterval'. -/
def topIntervalUptoCard : Claim7 := { stood := { row := topIntervalUptoRow, standIns := [], harness := (true, "103fdb187453396a0d7eacfb2f795483bfee20d753dcf137d2a201ccaa431c00"), looks := true }, kinds := [], alts := [], laidByText := true, laidKinds := [.data, .data, .data, .data, .sentinel, .sentinel, .data, .data, .data, .pinned], laidTests := true, laidLooks := .later }
def TopIntervalUptoCardSaid : Prop := Claim7.holds Tryz.pinned (.plain (OpenSpec.upto topIntervalSpec)) topIntervalUptoCard
end Rows
end Go.Proofs.YtfiponokimbeeaaGreatDoor
