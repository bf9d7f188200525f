/-
  DERIVED. GIVEN WITH THE SEED: THE CARDS: each row of YtfpfdfkhnecdjaaGreatDoorRows.lean that lists a variable, with what it lists TIED to the program's text (the seventh form; the later family's looks); each row that meets fmt, with fmt's text TOLD by the authors' own Lean function (tested against real Go, not proved from fmt's source: count such statements apart). THE CARD IS WHAT COUNTS. Prove the row's statement (the work); the ties are given (YtfpfdfkhnecdjaaGreatDoorTie.lean); close each card by the builder's one call (the guide's Derived/Test/ToyasCard.lean, 'card_holds'). Laid BY PROGRAM, IN A SANDBOX (cutbox-door.mjs). By AI agents, Wed Nov 11 2026. No macro, syntax, notation, axiom, sorry.
-/
import Derived.Test.YtfpfdfkhnecdjaaGreatDoorRows
import GoSem.ClaimSeven
namespace Go.Proofs.YtfpfdfkhnecdjaaGreatDoor
namespace Rows

/-- THE TIED CARD OF 'circalaw16.FillingsAll'. -/
def fillingsAllCard : Claim7 := { stood := { row := fillingsAllRow, standIns := [], harness := (true, "8db240f98a539b18c7e6870aa62a2e650d71005cccf31a4458d17f6eaa5384b1"), looks := true }, kinds := [], alts := [], laidByText := true, laidKinds := [.data, .data, .data, .data, .sentinel, .sentinel, .data, .data, .data, .pinned], laidTests := true, laidLooks := .later }
def FillingsAllCardSaid : Prop := Claim7.holds Tryz.pinned (.plain (OpenSpec.ofChange fillingsAllSpec)) fillingsAllCard

/-- THE TIED CARD OF 'circalaw16.FillingsNear'. -/
def fillingsNearCard : Claim7 := { stood := { row := fillingsNearRow, standIns := [], harness := (true, "8db240f98a539b18c7e6870aa62a2e650d71005cccf31a4458d17f6eaa5384b1"), looks := true }, kinds := [], alts := [], laidByText := true, laidKinds := [.data, .data, .data, .data, .sentinel, .sentinel, .data, .data, .data, .pinned], laidTests := true, laidLooks := .later }
def FillingsNearCardSaid : Prop := Claim7.holds Tryz.pinned (.plain (OpenSpec.ofChange fillingsNearSpec)) fillingsNearCard

/-- THE TIED CARD OF 'circalaw16.FillingsCheck'. -/
def fillingsCheckCard : Claim7 := { stood := { row := fillingsCheckRow, standIns := [], harness := (true, "8db240f98a539b18c7e6870aa62a2e650d71005cccf31a4458d17f6eaa5384b1"), looks := true }, kinds := [], alts := [], laidByText := true, laidKinds := [.data, .data, .data, .data, .sentinel, .sentinel, .data, .data, .data, .pinned], laidTests := true, laidLooks := .later }
def FillingsCheckCardSaid : Prop := Claim7.holds Tryz.pinned (.plain (OpenSpec.ofChange fillingsCheckSpec)) fillingsCheckCard

/-- THE TIED CARD OF 'circalaw16.FillingsParse'. -/
def fillingsParseCard : Claim7 := { stood := { row := fillingsParseRow, standIns := [], harness := (true, "8db240f98a539b18c7e6870aa62a2e650d71005cccf31a4458d17f6eaa5384b1"), looks := true }, kinds := [], alts := [], laidByText := true, laidKinds := [.data, .data, .data, .data, .sentinel, .sentinel, .data, .data, .data, .pinned], laidTests := true, laidLooks := .later }
def FillingsParseCardSaid : Prop := Claim7.holds Tryz.pinned (.plain (OpenSpec.ofChange fillingsParseSpec)) fillingsParseCard

/-- THE TIED CARD OF 'circalaw16.FillingsKnown'. -/
def fillingsKnownCard : Claim7 := { stood := { row := fillingsKnownRow, standIns := [], harness := (true, "8db240f98a539b18c7e6870aa62a2e650d71005cccf31a4458d17f6eaa5384b1"), looks := true }, kinds := [], alts := [], laidByText := true, laidKinds := [.data, .data, .data, .data, .sentinel, .sentinel, .data, .data, .data, .pinned], laidTests := true, laidLooks := .later }
def FillingsKnownCardSaid : Prop := Claim7.holds Tryz.pinned (.plain (OpenSpec.ofChange fillingsKnownSpec)) fillingsKnownCard

/-- THE SECOND FORM's CARD OF 'circalaw16.FillingsAll'. -/
def fillingsAllUptoCard : Claim7 := { stood := { row := fillingsAllUptoRow, standIns := [], harness := (true, "8db240f98a539b18c7e6870aa62a2e650d71005cccf31a4458d17f6eaa5384b1"), looks := true }, kinds := [], alts := [], laidByText := true, laidKinds := [.data, .data, .data, .data, .sentinel, .sentinel, .data, .data, .data, .pinned], laidTests := true, laidLooks := .later }
def FillingsAllUptoCardSaid : Prop := Claim7.holds Tryz.pinned (.plain (OpenSpec.upto fillingsAllSpec)) fillingsAllUptoCard

/-- THE SECOND FORM's CARD OF 'circalaw16.FillingsNear'. -/
def fillingsNearUptoCard : Claim7 := { stood := { row := fillingsNearUptoRow, standIns := [], harness := (true, "8db240f98a539b18c7e6870aa62a2e650d71005cccf31a4458d17f6eaa5384b1"), looks := true }, kinds := [], alts := [], laidByText := true, laidKinds := [.data, .data, .data, .data, .sentinel, .sentinel, .data, .data, .data, .pinned], laidTests := true, laidLooks := .later }
def FillingsNearUptoCardSaid : Prop := Claim7.holds Tryz.pinned (.plain (OpenSpec.upto fillingsNearSpec)) fillingsNearUptoCard

/-- THE SECOND FORM's CARD OF 'circalaw16.FillingsCheck'. -/
def fillingsCheckUptoCard : Claim7 := { stood := { row := fillingsCheckUptoRow, standIns := [], harness := (true, "8db240f98a539b18c7e6870aa62a2e650d71005cccf31a4458d17f6eaa5384b1"), looks := true }, kinds := [], alts := [], laidByText := true, laidKinds := [.data, .data, .data, .data, .sentinel, .sentinel, .data, .data, .data, .pinned], laidTests := true, laidLooks := .later }
def FillingsCheckUptoCardSaid : Prop := Claim7.holds Tryz.pinned (.plain (OpenSpec.upto fillingsCheckSpec)) fillingsCheckUptoCard

/-- THE SECOND FORM's CARD OF 'circalaw16.FillingsParse'. -/
def fillingsParseUptoCard : Claim7 := { stood := { row := fillingsParseUptoRow, standIns := [], harness := (true, "8db240f98a539b18c7e6870aa62a2e650d71005cccf31a4458d17f6eaa5384b1"), looks := true }, kinds := [], alts := [], laidByText := true, laidKinds := [.data, .data, .data, .data, .sentinel, .sentinel, .data, .data, .data, .pinned], laidTests := true, laidLooks := .later }
def FillingsParseUptoCardSaid : Prop := Claim7.holds Tryz.pinned (.plain (OpenSpec.upto fillingsParseSpec)) fillingsParseUptoCard

/-- THE SECOND FORM's CARD OF 'circalaw16.FillingsKnown'. -/
def fillingsKnownUptoCard : Claim7 := { stood := { row := fillingsKnownUptoRow, standIns := [], harness := (true, "8db240f98a539b18c7e6870aa62a2e650d71005cccf31a4458d17f6eaa5384b1"), looks := true }, kinds := [], alts := [], laidByText := true, laidKinds := [.data, .data, .data, .data, .sentinel, .sentinel, .data, .data, .data, .pinned], laidTests := true, laidLooks := .later }
def FillingsKnownUptoCardSaid : Prop := Claim7.holds Tryz.pinned (.plain (OpenSpec.upto fillingsKnownSpec)) fillingsKnownUptoCard
end Rows
end Go.Proofs.YtfpfdfkhnecdjaaGreatDoor
