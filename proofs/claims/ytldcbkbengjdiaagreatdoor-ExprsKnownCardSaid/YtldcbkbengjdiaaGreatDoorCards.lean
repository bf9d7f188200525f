/-
  DERIVED. GIVEN WITH THE SEED: THE CARDS: each row of YtldcbkbengjdiaaGreatDoorRows.lean that lists a variable, with what it lists TIED to the program's text (the seventh form; the later family's looks); each row that meets fmt, with fmt's text TOLD by the authors' own Lean function (tested against real Go, not proved from fmt's source: count such statements apart). THE CARD IS WHAT COUNTS. Prove the row's statement (the work); the ties are given (YtldcbkbengjdiaaGreatDoorTie.lean); close each card by the builder's one call (the guide's Derived/Test/ToyasCard.lean, 'card_holds'). Laid BY PROGRAM, IN A SANDBOX (cutbox-door.mjs). By AI agents, Wed Nov 11 2026. No macro, syntax, notation, axiom, sorry.
-/
import Derived.Test.YtldcbkbengjdiaaGreatDoorRows
import GoSem.ClaimSeven
namespace Go.Proofs.YtldcbkbengjdiaaGreatDoor
namespace Rows

/-- THE TIED CARD OF 'circalaw15.DateformsParse'. -/
def dateformsParseCard : Claim7 := { stood := { row := dateformsParseRow, standIns := [], harness := (true, "f941fa2a2912a2341021807c14a143db6067d9fb63dda3d2b58dbbdf2da2a7b7"), looks := true }, kinds := [], alts := [], laidByText := true, laidKinds := [.data, .data, .data, .data, .sentinel, .sentinel, .data, .data, .data, .pinned], laidTests := true, laidLooks := .later }
def DateformsParseCardSaid : Prop := Claim7.holds Tryz.pinned (.plain (OpenSpec.ofChange dateformsParseSpec)) dateformsParseCard

/-- THE TIED CARD OF 'circalaw15.DateformsText'. -/
def dateformsTextCard : Claim7 := { stood := { row := dateformsTextRow, standIns := [], harness := (true, "f941fa2a2912a2341021807c14a143db6067d9fb63dda3d2b58dbbdf2da2a7b7"), looks := true }, kinds := [], alts := [], laidByText := true, laidKinds := [.data, .data, .data, .data, .sentinel, .sentinel, .data, .data, .data, .pinned], laidTests := true, laidLooks := .later }
def DateformsTextCardSaid : Prop := Claim7.holds Tryz.pinned (.plain (OpenSpec.ofChange dateformsTextSpec)) dateformsTextCard

/-- THE TIED CARD OF 'circalaw15.DateformsRead'. -/
def dateformsReadCard : Claim7 := { stood := { row := dateformsReadRow, standIns := [], harness := (true, "f941fa2a2912a2341021807c14a143db6067d9fb63dda3d2b58dbbdf2da2a7b7"), looks := true }, kinds := [], alts := [], laidByText := true, laidKinds := [.data, .data, .data, .data, .sentinel, .sentinel, .data, .data, .data, .pinned], laidTests := true, laidLooks := .later }
def DateformsReadCardSaid : Prop := Claim7.holds Tryz.pinned (.plain (OpenSpec.ofChange dateformsReadSpec)) dateformsReadCard

/-- THE TIED CARD OF 'circalaw15.DateformsKnown'. -/
def dateformsKnownCard : Claim7 := { stood := { row := dateformsKnownRow, standIns := [], harness := (true, "f941fa2a2912a2341021807c14a143db6067d9fb63dda3d2b58dbbdf2da2a7b7"), looks := true }, kinds := [], alts := [], laidByText := true, laidKinds := [.data, .data, .data, .data, .sentinel, .sentinel, .data, .data, .data, .pinned], laidTests := true, laidLooks := .later }
def DateformsKnownCardSaid : Prop := Claim7.holds Tryz.pinned (.plain (OpenSpec.ofChange dateformsKnownSpec)) dateformsKnownCard

/-- THE TIED CARD OF 'circalaw15.DateformsCheck'. -/
def dateformsCheckCard : Claim7 := { stood := { row := dateformsCheckRow, standIns := [], harness := (true, "f941fa2a2912a2341021807c14a143db6067d9fb63dda3d2b58dbbdf2da2a7b7"), looks := true }, kinds := [], alts := [], laidByText := true, laidKinds := [.data, .data, .data, .data, .sentinel, .sentinel, .data, .data, .data, .pinned], laidTests := true, laidLooks := .later }
def DateformsCheckCardSaid : Prop := Claim7.holds Tryz.pinned (.plain (OpenSpec.ofChange dateformsCheckSpec)) dateformsCheckCard

/-- THE TIED CARD OF 'circalaw18.ExprsParts'. -/
def exprsPartsCard : Claim7 := { stood := { row := exprsPartsRow, standIns := [], harness := (true, "f941fa2a2912a2341021807c14a143db6067d9fb63dda3d2b58dbbdf2da2a7b7"), looks := true }, kinds := [], alts := [], laidByText := true, laidKinds := [.data, .data, .data, .data, .sentinel, .sentinel, .data, .data, .data, .pinned], laidTests := true, laidLooks := .later }
def ExprsPartsCardSaid : Prop := Claim7.holds Tryz.pinned (.plain (OpenSpec.ofChange exprsPartsSpec)) exprsPartsCard

/-- THE TIED CARD OF 'circalaw18.ExprsKnown'. -/
def exprsKnownCard : Claim7 := { stood := { row := exprsKnownRow, standIns := [], harness := (true, "f941fa2a2912a2341021807c14a143db6067d9fb63dda3d2b58dbbdf2da2a7b7"), looks := true }, kinds := [], alts := [], laidByText := true, laidKinds := [.data, .data, .data, .data, .sentinel, .sentinel, .data, .data, .data, .pinned], laidTests := true, laidLooks := .later }
def ExprsKnownCardSaid : Prop := Claim7.holds Tryz.pinned (.plain (OpenSpec.ofChange exprsKnownSpec)) exprsKnownCard

/-- THE TIED CARD OF 'circalaw18.ExprsCheck'. -/
def exprsCheckCard : Claim7 := { stood := { row := exprsCheckRow, standIns := [], harness := (true, "f941fa2a2912a2341021807c14a143db6067d9fb63dda3d2b58dbbdf2da2a7b7"), looks := true }, kinds := [], alts := [], laidByText := true, laidKinds := [.data, .data, .data, .data, .sentinel, .sentinel, .data, .data, .data, .pinned], laidTests := true, laidLooks := .later }
def ExprsCheckCardSaid : Prop := Claim7.holds Tryz.pinned (.plain (OpenSpec.ofChange exprsCheckSpec)) exprsCheckCard

/-- THE TIED CARD OF 'circalaw18.ExprsRight'. -/
def exprsRightCard : Claim7 := { stood := { row := exprsRightRow, standIns := [], harness := (true, "f941fa2a2912a2341021807c14a143db6067d9fb63dda3d2b58dbbdf2da2a7b7"), looks := true }, kinds := [], alts := [], laidByText := true, laidKinds := [.data, .data, .data, .data, .sentinel, .sentinel, .data, .data, .data, .pinned], laidTests := true, laidLooks := .later }
def ExprsRightCardSaid : Prop := Claim7.holds Tryz.pinned (.plain (OpenSpec.ofChange exprsRightSpec)) exprsRightCard

/-- THE SECOND FORM's CARD OF 'circalaw15.DateformsParse'. -/
def dateformsParseUptoCard : Claim7 := { stood := { row := dateformsParseUptoRow, standIns := [], harness := (true, "f941fa2a2912a2341021807c14a143db6067d9fb63dda3d2b58dbbdf2da2a7b7"), looks := true }, kinds := [], alts := [], laidByText := true, laidKinds := [.data, .data, .data, .data, .sentinel, .sentinel, .data, .data, .data, .pinned], laidTests := true, laidLooks := .later }
def DateformsParseUptoCardSaid : Prop := Claim7.holds Tryz.pinned (.plain (OpenSpec.upto dateformsParseSpec)) dateformsParseUptoCard

/-- THE SECOND FORM's CARD OF 'circalaw15.DateformsText'. -/
def dateformsTextUptoCard : Claim7 := { stood := { row := dateformsTextUptoRow, standIns := [], harness := (true, "f941fa2a2912a2341021807c14a143db6067d9fb63dda3d2b58dbbdf2da2a7b7"), looks := true }, kinds := [], alts := [], laidByText := true, laidKinds := [.data, .data, .data, .data, .sentinel, .sentinel, .data, .data, .data, .pinned], laidTests := true, laidLooks := .later }
def DateformsTextUptoCardSaid : Prop := Claim7.holds Tryz.pinned (.plain (OpenSpec.upto dateformsTextSpec)) dateformsTextUptoCard

/-- THE SECOND FORM's CARD OF 'circalaw15.DateformsRead'. -/
def dateformsReadUptoCard : Claim7 := { stood := { row := dateformsReadUptoRow, standIns := [], harness := (true, "f941fa2a2912a2341021807c14a143db6067d9fb63dda3d2b58dbbdf2da2a7b7"), looks := true }, kinds := [], alts := [], laidByText := true, laidKinds := [.data, .data, .data, .data, .sentinel, .sentinel, .data, .data, .data, .pinned], laidTests := true, laidLooks := .later }
def DateformsReadUptoCardSaid : Prop := Claim7.holds Tryz.pinned (.plain (OpenSpec.upto dateformsReadSpec)) dateformsReadUptoCard

/-- THE SECOND FORM's CARD OF 'circalaw15.DateformsKnown'. -/
def dateformsKnownUptoCard : Claim7 := { stood := { row := dateformsKnownUptoRow, standIns := [], harness := (true, "f941fa2a2912a2341021807c14a143db6067d9fb63dda3d2b58dbbdf2da2a7b7"), looks := true }, kinds := [], alts := [], laidByText := true, laidKinds := [.data, .data, .data, .data, .sentinel, .sentinel, .data, .data, .data, .pinned], laidTests := true, laidLooks := .later }
def DateformsKnownUptoCardSaid : Prop := Claim7.holds Tryz.pinned (.plain (OpenSpec.upto dateformsKnownSpec)) dateformsKnownUptoCard

/-- THE SECOND FORM's CARD OF 'circalaw15.DateformsCheck'. -/
def dateformsCheckUptoCard : Claim7 := { stood := { row := dateformsCheckUptoRow, standIns := [], harness := (true, "f941fa2a2912a2341021807c14a143db6067d9fb63dda3d2b58dbbdf2da2a7b7"), looks := true }, kinds := [], alts := [], laidByText := true, laidKinds := [.data, .data, .data, .data, .sentinel, .sentinel, .data, .data, .data, .pinned], laidTests := true, laidLooks := .later }
def DateformsCheckUptoCardSaid : Prop := Claim7.holds Tryz.pinned (.plain (OpenSpec.upto dateformsCheckSpec)) dateformsCheckUptoCard

/-- THE SECOND FORM's CARD OF 'circalaw18.ExprsParts'. -/
def exprsPartsUptoCard : Claim7 := { stood := { row := exprsPartsUptoRow, standIns := [], harness := (true, "f941fa2a2912a2341021807c14a143db6067d9fb63dda3d2b58dbbdf2da2a7b7"), looks := true }, kinds := [], alts := [], laidByText := true, laidKinds := [.data, .data, .data, .data, .sentinel, .sentinel, .data, .data, .data, .pinned], laidTests := true, laidLooks := .later }
def ExprsPartsUptoCardSaid : Prop := Claim7.holds Tryz.pinned (.plain (OpenSpec.upto exprsPartsSpec)) exprsPartsUptoCard

/-- THE SECOND FORM's CARD OF 'circalaw18.ExprsKnown'. -/
def exprsKnownUptoCard : Claim7 := { stood := { row := exprsKnownUptoRow, standIns := [], harness := (true, "f941fa2a2912a2341021807c14a143db6067d9fb63dda3d2b58dbbdf2da2a7b7"), looks := true }, kinds := [], alts := [], laidByText := true, laidKinds := [.data, .data, .data, .data, .sentinel, .sentinel, .data, .data, .data, .pinned], laidTests := true, laidLooks := .later }
def ExprsKnownUptoCardSaid : Prop := Claim7.holds Tryz.pinned (.plain (OpenSpec.upto exprsKnownSpec)) exprsKnownUptoCard

/-- THE SECOND FORM's CARD OF 'circalaw18.ExprsCheck'. -/
def exprsCheckUptoCard : Claim7 := { stood := { row := exprsCheckUptoRow, standIns := [], harness := (true, "f941fa2a2912a2341021807c14a143db6067d9fb63dda3d2b58dbbdf2da2a7b7"), looks := true }, kinds := [], alts := [], laidByText := true, laidKinds := [.data, .data, .data, .data, .sentinel, .sentinel, .data, .data, .data, .pinned], laidTests := true, laidLooks := .later }
def ExprsCheckUptoCardSaid : Prop := Claim7.holds Tryz.pinned (.plain (OpenSpec.upto exprsCheckSpec)) exprsCheckUptoCard

/-- THE SECOND FORM's CARD OF 'circalaw18.ExprsRight'. -/
def exprsRightUptoCard : Claim7 := { stood := { row := exprsRightUptoRow, standIns := [], harness := (true, "f941fa2a2912a2341021807c14a143db6067d9fb63dda3d2b58dbbdf2da2a7b7"), looks := true }, kinds := [], alts := [], laidByText := true, laidKinds := [.data, .data, .data, .data, .sentinel, .sentinel, .data, .data, .data, .pinned], laidTests := true, laidLooks := .later }
def ExprsRightUptoCardSaid : Prop := Claim7.holds Tryz.pinned (.plain (OpenSpec.upto exprsRightSpec)) exprsRightUptoCard
end Rows
end Go.Proofs.YtldcbkbengjdiaaGreatDoor
