/-
  DERIVED. GIVEN WITH THE SEED: THE CARDS: each row of YtfchdhhkohmedaaGreatDoorRows.lean that lists a variable, with what it lists TIED to the program's text (the seventh form; the later family's looks); each row that meets fmt, with fmt's text TOLD by the authors' own Lean function (tested against real Go, not proved from fmt's source: count such statements apart). THE CARD IS WHAT COUNTS. Prove the row's statement (the work); the ties are given (YtfchdhhkohmedaaGreatDoorTie.lean); close each card by the builder's one call (the guide's Derived/Test/ToyasCard.lean, 'card_holds'). Laid BY PROGRAM, IN A SANDBOX (cutbox-door.mjs). By AI agents, Wed Nov 11 2026. No macro, syntax, notation, axiom, sorry.
-/
import Derived.Test.YtfchdhhkohmedaaGreatDoorRows
import GoSem.ClaimSeven
namespace Go.Proofs.YtfchdhhkohmedaaGreatDoor
namespace Rows

/-- THE TIED CARD OF 'circalaw17.BoundsDays'. -/
def boundsDaysCard : Claim7 := { stood := { row := boundsDaysRow, standIns := [], harness := (true, "14aea22148b17bf5db386e5c8e7569f3bc81ca12c21f53f12cf4cef55562d94d"), looks := true }, kinds := [], alts := [], laidByText := true, laidKinds := [.data, .data, .data, .data, .sentinel, .sentinel, .data, .data, .data, .pinned], laidTests := true, laidLooks := .later }
def BoundsDaysCardSaid : Prop := Claim7.holds Tryz.pinned (.plain (OpenSpec.ofChange boundsDaysSpec)) boundsDaysCard

/-- THE TIED CARD OF 'circalaw17.BoundsPair'. -/
def boundsPairCard : Claim7 := { stood := { row := boundsPairRow, standIns := [], harness := (true, "14aea22148b17bf5db386e5c8e7569f3bc81ca12c21f53f12cf4cef55562d94d"), looks := true }, kinds := [], alts := [], laidByText := true, laidKinds := [.data, .data, .data, .data, .sentinel, .sentinel, .data, .data, .data, .pinned], laidTests := true, laidLooks := .later }
def BoundsPairCardSaid : Prop := Claim7.holds Tryz.pinned (.plain (OpenSpec.ofChange boundsPairSpec)) boundsPairCard

/-- THE TIED CARD OF 'circalaw17.BoundsParse'. -/
def boundsParseCard : Claim7 := { stood := { row := boundsParseRow, standIns := [], harness := (true, "14aea22148b17bf5db386e5c8e7569f3bc81ca12c21f53f12cf4cef55562d94d"), looks := true }, kinds := [], alts := [], laidByText := true, laidKinds := [.data, .data, .data, .data, .sentinel, .sentinel, .data, .data, .data, .pinned], laidTests := true, laidLooks := .later }
def BoundsParseCardSaid : Prop := Claim7.holds Tryz.pinned (.plain (OpenSpec.ofChange boundsParseSpec)) boundsParseCard

/-- THE TIED CARD OF 'circalaw17.BoundsCheck'. -/
def boundsCheckCard : Claim7 := { stood := { row := boundsCheckRow, standIns := [], harness := (true, "14aea22148b17bf5db386e5c8e7569f3bc81ca12c21f53f12cf4cef55562d94d"), looks := true }, kinds := [], alts := [], laidByText := true, laidKinds := [.data, .data, .data, .data, .sentinel, .sentinel, .data, .data, .data, .pinned], laidTests := true, laidLooks := .later }
def BoundsCheckCardSaid : Prop := Claim7.holds Tryz.pinned (.plain (OpenSpec.ofChange boundsCheckSpec)) boundsCheckCard

/-- THE SECOND FORM's CARD OF 'circalaw17.BoundsDays'. -/
def boundsDaysUptoCard : Claim7 := { stood := { row := boundsDaysUptoRow, standIns := [], harness := (true, "14aea22148b17bf5db386e5c8e7569f3bc81ca12c21f53f12cf4cef55562d94d"), looks := true }, kinds := [], alts := [], laidByText := true, laidKinds := [.data, .data, .data, .data, .sentinel, .sentinel, .data, .data, .data, .pinned], laidTests := true, laidLooks := .later }
def BoundsDaysUptoCardSaid : Prop := Claim7.holds Tryz.pinned (.plain (OpenSpec.upto boundsDaysSpec)) boundsDaysUptoCard

/-- THE SECOND FORM's CARD OF 'circalaw17.BoundsPair'. -/
def boundsPairUptoCard : Claim7 := { stood := { row := boundsPairUptoRow, standIns := [], harness := (true, "14aea22148b17bf5db386e5c8e7569f3bc81ca12c21f53f12cf4cef55562d94d"), looks := true }, kinds := [], alts := [], laidByText := true, laidKinds := [.data, .data, .data, .data, .sentinel, .sentinel, .data, .data, .data, .pinned], laidTests := true, laidLooks := .later }
def BoundsPairUptoCardSaid : Prop := Claim7.holds Tryz.pinned (.plain (OpenSpec.upto boundsPairSpec)) boundsPairUptoCard

/-- THE SECOND FORM's CARD OF 'circalaw17.BoundsParse'. -/
def boundsParseUptoCard : Claim7 := { stood := { row := boundsParseUptoRow, standIns := [], harness := (true, "14aea22148b17bf5db386e5c8e7569f3bc81ca12c21f53f12cf4cef55562d94d"), looks := true }, kinds := [], alts := [], laidByText := true, laidKinds := [.data, .data, .data, .data, .sentinel, .sentinel, .data, .data, .data, .pinned], laidTests := true, laidLooks := .later }
def BoundsParseUptoCardSaid : Prop := Claim7.holds Tryz.pinned (.plain (OpenSpec.upto boundsParseSpec)) boundsParseUptoCard

/-- THE SECOND FORM's CARD OF 'circalaw17.BoundsCheck'. -/
def boundsCheckUptoCard : Claim7 := { stood := { row := boundsCheckUptoRow, standIns := [], harness := (true, "14aea22148b17bf5db386e5c8e7569f3bc81ca12c21f53f12cf4cef55562d94d"), looks := true }, kinds := [], alts := [], laidByText := true, laidKinds := [.data, .data, .data, .data, .sentinel, .sentinel, .data, .data, .data, .pinned], laidTests := true, laidLooks := .later }
def BoundsCheckUptoCardSaid : Prop := Claim7.holds Tryz.pinned (.plain (OpenSpec.upto boundsCheckSpec)) boundsCheckUptoCard
end Rows
end Go.Proofs.YtfchdhhkohmedaaGreatDoor
