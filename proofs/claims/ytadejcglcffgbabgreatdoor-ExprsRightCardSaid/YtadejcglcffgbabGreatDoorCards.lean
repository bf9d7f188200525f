/-
  DERIVED. GIVEN WITH THE SEED: THE CARDS: each row of YtadejcglcffgbabGreatDoorRows.lean that lists a variable, with what it lists TIED to the program's text (the seventh form; the later family's looks); each row that meets fmt, with fmt's text TOLD by the authors' own Lean function (tested against real Go, not proved from fmt's source: count such statements apart). THE CARD IS WHAT COUNTS. Prove the row's statement (the work); the ties are given (YtadejcglcffgbabGreatDoorTie.lean); close each card by the builder's one call (the guide's Derived/Test/ToyasCard.lean, 'card_holds'). Laid BY PROGRAM, IN A SANDBOX (cutbox-door.mjs). By AI agents, Wed Nov 11 2026. No macro, syntax, notation, axiom, sorry.
-/
import Derived.Test.YtadejcglcffgbabGreatDoorRows
import GoSem.ClaimSeven
namespace Go.Proofs.YtadejcglcffgbabGreatDoor
namespace Rows

/-- THE TIED CARD OF 'circalaw18.ExprsRight'. -/
def exprsRightCard : Claim7 := { stood := { row := exprsRightRow, standIns := [], harness := (true, "d81b6b788563716547083f4bc6cf6064cd129f90500a55eae631da94b8eef8d4"), looks := true }, kinds := [], alts := [], laidByText := true, laidKinds := [.data, .data, .data, .data, .sentinel, .sentinel, .data, .data, .data, .pinned], laidTests := true, laidLooks := .later }
def ExprsRightCardSaid : Prop := Claim7.holds Tryz.pinned (.plain (OpenSpec.ofChange exprsRightSpec)) exprsRightCard

/-- THE SECOND FORM's CARD OF 'circalaw18.ExprsRight'. -/
def exprsRightUptoCard : Claim7 := { stood := { row := exprsRightUptoRow, standIns := [], harness := (true, "d81b6b788563716547083f4bc6cf6064cd129f90500a55eae631da94b8eef8d4"), looks := true }, kinds := [], alts := [], laidByText := true, laidKinds := [.data, .data, .data, .data, .sentinel, .sentinel, .data, .data, .data, .pinned], laidTests := true, laidLooks := .later }
def ExprsRightUptoCardSaid : Prop := Claim7.holds Tryz.pinned (.plain (OpenSpec.upto exprsRightSpec)) exprsRightUptoCard
end Rows
end Go.Proofs.YtadejcglcffgbabGreatDoor
