/-
  DERIVED. GIVEN WITH THE SEED: THE CARDS: each row of YtlampgohpnchdaaGreatDoorRows.lean that lists a variable, with what it lists TIED to the program's text (the seventh form; the later family's looks); each row that meets fmt, with fmt's text TOLD by the authors' own Lean function (tested against real Go, not proved from fmt's source: count such statements apart). THE CARD IS WHAT COUNTS. Prove the row's statement (the work); the ties are given (YtlampgohpnchdaaGreatDoorTie.lean); close each card by the builder's one call (the guide's Derived/Test/ToyasCard.lean, 'card_holds'). Laid BY PROGRAM, IN A SANDBOX (cutbox-door.mjs). By AI agents, Wed Nov 11 2026. No macro, syntax, notation, axiom, sorry.
-/
import Derived.Test.YtlampgohpnchdaaGreatDoorRows
import GoSem.ClaimSeven
namespace Go.Proofs.YtlampgohpnchdaaGreatDoor
namespace Rows

/-- THE TIED CARD OF 'circalaw18.ExprsParts'. -/
def exprsPartsCard : Claim7 := { stood := { row := exprsPartsRow, standIns := [], harness := (true, "faec6b30622eeb0f84c31b1925365afe2ea94d50009ec6013f53a89919c7c994"), looks := true }, kinds := [], alts := [], laidByText := true, laidKinds := [.data, .data, .data, .data, .sentinel, .sentinel, .data, .data, .data, .pinned], laidTests := true, laidLooks := .later }
def ExprsPartsCardSaid : Prop := Claim7.holds Tryz.pinned (.plain (OpenSpec.ofChange exprsPartsSpec)) exprsPartsCard

/-- THE TIED CARD OF 'circalaw18.ExprsCheck'. -/
def exprsCheckCard : Claim7 := { stood := { row := exprsCheckRow, standIns := [], harness := (true, "faec6b30622eeb0f84c31b1925365afe2ea94d50009ec6013f53a89919c7c994"), looks := true }, kinds := [], alts := [], laidByText := true, laidKinds := [.data, .data, .data, .data, .sentinel, .sentinel, .data, .data, .data, .pinned], laidTests := true, laidLooks := .later }
def ExprsCheckCardSaid : Prop := Claim7.holds Tryz.pinned (.plain (OpenSpec.ofChange exprsCheckSpec)) exprsCheckCard

/-- THE TIED CARD OF 'circalaw18.ExprsRight'. -/
def exprsRightCard : Claim7 := { stood := { row := exprsRightRow, standIns := [], harness := (true, "faec6b30622eeb0f84c31b1925365afe2ea94d50009ec6013f53a89919c7c994"), looks := true }, kinds := [], alts := [], laidByText := true, laidKinds := [.data, .data, .data, .data, .sentinel, .sentinel, .data, .data, .data, .pinned], laidTests := true, laidLooks := .later }
def ExprsRightCardSaid : Prop := Claim7.holds Tryz.pinned (.plain (OpenSpec.ofChange exprsRightSpec)) exprsRightCard

/-- THE SECOND FORM's CARD OF 'circalaw18.ExprsParts'. -/
def exprsPartsUptoCard : Claim7 := { stood := { row := exprsPartsUptoRow, standIns := [], harness := (true, "faec6b30622eeb0f84c31b1925365afe2ea94d50009ec6013f53a89919c7c994"), looks := true }, kinds := [], alts := [], laidByText := true, laidKinds := [.data, .data, .data, .data, .sentinel, .sentinel, .data, .data, .data, .pinned], laidTests := true, laidLooks := .later }
def ExprsPartsUptoCardSaid : Prop := Claim7.holds Tryz.pinned (.plain (OpenSpec.upto exprsPartsSpec)) exprsPartsUptoCard

/-- THE SECOND FORM's CARD OF 'circalaw18.ExprsCheck'. -/
def exprsCheckUptoCard : Claim7 := { stood := { row := exprsCheckUptoRow, standIns := [], harness := (true, "faec6b30622eeb0f84c31b1925365afe2ea94d50009ec6013f53a89919c7c994"), looks := true }, kinds := [], alts := [], laidByText := true, laidKinds := [.data, .data, .data, .data, .sentinel, .sentinel, .data, .data, .data, .pinned], laidTests := true, laidLooks := .later }
def ExprsCheckUptoCardSaid : Prop := Claim7.holds Tryz.pinned (.plain (OpenSpec.upto exprsCheckSpec)) exprsCheckUptoCard

/-- THE SECOND FORM's CARD OF 'circalaw18.ExprsRight'. -/
def exprsRightUptoCard : Claim7 := { stood := { row := exprsRightUptoRow, standIns := [], harness := (true, "faec6b30622eeb0f84c31b1925365afe2ea94d50009ec6013f53a89919c7c994"), looks := true }, kinds := [], alts := [], laidByText := true, laidKinds := [.data, .data, .data, .data, .sentinel, .sentinel, .data, .data, .data, .pinned], laidTests := true, laidLooks := .later }
def ExprsRightUptoCardSaid : Prop := Claim7.holds Tryz.pinned (.plain (OpenSpec.upto exprsRightSpec)) exprsRightUptoCard
end Rows
end Go.Proofs.YtlampgohpnchdaaGreatDoor
