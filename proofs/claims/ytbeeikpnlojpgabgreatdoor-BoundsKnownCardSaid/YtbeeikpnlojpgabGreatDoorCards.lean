/-
  DERIVED. GIVEN WITH THE SEED: THE CARDS: each row of YtbeeikpnlojpgabGreatDoorRows.lean that lists a variable, with what it lists TIED to the program's text (the seventh form; the later family's looks); each row that meets fmt, with fmt's text TOLD by the authors' own Lean function (tested against real Go, not proved from fmt's source: count such statements apart). THE CARD IS WHAT COUNTS. Prove the row's statement (the work); the ties are given (YtbeeikpnlojpgabGreatDoorTie.lean); close each card by the builder's one call (the guide's Derived/Test/ToyasCard.lean, 'card_holds'). Laid BY PROGRAM, IN A SANDBOX (cutbox-door.mjs). By AI agents, Wed Nov 11 2026. No macro, syntax, notation, axiom, sorry.
-/
import Derived.Test.YtbeeikpnlojpgabGreatDoorRows
import GoSem.ClaimSeven
namespace Go.Proofs.YtbeeikpnlojpgabGreatDoor
namespace Rows

/-- THE TIED CARD OF 'circalaw17.BoundsKnown'. -/
def boundsKnownCard : Claim7 := { stood := { row := boundsKnownRow, standIns := [], harness := (true, "4d67d7a91669cbe11fa0f9a264e68cb67a66eb782d1f251d5d1f5433d508ef85"), looks := true }, kinds := [], alts := [], laidByText := true, laidKinds := [.data, .data, .data, .data, .sentinel, .sentinel, .data, .data, .data, .pinned], laidTests := true, laidLooks := .later }
def BoundsKnownCardSaid : Prop := Claim7.holds Tryz.pinned (.plain (OpenSpec.ofChange boundsKnownSpec)) boundsKnownCard

/-- THE SECOND FORM's CARD OF 'circalaw17.BoundsKnown'. -/
def boundsKnownUptoCard : Claim7 := { stood := { row := boundsKnownUptoRow, standIns := [], harness := (true, "4d67d7a91669cbe11fa0f9a264e68cb67a66eb782d1f251d5d1f5433d508ef85"), looks := true }, kinds := [], alts := [], laidByText := true, laidKinds := [.data, .data, .data, .data, .sentinel, .sentinel, .data, .data, .data, .pinned], laidTests := true, laidLooks := .later }
def BoundsKnownUptoCardSaid : Prop := Claim7.holds Tryz.pinned (.plain (OpenSpec.upto boundsKnownSpec)) boundsKnownUptoCard
end Rows
end Go.Proofs.YtbeeikpnlojpgabGreatDoor
