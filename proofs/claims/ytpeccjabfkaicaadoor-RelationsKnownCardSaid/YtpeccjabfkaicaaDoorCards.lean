/-
  DERIVED. GIVEN WITH THE SEED: THE CARDS: each row of YtpeccjabfkaicaaDoorRows.lean that lists a variable, with what it lists TIED to the program's text (the seventh form; the later family's looks); each row that meets fmt, with fmt's text TOLD by the authors' own Lean function (tested against real Go, not proved from fmt's source: count such statements apart). THE CARD IS WHAT COUNTS. Prove the row's statement (the work); the ties are given (YtpeccjabfkaicaaDoorTie.lean); close each card by the builder's one call (the guide's Derived/Test/ToyasCard.lean, 'card_holds'). Laid BY PROGRAM, IN A SANDBOX (cutbox-door.mjs). By AI agents, Wed Nov 11 2026. No macro, syntax, notation, axiom, sorry.
-/
import Derived.Test.YtpeccjabfkaicaaDoorRows
import GoSem.ClaimSeven
namespace Go.Proofs.YtpeccjabfkaicaaDoor
namespace Rows

/-- THE TIED CARD OF 'circalaw31.RelationsKnown'. -/
def relationsKnownCard : Claim7 := { stood := { row := relationsKnownRow, standIns := [], harness := (true, "9ca10af98947228ce274b702a752cf9558658d0322db980e794ba3d1a08870f6"), looks := false }, kinds := [], alts := [], laidByText := true, laidKinds := [.data, .pinned], laidTests := true, laidLooks := .later }
def RelationsKnownCardSaid : Prop := Claim7.holds Tryd.pinned (.plain (OpenSpec.ofChange relationsKnownSpec)) relationsKnownCard

/-- THE SECOND FORM's CARD OF 'circalaw31.RelationsKnown'. -/
def relationsKnownUptoCard : Claim7 := { stood := { row := relationsKnownUptoRow, standIns := [], harness := (true, "9ca10af98947228ce274b702a752cf9558658d0322db980e794ba3d1a08870f6"), looks := false }, kinds := [], alts := [], laidByText := true, laidKinds := [.data, .pinned], laidTests := true, laidLooks := .later }
def RelationsKnownUptoCardSaid : Prop := Claim7.holds Tryd.pinned (.plain (OpenSpec.upto relationsKnownSpec)) relationsKnownUptoCard
end Rows
end Go.Proofs.YtpeccjabfkaicaaDoor
