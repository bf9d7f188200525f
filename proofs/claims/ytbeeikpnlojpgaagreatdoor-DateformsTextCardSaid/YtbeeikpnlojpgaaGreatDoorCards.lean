/-
  DERIVED. GIVEN WITH THE SEED: THE CARDS: each row of YtbeeikpnlojpgaaGreatDoorRows.lean that lists a variable, with what it lists TIED to the program's text (the seventh form; the later family's looks); each row that meets fmt, with fmt's text TOLD by the authors' own Lean function (tested against real Go, not proved from fmt's source: count such statements apart). THE CARD IS WHAT COUNTS. Prove the row's statement (the work); the ties are given (YtbeeikpnlojpgaaGreatDoorTie.lean); close each card by the builder's one call (the guide's Derived/Test/ToyasCard.lean, 'card_holds'). Laid BY PROGRAM, IN A SANDBOX (cutbox-door.mjs). By AI agents, Wed Nov 11 2026. No macro, syntax, notation, axiom, sorry.
-/
import Derived.Test.YtbeeikpnlojpgaaGreatDoorRows
import GoSem.ClaimSeven
namespace Go.Proofs.YtbeeikpnlojpgaaGreatDoor
namespace Rows

/-- THE TIED CARD OF 'circalaw15.DateformsParse'. -/
def dateformsParseCard : Claim7 := { stood := { row := dateformsParseRow, standIns := [], harness := (true, "35dc49f7c9f598a88dbe4e948ee885ccfeef57530cf754c7b6bb17ea3b6d8aba"), looks := true }, kinds := [], alts := [], laidByText := true, laidKinds := [.data, .data, .data, .data, .sentinel, .sentinel, .data, .data, .data, .pinned], laidTests := true, laidLooks := .later }
def DateformsParseCardSaid : Prop := Claim7.holds Tryz.pinned (.plain (OpenSpec.ofChange dateformsParseSpec)) dateformsParseCard

/-- THE TIED CARD OF 'circalaw15.DateformsText'. -/
def dateformsTextCard : Claim7 := { stood := { row := dateformsTextRow, standIns := [], harness := (true, "35dc49f7c9f598a88dbe4e948ee885ccfeef57530cf754c7b6bb17ea3b6d8aba"), looks := true }, kinds := [], alts := [], laidByText := true, laidKinds := [.data, .data, .data, .data, .sentinel, .sentinel, .data, .data, .data, .pinned], laidTests := true, laidLooks := .later }
def DateformsTextCardSaid : Prop := Claim7.holds Tryz.pinned (.plain (OpenSpec.ofChange dateformsTextSpec)) dateformsTextCard

/-- THE TIED CARD OF 'circalaw15.DateformsRead'. -/
def dateformsReadCard : Claim7 := { stood := { row := dateformsReadRow, standIns := [], harness := (true, "35dc49f7c9f598a88dbe4e948ee885ccfeef57530cf754c7b6bb17ea3b6d8aba"), looks := true }, kinds := [], alts := [], laidByText := true, laidKinds := [.data, .data, .data, .data, .sentinel, .sentinel, .data, .data, .data, .pinned], laidTests := true, laidLooks := .later }
def DateformsReadCardSaid : Prop := Claim7.holds Tryz.pinned (.plain (OpenSpec.ofChange dateformsReadSpec)) dateformsReadCard

/-- THE TIED CARD OF 'circalaw15.DateformsCheck'. -/
def dateformsCheckCard : Claim7 := { stood := { row := dateformsCheckRow, standIns := [], harness := (true, "35dc49f7c9f598a88dbe4e948ee885ccfeef57530cf754c7b6bb17ea3b6d8aba"), looks := true }, kinds := [], alts := [], laidByText := true, laidKinds := [.data, .data, .data, .data, .sentinel, .sentinel, .data, .data, .data, .pinned], laidTests := true, laidLooks := .later }
def DateformsCheckCardSaid : Prop := Claim7.holds Tryz.pinned (.plain (OpenSpec.ofChange dateformsCheckSpec)) dateformsCheckCard

/-- THE SECOND FORM's CARD OF 'circalaw15.DateformsParse'. -/
def dateformsParseUptoCard : Claim7 := { stood := { row := dateformsParseUptoRow, standIns := [], harness := (true, "35dc49f7c9f598a88dbe4e948ee885ccfeef57530cf754c7b6bb17ea3b6d8aba"), looks := true }, kinds := [], alts := [], laidByText := true, laidKinds := [.data, .data, .data, .data, .sentinel, .sentinel, .data, .data, .data, .pinned], laidTests := true, laidLooks := .later }
def DateformsParseUptoCardSaid : Prop := Claim7.holds Tryz.pinned (.plain (OpenSpec.upto dateformsParseSpec)) dateformsParseUptoCard

/-- THE SECOND FORM's CARD OF 'circalaw15.DateformsText'. -/
def dateformsTextUptoCard : Claim7 := { stood := { row := dateformsTextUptoRow, standIns := [], harness := (true, "35dc49f7c9f598a88dbe4e948ee885ccfeef57530cf754c7b6bb17ea3b6d8aba"), looks := true }, kinds := [], alts := [], laidByText := true, laidKinds := [.data, .data, .data, .data, .sentinel, .sentinel, .data, .data, .data, .pinned], laidTests := true, laidLooks := .later }
def DateformsTextUptoCardSaid : Prop := Claim7.holds Tryz.pinned (.plain (OpenSpec.upto dateformsTextSpec)) dateformsTextUptoCard

/-- THE SECOND FORM's CARD OF 'circalaw15.DateformsRead'. -/
def dateformsReadUptoCard : Claim7 := { stood := { row := dateformsReadUptoRow, standIns := [], harness := (true, "35dc49f7c9f598a88dbe4e948ee885ccfeef57530cf754c7b6bb17ea3b6d8aba"), looks := true }, kinds := [], alts := [], laidByText := true, laidKinds := [.data, .data, .data, .data, .sentinel, .sentinel, .data, .data, .data, .pinned], laidTests := true, laidLooks := .later }
def DateformsReadUptoCardSaid : Prop := Claim7.holds Tryz.pinned (.plain (OpenSpec.upto dateformsReadSpec)) dateformsReadUptoCard

/-- THE SECOND FORM's CARD OF 'circalaw15.DateformsCheck'. -/
def dateformsCheckUptoCard : Claim7 := { stood := { row := dateformsCheckUptoRow, standIns := [], harness := (true, "35dc49f7c9f598a88dbe4e948ee885ccfeef57530cf754c7b6bb17ea3b6d8aba"), looks := true }, kinds := [], alts := [], laidByText := true, laidKinds := [.data, .data, .data, .data, .sentinel, .sentinel, .data, .data, .data, .pinned], laidTests := true, laidLooks := .later }
def DateformsCheckUptoCardSaid : Prop := Claim7.holds Tryz.pinned (.plain (OpenSpec.upto dateformsCheckSpec)) dateformsCheckUptoCard
end Rows
end Go.Proofs.YtbeeikpnlojpgaaGreatDoor
