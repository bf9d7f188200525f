/-
  DERIVED. GIVEN WITH THE SEED: THE CARDS: each row of YtjkmipianfkncaaGreatDoorRows.lean that lists a variable, with what it lists TIED to the program's text (the seventh form; the later family's looks); each row that meets fmt, with fmt's text TOLD by the authors' own Lean function (tested against real Go, not proved from fmt's source: count such statements apart). THE CARD IS WHAT COUNTS. Prove the row's statement (the work); the ties are given (YtjkmipianfkncaaGreatDoorTie.lean); close each card by the builder's one call (the guide's Derived/Test/ToyasCard.lean, 'card_holds'). Laid BY PROGRAM, IN A SANDBOX (cutbox-door.mjs). By AI agents, Wed Nov 11 2026. No macro, syntax, notation, axiom, sorry.
-/
import Derived.Test.YtjkmipianfkncaaGreatDoorRows
import GoSem.ClaimSeven
namespace Go.Proofs.YtjkmipianfkncaaGreatDoor
namespace Rows

/-- THE TIED CARD OF 'circalaw20.ParsersParse'. -/
def parsersParseCard : Claim7 := { stood := { row := parsersParseRow, standIns := [], harness := (true, "3a180834488c617b301f7d54ada5172a4c40dbc0587656358a20b864ddb5602b"), looks := true }, kinds := [], alts := [], laidByText := true, laidKinds := [.data, .data, .data, .data, .sentinel, .sentinel, .data, .data, .data, .pinned], laidTests := true, laidLooks := .later }
def ParsersParseCardSaid : Prop := Claim7.holds Tryz.pinned (.plain (OpenSpec.ofChange parsersParseSpec)) parsersParseCard

/-- THE TIED CARD OF 'circalaw20.ParsersKnown'. -/
def parsersKnownCard : Claim7 := { stood := { row := parsersKnownRow, standIns := [], harness := (true, "3a180834488c617b301f7d54ada5172a4c40dbc0587656358a20b864ddb5602b"), looks := true }, kinds := [], alts := [], laidByText := true, laidKinds := [.data, .data, .data, .data, .sentinel, .sentinel, .data, .data, .data, .pinned], laidTests := true, laidLooks := .later }
def ParsersKnownCardSaid : Prop := Claim7.holds Tryz.pinned (.plain (OpenSpec.ofChange parsersKnownSpec)) parsersKnownCard

/-- THE SECOND FORM's CARD OF 'circalaw20.ParsersParse'. -/
def parsersParseUptoCard : Claim7 := { stood := { row := parsersParseUptoRow, standIns := [], harness := (true, "3a180834488c617b301f7d54ada5172a4c40dbc0587656358a20b864ddb5602b"), looks := true }, kinds := [], alts := [], laidByText := true, laidKinds := [.data, .data, .data, .data, .sentinel, .sentinel, .data, .data, .data, .pinned], laidTests := true, laidLooks := .later }
def ParsersParseUptoCardSaid : Prop := Claim7.holds Tryz.pinned (.plain (OpenSpec.upto parsersParseSpec)) parsersParseUptoCard

/-- THE SECOND FORM's CARD OF 'circalaw20.ParsersKnown'. -/
def parsersKnownUptoCard : Claim7 := { stood := { row := parsersKnownUptoRow, standIns := [], harness := (true, "3a180834488c617b301f7d54ada5172a4c40dbc0587656358a20b864ddb5602b"), looks := true }, kinds := [], alts := [], laidByText := true, laidKinds := [.data, .data, .data, .data, .sentinel, .sentinel, .data, .data, .data, .pinned], laidTests := true, laidLooks := .later }
def ParsersKnownUptoCardSaid : Prop := Claim7.holds Tryz.pinned (.plain (OpenSpec.upto parsersKnownSpec)) parsersKnownUptoCard
end Rows
end Go.Proofs.YtjkmipianfkncaaGreatDoor
