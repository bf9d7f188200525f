/-
  DERIVED. GIVEN WITH THE SEED: THE CARDS: each row of YtbghdnhhpanidaaDoorRows.lean that lists a variable, with what it lists TIED to the program's text (the seventh form; the later family's looks); each row that meets fmt, with fmt's text TOLD by the authors' own Lean function (tested against real Go, not proved from fmt's source: count such statements apart). THE CARD IS WHAT COUNTS. Prove the row's statement (the work); the ties are given (YtbghdnhhpanidaaDoorTie.lean); close each card by the builder's one call (the guide's Derived/Test/ToyasCard.lean, 'card_holds'). Laid BY PROGRAM, IN A SANDBOX (cutbox-door.mjs). By AI agents, Wed Nov 11 2026. No macro, syntax, notation, axiom, sorry.
-/
import Derived.Test.YtbghdnhhpanidaaDoorRows
import GoSem.ClaimSeven
namespace Go.Proofs.YtbghdnhhpanidaaDoor
namespace Rows

/-- THE TIED CARD OF 'circalaw31.RelationsOf'. -/
def relationsOfCard : Claim7 := { stood := { row := relationsOfRow, standIns := [], harness := (true, "e00d6cf24da79d9503dde359b6366a91444c9d3be4e7fbb432ab98aaab5dec9e"), looks := false }, kinds := [], alts := [], laidByText := true, laidKinds := [.data, .pinned], laidTests := true, laidLooks := .later }
def RelationsOfCardSaid : Prop := Claim7.holds Tryd.pinned (.plain (OpenSpec.ofChange relationsOfSpec)) relationsOfCard

/-- THE TIED CARD OF 'circalaw31.RelationsThree'. -/
def relationsThreeCard : Claim7 := { stood := { row := relationsThreeRow, standIns := [], harness := (true, "e00d6cf24da79d9503dde359b6366a91444c9d3be4e7fbb432ab98aaab5dec9e"), looks := false }, kinds := [], alts := [], laidByText := true, laidKinds := [.data, .pinned], laidTests := true, laidLooks := .later }
def RelationsThreeCardSaid : Prop := Claim7.holds Tryd.pinned (.plain (OpenSpec.ofChange relationsThreeSpec)) relationsThreeCard

/-- THE TIED CARD OF 'circalaw31.RelationsText'. -/
def relationsTextCard : Claim7 := { stood := { row := relationsTextRow, standIns := [], harness := (true, "e00d6cf24da79d9503dde359b6366a91444c9d3be4e7fbb432ab98aaab5dec9e"), looks := false }, kinds := [], alts := [], laidByText := true, laidKinds := [.data, .pinned], laidTests := true, laidLooks := .later }
def RelationsTextCardSaid : Prop := Claim7.holds Tryd.pinned (.plain (OpenSpec.ofChange relationsTextSpec)) relationsTextCard

/-- THE TIED CARD OF 'circalaw31.RelationsNames'. -/
def relationsNamesCard : Claim7 := { stood := { row := relationsNamesRow, standIns := [], harness := (true, "e00d6cf24da79d9503dde359b6366a91444c9d3be4e7fbb432ab98aaab5dec9e"), looks := false }, kinds := [], alts := [], laidByText := true, laidKinds := [.data, .pinned], laidTests := true, laidLooks := .later }
def RelationsNamesCardSaid : Prop := Claim7.holds Tryd.pinned (.plain (OpenSpec.ofChange relationsNamesSpec)) relationsNamesCard

/-- THE TIED CARD OF 'circalaw31.RelationsSets'. -/
def relationsSetsCard : Claim7 := { stood := { row := relationsSetsRow, standIns := [], harness := (true, "e00d6cf24da79d9503dde359b6366a91444c9d3be4e7fbb432ab98aaab5dec9e"), looks := false }, kinds := [], alts := [], laidByText := true, laidKinds := [.data, .pinned], laidTests := true, laidLooks := .later }
def RelationsSetsCardSaid : Prop := Claim7.holds Tryd.pinned (.plain (OpenSpec.ofChange relationsSetsSpec)) relationsSetsCard

/-- THE TIED CARD OF 'circalaw31.RelationsKnown'. -/
def relationsKnownCard : Claim7 := { stood := { row := relationsKnownRow, standIns := [], harness := (true, "e00d6cf24da79d9503dde359b6366a91444c9d3be4e7fbb432ab98aaab5dec9e"), looks := false }, kinds := [], alts := [], laidByText := true, laidKinds := [.data, .pinned], laidTests := true, laidLooks := .later }
def RelationsKnownCardSaid : Prop := Claim7.holds Tryd.pinned (.plain (OpenSpec.ofChange relationsKnownSpec)) relationsKnownCard

/-- THE SECOND FORM's CARD OF 'circalaw31.RelationsOf'. -/
def relationsOfUptoCard : Claim7 := { stood := { row := relationsOfUptoRow, standIns := [], harness := (true, "e00d6cf24da79d9503dde359b6366a91444c9d3be4e7fbb432ab98aaab5dec9e"), looks := false }, kinds := [], alts := [], laidByText := true, laidKinds := [.data, .pinned], laidTests := true, laidLooks := .later }
def RelationsOfUptoCardSaid : Prop := Claim7.holds Tryd.pinned (.plain (OpenSpec.upto relationsOfSpec)) relationsOfUptoCard

/-- THE SECOND FORM's CARD OF 'circalaw31.RelationsThree'. -/
def relationsThreeUptoCard : Claim7 := { stood := { row := relationsThreeUptoRow, standIns := [], harness := (true, "e00d6cf24da79d9503dde359b6366a91444c9d3be4e7fbb432ab98aaab5dec9e"), looks := false }, kinds := [], alts := [], laidByText := true, laidKinds := [.data, .pinned], laidTests := true, laidLooks := .later }
def RelationsThreeUptoCardSaid : Prop := Claim7.holds Tryd.pinned (.plain (OpenSpec.upto relationsThreeSpec)) relationsThreeUptoCard

/-- THE SECOND FORM's CARD OF 'circalaw31.RelationsText'. -/
def relationsTextUptoCard : Claim7 := { stood := { row := relationsTextUptoRow, standIns := [], harness := (true, "e00d6cf24da79d9503dde359b6366a91444c9d3be4e7fbb432ab98aaab5dec9e"), looks := false }, kinds := [], alts := [], laidByText := true, laidKinds := [.data, .pinned], laidTests := true, laidLooks := .later }
def RelationsTextUptoCardSaid : Prop := Claim7.holds Tryd.pinned (.plain (OpenSpec.upto relationsTextSpec)) relationsTextUptoCard

/-- THE SECOND FORM's CARD OF 'circalaw31.RelationsNames'. -/
def relationsNamesUptoCard : Claim7 := { stood := { row := relationsNamesUptoRow, standIns := [], harness := (true, "e00d6cf24da79d9503dde359b6366a91444c9d3be4e7fbb432ab98aaab5dec9e"), looks := false }, kinds := [], alts := [], laidByText := true, laidKinds := [.data, .pinned], laidTests := true, laidLooks := .later }
def RelationsNamesUptoCardSaid : Prop := Claim7.holds Tryd.pinned (.plain (OpenSpec.upto relationsNamesSpec)) relationsNamesUptoCard

/-- THE SECOND FORM's CARD OF 'circalaw31.RelationsSets'. -/
def relationsSetsUptoCard : Claim7 := { stood := { row := relationsSetsUptoRow, standIns := [], harness := (true, "e00d6cf24da79d9503dde359b6366a91444c9d3be4e7fbb432ab98aaab5dec9e"), looks := false }, kinds := [], alts := [], laidByText := true, laidKinds := [.data, .pinned], laidTests := true, laidLooks := .later }
def RelationsSetsUptoCardSaid : Prop := Claim7.holds Tryd.pinned (.plain (OpenSpec.upto relationsSetsSpec)) relationsSetsUptoCard

/-- THE SECOND FORM's CARD OF 'circalaw31.RelationsKnown'. -/
def relationsKnownUptoCard : Claim7 := { stood := { row := relationsKnownUptoRow, standIns := [], harness := (true, "e00d6cf24da79d9503dde359b6366a91444c9d3be4e7fbb432ab98aaab5dec9e"), looks := false }, kinds := [], alts := [], laidByText := true, laidKinds := [.data, .pinned], laidTests := true, laidLooks := .later }
def RelationsKnownUptoCardSaid : Prop := Claim7.holds Tryd.pinned (.plain (OpenSpec.upto relationsKnownSpec)) relationsKnownUptoCard
end Rows
end Go.Proofs.YtbghdnhhpanidaaDoor
