/-
  DERIVED. GIVEN WITH THE SEED: THE CARDS: each row of YtbghdnhhpanidaaGreatDoorRows.lean that lists a variable, with what it lists TIED to the program's text (the seventh form; the later family's looks); each row that meets fmt, with fmt's text TOLD by the authors' own Lean function (tested against real Go, not proved from fmt's source: count such statements apart). THE CARD IS WHAT COUNTS. Prove the row's statement (the work); the ties are given (YtbghdnhhpanidaaGreatDoorTie.lean); close each card by the builder's one call (the guide's Derived/Test/ToyasCard.lean, 'card_holds'). Laid BY PROGRAM, IN A SANDBOX (cutbox-door.mjs). By AI agents, Wed Nov 11 2026. No macro, syntax, notation, axiom, sorry.
-/
import Derived.Test.YtbghdnhhpanidaaGreatDoorRows
import GoSem.ClaimSeven
namespace Go.Proofs.YtbghdnhhpanidaaGreatDoor
namespace Rows

/-- THE TIED CARD OF 'circalaw14.YearformsYears'. -/
def yearformsYearsCard : Claim7 := { stood := { row := yearformsYearsRow, standIns := [], harness := (true, "bcc7dcd4a009d924278fcdea1f147f221c644688bb00c3377d38654c6e505540"), looks := true }, kinds := [], alts := [], laidByText := true, laidKinds := [.data, .data, .data, .data, .sentinel, .sentinel, .pinned], laidTests := true, laidLooks := .later }
def YearformsYearsCardSaid : Prop := Claim7.holds Tryz.pinned (.plain (OpenSpec.ofChange yearformsYearsSpec)) yearformsYearsCard

/-- THE TIED CARD OF 'circalaw14.YearformsParse'. -/
def yearformsParseCard : Claim7 := { stood := { row := yearformsParseRow, standIns := [], harness := (true, "bcc7dcd4a009d924278fcdea1f147f221c644688bb00c3377d38654c6e505540"), looks := true }, kinds := [], alts := [], laidByText := true, laidKinds := [.data, .data, .data, .data, .sentinel, .sentinel, .pinned], laidTests := true, laidLooks := .later }
def YearformsParseCardSaid : Prop := Claim7.holds Tryz.pinned (.plain (OpenSpec.ofChange yearformsParseSpec)) yearformsParseCard

/-- THE TIED CARD OF 'circalaw14.YearformsText'. -/
def yearformsTextCard : Claim7 := { stood := { row := yearformsTextRow, standIns := [], harness := (true, "bcc7dcd4a009d924278fcdea1f147f221c644688bb00c3377d38654c6e505540"), looks := true }, kinds := [], alts := [], laidByText := true, laidKinds := [.data, .data, .data, .data, .sentinel, .sentinel, .pinned], laidTests := true, laidLooks := .later }
def YearformsTextCardSaid : Prop := Claim7.holds Tryz.pinned (.plain (OpenSpec.ofChange yearformsTextSpec)) yearformsTextCard

/-- THE TIED CARD OF 'circalaw14.YearformsCheck'. -/
def yearformsCheckCard : Claim7 := { stood := { row := yearformsCheckRow, standIns := [], harness := (true, "bcc7dcd4a009d924278fcdea1f147f221c644688bb00c3377d38654c6e505540"), looks := true }, kinds := [], alts := [], laidByText := true, laidKinds := [.data, .data, .data, .data, .sentinel, .sentinel, .pinned], laidTests := true, laidLooks := .later }
def YearformsCheckCardSaid : Prop := Claim7.holds Tryz.pinned (.plain (OpenSpec.ofChange yearformsCheckSpec)) yearformsCheckCard

/-- THE TIED CARD OF 'circalaw14.YearformsKnown'. -/
def yearformsKnownCard : Claim7 := { stood := { row := yearformsKnownRow, standIns := [], harness := (true, "bcc7dcd4a009d924278fcdea1f147f221c644688bb00c3377d38654c6e505540"), looks := true }, kinds := [], alts := [], laidByText := true, laidKinds := [.data, .data, .data, .data, .sentinel, .sentinel, .pinned], laidTests := true, laidLooks := .later }
def YearformsKnownCardSaid : Prop := Claim7.holds Tryz.pinned (.plain (OpenSpec.ofChange yearformsKnownSpec)) yearformsKnownCard

/-- THE SECOND FORM's CARD OF 'circalaw14.YearformsYears'. -/
def yearformsYearsUptoCard : Claim7 := { stood := { row := yearformsYearsUptoRow, standIns := [], harness := (true, "bcc7dcd4a009d924278fcdea1f147f221c644688bb00c3377d38654c6e505540"), looks := true }, kinds := [], alts := [], laidByText := true, laidKinds := [.data, .data, .data, .data, .sentinel, .sentinel, .pinned], laidTests := true, laidLooks := .later }
def YearformsYearsUptoCardSaid : Prop := Claim7.holds Tryz.pinned (.plain (OpenSpec.upto yearformsYearsSpec)) yearformsYearsUptoCard

/-- THE SECOND FORM's CARD OF 'circalaw14.YearformsParse'. -/
def yearformsParseUptoCard : Claim7 := { stood := { row := yearformsParseUptoRow, standIns := [], harness := (true, "bcc7dcd4a009d924278fcdea1f147f221c644688bb00c3377d38654c6e505540"), looks := true }, kinds := [], alts := [], laidByText := true, laidKinds := [.data, .data, .data, .data, .sentinel, .sentinel, .pinned], laidTests := true, laidLooks := .later }
def YearformsParseUptoCardSaid : Prop := Claim7.holds Tryz.pinned (.plain (OpenSpec.upto yearformsParseSpec)) yearformsParseUptoCard

/-- THE SECOND FORM's CARD OF 'circalaw14.YearformsText'. -/
def yearformsTextUptoCard : Claim7 := { stood := { row := yearformsTextUptoRow, standIns := [], harness := (true, "bcc7dcd4a009d924278fcdea1f147f221c644688bb00c3377d38654c6e505540"), looks := true }, kinds := [], alts := [], laidByText := true, laidKinds := [.data, .data, .data, .data, .sentinel, .sentinel, .pinned], laidTests := true, laidLooks := .later }
def YearformsTextUptoCardSaid : Prop := Claim7.holds Tryz.pinned (.plain (OpenSpec.upto yearformsTextSpec)) yearformsTextUptoCard

/-- THE SECOND FORM's CARD OF 'circalaw14.YearformsCheck'. -/
def yearformsCheckUptoCard : Claim7 := { stood := { row := yearformsCheckUptoRow, standIns := [], harness := (true, "bcc7dcd4a009d924278fcdea1f147f221c644688bb00c3377d38654c6e505540"), looks := true }, kinds := [], alts := [], laidByText := true, laidKinds := [.data, .data, .data, .data, .sentinel, .sentinel, .pinned], laidTests := true, laidLooks := .later }
def YearformsCheckUptoCardSaid : Prop := Claim7.holds Tryz.pinned (.plain (OpenSpec.upto yearformsCheckSpec)) yearformsCheckUptoCard

/-- THE SECOND FORM's CARD OF 'circalaw14.YearformsKnown'. -/
def yearformsKnownUptoCard : Claim7 := { stood := { row := yearformsKnownUptoRow, standIns := [], harness := (true, "bcc7dcd4a009d924278fcdea1f147f221c644688bb00c3377d38654c6e505540"), looks := true }, kinds := [], alts := [], laidByText := true, laidKinds := [.data, .data, .data, .data, .sentinel, .sentinel, .pinned], laidTests := true, laidLooks := .later }
def YearformsKnownUptoCardSaid : Prop := Claim7.holds Tryz.pinned (.plain (OpenSpec.upto yearformsKnownSpec)) yearformsKnownUptoCard
end Rows
end Go.Proofs.YtbghdnhhpanidaaGreatDoor
