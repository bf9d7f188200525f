/-
  NARROWER THAN 'FOR EVERY INPUT', by the rows' own cells (each row's printed sentence says how): RelationsOf: laid · RelationsThree: laid · RelationsText: laid · RelationsNames: laid · RelationsSets: laid · RelationsKnown: laid.
  DERIVED. THE GIVEN ROWS OF THIS SEAT. 6 by the template 'for every input the law returns true; each argument reads behind the call as it read before'; 0 by the template 'total and deterministic' (their statements: YtbghdnhhpanidaaDoorTotals.lean).
  GIVEN WITH THE SEED: the statements are not yours to turn. If you find one false, say at which input.
  Laid BY PROGRAM, IN A SANDBOX (cutbox-rows.mjs): the forced cells as the released guide's own fill.sh prints them over the translation 46d3bb5ef0aca121… (all of the seat's roots in one cut). By AI agents, Wed Nov 11 2026. No macro, syntax, notation, axiom, sorry.
-/
import Derived.Test.YtbghdnhhpanidaaDoorChecked
import GoSem.PinnedTables
import GoSem.Claim
import GoSem.ClaimJoined
import GoSem.ClaimMapViews
import Derived.JoinedTies
import Derived.KernelRfl
namespace Go.Proofs.YtbghdnhhpanidaaDoor
/- THE CELL 'sum', in the pinned program and in every row, IS THE sha256 OF THE DUMP (.gsa) THAT YtbghdnhhpanidaaDoorProg.lean LOADS. Nothing in Lean hashes anything: it is a label: what it is worth is what the hold of that sum in a sandbox is worth. -/
noncomputable def Tryd.pinned : Pinned := { name := "ytbghdnhhpanidaadoor", sum := "46d3bb5ef0aca12108ec6a1591ef3ba28e598bcdd24d70bf2bf226340b1ccd78", checked := Tryd.checked }
namespace Rows
def none {H : Type} : Left H := { results := [], args := [] }

/- WHAT THE LISTED PACKAGE-LEVEL VARIABLES READ AS WHEN THE CALL BEGINS. Each datum BY PROGRAM (the guide's laid-datum.mjs) off the statement by which the dump's own 'gosem.cut.vars' lays the variable. In a bare row this is a premise. The card (YtbghdnhhpanidaaDoorCards.lean) ties it to the program's text. -/
def laid_unicode_utf8_acceptRanges {H : Type} : DataW H := .agg [.agg [.lit (.int .u8 128), .lit (.int .u8 191)], .agg [.lit (.int .u8 160), .lit (.int .u8 191)], .agg [.lit (.int .u8 128), .lit (.int .u8 159)], .agg [.lit (.int .u8 144), .lit (.int .u8 191)], .agg [.lit (.int .u8 128), .lit (.int .u8 143)], .agg [.lit (.int .u8 0), .lit (.int .u8 0)], .agg [.lit (.int .u8 0), .lit (.int .u8 0)], .agg [.lit (.int .u8 0), .lit (.int .u8 0)], .agg [.lit (.int .u8 0), .lit (.int .u8 0)], .agg [.lit (.int .u8 0), .lit (.int .u8 0)], .agg [.lit (.int .u8 0), .lit (.int .u8 0)], .agg [.lit (.int .u8 0), .lit (.int .u8 0)], .agg [.lit (.int .u8 0), .lit (.int .u8 0)], .agg [.lit (.int .u8 0), .lit (.int .u8 0)], .agg [.lit (.int .u8 0), .lit (.int .u8 0)], .agg [.lit (.int .u8 0), .lit (.int .u8 0)]]
/-- One of Go's own tables, pinned by name: the form's constant. -/
def laid_unicode_utf8_first : DataW Unit := Go.Pinned.utf8First

/-- 'circalaw31.RelationsOf': WHATEVER THE INPUT: true; the input reads as it did. -/
def relationsOfSpec : ChangeSpec := { name := "relationsOf", fn := fun _ => fun
  | [d1, d2] => { results := [.lit (.bool true)], args := [d1, d2] }
  | _ => none }
def relationsOfRow : OpenClaim := { program := "ytbghdnhhpanidaadoor", sum := "46d3bb5ef0aca12108ec6a1591ef3ba28e598bcdd24d70bf2bf226340b1ccd78", func := "circa/circalaw31.RelationsOf", spec := "relationsOf", inPlace := ["internal/abi.NoEscape", "internal/bytealg.MakeNoZero", "internal/bytealg.CountString", "internal/bytealg.IndexByteString", "internal/bytealg.IndexString"], unfollowed := true, recurses := true, named := ["unicode/utf8.first", "unicode/utf8.acceptRanges", "internal/bytealg.MaxLen"], apart := false, laid := [("unicode/utf8.acceptRanges", laid_unicode_utf8_acceptRanges), ("unicode/utf8.first", laid_unicode_utf8_first)] }
def RelationsOfSaid : Prop := relationsOfRow.holds Tryd.pinned (OpenSpec.ofChange relationsOfSpec)

/-- ITS FALSE NEIGHBOUR: 'it returns false'. Refute it at one input. -/
def relationsOfWrong : ChangeSpec := { name := "relationsOf", fn := fun _ => fun
  | [d1, d2] => { results := [.lit (.bool false)], args := [d1, d2] }
  | _ => none }
def RelationsOfWrongFalsely : Prop := relationsOfRow.holds Tryd.pinned (OpenSpec.ofChange relationsOfWrong)

/-- 'circalaw31.RelationsThree': WHATEVER THE INPUT: true; the input reads as it did. -/
def relationsThreeSpec : ChangeSpec := { name := "relationsThree", fn := fun _ => fun
  | [d1, d2, d3] => { results := [.lit (.bool true)], args := [d1, d2, d3] }
  | _ => none }
def relationsThreeRow : OpenClaim := { program := "ytbghdnhhpanidaadoor", sum := "46d3bb5ef0aca12108ec6a1591ef3ba28e598bcdd24d70bf2bf226340b1ccd78", func := "circa/circalaw31.RelationsThree", spec := "relationsThree", inPlace := ["internal/abi.NoEscape", "internal/bytealg.MakeNoZero", "internal/bytealg.CountString", "internal/bytealg.IndexByteString", "internal/bytealg.IndexString"], unfollowed := true, recurses := true, named := ["unicode/utf8.first", "unicode/utf8.acceptRanges", "internal/bytealg.MaxLen"], apart := false, laid := [("unicode/utf8.acceptRanges", laid_unicode_utf8_acceptRanges), ("unicode/utf8.first", laid_unicode_utf8_first)] }
def RelationsThreeSaid : Prop := relationsThreeRow.holds Tryd.pinned (OpenSpec.ofChange relationsThreeSpec)

/-- ITS FALSE NEIGHBOUR: 'it returns false'. Refute it at one input. -/
def relationsThreeWrong : ChangeSpec := { name := "relationsThree", fn := fun _ => fun
  | [d1, d2, d3] => { results := [.lit (.bool false)], args := [d1, d2, d3] }
  | _ => none }
def RelationsThreeWrongFalsely : Prop := relationsThreeRow.holds Tryd.pinned (OpenSpec.ofChange relationsThreeWrong)

/-- 'circalaw31.RelationsText': WHATEVER THE INPUT: true; the input reads as it did. -/
def relationsTextSpec : ChangeSpec := { name := "relationsText", fn := fun _ => fun
  | [d1, d2] => { results := [.lit (.bool true)], args := [d1, d2] }
  | _ => none }
def relationsTextRow : OpenClaim := { program := "ytbghdnhhpanidaadoor", sum := "46d3bb5ef0aca12108ec6a1591ef3ba28e598bcdd24d70bf2bf226340b1ccd78", func := "circa/circalaw31.RelationsText", spec := "relationsText", inPlace := ["internal/abi.NoEscape", "internal/bytealg.MakeNoZero", "internal/bytealg.CountString", "internal/bytealg.IndexByteString", "internal/bytealg.IndexString"], unfollowed := true, recurses := true, named := ["unicode/utf8.first", "unicode/utf8.acceptRanges", "internal/bytealg.MaxLen"], apart := false, laid := [("unicode/utf8.acceptRanges", laid_unicode_utf8_acceptRanges), ("unicode/utf8.first", laid_unicode_utf8_first)] }
def RelationsTextSaid : Prop := relationsTextRow.holds Tryd.pinned (OpenSpec.ofChange relationsTextSpec)

/-- ITS FALSE NEIGHBOUR: 'it returns false'. Refute it at one input. -/
def relationsTextWrong : ChangeSpec := { name := "relationsText", fn := fun _ => fun
  | [d1, d2] => { results := [.lit (.bool false)], args := [d1, d2] }
  | _ => none }
def RelationsTextWrongFalsely : Prop := relationsTextRow.holds Tryd.pinned (OpenSpec.ofChange relationsTextWrong)

/-- 'circalaw31.RelationsNames': WHATEVER THE INPUT: true; the input reads as it did. -/
def relationsNamesSpec : ChangeSpec := { name := "relationsNames", fn := fun _ => fun
  | [d1, d2] => { results := [.lit (.bool true)], args := [d1, d2] }
  | _ => none }
def relationsNamesRow : OpenClaim := { program := "ytbghdnhhpanidaadoor", sum := "46d3bb5ef0aca12108ec6a1591ef3ba28e598bcdd24d70bf2bf226340b1ccd78", func := "circa/circalaw31.RelationsNames", spec := "relationsNames", inPlace := ["internal/abi.NoEscape", "internal/bytealg.MakeNoZero", "internal/bytealg.CountString", "internal/bytealg.IndexByteString", "internal/bytealg.IndexString"], unfollowed := true, recurses := true, named := ["unicode/utf8.first", "unicode/utf8.acceptRanges", "internal/bytealg.MaxLen"], apart := false, laid := [("unicode/utf8.acceptRanges", laid_unicode_utf8_acceptRanges), ("unicode/utf8.first", laid_unicode_utf8_first)] }
def RelationsNamesSaid : Prop := relationsNamesRow.holds Tryd.pinned (OpenSpec.ofChange relationsNamesSpec)

/-- ITS FALSE NEIGHBOUR: 'it returns false'. Refute it at one input. -/
def relationsNamesWrong : ChangeSpec := { name := "relationsNames", fn := fun _ => fun
  | [d1, d2] => { results := [.lit (.bool false)], args := [d1, d2] }
  | _ => none }
def RelationsNamesWrongFalsely : Prop := relationsNamesRow.holds Tryd.pinned (OpenSpec.ofChange relationsNamesWrong)

/-- 'circalaw31.RelationsSets': WHATEVER THE INPUT: true; the input reads as it did. -/
def relationsSetsSpec : ChangeSpec := { name := "relationsSets", fn := fun _ => fun
  | [d1, d2] => { results := [.lit (.bool true)], args := [d1, d2] }
  | _ => none }
def relationsSetsRow : OpenClaim := { program := "ytbghdnhhpanidaadoor", sum := "46d3bb5ef0aca12108ec6a1591ef3ba28e598bcdd24d70bf2bf226340b1ccd78", func := "circa/circalaw31.RelationsSets", spec := "relationsSets", inPlace := ["internal/abi.NoEscape", "internal/bytealg.MakeNoZero", "internal/bytealg.CountString", "internal/bytealg.IndexByteString", "internal/bytealg.IndexString"], unfollowed := true, recurses := true, named := ["unicode/utf8.first", "unicode/utf8.acceptRanges", "internal/bytealg.MaxLen"], apart := false, laid := [("unicode/utf8.acceptRanges", laid_unicode_utf8_acceptRanges), ("unicode/utf8.first", laid_unicode_utf8_first)] }
def RelationsSetsSaid : Prop := relationsSetsRow.holds Tryd.pinned (OpenSpec.ofChange relationsSetsSpec)

/-- ITS FALSE NEIGHBOUR: 'it returns false'. Refute it at one input. -/
def relationsSetsWrong : ChangeSpec := { name := "relationsSets", fn := fun _ => fun
  | [d1, d2] => { results := [.lit (.bool false)], args := [d1, d2] }
  | _ => none }
def RelationsSetsWrongFalsely : Prop := relationsSetsRow.holds Tryd.pinned (OpenSpec.ofChange relationsSetsWrong)

/-- 'circalaw31.RelationsKnown': WHATEVER THE INPUT: true; the input reads as it did. -/
def relationsKnownSpec : ChangeSpec := { name := "relationsKnown", fn := fun _ => fun
  | [] => { results := [.lit (.bool true)], args := [] }
  | _ => none }
def relationsKnownRow : OpenClaim := { program := "ytbghdnhhpanidaadoor", sum := "46d3bb5ef0aca12108ec6a1591ef3ba28e598bcdd24d70bf2bf226340b1ccd78", func := "circa/circalaw31.RelationsKnown", spec := "relationsKnown", inPlace := ["internal/abi.NoEscape", "internal/bytealg.MakeNoZero", "internal/bytealg.CountString", "internal/bytealg.IndexByteString", "internal/bytealg.IndexString"], unfollowed := true, recurses := true, named := ["unicode/utf8.first", "unicode/utf8.acceptRanges", "internal/bytealg.MaxLen"], apart := false, laid := [("unicode/utf8.acceptRanges", laid_unicode_utf8_acceptRanges), ("unicode/utf8.first", laid_unicode_utf8_first)] }
def RelationsKnownSaid : Prop := relationsKnownRow.holds Tryd.pinned (OpenSpec.ofChange relationsKnownSpec)

/-- ITS FALSE NEIGHBOUR: 'it returns false'. Refute it at one input. -/
def relationsKnownWrong : ChangeSpec := { name := "relationsKnown", fn := fun _ => fun
  | [] => { results := [.lit (.bool false)], args := [] }
  | _ => none }
def RelationsKnownWrongFalsely : Prop := relationsKnownRow.holds Tryd.pinned (OpenSpec.ofChange relationsKnownWrong)

/- THE SECOND FORM. 'bulk': how many values and letters a reading holds, each counted each time it is reached (what is shared counts as often as it is met; a slice's spare places count too). A statement '..UptoSaid' is the law's where the arguments, and the package variables that the reading takes, are together of bulk at most 1048576: NARROWER than '..Said'. Prove '..Said' where nothing that the law and all that it calls make is longer than what came in: it says more and counts as full. Else prove '..UptoSaid'. A law counts once. -/
mutual
def uptoBulk {H : Type} : DataW H → Nat
  | .lit (.string bytes) => bytes.length + 1
  | .lit _ => 1
  | .nil => 1
  | .ptr d => uptoBulk d + 1
  | .slice elems spare => uptoBulkAll elems + uptoBulkAll spare + 1
  | .agg parts => uptoBulkAll parts + 1
  | .iface _ d => uptoBulk d + 1
  | .map entries => uptoBulkEntries entries + 1
  | .held _ => 1
def uptoBulkAll {H : Type} : List (DataW H) → Nat
  | [] => 0
  | d :: r => uptoBulk d + uptoBulkAll r
def uptoBulkEntries {H : Type} : List (Lit × DataW H) → Nat
  | [] => 0
  | x :: r => uptoBulkEntry x + uptoBulkEntries r
def uptoBulkEntry {H : Type} : Lit × DataW H → Nat
  | (.string bytes, d) => bytes.length + uptoBulk d + 1
  | (_, d) => uptoBulk d + 1
 end
def uptoSmall : (H : Type) → List (DataW H) → Bool := fun _ ds => decide (uptoBulkAll ds ≤ 1048576)
def OpenSpec.upto (s : _root_.Go.ChangeSpec) : _root_.Go.OpenSpec := { _root_.Go.OpenSpec.ofChange s with cond := some uptoSmall }

/-- 'circalaw31.RelationsOf', WHERE WHAT IT READS IS OF BULK AT MOST 1048576: true; the input reads as it did. -/
def relationsOfUptoRow : OpenClaim := { program := "ytbghdnhhpanidaadoor", sum := "46d3bb5ef0aca12108ec6a1591ef3ba28e598bcdd24d70bf2bf226340b1ccd78", func := "circa/circalaw31.RelationsOf", spec := "relationsOf", inPlace := ["internal/abi.NoEscape", "internal/bytealg.MakeNoZero", "internal/bytealg.CountString", "internal/bytealg.IndexByteString", "internal/bytealg.IndexString"], unfollowed := true, recurses := true, named := ["unicode/utf8.first", "unicode/utf8.acceptRanges", "internal/bytealg.MaxLen"], apart := false, laid := [("unicode/utf8.acceptRanges", laid_unicode_utf8_acceptRanges), ("unicode/utf8.first", laid_unicode_utf8_first)], narrowed := true }
def RelationsOfUptoSaid : Prop := relationsOfUptoRow.holds Tryd.pinned (OpenSpec.upto relationsOfSpec)

/-- 'circalaw31.RelationsThree', WHERE WHAT IT READS IS OF BULK AT MOST 1048576: true; the input reads as it did. -/
def relationsThreeUptoRow : OpenClaim := { program := "ytbghdnhhpanidaadoor", sum := "46d3bb5ef0aca12108ec6a1591ef3ba28e598bcdd24d70bf2bf226340b1ccd78", func := "circa/circalaw31.RelationsThree", spec := "relationsThree", inPlace := ["internal/abi.NoEscape", "internal/bytealg.MakeNoZero", "internal/bytealg.CountString", "internal/bytealg.IndexByteString", "internal/bytealg.IndexString"], unfollowed := true, recurses := true, named := ["unicode/utf8.first", "unicode/utf8.acceptRanges", "internal/bytealg.MaxLen"], apart := false, laid := [("unicode/utf8.acceptRanges", laid_unicode_utf8_acceptRanges), ("unicode/utf8.first", laid_unicode_utf8_first)], narrowed := true }
def RelationsThreeUptoSaid : Prop := relationsThreeUptoRow.holds Tryd.pinned (OpenSpec.upto relationsThreeSpec)

/-- 'circalaw31.RelationsText', WHERE WHAT IT READS IS OF BULK AT MOST 1048576: true; the input reads as it did. -/
def relationsTextUptoRow : OpenClaim := { program := "ytbghdnhhpanidaadoor", sum := "46d3bb5ef0aca12108ec6a1591ef3ba28e598bcdd24d70bf2bf226340b1ccd78", func := "circa/circalaw31.RelationsText", spec := "relationsText", inPlace := ["internal/abi.NoEscape", "internal/bytealg.MakeNoZero", "internal/bytealg.CountString", "internal/bytealg.IndexByteString", "internal/bytealg.IndexString"], unfollowed := true, recurses := true, named := ["unicode/utf8.first", "unicode/utf8.acceptRanges", "internal/bytealg.MaxLen"], apart := false, laid := [("unicode/utf8.acceptRanges", laid_unicode_utf8_acceptRanges), ("unicode/utf8.first", laid_unicode_utf8_first)], narrowed := true }
def RelationsTextUptoSaid : Prop := relationsTextUptoRow.holds Tryd.pinned (OpenSpec.upto relationsTextSpec)

/-- 'circalaw31.RelationsNames', WHERE WHAT IT READS IS OF BULK AT MOST 1048576: true; the input reads as it did. -/
def relationsNamesUptoRow : OpenClaim := { program := "ytbghdnhhpanidaadoor", sum := "46d3bb5ef0aca12108ec6a1591ef3ba28e598bcdd24d70bf2bf226340b1ccd78", func := "circa/circalaw31.RelationsNames", spec := "relationsNames", inPlace := ["internal/abi.NoEscape", "internal/bytealg.MakeNoZero", "internal/bytealg.CountString", "internal/bytealg.IndexByteString", "internal/bytealg.IndexString"], unfollowed := true, recurses := true, named := ["unicode/utf8.first", "unicode/utf8.acceptRanges", "internal/bytealg.MaxLen"], apart := false, laid := [("unicode/utf8.acceptRanges", laid_unicode_utf8_acceptRanges), ("unicode/utf8.first", laid_unicode_utf8_first)], narrowed := true }
def RelationsNamesUptoSaid : Prop := relationsNamesUptoRow.holds Tryd.pinned (OpenSpec.upto relationsNamesSpec)

/-- 'circalaw31.RelationsSets', WHERE WHAT IT READS IS OF BULK AT MOST 1048576: true; the input reads as it did. -/
def relationsSetsUptoRow : OpenClaim := { program := "ytbghdnhhpanidaadoor", sum := "46d3bb5ef0aca12108ec6a1591ef3ba28e598bcdd24d70bf2bf226340b1ccd78", func := "circa/circalaw31.RelationsSets", spec := "relationsSets", inPlace := ["internal/abi.NoEscape", "internal/bytealg.MakeNoZero", "internal/bytealg.CountString", "internal/bytealg.IndexByteString", "internal/bytealg.IndexString"], unfollowed := true, recurses := true, named := ["unicode/utf8.first", "unicode/utf8.acceptRanges", "internal/bytealg.MaxLen"], apart := false, laid := [("unicode/utf8.acceptRanges", laid_unicode_utf8_acceptRanges), ("unicode/utf8.first", laid_unicode_utf8_first)], narrowed := true }
def RelationsSetsUptoSaid : Prop := relationsSetsUptoRow.holds Tryd.pinned (OpenSpec.upto relationsSetsSpec)

/-- 'circalaw31.RelationsKnown', WHERE WHAT IT READS IS OF BULK AT MOST 1048576: true; the input reads as it did. -/
def relationsKnownUptoRow : OpenClaim := { program := "ytbghdnhhpanidaadoor", sum := "46d3bb5ef0aca12108ec6a1591ef3ba28e598bcdd24d70bf2bf226340b1ccd78", func := "circa/circalaw31.RelationsKnown", spec := "relationsKnown", inPlace := ["internal/abi.NoEscape", "internal/bytealg.MakeNoZero", "internal/bytealg.CountString", "internal/bytealg.IndexByteString", "internal/bytealg.IndexString"], unfollowed := true, recurses := true, named := ["unicode/utf8.first", "unicode/utf8.acceptRanges", "internal/bytealg.MaxLen"], apart := false, laid := [("unicode/utf8.acceptRanges", laid_unicode_utf8_acceptRanges), ("unicode/utf8.first", laid_unicode_utf8_first)], narrowed := true }
def RelationsKnownUptoSaid : Prop := relationsKnownUptoRow.holds Tryd.pinned (OpenSpec.upto relationsKnownSpec)

end Rows
end Go.Proofs.YtbghdnhhpanidaaDoor
