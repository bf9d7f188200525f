/-
  No cell of these rows narrows 'for every input' (looked for: loops, veiled, ifaces, maps, wideKeys, modest, calm, conditions, laid).
  DERIVED. THE GIVEN ROWS OF THIS SEAT. 12 by the template 'for every input the law returns true; each argument reads behind the call as it read before'; 0 by the template 'total and deterministic' (their statements: YtpbhbpjobkdgmaaTotals.lean).
  GIVEN WITH THE SEED: the statements are not yours to turn. If you find one false, say at which input.
  Laid BY PROGRAM, IN A SANDBOX (cutbox-rows.mjs): the forced cells as the released guide's own fill.sh prints them over the translation 7b8d922fa075812e… (all of the seat's roots in one cut). By AI agents, Wed Nov 11 2026. No macro, syntax, notation, axiom, sorry.
-/
import Derived.Test.YtpbhbpjobkdgmaaChecked
import GoSem.Claim
import GoSem.ClaimJoined
import GoSem.ClaimMapViews
import Derived.JoinedTies
import Derived.KernelRfl
namespace Go.Proofs.Ytpbhbpjobkdgmaa
/- THE CELL 'sum', in the pinned program and in every row, IS THE sha256 OF THE DUMP (.gsa) THAT YtpbhbpjobkdgmaaProg.lean LOADS. Nothing in Lean hashes anything: it is a label: what it is worth is what the hold of that sum in a sandbox is worth. -/
noncomputable def Try.pinned : Pinned := { name := "ytpbhbpjobkdgmaa", sum := "7b8d922fa075812e0903879140af65ac86306d663dfca107c8fb6e747807e20c", checked := Try.checked }
namespace Rows
def none {H : Type} : Left H := { results := [], args := [] }

/-- 'circalaw13.MarksSpread': WHATEVER THE INPUT: true; the input reads as it did. -/
def marksSpreadSpec : ChangeSpec := { name := "marksSpread", fn := fun _ => fun
  | [d1, d2, d3] => { results := [.lit (.bool true)], args := [d1, d2, d3] }
  | _ => none }
def marksSpreadRow : OpenClaim := { program := "ytpbhbpjobkdgmaa", sum := "7b8d922fa075812e0903879140af65ac86306d663dfca107c8fb6e747807e20c", func := "circa/circalaw13.MarksSpread", spec := "marksSpread", unfollowed := true, recurses := true, apart := false }
def MarksSpreadSaid : Prop := marksSpreadRow.holds Try.pinned (OpenSpec.ofChange marksSpreadSpec)

/-- ITS FALSE NEIGHBOUR: 'it returns false'. Refute it at one input. -/
def marksSpreadWrong : ChangeSpec := { name := "marksSpread", fn := fun _ => fun
  | [d1, d2, d3] => { results := [.lit (.bool false)], args := [d1, d2, d3] }
  | _ => none }
def MarksSpreadWrongFalsely : Prop := marksSpreadRow.holds Try.pinned (OpenSpec.ofChange marksSpreadWrong)

/-- 'circalaw13.MarksPlain': WHATEVER THE INPUT: true; the input reads as it did. -/
def marksPlainSpec : ChangeSpec := { name := "marksPlain", fn := fun _ => fun
  | [d1, d2] => { results := [.lit (.bool true)], args := [d1, d2] }
  | _ => none }
def marksPlainRow : OpenClaim := { program := "ytpbhbpjobkdgmaa", sum := "7b8d922fa075812e0903879140af65ac86306d663dfca107c8fb6e747807e20c", func := "circa/circalaw13.MarksPlain", spec := "marksPlain", unfollowed := true, recurses := true, apart := false }
def MarksPlainSaid : Prop := marksPlainRow.holds Try.pinned (OpenSpec.ofChange marksPlainSpec)

/-- ITS FALSE NEIGHBOUR: 'it returns false'. Refute it at one input. -/
def marksPlainWrong : ChangeSpec := { name := "marksPlain", fn := fun _ => fun
  | [d1, d2] => { results := [.lit (.bool false)], args := [d1, d2] }
  | _ => none }
def MarksPlainWrongFalsely : Prop := marksPlainRow.holds Try.pinned (OpenSpec.ofChange marksPlainWrong)

/-- 'circalaw13.MarksBytes': WHATEVER THE INPUT: true; the input reads as it did. -/
def marksBytesSpec : ChangeSpec := { name := "marksBytes", fn := fun _ => fun
  | [d1, d2, d3] => { results := [.lit (.bool true)], args := [d1, d2, d3] }
  | _ => none }
def marksBytesRow : OpenClaim := { program := "ytpbhbpjobkdgmaa", sum := "7b8d922fa075812e0903879140af65ac86306d663dfca107c8fb6e747807e20c", func := "circa/circalaw13.MarksBytes", spec := "marksBytes", unfollowed := true, recurses := true, apart := false }
def MarksBytesSaid : Prop := marksBytesRow.holds Try.pinned (OpenSpec.ofChange marksBytesSpec)

/-- ITS FALSE NEIGHBOUR: 'it returns false'. Refute it at one input. -/
def marksBytesWrong : ChangeSpec := { name := "marksBytes", fn := fun _ => fun
  | [d1, d2, d3] => { results := [.lit (.bool false)], args := [d1, d2, d3] }
  | _ => none }
def MarksBytesWrongFalsely : Prop := marksBytesRow.holds Try.pinned (OpenSpec.ofChange marksBytesWrong)

/-- 'circalaw13.MarksKnown': WHATEVER THE INPUT: true; the input reads as it did. -/
def marksKnownSpec : ChangeSpec := { name := "marksKnown", fn := fun _ => fun
  | [] => { results := [.lit (.bool true)], args := [] }
  | _ => none }
def marksKnownRow : OpenClaim := { program := "ytpbhbpjobkdgmaa", sum := "7b8d922fa075812e0903879140af65ac86306d663dfca107c8fb6e747807e20c", func := "circa/circalaw13.MarksKnown", spec := "marksKnown", unfollowed := true, recurses := true, apart := false }
def MarksKnownSaid : Prop := marksKnownRow.holds Try.pinned (OpenSpec.ofChange marksKnownSpec)

/-- ITS FALSE NEIGHBOUR: 'it returns false'. Refute it at one input. -/
def marksKnownWrong : ChangeSpec := { name := "marksKnown", fn := fun _ => fun
  | [] => { results := [.lit (.bool false)], args := [] }
  | _ => none }
def MarksKnownWrongFalsely : Prop := marksKnownRow.holds Try.pinned (OpenSpec.ofChange marksKnownWrong)

/-- 'circalaw12.CursorsPlay': WHATEVER THE INPUT: true; the input reads as it did. -/
def cursorsPlaySpec : ChangeSpec := { name := "cursorsPlay", fn := fun _ => fun
  | [d1, d2] => { results := [.lit (.bool true)], args := [d1, d2] }
  | _ => none }
def cursorsPlayRow : OpenClaim := { program := "ytpbhbpjobkdgmaa", sum := "7b8d922fa075812e0903879140af65ac86306d663dfca107c8fb6e747807e20c", func := "circa/circalaw12.CursorsPlay", spec := "cursorsPlay", inPlace := ["internal/bytealg.IndexByteString"], unfollowed := true, recurses := true, apart := false }
def CursorsPlaySaid : Prop := cursorsPlayRow.holds Try.pinned (OpenSpec.ofChange cursorsPlaySpec)

/-- ITS FALSE NEIGHBOUR: 'it returns false'. Refute it at one input. -/
def cursorsPlayWrong : ChangeSpec := { name := "cursorsPlay", fn := fun _ => fun
  | [d1, d2] => { results := [.lit (.bool false)], args := [d1, d2] }
  | _ => none }
def CursorsPlayWrongFalsely : Prop := cursorsPlayRow.holds Try.pinned (OpenSpec.ofChange cursorsPlayWrong)

/-- 'circalaw12.CursorsNil': WHATEVER THE INPUT: true; the input reads as it did. -/
def cursorsNilSpec : ChangeSpec := { name := "cursorsNil", fn := fun _ => fun
  | [d1, d2] => { results := [.lit (.bool true)], args := [d1, d2] }
  | _ => none }
def cursorsNilRow : OpenClaim := { program := "ytpbhbpjobkdgmaa", sum := "7b8d922fa075812e0903879140af65ac86306d663dfca107c8fb6e747807e20c", func := "circa/circalaw12.CursorsNil", spec := "cursorsNil", inPlace := ["internal/bytealg.IndexByteString"], unfollowed := true, recurses := true, apart := false }
def CursorsNilSaid : Prop := cursorsNilRow.holds Try.pinned (OpenSpec.ofChange cursorsNilSpec)

/-- ITS FALSE NEIGHBOUR: 'it returns false'. Refute it at one input. -/
def cursorsNilWrong : ChangeSpec := { name := "cursorsNil", fn := fun _ => fun
  | [d1, d2] => { results := [.lit (.bool false)], args := [d1, d2] }
  | _ => none }
def CursorsNilWrongFalsely : Prop := cursorsNilRow.holds Try.pinned (OpenSpec.ofChange cursorsNilWrong)

/-- 'circalaw12.CursorsKnown': WHATEVER THE INPUT: true; the input reads as it did. -/
def cursorsKnownSpec : ChangeSpec := { name := "cursorsKnown", fn := fun _ => fun
  | [] => { results := [.lit (.bool true)], args := [] }
  | _ => none }
def cursorsKnownRow : OpenClaim := { program := "ytpbhbpjobkdgmaa", sum := "7b8d922fa075812e0903879140af65ac86306d663dfca107c8fb6e747807e20c", func := "circa/circalaw12.CursorsKnown", spec := "cursorsKnown", inPlace := ["internal/bytealg.IndexByteString"], unfollowed := true, recurses := true, apart := false }
def CursorsKnownSaid : Prop := cursorsKnownRow.holds Try.pinned (OpenSpec.ofChange cursorsKnownSpec)

/-- ITS FALSE NEIGHBOUR: 'it returns false'. Refute it at one input. -/
def cursorsKnownWrong : ChangeSpec := { name := "cursorsKnown", fn := fun _ => fun
  | [] => { results := [.lit (.bool false)], args := [] }
  | _ => none }
def CursorsKnownWrongFalsely : Prop := cursorsKnownRow.holds Try.pinned (OpenSpec.ofChange cursorsKnownWrong)

/-- 'circalaw03.MasksNumbers': WHATEVER THE INPUT: true; the input reads as it did. -/
def masksNumbersSpec : ChangeSpec := { name := "masksNumbers", fn := fun _ => fun
  | [d1, d2, d3] => { results := [.lit (.bool true)], args := [d1, d2, d3] }
  | _ => none }
def masksNumbersRow : OpenClaim := { program := "ytpbhbpjobkdgmaa", sum := "7b8d922fa075812e0903879140af65ac86306d663dfca107c8fb6e747807e20c", func := "circa/circalaw03.MasksNumbers", spec := "masksNumbers", inPlace := ["internal/bytealg.CountString", "internal/bytealg.IndexByteString", "internal/bytealg.IndexString"], named := ["internal/bytealg.MaxLen"], apart := false }
def MasksNumbersSaid : Prop := masksNumbersRow.holds Try.pinned (OpenSpec.ofChange masksNumbersSpec)

/-- ITS FALSE NEIGHBOUR: 'it returns false'. Refute it at one input. -/
def masksNumbersWrong : ChangeSpec := { name := "masksNumbers", fn := fun _ => fun
  | [d1, d2, d3] => { results := [.lit (.bool false)], args := [d1, d2, d3] }
  | _ => none }
def MasksNumbersWrongFalsely : Prop := masksNumbersRow.holds Try.pinned (OpenSpec.ofChange masksNumbersWrong)

/-- 'circalaw03.MasksNext': WHATEVER THE INPUT: true; the input reads as it did. -/
def masksNextSpec : ChangeSpec := { name := "masksNext", fn := fun _ => fun
  | [d1, d2, d3] => { results := [.lit (.bool true)], args := [d1, d2, d3] }
  | _ => none }
def masksNextRow : OpenClaim := { program := "ytpbhbpjobkdgmaa", sum := "7b8d922fa075812e0903879140af65ac86306d663dfca107c8fb6e747807e20c", func := "circa/circalaw03.MasksNext", spec := "masksNext", inPlace := ["internal/bytealg.CountString", "internal/bytealg.IndexByteString", "internal/bytealg.IndexString"], named := ["internal/bytealg.MaxLen"], apart := false }
def MasksNextSaid : Prop := masksNextRow.holds Try.pinned (OpenSpec.ofChange masksNextSpec)

/-- ITS FALSE NEIGHBOUR: 'it returns false'. Refute it at one input. -/
def masksNextWrong : ChangeSpec := { name := "masksNext", fn := fun _ => fun
  | [d1, d2, d3] => { results := [.lit (.bool false)], args := [d1, d2, d3] }
  | _ => none }
def MasksNextWrongFalsely : Prop := masksNextRow.holds Try.pinned (OpenSpec.ofChange masksNextWrong)

/-- 'circalaw03.MasksCommon': WHATEVER THE INPUT: true; the input reads as it did. -/
def masksCommonSpec : ChangeSpec := { name := "masksCommon", fn := fun _ => fun
  | [d1, d2, d3] => { results := [.lit (.bool true)], args := [d1, d2, d3] }
  | _ => none }
def masksCommonRow : OpenClaim := { program := "ytpbhbpjobkdgmaa", sum := "7b8d922fa075812e0903879140af65ac86306d663dfca107c8fb6e747807e20c", func := "circa/circalaw03.MasksCommon", spec := "masksCommon", inPlace := ["internal/bytealg.CountString", "internal/bytealg.IndexByteString", "internal/bytealg.IndexString"], named := ["internal/bytealg.MaxLen"], apart := false }
def MasksCommonSaid : Prop := masksCommonRow.holds Try.pinned (OpenSpec.ofChange masksCommonSpec)

/-- ITS FALSE NEIGHBOUR: 'it returns false'. Refute it at one input. -/
def masksCommonWrong : ChangeSpec := { name := "masksCommon", fn := fun _ => fun
  | [d1, d2, d3] => { results := [.lit (.bool false)], args := [d1, d2, d3] }
  | _ => none }
def MasksCommonWrongFalsely : Prop := masksCommonRow.holds Try.pinned (OpenSpec.ofChange masksCommonWrong)

/-- 'circalaw03.MasksErrors': WHATEVER THE INPUT: true; the input reads as it did. -/
def masksErrorsSpec : ChangeSpec := { name := "masksErrors", fn := fun _ => fun
  | [d1, d2, d3] => { results := [.lit (.bool true)], args := [d1, d2, d3] }
  | _ => none }
def masksErrorsRow : OpenClaim := { program := "ytpbhbpjobkdgmaa", sum := "7b8d922fa075812e0903879140af65ac86306d663dfca107c8fb6e747807e20c", func := "circa/circalaw03.MasksErrors", spec := "masksErrors", inPlace := ["internal/bytealg.CountString", "internal/bytealg.IndexByteString", "internal/bytealg.IndexString"], named := ["internal/bytealg.MaxLen"], apart := false }
def MasksErrorsSaid : Prop := masksErrorsRow.holds Try.pinned (OpenSpec.ofChange masksErrorsSpec)

/-- ITS FALSE NEIGHBOUR: 'it returns false'. Refute it at one input. -/
def masksErrorsWrong : ChangeSpec := { name := "masksErrors", fn := fun _ => fun
  | [d1, d2, d3] => { results := [.lit (.bool false)], args := [d1, d2, d3] }
  | _ => none }
def MasksErrorsWrongFalsely : Prop := masksErrorsRow.holds Try.pinned (OpenSpec.ofChange masksErrorsWrong)

/-- 'circalaw03.MasksKnown': WHATEVER THE INPUT: true; the input reads as it did. -/
def masksKnownSpec : ChangeSpec := { name := "masksKnown", fn := fun _ => fun
  | [] => { results := [.lit (.bool true)], args := [] }
  | _ => none }
def masksKnownRow : OpenClaim := { program := "ytpbhbpjobkdgmaa", sum := "7b8d922fa075812e0903879140af65ac86306d663dfca107c8fb6e747807e20c", func := "circa/circalaw03.MasksKnown", spec := "masksKnown", inPlace := ["internal/bytealg.CountString", "internal/bytealg.IndexByteString", "internal/bytealg.IndexString"], named := ["internal/bytealg.MaxLen"], apart := false }
def MasksKnownSaid : Prop := masksKnownRow.holds Try.pinned (OpenSpec.ofChange masksKnownSpec)

/-- ITS FALSE NEIGHBOUR: 'it returns false'. Refute it at one input. -/
def masksKnownWrong : ChangeSpec := { name := "masksKnown", fn := fun _ => fun
  | [] => { results := [.lit (.bool false)], args := [] }
  | _ => none }
def MasksKnownWrongFalsely : Prop := masksKnownRow.holds Try.pinned (OpenSpec.ofChange masksKnownWrong)

/- THE SECOND FORM. 'bulk': how many values and letters a reading holds, each counted each time it is reached (what is shared counts as often as it is met; a slice's spare places count too). A statement '..UptoSaid' is the law's where the arguments, and the package variables that the reading takes, are together of bulk at most 1048576: NARROWER than '..Said'. Prove '..Said' where nothing that the law and all that it calls make is longer than what came in: it says more and counts as full. Else prove '..UptoSaid'. A law counts once. -/
mutual
def uptoBulk {H : Type} : DataW H → Nat
  | .lit (.string bytes) => bytes.length + 1
  | .lit _ => 1
  | .nil => 1
  | .ptr d => uptoBulk d + 1
  | .slice elems spare => uptoBulkAll elems + uptoBulkAll spare + 1
  | .agg parts => uptoBulkAll parts + 1
  | .iface _ d => uptoBulk d + 1
  | .map entries => uptoBulkEntries entries + 1
  | .held _ => 1
def uptoBulkAll {H : Type} : List (DataW H) → Nat
  | [] => 0
  | d :: r => uptoBulk d + uptoBulkAll r
def uptoBulkEntries {H : Type} : List (Lit × DataW H) → Nat
  | [] => 0
  | x :: r => uptoBulkEntry x + uptoBulkEntries r
def uptoBulkEntry {H : Type} : Lit × DataW H → Nat
  | (.string bytes, d) => bytes.length + uptoBulk d + 1
  | (_, d) => uptoBulk d + 1
 end
def uptoSmall : (H : Type) → List (DataW H) → Bool := fun _ ds => decide (uptoBulkAll ds ≤ 1048576)
def OpenSpec.upto (s : _root_.Go.ChangeSpec) : _root_.Go.OpenSpec := { _root_.Go.OpenSpec.ofChange s with cond := some uptoSmall }

/-- 'circalaw13.MarksSpread', WHERE WHAT IT READS IS OF BULK AT MOST 1048576: true; the input reads as it did. -/
def marksSpreadUptoRow : OpenClaim := { program := "ytpbhbpjobkdgmaa", sum := "7b8d922fa075812e0903879140af65ac86306d663dfca107c8fb6e747807e20c", func := "circa/circalaw13.MarksSpread", spec := "marksSpread", unfollowed := true, recurses := true, apart := false, narrowed := true }
def MarksSpreadUptoSaid : Prop := marksSpreadUptoRow.holds Try.pinned (OpenSpec.upto marksSpreadSpec)

/-- 'circalaw13.MarksPlain', WHERE WHAT IT READS IS OF BULK AT MOST 1048576: true; the input reads as it did. -/
def marksPlainUptoRow : OpenClaim := { program := "ytpbhbpjobkdgmaa", sum := "7b8d922fa075812e0903879140af65ac86306d663dfca107c8fb6e747807e20c", func := "circa/circalaw13.MarksPlain", spec := "marksPlain", unfollowed := true, recurses := true, apart := false, narrowed := true }
def MarksPlainUptoSaid : Prop := marksPlainUptoRow.holds Try.pinned (OpenSpec.upto marksPlainSpec)

/-- 'circalaw13.MarksBytes', WHERE WHAT IT READS IS OF BULK AT MOST 1048576: true; the input reads as it did. -/
def marksBytesUptoRow : OpenClaim := { program := "ytpbhbpjobkdgmaa", sum := "7b8d922fa075812e0903879140af65ac86306d663dfca107c8fb6e747807e20c", func := "circa/circalaw13.MarksBytes", spec := "marksBytes", unfollowed := true, recurses := true, apart := false, narrowed := true }
def MarksBytesUptoSaid : Prop := marksBytesUptoRow.holds Try.pinned (OpenSpec.upto marksBytesSpec)

/-- 'circalaw13.MarksKnown', WHERE WHAT IT READS IS OF BULK AT MOST 1048576: true; the input reads as it did. -/
def marksKnownUptoRow : OpenClaim := { program := "ytpbhbpjobkdgmaa", sum := "7b8d922fa075812e0903879140af65ac86306d663dfca107c8fb6e747807e20c", func := "circa/circalaw13.MarksKnown", spec := "marksKnown", unfollowed := true, recurses := true, apart := false, narrowed := true }
def MarksKnownUptoSaid : Prop := marksKnownUptoRow.holds Try.pinned (OpenSpec.upto marksKnownSpec)

/-- 'circalaw12.CursorsPlay', WHERE WHAT IT READS IS OF BULK AT MOST 1048576: true; the input reads as it did. -/
def cursorsPlayUptoRow : OpenClaim := { program := "ytpbhbpjobkdgmaa", sum := "7b8d922fa075812e0903879140af65ac86306d663dfca107c8fb6e747807e20c", func := "circa/circalaw12.CursorsPlay", spec := "cursorsPlay", inPlace := ["internal/bytealg.IndexByteString"], unfollowed := true, recurses := true, apart := false, narrowed := true }
def CursorsPlayUptoSaid : Prop := cursorsPlayUptoRow.holds Try.pinned (OpenSpec.upto cursorsPlaySpec)

/-- 'circalaw12.CursorsNil', WHERE WHAT IT READS IS OF BULK AT MOST 1048576: true; the input reads as it did. -/
def cursorsNilUptoRow : OpenClaim := { program := "ytpbhbpjobkdgmaa", sum := "7b8d922fa075812e0903879140af65ac86306d663dfca107c8fb6e747807e20c", func := "circa/circalaw12.CursorsNil", spec := "cursorsNil", inPlace := ["internal/bytealg.IndexByteString"], unfollowed := true, recurses := true, apart := false, narrowed := true }
def CursorsNilUptoSaid : Prop := cursorsNilUptoRow.holds Try.pinned (OpenSpec.upto cursorsNilSpec)

/-- 'circalaw12.CursorsKnown', WHERE WHAT IT READS IS OF BULK AT MOST 1048576: true; the input reads as it did. -/
def cursorsKnownUptoRow : OpenClaim := { program := "ytpbhbpjobkdgmaa", sum := "7b8d922fa075812e0903879140af65ac86306d663dfca107c8fb6e747807e20c", func := "circa/circalaw12.CursorsKnown", spec := "cursorsKnown", inPlace := ["internal/bytealg.IndexByteString"], unfollowed := true, recurses := true, apart := false, narrowed := true }
def CursorsKnownUptoSaid : Prop := cursorsKnownUptoRow.holds Try.pinned (OpenSpec.upto cursorsKnownSpec)

/-- 'circalaw03.MasksNumbers', WHERE WHAT IT READS IS OF BULK AT MOST 1048576: true; the input reads as it did. -/
def masksNumbersUptoRow : OpenClaim := { program := "ytpbhbpjobkdgmaa", sum := "7b8d922fa075812e0903879140af65ac86306d663dfca107c8fb6e747807e20c", func := "circa/circalaw03.MasksNumbers", spec := "masksNumbers", inPlace := ["internal/bytealg.CountString", "internal/bytealg.IndexByteString", "internal/bytealg.IndexString"], named := ["internal/bytealg.MaxLen"], apart := false, narrowed := true }
def MasksNumbersUptoSaid : Prop := masksNumbersUptoRow.holds Try.pinned (OpenSpec.upto masksNumbersSpec)

/-- 'circalaw03.MasksNext', WHERE WHAT IT READS IS OF BULK AT MOST 1048576: true; the input reads as it did. -/
def masksNextUptoRow : OpenClaim := { program := "ytpbhbpjobkdgmaa", sum := "7b8d922fa075812e0903879140af65ac86306d663dfca107c8fb6e747807e20c", func := "circa/circalaw03.MasksNext", spec := "masksNext", inPlace := ["internal/bytealg.CountString", "internal/bytealg.IndexByteString", "internal/bytealg.IndexString"], named := ["internal/bytealg.MaxLen"], apart := false, narrowed := true }
def MasksNextUptoSaid : Prop := masksNextUptoRow.holds Try.pinned (OpenSpec.upto masksNextSpec)

/-- 'circalaw03.MasksCommon', WHERE WHAT IT READS IS OF BULK AT MOST 1048576: true; the input reads as it did. -/
def masksCommonUptoRow : OpenClaim := { program := "ytpbhbpjobkdgmaa", sum := "7b8d922fa075812e0903879140af65ac86306d663dfca107c8fb6e747807e20c", func := "circa/circalaw03.MasksCommon", spec := "masksCommon", inPlace := ["internal/bytealg.CountString", "internal/bytealg.IndexByteString", "internal/bytealg.IndexString"], named := ["internal/bytealg.MaxLen"], apart := false, narrowed := true }
def MasksCommonUptoSaid : Prop := masksCommonUptoRow.holds Try.pinned (OpenSpec.upto masksCommonSpec)

/-- 'circalaw03.MasksErrors', WHERE WHAT IT READS IS OF BULK AT MOST 1048576: true; the input reads as it did. -/
def masksErrorsUptoRow : OpenClaim := { program := "ytpbhbpjobkdgmaa", sum := "7b8d922fa075812e0903879140af65ac86306d663dfca107c8fb6e747807e20c", func := "circa/circalaw03.MasksErrors", spec := "masksErrors", inPlace := ["internal/bytealg.CountString", "internal/bytealg.IndexByteString", "internal/bytealg.IndexString"], named := ["internal/bytealg.MaxLen"], apart := false, narrowed := true }
def MasksErrorsUptoSaid : Prop := masksErrorsUptoRow.holds Try.pinned (OpenSpec.upto masksErrorsSpec)

/-- 'circalaw03.MasksKnown', WHERE WHAT IT READS IS OF BULK AT MOST 1048576: true; the input reads as it did. -/
def masksKnownUptoRow : OpenClaim := { program := "ytpbhbpjobkdgmaa", sum := "7b8d922fa075812e0903879140af65ac86306d663dfca107c8fb6e747807e20c", func := "circa/circalaw03.MasksKnown", spec := "masksKnown", inPlace := ["internal/bytealg.CountString", "internal/bytealg.IndexByteString", "internal/bytealg.IndexString"], named := ["internal/bytealg.MaxLen"], apart := false, narrowed := true }
def MasksKnownUptoSaid : Prop := masksKnownUptoRow.holds Try.pinned (OpenSpec.upto masksKnownSpec)

end Rows
end Go.Proofs.Ytpbhbpjobkdgmaa
