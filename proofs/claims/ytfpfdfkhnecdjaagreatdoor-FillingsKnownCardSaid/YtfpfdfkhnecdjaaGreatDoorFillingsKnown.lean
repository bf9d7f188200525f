/-
  FillingsKnown: the frame of its proof, printed by frame.py after the kit's skeleton; the walk is a certificate and a plain law.
  Conditions: none.
-/
import Derived.Test.YtfpfdfkhnecdjaaGreatDoorFillingsKnownB
namespace Go.Proofs.YtfpfdfkhnecdjaaGreatDoor.fillingsKnown
open Go.ChangeShapes Go.WideShapes Go.ChangeAt Go.RowKit
open Go.ChangeMaps (open_string shut_string)
set_option linter.unusedVariables false
theorem proved : Rows.FillingsKnownCardSaid :=
  Claim7.holds_tied_plain_at .later [] [.data, .data, .data, .data, .sentinel, .sentinel, .data, .data, .data, .pinned] true (true, "8db240f98a539b18c7e6870aa62a2e650d71005cccf31a4458d17f6eaa5384b1") true over (fun _ h => by cases h) (by kernel_rfl) (fun _ h => by cases h) fillingsKnown_row_tie rfl ⟨rfl, rfl⟩ (by kernel_rfl) rfl
    (fun f fn hf hfn => by
      obtain rfl : f = 7 := Option.some.inj ((show Tryz.prog.funcNamed "circa/circalaw16.FillingsKnown" = some 7 by kernel_rfl).symm.trans hf) |>.symm
      obtain rfl : fn = Tryz.f7 := (Option.some.inj (Tryz.func7.symm.trans hfn)).symm
      exact ⟨by kernel_rfl, fun j t ht => by rw [Tryz.params7] at ht; simp at ht⟩)
    (by kernel_rfl)
end Go.Proofs.YtfpfdfkhnecdjaaGreatDoor.fillingsKnown
