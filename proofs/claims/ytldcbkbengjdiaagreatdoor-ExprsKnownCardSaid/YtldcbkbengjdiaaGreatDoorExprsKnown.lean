/-
  ExprsKnown: the frame of its proof, printed by frame.py after the kit's skeleton; the walk is a certificate and a plain law.
  Conditions: none.
-/
import Derived.Test.YtldcbkbengjdiaaGreatDoorExprsKnownB
namespace Go.Proofs.YtldcbkbengjdiaaGreatDoor.exprsKnown
open Go.ChangeShapes Go.WideShapes Go.ChangeAt Go.RowKit
open Go.ChangeMaps (open_string shut_string)
set_option linter.unusedVariables false

theorem proved : Rows.ExprsKnownCardSaid :=
  Claim7.holds_tied_plain_at .later [] [.data, .data, .data, .data, .sentinel, .sentinel, .data, .data, .data, .pinned] true (true, "f941fa2a2912a2341021807c14a143db6067d9fb63dda3d2b58dbbdf2da2a7b7") true over (fun _ h => by cases h) (by kernel_rfl) (fun _ h => by cases h) exprsKnown_row_tie rfl ⟨rfl, rfl⟩ (by kernel_rfl) rfl
    (fun f fn hf hfn => by
      obtain rfl : f = 9 := Option.some.inj ((show Tryz.prog.funcNamed "circa/circalaw18.ExprsKnown" = some 9 by kernel_rfl).symm.trans hf) |>.symm
      obtain rfl : fn = Tryz.f9 := (Option.some.inj (Tryz.func9.symm.trans hfn)).symm
      exact ⟨by kernel_rfl, fun j t ht => by rw [Tryz.params9] at ht; simp at ht⟩)
    (by kernel_rfl)
end Go.Proofs.YtldcbkbengjdiaaGreatDoor.exprsKnown
