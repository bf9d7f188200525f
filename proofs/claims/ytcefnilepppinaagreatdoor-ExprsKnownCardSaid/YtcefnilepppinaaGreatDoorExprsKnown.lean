/-
  ExprsKnown: the frame of its proof, printed by frame.py after the kit's skeleton; the walk is a certificate and a plain law.
  Conditions: none.
-/
import Derived.Test.YtcefnilepppinaaGreatDoorExprsKnownB
namespace Go.Proofs.YtcefnilepppinaaGreatDoor.exprsKnown
open Go.ChangeShapes Go.WideShapes Go.ChangeAt Go.RowKit
open Go.ChangeMaps (open_string shut_string)
set_option linter.unusedVariables false

theorem proved : Rows.ExprsKnownCardSaid :=
  Claim7.holds_tied_plain_at .later [] [.data, .data, .data, .data, .sentinel, .sentinel, .data, .data, .data, .pinned] true (true, "bcbe76344c1868eec8a4d4a8cc1204abe7c5619719951e195fb19bd9aa7dddfc") true over (fun _ h => by cases h) (by kernel_rfl) (fun _ h => by cases h) exprsKnown_row_tie rfl ⟨rfl, rfl⟩ (by kernel_rfl) rfl
    (fun f fn hf hfn => by
      obtain rfl : f = 3 := Option.some.inj ((show Tryz.prog.funcNamed "circa/circalaw18.ExprsKnown" = some 3 by kernel_rfl).symm.trans hf) |>.symm
      obtain rfl : fn = Tryz.f3 := (Option.some.inj (Tryz.func3.symm.trans hfn)).symm
      exact ⟨by kernel_rfl, fun j t ht => by rw [Tryz.params3] at ht; simp at ht⟩)
    (by kernel_rfl)
end Go.Proofs.YtcefnilepppinaaGreatDoor.exprsKnown
