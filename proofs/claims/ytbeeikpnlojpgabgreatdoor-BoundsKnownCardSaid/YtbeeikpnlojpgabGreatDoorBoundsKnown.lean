/-
  BoundsKnown: the frame of its proof, printed by frame.py after the kit's skeleton; the walk is a certificate and a plain law.
  Conditions: none.
-/
import Derived.Test.YtbeeikpnlojpgabGreatDoorBoundsKnownB
namespace Go.Proofs.YtbeeikpnlojpgabGreatDoor.boundsKnown
open Go.ChangeShapes Go.WideShapes Go.ChangeAt Go.RowKit
open Go.ChangeMaps (open_string shut_string)
set_option linter.unusedVariables false

theorem proved : Rows.BoundsKnownCardSaid :=
  Claim7.holds_tied_plain_at .later [] [.data, .data, .data, .data, .sentinel, .sentinel, .data, .data, .data, .pinned] true (true, "4d67d7a91669cbe11fa0f9a264e68cb67a66eb782d1f251d5d1f5433d508ef85") true over (fun _ h => by cases h) (by kernel_rfl) (fun _ h => by cases h) boundsKnown_row_tie rfl ⟨rfl, rfl⟩ (by kernel_rfl) rfl
    (fun f fn hf hfn => by
      obtain rfl : f = 3 := Option.some.inj ((show Tryz.prog.funcNamed "circa/circalaw17.BoundsKnown" = some 3 by kernel_rfl).symm.trans hf) |>.symm
      obtain rfl : fn = Tryz.f3 := (Option.some.inj (Tryz.func3.symm.trans hfn)).symm
      exact ⟨by kernel_rfl, fun j t ht => by rw [Tryz.params3] at ht; simp at ht⟩)
    (by kernel_rfl)
end Go.Proofs.YtbeeikpnlojpgabGreatDoor.boundsKnown
