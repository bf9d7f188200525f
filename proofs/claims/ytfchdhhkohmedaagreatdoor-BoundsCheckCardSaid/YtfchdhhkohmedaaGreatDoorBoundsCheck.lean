/-
  BoundsCheck: the frame of its proof, printed by frame.py after the kit's skeleton; the walk is a certificate and a plain law.
  Conditions: none.
-/
import Derived.Test.YtfchdhhkohmedaaGreatDoorBoundsCheckB
namespace Go.Proofs.YtfchdhhkohmedaaGreatDoor.boundsCheck
open Go.ChangeShapes Go.WideShapes Go.ChangeAt Go.RowKit
open Go.ChangeMaps (open_string shut_string)
set_option linter.unusedVariables false
theorem proved : Rows.BoundsCheckCardSaid :=
  Claim7.holds_tied_plain_at .later [] [.data, .data, .data, .data, .sentinel, .sentinel, .data, .data, .data, .pinned] true (true, "14aea22148b17bf5db386e5c8e7569f3bc81ca12c21f53f12cf4cef55562d94d") true over (fun _ h => by cases h) (by kernel_rfl) (fun _ h => by cases h) boundsCheck_row_tie rfl ⟨rfl, rfl⟩ (by kernel_rfl) rfl
    (fun f fn hf hfn => by
      obtain rfl : f = 6 := Option.some.inj ((show Tryz.prog.funcNamed "circa/circalaw17.BoundsCheck" = some 6 by kernel_rfl).symm.trans hf) |>.symm
      obtain rfl : fn = Tryz.f6 := (Option.some.inj (Tryz.func6.symm.trans hfn)).symm
      exact ⟨by kernel_rfl, fun j t ht => by
        rw [Tryz.params6] at ht
        have hm : t ∈ [52] := by simpa using Array.mem_of_getElem? ht
        have hall : ([52].all fun u => !Tryz.prog.wantsStandIn u) = true := by kernel_rfl
        exact (show Tryz.prog.wantsStandIn t = false by simpa using List.all_eq_true.1 hall t hm)⟩)
    (by kernel_rfl)
end Go.Proofs.YtfchdhhkohmedaaGreatDoor.boundsCheck
