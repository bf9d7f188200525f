/-
  ListsErrors: the frame of its proof, printed by frame.py after the kit's skeleton; the walk is a certificate and a plain law.
  Conditions: none.
-/
import Derived.Test.YtpkdacjndoiabaaGreatDoorListsErrorsB
set_option linter.unusedSimpArgs false
namespace Go.Proofs.YtpkdacjndoiabaaGreatDoor.listsErrors
open Go.ChangeShapes Go.WideShapes Go.ChangeAt Go.RowKit
open Go.ChangeMaps (open_string shut_string)
set_option linter.unusedVariables false
theorem proved:Rows.ListsErrorsCardSaid:=
 Claim7.holds_tied_plain_at .later [] [.data,.data,.data,.data,.sentinel,.sentinel,.data,.data,.data,.pinned] true (true,"3a0e3b8ce09c83e2e4518dd0c152f7ba13ee9fd7a7ecbd155bf496e93c16c7fb") true over (λ_ h=>by cases h) (by kernel_rfl) (λ_ h=>by cases h) listsErrors_row_tie rfl ⟨rfl,rfl⟩ (by kernel_rfl) rfl
  (λf fn hf hfn=>by
   obtain rfl:f=5:=aX ((show Tryz.prog.funcNamed "circa/circalaw19.ListsErrors"=some 5 by kernel_rfl).symm.trans hf) |>.symm
   obtain rfl:fn=Tryz.f5:=(aX (Tryz.func5.symm.trans hfn)).symm
   exact ⟨by kernel_rfl,λj t ht=>by
    rw [Tryz.params5] at ht
    have hm:t∈[49,53]:=by simpa using Array.mem_of_getElem? ht
    have hall:([49,53].all λu=>!Tryz.prog.wantsStandIn u)=true:=by kernel_rfl
    exact (show Tryz.prog.wantsStandIn t=false by simpa using List.all_eq_true.1 hall t hm)⟩)
  (by kernel_rfl)
end Go.Proofs.YtpkdacjndoiabaaGreatDoor.listsErrors
