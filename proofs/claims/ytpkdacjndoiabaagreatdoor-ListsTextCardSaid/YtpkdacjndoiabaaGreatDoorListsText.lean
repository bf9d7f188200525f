/-
  ListsText: the frame of its proof, printed by frame.py after the kit's skeleton; the walk is a certificate and a plain law.
  Conditions: none.
-/
import Derived.Test.YtpkdacjndoiabaaGreatDoorListsTextB
set_option linter.unusedSimpArgs false
namespace Go.Proofs.YtpkdacjndoiabaaGreatDoor.listsText
open Go.ChangeShapes Go.WideShapes Go.ChangeAt Go.RowKit
open Go.ChangeMaps (open_string shut_string)
set_option linter.unusedVariables false
theorem proved:Rows.ListsTextCardSaid:=
 Claim7.holds_tied_plain_at .later [] [.data,.data,.data,.data,.sentinel,.sentinel,.data,.data,.data,.pinned] true (true,"3a0e3b8ce09c83e2e4518dd0c152f7ba13ee9fd7a7ecbd155bf496e93c16c7fb") true over (λ_ h=>by cases h) (by kernel_rfl) (λ_ h=>by cases h) listsText_row_tie rfl ⟨rfl,rfl⟩ (by kernel_rfl) rfl
  (λf fn hf hfn=>by
   obtain rfl:f=4:=ba ((show Tryz.prog.funcNamed "circa/circalaw19.ListsText"=some 4 by kernel_rfl).symm.trans hf) |>.symm
   obtain rfl:fn=Tryz.f4:=(ba (Tryz.func4.symm.trans hfn)).symm
   exact ⟨by kernel_rfl,λj t ht=>by
    rw [Tryz.params4] at ht
    have hm:t∈[49]:=by simpa using Array.mem_of_getElem? ht
    have hall:([49].all λu=>!Tryz.prog.wantsStandIn u)=true:=by kernel_rfl
    exact (show Tryz.prog.wantsStandIn t=false by simpa using List.all_eq_true.1 hall t hm)⟩)
  (by kernel_rfl)
end Go.Proofs.YtpkdacjndoiabaaGreatDoor.listsText
