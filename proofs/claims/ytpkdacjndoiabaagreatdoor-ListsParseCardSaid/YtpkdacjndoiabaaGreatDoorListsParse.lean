/-
  ListsParse: the frame of its proof, printed by frame.py after the kit's skeleton; the walk is a certificate and a plain law.
  Conditions: none.
-/
import Derived.Test.YtpkdacjndoiabaaGreatDoorListsParseB
set_option linter.unusedSimpArgs false
namespace Go.Proofs.YtpkdacjndoiabaaGreatDoor.listsParse
open Go.ChangeShapes Go.WideShapes Go.ChangeAt Go.RowKit
open Go.ChangeMaps (open_string shut_string)
set_option linter.unusedVariables false
theorem proved:Rows.ListsParseCardSaid:=
 Claim7.holds_tied_plain_at .later [] [.data,.data,.data,.data,.sentinel,.sentinel,.data,.data,.data,.pinned] true (true,"3a0e3b8ce09c83e2e4518dd0c152f7ba13ee9fd7a7ecbd155bf496e93c16c7fb") true over (λ_ h=>by cases h) (by kernel_rfl) (λ_ h=>by cases h) listsParse_row_tie rfl ⟨rfl,rfl⟩ (by kernel_rfl) rfl
  (λf fn hf hfn=>by
   obtain rfl:f=3:=aZ ((show Tryz.prog.funcNamed "circa/circalaw19.ListsParse"=some 3 by kernel_rfl).symm.trans hf) |>.symm
   obtain rfl:fn=Tryz.f3:=(aZ (Tryz.func3.symm.trans hfn)).symm
   exact ⟨by kernel_rfl,λj t ht=>by
    rw [Tryz.params3] at ht
    have hm:t∈[9]:=by simpa using Array.mem_of_getElem? ht
    have hall:([9].all λu=>!Tryz.prog.wantsStandIn u)=true:=by kernel_rfl
    exact (show Tryz.prog.wantsStandIn t=false by simpa using List.all_eq_true.1 hall t hm)⟩)
  (by kernel_rfl)
end Go.Proofs.YtpkdacjndoiabaaGreatDoor.listsParse
