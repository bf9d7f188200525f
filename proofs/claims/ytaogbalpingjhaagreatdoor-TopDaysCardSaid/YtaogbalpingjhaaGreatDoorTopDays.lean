/-
  TopDays: the frame of its proof, printed by frame.py after the kit's skeleton; the walk is a certificate and a plain law.
  Conditions: none.
-/
import Derived.Test.YtaogbalpingjhaaGreatDoorTopDaysB
set_option linter.unusedSimpArgs false
namespace Go.Proofs.YtaogbalpingjhaaGreatDoor.topDays
open Go.ChangeShapes Go.WideShapes Go.ChangeAt Go.RowKit
open Go.ChangeMaps (open_string shut_string)
set_option linter.unusedVariables false
theorem proved:Rows.TopDaysCardSaid:=
 Claim7.holds_tied_plain_at .later [] [.data,.data,.data,.data,.sentinel,.sentinel,.data,.data,.data,.pinned] true (true,"c5179fc0866638aca4dde507d9962c96db4c8ead3d58fb743c5275c3c4896f4a") true over (λ_ h=>by cases h) (by kernel_rfl) (λ_ h=>by cases h) topDays_row_tie rfl ⟨rfl,rfl⟩ (by kernel_rfl) rfl
  (λf fn hf hfn=>by
   obtain rfl:f=4:=aN ((show Tryz.prog.funcNamed "circa/circatop.TopDays"=some 4 by kernel_rfl).symm.trans hf) |>.symm
   obtain rfl:fn=Tryz.f4:=(aN (Tryz.func4.symm.trans hfn)).symm
   exact ⟨by kernel_rfl,λj t ht=>by
    rw [Tryz.params4] at ht
    have hm:t∈[28]:=by simpa using Array.mem_of_getElem? ht
    have hall:([28].all λu=>!Tryz.prog.wantsStandIn u)=true:=by kernel_rfl
    exact (show Tryz.prog.wantsStandIn t=false by simpa using List.all_eq_true.1 hall t hm)⟩)
  (by kernel_rfl)
end Go.Proofs.YtaogbalpingjhaaGreatDoor.topDays
