/-
  TopFillings: the frame of its proof, printed by frame.py after the kit's skeleton; the walk is a certificate and a plain law.
  Conditions: none.
-/
import Derived.Test.YtadejcglcffgbacGreatDoorTopFillingsB
set_option linter.unusedSimpArgs false
namespace Go.Proofs.YtadejcglcffgbacGreatDoor.topFillings
open Go.ChangeShapes Go.WideShapes Go.ChangeAt Go.RowKit
open Go.ChangeMaps (open_string shut_string)
set_option linter.unusedVariables false
theorem proved:Rows.TopFillingsCardSaid:=
 Claim7.holds_tied_plain_at .later [] [.data,.data,.data,.data,.sentinel,.sentinel,.data,.data,.data,.pinned] true (true,"6b6396eeed7625fd773cbbf081f4be5b2692a6667887ee97095faad8b1642705") true over (λ_ h=>by cases h) (by kernel_rfl) (λ_ h=>by cases h) topFillings_row_tie rfl ⟨rfl,rfl⟩ (by kernel_rfl) rfl
  (λf fn hf hfn=>by
   obtain rfl:f=3:=aM ((show Tryz.prog.funcNamed "circa/circatop.TopFillings"=some 3 by kernel_rfl).symm.trans hf) |>.symm
   obtain rfl:fn=Tryz.f3:=(aM (Tryz.func3.symm.trans hfn)).symm
   exact ⟨by kernel_rfl,λj t ht=>by
    rw [Tryz.params3] at ht
    have hm:t∈[28,22]:=by simpa using Array.mem_of_getElem? ht
    have hall:([28,22].all λu=>!Tryz.prog.wantsStandIn u)=true:=by kernel_rfl
    exact (show Tryz.prog.wantsStandIn t=false by simpa using List.all_eq_true.1 hall t hm)⟩)
  (by kernel_rfl)
end Go.Proofs.YtadejcglcffgbacGreatDoor.topFillings
