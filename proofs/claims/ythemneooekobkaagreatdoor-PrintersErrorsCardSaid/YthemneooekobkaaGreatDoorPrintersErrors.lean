/-
  PrintersErrors: the frame of its proof, printed by frame.py after the kit's skeleton; the walk is a certificate and a plain law.
  Conditions: none.
-/
import Derived.Test.YthemneooekobkaaGreatDoorPrintersErrorsB
set_option linter.unusedSimpArgs false
namespace Go.Proofs.YthemneooekobkaaGreatDoor.printersErrors
open Go.ChangeShapes Go.WideShapes Go.ChangeAt Go.RowKit
open Go.ChangeMaps (open_string shut_string)
set_option linter.unusedVariables false
theorem proved:Rows.PrintersErrorsCardSaid:=
 Claim7.holds_tied_plain_at .later [] [.data,.data,.data,.data,.sentinel,.sentinel,.data,.data,.data,.pinned] true (true,"a258a02d0fd783e7e456c12a8d4bd63c83b24c08ebc3ab0a55083e483de74b41") true over (λ_ h=>by cases h) (by kernel_rfl) (λ_ h=>by cases h) printersErrors_row_tie rfl ⟨rfl,rfl⟩ (by kernel_rfl) rfl
  (λf fn hf hfn=>by
   obtain rfl:f=6:=bc ((show Tryz.prog.funcNamed "circa/circalaw21.PrintersErrors"=some 6 by kernel_rfl).symm.trans hf) |>.symm
   obtain rfl:fn=Tryz.f6:=(bc (Tryz.func6.symm.trans hfn)).symm
   exact ⟨by kernel_rfl,λj t ht=>by
    rw [Tryz.params6] at ht
    have hm:t∈[53,5]:=by simpa using Array.mem_of_getElem? ht
    have hall:([53,5].all λu=>!Tryz.prog.wantsStandIn u)=true:=by kernel_rfl
    exact (show Tryz.prog.wantsStandIn t=false by simpa using List.all_eq_true.1 hall t hm)⟩)
  (by kernel_rfl)
end Go.Proofs.YthemneooekobkaaGreatDoor.printersErrors
