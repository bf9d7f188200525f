/-
  ParsersText: the frame of its proof, printed by frame.py after the kit's skeleton; the walk is a certificate and a plain law.
  Conditions: none.
-/
import Derived.Test.YthemneooekobkaaGreatDoorParsersTextB
set_option linter.unusedSimpArgs false
namespace Go.Proofs.YthemneooekobkaaGreatDoor.parsersText
open Go.ChangeShapes Go.WideShapes Go.ChangeAt Go.RowKit
open Go.ChangeMaps (open_string shut_string)
set_option linter.unusedVariables false
theorem proved:Rows.ParsersTextCardSaid:=
 Claim7.holds_tied_plain_at .later [] [.data,.data,.data,.data,.sentinel,.sentinel,.data,.data,.data,.pinned] true (true,"a258a02d0fd783e7e456c12a8d4bd63c83b24c08ebc3ab0a55083e483de74b41") true over (λ_ h=>by cases h) (by kernel_rfl) (λ_ h=>by cases h) parsersText_row_tie rfl ⟨rfl,rfl⟩ (by kernel_rfl) rfl
  (λf fn hf hfn=>by
   obtain rfl:f=4:=bn ((show Tryz.prog.funcNamed "circa/circalaw20.ParsersText"=some 4 by kernel_rfl).symm.trans hf) |>.symm
   obtain rfl:fn=Tryz.f4:=(bn (Tryz.func4.symm.trans hfn)).symm
   exact ⟨by kernel_rfl,λj t ht=>by
    rw [Tryz.params4] at ht
    have hm:t∈[53]:=by simpa using Array.mem_of_getElem? ht
    have hall:([53].all λu=>!Tryz.prog.wantsStandIn u)=true:=by kernel_rfl
    exact (show Tryz.prog.wantsStandIn t=false by simpa using List.all_eq_true.1 hall t hm)⟩)
  (by kernel_rfl)
end Go.Proofs.YthemneooekobkaaGreatDoor.parsersText
