/-
  LevelsDate: the frame of its proof, printed by frame.py after the kit's skeleton; the walk is a certificate and a plain law.
  Conditions: none.
-/
import Derived.Test.YthemneooekobkabGreatDoorLevelsDateB
set_option linter.unusedSimpArgs false
namespace Go.Proofs.YthemneooekobkabGreatDoor.levelsDate
open Go.ChangeShapes Go.WideShapes Go.ChangeAt Go.RowKit
open Go.ChangeMaps (open_string shut_string)
set_option linter.unusedVariables false
theorem proved:Rows.LevelsDateCardSaid:=
 Claim7.holds_tied_plain_at .later [] [.data,.data,.data,.data,.sentinel,.sentinel,.data,.data,.data,.pinned] true (true,"42ec552b753a74c5f40d462292ba5d9588822c34d3fa548241b2b962fc888ac2") true over (λ_ h=>by cases h) (by kernel_rfl) (λ_ h=>by cases h) levelsDate_row_tie rfl ⟨rfl,rfl⟩ (by kernel_rfl) rfl
  (λf fn hf hfn=>by
   obtain rfl:f=5:=bj ((show Tryz.prog.funcNamed "circa/circalaw22.LevelsDate"=some 5 by kernel_rfl).symm.trans hf) |>.symm
   obtain rfl:fn=Tryz.f5:=(bj (Tryz.func5.symm.trans hfn)).symm
   exact ⟨by kernel_rfl,λj t ht=>by
    rw [Tryz.params5] at ht
    have hm:t∈[54,27,5]:=by simpa using Array.mem_of_getElem? ht
    have hall:([54,27,5].all λu=>!Tryz.prog.wantsStandIn u)=true:=by kernel_rfl
    exact (show Tryz.prog.wantsStandIn t=false by simpa using List.all_eq_true.1 hall t hm)⟩)
  (by kernel_rfl)
end Go.Proofs.YthemneooekobkabGreatDoor.levelsDate
