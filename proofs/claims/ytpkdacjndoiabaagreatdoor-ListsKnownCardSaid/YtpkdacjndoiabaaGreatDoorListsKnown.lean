/-
  ListsKnown: the frame of its proof, printed by frame.py after the kit's skeleton; the walk is a certificate and a plain law.
  Conditions: none.
-/
import Derived.Test.YtpkdacjndoiabaaGreatDoorListsKnownB
set_option linter.unusedSimpArgs false
namespace Go.Proofs.YtpkdacjndoiabaaGreatDoor.listsKnown
open Go.ChangeShapes Go.WideShapes Go.ChangeAt Go.RowKit
open Go.ChangeMaps (open_string shut_string)
set_option linter.unusedVariables false
theorem proved:Rows.ListsKnownCardSaid:=
 Claim7.holds_tied_plain_at .later [] [.data,.data,.data,.data,.sentinel,.sentinel,.data,.data,.data,.pinned] true (true,"3a0e3b8ce09c83e2e4518dd0c152f7ba13ee9fd7a7ecbd155bf496e93c16c7fb") true over (λ_ h=>by cases h) (by kernel_rfl) (λ_ h=>by cases h) listsKnown_row_tie rfl ⟨rfl,rfl⟩ (by kernel_rfl) rfl
  (λf fn hf hfn=>by
   obtain rfl:f=6:=bg ((show Tryz.prog.funcNamed "circa/circalaw19.ListsKnown"=some 6 by kernel_rfl).symm.trans hf) |>.symm
   obtain rfl:fn=Tryz.f6:=(bg (Tryz.func6.symm.trans hfn)).symm
   exact ⟨by kernel_rfl,λj t ht=>by rw [Tryz.params6] at ht;simp at ht⟩)
  (by kernel_rfl)
end Go.Proofs.YtpkdacjndoiabaaGreatDoor.listsKnown
