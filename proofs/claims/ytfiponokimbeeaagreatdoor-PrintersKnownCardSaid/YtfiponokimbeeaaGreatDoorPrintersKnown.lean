/-
  PrintersKnown: the frame of its proof, printed by frame.py after the kit's skeleton; the walk is a certificate and a plain law.
  Conditions: none.
-/
import Derived.Test.YtfiponokimbeeaaGreatDoorPrintersKnownB
set_option linter.unusedSimpArgs false
namespace Go.Proofs.YtfiponokimbeeaaGreatDoor.printersKnown
open Go.ChangeShapes Go.WideShapes Go.ChangeAt Go.RowKit
open Go.ChangeMaps (open_string shut_string)
set_option linter.unusedVariables false
theorem proved:Rows.PrintersKnownCardSaid:=
 Claim7.holds_tied_plain_at .later [] [.data,.data,.data,.data,.sentinel,.sentinel,.data,.data,.data,.pinned] true (true,"103fdb187453396a0d7eacfb2f795483bfee20d753dcf137d2a201ccaa431c00") true over (λ_ h=>by cases h) (by kernel_rfl) (λ_ h=>by cases h) printersKnown_row_tie rfl ⟨rfl,rfl⟩ (by kernel_rfl) rfl
  (λf fn hf hfn=>by
   obtain rfl:f=4:=aZ ((show Tryz.prog.funcNamed "circa/circalaw21.PrintersKnown"=some 4 by kernel_rfl).symm.trans hf) |>.symm
   obtain rfl:fn=Tryz.f4:=(aZ (Tryz.func4.symm.trans hfn)).symm
   exact ⟨by kernel_rfl,λj t ht=>by rw [Tryz.params4] at ht;simp at ht⟩)
  (by kernel_rfl)
end Go.Proofs.YtfiponokimbeeaaGreatDoor.printersKnown
