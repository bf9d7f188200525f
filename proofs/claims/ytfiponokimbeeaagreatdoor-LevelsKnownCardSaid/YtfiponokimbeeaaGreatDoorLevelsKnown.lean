/-
  LevelsKnown: the frame of its proof, printed by frame.py after the kit's skeleton; the walk is a certificate and a plain law.
  Conditions: none.
-/
import Derived.Test.YtfiponokimbeeaaGreatDoorLevelsKnownB
set_option linter.unusedSimpArgs false
namespace Go.Proofs.YtfiponokimbeeaaGreatDoor.levelsKnown
open Go.ChangeShapes Go.WideShapes Go.ChangeAt Go.RowKit
open Go.ChangeMaps (open_string shut_string)
set_option linter.unusedVariables false
theorem proved:Rows.LevelsKnownCardSaid:=
 Claim7.holds_tied_plain_at .later [] [.data,.data,.data,.data,.sentinel,.sentinel,.data,.data,.data,.pinned] true (true,"103fdb187453396a0d7eacfb2f795483bfee20d753dcf137d2a201ccaa431c00") true over (λ_ h=>by cases h) (by kernel_rfl) (λ_ h=>by cases h) levelsKnown_row_tie rfl ⟨rfl,rfl⟩ (by kernel_rfl) rfl
  (λf fn hf hfn=>by
   obtain rfl:f=5:=ba ((show Tryz.prog.funcNamed "circa/circalaw22.LevelsKnown"=some 5 by kernel_rfl).symm.trans hf) |>.symm
   obtain rfl:fn=Tryz.f5:=(ba (Tryz.func5.symm.trans hfn)).symm
   exact ⟨by kernel_rfl,λj t ht=>by rw [Tryz.params5] at ht;simp at ht⟩)
  (by kernel_rfl)
end Go.Proofs.YtfiponokimbeeaaGreatDoor.levelsKnown
