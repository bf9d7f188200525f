/-
  ParsersKnown: the frame of its proof, printed by frame.py after the kit's skeleton; the walk is a certificate and a plain law.
  Conditions: none.
-/
import Derived.Test.YtjkmipianfkncaaGreatDoorParsersKnownB
set_option linter.unusedSimpArgs false
namespace Go.Proofs.YtjkmipianfkncaaGreatDoor.parsersKnown
open Go.ChangeShapes Go.WideShapes Go.ChangeAt Go.RowKit
open Go.ChangeMaps (open_string shut_string)
set_option linter.unusedVariables false
theorem proved:Rows.ParsersKnownCardSaid:=
 Claim7.holds_tied_plain_at .later [] [.data,.data,.data,.data,.sentinel,.sentinel,.data,.data,.data,.pinned] true (true,"3a180834488c617b301f7d54ada5172a4c40dbc0587656358a20b864ddb5602b") true over (λ_ h=>by cases h) (by kernel_rfl) (λ_ h=>by cases h) parsersKnown_row_tie rfl ⟨rfl,rfl⟩ (by kernel_rfl) rfl
  (λf fn hf hfn=>by
   obtain rfl:f=4:=aW ((show Tryz.prog.funcNamed "circa/circalaw20.ParsersKnown"=some 4 by kernel_rfl).symm.trans hf) |>.symm
   obtain rfl:fn=Tryz.f4:=(aW (Tryz.func4.symm.trans hfn)).symm
   exact ⟨by kernel_rfl,λj t ht=>by rw [Tryz.params4] at ht;simp at ht⟩)
  (by kernel_rfl)
end Go.Proofs.YtjkmipianfkncaaGreatDoor.parsersKnown
