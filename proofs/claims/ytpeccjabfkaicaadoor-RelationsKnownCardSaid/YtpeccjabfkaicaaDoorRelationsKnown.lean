/-
  RelationsKnown: the frame of its proof, printed by frame.py after the kit's skeleton; the walk is a certificate and a plain law.
  Conditions: none.
-/
import Derived.Test.YtpeccjabfkaicaaDoorRelationsKnownB
namespace Go.Proofs.YtpeccjabfkaicaaDoor.relationsKnown
open Go.ChangeShapes Go.WideShapes Go.ChangeAt Go.RowKit
open Go.ChangeMaps (open_string shut_string)
set_option linter.unusedVariables false

theorem proved : Rows.RelationsKnownCardSaid :=
  Claim7.holds_tied_plain_at .later [] [.data, .pinned] true (true, "9ca10af98947228ce274b702a752cf9558658d0322db980e794ba3d1a08870f6") false over (fun _ h => by cases h) (by kernel_rfl) (fun _ h => by cases h) relationsKnown_row_tie rfl ⟨rfl, rfl⟩ (by kernel_rfl) rfl
    (fun f fn hf hfn => by
      obtain rfl : f = 3 := Option.some.inj ((show Tryd.prog.funcNamed "circa/circalaw31.RelationsKnown" = some 3 by kernel_rfl).symm.trans hf) |>.symm
      obtain rfl : fn = Tryd.f3 := (Option.some.inj (Tryd.func3.symm.trans hfn)).symm
      exact ⟨by kernel_rfl, fun j t ht => by rw [Tryd.params3] at ht; simp at ht⟩)
    (by kernel_rfl)
end Go.Proofs.YtpeccjabfkaicaaDoor.relationsKnown
