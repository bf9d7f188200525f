/-
  RelationsKnown: the frame of its proof, printed by frame.py after the kit's skeleton; the walk is a certificate and a plain law.
  Conditions: none.
-/
import Derived.Test.YtpeccjabfkaicaaDoorRelationsKnownA
namespace Go.Proofs.YtpeccjabfkaicaaDoor.relationsKnown
open Go.ChangeShapes Go.WideShapes Go.ChangeAt Go.RowKit
open Go.ChangeMaps (open_string shut_string)
set_option linter.unusedVariables false

theorem j0 : Tryd.pinned.checked.prog.funcNamed Rows.relationsKnownRow.func = some 3 := by kernel_rfl
theorem j1 : (Rows.relationsKnownRow.wf (OpenSpec.ofChange Rows.relationsKnownSpec)) = true := by kernel_rfl
theorem j2 : (laidOutB Tryd.pinned.checked.prog) = true := by kernel_rfl
theorem j3 : (mapsRowed Tryd.pinned.checked.prog) = true := by kernel_rfl
theorem j4 : (Tryd.f3.params.all (Program.readableRec Tryd.pinned.checked.prog ·)) = true := by kernel_rfl
theorem j5 : (namedTie Tryd.pinned.checked.prog Rows.relationsKnownRow.named Rows.relationsKnownSpec.vars) = true := by kernel_rfl
theorem j6 : (Rows.relationsKnownRow.stops == []) = true := by kernel_rfl
theorem j7 : (Tryd.pinned.checked.prog.stops == []) = true := by kernel_rfl
theorem j8 : (Rows.relationsKnownRow.knobs == []) = true := by kernel_rfl
theorem j9 : (Tryd.pinned.checked.prog.stopKnobs == []) = true := by kernel_rfl
theorem j10 : (Rows.relationsKnownRow.inPlace == Tryd.pinned.checked.prog.inPlace 3) = true := by kernel_rfl
theorem j11 : (Rows.relationsKnownRow.unfollowed == Tryd.pinned.checked.prog.unfollowed 3) = true := by kernel_rfl
theorem j12 : (Rows.relationsKnownRow.recurses == Tryd.pinned.checked.prog.recurses 3) = true := by kernel_rfl
theorem j13 : (Rows.relationsKnownRow.named == Tryd.pinned.checked.prog.varsNamed 3) = true := by kernel_rfl
theorem j14 : (Rows.relationsKnownRow.maps == (Tryd.f3.params.toList ++ Rows.relationsKnownSpec.plain.varTypes Tryd.pinned.checked.prog).any (Program.mapsRec Tryd.pinned.checked.prog ·)) = true := by kernel_rfl
theorem j15 : (Rows.relationsKnownRow.ifaces == (Tryd.f3.params.toList ++ Rows.relationsKnownSpec.plain.varTypes Tryd.pinned.checked.prog).any (Program.ifacesRec Tryd.pinned.checked.prog ·)) = true := by kernel_rfl
theorem j16 : (Rows.relationsKnownRow.mapsOut == Tryd.pinned.checked.prog.mapsAmong Tryd.f3.resultTypes.toList) = true := by kernel_rfl
theorem j17 : (Rows.relationsKnownRow.loops == (Tryd.f3.params.toList ++ Rows.relationsKnownSpec.plain.varTypes Tryd.pinned.checked.prog).any (Program.loopsFrom Tryd.pinned.checked.prog ·)) = true := by kernel_rfl
theorem j18 : (Rows.relationsKnownRow.wideKeys == (Tryd.f3.params.toList ++ Rows.relationsKnownSpec.plain.varTypes Tryd.pinned.checked.prog ++ Tryd.f3.resultTypes.toList).any (Program.wideKeysFrom Tryd.pinned.checked.prog ·)) = true := by kernel_rfl
theorem j19 : (Rows.relationsKnownSpec.vars.all (Program.varReadable Tryd.pinned.checked.prog ·)) = true := by kernel_rfl
theorem j20 : (Tryd.f3.resultTypes.all (fun t => Tryd.pinned.checked.prog.readableRec t && decide (t < Tryd.pinned.checked.prog.types.size))) = true := by kernel_rfl
theorem j21 : (Rows.relationsKnownRow.ifacesOut == Tryd.f3.resultTypes.toList.any (Program.ifacesRec Tryd.pinned.checked.prog ·)) = true := by kernel_rfl
theorem j22 : (Rows.relationsKnownRow.loopsOut == Tryd.f3.resultTypes.toList.any (Program.loopsFrom Tryd.pinned.checked.prog ·)) = true := by kernel_rfl
theorem j23 : (Rows.relationsKnownRow.plainKeys == Tryd.pinned.checked.prog.plainKeys) = true := by kernel_rfl
theorem j24 : (Rows.relationsKnownRow.shortTexts.isNone) = true := by kernel_rfl
theorem j25 : (Tryd.pinned.checked.prog.stopsHeard) = true := by kernel_rfl
theorem j26 : (Tryd.pinned.checked.prog.mayEnter) = true := by kernel_rfl
theorem j27 : (Rows.relationsKnownRow.lifted == Tryd.pinned.checked.prog.liftsFinal) = true := by kernel_rfl
theorem j28 : (Tryd.pinned.checked.prog.make == some Rows.relationsKnownRow.make) = true := by kernel_rfl
theorem j29 : (Rows.relationsKnownRow.kinds == (if Rows.relationsKnownRow.domain.isEmpty then [] else Tryd.f3.params.toList.map fun t => match Program.underlying Tryd.pinned.checked.prog t with | some (.int k) => some k | _ => none)) = true := by kernel_rfl
theorem j30 : (Rows.relationsKnownRow.pinned == Rows.relationsKnownRow.pinnedBy) = true := by kernel_rfl
theorem j31 : (Rows.relationsKnownRow.veiled == (Tryd.f3.params.toList ++ Rows.relationsKnownSpec.plain.varTypes Tryd.pinned.checked.prog ++ Tryd.f3.resultTypes.toList).any (Program.veiledRec Tryd.pinned.checked.prog ·)) = true := by kernel_rfl
theorem j32 : (Rows.relationsKnownRow.veiledFits Tryd.pinned.checked.prog Tryd.f3.params.toList (Tryd.f3.params.toList ++ Rows.relationsKnownSpec.plain.varTypes Tryd.pinned.checked.prog ++ Tryd.f3.resultTypes.toList)) = true := by kernel_rfl
set_option maxRecDepth 100000 in
theorem closed : joinedFacts Tryd.pinned.checked.prog 3 Tryd.f3 Rows.relationsKnownSpec Rows.relationsKnownRow = true := by
  unfold joinedFacts
  simp only [Bool.and_eq_true]
  exact ⟨⟨⟨⟨⟨⟨⟨⟨⟨⟨⟨⟨⟨⟨⟨⟨⟨⟨⟨⟨⟨⟨⟨⟨⟨⟨⟨⟨⟨⟨⟨j1, j2⟩, j3⟩, j4⟩, j5⟩, j6⟩, j7⟩, j8⟩, j9⟩, j10⟩, j11⟩, j12⟩, j13⟩, j14⟩, j15⟩, j16⟩, j17⟩, j18⟩, j19⟩, j20⟩, j21⟩, j22⟩, j23⟩, j24⟩, j25⟩, j26⟩, j27⟩, j28⟩, j29⟩, j30⟩, j31⟩, j32⟩

theorem over : Rows.relationsKnownRow.holds Tryd.pinned (OpenSpec.ofChange Rows.relationsKnownSpec) :=
  OpenClaim.holds_of_wide 3 Tryd.f3 rfl rfl rfl rfl rfl rfl rfl ⟨rfl, rfl, rfl, rfl, rfl⟩ rfl rfl rfl rfl rfl j0 Tryd.func3 closed
    (of_decide_eq_true (by kernel_rfl)) (by unfold Func.isWrapper; first | (rw [if_pos (by decide +kernel)]; kernel_rfl) | (rw [if_neg (by decide +kernel)]; exact ⟨rfl, rfl⟩))
    (fun os started H enc _ => lifted os started H enc)

end Go.Proofs.YtpeccjabfkaicaaDoor.relationsKnown
