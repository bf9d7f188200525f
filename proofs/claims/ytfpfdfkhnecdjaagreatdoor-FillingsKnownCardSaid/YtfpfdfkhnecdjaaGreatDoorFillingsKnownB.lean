/-
  FillingsKnown: the frame of its proof, printed by frame.py after the kit's skeleton; the walk is a certificate and a plain law.
  Conditions: none.
-/
import Derived.Test.YtfpfdfkhnecdjaaGreatDoorFillingsKnownA
namespace Go.Proofs.YtfpfdfkhnecdjaaGreatDoor.fillingsKnown
open Go.ChangeShapes Go.WideShapes Go.ChangeAt Go.RowKit
open Go.ChangeMaps (open_string shut_string)
set_option linter.unusedVariables false
theorem j0 : Tryz.pinned.checked.prog.funcNamed Rows.fillingsKnownRow.func = some 7 := by kernel_rfl
theorem j1 : (Rows.fillingsKnownRow.wf (OpenSpec.ofChange Rows.fillingsKnownSpec)) = true := by kernel_rfl
theorem j2 : (laidOutB Tryz.pinned.checked.prog) = true := by kernel_rfl
theorem j3 : (mapsRowed Tryz.pinned.checked.prog) = true := by kernel_rfl
theorem j4 : (Tryz.f7.params.all (Program.readableRec Tryz.pinned.checked.prog ·)) = true := by kernel_rfl
theorem j5 : (namedTie Tryz.pinned.checked.prog Rows.fillingsKnownRow.named Rows.fillingsKnownSpec.vars) = true := by kernel_rfl
theorem j6 : (Rows.fillingsKnownRow.stops == []) = true := by kernel_rfl
theorem j7 : (Tryz.pinned.checked.prog.stops == []) = true := by kernel_rfl
theorem j8 : (Rows.fillingsKnownRow.knobs == []) = true := by kernel_rfl
theorem j9 : (Tryz.pinned.checked.prog.stopKnobs == []) = true := by kernel_rfl
theorem j10 : (Rows.fillingsKnownRow.inPlace == Tryz.pinned.checked.prog.inPlace 7) = true := by kernel_rfl
theorem j11 : (Rows.fillingsKnownRow.unfollowed == Tryz.pinned.checked.prog.unfollowed 7) = true := by kernel_rfl
theorem j12 : (Rows.fillingsKnownRow.recurses == Tryz.pinned.checked.prog.recurses 7) = true := by kernel_rfl
theorem j13 : (Rows.fillingsKnownRow.named == Tryz.pinned.checked.prog.varsNamed 7) = true := by kernel_rfl
theorem j14 : (Rows.fillingsKnownRow.maps == (Tryz.f7.params.toList ++ Rows.fillingsKnownSpec.plain.varTypes Tryz.pinned.checked.prog).any (Program.mapsRec Tryz.pinned.checked.prog ·)) = true := by kernel_rfl
theorem j15 : (Rows.fillingsKnownRow.ifaces == (Tryz.f7.params.toList ++ Rows.fillingsKnownSpec.plain.varTypes Tryz.pinned.checked.prog).any (Program.ifacesRec Tryz.pinned.checked.prog ·)) = true := by kernel_rfl
theorem j16 : (Rows.fillingsKnownRow.mapsOut == Tryz.pinned.checked.prog.mapsAmong Tryz.f7.resultTypes.toList) = true := by kernel_rfl
theorem j17 : (Rows.fillingsKnownRow.loops == (Tryz.f7.params.toList ++ Rows.fillingsKnownSpec.plain.varTypes Tryz.pinned.checked.prog).any (Program.loopsFrom Tryz.pinned.checked.prog ·)) = true := by kernel_rfl
theorem j18 : (Rows.fillingsKnownRow.wideKeys == (Tryz.f7.params.toList ++ Rows.fillingsKnownSpec.plain.varTypes Tryz.pinned.checked.prog ++ Tryz.f7.resultTypes.toList).any (Program.wideKeysFrom Tryz.pinned.checked.prog ·)) = true := by kernel_rfl
theorem j19 : (Rows.fillingsKnownSpec.vars.all (Program.varReadable Tryz.pinned.checked.prog ·)) = true := by kernel_rfl
theorem j20 : (Tryz.f7.resultTypes.all (fun t => Tryz.pinned.checked.prog.readableRec t && decide (t < Tryz.pinned.checked.prog.types.size))) = true := by kernel_rfl
theorem j21 : (Rows.fillingsKnownRow.ifacesOut == Tryz.f7.resultTypes.toList.any (Program.ifacesRec Tryz.pinned.checked.prog ·)) = true := by kernel_rfl
theorem j22 : (Rows.fillingsKnownRow.loopsOut == Tryz.f7.resultTypes.toList.any (Program.loopsFrom Tryz.pinned.checked.prog ·)) = true := by kernel_rfl
theorem j23 : (Rows.fillingsKnownRow.plainKeys == Tryz.pinned.checked.prog.plainKeys) = true := by kernel_rfl
theorem j24 : (Rows.fillingsKnownRow.shortTexts.isNone) = true := by kernel_rfl
theorem j25 : (Tryz.pinned.checked.prog.stopsHeard) = true := by kernel_rfl
theorem j26 : (Tryz.pinned.checked.prog.mayEnter) = true := by kernel_rfl
theorem j27 : (Rows.fillingsKnownRow.lifted == Tryz.pinned.checked.prog.liftsFinal) = true := by kernel_rfl
theorem j28 : (Tryz.pinned.checked.prog.make == some Rows.fillingsKnownRow.make) = true := by kernel_rfl
theorem j29 : (Rows.fillingsKnownRow.kinds == (if Rows.fillingsKnownRow.domain.isEmpty then [] else Tryz.f7.params.toList.map fun t => match Program.underlying Tryz.pinned.checked.prog t with | some (.int k) => some k | _ => none)) = true := by kernel_rfl
theorem j30 : (Rows.fillingsKnownRow.pinned == Rows.fillingsKnownRow.pinnedBy) = true := by kernel_rfl
theorem j31 : (Rows.fillingsKnownRow.veiled == (Tryz.f7.params.toList ++ Rows.fillingsKnownSpec.plain.varTypes Tryz.pinned.checked.prog ++ Tryz.f7.resultTypes.toList).any (Program.veiledRec Tryz.pinned.checked.prog ·)) = true := by kernel_rfl
theorem j32 : (Rows.fillingsKnownRow.veiledFits Tryz.pinned.checked.prog Tryz.f7.params.toList (Tryz.f7.params.toList ++ Rows.fillingsKnownSpec.plain.varTypes Tryz.pinned.checked.prog ++ Tryz.f7.resultTypes.toList)) = true := by kernel_rfl
set_option maxRecDepth 100000 in
theorem BD : joinedFacts Tryz.pinned.checked.prog 7 Tryz.f7 Rows.fillingsKnownSpec Rows.fillingsKnownRow = true := by
  unfold joinedFacts
  simp only [Bool.and_eq_true]
  exact ⟨⟨⟨⟨⟨⟨⟨⟨⟨⟨⟨⟨⟨⟨⟨⟨⟨⟨⟨⟨⟨⟨⟨⟨⟨⟨⟨⟨⟨⟨⟨j1, j2⟩, j3⟩, j4⟩, j5⟩, j6⟩, j7⟩, j8⟩, j9⟩, j10⟩, j11⟩, j12⟩, j13⟩, j14⟩, j15⟩, j16⟩, j17⟩, j18⟩, j19⟩, j20⟩, j21⟩, j22⟩, j23⟩, j24⟩, j25⟩, j26⟩, j27⟩, j28⟩, j29⟩, j30⟩, j31⟩, j32⟩
theorem over : Rows.fillingsKnownRow.holds Tryz.pinned (OpenSpec.ofChange Rows.fillingsKnownSpec) :=
  OpenClaim.holds_of_wide 7 Tryz.f7 rfl rfl rfl rfl rfl rfl rfl ⟨rfl, rfl, rfl, rfl, rfl⟩ rfl rfl rfl rfl rfl j0 Tryz.func7 BD
    (of_decide_eq_true (by kernel_rfl)) (by unfold Func.isWrapper; first | (rw [if_pos (by decide +kernel)]; kernel_rfl) | (rw [if_neg (by decide +kernel)]; exact ⟨rfl, rfl⟩))
    (fun os started H enc _ => lifted os started H enc)
end Go.Proofs.YtfpfdfkhnecdjaaGreatDoor.fillingsKnown
