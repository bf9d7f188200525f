/-
  FillingsNear: the frame of its proof, printed by frame.py after the kit's skeleton; the walk is a certificate and a plain law.
  Conditions: none.
-/
import Derived.Test.YtfpfdfkhnecdjaaGreatDoorFillingsNearA
namespace Go.Proofs.YtfpfdfkhnecdjaaGreatDoor.fillingsNear
open Go.ChangeShapes Go.WideShapes Go.ChangeAt Go.RowKit
open Go.ChangeMaps (open_string shut_string)
set_option linter.unusedVariables false
theorem j0 : Tryz.pinned.checked.prog.funcNamed Rows.fillingsNearRow.func = some 4 := by kernel_rfl
theorem j1 : (Rows.fillingsNearRow.wf (OpenSpec.ofChange Rows.fillingsNearSpec)) = true := by kernel_rfl
theorem j2 : (laidOutB Tryz.pinned.checked.prog) = true := by kernel_rfl
theorem j3 : (mapsRowed Tryz.pinned.checked.prog) = true := by kernel_rfl
theorem j4 : (Tryz.f4.params.all (Program.readableRec Tryz.pinned.checked.prog ·)) = true := by kernel_rfl
theorem j5 : (namedTie Tryz.pinned.checked.prog Rows.fillingsNearRow.named Rows.fillingsNearSpec.vars) = true := by kernel_rfl
theorem j6 : (Rows.fillingsNearRow.stops == []) = true := by kernel_rfl
theorem j7 : (Tryz.pinned.checked.prog.stops == []) = true := by kernel_rfl
theorem j8 : (Rows.fillingsNearRow.knobs == []) = true := by kernel_rfl
theorem j9 : (Tryz.pinned.checked.prog.stopKnobs == []) = true := by kernel_rfl
theorem j10 : (Rows.fillingsNearRow.inPlace == Tryz.pinned.checked.prog.inPlace 4) = true := by kernel_rfl
theorem j11 : (Rows.fillingsNearRow.unfollowed == Tryz.pinned.checked.prog.unfollowed 4) = true := by kernel_rfl
theorem j12 : (Rows.fillingsNearRow.recurses == Tryz.pinned.checked.prog.recurses 4) = true := by kernel_rfl
theorem j13 : (Rows.fillingsNearRow.named == Tryz.pinned.checked.prog.varsNamed 4) = true := by kernel_rfl
theorem j14 : (Rows.fillingsNearRow.maps == (Tryz.f4.params.toList ++ Rows.fillingsNearSpec.plain.varTypes Tryz.pinned.checked.prog).any (Program.mapsRec Tryz.pinned.checked.prog ·)) = true := by kernel_rfl
theorem j15 : (Rows.fillingsNearRow.ifaces == (Tryz.f4.params.toList ++ Rows.fillingsNearSpec.plain.varTypes Tryz.pinned.checked.prog).any (Program.ifacesRec Tryz.pinned.checked.prog ·)) = true := by kernel_rfl
theorem j16 : (Rows.fillingsNearRow.mapsOut == Tryz.pinned.checked.prog.mapsAmong Tryz.f4.resultTypes.toList) = true := by kernel_rfl
theorem j17 : (Rows.fillingsNearRow.loops == (Tryz.f4.params.toList ++ Rows.fillingsNearSpec.plain.varTypes Tryz.pinned.checked.prog).any (Program.loopsFrom Tryz.pinned.checked.prog ·)) = true := by kernel_rfl
theorem j18 : (Rows.fillingsNearRow.wideKeys == (Tryz.f4.params.toList ++ Rows.fillingsNearSpec.plain.varTypes Tryz.pinned.checked.prog ++ Tryz.f4.resultTypes.toList).any (Program.wideKeysFrom Tryz.pinned.checked.prog ·)) = true := by kernel_rfl
theorem j19 : (Rows.fillingsNearSpec.vars.all (Program.varReadable Tryz.pinned.checked.prog ·)) = true := by kernel_rfl
theorem j20 : (Tryz.f4.resultTypes.all (fun t => Tryz.pinned.checked.prog.readableRec t && decide (t < Tryz.pinned.checked.prog.types.size))) = true := by kernel_rfl
theorem j21 : (Rows.fillingsNearRow.ifacesOut == Tryz.f4.resultTypes.toList.any (Program.ifacesRec Tryz.pinned.checked.prog ·)) = true := by kernel_rfl
theorem j22 : (Rows.fillingsNearRow.loopsOut == Tryz.f4.resultTypes.toList.any (Program.loopsFrom Tryz.pinned.checked.prog ·)) = true := by kernel_rfl
theorem j23 : (Rows.fillingsNearRow.plainKeys == Tryz.pinned.checked.prog.plainKeys) = true := by kernel_rfl
theorem j24 : (Rows.fillingsNearRow.shortTexts.isNone) = true := by kernel_rfl
theorem j25 : (Tryz.pinned.checked.prog.stopsHeard) = true := by kernel_rfl
theorem j26 : (Tryz.pinned.checked.prog.mayEnter) = true := by kernel_rfl
theorem j27 : (Rows.fillingsNearRow.lifted == Tryz.pinned.checked.prog.liftsFinal) = true := by kernel_rfl
theorem j28 : (Tryz.pinned.checked.prog.make == some Rows.fillingsNearRow.make) = true := by kernel_rfl
theorem j29 : (Rows.fillingsNearRow.kinds == (if Rows.fillingsNearRow.domain.isEmpty then [] else Tryz.f4.params.toList.map fun t => match Program.underlying Tryz.pinned.checked.prog t with | some (.int k) => some k | _ => none)) = true := by kernel_rfl
theorem j30 : (Rows.fillingsNearRow.pinned == Rows.fillingsNearRow.pinnedBy) = true := by kernel_rfl
theorem j31 : (Rows.fillingsNearRow.veiled == (Tryz.f4.params.toList ++ Rows.fillingsNearSpec.plain.varTypes Tryz.pinned.checked.prog ++ Tryz.f4.resultTypes.toList).any (Program.veiledRec Tryz.pinned.checked.prog ·)) = true := by kernel_rfl
theorem j32 : (Rows.fillingsNearRow.veiledFits Tryz.pinned.checked.prog Tryz.f4.params.toList (Tryz.f4.params.toList ++ Rows.fillingsNearSpec.plain.varTypes Tryz.pinned.checked.prog ++ Tryz.f4.resultTypes.toList)) = true := by kernel_rfl
set_option maxRecDepth 100000 in
theorem closed : joinedFacts Tryz.pinned.checked.prog 4 Tryz.f4 Rows.fillingsNearSpec Rows.fillingsNearRow = true := by
  unfold joinedFacts
  simp only [Bool.and_eq_true]
  exact ⟨⟨⟨⟨⟨⟨⟨⟨⟨⟨⟨⟨⟨⟨⟨⟨⟨⟨⟨⟨⟨⟨⟨⟨⟨⟨⟨⟨⟨⟨⟨j1, j2⟩, j3⟩, j4⟩, j5⟩, j6⟩, j7⟩, j8⟩, j9⟩, j10⟩, j11⟩, j12⟩, j13⟩, j14⟩, j15⟩, j16⟩, j17⟩, j18⟩, j19⟩, j20⟩, j21⟩, j22⟩, j23⟩, j24⟩, j25⟩, j26⟩, j27⟩, j28⟩, j29⟩, j30⟩, j31⟩, j32⟩
theorem over : Rows.fillingsNearRow.holds Tryz.pinned (OpenSpec.ofChange Rows.fillingsNearSpec) :=
  OpenClaim.holds_of_wide 4 Tryz.f4 rfl rfl rfl rfl rfl rfl rfl ⟨rfl, rfl, rfl, rfl, rfl⟩ rfl rfl rfl rfl rfl j0 Tryz.func4 closed
    (of_decide_eq_true (by kernel_rfl)) (by unfold Func.isWrapper; first | (rw [if_pos (by decide +kernel)]; kernel_rfl) | (rw [if_neg (by decide +kernel)]; exact ⟨rfl, rfl⟩))
    (fun os started H enc _ => lifted os started H enc)
end Go.Proofs.YtfpfdfkhnecdjaaGreatDoor.fillingsNear
