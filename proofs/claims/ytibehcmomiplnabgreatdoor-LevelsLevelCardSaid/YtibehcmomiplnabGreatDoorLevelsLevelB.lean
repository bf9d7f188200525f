/-
  LevelsLevel: the frame of its proof, printed by frame.py after the kit's skeleton; the walk is a certificate and a plain law.
  Conditions: none.
-/
import Derived.Test.YtibehcmomiplnabGreatDoorLevelsLevelA
set_option linter.unusedSimpArgs false
set_option linter.unusedVariables false
set_option linter.defProp false
namespace Go.Proofs.YtibehcmomiplnabGreatDoor.levelsLevel
open Go.ChangeShapes Go.WideShapes Go.ChangeAt Go.RowKit
open Go.ChangeMaps (open_string shut_string)
theorem j0:Tryz.pinned.checked.prog.funcNamed Rows.levelsLevelRow.func=some 3:=by kernel_rfl
theorem j1:(Rows.levelsLevelRow.wf (OpenSpec.ofChange Rows.levelsLevelSpec))=true:=by kernel_rfl
theorem j2:(laidOutB Tryz.pinned.checked.prog)=true:=by kernel_rfl
theorem j3:(mapsRowed Tryz.pinned.checked.prog)=true:=by kernel_rfl
theorem j4:(Tryz.f3.params.all (Program.readableRec Tryz.pinned.checked.prog ·))=true:=by kernel_rfl
theorem j5:(namedTie Tryz.pinned.checked.prog Rows.levelsLevelRow.named Rows.levelsLevelSpec.vars)=true:=by kernel_rfl
theorem j6:(Rows.levelsLevelRow.stops==[])=true:=by kernel_rfl
theorem j7:(Tryz.pinned.checked.prog.stops==[])=true:=by kernel_rfl
theorem j8:(Rows.levelsLevelRow.knobs==[])=true:=by kernel_rfl
theorem j9:(Tryz.pinned.checked.prog.stopKnobs==[])=true:=by kernel_rfl
theorem j10:(Rows.levelsLevelRow.inPlace==Tryz.pinned.checked.prog.inPlace 3)=true:=by kernel_rfl
theorem j11:(Rows.levelsLevelRow.unfollowed==Tryz.pinned.checked.prog.unfollowed 3)=true:=by kernel_rfl
theorem j12:(Rows.levelsLevelRow.recurses==Tryz.pinned.checked.prog.recurses 3)=true:=by kernel_rfl
theorem j13:(Rows.levelsLevelRow.named==Tryz.pinned.checked.prog.varsNamed 3)=true:=by kernel_rfl
theorem j14:(Rows.levelsLevelRow.maps==(Tryz.f3.params.toList++Rows.levelsLevelSpec.plain.varTypes Tryz.pinned.checked.prog).any (Program.mapsRec Tryz.pinned.checked.prog ·))=true:=by kernel_rfl
theorem j15:(Rows.levelsLevelRow.ifaces==(Tryz.f3.params.toList++Rows.levelsLevelSpec.plain.varTypes Tryz.pinned.checked.prog).any (Program.ifacesRec Tryz.pinned.checked.prog ·))=true:=by kernel_rfl
theorem j16:(Rows.levelsLevelRow.mapsOut==Tryz.pinned.checked.prog.mapsAmong Tryz.f3.resultTypes.toList)=true:=by kernel_rfl
theorem j17:(Rows.levelsLevelRow.loops==(Tryz.f3.params.toList++Rows.levelsLevelSpec.plain.varTypes Tryz.pinned.checked.prog).any (Program.loopsFrom Tryz.pinned.checked.prog ·))=true:=by kernel_rfl
theorem j18:(Rows.levelsLevelRow.wideKeys==(Tryz.f3.params.toList++Rows.levelsLevelSpec.plain.varTypes Tryz.pinned.checked.prog++Tryz.f3.resultTypes.toList).any (Program.wideKeysFrom Tryz.pinned.checked.prog ·))=true:=by kernel_rfl
theorem j19:(Rows.levelsLevelSpec.vars.all (Program.varReadable Tryz.pinned.checked.prog ·))=true:=by kernel_rfl
theorem j20:(Tryz.f3.resultTypes.all (λt=>Tryz.pinned.checked.prog.readableRec t&&decide (t<Tryz.pinned.checked.prog.types.size)))=true:=by kernel_rfl
theorem j21:(Rows.levelsLevelRow.ifacesOut==Tryz.f3.resultTypes.toList.any (Program.ifacesRec Tryz.pinned.checked.prog ·))=true:=by kernel_rfl
theorem j22:(Rows.levelsLevelRow.loopsOut==Tryz.f3.resultTypes.toList.any (Program.loopsFrom Tryz.pinned.checked.prog ·))=true:=by kernel_rfl
theorem j23:(Rows.levelsLevelRow.plainKeys==Tryz.pinned.checked.prog.plainKeys)=true:=by kernel_rfl
theorem j24:(Rows.levelsLevelRow.shortTexts.isNone)=true:=by kernel_rfl
theorem j25:(Tryz.pinned.checked.prog.stopsHeard)=true:=by kernel_rfl
theorem j26:(Tryz.pinned.checked.prog.mayEnter)=true:=by kernel_rfl
theorem j27:(Rows.levelsLevelRow.lifted==Tryz.pinned.checked.prog.liftsFinal)=true:=by kernel_rfl
theorem j28:(Tryz.pinned.checked.prog.make==some Rows.levelsLevelRow.make)=true:=by kernel_rfl
theorem j29:(Rows.levelsLevelRow.kinds==(if Rows.levelsLevelRow.domain.isEmpty then [] else Tryz.f3.params.toList.map λt=>match Program.underlying Tryz.pinned.checked.prog t with | some (.int k)=>some k | _=>none))=true:=by kernel_rfl
theorem j30:(Rows.levelsLevelRow.pinned==Rows.levelsLevelRow.pinnedBy)=true:=by kernel_rfl
theorem j31:(Rows.levelsLevelRow.veiled==(Tryz.f3.params.toList++Rows.levelsLevelSpec.plain.varTypes Tryz.pinned.checked.prog++Tryz.f3.resultTypes.toList).any (Program.veiledRec Tryz.pinned.checked.prog ·))=true:=by kernel_rfl
theorem j32:(Rows.levelsLevelRow.veiledFits Tryz.pinned.checked.prog Tryz.f3.params.toList (Tryz.f3.params.toList++Rows.levelsLevelSpec.plain.varTypes Tryz.pinned.checked.prog++Tryz.f3.resultTypes.toList))=true:=by kernel_rfl
set_option maxRecDepth 100000 in
theorem abb:joinedFacts Tryz.pinned.checked.prog 3 Tryz.f3 Rows.levelsLevelSpec Rows.levelsLevelRow=true:=by
 unfold joinedFacts
 simp only [aD]
 exact ⟨⟨⟨⟨⟨⟨⟨⟨⟨⟨⟨⟨⟨⟨⟨⟨⟨⟨⟨⟨⟨⟨⟨⟨⟨⟨⟨⟨⟨⟨⟨j1,j2⟩,j3⟩,j4⟩,j5⟩,j6⟩,j7⟩,j8⟩,j9⟩,j10⟩,j11⟩,j12⟩,j13⟩,j14⟩,j15⟩,j16⟩,j17⟩,j18⟩,j19⟩,j20⟩,j21⟩,j22⟩,j23⟩,j24⟩,j25⟩,j26⟩,j27⟩,j28⟩,j29⟩,j30⟩,j31⟩,j32⟩
theorem over:Rows.levelsLevelRow.holds Tryz.pinned (OpenSpec.ofChange Rows.levelsLevelSpec):=
 OpenClaim.holds_of_wide 3 Tryz.f3 rfl rfl rfl rfl rfl rfl rfl ⟨rfl,rfl,rfl,rfl,rfl⟩ rfl rfl rfl rfl rfl j0 Tryz.func3 abb
  (of_decide_eq_true (by kernel_rfl)) (by unfold Func.isWrapper;first | (rw [ae (by decide +kernel)];kernel_rfl) | (rw [ab (by decide +kernel)];exact ⟨rfl,rfl⟩))
  (λos started H enc _=>lifted os started H enc)
end Go.Proofs.YtibehcmomiplnabGreatDoor.levelsLevel
