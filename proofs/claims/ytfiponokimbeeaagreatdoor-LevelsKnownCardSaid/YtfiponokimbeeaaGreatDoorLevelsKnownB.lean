/-
  LevelsKnown: the frame of its proof, printed by frame.py after the kit's skeleton; the walk is a certificate and a plain law.
  Conditions: none.
-/
import Derived.Test.YtfiponokimbeeaaGreatDoorLevelsKnownA
set_option linter.unusedSimpArgs false
namespace Go.Proofs.YtfiponokimbeeaaGreatDoor.levelsKnown
open Go.ChangeShapes Go.WideShapes Go.ChangeAt Go.RowKit
open Go.ChangeMaps (open_string shut_string)
set_option linter.unusedVariables false
theorem j0:Tryz.pinned.checked.prog.funcNamed Rows.levelsKnownRow.func=some 5:=by kernel_rfl
theorem j1:(Rows.levelsKnownRow.wf (OpenSpec.ofChange Rows.levelsKnownSpec))=true:=by kernel_rfl
theorem j2:(laidOutB Tryz.pinned.checked.prog)=true:=by kernel_rfl
theorem j3:(mapsRowed Tryz.pinned.checked.prog)=true:=by kernel_rfl
theorem j4:(Tryz.f5.params.all (Program.readableRec Tryz.pinned.checked.prog ·))=true:=by kernel_rfl
theorem j5:(namedTie Tryz.pinned.checked.prog Rows.levelsKnownRow.named Rows.levelsKnownSpec.vars)=true:=by kernel_rfl
theorem j6:(Rows.levelsKnownRow.stops==[])=true:=by kernel_rfl
theorem j7:(Tryz.pinned.checked.prog.stops==[])=true:=by kernel_rfl
theorem j8:(Rows.levelsKnownRow.knobs==[])=true:=by kernel_rfl
theorem j9:(Tryz.pinned.checked.prog.stopKnobs==[])=true:=by kernel_rfl
theorem j10:(Rows.levelsKnownRow.inPlace==Tryz.pinned.checked.prog.inPlace 5)=true:=by kernel_rfl
theorem j11:(Rows.levelsKnownRow.unfollowed==Tryz.pinned.checked.prog.unfollowed 5)=true:=by kernel_rfl
theorem j12:(Rows.levelsKnownRow.recurses==Tryz.pinned.checked.prog.recurses 5)=true:=by kernel_rfl
theorem j13:(Rows.levelsKnownRow.named==Tryz.pinned.checked.prog.varsNamed 5)=true:=by kernel_rfl
theorem j14:(Rows.levelsKnownRow.maps==(Tryz.f5.params.toList++Rows.levelsKnownSpec.plain.varTypes Tryz.pinned.checked.prog).any (Program.mapsRec Tryz.pinned.checked.prog ·))=true:=by kernel_rfl
theorem j15:(Rows.levelsKnownRow.ifaces==(Tryz.f5.params.toList++Rows.levelsKnownSpec.plain.varTypes Tryz.pinned.checked.prog).any (Program.ifacesRec Tryz.pinned.checked.prog ·))=true:=by kernel_rfl
theorem j16:(Rows.levelsKnownRow.mapsOut==Tryz.pinned.checked.prog.mapsAmong Tryz.f5.resultTypes.toList)=true:=by kernel_rfl
theorem j17:(Rows.levelsKnownRow.loops==(Tryz.f5.params.toList++Rows.levelsKnownSpec.plain.varTypes Tryz.pinned.checked.prog).any (Program.loopsFrom Tryz.pinned.checked.prog ·))=true:=by kernel_rfl
theorem j18:(Rows.levelsKnownRow.wideKeys==(Tryz.f5.params.toList++Rows.levelsKnownSpec.plain.varTypes Tryz.pinned.checked.prog++Tryz.f5.resultTypes.toList).any (Program.wideKeysFrom Tryz.pinned.checked.prog ·))=true:=by kernel_rfl
theorem j19:(Rows.levelsKnownSpec.vars.all (Program.varReadable Tryz.pinned.checked.prog ·))=true:=by kernel_rfl
theorem j20:(Tryz.f5.resultTypes.all (λt=>Tryz.pinned.checked.prog.readableRec t&&decide (t<Tryz.pinned.checked.prog.types.size)))=true:=by kernel_rfl
theorem j21:(Rows.levelsKnownRow.ifacesOut==Tryz.f5.resultTypes.toList.any (Program.ifacesRec Tryz.pinned.checked.prog ·))=true:=by kernel_rfl
theorem j22:(Rows.levelsKnownRow.loopsOut==Tryz.f5.resultTypes.toList.any (Program.loopsFrom Tryz.pinned.checked.prog ·))=true:=by kernel_rfl
theorem j23:(Rows.levelsKnownRow.plainKeys==Tryz.pinned.checked.prog.plainKeys)=true:=by kernel_rfl
theorem j24:(Rows.levelsKnownRow.shortTexts.isNone)=true:=by kernel_rfl
theorem j25:(Tryz.pinned.checked.prog.stopsHeard)=true:=by kernel_rfl
theorem j26:(Tryz.pinned.checked.prog.mayEnter)=true:=by kernel_rfl
theorem j27:(Rows.levelsKnownRow.lifted==Tryz.pinned.checked.prog.liftsFinal)=true:=by kernel_rfl
theorem j28:(Tryz.pinned.checked.prog.make==some Rows.levelsKnownRow.make)=true:=by kernel_rfl
theorem j29:(Rows.levelsKnownRow.kinds==(if Rows.levelsKnownRow.domain.isEmpty then [] else Tryz.f5.params.toList.map λt=>match Program.underlying Tryz.pinned.checked.prog t with | some (.int k)=>some k | _=>none))=true:=by kernel_rfl
theorem j30:(Rows.levelsKnownRow.pinned==Rows.levelsKnownRow.pinnedBy)=true:=by kernel_rfl
theorem j31:(Rows.levelsKnownRow.veiled==(Tryz.f5.params.toList++Rows.levelsKnownSpec.plain.varTypes Tryz.pinned.checked.prog++Tryz.f5.resultTypes.toList).any (Program.veiledRec Tryz.pinned.checked.prog ·))=true:=by kernel_rfl
theorem j32:(Rows.levelsKnownRow.veiledFits Tryz.pinned.checked.prog Tryz.f5.params.toList (Tryz.f5.params.toList++Rows.levelsKnownSpec.plain.varTypes Tryz.pinned.checked.prog++Tryz.f5.resultTypes.toList))=true:=by kernel_rfl
set_option maxRecDepth 100000 in
theorem Uw:joinedFacts Tryz.pinned.checked.prog 5 Tryz.f5 Rows.levelsKnownSpec Rows.levelsKnownRow=true:=by
 unfold joinedFacts
 simp only [az]
 exact ⟨⟨⟨⟨⟨⟨⟨⟨⟨⟨⟨⟨⟨⟨⟨⟨⟨⟨⟨⟨⟨⟨⟨⟨⟨⟨⟨⟨⟨⟨⟨j1,j2⟩,j3⟩,j4⟩,j5⟩,j6⟩,j7⟩,j8⟩,j9⟩,j10⟩,j11⟩,j12⟩,j13⟩,j14⟩,j15⟩,j16⟩,j17⟩,j18⟩,j19⟩,j20⟩,j21⟩,j22⟩,j23⟩,j24⟩,j25⟩,j26⟩,j27⟩,j28⟩,j29⟩,j30⟩,j31⟩,j32⟩
theorem over:Rows.levelsKnownRow.holds Tryz.pinned (OpenSpec.ofChange Rows.levelsKnownSpec):=
 OpenClaim.holds_of_wide 5 Tryz.f5 rfl rfl rfl rfl rfl rfl rfl ⟨rfl,rfl,rfl,rfl,rfl⟩ rfl rfl rfl rfl rfl j0 Tryz.func5 Uw
  (of_decide_eq_true (by kernel_rfl)) (by unfold Func.isWrapper;first | (rw [ae (by decide +kernel)];kernel_rfl) | (rw [ab (by decide +kernel)];exact ⟨rfl,rfl⟩))
  (λos started H enc _=>lifted os started H enc)
end Go.Proofs.YtfiponokimbeeaaGreatDoor.levelsKnown
