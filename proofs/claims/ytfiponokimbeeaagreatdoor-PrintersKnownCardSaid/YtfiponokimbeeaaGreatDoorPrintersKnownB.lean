/-
  PrintersKnown: the frame of its proof, printed by frame.py after the kit's skeleton; the walk is a certificate and a plain law.
  Conditions: none.
-/
import Derived.Test.YtfiponokimbeeaaGreatDoorPrintersKnownA
set_option linter.unusedSimpArgs false
namespace Go.Proofs.YtfiponokimbeeaaGreatDoor.printersKnown
open Go.ChangeShapes Go.WideShapes Go.ChangeAt Go.RowKit
open Go.ChangeMaps (open_string shut_string)
set_option linter.unusedVariables false
theorem j0:Tryz.pinned.checked.prog.funcNamed Rows.printersKnownRow.func=some 4:=by kernel_rfl
theorem j1:(Rows.printersKnownRow.wf (OpenSpec.ofChange Rows.printersKnownSpec))=true:=by kernel_rfl
theorem j2:(laidOutB Tryz.pinned.checked.prog)=true:=by kernel_rfl
theorem j3:(mapsRowed Tryz.pinned.checked.prog)=true:=by kernel_rfl
theorem j4:(Tryz.f4.params.all (Program.readableRec Tryz.pinned.checked.prog ·))=true:=by kernel_rfl
theorem j5:(namedTie Tryz.pinned.checked.prog Rows.printersKnownRow.named Rows.printersKnownSpec.vars)=true:=by kernel_rfl
theorem j6:(Rows.printersKnownRow.stops==[])=true:=by kernel_rfl
theorem j7:(Tryz.pinned.checked.prog.stops==[])=true:=by kernel_rfl
theorem j8:(Rows.printersKnownRow.knobs==[])=true:=by kernel_rfl
theorem j9:(Tryz.pinned.checked.prog.stopKnobs==[])=true:=by kernel_rfl
theorem j10:(Rows.printersKnownRow.inPlace==Tryz.pinned.checked.prog.inPlace 4)=true:=by kernel_rfl
theorem j11:(Rows.printersKnownRow.unfollowed==Tryz.pinned.checked.prog.unfollowed 4)=true:=by kernel_rfl
theorem j12:(Rows.printersKnownRow.recurses==Tryz.pinned.checked.prog.recurses 4)=true:=by kernel_rfl
theorem j13:(Rows.printersKnownRow.named==Tryz.pinned.checked.prog.varsNamed 4)=true:=by kernel_rfl
theorem j14:(Rows.printersKnownRow.maps==(Tryz.f4.params.toList++Rows.printersKnownSpec.plain.varTypes Tryz.pinned.checked.prog).any (Program.mapsRec Tryz.pinned.checked.prog ·))=true:=by kernel_rfl
theorem j15:(Rows.printersKnownRow.ifaces==(Tryz.f4.params.toList++Rows.printersKnownSpec.plain.varTypes Tryz.pinned.checked.prog).any (Program.ifacesRec Tryz.pinned.checked.prog ·))=true:=by kernel_rfl
theorem j16:(Rows.printersKnownRow.mapsOut==Tryz.pinned.checked.prog.mapsAmong Tryz.f4.resultTypes.toList)=true:=by kernel_rfl
theorem j17:(Rows.printersKnownRow.loops==(Tryz.f4.params.toList++Rows.printersKnownSpec.plain.varTypes Tryz.pinned.checked.prog).any (Program.loopsFrom Tryz.pinned.checked.prog ·))=true:=by kernel_rfl
theorem j18:(Rows.printersKnownRow.wideKeys==(Tryz.f4.params.toList++Rows.printersKnownSpec.plain.varTypes Tryz.pinned.checked.prog++Tryz.f4.resultTypes.toList).any (Program.wideKeysFrom Tryz.pinned.checked.prog ·))=true:=by kernel_rfl
theorem j19:(Rows.printersKnownSpec.vars.all (Program.varReadable Tryz.pinned.checked.prog ·))=true:=by kernel_rfl
theorem j20:(Tryz.f4.resultTypes.all (λt=>Tryz.pinned.checked.prog.readableRec t&&decide (t<Tryz.pinned.checked.prog.types.size)))=true:=by kernel_rfl
theorem j21:(Rows.printersKnownRow.ifacesOut==Tryz.f4.resultTypes.toList.any (Program.ifacesRec Tryz.pinned.checked.prog ·))=true:=by kernel_rfl
theorem j22:(Rows.printersKnownRow.loopsOut==Tryz.f4.resultTypes.toList.any (Program.loopsFrom Tryz.pinned.checked.prog ·))=true:=by kernel_rfl
theorem j23:(Rows.printersKnownRow.plainKeys==Tryz.pinned.checked.prog.plainKeys)=true:=by kernel_rfl
theorem j24:(Rows.printersKnownRow.shortTexts.isNone)=true:=by kernel_rfl
theorem j25:(Tryz.pinned.checked.prog.stopsHeard)=true:=by kernel_rfl
theorem j26:(Tryz.pinned.checked.prog.mayEnter)=true:=by kernel_rfl
theorem j27:(Rows.printersKnownRow.lifted==Tryz.pinned.checked.prog.liftsFinal)=true:=by kernel_rfl
theorem j28:(Tryz.pinned.checked.prog.make==some Rows.printersKnownRow.make)=true:=by kernel_rfl
theorem j29:(Rows.printersKnownRow.kinds==(if Rows.printersKnownRow.domain.isEmpty then [] else Tryz.f4.params.toList.map λt=>match Program.underlying Tryz.pinned.checked.prog t with | some (.int k)=>some k | _=>none))=true:=by kernel_rfl
theorem j30:(Rows.printersKnownRow.pinned==Rows.printersKnownRow.pinnedBy)=true:=by kernel_rfl
theorem j31:(Rows.printersKnownRow.veiled==(Tryz.f4.params.toList++Rows.printersKnownSpec.plain.varTypes Tryz.pinned.checked.prog++Tryz.f4.resultTypes.toList).any (Program.veiledRec Tryz.pinned.checked.prog ·))=true:=by kernel_rfl
theorem j32:(Rows.printersKnownRow.veiledFits Tryz.pinned.checked.prog Tryz.f4.params.toList (Tryz.f4.params.toList++Rows.printersKnownSpec.plain.varTypes Tryz.pinned.checked.prog++Tryz.f4.resultTypes.toList))=true:=by kernel_rfl
set_option maxRecDepth 100000 in
theorem Wx:joinedFacts Tryz.pinned.checked.prog 4 Tryz.f4 Rows.printersKnownSpec Rows.printersKnownRow=true:=by
 unfold joinedFacts
 simp only [az]
 exact ⟨⟨⟨⟨⟨⟨⟨⟨⟨⟨⟨⟨⟨⟨⟨⟨⟨⟨⟨⟨⟨⟨⟨⟨⟨⟨⟨⟨⟨⟨⟨j1,j2⟩,j3⟩,j4⟩,j5⟩,j6⟩,j7⟩,j8⟩,j9⟩,j10⟩,j11⟩,j12⟩,j13⟩,j14⟩,j15⟩,j16⟩,j17⟩,j18⟩,j19⟩,j20⟩,j21⟩,j22⟩,j23⟩,j24⟩,j25⟩,j26⟩,j27⟩,j28⟩,j29⟩,j30⟩,j31⟩,j32⟩
theorem over:Rows.printersKnownRow.holds Tryz.pinned (OpenSpec.ofChange Rows.printersKnownSpec):=
 OpenClaim.holds_of_wide 4 Tryz.f4 rfl rfl rfl rfl rfl rfl rfl ⟨rfl,rfl,rfl,rfl,rfl⟩ rfl rfl rfl rfl rfl j0 Tryz.func4 Wx
  (of_decide_eq_true (by kernel_rfl)) (by unfold Func.isWrapper;first | (rw [ae (by decide +kernel)];kernel_rfl) | (rw [ab (by decide +kernel)];exact ⟨rfl,rfl⟩))
  (λos started H enc _=>lifted os started H enc)
end Go.Proofs.YtfiponokimbeeaaGreatDoor.printersKnown
