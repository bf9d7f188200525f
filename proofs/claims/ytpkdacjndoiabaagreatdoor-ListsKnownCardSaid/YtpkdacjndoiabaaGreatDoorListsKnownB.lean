/-
  ListsKnown: the frame of its proof, printed by frame.py after the kit's skeleton; the walk is a certificate and a plain law.
  Conditions: none.
-/
import Derived.Test.YtpkdacjndoiabaaGreatDoorListsKnownA
set_option linter.unusedSimpArgs false
namespace Go.Proofs.YtpkdacjndoiabaaGreatDoor.listsKnown
open Go.ChangeShapes Go.WideShapes Go.ChangeAt Go.RowKit
open Go.ChangeMaps (open_string shut_string)
set_option linter.unusedVariables false
theorem j0:Tryz.pinned.checked.prog.funcNamed Rows.listsKnownRow.func=some 6:=by kernel_rfl
theorem j1:(Rows.listsKnownRow.wf (OpenSpec.ofChange Rows.listsKnownSpec))=true:=by kernel_rfl
theorem j2:(laidOutB Tryz.pinned.checked.prog)=true:=by kernel_rfl
theorem j3:(mapsRowed Tryz.pinned.checked.prog)=true:=by kernel_rfl
theorem j4:(Tryz.f6.params.all (Program.readableRec Tryz.pinned.checked.prog ·))=true:=by kernel_rfl
theorem j5:(namedTie Tryz.pinned.checked.prog Rows.listsKnownRow.named Rows.listsKnownSpec.vars)=true:=by kernel_rfl
theorem j6:(Rows.listsKnownRow.stops==[])=true:=by kernel_rfl
theorem j7:(Tryz.pinned.checked.prog.stops==[])=true:=by kernel_rfl
theorem j8:(Rows.listsKnownRow.knobs==[])=true:=by kernel_rfl
theorem j9:(Tryz.pinned.checked.prog.stopKnobs==[])=true:=by kernel_rfl
theorem j10:(Rows.listsKnownRow.inPlace==Tryz.pinned.checked.prog.inPlace 6)=true:=by kernel_rfl
theorem j11:(Rows.listsKnownRow.unfollowed==Tryz.pinned.checked.prog.unfollowed 6)=true:=by kernel_rfl
theorem j12:(Rows.listsKnownRow.recurses==Tryz.pinned.checked.prog.recurses 6)=true:=by kernel_rfl
theorem j13:(Rows.listsKnownRow.named==Tryz.pinned.checked.prog.varsNamed 6)=true:=by kernel_rfl
theorem j14:(Rows.listsKnownRow.maps==(Tryz.f6.params.toList++Rows.listsKnownSpec.plain.varTypes Tryz.pinned.checked.prog).any (Program.mapsRec Tryz.pinned.checked.prog ·))=true:=by kernel_rfl
theorem j15:(Rows.listsKnownRow.ifaces==(Tryz.f6.params.toList++Rows.listsKnownSpec.plain.varTypes Tryz.pinned.checked.prog).any (Program.ifacesRec Tryz.pinned.checked.prog ·))=true:=by kernel_rfl
theorem j16:(Rows.listsKnownRow.mapsOut==Tryz.pinned.checked.prog.mapsAmong Tryz.f6.resultTypes.toList)=true:=by kernel_rfl
theorem j17:(Rows.listsKnownRow.loops==(Tryz.f6.params.toList++Rows.listsKnownSpec.plain.varTypes Tryz.pinned.checked.prog).any (Program.loopsFrom Tryz.pinned.checked.prog ·))=true:=by kernel_rfl
theorem j18:(Rows.listsKnownRow.wideKeys==(Tryz.f6.params.toList++Rows.listsKnownSpec.plain.varTypes Tryz.pinned.checked.prog++Tryz.f6.resultTypes.toList).any (Program.wideKeysFrom Tryz.pinned.checked.prog ·))=true:=by kernel_rfl
theorem j19:(Rows.listsKnownSpec.vars.all (Program.varReadable Tryz.pinned.checked.prog ·))=true:=by kernel_rfl
theorem j20:(Tryz.f6.resultTypes.all (λt=>Tryz.pinned.checked.prog.readableRec t&&decide (t<Tryz.pinned.checked.prog.types.size)))=true:=by kernel_rfl
theorem j21:(Rows.listsKnownRow.ifacesOut==Tryz.f6.resultTypes.toList.any (Program.ifacesRec Tryz.pinned.checked.prog ·))=true:=by kernel_rfl
theorem j22:(Rows.listsKnownRow.loopsOut==Tryz.f6.resultTypes.toList.any (Program.loopsFrom Tryz.pinned.checked.prog ·))=true:=by kernel_rfl
theorem j23:(Rows.listsKnownRow.plainKeys==Tryz.pinned.checked.prog.plainKeys)=true:=by kernel_rfl
theorem j24:(Rows.listsKnownRow.shortTexts.isNone)=true:=by kernel_rfl
theorem j25:(Tryz.pinned.checked.prog.stopsHeard)=true:=by kernel_rfl
theorem j26:(Tryz.pinned.checked.prog.mayEnter)=true:=by kernel_rfl
theorem j27:(Rows.listsKnownRow.lifted==Tryz.pinned.checked.prog.liftsFinal)=true:=by kernel_rfl
theorem j28:(Tryz.pinned.checked.prog.make==some Rows.listsKnownRow.make)=true:=by kernel_rfl
theorem j29:(Rows.listsKnownRow.kinds==(if Rows.listsKnownRow.domain.isEmpty then [] else Tryz.f6.params.toList.map λt=>match Program.underlying Tryz.pinned.checked.prog t with | some (.int k)=>some k | _=>none))=true:=by kernel_rfl
theorem j30:(Rows.listsKnownRow.pinned==Rows.listsKnownRow.pinnedBy)=true:=by kernel_rfl
theorem j31:(Rows.listsKnownRow.veiled==(Tryz.f6.params.toList++Rows.listsKnownSpec.plain.varTypes Tryz.pinned.checked.prog++Tryz.f6.resultTypes.toList).any (Program.veiledRec Tryz.pinned.checked.prog ·))=true:=by kernel_rfl
theorem j32:(Rows.listsKnownRow.veiledFits Tryz.pinned.checked.prog Tryz.f6.params.toList (Tryz.f6.params.toList++Rows.listsKnownSpec.plain.varTypes Tryz.pinned.checked.prog++Tryz.f6.resultTypes.toList))=true:=by kernel_rfl
set_option maxRecDepth 100000 in
theorem RU:joinedFacts Tryz.pinned.checked.prog 6 Tryz.f6 Rows.listsKnownSpec Rows.listsKnownRow=true:=by
 unfold joinedFacts
 simp only [az]
 exact ⟨⟨⟨⟨⟨⟨⟨⟨⟨⟨⟨⟨⟨⟨⟨⟨⟨⟨⟨⟨⟨⟨⟨⟨⟨⟨⟨⟨⟨⟨⟨j1,j2⟩,j3⟩,j4⟩,j5⟩,j6⟩,j7⟩,j8⟩,j9⟩,j10⟩,j11⟩,j12⟩,j13⟩,j14⟩,j15⟩,j16⟩,j17⟩,j18⟩,j19⟩,j20⟩,j21⟩,j22⟩,j23⟩,j24⟩,j25⟩,j26⟩,j27⟩,j28⟩,j29⟩,j30⟩,j31⟩,j32⟩
theorem over:Rows.listsKnownRow.holds Tryz.pinned (OpenSpec.ofChange Rows.listsKnownSpec):=
 OpenClaim.holds_of_wide 6 Tryz.f6 rfl rfl rfl rfl rfl rfl rfl ⟨rfl,rfl,rfl,rfl,rfl⟩ rfl rfl rfl rfl rfl j0 Tryz.func6 RU
  (of_decide_eq_true (by kernel_rfl)) (by unfold Func.isWrapper;first | (rw [ae (by decide +kernel)];kernel_rfl) | (rw [ab (by decide +kernel)];exact ⟨rfl,rfl⟩))
  (λos started H enc _=>lifted os started H enc)
end Go.Proofs.YtpkdacjndoiabaaGreatDoor.listsKnown
