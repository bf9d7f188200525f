/-
  FillingsKnown: the frame of its proof, printed by frame.py after the kit's skeleton; the walk is a certificate and a plain law.
  Conditions: none.
-/
import Derived.Test.YtfpfdfkhnecdjaaGreatDoorRows
import Derived.WalkKit
import Derived.ProofKit
import Derived.OpenShut
import Derived.ShutString
import Derived.ChangeOld
import Derived.Below
import Derived.Carry
import Derived.Lay
import Derived.LaidMore
import Derived.SevenTiedAt
import Derived.Stop.Joined
import Derived.Test.YtfpfdfkhnecdjaaGreatDoorTie
import Derived.Test.YtfpfdfkhnecdjaaGreatDoorCards
import Derived.Test.YtfpfdfkhnecdjaaGreatDoorCeF
import Derived.Test.YtfpfdfkhnecdjaaGreatDoorLawXc
import Derived.Test.YtfpfdfkhnecdjaaGreatDoorHGl
import Derived.Test.YtfpfdfkhnecdjaaGreatDoorAbsS
import Derived.Test.YtfpfdfkhnecdjaaGreatDoorAbsY
import Derived.Test.YtfpfdfkhnecdjaaGreatDoorAbsZ
namespace Go.Proofs.YtfpfdfkhnecdjaaGreatDoor.fillingsKnown
open Go.ChangeShapes Go.WideShapes Go.ChangeAt Go.RowKit
open Go.ChangeMaps (open_string shut_string)
set_option linter.unusedVariables false
theorem own : ownKnob Tryz.prog.godebug = none := by kernel_rfl
theorem walk  (w : World) (hg : Abs.GL Abs.fF w) :
    Calls Tryz.prog 7 #[] w fun e w' => e = .returned (.bool true) ∧ Below w.heap.size w w' :=
  (Go.Sh.pure_circalaw16_FillingsKnown 20000000 (()) true (by
    show Go.Sh.bB 20000000 = some true
    exact Go.Sh.me)).law
    rfl hg
set_option maxRecDepth 100000 in
theorem lifted (os : Os) (started : os.Started) (H : Type) (enc : TypeId × Value → H) :
    ReturnsInHanded {} Tryz.checked os 7 .any (fun w args => (Rows.fillingsKnownSpec.pre enc Tryz.prog Tryz.f7 Rows.fillingsKnownRow.domain false w args ∧ laidMetH Tryz.prog Rows.fillingsKnownRow.laid w) ∧ sizedMet enc Tryz.prog Tryz.f7 (OpenSpec.ofChange Rows.fillingsKnownSpec) false w args)
      (Rows.fillingsKnownSpec.post enc Tryz.prog Tryz.f7 false true false false) := by
  refine returnsInHanded_of_change_and (C := Tryz.checked) (X := fun w _ => laidMetH Tryz.prog Rows.fillingsKnownRow.laid w) (fun _ _ _ hh h => h.of_heap hh) own started (by kernel_rfl) Tryz.func7
    (ChangeSpec.witness_shaped (enc := enc) (C := Tryz.checked) (os := os) (X := fun w _ => laidMetH Tryz.prog Rows.fillingsKnownRow.laid w) false (World.laidAll Tryz.prog os Rows.fillingsKnownRow.laid) #[] 8 (World.laidAll_os _ _ _)
      (World.shaped_of_ZipB (by kernel_rfl) (by kernel_rfl)) (by kernel_rfl) (by kernel_rfl) (by kernel_rfl)
      (by rw [MakeChecks.laidMetH_plain _ _ _ (by kernel_rfl)]; exact laidMet_laidAll _ (by kernel_rfl) (by kernel_rfl))) ?_
  intro W base args ds gs before hval0 hW hcnd _ hL _
  have hval : ∀ (j : Nat) t v, Tryz.f7.params[j]? = some t → args[j]? = some v → Value.okWide Tryz.prog W .any base t v := hval0
  have hW' := hW
  obtain ⟨p, q, hA0, hV, rfl, hfz, hnd⟩ := hW
  have hA : DataW.TrodAll enc Tryz.prog W 0 (fun _ => true) true Tryz.f7.params.toList args.toList ds p := hA0
  rw [Tryz.params7] at hA hval
  obtain ⟨rfl, rfl, rfl⟩ := trodAll_none hA
  obtain ⟨rfl, rfl⟩ := trodVars_none hV
  clear hA0 hval0
  have hgl : Abs.GL Abs.fF W := by
    have hL' := hL
    rw [MakeChecks.laidMetH_plain _ _ _ (by kernel_rfl)] at hL'
    exact Abs.uM hL' (List.mem_of_getElem? (show Rows.fillingsKnownRow.laid[8]? = some ("circa/seasons.spans", Rows.laid_circa_seasons_spans) from rfl)) (List.mem_of_getElem? (show Rows.fillingsKnownRow.laid[7]? = some ("circa/months.lengths", Rows.laid_circa_months_lengths) from rfl)) (List.mem_of_getElem? (show Rows.fillingsKnownRow.laid[6]? = some ("circa/years.steps", Rows.laid_circa_years_steps) from rfl)) (List.mem_of_getElem? (show Rows.fillingsKnownRow.laid[5]? = some ("strconv.ErrSyntax", Rows.laid_strconv_ErrSyntax) from rfl))
  refine (walk  W hgl).mono fun e W' ⟨he, bel⟩ => ?_
  subst he
  exact ⟨_, rfl, _, _, _, [], _, [], hW', trodAll_mk1 (shut_bool Tryz.underlying4 _), rfl, rfl, bel.frame _, fun h => by cases h⟩
end Go.Proofs.YtfpfdfkhnecdjaaGreatDoor.fillingsKnown
