/-
  BoundsDays: the frame of its proof, printed by frame.py after the kit's skeleton; the walk is a certificate and a plain law.
  Conditions: none.
-/
import Derived.Test.YtfchdhhkohmedaaGreatDoorRows
import Derived.WalkKit
import Derived.ProofKit
import Derived.OpenShut
import Derived.ShutString
import Derived.ChangeOld
import Derived.Below
import Derived.Carry
import Derived.Lay
import Derived.LaidMore
import Derived.SevenTiedAt
import Derived.Stop.Joined
import Derived.Test.YtfchdhhkohmedaaGreatDoorTie
import Derived.Test.YtfchdhhkohmedaaGreatDoorCards
import Derived.Test.YtfchdhhkohmedaaGreatDoorCeBa
import Derived.Test.YtfchdhhkohmedaaGreatDoorLawBzc
import Derived.Test.YtfchdhhkohmedaaGreatDoorHGl
import Derived.Test.YtfchdhhkohmedaaGreatDoorAbsS
import Derived.Test.YtfchdhhkohmedaaGreatDoorAbsY
import Derived.Test.YtfchdhhkohmedaaGreatDoorAbsZ
namespace Go.Proofs.YtfchdhhkohmedaaGreatDoor.boundsDays
open Go.ChangeShapes Go.WideShapes Go.ChangeAt Go.RowKit
open Go.ChangeMaps (open_string shut_string)
set_option linter.unusedVariables false
theorem own : ownKnob Tryz.prog.godebug = none := by kernel_rfl
theorem Aq : laidOutB Tryz.prog = true := by kernel_rfl
theorem walk (y0 : Abs.den [.i .u8, .bo, .i .u16, .i .u8, .i .u8, .i .u8, .i .u8, .i .u8, .i .u8, .i .u8]) (w : World) (w0 : Abs.nB [.i .u8, .bo, .i .u16, .i .u8, .i .u8, .i .u8, .i .u8, .i .u8, .i .u8, .i .u8] y0) (hg : Abs.GL Abs.eN w) :
    Calls Tryz.prog 3 #[.agg (Abs.vals [.i .u8, .bo, .i .u16, .i .u8, .i .u8, .i .u8, .i .u8, .i .u8, .i .u8, .i .u8] y0).toArray] w fun e w' => e = .returned (.bool true) ∧ Below w.heap.size w w' :=
  (Go.Sh.pure_circalaw17_BoundsDays 20000000 (y0.1, y0.2.1, y0.2.2.1, y0.2.2.2.1, y0.2.2.2.2.1, y0.2.2.2.2.2.1, y0.2.2.2.2.2.2.1, y0.2.2.2.2.2.2.2.1, y0.2.2.2.2.2.2.2.2.1, y0.2.2.2.2.2.2.2.2.2) true (by
    have nat : ∀ (a : Int) (n : Nat), 0 ≤ a ∧ a ≤ (n : Int) → ∃ x : Nat, a = (x : Int) ∧ x ≤ n := fun a n h => ⟨a.toNat, by omega, by omega⟩
    obtain ⟨i0, e0, b0⟩ := nat y0.1 255 (bounds_u8 w0.1)
    obtain ⟨i2, e2, b2⟩ := nat y0.2.2.1 65535 (bounds_u16 w0.2.2.1)
    obtain ⟨i3, e3, b3⟩ := nat y0.2.2.2.1 255 (bounds_u8 w0.2.2.2.1)
    obtain ⟨i4, e4, b4⟩ := nat y0.2.2.2.2.1 255 (bounds_u8 w0.2.2.2.2.1)
    obtain ⟨i5, e5, b5⟩ := nat y0.2.2.2.2.2.1 255 (bounds_u8 w0.2.2.2.2.2.1)
    obtain ⟨i6, e6, b6⟩ := nat y0.2.2.2.2.2.2.1 255 (bounds_u8 w0.2.2.2.2.2.2.1)
    obtain ⟨i7, e7, b7⟩ := nat y0.2.2.2.2.2.2.2.1 255 (bounds_u8 w0.2.2.2.2.2.2.2.1)
    obtain ⟨i8, e8, b8⟩ := nat y0.2.2.2.2.2.2.2.2.1 255 (bounds_u8 w0.2.2.2.2.2.2.2.2.1)
    obtain ⟨i9, e9, b9⟩ := nat y0.2.2.2.2.2.2.2.2.2 255 (bounds_u8 w0.2.2.2.2.2.2.2.2.2)
    show Go.Sh.bM 20000000 y0.1 y0.2.1 y0.2.2.1 y0.2.2.2.1 y0.2.2.2.2.1 y0.2.2.2.2.2.1 y0.2.2.2.2.2.2.1 y0.2.2.2.2.2.2.2.1 y0.2.2.2.2.2.2.2.2.1 y0.2.2.2.2.2.2.2.2.2 = some true
    rw [e0, e2, e3, e4, e5, e6, e7, e8, e9]
    exact Go.Sh.p8 i0 i2 i3 i4 i5 i6 i7 i8 i9 y0.2.1 (by omega) (by omega) (by omega) (by omega) (by omega) (by omega) (by omega) (by omega) (by omega))).law
    ⟨_, _, rfl, ⟨_, rfl, (Abs.fA _ [.i .u8, .bo, .i .u16, .i .u8, .i .u8, .i .u8, .i .u8, .i .u8, .i .u8, .i .u8] y0 _).2 rfl⟩, rfl⟩ hg
set_option maxRecDepth 100000 in
theorem lifted (os : Os) (started : os.Started) (H : Type) (enc : TypeId × Value → H) :
    ReturnsInHanded {} Tryz.checked os 3 .any (fun w args => (Rows.boundsDaysSpec.pre enc Tryz.prog Tryz.f3 Rows.boundsDaysRow.domain false w args ∧ laidMetH Tryz.prog Rows.boundsDaysRow.laid w) ∧ sizedMet enc Tryz.prog Tryz.f3 (OpenSpec.ofChange Rows.boundsDaysSpec) false w args)
      (Rows.boundsDaysSpec.post enc Tryz.prog Tryz.f3 false true false false) := by
  refine returnsInHanded_of_change_and (C := Tryz.checked) (X := fun w _ => laidMetH Tryz.prog Rows.boundsDaysRow.laid w) (fun _ _ _ hh h => h.of_heap hh) own started (by kernel_rfl) Tryz.func3
    (ChangeSpec.witness_shaped (enc := enc) (C := Tryz.checked) (os := os) (X := fun w _ => laidMetH Tryz.prog Rows.boundsDaysRow.laid w) false (World.laidAll Tryz.prog os Rows.boundsDaysRow.laid) #[.agg #[.int .u8 0, .bool false, .int .u16 0, .int .u8 0, .int .u8 0, .int .u8 0, .int .u8 0, .int .u8 0, .int .u8 0, .int .u8 0]] 8 (World.laidAll_os _ _ _)
      (World.shaped_of_ZipB (by kernel_rfl) (by kernel_rfl)) (by kernel_rfl) (by kernel_rfl) (by kernel_rfl)
      (by rw [MakeChecks.laidMetH_plain _ _ _ (by kernel_rfl)]; exact laidMet_laidAll _ (by kernel_rfl) (by kernel_rfl))) ?_
  intro W base args ds gs before hval0 hW hcnd _ hL _
  have hval : ∀ (j : Nat) t v, Tryz.f3.params[j]? = some t → args[j]? = some v → Value.okWide Tryz.prog W .any base t v := hval0
  have hW' := hW
  obtain ⟨p, q, hA0, hV, rfl, hfz, hnd⟩ := hW
  have hA : DataW.TrodAll enc Tryz.prog W 0 (fun _ => true) true Tryz.f3.params.toList args.toList ds p := hA0
  rw [Tryz.params3] at hA hval
  obtain ⟨v0, vs0, d0, ds0, p0, q0, hargs, rfl, rfl, h0, r0⟩ := trodAll_cons hA
  obtain ⟨rfl, rfl, rfl⟩ := trodAll_nil r0
  obtain rfl : args = #[v0] := by cases args; simp_all
  obtain ⟨rfl, rfl⟩ := trodVars_none hV
  have k0 := h0
  have lt0 : ∀ x ∈ p0, x.block < W.heap.size := by obtain ⟨m, hm⟩ := k0; exact DataW.trod_lt m _ _ _ hm
  obtain ⟨y0, e0, w0⟩ := Abs.wF (tr := [.i .u8, .bo, .i .u16, .i .u8, .i .u8, .i .u8, .i .u8, .i .u8, .i .u8, .i .u8]) (d := 12) (by kernel_rfl) (by kernel_rfl) h0
  obtain rfl := Abs.qe Tryz.underlying28 (hval 0 28 v0 rfl rfl) e0
  clear hA0 hval0
  have hgl : Abs.GL Abs.eN W := by
    have hL' := hL
    rw [MakeChecks.laidMetH_plain _ _ _ (by kernel_rfl)] at hL'
    exact Abs.uE hL' (List.mem_of_getElem? (show Rows.boundsDaysRow.laid[8]? = some ("circa/seasons.spans", Rows.laid_circa_seasons_spans) from rfl)) (List.mem_of_getElem? (show Rows.boundsDaysRow.laid[7]? = some ("circa/months.lengths", Rows.laid_circa_months_lengths) from rfl)) (List.mem_of_getElem? (show Rows.boundsDaysRow.laid[6]? = some ("circa/years.steps", Rows.laid_circa_years_steps) from rfl)) (List.mem_of_getElem? (show Rows.boundsDaysRow.laid[5]? = some ("strconv.ErrSyntax", Rows.laid_strconv_ErrSyntax) from rfl))
  refine (walk y0 W w0 hgl).mono fun e W' ⟨he, bel⟩ => ?_
  subst he
  exact ⟨_, rfl, _, _, _, [], _, [], hW', trodAll_mk1 (shut_bool Tryz.underlying4 _), (trodAll_cons_mk (Below.trod Aq (by kernel_rfl) (of_decide_eq_true (by kernel_rfl)) k0 bel lt0) trodAll_mk0), rfl, bel.frame _, fun h => by cases h⟩
end Go.Proofs.YtfchdhhkohmedaaGreatDoor.boundsDays
