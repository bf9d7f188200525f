/-
  BoundsPair: the frame of its proof, printed by frame.py after the kit's skeleton; the walk is a certificate and a plain law.
  Conditions: none.
-/
import Derived.Test.YtfchdhhkohmedaaGreatDoorRows
import Derived.WalkKit
import Derived.ProofKit
import Derived.OpenShut
import Derived.ShutString
import Derived.ChangeOld
import Derived.Below
import Derived.Carry
import Derived.Lay
import Derived.LaidMore
import Derived.SevenTiedAt
import Derived.Stop.Joined
import Derived.Test.YtfchdhhkohmedaaGreatDoorTie
import Derived.Test.YtfchdhhkohmedaaGreatDoorCards
import Derived.Test.YtfchdhhkohmedaaGreatDoorCeBa
import Derived.Test.YtfchdhhkohmedaaGreatDoorLawBzc
import Derived.Test.YtfchdhhkohmedaaGreatDoorHGl
import Derived.Test.YtfchdhhkohmedaaGreatDoorAbsS
import Derived.Test.YtfchdhhkohmedaaGreatDoorAbsY
import Derived.Test.YtfchdhhkohmedaaGreatDoorAbsZ
namespace Go.Proofs.YtfchdhhkohmedaaGreatDoor.boundsPair
open Go.ChangeShapes Go.WideShapes Go.ChangeAt Go.RowKit
open Go.ChangeMaps (open_string shut_string)
set_option linter.unusedVariables false
theorem own : ownKnob Tryz.prog.godebug = none := by kernel_rfl
theorem xK : laidOutB Tryz.prog = true := by kernel_rfl
theorem walk (y0 y1 : Abs.den [.i .u8, .i .u8, .bo, .i .u16, .i .u8, .i .u8, .i .u8, .i .u8, .i .u8, .i .u8, .i .u8]) (w : World) (w0 : Abs.mH [.i .u8, .i .u8, .bo, .i .u16, .i .u8, .i .u8, .i .u8, .i .u8, .i .u8, .i .u8, .i .u8] y0) (w1 : Abs.mH [.i .u8, .i .u8, .bo, .i .u16, .i .u8, .i .u8, .i .u8, .i .u8, .i .u8, .i .u8, .i .u8] y1) (hg : Abs.GL Abs.fa w) :
    Calls Tryz.prog 4 #[.agg (Abs.vals [.i .u8, .i .u8, .bo, .i .u16, .i .u8, .i .u8, .i .u8, .i .u8, .i .u8, .i .u8, .i .u8] y0).toArray, .agg (Abs.vals [.i .u8, .i .u8, .bo, .i .u16, .i .u8, .i .u8, .i .u8, .i .u8, .i .u8, .i .u8, .i .u8] y1).toArray] w fun e w' => e = .returned (.bool true) ∧ Below w.heap.size w w' :=
  (Go.Sh.pure_circalaw17_BoundsPair 20000000 (y0.1, y0.2.1, y0.2.2.1, y0.2.2.2.1, y0.2.2.2.2.1, y0.2.2.2.2.2.1, y0.2.2.2.2.2.2.1, y0.2.2.2.2.2.2.2.1, y0.2.2.2.2.2.2.2.2.1, y0.2.2.2.2.2.2.2.2.2.1, y0.2.2.2.2.2.2.2.2.2.2, y1.1, y1.2.1, y1.2.2.1, y1.2.2.2.1, y1.2.2.2.2.1, y1.2.2.2.2.2.1, y1.2.2.2.2.2.2.1, y1.2.2.2.2.2.2.2.1, y1.2.2.2.2.2.2.2.2.1, y1.2.2.2.2.2.2.2.2.2.1, y1.2.2.2.2.2.2.2.2.2.2) true (by
    have nat : ∀ (a : Int) (n : Nat), 0 ≤ a ∧ a ≤ (n : Int) → ∃ x : Nat, a = (x : Int) ∧ x ≤ n := fun a n h => ⟨a.toNat, by omega, by omega⟩
    obtain ⟨i0, e0, b0⟩ := nat y0.1 255 (bounds_u8 w0.1)
    obtain ⟨i1, e1, b1⟩ := nat y0.2.1 255 (bounds_u8 w0.2.1)
    obtain ⟨i3, e3, b3⟩ := nat y0.2.2.2.1 65535 (bounds_u16 w0.2.2.2.1)
    obtain ⟨i4, e4, b4⟩ := nat y0.2.2.2.2.1 255 (bounds_u8 w0.2.2.2.2.1)
    obtain ⟨i5, e5, b5⟩ := nat y0.2.2.2.2.2.1 255 (bounds_u8 w0.2.2.2.2.2.1)
    obtain ⟨i6, e6, b6⟩ := nat y0.2.2.2.2.2.2.1 255 (bounds_u8 w0.2.2.2.2.2.2.1)
    obtain ⟨i7, e7, b7⟩ := nat y0.2.2.2.2.2.2.2.1 255 (bounds_u8 w0.2.2.2.2.2.2.2.1)
    obtain ⟨i8, e8, b8⟩ := nat y0.2.2.2.2.2.2.2.2.1 255 (bounds_u8 w0.2.2.2.2.2.2.2.2.1)
    obtain ⟨i9, e9, b9⟩ := nat y0.2.2.2.2.2.2.2.2.2.1 255 (bounds_u8 w0.2.2.2.2.2.2.2.2.2.1)
    obtain ⟨i10, e10, b10⟩ := nat y0.2.2.2.2.2.2.2.2.2.2 255 (bounds_u8 w0.2.2.2.2.2.2.2.2.2.2)
    obtain ⟨i11, e11, b11⟩ := nat y1.1 255 (bounds_u8 w1.1)
    obtain ⟨i12, e12, b12⟩ := nat y1.2.1 255 (bounds_u8 w1.2.1)
    obtain ⟨i14, e14, b14⟩ := nat y1.2.2.2.1 65535 (bounds_u16 w1.2.2.2.1)
    obtain ⟨i15, e15, b15⟩ := nat y1.2.2.2.2.1 255 (bounds_u8 w1.2.2.2.2.1)
    obtain ⟨i16, e16, b16⟩ := nat y1.2.2.2.2.2.1 255 (bounds_u8 w1.2.2.2.2.2.1)
    obtain ⟨i17, e17, b17⟩ := nat y1.2.2.2.2.2.2.1 255 (bounds_u8 w1.2.2.2.2.2.2.1)
    obtain ⟨i18, e18, b18⟩ := nat y1.2.2.2.2.2.2.2.1 255 (bounds_u8 w1.2.2.2.2.2.2.2.1)
    obtain ⟨i19, e19, b19⟩ := nat y1.2.2.2.2.2.2.2.2.1 255 (bounds_u8 w1.2.2.2.2.2.2.2.2.1)
    obtain ⟨i20, e20, b20⟩ := nat y1.2.2.2.2.2.2.2.2.2.1 255 (bounds_u8 w1.2.2.2.2.2.2.2.2.2.1)
    obtain ⟨i21, e21, b21⟩ := nat y1.2.2.2.2.2.2.2.2.2.2 255 (bounds_u8 w1.2.2.2.2.2.2.2.2.2.2)
    show Go.Sh.bN 20000000 y0.1 y0.2.1 y0.2.2.1 y0.2.2.2.1 y0.2.2.2.2.1 y0.2.2.2.2.2.1 y0.2.2.2.2.2.2.1 y0.2.2.2.2.2.2.2.1 y0.2.2.2.2.2.2.2.2.1 y0.2.2.2.2.2.2.2.2.2.1 y0.2.2.2.2.2.2.2.2.2.2 y1.1 y1.2.1 y1.2.2.1 y1.2.2.2.1 y1.2.2.2.2.1 y1.2.2.2.2.2.1 y1.2.2.2.2.2.2.1 y1.2.2.2.2.2.2.2.1 y1.2.2.2.2.2.2.2.2.1 y1.2.2.2.2.2.2.2.2.2.1 y1.2.2.2.2.2.2.2.2.2.2 = some true
    rw [e0, e1, e3, e4, e5, e6, e7, e8, e9, e10, e11, e12, e14, e15, e16, e17, e18, e19, e20, e21]
    exact Go.Sh.qm i0 i1 i3 i4 i5 i6 i7 i8 i9 i10 y0.2.2.1 i11 i12 i14 i15 i16 i17 i18 i19 i20 i21 y1.2.2.1 (by omega) (by omega) (by omega) (by omega) (by omega) (by omega) (by omega) (by omega) (by omega) (by omega) (by omega) (by omega))).law
    ⟨_, _, rfl, ⟨_, rfl, (Abs.eU _ [.i .u8, .i .u8, .bo, .i .u16, .i .u8, .i .u8, .i .u8, .i .u8, .i .u8, .i .u8, .i .u8] y0 _).2 rfl⟩, _, _, rfl, ⟨_, rfl, (Abs.eU _ [.i .u8, .i .u8, .bo, .i .u16, .i .u8, .i .u8, .i .u8, .i .u8, .i .u8, .i .u8, .i .u8] y1 _).2 rfl⟩, rfl⟩ hg
set_option maxRecDepth 100000 in
theorem lifted (os : Os) (started : os.Started) (H : Type) (enc : TypeId × Value → H) :
    ReturnsInHanded {} Tryz.checked os 4 .any (fun w args => (Rows.boundsPairSpec.pre enc Tryz.prog Tryz.f4 Rows.boundsPairRow.domain false w args ∧ laidMetH Tryz.prog Rows.boundsPairRow.laid w) ∧ sizedMet enc Tryz.prog Tryz.f4 (OpenSpec.ofChange Rows.boundsPairSpec) false w args)
      (Rows.boundsPairSpec.post enc Tryz.prog Tryz.f4 false true false false) := by
  refine returnsInHanded_of_change_and (C := Tryz.checked) (X := fun w _ => laidMetH Tryz.prog Rows.boundsPairRow.laid w) (fun _ _ _ hh h => h.of_heap hh) own started (by kernel_rfl) Tryz.func4
    (ChangeSpec.witness_shaped (enc := enc) (C := Tryz.checked) (os := os) (X := fun w _ => laidMetH Tryz.prog Rows.boundsPairRow.laid w) false (World.laidAll Tryz.prog os Rows.boundsPairRow.laid) #[.agg #[.int .u8 0, .int .u8 0, .bool false, .int .u16 0, .int .u8 0, .int .u8 0, .int .u8 0, .int .u8 0, .int .u8 0, .int .u8 0, .int .u8 0], .agg #[.int .u8 0, .int .u8 0, .bool false, .int .u16 0, .int .u8 0, .int .u8 0, .int .u8 0, .int .u8 0, .int .u8 0, .int .u8 0, .int .u8 0]] 8 (World.laidAll_os _ _ _)
      (World.shaped_of_ZipB (by kernel_rfl) (by kernel_rfl)) (by kernel_rfl) (by kernel_rfl) (by kernel_rfl)
      (by rw [MakeChecks.laidMetH_plain _ _ _ (by kernel_rfl)]; exact laidMet_laidAll _ (by kernel_rfl) (by kernel_rfl))) ?_
  intro W base args ds gs before hval0 hW hcnd _ hL _
  have hval : ∀ (j : Nat) t v, Tryz.f4.params[j]? = some t → args[j]? = some v → Value.okWide Tryz.prog W .any base t v := hval0
  have hW' := hW
  obtain ⟨p, q, hA0, hV, rfl, hfz, hnd⟩ := hW
  have hA : DataW.TrodAll enc Tryz.prog W 0 (fun _ => true) true Tryz.f4.params.toList args.toList ds p := hA0
  rw [Tryz.params4] at hA hval
  obtain ⟨v0, vs0, d0, ds0, p0, q0, hargs, rfl, rfl, h0, r0⟩ := trodAll_cons hA
  obtain ⟨v1, vs1, d1, ds1, p1, q1, rfl, rfl, rfl, h1, r1⟩ := trodAll_cons r0
  obtain ⟨rfl, rfl, rfl⟩ := trodAll_nil r1
  obtain rfl : args = #[v0, v1] := by cases args; simp_all
  obtain ⟨rfl, rfl⟩ := trodVars_none hV
  have k0 := h0
  have lt0 : ∀ x ∈ p0, x.block < W.heap.size := by obtain ⟨m, hm⟩ := k0; exact DataW.trod_lt m _ _ _ hm
  obtain ⟨y0, e0, w0⟩ := Abs.rL (tr := [.i .u8, .i .u8, .bo, .i .u16, .i .u8, .i .u8, .i .u8, .i .u8, .i .u8, .i .u8, .i .u8]) (d := 12) (by kernel_rfl) (by kernel_rfl) h0
  obtain rfl := Abs.lL Tryz.underlying50 (hval 0 50 v0 rfl rfl) e0
  have k1 := h1
  have lt1 : ∀ x ∈ p1, x.block < W.heap.size := by obtain ⟨m, hm⟩ := k1; exact DataW.trod_lt m _ _ _ hm
  obtain ⟨y1, e1, w1⟩ := Abs.rL (tr := [.i .u8, .i .u8, .bo, .i .u16, .i .u8, .i .u8, .i .u8, .i .u8, .i .u8, .i .u8, .i .u8]) (d := 12) (by kernel_rfl) (by kernel_rfl) h1
  obtain rfl := Abs.lL Tryz.underlying50 (hval 1 50 v1 rfl rfl) e1
  clear hA0 hval0
  have hgl : Abs.GL Abs.fa W := by
    have hL' := hL
    rw [MakeChecks.laidMetH_plain _ _ _ (by kernel_rfl)] at hL'
    exact Abs.uU hL' (List.mem_of_getElem? (show Rows.boundsPairRow.laid[8]? = some ("circa/seasons.spans", Rows.laid_circa_seasons_spans) from rfl)) (List.mem_of_getElem? (show Rows.boundsPairRow.laid[7]? = some ("circa/months.lengths", Rows.laid_circa_months_lengths) from rfl)) (List.mem_of_getElem? (show Rows.boundsPairRow.laid[6]? = some ("circa/years.steps", Rows.laid_circa_years_steps) from rfl)) (List.mem_of_getElem? (show Rows.boundsPairRow.laid[5]? = some ("strconv.ErrSyntax", Rows.laid_strconv_ErrSyntax) from rfl))
  refine (walk y0 y1 W w0 w1 hgl).mono fun e W' ⟨he, bel⟩ => ?_
  subst he
  exact ⟨_, rfl, _, _, _, [], _, [], hW', trodAll_mk1 (shut_bool Tryz.underlying4 _), (trodAll_cons_mk (Below.trod xK (by kernel_rfl) (of_decide_eq_true (by kernel_rfl)) k0 bel lt0) (trodAll_cons_mk (Below.trod xK (by kernel_rfl) (of_decide_eq_true (by kernel_rfl)) k1 bel lt1) trodAll_mk0)), rfl, bel.frame _, fun h => by cases h⟩
end Go.Proofs.YtfchdhhkohmedaaGreatDoor.boundsPair
