/-
  BoundsCheck: the frame of its proof, printed by frame.py after the kit's skeleton; the walk is a certificate and a plain law.
  Conditions: none.
-/
import Derived.Test.YtfchdhhkohmedaaGreatDoorRows
import Derived.WalkKit
import Derived.ProofKit
import Derived.OpenShut
import Derived.ShutString
import Derived.ChangeOld
import Derived.Below
import Derived.Carry
import Derived.Lay
import Derived.LaidMore
import Derived.SevenTiedAt
import Derived.Stop.Joined
import Derived.Test.YtfchdhhkohmedaaGreatDoorTie
import Derived.Test.YtfchdhhkohmedaaGreatDoorCards
import Derived.Test.YtfchdhhkohmedaaGreatDoorCeBa
import Derived.Test.YtfchdhhkohmedaaGreatDoorLawBzc
import Derived.Test.YtfchdhhkohmedaaGreatDoorHGl
import Derived.Test.YtfchdhhkohmedaaGreatDoorAbsS
import Derived.Test.YtfchdhhkohmedaaGreatDoorAbsY
import Derived.Test.YtfchdhhkohmedaaGreatDoorAbsZ
namespace Go.Proofs.YtfchdhhkohmedaaGreatDoor.boundsCheck
open Go.ChangeShapes Go.WideShapes Go.ChangeAt Go.RowKit
open Go.ChangeMaps (open_string shut_string)
set_option linter.unusedVariables false
theorem own : ownKnob Tryz.prog.godebug = none := by kernel_rfl
theorem xP : laidOutB Tryz.prog = true := by kernel_rfl
theorem walk (y0 y1 : Abs.den [.i .u8, .bo, .bo, .s, .i .i64, .i .i64, .s, .s, .i .u8, .i .u8, .i .u8]) (w : World) (w0 : Abs.m6 [.i .u8, .bo, .bo, .s, .i .i64, .i .i64, .s, .s, .i .u8, .i .u8, .i .u8] y0) (w1 : Abs.m6 [.i .u8, .bo, .bo, .s, .i .i64, .i .i64, .s, .s, .i .u8, .i .u8, .i .u8] y1) (hg : Abs.GL Abs.dN w) :
    Calls Tryz.prog 6 #[.agg (Abs.vals [.i .u8, .bo, .bo, .s, .i .i64, .i .i64, .s, .s, .i .u8, .i .u8, .i .u8] y0).toArray, .agg (Abs.vals [.i .u8, .bo, .bo, .s, .i .i64, .i .i64, .s, .s, .i .u8, .i .u8, .i .u8] y1).toArray] w fun e w' => e = .returned (.bool true) ∧ Below w.heap.size w w' :=
  (Go.Sh.pure_circalaw17_BoundsCheck 20000000 (y0.1, y0.2.1, y0.2.2.1, y0.2.2.2.1, y0.2.2.2.2.1, y0.2.2.2.2.2.1, y0.2.2.2.2.2.2.1, y0.2.2.2.2.2.2.2.1, y0.2.2.2.2.2.2.2.2.1, y0.2.2.2.2.2.2.2.2.2.1, y0.2.2.2.2.2.2.2.2.2.2, y1.1, y1.2.1, y1.2.2.1, y1.2.2.2.1, y1.2.2.2.2.1, y1.2.2.2.2.2.1, y1.2.2.2.2.2.2.1, y1.2.2.2.2.2.2.2.1, y1.2.2.2.2.2.2.2.2.1, y1.2.2.2.2.2.2.2.2.2.1, y1.2.2.2.2.2.2.2.2.2.2) true (by
    have b0 := bounds_u8 w0.1
    have b4 := bounds_i64 w0.2.2.2.2.1
    have b5 := bounds_i64 w0.2.2.2.2.2.1
    have b8 := bounds_u8 w0.2.2.2.2.2.2.2.2.1
    have b9 := bounds_u8 w0.2.2.2.2.2.2.2.2.2.1
    have b10 := bounds_u8 w0.2.2.2.2.2.2.2.2.2.2
    have b11 := bounds_u8 w1.1
    have b15 := bounds_i64 w1.2.2.2.2.1
    have b16 := bounds_i64 w1.2.2.2.2.2.1
    have b19 := bounds_u8 w1.2.2.2.2.2.2.2.2.1
    have b20 := bounds_u8 w1.2.2.2.2.2.2.2.2.2.1
    have b21 := bounds_u8 w1.2.2.2.2.2.2.2.2.2.2
    show Go.Sh.bK 20000000 y0.1 y0.2.1 y0.2.2.1 y0.2.2.2.1 y0.2.2.2.2.1 y0.2.2.2.2.2.1 y0.2.2.2.2.2.2.1 y0.2.2.2.2.2.2.2.1 y0.2.2.2.2.2.2.2.2.1 y0.2.2.2.2.2.2.2.2.2.1 y0.2.2.2.2.2.2.2.2.2.2 y1.1 y1.2.1 y1.2.2.1 y1.2.2.2.1 y1.2.2.2.2.1 y1.2.2.2.2.2.1 y1.2.2.2.2.2.2.1 y1.2.2.2.2.2.2.2.1 y1.2.2.2.2.2.2.2.2.1 y1.2.2.2.2.2.2.2.2.2.1 y1.2.2.2.2.2.2.2.2.2.2 = some true
    exact Go.Sh.o5 y0.1 y0.2.1 y0.2.2.1 y0.2.2.2.1 y0.2.2.2.2.1 y0.2.2.2.2.2.1 y0.2.2.2.2.2.2.1 y0.2.2.2.2.2.2.2.1 y0.2.2.2.2.2.2.2.2.1 y0.2.2.2.2.2.2.2.2.2.1 y0.2.2.2.2.2.2.2.2.2.2 y1.1 y1.2.1 y1.2.2.1 y1.2.2.2.1 y1.2.2.2.2.1 y1.2.2.2.2.2.1 y1.2.2.2.2.2.2.1 y1.2.2.2.2.2.2.2.1 y1.2.2.2.2.2.2.2.2.1 y1.2.2.2.2.2.2.2.2.2.1 y1.2.2.2.2.2.2.2.2.2.2 (by omega) (by omega) (by omega) (by omega) (by omega) (by omega))).law
    ⟨_, _, rfl, ⟨_, rfl, (Abs.fw _ [.i .u8, .bo, .bo, .s, .i .i64, .i .i64, .s, .s, .i .u8, .i .u8, .i .u8] y0 _).2 rfl⟩, _, _, rfl, ⟨_, rfl, (Abs.fw _ [.i .u8, .bo, .bo, .s, .i .i64, .i .i64, .s, .s, .i .u8, .i .u8, .i .u8] y1 _).2 rfl⟩, rfl⟩ hg
set_option maxRecDepth 100000 in
theorem lifted (os : Os) (started : os.Started) (H : Type) (enc : TypeId × Value → H) :
    ReturnsInHanded {} Tryz.checked os 6 .any (fun w args => (Rows.boundsCheckSpec.pre enc Tryz.prog Tryz.f6 Rows.boundsCheckRow.domain false w args ∧ laidMetH Tryz.prog Rows.boundsCheckRow.laid w) ∧ sizedMet enc Tryz.prog Tryz.f6 (OpenSpec.ofChange Rows.boundsCheckSpec) false w args)
      (Rows.boundsCheckSpec.post enc Tryz.prog Tryz.f6 false true false false) := by
  refine returnsInHanded_of_change_and (C := Tryz.checked) (X := fun w _ => laidMetH Tryz.prog Rows.boundsCheckRow.laid w) (fun _ _ _ hh h => h.of_heap hh) own started (by kernel_rfl) Tryz.func6
    (ChangeSpec.witness_shaped (enc := enc) (C := Tryz.checked) (os := os) (X := fun w _ => laidMetH Tryz.prog Rows.boundsCheckRow.laid w) false (World.laidAll Tryz.prog os Rows.boundsCheckRow.laid) #[.agg #[.int .u8 0, .bool false, .bool false, .string ⟨#[]⟩, .int .i64 0, .int .i64 0, .string ⟨#[]⟩, .string ⟨#[]⟩, .int .u8 0, .int .u8 0, .int .u8 0], .agg #[.int .u8 0, .bool false, .bool false, .string ⟨#[]⟩, .int .i64 0, .int .i64 0, .string ⟨#[]⟩, .string ⟨#[]⟩, .int .u8 0, .int .u8 0, .int .u8 0]] 8 (World.laidAll_os _ _ _)
      (World.shaped_of_ZipB (by kernel_rfl) (by kernel_rfl)) (by kernel_rfl) (by kernel_rfl) (by kernel_rfl)
      (by rw [MakeChecks.laidMetH_plain _ _ _ (by kernel_rfl)]; exact laidMet_laidAll _ (by kernel_rfl) (by kernel_rfl))) ?_
  intro W base args ds gs before hval0 hW hcnd _ hL _
  have hval : ∀ (j : Nat) t v, Tryz.f6.params[j]? = some t → args[j]? = some v → Value.okWide Tryz.prog W .any base t v := hval0
  have hW' := hW
  obtain ⟨p, q, hA0, hV, rfl, hfz, hnd⟩ := hW
  have hA : DataW.TrodAll enc Tryz.prog W 0 (fun _ => true) true Tryz.f6.params.toList args.toList ds p := hA0
  rw [Tryz.params6] at hA hval
  obtain ⟨v0, vs0, d0, ds0, p0, q0, hargs, rfl, rfl, h0, r0⟩ := trodAll_cons hA
  obtain ⟨v1, vs1, d1, ds1, p1, q1, rfl, rfl, rfl, h1, r1⟩ := trodAll_cons r0
  obtain ⟨rfl, rfl, rfl⟩ := trodAll_nil r1
  obtain rfl : args = #[v0, v1] := by cases args; simp_all
  obtain ⟨rfl, rfl⟩ := trodVars_none hV
  have k0 := h0
  have lt0 : ∀ x ∈ p0, x.block < W.heap.size := by obtain ⟨m, hm⟩ := k0; exact DataW.trod_lt m _ _ _ hm
  obtain ⟨y0, e0, w0⟩ := Abs.rB (tr := [.i .u8, .bo, .bo, .s, .i .i64, .i .i64, .s, .s, .i .u8, .i .u8, .i .u8]) (d := 12) (by kernel_rfl) (by kernel_rfl) h0
  obtain rfl := Abs.mr Tryz.underlying52 (hval 0 52 v0 rfl rfl) e0
  have k1 := h1
  have lt1 : ∀ x ∈ p1, x.block < W.heap.size := by obtain ⟨m, hm⟩ := k1; exact DataW.trod_lt m _ _ _ hm
  obtain ⟨y1, e1, w1⟩ := Abs.rB (tr := [.i .u8, .bo, .bo, .s, .i .i64, .i .i64, .s, .s, .i .u8, .i .u8, .i .u8]) (d := 12) (by kernel_rfl) (by kernel_rfl) h1
  obtain rfl := Abs.mr Tryz.underlying52 (hval 1 52 v1 rfl rfl) e1
  clear hA0 hval0
  have hgl : Abs.GL Abs.dN W := by
    have hL' := hL
    rw [MakeChecks.laidMetH_plain _ _ _ (by kernel_rfl)] at hL'
    exact Abs.va hL' (List.mem_of_getElem? (show Rows.boundsCheckRow.laid[8]? = some ("circa/seasons.spans", Rows.laid_circa_seasons_spans) from rfl)) (List.mem_of_getElem? (show Rows.boundsCheckRow.laid[7]? = some ("circa/months.lengths", Rows.laid_circa_months_lengths) from rfl)) (List.mem_of_getElem? (show Rows.boundsCheckRow.laid[6]? = some ("circa/years.steps", Rows.laid_circa_years_steps) from rfl)) (List.mem_of_getElem? (show Rows.boundsCheckRow.laid[5]? = some ("strconv.ErrSyntax", Rows.laid_strconv_ErrSyntax) from rfl))
  refine (walk y0 y1 W w0 w1 hgl).mono fun e W' ⟨he, bel⟩ => ?_
  subst he
  exact ⟨_, rfl, _, _, _, [], _, [], hW', trodAll_mk1 (shut_bool Tryz.underlying4 _), (trodAll_cons_mk (Below.trod xP (by kernel_rfl) (of_decide_eq_true (by kernel_rfl)) k0 bel lt0) (trodAll_cons_mk (Below.trod xP (by kernel_rfl) (of_decide_eq_true (by kernel_rfl)) k1 bel lt1) trodAll_mk0)), rfl, bel.frame _, fun h => by cases h⟩
end Go.Proofs.YtfchdhhkohmedaaGreatDoor.boundsCheck
