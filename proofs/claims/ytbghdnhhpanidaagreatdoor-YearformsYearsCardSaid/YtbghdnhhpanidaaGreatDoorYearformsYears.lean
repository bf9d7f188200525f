/-
  YearformsYears: the frame of its proof, printed by frame.py after the kit's skeleton; the walk is a certificate and a plain law.
  Conditions: none.
-/
import Derived.Test.YtbghdnhhpanidaaGreatDoorRows
import Derived.WalkKit
import Derived.ProofKit
import Derived.OpenShut
import Derived.ShutString
import Derived.ChangeOld
import Derived.Below
import Derived.Carry
import Derived.Lay
import Derived.LaidMore
import Derived.SevenTiedAt
import Derived.Stop.Joined
import Derived.Test.YtbghdnhhpanidaaGreatDoorTie
import Derived.Test.YtbghdnhhpanidaaGreatDoorCards
import Derived.Test.YtbghdnhhpanidaaGreatDoorCeYb
import Derived.Test.YtbghdnhhpanidaaGreatDoorLawYfO
import Derived.Test.YtbghdnhhpanidaaGreatDoorAbsS
import Derived.Test.YtbghdnhhpanidaaGreatDoorAbsY
import Derived.Test.YtbghdnhhpanidaaGreatDoorAbsZ
namespace Go.Proofs.YtbghdnhhpanidaaGreatDoor.yearformsYears
open Go.ChangeShapes Go.WideShapes Go.ChangeAt Go.RowKit
open Go.ChangeMaps (open_string shut_string)
set_option linter.unusedVariables false

theorem own : ownKnob Tryz.prog.godebug = none := by kernel_rfl

theorem laidOut : laidOutB Tryz.prog = true := by kernel_rfl

theorem walk (y0 : Abs.den [.i .u8, .bo, .i .u16, .i .u8, .i .u8]) (a1 : Int) (w : World) (w0 : Abs.wfRow [.i .u8, .bo, .i .u16, .i .u8, .i .u8] y0) (w1 : (Lit.int .i64 a1).wf = true) :
    Calls Tryz.prog 3 #[.agg (Abs.vals [.i .u8, .bo, .i .u16, .i .u8, .i .u8] y0).toArray, .int .i64 a1] w fun e w' => e = .returned (.bool true) ∧ Below w.heap.size w w' :=
  (Go.Sh.pure_circalaw14_YearformsYears 300 (y0.1, y0.2.1, y0.2.2.1, y0.2.2.2.1, y0.2.2.2.2, a1) true (by
    have nat : ∀ (a : Int) (n : Nat), 0 ≤ a ∧ a ≤ (n : Int) → ∃ x : Nat, a = (x : Int) ∧ x ≤ n := fun a n h => ⟨a.toNat, by omega, by omega⟩
    obtain ⟨i0, e0, _⟩ := nat y0.1 255 (bounds_u8 w0.1)
    obtain ⟨i2, e2, b2⟩ := nat y0.2.2.1 65535 (bounds_u16 w0.2.2.1)
    obtain ⟨i3, e3, b3⟩ := nat y0.2.2.2.1 255 (bounds_u8 w0.2.2.2.1)
    obtain ⟨i4, e4, b4⟩ := nat y0.2.2.2.2 255 (bounds_u8 w0.2.2.2.2)
    show Go.Sh.circalaw14_YearformsYears 300 y0.1 y0.2.1 y0.2.2.1 y0.2.2.2.1 y0.2.2.2.2 a1 = some true
    rw [e0, e2, e3, e4]
    exact Go.Sh.yearformsYears_ok 0 i0 i2 i3 i4 y0.2.1 a1 (by omega) (by omega) (by omega))).law
    ⟨_, _, rfl, ⟨_, rfl, (Abs.cells_iff _ [.i .u8, .bo, .i .u16, .i .u8, .i .u8] y0 _).2 rfl⟩, _, _, rfl, rfl, rfl⟩

set_option maxRecDepth 100000 in
theorem lifted (os : Os) (started : os.Started) (H : Type) (enc : TypeId × Value → H) :
    ReturnsInHanded {} Tryz.checked os 3 .any (fun w args => (Rows.yearformsYearsSpec.pre enc Tryz.prog Tryz.f3 Rows.yearformsYearsRow.domain false w args ∧ laidMetH Tryz.prog Rows.yearformsYearsRow.laid w) ∧ sizedMet enc Tryz.prog Tryz.f3 (OpenSpec.ofChange Rows.yearformsYearsSpec) false w args)
      (Rows.yearformsYearsSpec.post enc Tryz.prog Tryz.f3 false true false false) := by
  refine returnsInHanded_of_change_and (C := Tryz.checked) (X := fun w _ => laidMetH Tryz.prog Rows.yearformsYearsRow.laid w) (fun _ _ _ hh h => h.of_heap hh) own started (by kernel_rfl) Tryz.func3
    (ChangeSpec.witness_shaped (enc := enc) (C := Tryz.checked) (os := os) (X := fun w _ => laidMetH Tryz.prog Rows.yearformsYearsRow.laid w) false (World.laidAll Tryz.prog os Rows.yearformsYearsRow.laid) #[.agg #[.int .u8 0, .bool false, .int .u16 0, .int .u8 0, .int .u8 0], .int .i64 0] 8 (World.laidAll_os _ _ _)
      (World.shaped_of_ZipB (by kernel_rfl) (by kernel_rfl)) (by kernel_rfl) (by kernel_rfl) (by kernel_rfl)
      (by rw [MakeChecks.laidMetH_plain _ _ _ (by kernel_rfl)]; exact laidMet_laidAll _ (by kernel_rfl) (by kernel_rfl))) ?_
  intro W base args ds gs before hval0 hW hcnd _ hL _
  have hval : ∀ (j : Nat) t v, Tryz.f3.params[j]? = some t → args[j]? = some v → Value.okWide Tryz.prog W .any base t v := hval0
  have hW' := hW
  obtain ⟨p, q, hA0, hV, rfl, hfz, hnd⟩ := hW
  have hA : DataW.TrodAll enc Tryz.prog W 0 (fun _ => true) true Tryz.f3.params.toList args.toList ds p := hA0
  rw [Tryz.params3] at hA hval
  obtain ⟨v0, vs0, d0, ds0, p0, q0, hargs, rfl, rfl, h0, r0⟩ := trodAll_cons hA
  obtain ⟨v1, vs1, d1, ds1, p1, q1, rfl, rfl, rfl, h1, r1⟩ := trodAll_cons r0
  obtain ⟨rfl, rfl, rfl⟩ := trodAll_nil r1
  obtain rfl : args = #[v0, v1] := by cases args; simp_all
  obtain ⟨rfl, rfl⟩ := trodVars_none hV
  have k0 := h0
  have lt0 : ∀ x ∈ p0, x.block < W.heap.size := by obtain ⟨m, hm⟩ := k0; exact DataW.trod_lt m _ _ _ hm
  obtain ⟨y0, e0, w0⟩ := Abs.open_flat (tr := [.i .u8, .bo, .i .u16, .i .u8, .i .u8]) (d := 12) (by kernel_rfl) (by kernel_rfl) h0
  obtain rfl := Abs.okWide_struct Tryz.underlying25 (hval 0 25 v0 rfl rfl) e0
  obtain ⟨a1, rfl, rfl, rfl, w1⟩ := open_int Tryz.underlying2 (hval 1 2 v1 rfl rfl) h1
  clear hA0 hval0
  refine (walk y0 a1 W w0 w1).mono fun e W' ⟨he, bel⟩ => ?_
  subst he
  exact ⟨_, rfl, _, _, _, [], _, [], hW', trodAll_mk1 (shut_bool Tryz.underlying4 _), (trodAll_cons_mk (Below.trod laidOut (by kernel_rfl) (of_decide_eq_true (by kernel_rfl)) k0 bel lt0) (trodAll_cons_mk (shut_int Tryz.underlying2 w1) trodAll_mk0)), rfl, bel.frame _, fun h => by cases h⟩

theorem over : Rows.yearformsYearsRow.holds Tryz.pinned (OpenSpec.ofChange Rows.yearformsYearsSpec) :=
  OpenClaim.holds_of_wide 3 Tryz.f3 rfl rfl rfl rfl rfl rfl rfl ⟨rfl, rfl, rfl, rfl, rfl⟩ rfl rfl rfl rfl rfl (by kernel_rfl) Tryz.func3 (by kernel_rfl)
    (of_decide_eq_true (by kernel_rfl)) (by unfold Func.isWrapper; first | (rw [if_pos (by decide +kernel)]; kernel_rfl) | (rw [if_neg (by decide +kernel)]; exact ⟨rfl, rfl⟩))
    (fun os started H enc _ => lifted os started H enc)

theorem proved : Rows.YearformsYearsCardSaid :=
  Claim7.holds_tied_plain_at .later [] [.data, .data, .data, .data, .sentinel, .sentinel, .pinned] true (true, "bcc7dcd4a009d924278fcdea1f147f221c644688bb00c3377d38654c6e505540") true over (fun _ h => by cases h) (by kernel_rfl) (fun _ h => by cases h) yearformsYears_row_tie rfl ⟨rfl, rfl⟩ (by kernel_rfl) rfl
    (fun f fn hf hfn => by
      obtain rfl : f = 3 := Option.some.inj ((show Tryz.prog.funcNamed "circa/circalaw14.YearformsYears" = some 3 by kernel_rfl).symm.trans hf) |>.symm
      obtain rfl : fn = Tryz.f3 := (Option.some.inj (Tryz.func3.symm.trans hfn)).symm
      exact ⟨by kernel_rfl, fun j t ht => by
        rw [Tryz.params3] at ht
        have hm : t ∈ [25, 2] := by simpa using Array.mem_of_getElem? ht
        have hall : ([25, 2].all fun u => !Tryz.prog.wantsStandIn u) = true := by kernel_rfl
        exact (show Tryz.prog.wantsStandIn t = false by simpa using List.all_eq_true.1 hall t hm)⟩)
    (by kernel_rfl)
end Go.Proofs.YtbghdnhhpanidaaGreatDoor.yearformsYears
