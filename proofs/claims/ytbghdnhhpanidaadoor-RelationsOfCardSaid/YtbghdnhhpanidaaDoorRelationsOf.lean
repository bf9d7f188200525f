/-
  RelationsOf: the frame of its proof, printed by frame.py after the kit's skeleton; the walk is a certificate and a plain law.
  Conditions: none.
-/
import Derived.Test.YtbghdnhhpanidaaDoorRows
import Derived.WalkKit
import Derived.ProofKit
import Derived.OpenShut
import Derived.ShutString
import Derived.ChangeOld
import Derived.Below
import Derived.Carry
import Derived.Lay
import Derived.LaidMore
import Derived.SevenTiedAt
import Derived.Stop.Joined
import Derived.Test.YtbghdnhhpanidaaDoorTie
import Derived.Test.YtbghdnhhpanidaaDoorCards
import Derived.Test.YtbghdnhhpanidaaDoorCeRa
import Derived.Test.YtbghdnhhpanidaaDoorLawReE
import Derived.Test.YtbghdnhhpanidaaDoorAbsZ
namespace Go.Proofs.YtbghdnhhpanidaaDoor.relationsOf
open Go.ChangeShapes Go.WideShapes Go.ChangeAt Go.RowKit
open Go.ChangeMaps (open_string shut_string)
set_option linter.unusedVariables false

theorem own : ownKnob Tryd.prog.godebug = none := by kernel_rfl

theorem laidOut : laidOutB Tryd.prog = true := by kernel_rfl

theorem walk (y0 : Abs.den [.i .i8, .i .i64, .i .i8, .i .i64]) (y1 : Abs.den [.i .i8, .i .i64, .i .i8, .i .i64]) (w : World) (w0 : Abs.wfRow [.i .i8, .i .i64, .i .i8, .i .i64] y0) (w1 : Abs.wfRow [.i .i8, .i .i64, .i .i8, .i .i64] y1) :
    Calls Tryd.prog 3 #[.agg (Abs.vals [.i .i8, .i .i64, .i .i8, .i .i64] y0).toArray, .agg (Abs.vals [.i .i8, .i .i64, .i .i8, .i .i64] y1).toArray] w fun e w' => e = .returned (.bool true) ∧ Below w.heap.size w w' :=
  (Go.Sh.pure_circalaw31_RelationsOf 300 (y0.1, y0.2.1, y0.2.2.1, y0.2.2.2, y1.1, y1.2.1, y1.2.2.1, y1.2.2.2) true (by
    have b0 := bounds_i64 w0.2.1; have b1 := bounds_i64 w0.2.2.2; have b2 := bounds_i64 w1.2.1; have b3 := bounds_i64 w1.2.2.2
    exact Go.Sh.relationsOf_ok 0 y0.1 y0.2.1 y0.2.2.1 y0.2.2.2 y1.1 y1.2.1 y1.2.2.1 y1.2.2.2 ⟨by omega, by omega⟩ ⟨by omega, by omega⟩ ⟨by omega, by omega⟩ ⟨by omega, by omega⟩)).law
    ⟨_, _, rfl, ⟨_, rfl, (Abs.cells_iff _ [.i .i8, .i .i64, .i .i8, .i .i64] y0 _).2 rfl⟩, _, _, rfl, ⟨_, rfl, (Abs.cells_iff _ [.i .i8, .i .i64, .i .i8, .i .i64] y1 _).2 rfl⟩, rfl⟩

set_option maxRecDepth 100000 in
theorem lifted (os : Os) (started : os.Started) (H : Type) (enc : TypeId × Value → H) :
    ReturnsInHanded {} Tryd.checked os 3 .any (fun w args => (Rows.relationsOfSpec.pre enc Tryd.prog Tryd.f3 Rows.relationsOfRow.domain false w args ∧ laidMetH Tryd.prog Rows.relationsOfRow.laid w) ∧ sizedMet enc Tryd.prog Tryd.f3 (OpenSpec.ofChange Rows.relationsOfSpec) false w args)
      (Rows.relationsOfSpec.post enc Tryd.prog Tryd.f3 false true false false) := by
  refine returnsInHanded_of_change_and (C := Tryd.checked) (X := fun w _ => laidMetH Tryd.prog Rows.relationsOfRow.laid w) (fun _ _ _ hh h => h.of_heap hh) own started (by kernel_rfl) Tryd.func3
    (ChangeSpec.witness_shaped (enc := enc) (C := Tryd.checked) (os := os) (X := fun w _ => laidMetH Tryd.prog Rows.relationsOfRow.laid w) false (World.laidAll Tryd.prog os Rows.relationsOfRow.laid) #[.agg #[.int .i8 0, .int .i64 0, .int .i8 0, .int .i64 0], .agg #[.int .i8 0, .int .i64 0, .int .i8 0, .int .i64 0]] 8 (World.laidAll_os _ _ _)
      (World.shaped_of_ZipB (by kernel_rfl) (by kernel_rfl)) (by kernel_rfl) (by kernel_rfl) (by kernel_rfl)
      (by rw [MakeChecks.laidMetH_plain _ _ _ (by kernel_rfl)]; exact laidMet_laidAll _ (by kernel_rfl) (by kernel_rfl))) ?_
  intro W base args ds gs before hval0 hW hcnd _ hL _
  have hval : ∀ (j : Nat) t v, Tryd.f3.params[j]? = some t → args[j]? = some v → Value.okWide Tryd.prog W .any base t v := hval0
  have hW' := hW
  obtain ⟨p, q, hA0, hV, rfl, hfz, hnd⟩ := hW
  have hA : DataW.TrodAll enc Tryd.prog W 0 (fun _ => true) true Tryd.f3.params.toList args.toList ds p := hA0
  rw [Tryd.params3] at hA hval
  obtain ⟨v0, vs0, d0, ds0, p0, q0, hargs, rfl, rfl, h0, r0⟩ := trodAll_cons hA
  obtain ⟨v1, vs1, d1, ds1, p1, q1, rfl, rfl, rfl, h1, r1⟩ := trodAll_cons r0
  obtain ⟨rfl, rfl, rfl⟩ := trodAll_nil r1
  obtain rfl : args = #[v0, v1] := by cases args; simp_all
  obtain ⟨rfl, rfl⟩ := trodVars_none hV
  have k0 := h0
  have lt0 : ∀ x ∈ p0, x.block < W.heap.size := by obtain ⟨m, hm⟩ := k0; exact DataW.trod_lt m _ _ _ hm
  obtain ⟨y0, e0, w0⟩ := Abs.open_flat (tr := [.i .i8, .i .i64, .i .i8, .i .i64]) (d := 12) (by kernel_rfl) (by kernel_rfl) h0
  obtain rfl := Abs.okWide_struct Tryd.underlying26 (hval 0 26 v0 rfl rfl) e0
  have k1 := h1
  have lt1 : ∀ x ∈ p1, x.block < W.heap.size := by obtain ⟨m, hm⟩ := k1; exact DataW.trod_lt m _ _ _ hm
  obtain ⟨y1, e1, w1⟩ := Abs.open_flat (tr := [.i .i8, .i .i64, .i .i8, .i .i64]) (d := 12) (by kernel_rfl) (by kernel_rfl) h1
  obtain rfl := Abs.okWide_struct Tryd.underlying26 (hval 1 26 v1 rfl rfl) e1
  clear hA0 hval0
  refine (walk y0 y1 W w0 w1).mono fun e W' ⟨he, bel⟩ => ?_
  subst he
  exact ⟨_, rfl, _, _, _, [], _, [], hW', trodAll_mk1 (shut_bool Tryd.underlying4 _), (trodAll_cons_mk (Below.trod laidOut (by kernel_rfl) (of_decide_eq_true (by kernel_rfl)) k0 bel lt0) (trodAll_cons_mk (Below.trod laidOut (by kernel_rfl) (of_decide_eq_true (by kernel_rfl)) k1 bel lt1) trodAll_mk0)), rfl, bel.frame _, fun h => by cases h⟩

theorem over : Rows.relationsOfRow.holds Tryd.pinned (OpenSpec.ofChange Rows.relationsOfSpec) :=
  OpenClaim.holds_of_wide 3 Tryd.f3 rfl rfl rfl rfl rfl rfl rfl ⟨rfl, rfl, rfl, rfl, rfl⟩ rfl rfl rfl rfl rfl (by kernel_rfl) Tryd.func3 (by kernel_rfl)
    (of_decide_eq_true (by kernel_rfl)) (by unfold Func.isWrapper; first | (rw [if_pos (by decide +kernel)]; kernel_rfl) | (rw [if_neg (by decide +kernel)]; exact ⟨rfl, rfl⟩))
    (fun os started H enc _ => lifted os started H enc)

theorem proved : Rows.RelationsOfCardSaid :=
  Claim7.holds_tied_plain_at .later [] [.data, .pinned] true (true, "e00d6cf24da79d9503dde359b6366a91444c9d3be4e7fbb432ab98aaab5dec9e") false over (fun _ h => by cases h) (by kernel_rfl) (fun _ h => by cases h) relationsOf_row_tie rfl ⟨rfl, rfl⟩ (by kernel_rfl) rfl
    (fun f fn hf hfn => by
      obtain rfl : f = 3 := Option.some.inj ((show Tryd.prog.funcNamed "circa/circalaw31.RelationsOf" = some 3 by kernel_rfl).symm.trans hf) |>.symm
      obtain rfl : fn = Tryd.f3 := (Option.some.inj (Tryd.func3.symm.trans hfn)).symm
      exact ⟨by kernel_rfl, fun j t ht => by
        rw [Tryd.params3] at ht
        have hm : t ∈ [26] := by simpa using Array.mem_of_getElem? ht
        have hall : ([26].all fun u => !Tryd.prog.wantsStandIn u) = true := by kernel_rfl
        exact (show Tryd.prog.wantsStandIn t = false by simpa using List.all_eq_true.1 hall t hm)⟩)
    (by kernel_rfl)
end Go.Proofs.YtbghdnhhpanidaaDoor.relationsOf
