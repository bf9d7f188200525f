/-
  RelationsThree: the frame of its proof, printed by frame.py after the kit's skeleton; the walk is a certificate and a plain law.
  Conditions: none.
-/
import Derived.Test.YtbghdnhhpanidaaDoorRows
import Derived.WalkKit
import Derived.ProofKit
import Derived.OpenShut
import Derived.ShutString
import Derived.ChangeOld
import Derived.Below
import Derived.Carry
import Derived.Lay
import Derived.LaidMore
import Derived.SevenTiedAt
import Derived.Stop.Joined
import Derived.Test.YtbghdnhhpanidaaDoorTie
import Derived.Test.YtbghdnhhpanidaaDoorCards
import Derived.Test.YtbghdnhhpanidaaDoorCeRa
import Derived.Test.YtbghdnhhpanidaaDoorLawReE
import Derived.Test.YtbghdnhhpanidaaDoorAbsZ
namespace Go.Proofs.YtbghdnhhpanidaaDoor.relationsThree
open Go.ChangeShapes Go.WideShapes Go.ChangeAt Go.RowKit
open Go.ChangeMaps (open_string shut_string)
set_option linter.unusedVariables false

theorem own : ownKnob Tryd.prog.godebug = none := by kernel_rfl

theorem laidOut : laidOutB Tryd.prog = true := by kernel_rfl

theorem walk (a0 : List Int) (a1 : List Int) (a2 : List Int) (w : World) (l0 : a0.length = 2) (w0 : ∀ x ∈ a0, (Lit.int .i16 x).wf = true) (l1 : a1.length = 2) (w1 : ∀ x ∈ a1, (Lit.int .i16 x).wf = true) (l2 : a2.length = 2) (w2 : ∀ x ∈ a2, (Lit.int .i16 x).wf = true) :
    Calls Tryd.prog 4 #[.agg (a0.map (Value.int .i16)).toArray, .agg (a1.map (Value.int .i16)).toArray, .agg (a2.map (Value.int .i16)).toArray] w fun e w' => e = .returned (.bool true) ∧ Below w.heap.size w w' :=
  (Go.Sh.pure_circalaw31_RelationsThree 300 (a0, a1, a2) true (by
    have two : ∀ l : List Int, l.length = 2 → ∃ p q, l = [p, q] := fun l h => match l, h with | [p, q], _ => ⟨p, q, rfl⟩
    obtain ⟨p, q, rfl⟩ := two a0 l0
    obtain ⟨r, s, rfl⟩ := two a1 l1
    obtain ⟨t, u, rfl⟩ := two a2 l2
    have b0 := bounds_i16 (w0 p (by simp)); have b1 := bounds_i16 (w0 q (by simp)); have b2 := bounds_i16 (w1 r (by simp)); have b3 := bounds_i16 (w1 s (by simp)); have b4 := bounds_i16 (w2 t (by simp)); have b5 := bounds_i16 (w2 u (by simp))
    exact Go.Sh.relationsThree_ok 0 p q r s t u (by omega) (by omega) (by omega) (by omega) (by omega) (by omega))).law
    ⟨_, _, rfl, ⟨l0, rfl⟩, _, _, rfl, ⟨l1, rfl⟩, _, _, rfl, ⟨l2, rfl⟩, rfl⟩

set_option maxRecDepth 100000 in
theorem lifted (os : Os) (started : os.Started) (H : Type) (enc : TypeId × Value → H) :
    ReturnsInHanded {} Tryd.checked os 4 .any (fun w args => (Rows.relationsThreeSpec.pre enc Tryd.prog Tryd.f4 Rows.relationsThreeRow.domain false w args ∧ laidMetH Tryd.prog Rows.relationsThreeRow.laid w) ∧ sizedMet enc Tryd.prog Tryd.f4 (OpenSpec.ofChange Rows.relationsThreeSpec) false w args)
      (Rows.relationsThreeSpec.post enc Tryd.prog Tryd.f4 false true false false) := by
  refine returnsInHanded_of_change_and (C := Tryd.checked) (X := fun w _ => laidMetH Tryd.prog Rows.relationsThreeRow.laid w) (fun _ _ _ hh h => h.of_heap hh) own started (by kernel_rfl) Tryd.func4
    (ChangeSpec.witness_shaped (enc := enc) (C := Tryd.checked) (os := os) (X := fun w _ => laidMetH Tryd.prog Rows.relationsThreeRow.laid w) false (World.laidAll Tryd.prog os Rows.relationsThreeRow.laid) #[.agg #[.int .i16 0, .int .i16 0], .agg #[.int .i16 0, .int .i16 0], .agg #[.int .i16 0, .int .i16 0]] 8 (World.laidAll_os _ _ _)
      (World.shaped_of_ZipB (by kernel_rfl) (by kernel_rfl)) (by kernel_rfl) (by kernel_rfl) (by kernel_rfl)
      (by rw [MakeChecks.laidMetH_plain _ _ _ (by kernel_rfl)]; exact laidMet_laidAll _ (by kernel_rfl) (by kernel_rfl))) ?_
  intro W base args ds gs before hval0 hW hcnd _ hL _
  have hval : ∀ (j : Nat) t v, Tryd.f4.params[j]? = some t → args[j]? = some v → Value.okWide Tryd.prog W .any base t v := hval0
  have hW' := hW
  obtain ⟨p, q, hA0, hV, rfl, hfz, hnd⟩ := hW
  have hA : DataW.TrodAll enc Tryd.prog W 0 (fun _ => true) true Tryd.f4.params.toList args.toList ds p := hA0
  rw [Tryd.params4] at hA hval
  obtain ⟨v0, vs0, d0, ds0, p0, q0, hargs, rfl, rfl, h0, r0⟩ := trodAll_cons hA
  obtain ⟨v1, vs1, d1, ds1, p1, q1, rfl, rfl, rfl, h1, r1⟩ := trodAll_cons r0
  obtain ⟨v2, vs2, d2, ds2, p2, q2, rfl, rfl, rfl, h2, r2⟩ := trodAll_cons r1
  obtain ⟨rfl, rfl, rfl⟩ := trodAll_nil r2
  obtain rfl : args = #[v0, v1, v2] := by cases args; simp_all
  obtain ⟨rfl, rfl⟩ := trodVars_none hV
  have k0 := h0
  obtain ⟨a0, l0, rfl, rfl, w0⟩ := Abs.open_ints_array Tryd.underlying37 Tryd.underlying36 (by kernel_rfl) (by kernel_rfl) (hval 0 37 v0 rfl rfl) h0
  have k1 := h1
  obtain ⟨a1, l1, rfl, rfl, w1⟩ := Abs.open_ints_array Tryd.underlying37 Tryd.underlying36 (by kernel_rfl) (by kernel_rfl) (hval 1 37 v1 rfl rfl) h1
  have k2 := h2
  obtain ⟨a2, l2, rfl, rfl, w2⟩ := Abs.open_ints_array Tryd.underlying37 Tryd.underlying36 (by kernel_rfl) (by kernel_rfl) (hval 2 37 v2 rfl rfl) h2
  clear hA0 hval0
  refine (walk a0 a1 a2 W l0 w0 l1 w1 l2 w2).mono fun e W' ⟨he, bel⟩ => ?_
  subst he
  exact ⟨_, rfl, _, _, _, [], _, [], hW', trodAll_mk1 (shut_bool Tryd.underlying4 _), (trodAll_cons_mk (Below.trod laidOut (by kernel_rfl) (of_decide_eq_true (by kernel_rfl)) k0 bel (fun _ h => by cases h)) (trodAll_cons_mk (Below.trod laidOut (by kernel_rfl) (of_decide_eq_true (by kernel_rfl)) k1 bel (fun _ h => by cases h)) (trodAll_cons_mk (Below.trod laidOut (by kernel_rfl) (of_decide_eq_true (by kernel_rfl)) k2 bel (fun _ h => by cases h)) trodAll_mk0))), rfl, bel.frame _, fun h => by cases h⟩

theorem over : Rows.relationsThreeRow.holds Tryd.pinned (OpenSpec.ofChange Rows.relationsThreeSpec) :=
  OpenClaim.holds_of_wide 4 Tryd.f4 rfl rfl rfl rfl rfl rfl rfl ⟨rfl, rfl, rfl, rfl, rfl⟩ rfl rfl rfl rfl rfl (by kernel_rfl) Tryd.func4 (by kernel_rfl)
    (of_decide_eq_true (by kernel_rfl)) (by unfold Func.isWrapper; first | (rw [if_pos (by decide +kernel)]; kernel_rfl) | (rw [if_neg (by decide +kernel)]; exact ⟨rfl, rfl⟩))
    (fun os started H enc _ => lifted os started H enc)

theorem proved : Rows.RelationsThreeCardSaid :=
  Claim7.holds_tied_plain_at .later [] [.data, .pinned] true (true, "e00d6cf24da79d9503dde359b6366a91444c9d3be4e7fbb432ab98aaab5dec9e") false over (fun _ h => by cases h) (by kernel_rfl) (fun _ h => by cases h) relationsThree_row_tie rfl ⟨rfl, rfl⟩ (by kernel_rfl) rfl
    (fun f fn hf hfn => by
      obtain rfl : f = 4 := Option.some.inj ((show Tryd.prog.funcNamed "circa/circalaw31.RelationsThree" = some 4 by kernel_rfl).symm.trans hf) |>.symm
      obtain rfl : fn = Tryd.f4 := (Option.some.inj (Tryd.func4.symm.trans hfn)).symm
      exact ⟨by kernel_rfl, fun j t ht => by
        rw [Tryd.params4] at ht
        have hm : t ∈ [37] := by simpa using Array.mem_of_getElem? ht
        have hall : ([37].all fun u => !Tryd.prog.wantsStandIn u) = true := by kernel_rfl
        exact (show Tryd.prog.wantsStandIn t = false by simpa using List.all_eq_true.1 hall t hm)⟩)
    (by kernel_rfl)
end Go.Proofs.YtbghdnhhpanidaaDoor.relationsThree
