/-
  MasksCommon: the frame of its proof, printed by frame.py after the kit's skeleton; the walk is a certificate and a plain law.
  Conditions: none.
-/
import Derived.Test.YtpbhbpjobkdgmaaRows
import Derived.WalkKit
import Derived.ProofKit
import Derived.OpenShut
import Derived.ShutString
import Derived.ChangeOld
import Derived.Below
import Derived.Carry
import Derived.Test.YtpbhbpjobkdgmaaCeQ
import Derived.Test.YtpbhbpjobkdgmaaLawMkE
import Derived.Test.YtpbhbpjobkdgmaaAbsY
namespace Go.Proofs.Ytpbhbpjobkdgmaa.masksCommon
open Go.ChangeShapes Go.WideShapes Go.ChangeAt Go.RowKit
open Go.ChangeMaps (open_string shut_string)
set_option linter.unusedVariables false

theorem own : ownKnob Try.prog.godebug = none := by kernel_rfl

theorem laidOut : laidOutB Try.prog = true := by kernel_rfl

theorem walk (x0 : Value) (l0 : List Int) (ρ0 : Option Abs.Rf) (x1 : Value) (l1 : List Int) (ρ1 : Option Abs.Rf) (a2 : Int) (w : World) (w0 : ∀ y ∈ l0, (Lit.int .u8 y).wf = true) (z0 : Abs.RowAt w x0 [.i .u8] l0 ρ0) (w1 : ∀ y ∈ l1, (Lit.int .u8 y).wf = true) (z1 : Abs.RowAt w x1 [.i .u8] l1 ρ1) (w2 : (Lit.int .i64 a2).wf = true) :
    Calls Try.prog 12 #[.agg #[x0], .agg #[x1], .int .i64 a2] w fun e w' => e = .returned (.bool true) ∧ Below w.heap.size w w' :=
  Go.Abs.FunOK.law (Go.Sh.fun_circalaw03_MasksCommon 5000 (a2, l0, l1) true (Go.Sh.masksCommon_ok a2 l0 l1 (by have := bounds_i64 w2; omega) (by have := bounds_i64 w2; omega)
      (fun y hy => by have := bounds_u8 (w0 y hy); omega) (fun y hy => by have := bounds_u8 (w1 y hy); omega))) rfl rfl (ι0 := Abs.entryI [ρ0, ρ1]) (Abs.entry2 z0 z1)
    ⟨_, _, rfl, ⟨#[x0], rfl, ⟨_, _, rfl, z0.vr rfl, rfl⟩⟩, _, _, rfl, ⟨#[x1], rfl, ⟨_, _, rfl, z1.vr rfl, rfl⟩⟩, _, _, rfl, rfl, rfl⟩

set_option maxRecDepth 100000 in
theorem lifted (os : Os) (started : os.Started) (H : Type) (enc : TypeId × Value → H) :
    ReturnsInHanded {} Try.checked os 12 .any (Rows.masksCommonSpec.pre6 enc Try.prog Try.f12 Rows.masksCommonRow.domain false) (Rows.masksCommonSpec.post enc Try.prog Try.f12 false true false false) := by
  refine returnsInHanded_of_change (C := Try.checked) own started (by kernel_rfl) Try.func12
    (ChangeSpec.witness6 (enc := enc) (C := Try.checked) false ⟨#[], #[.agg #[.slice none 0 0], .agg #[.slice none 0 0], .int .i64 0], []⟩ 8 (by kernel_rfl) (by kernel_rfl) (by kernel_rfl) (by kernel_rfl)) ?_
  intro W base args ds gs before hval0 hW hcnd _
  have hval : ∀ (j : Nat) t v, Try.f12.params[j]? = some t → args[j]? = some v → Value.okWide Try.prog W .any base t v := hval0
  have hW' := hW
  obtain ⟨p, q, hA0, hV, rfl, hfz, hnd⟩ := hW
  have hA : DataW.TrodAll enc Try.prog W 0 (fun _ => true) true Try.f12.params.toList args.toList ds p := hA0
  rw [Try.params12] at hA hval
  obtain ⟨v0, vs0, d0, ds0, p0, q0, hargs, rfl, rfl, h0, r0⟩ := trodAll_cons hA
  obtain ⟨v1, vs1, d1, ds1, p1, q1, rfl, rfl, rfl, h1, r1⟩ := trodAll_cons r0
  obtain ⟨v2, vs2, d2, ds2, p2, q2, rfl, rfl, rfl, h2, r2⟩ := trodAll_cons r1
  obtain ⟨rfl, rfl, rfl⟩ := trodAll_nil r2
  obtain rfl : args = #[v0, v1, v2] := by cases args; simp_all
  obtain ⟨rfl, rfl⟩ := trodVars_none hV
  have k0 := h0
  have lt0 : ∀ x ∈ p0, x.block < W.heap.size := by obtain ⟨m, hm⟩ := k0; exact DataW.trod_lt m _ _ _ hm
  obtain ⟨x0, l0, ρ0, rfl, w0, z0⟩ := Abs.open_struct_ints Try.underlying75 Try.underlying73 Try.underlying5 (by kernel_rfl) rfl (by kernel_rfl) (by kernel_rfl) (hval 0 75 v0 rfl rfl) h0
  have k1 := h1
  have lt1 : ∀ x ∈ p1, x.block < W.heap.size := by obtain ⟨m, hm⟩ := k1; exact DataW.trod_lt m _ _ _ hm
  obtain ⟨x1, l1, ρ1, rfl, w1, z1⟩ := Abs.open_struct_ints Try.underlying75 Try.underlying73 Try.underlying5 (by kernel_rfl) rfl (by kernel_rfl) (by kernel_rfl) (hval 1 75 v1 rfl rfl) h1
  obtain ⟨a2, rfl, rfl, rfl, w2⟩ := open_int Try.underlying2 (hval 2 2 v2 rfl rfl) h2
  clear hA0 hval0
  refine (walk x0 l0 ρ0 x1 l1 ρ1 a2 W w0 z0 w1 z1 w2).mono fun e W' ⟨he, bel⟩ => ?_
  subst he
  exact ⟨_, rfl, _, _, _, [], _, [], hW', trodAll_mk1 (shut_bool Try.underlying4 _), (trodAll_cons_mk (Below.trod laidOut (by kernel_rfl) (of_decide_eq_true (by kernel_rfl)) k0 bel lt0) (trodAll_cons_mk (Below.trod laidOut (by kernel_rfl) (of_decide_eq_true (by kernel_rfl)) k1 bel lt1) (trodAll_cons_mk (shut_int Try.underlying2 w2) trodAll_mk0))), rfl, bel.frame _, fun h => by cases h⟩

theorem over : Rows.masksCommonRow.holds Try.pinned (OpenSpec.ofChange Rows.masksCommonSpec) :=
  OpenClaim.holds_of_wide 12 Try.f12 rfl rfl rfl rfl rfl rfl rfl ⟨rfl, rfl, rfl, rfl, rfl⟩ rfl rfl rfl rfl rfl (by kernel_rfl) Try.func12 (by kernel_rfl)
    (of_decide_eq_true (by kernel_rfl)) (by unfold Func.isWrapper; first | (rw [if_pos (by decide +kernel)]; kernel_rfl) | (rw [if_neg (by decide +kernel)]; exact ⟨rfl, rfl⟩))
    (fun os started H enc _ => lifted os started H enc)

theorem proved : Rows.MasksCommonSaid := over
end Go.Proofs.Ytpbhbpjobkdgmaa.masksCommon
