/-
  CursorsPlay: the frame of its proof, printed by frame.py after the kit's skeleton; the walk is a certificate and a plain law.
  Conditions: none.
-/
import Derived.Test.YtpbhbpjobkdgmaaRows
import Derived.WalkKit
import Derived.ProofKit
import Derived.OpenShut
import Derived.ShutString
import Derived.ChangeOld
import Derived.Below
import Derived.Carry
import Derived.Test.YtpbhbpjobkdgmaaCeP
import Derived.Test.YtpbhbpjobkdgmaaLawCuD
import Derived.Test.YtpbhbpjobkdgmaaAbsZ
namespace Go.Proofs.Ytpbhbpjobkdgmaa.cursorsPlay
open Go.ChangeShapes Go.WideShapes Go.ChangeAt Go.RowKit
open Go.ChangeMaps (open_string shut_string)
set_option linter.unusedVariables false

theorem own : ownKnob Try.prog.godebug = none := by kernel_rfl

theorem laidOut : laidOutB Try.prog = true := by kernel_rfl

theorem walk (a0 : ByteArray) (x1 : Value) (l1 : List (Abs.den [.i .u8, .s, .i .i64, .i .i64])) (ρ1 : Option Abs.Rf) (w : World) (w0 : a0.size ≤ maxLen) (w1 : ∀ y ∈ l1, Abs.wfRow [.i .u8, .s, .i .i64, .i .i64] y) (m1 : l1.length ≤ maxLen) (z1 : Abs.RowAt w x1 [.i .u8, .s, .i .i64, .i .i64] l1 ρ1) :
    Calls Try.prog 7 #[.string a0, x1] w fun e w' => e = .returned (.bool true) ∧ Below w.heap.size w w' :=
  Go.Abs.FunOK.law (Go.Sh.fun_circalaw12_CursorsPlay (l1.length + 1 + 400) (a0.data.toList, l1) true (Go.Sh.cursorsPlay_ok (l1.length + 1) _ l1 (Nat.lt_succ_self _) (Nat.le_trans m1 (by decide)))) rfl rfl (ι0 := Abs.entryI [ρ1]) (Abs.entry1 z1)
    ⟨_, _, rfl, rfl, _, _, rfl, z1.vr rfl, rfl⟩

set_option maxRecDepth 100000 in
theorem lifted (os : Os) (started : os.Started) (H : Type) (enc : TypeId × Value → H) :
    ReturnsInHanded {} Try.checked os 7 .any (Rows.cursorsPlaySpec.pre6 enc Try.prog Try.f7 Rows.cursorsPlayRow.domain false) (Rows.cursorsPlaySpec.post enc Try.prog Try.f7 false true false false) := by
  refine returnsInHanded_of_change (C := Try.checked) own started (by kernel_rfl) Try.func7
    (ChangeSpec.witness6 (enc := enc) (C := Try.checked) false ⟨#[], #[.string ⟨#[]⟩, .slice none 0 0], []⟩ 8 (by kernel_rfl) (by kernel_rfl) (by kernel_rfl) (by kernel_rfl)) ?_
  intro W base args ds gs before hval0 hW hcnd _
  have hval : ∀ (j : Nat) t v, Try.f7.params[j]? = some t → args[j]? = some v → Value.okWide Try.prog W .any base t v := hval0
  have hW' := hW
  obtain ⟨p, q, hA0, hV, rfl, hfz, hnd⟩ := hW
  have hA : DataW.TrodAll enc Try.prog W 0 (fun _ => true) true Try.f7.params.toList args.toList ds p := hA0
  rw [Try.params7] at hA hval
  obtain ⟨v0, vs0, d0, ds0, p0, q0, hargs, rfl, rfl, h0, r0⟩ := trodAll_cons hA
  obtain ⟨v1, vs1, d1, ds1, p1, q1, rfl, rfl, rfl, h1, r1⟩ := trodAll_cons r0
  obtain ⟨rfl, rfl, rfl⟩ := trodAll_nil r1
  obtain rfl : args = #[v0, v1] := by cases args; simp_all
  obtain ⟨rfl, rfl⟩ := trodVars_none hV
  obtain ⟨a0, rfl, rfl, rfl, w0⟩ := open_string Try.underlying9 (hval 0 9 v0 rfl rfl) h0
  have k1 := h1
  have lt1 : ∀ x ∈ p1, x.block < W.heap.size := by obtain ⟨m, hm⟩ := k1; exact DataW.trod_lt m _ _ _ hm
  obtain ⟨l1, ρ1, w1, m1, z1⟩ := Abs.open_rows_arg (tr := [.i .u8, .s, .i .i64, .i .i64]) (d := 12) Try.underlying47 (by kernel_rfl) (by kernel_rfl) (by kernel_rfl) (by decide) (Abs.okWide_slice Try.underlying47 (hval 1 47 v1 rfl rfl)) h1
  clear hA0 hval0
  refine (walk a0 v1 l1 ρ1 W w0 w1 m1 z1).mono fun e W' ⟨he, bel⟩ => ?_
  subst he
  exact ⟨_, rfl, _, _, _, [], _, [], hW', trodAll_mk1 (shut_bool Try.underlying4 _), (trodAll_cons_mk (shut_string Try.underlying9 w0) (trodAll_cons_mk (Below.trod laidOut (by kernel_rfl) (of_decide_eq_true (by kernel_rfl)) k1 bel lt1) trodAll_mk0)), rfl, bel.frame _, fun h => by cases h⟩

theorem over : Rows.cursorsPlayRow.holds Try.pinned (OpenSpec.ofChange Rows.cursorsPlaySpec) :=
  OpenClaim.holds_of_wide 7 Try.f7 rfl rfl rfl rfl rfl rfl rfl ⟨rfl, rfl, rfl, rfl, rfl⟩ rfl rfl rfl rfl rfl (by kernel_rfl) Try.func7 (by kernel_rfl)
    (of_decide_eq_true (by kernel_rfl)) (by unfold Func.isWrapper; first | (rw [if_pos (by decide +kernel)]; kernel_rfl) | (rw [if_neg (by decide +kernel)]; exact ⟨rfl, rfl⟩))
    (fun os started H enc _ => lifted os started H enc)

theorem proved : Rows.CursorsPlaySaid := over
end Go.Proofs.Ytpbhbpjobkdgmaa.cursorsPlay
