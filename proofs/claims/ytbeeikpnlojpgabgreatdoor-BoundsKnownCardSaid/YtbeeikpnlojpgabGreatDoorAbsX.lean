/- Functions of the library that are no code: what the model answers for them; a law that takes slices.
   Conditions: none; generic over the program. -/
import Derived.Test.YtbeeikpnlojpgabGreatDoorAbsS
import Derived.Laws.Externs
import Derived.Lib.Bytealg
namespace Go.Abs
open Go.RowKit
variable {P : Program}

/-- internal/bytealg.CountString. -/
def countE (f : Nat) : Ent := ⟨f, fun _ args _ _ k => match args with
  | [.s l, .i .u8 c] => k { val := .i .i64 (Lib.countByte l c.toNat.toUInt8 : Nat) }
  | _ => none⟩

/-- internal/bytealg.IndexByteString. -/
def indexE (f : Nat) : Ent := ⟨f, fun _ args _ _ k => match args with
  | [.s l, .i .u8 c] => k { val := .i .i64 (Lib.indexByte l c.toNat.toUInt8) }
  | _ => none⟩

theorem two_args {ι : Inj} {l : List UInt8} {k : IntKind} {c : Int} {xs : Array Value} (h : VRs ι [.s l, .i k c] xs.toList) : xs = #[.string ⟨l.toArray⟩, .int k c] := by
  simp only [VRs, VR] at h
  obtain ⟨_, _, h1, rfl, _, _, rfl, rfl, rfl⟩ := h
  apply Array.ext'
  simpa using h1

theorem countE_ok {f : Nat} {fn : Func} (hf : P.funcs[f]? = some fn) (h1 : (fn.name == "runtime.NumGoroutine") = false) (h2 : fn.body.isNone = true) (h3 : Extern.findNext fn = none)
    (h4 : Extern.find fn = some Extern.BytealgCount.count) : EntOK P (countE f) := by
  intro α args H fr k z h
  simp only [countE] at h
  split at h
  case h_2 => cases h
  rename_i l c
  refine ⟨_, h, fun H' _ => .inr ⟨rfl, rfl, rfl, rfl, fun ι w xs hx => ⟨.int .i64 (Lib.countByte l c.toNat.toUInt8 : Nat), ?_, by simp only [VR]⟩⟩⟩
  show (callFunc f xs).run P w = _
  rw [two_args hx, run_callFunc_extern hf h1 h2 h3 h4, Lib.run_countString]
  rfl

theorem indexE_ok {f : Nat} {fn : Func} (hf : P.funcs[f]? = some fn) (h1 : (fn.name == "runtime.NumGoroutine") = false) (h2 : fn.body.isNone = true) (h3 : Extern.findNext fn = none)
    (h4 : Extern.find fn = some Extern.BytealgIndexByte.indexByte) : EntOK P (indexE f) := by
  intro α args H fr k z h
  simp only [indexE] at h
  split at h
  case h_2 => cases h
  rename_i l c
  refine ⟨_, h, fun H' _ => .inr ⟨rfl, rfl, rfl, rfl, fun ι w xs hx => ⟨.int .i64 (Lib.indexByte l c.toNat.toUInt8), ?_, by simp only [VR]⟩⟩⟩
  show (callFunc f xs).run P w = _
  rw [two_args hx, run_callFunc_extern hf h1 h2 h3 h4, Lib.run_indexByteString]
  rfl

theorem roI_all {ι0 : Inj} {m : Nat} (h : ∀ b q, ι0 b = some q → b < m) : roI ι0 m = none0 := by
  funext b
  unfold roI none0
  cases hb : Nat.blt b m with
  | true => rfl
  | false =>
    cases hi : ι0 b with
    | none => rfl
    | some q => rw [show Nat.blt b m = true from Nat.ble_eq_true_of_le (h b q hi)] at hb; cases hb

/-- A law that takes slices, and only reads them. -/
theorem FunOK.law {f : Nat} {args : List V} {H0 : List (Nat × Blk)} {m rb : Nat} {out : FOut} (h : FunOK P f args H0 m m rb out) (hp : out.pan = false) (hv : out.val = .b true) {ι0 : Inj} {xs : Array Value} {w : World}
    (hW : WR ι0 H0 m w) (hx : VRs ι0 args xs.toList) (hg : GL none0 w := by first | exact ⟨[], rfl, (fun _ h => (by cases h)), (fun _ h => (by cases h))⟩ | assumption) : Calls P f xs w fun e w' => e = .returned (.bool true) ∧ Below w.heap.size w w' := by
  refine (h ι0 w xs hW (fun b q hb _ => hW.low b _ hb) (hg.mono fun b q hb => by rw [roI_all hW.low] at hb; cases hb) hx).mono fun e w' ⟨ι, _, _, _, _, h4, h5⟩ => ?_
  rw [roI_all hW.low] at h4
  refine ⟨?_, h4.below⟩
  cases e with
  | returned x =>
    have h6 := h5.2
    rw [hv] at h6
    simp only [VR] at h6
    rw [h6]
  | panicked chain =>
    have := h5.1
    rw [hp] at this
    cases this
  | outgrown => exact h5.elim

end Go.Abs
