/- From a contract to a law's frame; small checks by the kernel.
   Conditions: none; generic over the program. -/
import Derived.Test.YtbeeikpnlojpgabGreatDoorAbsQ
import Derived.KernelRfl
namespace Go.Abs
open Go.RowKit
variable {P : Program}

theorem Fr.below {w w' : World} (h : Fr none0 w w') : Below w.heap.size w w' := ⟨h.os, h.tape, h.output, h.size, fun k hk => h.blk k hk fun b q e => by cases e⟩

theorem GL.below {w w' : World} (h : GL none0 w) (b : Below w.heap.size w w') : GL none0 w' := by
  obtain ⟨L, h1, h2, h3⟩ := h
  refine ⟨L, h1, fun x hx => ?_, h3⟩
  have hs : x.1 < w.heap.size := by
    rcases Nat.lt_or_ge x.1 w.heap.size with h | h
    · exact h
    · have := h2 x hx; rw [Array.getElem?_eq_none h] at this; cases this
  rw [b.block x.1 hs]
  exact h2 x hx

theorem GL.alloc {w : World} (h : GL none0 w) (o : Obj) : GL none0 (w.alloc o) := h.below ((Below.refl _ w).alloc (Nat.le_refl _) _)

/-- A law that takes data. -/
theorem PureOK.law {f : Nat} {args : List V} {xs : Array Value} {w : World} (h : PureOK P f args (.b true)) (hx : VRs none0 args xs.toList) (hg : GL none0 w := by first | exact ⟨[], rfl, (fun _ h => (by cases h)), (fun _ h => (by cases h))⟩ | assumption) :
    Calls P f xs w fun e w' => e = .returned (.bool true) ∧ Below w.heap.size w w' := by
  refine (h w xs hg hx).mono fun e w' ⟨x, h1, h2, h3⟩ => ⟨?_, h3.below⟩
  simp only [VR] at h2
  rw [h1, h2]

/-- A check of all numbers below n. -/
def allN (f : Nat → Bool) : Nat → Bool
  | 0 => true
  | n + 1 => cond (f n) (allN f n) false

theorem allN_ok {f : Nat → Bool} : ∀ {n : Nat}, allN f n = true → ∀ i, i < n → f i = true
  | 0, _, i, hi => by omega
  | n + 1, h, i, hi => by
    simp only [allN] at h
    cases hf : f n with
    | false => rw [hf] at h; cases h
    | true =>
      rw [hf] at h
      by_cases hin : i = n
      · rw [hin]; exact hf
      · exact allN_ok h i (by omega)

theorem allI {f : Int → Bool} {n : Nat} (h : allN (fun i => f i) n = true) (x : Int) (h0 : 0 ≤ x) (h1 : x < n) : f x = true := by
  have := allN_ok h x.toNat (by omega)
  rwa [Int.toNat_of_nonneg h0] at this

end Go.Abs
