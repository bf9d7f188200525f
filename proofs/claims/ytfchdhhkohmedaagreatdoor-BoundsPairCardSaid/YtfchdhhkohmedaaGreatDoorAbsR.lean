/- From a contract to a law's frame; small checks by the kernel.
   Conditions: none; generic over the program. -/
import Derived.Test.YtfchdhhkohmedaaGreatDoorAbsQ
import Derived.KernelRfl
namespace Go.Abs
open Go.RowKit
variable {P : Program}
theorem Fr.below {w w' : World} (h : Fr fa w w') : Below w.heap.size w w' := ⟨h.os, h.tape, h.output, h.size, fun k hk => h.blk k hk fun b q e => by cases e⟩
theorem GL.below {w w' : World} (h : GL fa w) (b : Below w.heap.size w w') : GL fa w' := by
  obtain ⟨L, h1, h2, h3⟩ := h
  refine ⟨L, h1, fun x hx => ?_, h3⟩
  have hs : x.1 < w.heap.size := by
    rcases Nat.lt_or_ge x.1 w.heap.size with h | h
    · exact h
    · have := h2 x hx; rw [Array.getElem?_eq_none h] at this; cases this
  rw [b.block x.1 hs]
  exact h2 x hx
theorem fE.law {f : Nat} {args : List V} {xs : Array Value} {w : World} (h : fE P f args (.b true)) (hx : VRs fa args xs.toList) (hg : GL fa w := by first | exact ⟨[], rfl, (fun _ h => (by cases h)), (fun _ h => (by cases h))⟩ | assumption) :
    Calls P f xs w fun e w' => e = .returned (.bool true) ∧ Below w.heap.size w w' := by
  refine (h w xs hg hx).mono fun e w' ⟨x, h1, h2, h3⟩ => ⟨?_, h3.below⟩
  simp only [VR] at h2
  rw [h1, h2]
def allN (f : Nat → Bool) : Nat → Bool
  | 0 => true
  | n + 1 => cond (f n) (allN f n) false
theorem r6 {f : Nat → Bool} : ∀ {n : Nat}, allN f n = true → ∀ i, i < n → f i = true
  | 0, _, i, hi => by omega
  | n + 1, h, i, hi => by
    simp only [allN] at h
    cases hf : f n with
    | false => rw [hf] at h; cases h
    | true =>
      rw [hf] at h
      by_cases hin : i = n
      · rw [hin]; exact hf
      · exact r6 h i (by omega)
end Go.Abs
