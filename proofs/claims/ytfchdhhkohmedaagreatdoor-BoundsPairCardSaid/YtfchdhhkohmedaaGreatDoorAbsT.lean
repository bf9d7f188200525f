/- Functions of the library that are met by a contract of the kit's shelf.
   Conditions: none; generic over the program. -/
import Derived.Test.YtfchdhhkohmedaaGreatDoorAbsX
import Derived.Lib.Join
namespace Go.Abs
open Go.RowKit
variable {P : Program}
theorem Below.fr {w w' : World} (h : Below w.heap.size w w') : Fr fa w w' := ⟨h.os, h.tape, h.output, h.size, fun k hk _ => h.block k hk⟩
theorem ke {f : Nat} {args : List V} {H : List (Nat × Blk)} {fr : Nat} {v : V} {rd : List Nat}
    (h : ∀ (ι : Inj) (nb : Nat) (w : World) (xs : Array Value), WR ι H nb w → GL fa w → VRs ι args xs.toList → Calls P f xs w fun e w' => ∃ x, e = .returned x ∧ VR ι v x ∧ Below w.heap.size w w') :
    sZ P f args H fr { val := v, rd := rd } := by
  intro ι nb w xs hW hg _ _ hx
  refine (h ι nb w xs hW (hg.mono fun b q h => by cases h) hx).mono fun e w' ⟨x, h1, h2, h3⟩ => ?_
  subst h1
  have h3 := Below.fr h3
  have hsz := h3.size
  refine ⟨ι, fun _ _ _ => rfl, fun b q h1 => by simp [isIn] at h1, fun b q h1 h2 => by simp at h2; omega, fun _ _ h _ => h, ?_, ?_, rfl, h2⟩
  · simp only [List.nil_append, lF]
    refine ⟨hW.inj, fun b r hb => ?_, fun b r hb => ?_, fun b blk hl hd => ?_⟩
    · have := hW.low b r hb
      omega
    · have := hW.dom b r hb
      omega
    · exact (hW.blk b blk hl hd).map rfl (fun q hq => h3.blk q.r (hW.dom b q hq) (fun _ _ h => by cases h)) (fun _ _ x => x) (fun _ x => x)
  · exact ⟨h3.os, h3.tape, h3.output, h3.size, fun k hk _ => h3.blk k hk (fun _ _ h => by cases h)⟩
end Go.Abs
