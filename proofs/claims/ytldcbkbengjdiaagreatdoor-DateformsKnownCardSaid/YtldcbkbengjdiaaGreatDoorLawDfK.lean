/- Chapter 15: the closed law on dates.
   Conditions: none. -/
import Derived.Test.YtldcbkbengjdiaaGreatDoorLawBase
import Derived.Test.YtldcbkbengjdiaaGreatDoorLawDfKa
import Derived.Test.YtldcbkbengjdiaaGreatDoorLawDfKb
import Derived.Test.YtldcbkbengjdiaaGreatDoorLawDfKc
import Derived.Test.YtldcbkbengjdiaaGreatDoorLawDfKd
import Derived.Test.YtldcbkbengjdiaaGreatDoorLawDfKe
import Derived.Test.YtldcbkbengjdiaaGreatDoorLawDfKf
import Derived.Test.YtldcbkbengjdiaaGreatDoorLawDfKg
import Derived.Test.YtldcbkbengjdiaaGreatDoorLawDfKh
import Derived.Test.YtldcbkbengjdiaaGreatDoorLawDfKi
import Derived.Test.YtldcbkbengjdiaaGreatDoorLawDfKj
import Derived.Test.YtldcbkbengjdiaaGreatDoorLawDfKk
set_option maxRecDepth 100000
namespace Go.Sh
open Go.Abs

attribute [local irreducible] dfk_chk0 dfk_chk2 dfk_chk4 circalaw15_DateformsKnown_l0 circalaw15_DateformsKnown_l2 circalaw15_DateformsKnown_l4

theorem all_at {c : Nat → Bool} {a k j : Nat} (h : ((List.range k).all fun j => c (a + j)) = true) (h1 : a ≤ j) (h2 : j < a + k) : c j = true := by
  have := List.all_eq_true.1 h (j - a) (List.mem_range.2 (by omega))
  rwa [show a + (j - a) = j by omega] at this

theorem dfk_chk0_at {j : Nat} (hj : j < 11) : dfk_chk0 j = true := by
  rcases Nat.lt_or_ge j 3 with hl | hl
  · exact all_at (c := dfk_chk0) (a := 0) (k := 3) dfk_a (by omega) hl
  rcases Nat.lt_or_ge j 6 with hl | hl
  · exact all_at (c := dfk_chk0) (a := 3) (k := 3) dfk_b (by omega) hl
  rcases Nat.lt_or_ge j 9 with hl | hl
  · exact all_at (c := dfk_chk0) (a := 6) (k := 3) dfk_c (by omega) hl
  exact all_at (c := dfk_chk0) (a := 9) (k := 2) dfk_d (by omega) hj

theorem dfk_chk2_at {j : Nat} (hj : j < 23) : dfk_chk2 j = true := by
  rcases Nat.lt_or_ge j 8 with hl | hl
  · exact all_at (c := dfk_chk2) (a := 0) (k := 8) dfk_e (by omega) hl
  rcases Nat.lt_or_ge j 16 with hl | hl
  · exact all_at (c := dfk_chk2) (a := 8) (k := 8) dfk_f (by omega) hl
  exact all_at (c := dfk_chk2) (a := 16) (k := 7) dfk_g (by omega) hj

theorem dfk_chk4_at {j : Nat} (hj : j < 256) : dfk_chk4 j = true := by
  rcases Nat.lt_or_ge j 64 with hl | hl
  · exact all_at (c := dfk_chk4) (a := 0) (k := 64) dfk_h (by omega) hl
  rcases Nat.lt_or_ge j 128 with hl | hl
  · exact all_at (c := dfk_chk4) (a := 64) (k := 64) dfk_i (by omega) hl
  rcases Nat.lt_or_ge j 192 with hl | hl
  · exact all_at (c := dfk_chk4) (a := 128) (k := 64) dfk_j (by omega) hl
  exact all_at (c := dfk_chk4) (a := 192) (k := 64) dfk_k (by omega) hj

theorem dfk_step0 (j : Nat) (hj : j < 11) : circalaw15_DateformsKnown_l0 300 (([88, 48, 49, 50, 51, 52, 53, 54, 55, 56, 57] : List UInt8), (j : Int)) = some (.inl (([88, 48, 49, 50, 51, 52, 53, 54, 55, 56, 57] : List UInt8), ((j + 1 : Nat) : Int))) := by
  have h := dfk_chk0_at hj
  unfold dfk_chk0 at h
  split at h
  · rename_i q a e
    simp only [Bool.and_eq_true, beq_iff_eq] at h
    rw [e, h.1, h.2]
  · cases h
theorem dfk_step2 (j : Nat) (hj : j < 23) : circalaw15_DateformsKnown_l2 300 ((20 + j : Nat) : Int) = some (.inl ((20 + (j + 1) : Nat) : Int)) := by
  have h := dfk_chk2_at hj
  unfold dfk_chk2 at h
  split at h
  · rename_i a e
    simp only [beq_iff_eq] at h
    rw [e, h]
  · cases h
theorem dfk_step4 (j : Nat) (hj : j < 256) : circalaw15_DateformsKnown_l4 300 ((j : Int), ([[], [63], [126], [37]] : List (List UInt8))) = some (.inl (((j + 1 : Nat) : Int), ([[], [63], [126], [37]] : List (List UInt8)))) := by
  have h := dfk_chk4_at hj
  unfold dfk_chk4 at h
  split at h
  · rename_i a q e
    simp only [Bool.and_eq_true, beq_iff_eq] at h
    rw [e, h.1, h.2]
  · cases h

theorem dfk_l0 : iterL (circalaw15_DateformsKnown_l0 300) 300 (([88, 48, 49, 50, 51, 52, 53, 54, 55, 56, 57] : List UInt8), 0) = some (.inr ()) :=
  iterL_steps (f := fun j => (([88, 48, 49, 50, 51, 52, 53, 54, 55, 56, 57] : List UInt8), (j : Int))) (m := 11) dfk_step0 (by kernel_rfl) (by omega)
theorem dfk_l2 : iterL (circalaw15_DateformsKnown_l2 300) 300 20 = some (.inr ()) :=
  iterL_steps (f := fun j => ((20 + j : Nat) : Int)) (m := 23) dfk_step2 (by kernel_rfl) (by omega)
theorem dfk_l4 : iterL (circalaw15_DateformsKnown_l4 300) 300 (0, ([[], [63], [126], [37]] : List (List UInt8))) = some (.inr ()) :=
  iterL_steps (f := fun j => ((j : Int), ([[], [63], [126], [37]] : List (List UInt8)))) (m := 256) dfk_step4 (by kernel_rfl) (by omega)

/-- What stands behind the loops. -/
noncomputable def dfk_rest (n : Nat) : Option Bool := (ob (dateforms_Parse n [89, 49, 69, 49, 54, 45, 50, 52]) fun r993 => (ob (dateforms_Parse n [89, 45, 49, 69, 49, 54, 45, 50, 52]) fun r994 => (cond (r993.2.2.2.2.2.2.2.2.2.2.2 == 6) (cond (r993.2.2.2.2.2.2.2.2.2.2.1 == 0) (cond (r994.2.2.2.2.2.2.2.2.2.2.2 == 0) (ob (circalaw15_lives n) fun r995 => (some r995)) (some false)) (some false)) (some false))))
theorem dfk_rest_ok : dfk_rest 300 = some true := by kernel_rfl

theorem dfk_ob {α β : Type} (a : α) (f : α → Option β) : ob (some a) f = f a := rfl

theorem dateformsKnown_ok : circalaw15_DateformsKnown 300 = some true := by
  unfold circalaw15_DateformsKnown
  rw [dfk_l0, dfk_ob]
  dsimp only
  rw [dfk_l2, dfk_ob]
  dsimp only
  rw [dfk_l4, dfk_ob]
  dsimp only
  exact dfk_rest_ok

end Go.Sh
