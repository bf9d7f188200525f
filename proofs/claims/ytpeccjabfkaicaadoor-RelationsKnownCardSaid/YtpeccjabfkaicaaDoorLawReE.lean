/- Chapter 31: the laws of relations, of three runs, and of names.
   Conditions: none. -/
import Derived.Test.YtpeccjabfkaicaaDoorLawReD
import Derived.Test.YtpeccjabfkaicaaDoorLawBit
import Derived.KernelRfl
set_option linter.unusedSimpArgs false
set_option linter.unusedVariables false
namespace Go.Sh
open Go.Abs

theorem re_lives (m : Nat) : circalaw31_lives (m + 300) = some true := by kernel_rfl

theorem RR_range {A B C D : Int} (h1 : A ≤ B) (h2 : C ≤ D) : 1 ≤ RR A B C D ∧ RR A B C D ≤ 13 := by
  rcases RR_cases h1 h2 with ⟨e, q⟩ | ⟨e, q⟩ | ⟨e, q⟩ | ⟨e, q⟩ | ⟨e, q⟩ | ⟨e, q⟩ | ⟨e, q⟩ | ⟨e, q⟩ | ⟨e, q⟩ | ⟨e, q⟩ | ⟨e, q⟩ | ⟨e, q⟩ | ⟨e, q⟩ <;> rw [e] <;> decide

theorem wrap_u8' (x : Int) (h0 : 0 ≤ x) (h1 : x < 256) : IntKind.wrap .u8 x = x := wrap_u8 x h0 h1

theorem rel_valid (n : Nat) (r : Int) : relations_valid n r = some (decide (1 ≤ r ∧ r ≤ 13)) := by
  simp only [relations_valid, cond_dec]
  by_cases h1 : 1 ≤ r
  · by_cases h2 : r ≤ 13 <;> simp [h1, h2]
  · simp [h1]

theorem rel_conv (n : Nat) (r : Int) : relations_Converse n r = some (if 1 ≤ r ∧ r ≤ 13 then (14 - r, 0) else (0, 18)) := by
  simp only [relations_Converse, rel_valid, ob, cond_neg, cond_dec]
  by_cases h : 1 ≤ r ∧ r ≤ 13
  · simp only [h, and_self, if_true]
    rw [wrap_u8 _ (by omega) (by omega)]
  · rw [if_neg h, if_neg h]

theorem relationsOf_ok (m : Nat) (a b c d e f g h : Int) (hb : i64 b) (hd : i64 d) (hf : i64 f) (hh : i64 h) : circalaw31_RelationsOf (m + 300) a b c d e f g h = some true := by
  have hl := re_lives m
  simp only [circalaw31_RelationsOf, rel_Of (m + 297) a b c d e f g h hb hd hf hh, rel_Of (m + 297) e f g h a b c d hf hh hb hd, ref_run, ob, mul01, cond_beq]
  by_cases c1 : okR a b c d
  · by_cases c2 : okR e f g h
    · have k1 := okR_le c1 hb hd
      have k2 := okR_le c2 hf hh
      have hr := RR_range k1 k2
      have hc := RR_conv k1 k2
      simp only [c1, c2, and_self, if_true, relF_key c1 c2 hb hd hf hh, relF_key c2 c1 hf hh hb hd, hc, rel_conv, hr, ref_Of (m + 290) c1 c2 hb hd hf hh, hl, show (1 : Int) ≠ 0 by decide, if_false]
      rw [wrap_i64 _ (by omega) (by omega)]
      simp
    · simp [c1, c2, hl]
  · simp [c1, hl]

theorem rel_Compose (m : Nat) (r s : Int) : relations_Compose (m + 200) r s = some (if (1 ≤ r ∧ r ≤ 13) ∧ 1 ≤ s ∧ s ≤ 13 then (tabF r s, 0) else (0, 18)) := by
  simp only [relations_Compose, rel_valid, ob, cond_neg, cond_dec]
  by_cases h : 1 ≤ r ∧ r ≤ 13
  · by_cases k : 1 ≤ s ∧ s ≤ 13
    · simp only [h, k, and_self, if_true, rel_compose m h.1 h.2 k.1 k.2]
    · rw [if_pos h, if_neg k, if_neg (fun q => k q.2)]
  · rw [if_neg h, if_neg (fun q => h q.1)]

theorem tabF_lt {r s : Int} (h : (1 ≤ r ∧ r ≤ 13) ∧ 1 ≤ s ∧ s ≤ 13) : ∃ v : Nat, tabF r s = (v : Int) ∧ 0 < v ∧ v < 65536 := by
  obtain ⟨i, rfl, hi⟩ : ∃ i : Nat, r = ((i + 1 : Nat) : Int) ∧ i < 13 := ⟨r.toNat - 1, by omega, by omega⟩
  obtain ⟨j, rfl, hj⟩ : ∃ j : Nat, s = ((j + 1 : Nat) : Int) ∧ j < 13 := ⟨s.toNat - 1, by omega, by omega⟩
  have key : ∀ i j : Fin 13, 0 < tabF ((i.val + 1 : Nat) : Int) ((j.val + 1 : Nat) : Int) ∧ tabF ((i.val + 1 : Nat) : Int) ((j.val + 1 : Nat) : Int) < 65536 := by decide +kernel
  have := key ⟨i, hi⟩ ⟨j, hj⟩
  simp only at this
  exact ⟨(tabF ((i + 1 : Nat) : Int) ((j + 1 : Nat) : Int)).toNat, by omega, by omega, by omega⟩

theorem rel_Has (n : Nat) {v : Nat} (hv : v < 65536) {r : Int} (h : 1 ≤ r ∧ r ≤ 13) : relations_Set_Has n (v : Int) r = some (v.testBit r.toNat) := by
  obtain ⟨k, rfl⟩ : ∃ k : Nat, r = (k : Int) := ⟨r.toNat, by omega⟩
  have hneg : ¬ (k : Int) < 0 := by omega
  simp only [relations_Set_Has, rel_valid, ob, h, and_self, decide_true, cond_true, hneg, decide_false, cond_false]
  rw [has16 hv (show k ≤ 16 by omega)]
  rfl

theorem rel_Has_not (n : Nat) (v r : Int) (h : ¬ (1 ≤ r ∧ r ≤ 13)) : relations_Set_Has n v r = some false := by
  simp [relations_Set_Has, rel_valid, ob, h]

/-- The mirror of a relation. -/
def mirF (r : Int) : Int := if r = 5 ∨ r = 7 ∨ r = 9 then r else if r = 4 then 6 else if r = 6 then 4 else if r = 10 then 8 else if r = 8 then 10 else 14 - r

theorem rel_mirror (n : Nat) {r : Int} (h : 1 ≤ r ∧ r ≤ 13) : relations_Mirror n r = some (mirF r, 0) := by
  have h' : r = 1 ∨ r = 2 ∨ r = 3 ∨ r = 4 ∨ r = 5 ∨ r = 6 ∨ r = 7 ∨ r = 8 ∨ r = 9 ∨ r = 10 ∨ r = 11 ∨ r = 12 ∨ r = 13 := by omega
  rcases h' with rfl | rfl | rfl | rfl | rfl | rfl | rfl | rfl | rfl | rfl | rfl | rfl | rfl <;> rfl

theorem RR_mirror {A B C D : Int} (h1 : A ≤ B) (h2 : C ≤ D) : RR (-B) (-A) (-D) (-C) = mirF (RR A B C D) := by
  have q1 : -B ≤ -A := by omega
  have q2 : -D ≤ -C := by omega
  rcases RR_cases h1 h2 with ⟨e, q⟩ | ⟨e, q⟩ | ⟨e, q⟩ | ⟨e, q⟩ | ⟨e, q⟩ | ⟨e, q⟩ | ⟨e, q⟩ | ⟨e, q⟩ | ⟨e, q⟩ | ⟨e, q⟩ | ⟨e, q⟩ | ⟨e, q⟩ | ⟨e, q⟩ <;> rw [e] <;>
    rcases RR_cases q1 q2 with ⟨e', o⟩ | ⟨e', o⟩ | ⟨e', o⟩ | ⟨e', o⟩ | ⟨e', o⟩ | ⟨e', o⟩ | ⟨e', o⟩ | ⟨e', o⟩ | ⟨e', o⟩ | ⟨e', o⟩ | ⟨e', o⟩ | ⟨e', o⟩ | ⟨e', o⟩ <;> rw [e'] <;> first | rfl | (exfalso; clear e e' q1 q2; omega)

def lo2 (p q : Int) : Int := if q < p then q else p
def hi2 (p q : Int) : Int := if q > p then q else p

theorem key0 (x : Int) : key 0 x = x := by simp [key]

theorem okR0 {x y : Int} (h : x ≤ y) : okR 0 x 0 y := by unfold okR; omega

end Go.Sh
