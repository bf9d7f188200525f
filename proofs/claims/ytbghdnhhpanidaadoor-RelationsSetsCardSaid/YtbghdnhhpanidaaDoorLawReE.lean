/- Chapter 31: the laws of relations, of three runs, and of names.
   Conditions: none. -/
import Derived.Test.YtbghdnhhpanidaaDoorLawReD
import Derived.Test.YtbghdnhhpanidaaDoorLawBit
import Derived.KernelRfl
set_option linter.unusedSimpArgs false
set_option linter.unusedVariables false
namespace Go.Sh
open Go.Abs

theorem re_lives (m : Nat) : circalaw31_lives (m + 300) = some true := by kernel_rfl

theorem RR_range {A B C D : Int} (h1 : A ≤ B) (h2 : C ≤ D) : 1 ≤ RR A B C D ∧ RR A B C D ≤ 13 := by
  rcases RR_cases h1 h2 with ⟨e, q⟩ | ⟨e, q⟩ | ⟨e, q⟩ | ⟨e, q⟩ | ⟨e, q⟩ | ⟨e, q⟩ | ⟨e, q⟩ | ⟨e, q⟩ | ⟨e, q⟩ | ⟨e, q⟩ | ⟨e, q⟩ | ⟨e, q⟩ | ⟨e, q⟩ <;> rw [e] <;> decide

theorem wrap_u8' (x : Int) (h0 : 0 ≤ x) (h1 : x < 256) : IntKind.wrap .u8 x = x := wrap_u8 x h0 h1

theorem rel_valid (n : Nat) (r : Int) : relations_valid n r = some (decide (1 ≤ r ∧ r ≤ 13)) := by
  simp only [relations_valid, cond_dec]
  by_cases h1 : 1 ≤ r
  · by_cases h2 : r ≤ 13 <;> simp [h1, h2]
  · simp [h1]

theorem rel_conv (n : Nat) (r : Int) : relations_Converse n r = some (if 1 ≤ r ∧ r ≤ 13 then (14 - r, 0) else (0, 18)) := by
  simp only [relations_Converse, rel_valid, ob, cond_neg, cond_dec]
  by_cases h : 1 ≤ r ∧ r ≤ 13
  · simp only [h, and_self, if_true]
    rw [wrap_u8 _ (by omega) (by omega)]
  · rw [if_neg h, if_neg h]

theorem relationsOf_ok (m : Nat) (a b c d e f g h : Int) (hb : i64 b) (hd : i64 d) (hf : i64 f) (hh : i64 h) : circalaw31_RelationsOf (m + 300) a b c d e f g h = some true := by
  have hl := re_lives m
  simp only [circalaw31_RelationsOf, rel_Of (m + 297) a b c d e f g h hb hd hf hh, rel_Of (m + 297) e f g h a b c d hf hh hb hd, ref_run, ob, mul01, cond_beq]
  by_cases c1 : okR a b c d
  · by_cases c2 : okR e f g h
    · have k1 := okR_le c1 hb hd
      have k2 := okR_le c2 hf hh
      have hr := RR_range k1 k2
      have hc := RR_conv k1 k2
      simp only [c1, c2, and_self, if_true, relF_key c1 c2 hb hd hf hh, relF_key c2 c1 hf hh hb hd, hc, rel_conv, hr, ref_Of (m + 290) c1 c2 hb hd hf hh, hl, show (1 : Int) ≠ 0 by decide, if_false]
      rw [wrap_i64 _ (by omega) (by omega)]
      simp
    · simp [c1, c2, hl]
  · simp [c1, hl]

theorem rel_Compose (m : Nat) (r s : Int) : relations_Compose (m + 200) r s = some (if (1 ≤ r ∧ r ≤ 13) ∧ 1 ≤ s ∧ s ≤ 13 then (tabF r s, 0) else (0, 18)) := by
  simp only [relations_Compose, rel_valid, ob, cond_neg, cond_dec]
  by_cases h : 1 ≤ r ∧ r ≤ 13
  · by_cases k : 1 ≤ s ∧ s ≤ 13
    · simp only [h, k, and_self, if_true, rel_compose m h.1 h.2 k.1 k.2]
    · rw [if_pos h, if_neg k, if_neg (fun q => k q.2)]
  · rw [if_neg h, if_neg (fun q => h q.1)]

theorem tabF_lt {r s : Int} (h : (1 ≤ r ∧ r ≤ 13) ∧ 1 ≤ s ∧ s ≤ 13) : ∃ v : Nat, tabF r s = (v : Int) ∧ 0 < v ∧ v < 65536 := by
  obtain ⟨i, rfl, hi⟩ : ∃ i : Nat, r = ((i + 1 : Nat) : Int) ∧ i < 13 := ⟨r.toNat - 1, by omega, by omega⟩
  obtain ⟨j, rfl, hj⟩ : ∃ j : Nat, s = ((j + 1 : Nat) : Int) ∧ j < 13 := ⟨s.toNat - 1, by omega, by omega⟩
  have key : ∀ i j : Fin 13, 0 < tabF ((i.val + 1 : Nat) : Int) ((j.val + 1 : Nat) : Int) ∧ tabF ((i.val + 1 : Nat) : Int) ((j.val + 1 : Nat) : Int) < 65536 := by decide +kernel
  have := key ⟨i, hi⟩ ⟨j, hj⟩
  simp only at this
  exact ⟨(tabF ((i + 1 : Nat) : Int) ((j + 1 : Nat) : Int)).toNat, by omega, by omega, by omega⟩

theorem rel_Has (n : Nat) {v : Nat} (hv : v < 65536) {r : Int} (h : 1 ≤ r ∧ r ≤ 13) : relations_Set_Has n (v : Int) r = some (v.testBit r.toNat) := by
  obtain ⟨k, rfl⟩ : ∃ k : Nat, r = (k : Int) := ⟨r.toNat, by omega⟩
  have hneg : ¬ (k : Int) < 0 := by omega
  simp only [relations_Set_Has, rel_valid, ob, h, and_self, decide_true, cond_true, hneg, decide_false, cond_false]
  rw [has16 hv (show k ≤ 16 by omega)]
  rfl

theorem rel_Has_not (n : Nat) (v r : Int) (h : ¬ (1 ≤ r ∧ r ≤ 13)) : relations_Set_Has n v r = some false := by
  simp [relations_Set_Has, rel_valid, ob, h]

/-- The mirror of a relation. -/
def mirF (r : Int) : Int := if r = 5 ∨ r = 7 ∨ r = 9 then r else if r = 4 then 6 else if r = 6 then 4 else if r = 10 then 8 else if r = 8 then 10 else 14 - r

theorem rel_mirror (n : Nat) {r : Int} (h : 1 ≤ r ∧ r ≤ 13) : relations_Mirror n r = some (mirF r, 0) := by
  have h' : r = 1 ∨ r = 2 ∨ r = 3 ∨ r = 4 ∨ r = 5 ∨ r = 6 ∨ r = 7 ∨ r = 8 ∨ r = 9 ∨ r = 10 ∨ r = 11 ∨ r = 12 ∨ r = 13 := by omega
  rcases h' with rfl | rfl | rfl | rfl | rfl | rfl | rfl | rfl | rfl | rfl | rfl | rfl | rfl <;> rfl

theorem RR_mirror {A B C D : Int} (h1 : A ≤ B) (h2 : C ≤ D) : RR (-B) (-A) (-D) (-C) = mirF (RR A B C D) := by
  have q1 : -B ≤ -A := by omega
  have q2 : -D ≤ -C := by omega
  rcases RR_cases h1 h2 with ⟨e, q⟩ | ⟨e, q⟩ | ⟨e, q⟩ | ⟨e, q⟩ | ⟨e, q⟩ | ⟨e, q⟩ | ⟨e, q⟩ | ⟨e, q⟩ | ⟨e, q⟩ | ⟨e, q⟩ | ⟨e, q⟩ | ⟨e, q⟩ | ⟨e, q⟩ <;> rw [e] <;>
    rcases RR_cases q1 q2 with ⟨e', o⟩ | ⟨e', o⟩ | ⟨e', o⟩ | ⟨e', o⟩ | ⟨e', o⟩ | ⟨e', o⟩ | ⟨e', o⟩ | ⟨e', o⟩ | ⟨e', o⟩ | ⟨e', o⟩ | ⟨e', o⟩ | ⟨e', o⟩ | ⟨e', o⟩ <;> rw [e'] <;> first | rfl | (exfalso; clear e e' q1 q2; omega)

def lo2 (p q : Int) : Int := if q < p then q else p
def hi2 (p q : Int) : Int := if q > p then q else p

theorem three_list (m : Nat) (p q r s t u : Int) (hp : i64 p) (hq : i64 q) (hr : i64 r) (hs : i64 s) (ht : i64 t) (hu : i64 u) :
    iterL (circalaw31_RelationsThree_l0 (m + 300)) (m + 300) (0, [p, q], [r, s], [t, u], []) = some [(0, lo2 p q, 0, hi2 p q), (0, lo2 r s, 0, hi2 r s), (0, lo2 t u, 0, hi2 t u)] := by
  have w1 : IntKind.wrap .i64 (0 + 1) = 1 := by decide
  have w2 : IntKind.wrap .i64 (1 + 1) = 2 := by decide
  have w3 : IntKind.wrap .i64 (2 + 1) = 3 := by decide
  have i0 : ix 3 0 = some 0 := by decide
  have i1 : ix 3 1 = some 1 := by decide
  have i2 : ix 3 2 = some 2 := by decide
  have b1 : Nat.ble (0 + 1) mostRows = true := by decide
  have b2 : Nat.ble (0 + 1 + 1) mostRows = true := by decide
  have b3 : Nat.ble (0 + 1 + 1 + 1) mostRows = true := by decide
  have wl : ∀ x y, i64 x → i64 y → IntKind.wrap .i64 (if y < x then y else x) = lo2 x y := by
    intro x y hx hy; unfold i64 at hx hy; unfold lo2; split <;> exact wrap_i64 _ (by omega) (by omega)
  have wh : ∀ x y, i64 x → i64 y → IntKind.wrap .i64 (if y > x then y else x) = hi2 x y := by
    intro x y hx hy; unfold i64 at hx hy; unfold hi2; split <;> exact wrap_i64 _ (by omega) (by omega)
  simp only [iterL, circalaw31_RelationsThree_l0, circalaw31_run, i0, i1, i2, ob, List.getD_cons_zero, List.getD_cons_succ, List.getElem?_cons_zero, List.getElem?_cons_succ, List.length_nil, List.length_append, List.length_cons, b1, b2, b3, cond_true, w1, w2, w3, cond_dec,
    wl p q hp hq, wl r s hr hs, wl t u ht hu, wh p q hp hq, wh r s hr hs, wh t u ht hu, List.nil_append, List.cons_append, show (0 : Int) < 3 by decide, show (1 : Int) < 3 by decide, show (2 : Int) < 3 by decide, show ¬ (3 : Int) < 3 by decide, if_true, if_false]

theorem key0 (x : Int) : key 0 x = x := by simp [key]

theorem okR0 {x y : Int} (h : x ≤ y) : okR 0 x 0 y := by unfold okR; omega

theorem relationsThree_ok (m : Nat) (p q r s t u : Int) (hp : -32768 ≤ p ∧ p ≤ 32767) (hq : -32768 ≤ q ∧ q ≤ 32767) (hr : -32768 ≤ r ∧ r ≤ 32767) (hs : -32768 ≤ s ∧ s ≤ 32767) (ht : -32768 ≤ t ∧ t ≤ 32767) (hu : -32768 ≤ u ∧ u ≤ 32767) :
    circalaw31_RelationsThree (m + 300) [p, q] [r, s] [t, u] = some true := by
  have hl := re_lives m
  have j : ∀ x : Int, -32768 ≤ x ∧ x ≤ 32767 → i64 x := fun x h => by unfold i64; omega
  have lb : ∀ x y : Int, (-32768 ≤ x ∧ x ≤ 32767) → (-32768 ≤ y ∧ y ≤ 32767) → lo2 x y ≤ hi2 x y ∧ (-32768 ≤ lo2 x y ∧ lo2 x y ≤ 32767) ∧ (-32768 ≤ hi2 x y ∧ hi2 x y ≤ 32767) := by
    intro x y h1 h2; unfold lo2 hi2; split <;> split <;> omega
  obtain ⟨a1, a2, a3⟩ := lb p q hp hq
  obtain ⟨b1, b2, b3⟩ := lb r s hr hs
  obtain ⟨c1, c2, c3⟩ := lb t u ht hu
  unfold circalaw31_RelationsThree
  rw [three_list m p q r s t u (j p hp) (j q hq) (j r hr) (j s hs) (j t ht) (j u hu)]
  generalize lo2 p q = A at *
  generalize hi2 p q = B at *
  generalize lo2 r s = C at *
  generalize hi2 r s = D at *
  generalize lo2 t u = E at *
  generalize hi2 t u = F at *
  have i0 : ix 3 0 = some 0 := by decide
  have i1 : ix 3 1 = some 1 := by decide
  have i2 : ix 3 2 = some 2 := by decide
  have r1 := RR_range a1 b1
  have r2 := RR_range b1 c1
  have r3 := RR_range a1 c1
  have nA : IntKind.wrap .i64 (0 - A) = -A := by rw [wrap_i64 _ (by omega) (by omega)]; omega
  have nB : IntKind.wrap .i64 (0 - B) = -B := by rw [wrap_i64 _ (by omega) (by omega)]; omega
  have nC : IntKind.wrap .i64 (0 - C) = -C := by rw [wrap_i64 _ (by omega) (by omega)]; omega
  have nD : IntKind.wrap .i64 (0 - D) = -D := by rw [wrap_i64 _ (by omega) (by omega)]; omega
  have rel : ∀ {x y z w : Int}, x ≤ y → z ≤ w → (-32768 ≤ x ∧ x ≤ 32768) → (-32768 ≤ y ∧ y ≤ 32768) → (-32768 ≤ z ∧ z ≤ 32768) → (-32768 ≤ w ∧ w ≤ 32768) → relations_Of (m + 300) 0 x 0 y 0 z 0 w = some (RR x y z w, 0) := by
    intro x y z w h1 h2 h3 h4 h5 h6
    have k : ∀ x : Int, (-32768 ≤ x ∧ x ≤ 32768) → i64 x := fun x h => by unfold i64; omega
    rw [rel_Of (m + 297) 0 x 0 y 0 z 0 w (k x h3) (k y h4) (k z h5) (k w h6), if_pos ⟨okR0 h1, okR0 h2⟩, relF_key (okR0 h1) (okR0 h2) (k x h3) (k y h4) (k z h5) (k w h6)]
    simp only [key0]
  have f1 := rel a1 b1 (by omega) (by omega) (by omega) (by omega)
  have f2 := rel b1 c1 (by omega) (by omega) (by omega) (by omega)
  have f3 := rel a1 c1 (by omega) (by omega) (by omega) (by omega)
  have f4 := rel (x := -B) (y := -A) (z := -D) (w := -C) (by omega) (by omega) (by omega) (by omega) (by omega) (by omega)
  have hcomp := rel_Compose (m + 100) (RR A B C D) (RR C D E F)
  rw [if_pos ⟨r1, r2⟩] at hcomp
  obtain ⟨v, hv, _, hv2⟩ := tabF_lt (r := RR A B C D) (s := RR C D E F) ⟨r1, r2⟩
  have hin : inT (tabF (RR A B C D) (RR C D E F)) (RR A B E F) = true := by
    have h' : RR A B C D = 1 ∨ RR A B C D = 2 ∨ RR A B C D = 3 ∨ RR A B C D = 4 ∨ RR A B C D = 5 ∨ RR A B C D = 6 ∨ RR A B C D = 7 ∨ RR A B C D = 8 ∨ RR A B C D = 9 ∨ RR A B C D = 10 ∨ RR A B C D = 11 ∨ RR A B C D = 12 ∨ RR A B C D = 13 := by omega
    rcases h' with h | h | h | h | h | h | h | h | h | h | h | h | h
    · rw [h]; exact three_1 a1 b1 c1 h
    · rw [h]; exact three_2 a1 b1 c1 h
    · rw [h]; exact three_3 a1 b1 c1 h
    · rw [h]; exact three_4 a1 b1 c1 h
    · rw [h]; exact three_5 a1 b1 c1 h
    · rw [h]; exact three_6 a1 b1 c1 h
    · rw [h]; exact three_7 a1 b1 c1 h
    · rw [h]; exact three_8 a1 b1 c1 h
    · rw [h]; exact three_9 a1 b1 c1 h
    · rw [h]; exact three_10 a1 b1 c1 h
    · rw [h]; exact three_11 a1 b1 c1 h
    · rw [h]; exact three_12 a1 b1 c1 h
    · rw [h]; exact three_13 a1 b1 c1 h
  have hbit : v.testBit (RR A B E F).toNat = true := by
    unfold inT at hin
    rw [hv] at hin
    simpa using hin
  rw [hv] at hcomp
  have hHas := rel_Has (m + 300) hv2 r3
  rw [hbit] at hHas
  simp only [List.length_cons, List.length_nil, i0, i1, i2, ob, List.getElem?_cons_zero, List.getElem?_cons_succ, f1, f2, f3, hcomp, bne_self_eq_false, cond_false, hHas, Bool.not_true, rel_mirror (m + 300) r1, circalaw31_run, nA, nB, nC, nD, f4, BEq.rfl, cond_true, RR_mirror a1 b1, hl]

end Go.Sh
