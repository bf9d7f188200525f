/- Chapter 31: two right runs have just one relation; the definition finds the same one.
   Conditions: none. -/
import Derived.Test.YtpeccjabfkaicaaDoorLawReA
set_option linter.unusedSimpArgs false
set_option linter.unusedVariables false
namespace Go.Sh
open Go.Abs

/-- An end as a number: the infinite ones are beyond all days. -/
def key (a b : Int) : Int := if a = 0 then b else if a < 0 then -18446744073709551616 else 18446744073709551616

def okE (a b : Int) : Prop := a = 0 ∨ ((a = 1 ∨ a = -1) ∧ b = 0)

theorem key_cmp {a b c d : Int} (h1 : okE a b) (h2 : okE c d) (hb : i64 b) (hd : i64 d) : cmpE a b c d = if key a b < key c d then -1 else if key c d < key a b then 1 else 0 := by
  unfold okE at h1 h2
  unfold i64 at hb hd
  rcases h1 with rfl | ⟨rfl | rfl, rfl⟩ <;> rcases h2 with rfl | ⟨rfl | rfl, rfl⟩ <;> simp only [cmpE, key] <;> simp <;> first | done | omega

theorem key_less {a b c d : Int} (h1 : okE a b) (h2 : okE c d) (hb : i64 b) (hd : i64 d) : lessP a b c d ↔ key a b < key c d := by
  unfold okE at h1 h2
  unfold i64 at hb hd
  rcases h1 with rfl | ⟨rfl | rfl, rfl⟩ <;> rcases h2 with rfl | ⟨rfl | rfl, rfl⟩ <;> simp only [lessP, key] <;> simp <;> first | done | omega

def sameP (a b c d : Int) : Prop := a = c ∧ (a ≠ 0 ∨ b = d)
instance (a b c d : Int) : Decidable (sameP a b c d) := by unfold sameP; infer_instance

theorem key_same {a b c d : Int} (h1 : okE a b) (h2 : okE c d) (hb : i64 b) (hd : i64 d) : sameP a b c d ↔ key a b = key c d := by
  unfold okE at h1 h2
  unfold i64 at hb hd
  rcases h1 with rfl | ⟨rfl | rfl, rfl⟩ <;> rcases h2 with rfl | ⟨rfl | rfl, rfl⟩ <;> simp only [sameP, key] <;> simp <;> first | done | omega

theorem okR_ends {a b c d : Int} (h : okR a b c d) : okE a b ∧ okE c d := by
  unfold okR at h
  unfold okE
  omega

theorem okR_le {a b c d : Int} (h : okR a b c d) (hb : i64 b) (hd : i64 d) : key a b ≤ key c d := by
  unfold okR at h
  unfold i64 at hb hd
  unfold key
  split <;> split <;> (try split) <;> (try split) <;> omega

/-- The relation of two runs of numbers. -/
def RR (A B C D : Int) : Int :=
  if B < C then (if B + 1 = C then 2 else 1) else if D < A then (if D + 1 = A then 12 else 13)
  else if A < C then (if B < D then 3 else if D < B then 9 else 8)
  else if C < A then (if B < D then 5 else if D < B then 11 else 6)
  else (if B < D then 4 else if D < B then 10 else 7)

theorem ahead_key {c d e f : Int} (h1 : c = 0 ∨ (c = 1 ∧ d = 0)) (h2 : e = 0 ∨ (e = -1 ∧ f = 0)) (hd : i64 d) (hf : i64 f) : aheadF c d e f = if key c d < key e f then (if key c d + 1 = key e f then 2 else 1) else 0 := by
  have e1 : okE c d := by unfold okE; omega
  have e2 : okE e f := by unfold okE; omega
  unfold aheadF
  rw [key_cmp e1 e2 hd hf]
  unfold i64 at hd hf
  rcases h1 with rfl | ⟨rfl, rfl⟩ <;> rcases h2 with rfl | ⟨rfl, rfl⟩ <;> simp only [key] <;> simp
  rotate_left
  · have g1 : ¬ d < -18446744073709551616 := by omega
    have g2 : -18446744073709551616 < d := by omega
    simp [g1, g2]
  · have g1 : ¬ 18446744073709551616 < f := by omega
    have g2 : f < 18446744073709551616 := by omega
    simp [g1, g2]
  by_cases h3 : d < f
  · simp [h3]
    by_cases h4 : d = f - 1
    · rw [if_pos h4, if_pos (by omega)]
    · rw [if_neg h4, if_neg (by omega)]
  · by_cases h4 : f < d <;> simp [h3, h4]

theorem relF_key {a b c d e f g h : Int} (h1 : okR a b c d) (h2 : okR e f g h) (hb : i64 b) (hd : i64 d) (hf : i64 f) (hh : i64 h) :
    relF a b c d e f g h = RR (key a b) (key c d) (key e f) (key g h) := by
  obtain ⟨e1, e2⟩ := okR_ends h1
  obtain ⟨e3, e4⟩ := okR_ends h2
  unfold relF
  rw [ahead_key (by unfold okR at h1; omega) (by unfold okR at h2; omega) hd hf, ahead_key (by unfold okR at h2; omega) (by unfold okR at h1; omega) hh hb, key_cmp e1 e3 hb hf, key_cmp e2 e4 hd hh]
  generalize key a b = A
  generalize key c d = B
  generalize key e f = C
  generalize key g h = D
  unfold RR
  by_cases c1 : B < C
  · by_cases c2 : B + 1 = C <;> simp [c1, c2]
  · by_cases c3 : D < A
    · by_cases c4 : D + 1 = A <;> simp [c1, c3, c4]
    · simp only [c1, c3, if_false, ne_eq, not_true_eq_false]
      by_cases c5 : A < C
      · by_cases c6 : B < D
        · simp [c5, c6]
        · by_cases c7 : D < B <;> simp [c5, c6, c7]
      · by_cases c8 : C < A
        · by_cases c6 : B < D
          · simp [c5, c8, c6]
          · by_cases c7 : D < B <;> simp [c5, c8, c6, c7]
        · by_cases c6 : B < D
          · simp [c5, c8, c6]
          · by_cases c7 : D < B <;> simp [c5, c8, c6, c7]

/-- What the definition asks, one relation after another. -/
def RH (k : Int) (A B C D : Int) : Prop :=
  (k = 1 ∧ B + 1 < C) ∨ (k = 2 ∧ B + 1 = C) ∨ (k = 3 ∧ A < C ∧ C ≤ B ∧ B < D) ∨ (k = 4 ∧ A = C ∧ B < D) ∨ (k = 5 ∧ C < A ∧ B < D) ∨ (k = 6 ∧ C < A ∧ B = D) ∨ (k = 7 ∧ A = C ∧ B = D)
instance (k A B C D : Int) : Decidable (RH k A B C D) := by unfold RH; infer_instance

theorem ref_same (n : Nat) (a b c d : Int) : circaref31_same n a b c d = some (if sameP a b c d then 1 else 0) := by
  simp only [circaref31_same, cond_beq, cond_bne, sameP]
  by_cases h1 : a = c
  · by_cases h2 : a = 0
    · by_cases h3 : b = d <;> simp [h1, h2, h3]
      all_goals (subst h1; simp [h2, h3])
    · simp [h1]
      subst h1
      simp [h2]
  · simp [h1]

theorem one_of (p : Prop) [Decidable p] : (if p then (1 : Int) else 0) = 0 ∨ (if p then (1 : Int) else 0) = 1 := by
  by_cases h : p <;> simp [h]

theorem mul01 (p q : Prop) [Decidable p] [Decidable q] : IntKind.wrap .i64 ((if p then (1 : Int) else 0) * (if q then (1 : Int) else 0)) = if p ∧ q then 1 else 0 := by
  have w0 : IntKind.wrap .i64 0 = 0 := by decide
  have w1 : IntKind.wrap .i64 1 = 1 := by decide
  by_cases h : p <;> by_cases k : q <;> simp [h, k, w0, w1]

theorem sub01 (p : Prop) [Decidable p] : IntKind.wrap .i64 (1 - (if p then (1 : Int) else 0)) = if ¬ p then 1 else 0 := by
  have w0 : IntKind.wrap .i64 0 = 0 := by decide
  have w1 : IntKind.wrap .i64 1 = 1 := by decide
  by_cases h : p <;> simp [h, w0, w1]

theorem ref_holds (n : Nat) {k a b c d e f g h : Int} (h1 : okR a b c d) (h2 : okR e f g h) (hb : i64 b) (hd : i64 d) (hf : i64 f) (hh : i64 h) (hk : 1 ≤ k ∧ k ≤ 7) :
    circaref31_holds n k a b c d e f g h = some (if RH k (key a b) (key c d) (key e f) (key g h) then 1 else 0) := by
  obtain ⟨e1, e2⟩ := okR_ends h1
  obtain ⟨e3, e4⟩ := okR_ends h2
  have hle := okR_le h1 hb hd
  have hle2 := okR_le h2 hf hh
  have low : k ≤ 2 → circaref31_holds n k a b c d e f g h = some (if RH k (key a b) (key c d) (key e f) (key g h) then 1 else 0) := by
    intro hk2
    have hs : (c = 0 ∧ e = 0) ∨ (c = 1 ∨ e = -1) := by unfold okR at h1 h2; omega
    have hk3 : k = 1 ∨ k = 2 := by omega
    rcases hs with ⟨rfl, rfl⟩ | hs
    · have hkc : key 0 d = d := by simp [key]
      have hke : key 0 f = f := by simp [key]
      unfold i64 at hd hf
      by_cases hmx : d < 9223372036854775807
      · have hw : IntKind.wrap .i64 (d + 1) = d + 1 := wrap_i64 _ (by omega) (by omega)
        rcases hk3 with rfl | rfl <;> simp only [circaref31_holds, BEq.rfl, cond_true, hmx, decide_true, ref_less, ref_same, ob, hw, hkc, hke]
        · congr 1
          by_cases h5 : d + 1 < f
          · rw [if_pos (by unfold lessP; omega), if_pos (by unfold RH; omega)]
          · rw [if_neg (by unfold lessP; omega), if_neg (by unfold RH; omega)]
        · rw [show ((2 : Int) == 1) = false from rfl]
          simp only [cond_false]
          congr 1
          by_cases h5 : d + 1 = f
          · rw [if_pos (by unfold sameP; omega), if_pos (by unfold RH; omega)]
          · rw [if_neg (by unfold sameP; omega), if_neg (by unfold RH; omega)]
      · rcases hk3 with rfl | rfl <;> simp only [circaref31_holds, BEq.rfl, cond_true, hmx, decide_false, cond_false, hkc, hke]
        · rw [if_neg (by unfold RH; omega)]
        · rw [show ((2 : Int) == 1) = false from rfl]
          simp only [cond_false]
          rw [if_neg (by unfold RH; omega)]
    · have hno : ¬ RH k (key a b) (key c d) (key e f) (key g h) := by
        unfold i64 at hd hf hb hh
        rcases hs with rfl | rfl
        · have : key 1 d = 18446744073709551616 := by simp [key]
          have h6 : key e f ≤ 18446744073709551615 := by unfold okR at h2; unfold key; split <;> (try split) <;> omega
          unfold RH; omega
        · have : key (-1) f = -18446744073709551616 := by simp [key]
          have h6 : -18446744073709551615 ≤ key c d := by unfold okR at h1; unfold key; split <;> (try split) <;> omega
          unfold RH; omega
      rw [if_neg hno]
      have hce : (c == 0) = true → (e == 0) = false := by
        intro h; have := eq_of_beq h
        rw [beq_eq_false_iff_ne]; omega
      rcases hk3 with rfl | rfl <;> simp only [circaref31_holds, BEq.rfl, cond_true, show ((2 : Int) == 1) = false from rfl, cond_false] <;> cases hc : (c == 0) <;> simp only [cond_true, cond_false] <;> first | (simp [hce hc]) | (cases e == 0 <;> rfl)
  by_cases hk2 : k ≤ 2
  · exact low hk2
  have hk3 : k = 3 ∨ k = 4 ∨ k = 5 ∨ k = 6 ∨ k = 7 := by omega
  have fin : ∀ p : Prop, [Decidable p] → (p ↔ RH k (key a b) (key c d) (key e f) (key g h)) → (if p then (1 : Int) else 0) = if RH k (key a b) (key c d) (key e f) (key g h) then 1 else 0 := by
    intro p _ hp
    by_cases hx : p
    · rw [if_pos hx, if_pos (hp.1 hx)]
    · rw [if_neg hx, if_neg (fun h => hx (hp.2 h))]
  have l1 := key_less e1 e3 hb hf
  have l2 := key_less e2 e3 hd hf
  have l3 := key_less e2 e4 hd hh
  have l4 := key_less e3 e1 hf hb
  have s1 := key_same e1 e3 hb hf
  have s2 := key_same e2 e4 hd hh
  have d21 : ((3 : Int) == 1) = false ∧ ((3 : Int) == 2) = false ∧ ((4 : Int) == 1) = false ∧ ((4 : Int) == 2) = false ∧ ((4 : Int) == 3) = false ∧ ((5 : Int) == 1) = false ∧ ((5 : Int) == 2) = false ∧ ((5 : Int) == 3) = false ∧ ((5 : Int) == 4) = false := by decide
  have d22 : ((6 : Int) == 1) = false ∧ ((6 : Int) == 2) = false ∧ ((6 : Int) == 3) = false ∧ ((6 : Int) == 4) = false ∧ ((6 : Int) == 5) = false ∧ ((7 : Int) == 1) = false ∧ ((7 : Int) == 2) = false ∧ ((7 : Int) == 3) = false ∧ ((7 : Int) == 4) = false ∧ ((7 : Int) == 5) = false ∧ ((7 : Int) == 6) = false := by decide
  unfold circaref31_holds
  rcases hk3 with rfl | rfl | rfl | rfl | rfl <;> simp only [d21, d22, cond_false, cond_true, BEq.rfl, ref_less, ref_same, ob, mul01, sub01, Bool.cond_self] <;> congr 1 <;> apply fin <;> unfold RH
  · rw [l1, l2, l3]; omega
  · rw [s1, l3]; omega
  · rw [l4, l3]; omega
  · rw [l4, s2]; omega
  · rw [s1, s2]; omega

theorem RH_some {A B C D : Int} (h1 : A ≤ B) (h2 : C ≤ D) : ∃ i, 1 ≤ i ∧ i < 8 ∧ (RH i A B C D ∨ RH i C D A B) := by
  by_cases c1 : B < C
  · by_cases c2 : B + 1 = C
    · exact ⟨2, by omega, by omega, .inl (.inr (.inl ⟨rfl, c2⟩))⟩
    · exact ⟨1, by omega, by omega, .inl (.inl ⟨rfl, by omega⟩)⟩
  · by_cases c3 : D < A
    · by_cases c2 : D + 1 = A
      · exact ⟨2, by omega, by omega, .inr (.inr (.inl ⟨rfl, c2⟩))⟩
      · exact ⟨1, by omega, by omega, .inr (.inl ⟨rfl, by omega⟩)⟩
    · by_cases c4 : A < C
      · by_cases c5 : B < D
        · exact ⟨3, by omega, by omega, .inl (.inr (.inr (.inl ⟨rfl, by omega, by omega, by omega⟩)))⟩
        · by_cases c6 : B = D
          · exact ⟨6, by omega, by omega, .inr (.inr (.inr (.inr (.inr (.inr (.inl ⟨rfl, by omega, by omega⟩))))))⟩
          · exact ⟨5, by omega, by omega, .inr (.inr (.inr (.inr (.inr (.inl ⟨rfl, by omega, by omega⟩)))))⟩
      · by_cases c7 : A = C
        · by_cases c5 : B < D
          · exact ⟨4, by omega, by omega, .inl (.inr (.inr (.inr (.inl ⟨rfl, by omega, by omega⟩))))⟩
          · by_cases c6 : B = D
            · exact ⟨7, by omega, by omega, .inl (.inr (.inr (.inr (.inr (.inr (.inr ⟨rfl, by omega, by omega⟩))))))⟩
            · exact ⟨4, by omega, by omega, .inr (.inr (.inr (.inr (.inl ⟨rfl, by omega, by omega⟩))))⟩
        · by_cases c5 : B < D
          · exact ⟨5, by omega, by omega, .inl (.inr (.inr (.inr (.inr (.inl ⟨rfl, by omega, by omega⟩)))))⟩
          · by_cases c6 : B = D
            · exact ⟨6, by omega, by omega, .inl (.inr (.inr (.inr (.inr (.inr (.inl ⟨rfl, by omega, by omega⟩))))))⟩
            · exact ⟨3, by omega, by omega, .inr (.inr (.inr (.inl ⟨rfl, by omega, by omega, by omega⟩)))⟩

/-- The first relation that holds is the one that the ends tell. -/
theorem RH_is {k A B C D : Int} (h1 : A ≤ B) (h2 : C ≤ D) (h : RH k A B C D) : RR A B C D = k := by
  unfold RR
  rcases h with ⟨rfl, h⟩ | ⟨rfl, h⟩ | ⟨rfl, h, h', h''⟩ | ⟨rfl, h, h'⟩ | ⟨rfl, h, h'⟩ | ⟨rfl, h, h'⟩ | ⟨rfl, h, h'⟩
  · rw [if_pos (by omega), if_neg (by omega)]
  · rw [if_pos (by omega), if_pos (by omega)]
  · rw [if_neg (by omega), if_neg (by omega), if_pos (by omega), if_pos (by omega)]
  · rw [if_neg (by omega), if_neg (by omega), if_neg (by omega), if_neg (by omega), if_pos (by omega)]
  · rw [if_neg (by omega), if_neg (by omega), if_neg (by omega), if_pos (by omega), if_pos (by omega)]
  · rw [if_neg (by omega), if_neg (by omega), if_neg (by omega), if_pos (by omega), if_neg (by omega), if_neg (by omega)]
  · rw [if_neg (by omega), if_neg (by omega), if_neg (by omega), if_neg (by omega), if_neg (by omega), if_neg (by omega)]

theorem RR_conv {A B C D : Int} (h1 : A ≤ B) (h2 : C ≤ D) : RR C D A B = 14 - RR A B C D := by
  unfold RR
  by_cases c1 : B < C
  · by_cases c2 : B + 1 = C
    · rw [if_neg (by omega), if_pos c1, if_pos c2, if_pos c1, if_pos c2]; rfl
    · rw [if_neg (by omega), if_pos c1, if_neg c2, if_pos c1, if_neg c2]; rfl
  · by_cases c3 : D < A
    · by_cases c2 : D + 1 = A
      · rw [if_pos c3, if_pos c2, if_neg c1, if_pos c3, if_pos c2]; rfl
      · rw [if_pos c3, if_neg c2, if_neg c1, if_pos c3, if_neg c2]; rfl
    · rw [if_neg c3, if_neg c1, if_neg c1, if_neg c3]
      by_cases c4 : A < C
      · rw [if_neg (by omega), if_pos c4, if_pos c4]
        by_cases c5 : B < D
        · rw [if_neg (by omega), if_pos c5, if_pos c5]; rfl
        · rw [if_neg c5]
          by_cases c6 : D < B
          · simp [c5, c6]
          · rw [if_neg c6, if_neg c6, if_neg c5]; rfl
      · by_cases c7 : C < A
        · rw [if_pos c7, if_neg c4, if_pos c7]
          by_cases c5 : B < D
          · rw [if_neg (by omega), if_pos c5, if_pos c5]; rfl
          · rw [if_neg c5]
            by_cases c6 : D < B
            · simp [c5, c6]
            · rw [if_neg c6, if_neg c6, if_neg c5]; rfl
        · rw [if_neg c7, if_neg c4, if_neg c4, if_neg c7]
          by_cases c5 : B < D
          · rw [if_neg (by omega), if_pos c5, if_pos c5]; rfl
          · rw [if_neg c5]
            by_cases c6 : D < B
            · simp [c5, c6]
            · rw [if_neg c6, if_neg c6, if_neg c5]; rfl

theorem ref_Of (m : Nat) {a b c d e f g h : Int} (h1 : okR a b c d) (h2 : okR e f g h) (hb : i64 b) (hd : i64 d) (hf : i64 f) (hh : i64 h) :
    circaref31_Of (m + 10) a b c d e f g h = some (RR (key a b) (key c d) (key e f) (key g h)) := by
  have hle := okR_le h1 hb hd
  have hle2 := okR_le h2 hf hh
  have step : ∀ k : Int, 1 ≤ k → k ≤ 7 → circaref31_Of_l0 (m + 10) (k, a, b, c, d, e, f, g, h) =
      if RH k (key a b) (key c d) (key e f) (key g h) then some (.inr (.inl k)) else if RH k (key e f) (key g h) (key a b) (key c d) then some (.inr (.inl (14 - k))) else some (.inl (k + 1, a, b, c, d, e, f, g, h)) := by
    intro k hk1 hk7
    have w1 : IntKind.wrap .i64 (14 - k) = 14 - k := wrap_i64 _ (by omega) (by omega)
    have w2 : IntKind.wrap .i64 (k + 1) = k + 1 := wrap_i64 _ (by omega) (by omega)
    have hlt : k < 8 := by omega
    simp only [circaref31_Of_l0, hlt, decide_true, cond_true, ref_holds (m + 10) h1 h2 hb hd hf hh ⟨hk1, hk7⟩, ref_holds (m + 10) h2 h1 hf hh hb hd ⟨hk1, hk7⟩, ob, cond_beq, w1, w2]
    by_cases c1 : RH k (key a b) (key c d) (key e f) (key g h)
    · simp [c1]
    · by_cases c2 : RH k (key e f) (key g h) (key a b) (key c d) <;> simp [c1, c2]
  have go : ∀ (j : Nat) (k : Int), k + j = 8 → 1 ≤ k → (∀ i, 1 ≤ i → i < k → ¬ RH i (key a b) (key c d) (key e f) (key g h) ∧ ¬ RH i (key e f) (key g h) (key a b) (key c d)) → ∀ q, j < q →
      iterL (circaref31_Of_l0 (m + 10)) q (k, a, b, c, d, e, f, g, h) = some (.inl (RR (key a b) (key c d) (key e f) (key g h))) := by
    intro j
    induction j with
    | zero =>
      intro k hk _ hno q hq
      exfalso
      obtain ⟨i, hi1, hi2, hi3⟩ := RH_some hle hle2
      have := hno i hi1 (by omega)
      exact hi3.elim this.1 this.2
    | succ j ih =>
      intro k hk hk1 hno q hq
      obtain ⟨q, rfl⟩ : ∃ p, q = p + 1 := ⟨q - 1, by omega⟩
      simp only [iterL, step k hk1 (by omega)]
      by_cases c1 : RH k (key a b) (key c d) (key e f) (key g h)
      · rw [if_pos c1, RH_is hle hle2 c1]
      · by_cases c2 : RH k (key e f) (key g h) (key a b) (key c d)
        · rw [if_neg c1, if_pos c2]
          have h5 := RR_conv hle hle2
          rw [RH_is hle2 hle c2] at h5
          rw [show RR (key a b) (key c d) (key e f) (key g h) = 14 - k by omega]
        · rw [if_neg c1, if_neg c2]
          simp only
          refine ih (k + 1) (by omega) (by omega) (fun i hi1 hi2 => ?_) q (by omega)
          by_cases hik : i = k
          · subst hik; exact ⟨c1, c2⟩
          · exact hno i hi1 (by omega)
  unfold circaref31_Of
  rw [go 7 1 (by omega) (by omega) (fun i hi1 hi2 => by omega) (m + 10) (by omega)]
  rfl

end Go.Sh
