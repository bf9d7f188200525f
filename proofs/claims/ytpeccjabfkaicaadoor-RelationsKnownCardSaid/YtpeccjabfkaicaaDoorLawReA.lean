/- Chapter 31: the relation of two runs.
   Conditions: none. -/
import Derived.Test.YtpeccjabfkaicaaDoorLawBase
import Derived.Test.YtpeccjabfkaicaaDoorLawCond
import Derived.Test.YtpeccjabfkaicaaDoorShR
set_option linter.unusedSimpArgs false
set_option linter.unusedVariables false
namespace Go.Sh
open Go.Abs

/-- How two ends compare. -/
def cmpE (a b c d : Int) : Int := if a < c then -1 else if c < a then 1 else if b < d then -1 else if d < b then 1 else 0

theorem cmp8 (n : Nat) (a b : Int) : cmp_Compare_int8 n a b = some (if a < b then -1 else if b < a then 1 else 0) := by
  simp only [cmp_Compare_int8, cmp_isNaN_int8, ob, bne_self_eq_false, cond_false, cond_dec, gt_iff_lt]
  split <;> (try split) <;> rfl

theorem cmp64 (n : Nat) (a b : Int) : cmp_Compare_int64 n a b = some (if a < b then -1 else if b < a then 1 else 0) := by
  simp only [cmp_Compare_int64, cmp_isNaN_int64, ob, bne_self_eq_false, cond_false, cond_dec, gt_iff_lt]
  split <;> (try split) <;> rfl

theorem cmpOr (m : Nat) (x y : Int) : cmp_Or_int (m + 3) [x, y] = some (if x = 0 then y else x) := by
  have w1 : IntKind.wrap .i64 (0 + 1) = 1 := by decide
  have w2 : IntKind.wrap .i64 (1 + 1) = 2 := by decide
  have h1 : ix 2 0 = some 0 := by decide
  have h2 : ix 2 1 = some 1 := by decide
  simp only [cmp_Or_int, iterL, cmp_Or_int_l0, List.length_cons, List.length_nil, h1, h2, ob, List.getElem?_cons_zero, List.getElem?_cons_succ, cond_bne, w1, w2]
  by_cases hx : x = 0
  · subst hx
    by_cases hy : y = 0
    · subst hy; rfl
    · simp [hy, h2]
  · simp [hx]

theorem ends_cmp (m : Nat) (a b c d : Int) : ends_Compare (m + 3) a b c d = some (cmpE a b c d) := by
  simp only [ends_Compare, cmp8, cmp64, ob, cmpOr, cmpE]
  by_cases h1 : a < c
  · simp [h1]
  · by_cases h2 : c < a
    · simp [h1, h2]
    · simp [h1, h2]

/-- A run that is right. -/
def okR (a b c d : Int) : Prop := (a = 0 ∨ a = -1) ∧ (a ≠ 0 → b = 0) ∧ (c = 0 ∨ c = 1) ∧ (c ≠ 0 → d = 0) ∧ (a = 0 → c = 0 → b ≤ d)

instance (a b c d : Int) : Decidable (okR a b c d) := by unfold okR; infer_instance

theorem ends_chk (n : Nat) (a b : Int) : ends_Check n a b = some (if a = 0 ∨ (a = 1 ∧ b = 0) ∨ (a = -1 ∧ b = 0) then 0 else 5) := by
  simp only [ends_Check, cond_and, Bool.and_true, cond_beq]
  by_cases h0 : a = 0
  · simp [h0]
  · by_cases h1 : a = 1
    · subst h1; by_cases hb : b = 0 <;> simp [hb]
    · by_cases h2 : a = -1
      · subst h2; by_cases hb : b = 0 <;> simp [hb]
      · simp [h0, h1, h2]

theorem runs_chk (m : Nat) (a b c d : Int) : ∃ e, runs_Check (m + 3) a b c d = some e ∧ (e = 0 ↔ okR a b c d) := by
  simp only [runs_Check, ends_chk, ob, ends_cmp, cond_bne, cond_dec]
  by_cases h1 : a = 0 ∨ (a = 1 ∧ b = 0) ∨ (a = -1 ∧ b = 0)
  · rw [if_pos h1]
    by_cases h2 : c = 0 ∨ (c = 1 ∧ d = 0) ∨ (c = -1 ∧ d = 0)
    · rw [if_pos h2]
      simp only [if_true]
      by_cases h3 : a > 0
      · rw [if_pos h3]; exact ⟨4, rfl, by unfold okR; omega⟩
      · rw [if_neg h3]
        by_cases h4 : c < 0
        · rw [if_pos h4]; exact ⟨4, rfl, by unfold okR; omega⟩
        · rw [if_neg h4]
          by_cases h5 : cmpE a b c d > 0
          · rw [if_pos h5]
            refine ⟨12, rfl, ?_⟩
            unfold cmpE at h5
            unfold okR
            split at h5
            · omega
            · split at h5
              · omega
              · split at h5
                · omega
                · split at h5 <;> omega
          · rw [if_neg h5]
            refine ⟨0, rfl, ?_⟩
            unfold cmpE at h5
            unfold okR
            split at h5
            · omega
            · split at h5
              · omega
              · split at h5
                · omega
                · split at h5 <;> omega
    · rw [if_neg h2]; exact ⟨5, by simp, by unfold okR; omega⟩
  · rw [if_neg h1]; exact ⟨5, by simp, by unfold okR; omega⟩

theorem ref_end (n : Nat) (a b : Int) : circaref31_End n a b = some (if a < -1 ∨ a > 1 ∨ (a ≠ 0 ∧ b ≠ 0) then 0 else 1) := by
  simp only [circaref31_End, cond_dec, cond_bne]
  by_cases h1 : a < -1
  · simp [h1]
  · by_cases h2 : a > 1
    · simp [h1, h2]
    · by_cases h3 : a = 0
      · simp [h1, h2, h3]
      · by_cases h4 : b = 0 <;> simp [h1, h2, h3, h4]

/-- Is an end less than another one? -/
def lessP (a b c d : Int) : Prop := a < c ∨ (a = 0 ∧ c = 0 ∧ b < d)
instance (a b c d : Int) : Decidable (lessP a b c d) := by unfold lessP; infer_instance

theorem ref_less (n : Nat) (a b c d : Int) : circaref31_less n a b c d = some (if lessP a b c d then 1 else 0) := by
  simp only [circaref31_less, cond_dec, cond_beq, lessP]
  by_cases h1 : a < c
  · simp [h1]
  · by_cases h2 : a = 0
    · by_cases h3 : c = 0
      · by_cases h4 : b < d <;> simp [h1, h2, h3, h4]
      · simp [h1, h2, h3]; split <;> rfl
    · simp [h1, h2]

theorem ref_run (n : Nat) (a b c d : Int) : circaref31_Run n a b c d = some (if okR a b c d then 1 else 0) := by
  simp only [circaref31_Run, ref_end, ref_less, ob, cond_beq]
  by_cases h1 : a < -1 ∨ a > 1 ∨ (a ≠ 0 ∧ b ≠ 0)
  · rw [if_pos h1]
    have : ¬ okR a b c d := by unfold okR; omega
    simp [this, wrap_i64 (0 : Int) (by decide) (by decide)]
  · rw [if_neg h1]
    by_cases h2 : c < -1 ∨ c > 1 ∨ (c ≠ 0 ∧ d ≠ 0)
    · rw [if_pos h2]
      have : ¬ okR a b c d := by unfold okR; omega
      simp [this, wrap_i64 (0 : Int) (by decide) (by decide)]
    · rw [if_neg h2]
      have hw : IntKind.wrap .i64 (1 * 1) = 1 := by decide
      simp only [hw]
      by_cases h3 : a = 1
      · have : ¬ okR a b c d := by unfold okR; omega
        subst h3; simp [this]

      · by_cases h4 : c = -1
        · have : ¬ okR a b c d := by unfold okR; omega
          subst h4; simp [h3, this]

        · by_cases h5 : lessP c d a b
          · have : ¬ okR a b c d := by unfold lessP at h5; unfold okR; omega
            simp [h3, h4, h5, this]
          · have : okR a b c d := by unfold lessP at h5; unfold okR; omega
            simp [h3, h4, h5, this]

/-- Ahead: before, or meets. -/
def aheadF (c d e f : Int) : Int := if cmpE c d e f ≥ 0 then 0 else if c = 0 ∧ e = 0 ∧ d = f - 1 then 2 else 1

/-- A day is an int64. -/
def i64 (x : Int) : Prop := -9223372036854775808 ≤ x ∧ x < 9223372036854775808

theorem rel_ahead (m : Nat) (a b c d e f g h : Int) (hd : i64 d) (hf : i64 f) : relations_ahead (m + 3) a b c d e f g h = some (aheadF c d e f) := by
  unfold i64 at hd hf
  simp only [relations_ahead, ends_cmp, ob, cond_dec, cond_beq, aheadF]
  by_cases h1 : cmpE c d e f ≥ 0
  · simp [h1]
  · simp only [h1, if_false]
    by_cases h2 : c = 0
    · by_cases h3 : e = 0
      · have h4 : d < f := by
          unfold cmpE at h1
          subst h2 h3
          simp at h1
          split at h1 <;> omega
        rw [wrap_i64 (f - 1) (by omega) (by omega)]
        by_cases h5 : d = f - 1 <;> simp [h2, h3, h5]
      · simp [h2, h3]
    · simp [h2]

/-- The relation of two right runs, by what holds of their ends: x < y stands for lessP. -/
def relF (a b c d e f g h : Int) : Int :=
  if aheadF c d e f ≠ 0 then aheadF c d e f else if aheadF g h a b ≠ 0 then 14 - aheadF g h a b
  else if cmpE a b e f < 0 then (if cmpE c d g h < 0 then 3 else if cmpE c d g h = 0 then 8 else 9)
  else if cmpE a b e f = 0 then (if cmpE c d g h < 0 then 4 else if cmpE c d g h = 0 then 7 else 10)
  else (if cmpE c d g h < 0 then 5 else if cmpE c d g h = 0 then 6 else 11)

theorem cmpE_cases (a b c d : Int) : cmpE a b c d = -1 ∨ cmpE a b c d = 0 ∨ cmpE a b c d = 1 := by
  unfold cmpE
  split
  · simp
  · split
    · simp
    · split
      · simp
      · split <;> simp

theorem ahead_cases (c d e f : Int) : aheadF c d e f = 0 ∨ aheadF c d e f = 1 ∨ aheadF c d e f = 2 := by
  unfold aheadF
  split
  · simp
  · split <;> simp

theorem rel_of (m : Nat) (a b c d e f g h : Int) (hb : i64 b) (hd : i64 d) (hf : i64 f) (hh : i64 h) : relations_of (m + 3) a b c d e f g h = some (relF a b c d e f g h) := by
  simp only [relations_of, rel_ahead m a b c d e f g h hd hf, rel_ahead m e f g h a b c d hh hb, ob, ends_cmp, cond_bne, relF]
  rcases ahead_cases c d e f with h1 | h1 | h1
  · simp only [h1, if_true]
    rcases ahead_cases g h a b with h2 | h2 | h2
    · simp only [h2, if_true]
      have i0 : ix 3 (IntKind.wrap .i64 (1 + -1)) = some 0 := by decide
      have i1 : ix 3 (IntKind.wrap .i64 (1 + 0)) = some 1 := by decide
      have i2 : ix 3 (IntKind.wrap .i64 (1 + 1)) = some 2 := by decide
      rcases cmpE_cases a b e f with h3 | h3 | h3 <;> rcases cmpE_cases c d g h with h4 | h4 | h4 <;> rw [h3, h4] <;> simp only [i0, i1, i2] <;> rfl
    · rw [h2]; rfl
    · rw [h2]; rfl
  · rw [h1]; rfl
  · rw [h1]; rfl

theorem rel_Of (m : Nat) (a b c d e f g h : Int) (hb : i64 b) (hd : i64 d) (hf : i64 f) (hh : i64 h) :
    relations_Of (m + 3) a b c d e f g h = some (if okR a b c d ∧ okR e f g h then (relF a b c d e f g h, 0) else (0, 1)) := by
  obtain ⟨e1, h1, h2⟩ := runs_chk m a b c d
  obtain ⟨e2, h3, h4⟩ := runs_chk m e f g h
  simp only [relations_Of, h1, h3, ob, rel_of m a b c d e f g h hb hd hf hh, cond_bne]
  by_cases c1 : okR a b c d
  · by_cases c2 : okR e f g h
    · simp [h2.2 c1, h4.2 c2, c1, c2]
    · have : e2 ≠ 0 := fun e => c2 (h4.1 e)
      simp [h2.2 c1, c1, c2, this]
  · have : e1 ≠ 0 := fun e => c1 (h2.1 e)
    simp [c1, this]

end Go.Sh
