/- Chapter 14: the law of years.
   Conditions: none. -/
import Derived.Test.YtbghdnhhpanidaaGreatDoorLawYfN
set_option linter.unusedSimpArgs false
set_option linter.unusedVariables false
set_option maxRecDepth 20000
namespace Go.Sh
open Go.Abs

theorem span_signs (d : List UInt8) (x s : Int) : (spanY true d x s).2 = (spanY false d x s).2 ∧ ((spanY true d x s).1 = (spanY false d x s).1 ∨ ((spanY false d x s).1 = 0 ∧ hasX d = true)) := by
  unfold spanY
  cases hX : hasX d with
  | true =>
    simp only [if_true]
    unfold spanX
    refine ⟨rfl, ?_⟩
    have hf : ¬ (false = true ∧ dval 0 (fillv 48 d) = 0) := by simp
    simp only
    rw [if_neg hf]
    by_cases h0 : dval 0 (fillv 48 d) = 0
    · exact .inr ⟨h0, trivial⟩
    · rw [if_neg (fun q => h0 q.2)]; exact .inl rfl
  | false =>
    simp only [Bool.false_eq_true, if_false]
    exact ⟨trivial, .inl trivial⟩

theorem years_rest (m : Nat) {g l : Bool} {d : List UInt8} {x s : Int} (hok : okY g l d x s) :
    (ob (yearforms_Span (m + 300) (!g) l d x s) fun r245 => (cond (r245.2.2 != 0) (ob (circaref14_Check (m + 300) (!g) l d x s) fun r246 => (cond (r246 == 0) (ob (circalaw14_lives (m + 300)) fun r395 => (some r395)) (some false))) (cond g (cond (decide ((sgn g (spanY g d x s)).2 ≤ 0)) (cond ((sgn g (spanY g d x s)).1 == (IntKind.wrap .i64 (0 - r245.2.1))) (cond ((sgn g (spanY g d x s)).2 == (IntKind.wrap .i64 (0 - r245.1))) (ob (circalaw14_lives (m + 300)) fun r396 => (some r396)) (cond (r245.1 == 0) (ob (circaref14_Masked (m + 300) g l d x s) fun r397 => (cond (r397 == 1) (ob (circalaw14_lives (m + 300)) fun r398 => (some r398)) (some false))) (some false))) (some false)) (some false)) (cond (decide (r245.2.1 ≤ 0)) (cond (r245.1 == (IntKind.wrap .i64 (0 - (sgn g (spanY g d x s)).2))) (cond (r245.2.1 == (IntKind.wrap .i64 (0 - (sgn g (spanY g d x s)).1))) (ob (circalaw14_lives (m + 300)) fun r399 => (some r399)) (cond ((sgn g (spanY g d x s)).1 == 0) (ob (circaref14_Masked (m + 300) g l d x s) fun r400 => (cond (r400 == 1) (ob (circalaw14_lives (m + 300)) fun r401 => (some r401)) (some false))) (some false))) (some false)) (some false))))) = some true := by
  have hsm := ok_small hok
  have hn := yf_Span m (!g) l d x s (by omega)
  have hM := ref_Masked (m + 300) g l d x s (by omega) (by omega)
  rw [hn, yf_lives m]
  by_cases hno : okY (!g) l d x s
  · rw [if_pos hno]
    obtain ⟨p1, p2, _⟩ := spanY_ok hok
    obtain ⟨q1, q2, _⟩ := spanY_ok hno
    obtain ⟨e1, e2⟩ := span_signs d x s
    simp only [ob, bne_self_eq_false, cond_false]
    cases g with
    | true =>
      simp only [Bool.not_true, sgn, if_true, Bool.false_eq_true, if_false, cond_true] at *
      rw [e1] at p2 ⊢
      generalize (spanY true d x s).1 = lo1 at *
      generalize (spanY false d x s).1 = lo0 at *
      generalize (spanY false d x s).2 = hi at *
      have c1 : decide (-((lo1 : Nat) : Int) ≤ 0) = true := decide_eq_true (by omega)
      have w1 : IntKind.wrap .i64 (0 - ((hi : Nat) : Int)) = -((hi : Nat) : Int) := by rw [wrap_i64 _ (by omega) (by omega)]; omega
      have w2 : IntKind.wrap .i64 (0 - ((lo0 : Nat) : Int)) = -((lo0 : Nat) : Int) := by rw [wrap_i64 _ (by omega) (by omega)]; omega
      rw [c1, w1, w2]
      simp only [cond_true, BEq.rfl]
      rcases e2 with rfl | ⟨rfl, hX⟩
      · simp
      · by_cases h0 : lo1 = 0
        · subst h0; simp
        · have e : (-((lo1 : Nat) : Int) == -((0 : Nat) : Int)) = false := beq_eq_false_iff_ne.2 (by omega)
          have hMt : circaref14_Masked (m + 300) true l d x s = some 1 := by rw [hM, hX]; rfl
          rw [e, hMt]
          rfl
    | false =>
      simp only [Bool.not_false, sgn, if_true, Bool.false_eq_true, if_false, cond_false] at *
      rw [e1] at q2 ⊢
      generalize (spanY true d x s).1 = lo1 at *
      generalize (spanY false d x s).1 = lo0 at *
      generalize (spanY false d x s).2 = hi at *
      have c1 : decide (-((lo1 : Nat) : Int) ≤ 0) = true := decide_eq_true (by omega)
      have w1 : IntKind.wrap .i64 (0 - ((hi : Nat) : Int)) = -((hi : Nat) : Int) := by rw [wrap_i64 _ (by omega) (by omega)]; omega
      have w2 : IntKind.wrap .i64 (0 - ((lo0 : Nat) : Int)) = -((lo0 : Nat) : Int) := by rw [wrap_i64 _ (by omega) (by omega)]; omega
      rw [c1, w1, w2]
      simp only [cond_true, BEq.rfl]
      rcases e2 with rfl | ⟨rfl, hX⟩
      · simp
      · by_cases h0 : lo1 = 0
        · subst h0; simp
        · have e : (-((lo1 : Nat) : Int) == -((0 : Nat) : Int)) = false := beq_eq_false_iff_ne.2 (by omega)
          have hMt : circaref14_Masked (m + 300) false l d x s = some 1 := by rw [hM, hX]; rfl
          rw [e, hMt]
          rfl
  · have hc := ref_Check (m + 300) (!g) l d x s (by omega) (by omega)
    rw [if_neg hno] at hc ⊢
    rw [hc]
    rfl

theorem yearformsYears_ok (m : Nat) (a0 a2 a3 a4 : Nat) (g : Bool) (v : Int) (h2 : a2 < 65536) (h3 : a3 < 256) (h4 : a4 < 256) : circalaw14_YearformsYears (m + 300) (a0 : Int) g (a2 : Int) (a3 : Int) (a4 : Int) v = some true := by
  obtain ⟨g, l, d, x, s, ho, hok⟩ := of_ok m a0 a2 a3 a4 g h2 h3 h4
  have hsm := ok_small hok
  have hrest := years_rest m hok
  have hsp := yf_Span m g l d x s (by omega)
  rw [if_pos hok] at hsp
  have hin := ref_In m hok
  obtain ⟨i1, i2, i3⟩ := in_span hok
  have b1 := i1.1
  have b2 := i1.2.1
  have b3 := i2.1
  have b4 := i2.2.1
  have hless := fun h : s > 1 => sig_less hok h
  have hspl := fun h : s > 1 => yf_Span m g l d x (s - 1) (by omega)
  simp only [ob] at hrest
  unfold circalaw14_YearformsYears
  rw [ho]
  simp only [ob]
  rw [hsp]
  have hsgn : s > 1 → (sgn g (spanY g d x (s - 1))).1 ≤ (sgn g (spanY g d x s)).1 ∧ (sgn g (spanY g d x s)).2 ≤ (sgn g (spanY g d x (s - 1))).2 := by
    intro h
    have := (hless h).2
    unfold sgn
    cases g with
    | true => simp only [if_true]; omega
    | false => simp only [Bool.false_eq_true, if_false]; omega
  generalize (sgn g (spanY g d x s)).1 = A at *
  generalize (sgn g (spanY g d x s)).2 = B at *
  have hA : circaref14_In (m + 300) g l d x s A = some 1 := by rw [hin, if_pos i1]
  have hB : circaref14_In (m + 300) g l d x s B = some 1 := by rw [hin, if_pos i2]
  have wA : IntKind.wrap .i64 (A - 1) = A - 1 := wrap_i64 _ (by omega) (by omega)
  have wB : IntKind.wrap .i64 (B + 1) = B + 1 := wrap_i64 _ (by omega) (by omega)
  have hA1 : circaref14_In (m + 300) g l d x s (A - 1) = some 0 := by rw [hin, if_neg (fun q => by have := i3 _ q; omega)]
  have hB1 : circaref14_In (m + 300) g l d x s (B + 1) = some 0 := by rw [hin, if_neg (fun q => by have := i3 _ q; omega)]
  have z10 : ((1 : Int) == 0) = false := rfl
  have z01 : ((0 : Int) == 1) = false := rfl
  have hV := hin v
  simp only [bne_self_eq_false, cond_false, hA, hB, z10, wA, wB, hA1, hB1, z01]
  have rest2 : (cond (decide (s > 1)) (ob (yearforms_Span (m + 300) g l d x (IntKind.wrap .i64 (s - 1))) fun r244 => (cond (r244.2.2 != 0) (some false) (cond (decide (r244.1 > A)) (some false) (cond (decide (r244.2.1 < B)) (some false) (some true))))) (some true)) = some true := by
    by_cases hs : s > 1
    · have ws : IntKind.wrap .i64 (s - 1) = s - 1 := wrap_i64 _ (by omega) (by omega)
      have c1 := hsgn hs
      have d1 : decide ((sgn g (spanY g d x (s - 1))).1 > A) = false := decide_eq_false (by omega)
      have d2 : decide ((sgn g (spanY g d x (s - 1))).2 < B) = false := decide_eq_false (by omega)
      rw [decide_eq_true hs, ws, hspl hs, if_pos (hless hs).1]
      simp only [ob, cond_true, bne_self_eq_false, cond_false, d1, d2]
    · rw [decide_eq_false hs]; rfl
  simp only [ob] at rest2
  rw [hV]
  by_cases hv : inP g d x s v
  · rw [if_pos hv]
    have c1 := i3 v hv
    have d1 : decide (v < A) = false := decide_eq_false (by omega)
    have d2 : decide (v > B) = false := decide_eq_false (by omega)
    have z11 : ((1 : Int) == 1) = true := rfl
    simp only [z11, cond_true, d1, d2, cond_false, hrest, rest2]
    cases decide (A > -10000000000000000) <;> cases decide (B < 10000000000000000) <;> rfl
  · rw [if_neg hv]
    simp only [z01, cond_false, hrest, rest2]
    cases decide (A > -10000000000000000) <;> cases decide (B < 10000000000000000) <;> rfl

end Go.Sh
