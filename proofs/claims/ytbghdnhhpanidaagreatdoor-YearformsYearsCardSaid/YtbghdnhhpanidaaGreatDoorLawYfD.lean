/- Chapter 14: values and spans of years.
   Conditions: none. -/
import Derived.Test.YtbghdnhhpanidaaGreatDoorLawYfC
import Derived.KernelRfl
set_option linter.unusedSimpArgs false
set_option linter.unusedVariables false
namespace Go.Sh
open Go.Abs

theorem dval_ge : ∀ (l : List UInt8) (acc : Nat), acc * 10 ^ l.length ≤ dval acc l
  | [], acc => by rw [dval_nil]; simp
  | c :: l, acc => by
    have ih := dval_ge l (dstep acc c)
    rw [dval_cons, List.length_cons, Nat.pow_succ]
    have h : acc * 10 ≤ dstep acc c := Nat.le_add_right _ _
    have h2 := Nat.mul_le_mul_right (10 ^ l.length) h
    have h3 : acc * (10 ^ l.length * 10) = acc * 10 * 10 ^ l.length := by rw [Nat.mul_comm (10 ^ l.length) 10, Nat.mul_assoc]
    omega

theorem dval_lt : ∀ (l : List UInt8) (acc k : Nat), (∀ c ∈ l, isDig c = true) → acc < 10 ^ k → dval acc l < 10 ^ (l.length + k)
  | [], acc, k, _, h => by rw [dval_nil]; simpa using h
  | c :: l, acc, k, hd, h => by
    have hc := (isDig_iff c).1 (hd c (by simp))
    have hp : (10 : Nat) ^ (k + 1) = 10 ^ k * 10 := Nat.pow_succ 10 k
    have hs : dstep acc c = acc * 10 + (c.toNat - 48) := rfl
    have ih := dval_lt l (dstep acc c) (k + 1) (fun d hd' => hd d (by simp [hd'])) (by omega)
    rw [dval_cons, List.length_cons, show l.length + 1 + k = l.length + (k + 1) by omega]
    exact ih

/-- A right year without X, as numbers. -/
structure Num (d : List UInt8) (k q : Nat) : Prop where
  dig : ∀ c ∈ d, isDig c = true
  ne : d ≠ []
  wide : d.length + k ≤ 17
  small : dval 0 d * 10 ^ k ≤ E16
  sig : q ≤ d.length + k

theorem hasX_dig {d : List UInt8} (h : ∀ c ∈ d, isDig c = true) : hasX d = false := by
  unfold hasX
  rw [List.any_eq_false]
  intro c hc he
  rw [beq_iff_eq] at he
  have := (isDig_iff c).1 (h c hc)
  rw [he] at this
  exact absurd this.2 (by decide)

theorem ok_num {g l : Bool} {d : List UInt8} {x s : Int} (h : okY g l d x s) (hX : hasX d = false) : ∃ k q : Nat, x = (k : Int) ∧ s = (q : Int) ∧ Num d k q := by
  cases l with
  | true =>
    have h : okL d x s := by simpa [okY] using h
    obtain ⟨⟨h1, h2, h3, h4, h5, h6, h7, h8⟩, h9, h10⟩ := h
    refine ⟨x.toNat, s.toNat, by omega, by omega, h1, by intro e; subst e; simp at h2, ?_, h8, by omega⟩
    cases d with
    | nil => simp at h2
    | cons c r =>
      have hc := (isDig_iff c).1 (h1 c (by simp))
      have hne : c ≠ 48 := by simpa using h4
      have hc0 : 1 ≤ dstep 0 c := by
        have : c.toNat ≠ 48 := fun e => hne (UInt8.toNat_inj.1 e)
        show 1 ≤ 0 * 10 + (c.toNat - 48)
        omega
      have hg := dval_ge r (dstep 0 c)
      rw [← dval_cons] at hg
      have h9 : 10 ^ r.length ≤ dval 0 (c :: r) := by
        have := Nat.mul_le_mul_right (10 ^ r.length) hc0
        omega
      have h11 := Nat.mul_le_mul_right (10 ^ x.toNat) h9
      rw [← Nat.pow_add] at h11
      rcases Nat.lt_or_ge (r.length + x.toNat) 17 with hlt | hge
      · simp only [List.length_cons]; omega
      · have := pow_big hge
        omega
  | false =>
    have h : okS g d x s := by simpa [okY] using h
    obtain ⟨h1, h2, h3, h4, h5, h6, h7⟩ := h
    have hd : ∀ c ∈ d, isDig c = true := by
      intro c hc
      rcases h2 c hc with h | h
      · exact h
      · exfalso
        unfold hasX at hX
        rw [List.any_eq_false] at hX
        exact hX c hc (beq_iff_eq.2 h)
    have hlt := dval_lt d 0 0 hd (by simp)
    rw [h1] at hlt
    refine ⟨0, s.toNat, by omega, by omega, hd, by intro e; subst e; simp at h1, by omega, ?_, by omega⟩
    have h4 : (10 : Nat) ^ (4 + 0) = 10000 := by decide
    unfold E16
    simp only [Nat.pow_zero, Nat.mul_one]
    omega

def val (d : List UInt8) (k : Nat) : Nat := dval 0 d * 10 ^ k

/-- The least and the greatest number with the same significant digits. -/
def spanA (d : List UInt8) (k q : Nat) : Nat × Nat := if 0 < q then (val d k / 10 ^ (d.length + k - q) * 10 ^ (d.length + k - q), min (val d k / 10 ^ (d.length + k - q) * 10 ^ (d.length + k - q) + 10 ^ (d.length + k - q) - 1) E16) else (val d k, val d k)

def sgn (g : Bool) (p : Nat × Nat) : Int × Int := if g then (-(p.2 : Int), -(p.1 : Int)) else ((p.1 : Int), (p.2 : Int))

theorem yf_Value (n : Nat) (g l : Bool) (d : List UInt8) (x s : Int) (hn : 200 < n) (hd : d.length ≤ 100) :
    yearforms_Value n g l d x s = some (if okY g l d x s ∧ hasX d = false then (if g then -((val d x.toNat : Nat) : Int) else ((val d x.toNat : Nat) : Int), 0) else (0, 6)) := by
  unfold yearforms_Value
  rw [yf_Check n g l d x s hn hd, yf_Masked]
  simp only [ob]
  by_cases h : okY g l d x s
  · rw [if_pos h]
    cases hX : hasX d with
    | true => rw [if_neg (by simp)]; rfl
    | false =>
      rw [if_pos ⟨h, rfl⟩]
      obtain ⟨k, q, rfl, rfl, hN⟩ := ok_num h hX
      rw [magn_eq n g l d k q hN.dig hN.ne (by have := hN.wide; omega) (by have := hN.wide; omega) (by omega), if_pos hN.small]
      have hs := hN.small
      unfold E16 at hs
      cases g with
      | true =>
        simp only [bne_self_eq_false, cond_false, cond_true, Int.toNat_natCast, val, if_true]
        rw [wrap_i64 _ (by omega) (by omega), Int.zero_sub]
      | false => simp [val]
  · rw [if_neg h, if_neg (fun q => h q.1)]; rfl

theorem yf_Span_num (n : Nat) (g l : Bool) (d : List UInt8) (k q : Nat) (hn : 200 < n) (hd : d.length ≤ 100) (h : okY g l d (k : Int) (q : Int)) (hN : Num d k q) :
    yearforms_Span n g l d (k : Int) (q : Int) = some ((sgn g (spanA d k q)).1, (sgn g (spanA d k q)).2, 0) := by
  have hw := hN.wide
  have hs := hN.small
  have hq := hN.sig
  unfold yearforms_Span
  rw [yf_Check n g l d k q hn hd, yf_Masked, if_pos h, hasX_dig hN.dig, magn_eq n g l d k q hN.dig hN.ne (by omega) (by omega) (by omega), if_pos hs]
  have hv : dval 0 d * 10 ^ k = val d k := rfl
  rw [hv] at hs ⊢
  unfold E16 at hs
  simp only [ob, bne_self_eq_false, cond_false]
  by_cases h0 : 0 < q
  · have e0 : decide ((q : Int) > 0) = true := decide_eq_true (by omega)
    have w0 : IntKind.wrap .i64 (IntKind.wrap .i64 (((d.length : Nat) : Int) + (k : Int)) - (q : Int)) = ((d.length + k - q : Nat) : Int) := by
      rw [wrap_i64 (((d.length : Nat) : Int) + (k : Int)) (by omega) (by omega), wrap_i64 _ (by omega) (by omega)]
      omega
    rw [e0, w0, pow10_eq n (d.length + k - q) (by omega) (by omega)]
    simp only [cond_true]
    have hu : 1 ≤ 10 ^ (d.length + k - q) := Nat.one_le_pow _ _ (by decide)
    have hu2 : 10 ^ (d.length + k - q) ≤ 10 ^ 16 := Nat.pow_le_pow_right (by decide) (by omega)
    have h16 : (10 : Nat) ^ 16 = 10000000000000000 := by decide
    unfold sgn spanA
    rw [if_pos h0]
    generalize 10 ^ (d.length + k - q) = u at *
    generalize val d k = v at *
    have d1 : decide ((1 : Int) > ((u : Nat) : Int)) = false := decide_eq_false (by omega)
    have d2 : (((u : Nat) : Int) == 0) = false := beq_eq_false_iff_ne.2 (by omega)
    have hdiv : Int.tdiv ((v : Nat) : Int) ((u : Nat) : Int) = ((v / u : Nat) : Int) := rfl
    have hle : v / u * u ≤ v := Nat.div_mul_le_self v u
    have hle2 : v / u ≤ v := Nat.div_le_self v u
    have w1 : IntKind.wrap .i64 ((v / u : Nat) : Int) = ((v / u : Nat) : Int) := by
      generalize v / u = t at *
      exact wrap_i64 _ (by omega) (by omega)
    have w2 : IntKind.wrap .i64 (((v / u : Nat) : Int) * ((u : Nat) : Int)) = ((v / u * u : Nat) : Int) := by
      rw [← Int.natCast_mul]; exact wrap_i64 _ (by omega) (by omega)
    rw [d1, cond_false, d2, cond_false, hdiv, w1, w2]
    generalize v / u * u = lo at *
    have w3 : IntKind.wrap .i64 (IntKind.wrap .i64 (((lo : Nat) : Int) + ((u : Nat) : Int)) - 1) = ((lo + u - 1 : Nat) : Int) := by
      rw [wrap_i64 (((lo : Nat) : Int) + ((u : Nat) : Int)) (by omega) (by omega), wrap_i64 _ (by omega) (by omega)]
      omega
    rw [w3]
    have hmin : (cond (decide ((10000000000000000 : Int) < ((lo + u - 1 : Nat) : Int))) (10000000000000000 : Int) ((lo + u - 1 : Nat) : Int)) = ((min (lo + u - 1) E16 : Nat) : Int) := by
      unfold E16
      by_cases hm : (10000000000000000 : Int) < ((lo + u - 1 : Nat) : Int)
      · rw [decide_eq_true hm, cond_true]; omega
      · rw [decide_eq_false hm, cond_false]; omega
    rw [hmin]
    have hmE : min (lo + u - 1) E16 ≤ 10000000000000000 := Nat.min_le_right _ _
    generalize min (lo + u - 1) E16 = hi at *
    cases g with
    | true =>
      simp only [cond_true, if_true]
      rw [wrap_i64 _ (by omega) (by omega), wrap_i64 _ (by omega) (by omega), Int.zero_sub, Int.zero_sub]
    | false => simp
  · have e0 : decide ((q : Int) > 0) = false := decide_eq_false (by omega)
    rw [e0, cond_false]
    unfold sgn spanA
    rw [if_neg h0]
    cases g with
    | true =>
      simp only [cond_true, if_true]
      rw [wrap_i64 _ (by omega) (by omega), Int.zero_sub]
    | false => simp

theorem ref_Span_num (n : Nat) (g l : Bool) (d : List UInt8) (k q : Nat) (hn : 200 < n) (hd : d.length ≤ 100) (hN : Num d k q) :
    circaref14_Span n g l d (k : Int) (q : Int) = some (sgn g (spanA d k q)) := by
  have hw := hN.wide
  have hs := hN.small
  have hq := hN.sig
  unfold circaref14_Span
  rw [ref_Masked n g l d k q (by omega) (by omega), hasX_dig hN.dig, refMagn_eq n d k hN.dig hd (by omega) (by omega), if_pos hs]
  have hv : dval 0 d * 10 ^ k = val d k := rfl
  rw [hv] at hs ⊢
  unfold E16 at hs
  have z01 : ((if false = true then (1 : Int) else 0) == 1) = false := rfl
  simp only [ob, z01, cond_false]
  by_cases h0 : 0 < q
  · have e0 : decide ((q : Int) > 0) = true := decide_eq_true (by omega)
    have w0 : IntKind.wrap .i64 (IntKind.wrap .i64 (((d.length : Nat) : Int) + (k : Int)) - (q : Int)) = ((d.length + k - q : Nat) : Int) := by
      rw [wrap_i64 (((d.length : Nat) : Int) + (k : Int)) (by omega) (by omega), wrap_i64 _ (by omega) (by omega)]
      omega
    have hu2 : 10 ^ (d.length + k - q) ≤ 10 ^ 16 := Nat.pow_le_pow_right (by decide) (by omega)
    have h16 : (10 : Nat) ^ 16 = 10000000000000000 := by decide
    have one : dval 0 [49] = 1 := by decide
    have hone : dval 0 [49] * 10 ^ (d.length + k - q) ≤ E16 := by rw [one]; unfold E16; omega
    rw [e0, w0, refMagn_eq n [49] (d.length + k - q) (by decide) (by decide) (by omega) (by simp; omega), if_pos hone, one, Nat.one_mul]
    simp only [cond_true]
    have hu : 1 ≤ 10 ^ (d.length + k - q) := Nat.one_le_pow _ _ (by decide)
    unfold sgn spanA
    rw [if_pos h0]
    clear hone
    generalize 10 ^ (d.length + k - q) = u at *
    generalize val d k = v at *
    have d2 : (((u : Nat) : Int) == 0) = false := beq_eq_false_iff_ne.2 (by omega)
    have hdiv : Int.tdiv ((v : Nat) : Int) ((u : Nat) : Int) = ((v / u : Nat) : Int) := rfl
    have hle : v / u * u ≤ v := Nat.div_mul_le_self v u
    have hle2 : v / u ≤ v := Nat.div_le_self v u
    have w1 : IntKind.wrap .i64 ((v / u : Nat) : Int) = ((v / u : Nat) : Int) := by
      generalize v / u = t at *
      exact wrap_i64 _ (by omega) (by omega)
    have w2 : IntKind.wrap .i64 (((v / u : Nat) : Int) * ((u : Nat) : Int)) = ((v / u * u : Nat) : Int) := by
      rw [← Int.natCast_mul]; exact wrap_i64 _ (by omega) (by omega)
    rw [d2, cond_false, hdiv, w1, w2]
    generalize v / u * u = lo at *
    have w3 : IntKind.wrap .i64 (IntKind.wrap .i64 (((lo : Nat) : Int) + ((u : Nat) : Int)) - 1) = ((lo + u - 1 : Nat) : Int) := by
      rw [wrap_i64 (((lo : Nat) : Int) + ((u : Nat) : Int)) (by omega) (by omega), wrap_i64 _ (by omega) (by omega)]
      omega
    rw [w3]
    have hmin : (cond (decide ((10000000000000000 : Int) < ((lo + u - 1 : Nat) : Int))) (10000000000000000 : Int) ((lo + u - 1 : Nat) : Int)) = ((min (lo + u - 1) E16 : Nat) : Int) := by
      unfold E16
      by_cases hm : (10000000000000000 : Int) < ((lo + u - 1 : Nat) : Int)
      · rw [decide_eq_true hm, cond_true]; omega
      · rw [decide_eq_false hm, cond_false]; omega
    rw [hmin]
    have hmE : min (lo + u - 1) E16 ≤ 10000000000000000 := Nat.min_le_right _ _
    generalize min (lo + u - 1) E16 = hi at *
    cases g with
    | true =>
      simp only [cond_true, if_true]
      rw [wrap_i64 _ (by omega) (by omega), wrap_i64 _ (by omega) (by omega), Int.zero_sub, Int.zero_sub]
    | false => simp
  · have e0 : decide ((q : Int) > 0) = false := decide_eq_false (by omega)
    rw [e0, cond_false]
    unfold sgn spanA
    rw [if_neg h0]
    cases g with
    | true =>
      simp only [cond_true, if_true]
      rw [wrap_i64 _ (by omega) (by omega), Int.zero_sub]
    | false => simp

end Go.Sh
