/- Chapter 14: the span of a year has all of its years; the law of years.
   Conditions: none. Printed by program in part. -/
import Derived.Test.YtbghdnhhpanidaaGreatDoorLawYfM
set_option linter.unusedSimpArgs false
set_option linter.unusedVariables false
set_option maxRecDepth 20000
namespace Go.Sh
open Go.Abs

def loK (d : List UInt8) (k : Nat) : Nat := dval 0 ((fillv 48 d).take k)
def hiK (d : List UInt8) (k : Nat) : Nat := dval 0 ((fillv 57 d).take k)

theorem fill_succ (z : UInt8) {d : List UInt8} {k : Nat} {c : UInt8} (h : d[k]? = some c) : dval 0 ((fillv z d).take (k + 1)) = dval 0 ((fillv z d).take k) * 10 + ((if c = 88 then z else c).toNat - 48) := by
  rw [take1 (fillv_get h), dval_app]

theorem mt_range (d : List UInt8) (hl : d.length = 4) (hd : ∀ c ∈ d, isDig c = true ∨ c = 88) : ∀ (k w : Nat), k ≤ 4 → w < 10 ^ k → mt d k w = true → loK d k ≤ w ∧ w ≤ hiK d k
  | 0, w, hk, hw, hm => by
    simp at hw
    subst hw
    simp [loK, hiK, dval_nil]
  | k + 1, w, hk, hw, hm => by
    obtain ⟨c, hc⟩ : ∃ c, d[k]? = some c := ⟨d[k], List.getElem?_eq_getElem (by omega)⟩
    rw [mt_succ, getD_get hc, Bool.and_eq_true, Bool.or_eq_true, decide_eq_true_eq, decide_eq_true_eq] at hm
    have hp : (10 : Nat) ^ (k + 1) = 10 ^ k * 10 := Nat.pow_succ 10 k
    have ih := mt_range d hl hd k (w / 10) (by omega) (by omega) hm.2
    have h1 := fill_succ 48 hc
    have h2 := fill_succ 57 hc
    unfold loK hiK at ih ⊢
    rw [h1, h2]
    by_cases hx : c = 88
    · rw [if_pos hx, if_pos hx]
      have e1 : (48 : UInt8).toNat - 48 = 0 := rfl
      have e2 : (57 : UInt8).toNat - 48 = 9 := rfl
      rw [e1, e2]
      omega
    · rw [if_neg hx, if_neg hx]
      have := hm.1.resolve_left hx
      omega

theorem mt_fill (z : UInt8) (hz : isDig z = true) (d : List UInt8) (hl : d.length = 4) (hd : ∀ c ∈ d, isDig c = true ∨ c = 88) : ∀ k, k ≤ 4 → mt d k (dval 0 ((fillv z d).take k)) = true
  | 0, _ => rfl
  | k + 1, hk => by
    obtain ⟨c, hc⟩ : ∃ c, d[k]? = some c := ⟨d[k], List.getElem?_eq_getElem (by omega)⟩
    have ih := mt_fill z hz d hl hd k (by omega)
    have hdg : isDig (if c = 88 then z else c) = true := by
      by_cases hx : c = 88
      · rw [if_pos hx]; exact hz
      · rw [if_neg hx]; exact (hd c (List.mem_of_getElem? hc)).resolve_right hx
    have hr := (isDig_iff _).1 hdg
    rw [mt_succ, getD_get hc, fill_succ z hc]
    generalize hb : (if c = 88 then z else c) = b at hr ⊢
    generalize dval 0 ((fillv z d).take k) = a at ih ⊢
    have e1 : (a * 10 + (b.toNat - 48)) / 10 = a := by omega
    have e2 : (a * 10 + (b.toNat - 48)) % 10 = b.toNat - 48 := by omega
    rw [e1, e2, ih, Bool.and_true]
    by_cases hx : c = 88
    · rw [decide_eq_true hx]; rfl
    · rw [if_neg hx] at hb
      rw [hb, decide_eq_true (show b.toNat = 48 + (b.toNat - 48) by omega), Bool.or_true]

def masks15 : List (List UInt8) := [[48, 48, 48, 88], [48, 48, 88, 48], [48, 48, 88, 88], [48, 88, 48, 48], [48, 88, 48, 88], [48, 88, 88, 48], [48, 88, 88, 88], [88, 48, 48, 48], [88, 48, 48, 88], [88, 48, 88, 48], [88, 48, 88, 88], [88, 88, 48, 48], [88, 88, 48, 88], [88, 88, 88, 48], [88, 88, 88, 88]]

theorem low15 : masks15.all (fun d => mt d 4 (lowest d) && decide (1 ≤ lowest d) && decide (lowest d ≤ 1000) && (List.range 1000).all (fun w => decide (w = 0) || !mt d 4 w || decide (lowest d ≤ w))) = true := by decide +kernel

theorem lowest_ok {d : List UInt8} (hd : d ∈ masks15) : mt d 4 (lowest d) = true ∧ 1 ≤ lowest d ∧ lowest d ≤ 1000 ∧ ∀ w, 1 ≤ w → mt d 4 w = true → lowest d ≤ w := by
  have h := List.all_eq_true.1 low15 d hd
  simp only [Bool.and_eq_true, decide_eq_true_eq, List.all_eq_true, List.mem_range, Bool.or_eq_true, Bool.not_eq_true'] at h
  obtain ⟨⟨⟨h1, h2⟩, h3⟩, h4⟩ := h
  refine ⟨h1, h2, h3, fun w hw hm => ?_⟩
  rcases Nat.lt_or_ge w 1000 with hlt | hge
  · rcases h4 w hlt with (h | h) | h
    · omega
    · rw [hm] at h; cases h
    · exact h
  · omega

theorem zero_in15 {d : List UInt8} (hl : d.length = 4) (hd : ∀ c ∈ d, isDig c = true ∨ c = 88) (hX : hasX d = true) (hz : dval 0 (fillv 48 d) = 0) : d ∈ masks15 :=
  mask_cases hl (zero_mask hl hd hz) hX (fun d => d ∈ masks15) (by decide) (by decide) (by decide) (by decide) (by decide) (by decide) (by decide) (by decide) (by decide) (by decide) (by decide) (by decide) (by decide) (by decide) (by decide)

theorem loK_all {d : List UInt8} (hl : d.length = 4) : loK d 4 = dval 0 (fillv 48 d) := by
  unfold loK; rw [List.take_of_length_le (by rw [fillv_len]; omega)]
theorem hiK_all {d : List UInt8} (hl : d.length = 4) : hiK d 4 = dval 0 (fillv 57 d) := by
  unfold hiK; rw [List.take_of_length_le (by rw [fillv_len]; omega)]

theorem spanX_ok {g : Bool} {d : List UInt8} (hl : d.length = 4) (hd : ∀ c ∈ d, isDig c = true ∨ c = 88) (hX : hasX d = true) :
    (spanX g d).1 < 10000 ∧ (spanX g d).2 < 10000 ∧ mt d 4 (spanX g d).1 = true ∧ mt d 4 (spanX g d).2 = true ∧ 1 ≤ (spanX g d).2 ∧ (g = true → 1 ≤ (spanX g d).1) ∧ ∀ w, w < 10000 → mt d 4 w = true → (g = true → 1 ≤ w) → (spanX g d).1 ≤ w ∧ w ≤ (spanX g d).2 := by
  have h4 : (10 : Nat) ^ 4 = 10000 := by decide
  have d48 := fillv_dig (z := 48) (by decide) hd
  have d57 := fillv_dig (z := 57) (by decide) hd
  have b1 := dval_lt (fillv 48 d) 0 0 d48 (by simp)
  have b2 := dval_lt (fillv 57 d) 0 0 d57 (by simp)
  rw [fillv_len, hl, Nat.add_zero, h4] at b1 b2
  have m1 := mt_fill 48 (by decide) d hl hd 4 (by omega)
  have m2 := mt_fill 57 (by decide) d hl hd 4 (by omega)
  rw [List.take_of_length_le (by rw [fillv_len]; omega)] at m1 m2
  have hr : ∀ w, w < 10000 → mt d 4 w = true → dval 0 (fillv 48 d) ≤ w ∧ w ≤ dval 0 (fillv 57 d) := fun w hw hm => by
    have := mt_range d hl hd 4 w (by omega) (by omega) hm
    rw [loK_all hl, hiK_all hl] at this
    exact this
  have hhi : 1 ≤ dval 0 (fillv 57 d) := by
    rcases Nat.eq_zero_or_pos (dval 0 (fillv 57 d)) with h0 | h0
    · exfalso
      have hz : dval 0 (fillv 48 d) = 0 := by
        have := (hr _ b1 m1).2
        omega
      have h15 := zero_in15 hl hd hX hz
      have hlow := lowest_ok h15
      have := (hr _ (by omega) hlow.1).2
      omega
    · exact h0
  unfold spanX
  by_cases hz : g = true ∧ dval 0 (fillv 48 d) = 0
  · rw [if_pos hz]
    have hlow := lowest_ok (zero_in15 hl hd hX hz.2)
    refine ⟨by simp only; omega, b2, hlow.1, m2, hhi, fun _ => hlow.2.1, fun w hw hm hg => ⟨hlow.2.2.2 w (hg hz.1) hm, (hr w hw hm).2⟩⟩
  · rw [if_neg hz]
    refine ⟨b1, b2, m1, m2, hhi, fun hg => ?_, fun w hw hm hg => hr w hw hm⟩
    simp only
    rcases Nat.eq_zero_or_pos (dval 0 (fillv 48 d)) with h0 | h0
    · exact absurd ⟨hg, h0⟩ hz
    · exact h0

theorem spanY_ok {g l : Bool} {d : List UInt8} {x s : Int} (hok : okY g l d x s) : (spanY g d x s).1 ≤ 10000000000000000 ∧ (spanY g d x s).2 ≤ 10000000000000000 ∧ memP d x s (spanY g d x s).1 ∧ memP d x s (spanY g d x s).2 ∧ (hasX d = true → 1 ≤ (spanY g d x s).2 ∧ (g = true → 1 ≤ (spanY g d x s).1)) ∧
    ∀ w, w ≤ 10000000000000000 → memP d x s w → (hasX d = true → g = true → 1 ≤ w) → (spanY g d x s).1 ≤ w ∧ w ≤ (spanY g d x s).2 := by
  unfold spanY memP
  cases hX : hasX d with
  | true =>
    obtain ⟨rfl, rfl, rfl, hl, hd⟩ := ok_mask hok hX
    obtain ⟨p1, p2, p3, p4, p5, p6, p7⟩ := spanX_ok (g := g) hl hd hX
    have h4 : (10 : Nat) ^ 4 = 10000 := by decide
    simp only [if_true, h4]
    refine ⟨by omega, by omega, ⟨p3, Nat.div_eq_of_lt p1⟩, ⟨p4, Nat.div_eq_of_lt p2⟩, fun _ => ⟨p5, p6⟩, fun w hw hm hg => p7 w (by omega) hm.1 (hg trivial)⟩
  | false =>
    obtain ⟨k, q, rfl, rfl, hN⟩ := ok_num hok hX
    have hs := hN.small
    have hv : dval 0 d * 10 ^ k = val d k := rfl
    rw [hv] at hs
    obtain ⟨s1, s2, s3⟩ := span_le hN
    unfold E16 at s3
    simp only [Bool.false_eq_true, if_false, Int.toNat_natCast]
    unfold unitN
    unfold spanA at s1 s2 s3 ⊢
    by_cases h0 : 0 < q
    · rw [if_pos h0] at s1 s2 s3 ⊢
      rw [if_pos h0]
      have hu : 1 ≤ 10 ^ (d.length + k - q) := Nat.one_le_pow _ _ (by decide)
      generalize 10 ^ (d.length + k - q) = u at *
      generalize val d k = v at *
      simp only at s1 s2 s3 ⊢
      have hmul : v / u * u / u = v / u := Nat.mul_div_cancel _ hu
      have hlt : ∀ w, v / u * u ≤ w → w < v / u * u + u → w / u = v / u := by
        intro w h1 h2
        apply Nat.div_eq_of_lt_le
        · exact h1
        · rw [Nat.succ_mul]; exact h2
      have hback : ∀ w, v / u = w / u → v / u * u ≤ w ∧ w < v / u * u + u := by
        intro w h
        rw [h]
        have h1 := Nat.div_mul_le_self w u
        have h2 := Nat.div_add_mod w u
        have h3 := Nat.mod_lt w hu
        rw [Nat.mul_comm] at h2
        omega
      have hmin : min (v / u * u + u - 1) E16 ≤ v / u * u + u - 1 := Nat.min_le_left _ _
      have hself := hback v rfl
      refine ⟨by omega, s3, hmul.symm, (hlt _ (by omega) (by omega)).symm, fun q => (by cases q), fun w hw hm _ => ?_⟩
      obtain ⟨c1, c2⟩ := hback w hm
      refine ⟨c1, ?_⟩
      rw [Nat.le_min]
      unfold E16
      omega
    · rw [if_neg h0] at s1 s2 s3 ⊢
      rw [if_neg h0]
      simp only [Nat.div_one] at s1 s2 s3 ⊢
      refine ⟨s3, s3, trivial, trivial, fun q => (by cases q), fun w hw hm _ => by omega⟩

theorem in_span {g l : Bool} {d : List UInt8} {x s : Int} (hok : okY g l d x s) : inP g d x s (sgn g (spanY g d x s)).1 ∧ inP g d x s (sgn g (spanY g d x s)).2 ∧ ∀ v, inP g d x s v → (sgn g (spanY g d x s)).1 ≤ v ∧ v ≤ (sgn g (spanY g d x s)).2 := by
  obtain ⟨p1, p2, p3, p4, p5, p6⟩ := spanY_ok hok
  generalize spanY g d x s = sp at *
  obtain ⟨lo, hi⟩ := sp
  simp only at p1 p2 p3 p4 p5 p6
  cases g with
  | true =>
    have hw : ∀ a : Nat, wOf true (-(a : Int)) = (a : Int) := fun a => by unfold wOf; simp
    have mk : ∀ a : Nat, a ≤ 10000000000000000 → memP d x s a → (hasX d = true → 1 ≤ a) → inP true d x s (-(a : Int)) := by
      intro a h1 h2 h3
      refine ⟨by omega, by omega, by rw [hw]; omega, fun q => ?_, by rw [hw, Int.toNat_natCast]; exact h2⟩
      have := h3 q.1
      have h4 := q.2.2
      rw [hw] at h4
      omega
    simp only [sgn, if_true]
    refine ⟨mk hi p2 p4 (fun h => (p5 h).1), mk lo p1 p3 (fun h => (p5 h).2 rfl), fun v hv => ?_⟩
    obtain ⟨v1, v2, v3, v4, v5⟩ := hv
    have hwv : wOf true v = -v := rfl
    rw [hwv] at v3 v4 v5
    have := p6 (-v).toNat (by omega) v5 (fun hx _ => by
      have : ¬ -v = 0 := fun e => v4 ⟨hx, rfl, e⟩
      omega)
    omega
  | false =>
    have hw : ∀ a : Int, wOf false a = a := fun a => rfl
    have mk : ∀ a : Nat, a ≤ 10000000000000000 → memP d x s a → inP false d x s (a : Int) := by
      intro a h1 h2
      exact ⟨by omega, by omega, by rw [hw]; omega, fun q => (by cases q.2.1), by rw [hw, Int.toNat_natCast]; exact h2⟩
    simp only [sgn, Bool.false_eq_true, if_false]
    refine ⟨mk lo p1 p3, mk hi p2 p4, fun v hv => ?_⟩
    obtain ⟨v1, v2, v3, v4, v5⟩ := hv
    rw [hw] at v3 v5
    have := p6 v.toNat (by omega) v5 (fun _ q => by cases q)
    omega

theorem sig_less {g l : Bool} {d : List UInt8} {x s : Int} (hok : okY g l d x s) (h : s > 1) : okY g l d x (s - 1) ∧ (spanY g d x (s - 1)).1 ≤ (spanY g d x s).1 ∧ (spanY g d x s).2 ≤ (spanY g d x (s - 1)).2 := by
  have hok' : okY g l d x (s - 1) := by
    cases l with
    | true =>
      have h1 : okL d x s := by simpa [okY] using hok
      have : okL d x (s - 1) := ⟨h1.1, by omega, by have := h1.2.2; omega⟩
      simpa [okY] using this
    | false =>
      have h1 : okS g d x s := by simpa [okY] using hok
      obtain ⟨a1, a2, a3, a4, a5, a6, a7⟩ := h1
      have : okS g d x (s - 1) := ⟨a1, a2, a3, a4, by omega, by omega, fun q => a7 ⟨by omega, q.2⟩⟩
      simpa [okY] using this
  refine ⟨hok', ?_⟩
  have hX : hasX d = false := by
    cases hX : hasX d with
    | false => rfl
    | true =>
      have := (ok_mask hok hX).2.2.1
      omega
  obtain ⟨k, q, rfl, rfl, hN⟩ := ok_num hok hX
  have hq := hN.sig
  have e1 : ((q : Int) - 1).toNat = q - 1 := by omega
  unfold spanY spanA
  simp only [hX, Bool.false_eq_true, if_false, Int.toNat_natCast, e1]
  rw [if_pos (show 0 < q - 1 by omega), if_pos (show 0 < q by omega)]
  have hu : 10 ^ (d.length + k - (q - 1)) = 10 ^ (d.length + k - q) * 10 := by
    rw [show d.length + k - (q - 1) = (d.length + k - q) + 1 by omega, Nat.pow_succ]
  have hu1 : 1 ≤ 10 ^ (d.length + k - q) := Nat.one_le_pow _ _ (by decide)
  rw [hu]
  generalize 10 ^ (d.length + k - q) = u at hu1 ⊢
  generalize val d k = v
  have hdd : v / (u * 10) = v / u / 10 := (Nat.div_div_eq_div_mul v u 10).symm
  rw [hdd]
  generalize v / u = t
  have h1 : t / 10 * (u * 10) = t / 10 * 10 * u := by rw [Nat.mul_comm u 10, Nat.mul_assoc]
  have h2 : t / 10 * 10 * u ≤ t * u := Nat.mul_le_mul_right u (by omega)
  have h3 : (t + 1) * u ≤ (t / 10 * 10 + 10) * u := Nat.mul_le_mul_right u (by omega)
  rw [Nat.add_mul, Nat.add_mul, Nat.one_mul] at h3
  rw [h1]
  simp only
  generalize t / 10 * 10 * u = a at *
  generalize t * u = b at *
  have h10 : 10 * u = u * 10 := Nat.mul_comm 10 u
  refine ⟨by omega, ?_⟩
  rw [Nat.le_min]
  constructor
  · have := Nat.min_le_left (b + u - 1) E16
    omega
  · exact Nat.min_le_right _ _

end Go.Sh
