/- Chapter 14: which numbers are years of a year.
   Conditions: none. Printed by program in part. -/
import Derived.Test.YtbghdnhhpanidaaGreatDoorLawYfL
set_option linter.unusedSimpArgs false
set_option linter.unusedVariables false
set_option maxRecDepth 20000
namespace Go.Sh
open Go.Abs

/-- Do the first places of a mask match the digits of a number? -/
def mt (d : List UInt8) : Nat → Nat → Bool
  | 0, _ => true
  | k + 1, w => (decide (d.getD k 0 = 88) || decide ((d.getD k 0).toNat = 48 + w % 10)) && mt d k (w / 10)

theorem mt_succ (d : List UInt8) (k w : Nat) : mt d (k + 1) w = ((decide (d.getD k 0 = 88) || decide ((d.getD k 0).toNat = 48 + w % 10)) && mt d k (w / 10)) := rfl

theorem getD_get {d : List UInt8} {k : Nat} {c : UInt8} (h : d[k]? = some c) : d.getD k 0 = c := by
  rw [List.getD_eq_getElem?_getD, h]; rfl

theorem in_loop (n : Nat) (g l : Bool) (d : List UInt8) (x s : Int) (hl : d.length = 4) : ∀ (k w : Nat), k ≤ 4 → w < 100000000000000000 → ∀ q, k < q →
    iterL (circaref14_In_l0 n) q ((w : Int), (k : Int) - 1, g, l, d, x, s) = some (if mt d k w = true then .inr ((w / 10 ^ k : Nat) : Int) else .inl 0)
  | 0, w, hk, hw, q, hq => by
    obtain ⟨q, rfl⟩ : ∃ p, q = p + 1 := ⟨q - 1, by omega⟩
    have d1 : decide (((0 : Nat) : Int) - 1 ≥ 0) = false := rfl
    have hm0 : mt d 0 w = true := rfl
    simp only [iterL, circaref14_In_l0, d1, cond_false]
    rw [if_pos hm0]
    simp
  | k + 1, w, hk, hw, q, hq => by
    obtain ⟨q, rfl⟩ : ∃ p, q = p + 1 := ⟨q - 1, by omega⟩
    have ih := in_loop n g l d x s hl k (w / 10) (by omega) (by omega) q (by omega)
    obtain ⟨c, hc⟩ : ∃ c, d[k]? = some c := ⟨d[k], List.getElem?_eq_getElem (by omega)⟩
    have e0 : ((k + 1 : Nat) : Int) - 1 = (k : Int) := by omega
    have d1 : decide ((k : Int) ≥ 0) = true := decide_eq_true (by omega)
    have em : Int.tmod (w : Int) 10 = ((w % 10 : Nat) : Int) := rfl
    have eq' : Int.tdiv (w : Int) 10 = ((w / 10 : Nat) : Int) := rfl
    have w1 : IntKind.wrap .i64 (48 + ((w % 10 : Nat) : Int)) = ((48 + w % 10 : Nat) : Int) := by rw [wrap_i64 _ (by omega) (by omega)]; omega
    have w2 : IntKind.wrap .u8 ((48 + w % 10 : Nat) : Int) = ((48 + w % 10 : Nat) : Int) := wrap_u8 _ (by omega) (by omega)
    have w3 : IntKind.wrap .i64 ((w / 10 : Nat) : Int) = ((w / 10 : Nat) : Int) := wrap_i64 _ (by omega) (by omega)
    have w4 : IntKind.wrap .i64 ((k : Int) - 1) = (k : Int) - 1 := wrap_i64 _ (by omega) (by omega)
    have hdiv : w / 10 ^ (k + 1) = w / 10 / 10 ^ k := by rw [Nat.pow_succ, Nat.mul_comm, Nat.div_div_eq_div_mul]
    rw [mt_succ, getD_get hc, hdiv, e0]
    simp only [iterL, circaref14_In_l0, d1, cond_true, sx_nat hc, ob, em, eq', w1, w2, w3, w4]
    by_cases hx : c = 88
    · have e1 : (((c.toNat : Nat) : Int) != 88) = false := by rw [hx]; rfl
      rw [e1, decide_eq_true hx]
      simp only [cond_false, Bool.true_or, Bool.true_and]
      exact ih
    · have e1 : (((c.toNat : Nat) : Int) != 88) = true := by
        simp only [bne, Bool.not_eq_true', beq_eq_false_iff_ne]
        intro e
        exact hx (UInt8.toNat_inj.1 (by show c.toNat = 88; omega))
      rw [e1, decide_eq_false hx]
      simp only [cond_true, Bool.false_or]
      by_cases hm : c.toNat = 48 + w % 10
      · have e2 : (((c.toNat : Nat) : Int) != ((48 + w % 10 : Nat) : Int)) = false := by rw [hm]; simp
        rw [e2, decide_eq_true hm]
        simp only [cond_false, Bool.true_and]
        exact ih
      · have e2 : (((c.toNat : Nat) : Int) != ((48 + w % 10 : Nat) : Int)) = true := by
          simp only [bne, Bool.not_eq_true', beq_eq_false_iff_ne]
          omega
        rw [e2, decide_eq_false hm]
        simp only [cond_true, Bool.false_and]
        rfl

/-- The unit of the last significant digit. -/
def unitN (d : List UInt8) (k q : Nat) : Nat := if 0 < q then 10 ^ (d.length + k - q) else 1

/-- Is a number one of the years, but for the sign? -/
def memP (d : List UInt8) (x s : Int) (w : Nat) : Prop := if hasX d = true then mt d 4 w = true ∧ w / 10 ^ 4 = 0 else val d x.toNat / unitN d x.toNat s.toNat = w / unitN d x.toNat s.toNat

instance (d : List UInt8) (x s : Int) (w : Nat) : Decidable (memP d x s w) := by unfold memP; infer_instance

def wOf (g : Bool) (v : Int) : Int := if g then -v else v

def inP (g : Bool) (d : List UInt8) (x s : Int) (v : Int) : Prop := -10000000000000000 ≤ v ∧ v ≤ 10000000000000000 ∧ 0 ≤ wOf g v ∧ ¬ (hasX d = true ∧ g = true ∧ wOf g v = 0) ∧ memP d x s (wOf g v).toNat

instance (g : Bool) (d : List UInt8) (x s v : Int) : Decidable (inP g d x s v) := by unfold inP; infer_instance

/-- What the definition does of a number without sign. -/
noncomputable def inT (n : Nat) (a0 a1 : Bool) (a2 : List UInt8) (a3 a4 W : Int) : Option Int :=
  (ob (circaref14_Masked n a0 a1 a2 a3 a4) fun r221 => (cond (r221 == 1) (ob (iterL (circaref14_In_l0 n) n (W, 3, a0, a1, a2, a3, a4)) fun y222 => (Sum.casesOn (motive := fun _ => Option _) y222 (fun a223 => (some a223)) (fun b224 => (cond (decide (b224 > 0)) (some 0) (some 1))))) (ob (circaref14_Magnitude n a2 a3) fun r225 => (cond (decide (a4 > 0)) (ob (circaref14_Magnitude n [49] (IntKind.wrap .i64 ((IntKind.wrap .i64 (((List.length a2 : Nat) : Int) + a3)) - a4))) fun r226 => (cond (r226.1 == 0) none (cond (r226.1 == 0) none (cond ((IntKind.wrap .i64 (Int.tdiv r225.1 r226.1)) == (IntKind.wrap .i64 (Int.tdiv W r226.1))) (some 1) (some 0))))) (cond ((IntKind.wrap .i64 (Int.tdiv r225.1 1)) == (IntKind.wrap .i64 (Int.tdiv W 1))) (some 1) (some 0))))))

theorem nat_beq (a b : Nat) : (((a : Nat) : Int) == ((b : Nat) : Int)) = decide (a = b) := by
  by_cases h : a = b
  · subst h; simp
  · rw [decide_eq_false h, beq_eq_false_iff_ne]; omega

theorem memP_X {d : List UInt8} {x s : Int} {w : Nat} (hX : hasX d = true) : memP d x s w ↔ mt d 4 w = true ∧ w / 10 ^ 4 = 0 := by unfold memP; rw [if_pos hX]
theorem memP_N {d : List UInt8} {x s : Int} {w : Nat} (hX : hasX d = false) : memP d x s w ↔ val d x.toNat / unitN d x.toNat s.toNat = w / unitN d x.toNat s.toNat := by unfold memP; rw [if_neg (by rw [hX]; simp)]

theorem in_T (m : Nat) {g l : Bool} {d : List UInt8} {x s : Int} (hok : okY g l d x s) (w : Nat) (hw : w ≤ 10000000000000000) : inT (m + 300) g l d x s (w : Int) = some (if memP d x s w then 1 else 0) := by
  have hsm := ok_small hok
  have hM := ref_Masked (m + 300) g l d x s (by omega) (by omega)
  unfold inT
  cases hX : hasX d with
  | true =>
    obtain ⟨rfl, rfl, rfl, hl, _⟩ := ok_mask hok hX
    have hlp := in_loop (m + 300) g false d 0 0 hl 4 w (by omega) (by omega) (m + 300) (by omega)
    have hlp' : iterL (circaref14_In_l0 (m + 300)) (m + 300) ((w : Int), 3, g, false, d, 0, 0) = _ := hlp
    have z11 : ((1 : Int) == 1) = true := rfl
    have hMt : circaref14_Masked (m + 300) g false d 0 0 = some 1 := by rw [hM, hX]; rfl
    rw [hMt]
    simp only [ob, z11, cond_true, hlp']
    by_cases h1 : mt d 4 w = true
    · rw [if_pos h1]
      by_cases h2 : w / 10 ^ 4 = 0
      · have e : decide (((w / 10 ^ 4 : Nat) : Int) > 0) = false := decide_eq_false (by rw [h2]; decide)
        rw [if_pos ((memP_X hX).2 ⟨h1, h2⟩)]
        simp only [e, cond_false]
      · have e : decide (((w / 10 ^ 4 : Nat) : Int) > 0) = true := decide_eq_true (by
          generalize w / 10 ^ 4 = t at h2 ⊢
          omega)
        rw [if_neg (fun q => h2 ((memP_X hX).1 q).2)]
        simp only [e, cond_true]
    · rw [if_neg h1, if_neg (fun q => h1 ((memP_X hX).1 q).1)]
  | false =>
    obtain ⟨k, q, rfl, rfl, hN⟩ := ok_num hok hX
    have hw' := hN.wide
    have hs := hN.small
    have hq := hN.sig
    have hv : dval 0 d * 10 ^ k = val d k := rfl
    have hm := refMagn_eq (m + 300) d k hN.dig (by omega) (by omega) (by omega)
    rw [if_pos hs, hv] at hm
    rw [hv] at hs
    unfold E16 at hs
    have z01 : ((0 : Int) == 1) = false := rfl
    have hMt : circaref14_Masked (m + 300) g l d k q = some 0 := by rw [hM, hX]; rfl
    have hmp := memP_N (x := (k : Int)) (s := (q : Int)) (w := w) hX
    rw [Int.toNat_natCast, Int.toNat_natCast] at hmp
    unfold unitN at hmp
    rw [hMt]
    simp only [ob, z01, cond_false, hm]
    by_cases h0 : 0 < q
    · have e0 : decide ((q : Int) > 0) = true := decide_eq_true (by omega)
      have w0 : IntKind.wrap .i64 (IntKind.wrap .i64 (((d.length : Nat) : Int) + (k : Int)) - (q : Int)) = ((d.length + k - q : Nat) : Int) := by
        rw [wrap_i64 (((d.length : Nat) : Int) + (k : Int)) (by omega) (by omega), wrap_i64 _ (by omega) (by omega)]
        omega
      have hu2 : 10 ^ (d.length + k - q) ≤ 10 ^ 16 := Nat.pow_le_pow_right (by decide) (by omega)
      have h16 : (10 : Nat) ^ 16 = 10000000000000000 := by decide
      have one : dval 0 [49] = 1 := by decide
      have hone : dval 0 [49] * 10 ^ (d.length + k - q) ≤ E16 := by rw [one]; unfold E16; omega
      have hm1 := refMagn_eq (m + 300) [49] (d.length + k - q) (by decide) (by decide) (by omega) (by simp; omega)
      rw [if_pos hone, one, Nat.one_mul] at hm1
      have hu : 1 ≤ 10 ^ (d.length + k - q) := Nat.one_le_pow _ _ (by decide)
      rw [e0, w0, hm1]
      rw [if_pos h0] at hmp
      clear hone hm1
      generalize 10 ^ (d.length + k - q) = u at hu hu2 hmp ⊢
      generalize val d k = v at hs hmp ⊢
      have d2 : (((u : Nat) : Int) == 0) = false := beq_eq_false_iff_ne.2 (by omega)
      have hdiv : Int.tdiv ((v : Nat) : Int) ((u : Nat) : Int) = ((v / u : Nat) : Int) := rfl
      have hdiw : Int.tdiv ((w : Nat) : Int) ((u : Nat) : Int) = ((w / u : Nat) : Int) := rfl
      have l1 : v / u ≤ v := Nat.div_le_self v u
      have l2 : w / u ≤ w := Nat.div_le_self w u
      simp only [cond_true, d2, cond_false, hdiv, hdiw]
      generalize v / u = a at l1 hmp ⊢
      generalize w / u = b at l2 hmp ⊢
      rw [wrap_i64 _ (by omega) (by omega), wrap_i64 _ (by omega) (by omega), nat_beq]
      by_cases hab : a = b
      · rw [decide_eq_true hab, if_pos (hmp.2 hab)]; rfl
      · rw [decide_eq_false hab, if_neg (fun q => hab (hmp.1 q))]; rfl
    · have e0 : decide ((q : Int) > 0) = false := decide_eq_false (by omega)
      have t1 : ∀ a : Nat, Int.tdiv ((a : Nat) : Int) 1 = ((a : Nat) : Int) := fun a => by
        have : Int.tdiv ((a : Nat) : Int) 1 = ((a / 1 : Nat) : Int) := rfl
        rw [this, Nat.div_one]
      rw [if_neg h0, Nat.div_one, Nat.div_one] at hmp
      rw [e0]
      simp only [cond_false, t1]
      rw [wrap_i64 _ (by omega) (by omega), wrap_i64 _ (by omega) (by omega), nat_beq]
      by_cases hab : val d k = w
      · rw [decide_eq_true hab, if_pos (hmp.2 hab)]; rfl
      · rw [decide_eq_false hab, if_neg (fun q => hab (hmp.1 q))]; rfl

theorem ref_In (m : Nat) {g l : Bool} {d : List UInt8} {x s : Int} (hok : okY g l d x s) (v : Int) : circaref14_In (m + 300) g l d x s v = some (if inP g d x s v then 1 else 0) := by
  have hsm := ok_small hok
  have hT := fun w hw => in_T m hok w hw
  have hM := ref_Masked (m + 300) g l d x s (by omega) (by omega)
  unfold inT at hT
  unfold circaref14_In
  by_cases h1 : v < -10000000000000000
  · rw [decide_eq_true h1, if_neg (fun q => by have := q.1; omega)]; rfl
  · rw [decide_eq_false h1, cond_false]
    by_cases h2 : v > 10000000000000000
    · rw [decide_eq_true h2, if_neg (fun q => by have := q.2.1; omega)]; rfl
    · rw [decide_eq_false h2, cond_false]
      cases g with
      | true =>
        have w0 : IntKind.wrap .i64 (0 - v) = -v := by rw [wrap_i64 _ (by omega) (by omega)]; omega
        simp only [cond_true, w0]
        by_cases h3 : -v < 0
        · rw [decide_eq_true h3, if_neg (fun q => by have := q.2.2.1; unfold wOf at this; simp only [if_true] at this; omega)]; rfl
        · rw [decide_eq_false h3, cond_false]
          obtain ⟨w, hw⟩ : ∃ w : Nat, -v = (w : Int) := ⟨(-v).toNat, by omega⟩
          have hT := hT w (by omega)
          have hwo : wOf true v = (w : Int) := by unfold wOf; simpa using hw
          have hin : ¬ (hasX d = true ∧ w = 0) → (inP true d x s v ↔ memP d x s w) := by
            intro hz
            unfold inP
            rw [hwo, Int.toNat_natCast]
            constructor
            · exact fun q => q.2.2.2.2
            · exact fun q => ⟨by omega, by omega, by omega, fun q => hz ⟨q.1, by omega⟩, q⟩
          rw [hw]
          cases hX : hasX d with
          | true =>
            have hMt : circaref14_Masked (m + 300) true l d x s = some 1 := by rw [hM, hX]; rfl
            rw [hMt]
            have z11 : ((1 : Int) == 1) = true := rfl
            simp only [ob, z11, cond_true]
            by_cases hz : w = 0
            · have e : (((w : Nat) : Int) == 0) = true := beq_iff_eq.2 (by omega)
              rw [e, if_neg (fun q => q.2.2.2.1 ⟨hX, rfl, by rw [hwo]; omega⟩)]; rfl
            · have e : (((w : Nat) : Int) == 0) = false := beq_eq_false_iff_ne.2 (by omega)
              rw [hMt] at hT
              simp only [ob, z11, cond_true] at hT
              rw [e, cond_false, hT]
              have := hin (fun q => hz q.2)
              by_cases hp : memP d x s w
              · rw [if_pos hp, if_pos (this.2 hp)]
              · rw [if_neg hp, if_neg (fun q => hp (this.1 q))]
          | false =>
            have hMt : circaref14_Masked (m + 300) true l d x s = some 0 := by rw [hM, hX]; rfl
            have z01 : ((0 : Int) == 1) = false := rfl
            rw [hMt] at hT ⊢
            simp only [ob, z01, cond_false] at hT ⊢
            rw [hT]
            have := hin (fun q => by rw [hX] at q; cases q.1)
            by_cases hp : memP d x s w
            · rw [if_pos hp, if_pos (this.2 hp)]
            · rw [if_neg hp, if_neg (fun q => hp (this.1 q))]
      | false =>
        simp only [cond_false]
        by_cases h3 : v < 0
        · rw [decide_eq_true h3, if_neg (fun q => by have := q.2.2.1; unfold wOf at this; simp only [Bool.false_eq_true, if_false] at this; omega)]; rfl
        · rw [decide_eq_false h3, cond_false]
          obtain ⟨w, rfl⟩ : ∃ w : Nat, v = (w : Int) := ⟨v.toNat, by omega⟩
          have hT := hT w (by omega)
          have hwo : wOf false (w : Int) = (w : Int) := rfl
          have hin : inP false d x s (w : Int) ↔ memP d x s w := by
            unfold inP
            rw [hwo, Int.toNat_natCast]
            constructor
            · exact fun q => q.2.2.2.2
            · exact fun q => ⟨by omega, by omega, by omega, fun q => (by cases q.2.1), q⟩
          cases hX : hasX d with
          | true =>
            have hMt : circaref14_Masked (m + 300) false l d x s = some 1 := by rw [hM, hX]; rfl
            rw [hMt] at hT ⊢
            have z11 : ((1 : Int) == 1) = true := rfl
            simp only [ob, z11, cond_true] at hT ⊢
            rw [hT]
            by_cases hp : memP d x s w
            · rw [if_pos hp, if_pos (hin.2 hp)]
            · rw [if_neg hp, if_neg (fun q => hp (hin.1 q))]
          | false =>
            have hMt : circaref14_Masked (m + 300) false l d x s = some 0 := by rw [hM, hX]; rfl
            rw [hMt] at hT ⊢
            have z01 : ((0 : Int) == 1) = false := rfl
            simp only [ob, z01, cond_false] at hT ⊢
            rw [hT]
            by_cases hp : memP d x s w
            · rw [if_pos hp, if_pos (hin.2 hp)]
            · rw [if_neg hp, if_neg (fun q => hp (hin.1 q))]

end Go.Sh
