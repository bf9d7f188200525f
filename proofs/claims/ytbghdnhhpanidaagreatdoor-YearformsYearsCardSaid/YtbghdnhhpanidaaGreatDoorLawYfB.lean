/- Chapter 14: the number that digits and a power of ten are.
   Conditions: none. -/
import Derived.Test.YtbghdnhhpanidaaGreatDoorLawYfA
import Derived.Test.YtbghdnhhpanidaaGreatDoorLawBit
set_option linter.unusedSimpArgs false
set_option linter.unusedVariables false
namespace Go.Sh
open Go.Abs

/-- One digit more. -/
def dstep (acc : Nat) (c : UInt8) : Nat := acc * 10 + (c.toNat - 48)

/-- The number that digits spell behind another one. -/
def dval (acc : Nat) (l : List UInt8) : Nat := l.foldl dstep acc

theorem dval_nil (acc : Nat) : dval acc [] = acc := by unfold dval; rw [List.foldl_nil]

theorem dval_cons (acc : Nat) (c : UInt8) (l : List UInt8) : dval acc (c :: l) = dval (dstep acc c) l := by
  unfold dval; rw [List.foldl_cons]

theorem dval_app (l : List UInt8) (acc : Nat) (c : UInt8) : dval acc (l ++ [c]) = dval acc l * 10 + (c.toNat - 48) := by
  have : dval acc (l ++ [c]) = dstep (dval acc l) c := by
    unfold dval; rw [List.foldl_append, List.foldl_cons, List.foldl_nil]
  rw [this]
  rfl

theorem parse_M (M : Nat) (hM : 10000000000000000000 ≤ M) (l : List UInt8) : ∀ (acc k : Nat), (∀ c ∈ l, isDig c = true) → acc < 10 ^ k → l.length + k ≤ 18 → Lib.parseUintM M acc l = .ok (dval acc l) ∧ dval acc l < 10 ^ (l.length + k) := by
  induction l with
  | nil =>
    intro acc k _ h1 _
    rw [dval_nil]
    refine ⟨rfl, ?_⟩
    simpa using h1
  | cons c l ih =>
    intro acc k h h1 h2
    have hc := (isDig_iff c).1 (h c (by simp))
    simp only [List.length_cons] at h2
    have hp : (10 : Nat) ^ (k + 1) = 10 ^ k * 10 := Nat.pow_succ 10 k
    have hle : (10 : Nat) ^ (k + 1) ≤ 10 ^ 18 := Nat.pow_le_pow_right (by decide) (by omega)
    have h18 : (10 : Nat) ^ 18 = 1000000000000000000 := by decide
    have hd : dstep acc c = acc * 10 + (c.toNat - 48) := rfl
    have ih := ih (dstep acc c) (k + 1) (fun d hd => h d (by simp [hd])) (by omega) (by omega)
    refine ⟨?_, ?_⟩
    · simp only [Lib.parseUintM]
      rw [if_pos hc, if_neg (by omega), if_neg (by omega), ← hd, ih.1, dval_cons]
    · rw [dval_cons, List.length_cons, show l.length + 1 + k = l.length + (k + 1) by omega]
      exact ih.2

theorem parse_digs {l : List UInt8} (h : ∀ c ∈ l, isDig c = true) (h0 : l ≠ []) (hl : l.length ≤ 18) : parseOk l = some ((dval 0 l : Nat) : Int) ∧ dval 0 l < 10 ^ l.length := by
  obtain ⟨h1, h2⟩ := parse_M (2 ^ 64 - 1) (by decide) l 0 0 h (by simp) (by omega)
  refine ⟨?_, by simpa using h2⟩
  have hlt : dval 0 l < 10 ^ 18 := Nat.lt_of_lt_of_le h2 (Nat.pow_le_pow_right (by decide) (by omega))
  cases l with
  | nil => exact absurd rfl h0
  | cons c r =>
    have hc := (isDig_iff c).1 (h c (by simp))
    have hu : Lib.parseUintB 64 (c :: r) = .ok (dval 0 (c :: r)) := by
      unfold Lib.parseUintB
      rw [if_neg h0, h1]
    have hs : ¬ (c.toNat = 43 ∨ c.toNat = 45) := by omega
    simp only [parseOk, Lib.parseIntB, hs, if_false, hu]
    have h18 : (10 : Nat) ^ 18 = 1000000000000000000 := by decide
    have h63 : (2 : Nat) ^ (64 - 1) = 9223372036854775808 := by decide
    have hn : ¬ c.toNat = 45 := by omega
    simp only [hn, not_false_eq_true, true_and, false_and, if_false]
    rw [h63, if_neg (by omega)]

/-! ### Powers of ten, products -/

theorem pow10_eq (n k : Nat) (hk : k ≤ 18) (hn : 18 < n) : ints_Pow10 n (k : Int) = some (((10 ^ k : Nat) : Int), 0) := by
  have h18 : (10 : Nat) ^ 18 = 1000000000000000000 := by decide
  have := iterL_inv (step := ints_Pow10_l0 n) (fun x => ∃ i : Nat, i ≤ k ∧ x = (((10 ^ i : Nat) : Int), (k : Int), (i : Int))) (fun x => k - x.2.2.toNat) (fun _ => ((10 ^ k : Nat) : Int)) (by
    rintro x ⟨i, hi, rfl⟩
    rcases Nat.lt_or_ge i k with hlt | hge
    · have hle : (10 : Nat) ^ (i + 1) ≤ 10 ^ 18 := Nat.pow_le_pow_right (by decide) (by omega)
      have hp : (10 : Nat) ^ (i + 1) = 10 ^ i * 10 := Nat.pow_succ 10 i
      have w1 : IntKind.wrap .i64 (((10 ^ i : Nat) : Int) * 10) = ((10 ^ (i + 1) : Nat) : Int) := by rw [wrap_i64 _ (by omega) (by omega)]; omega
      have w2 : IntKind.wrap .i64 ((i : Int) + 1) = ((i + 1 : Nat) : Int) := by rw [wrap_i64 _ (by omega) (by omega)]; omega
      refine .inl ⟨_, ?_, ⟨i + 1, hlt, rfl⟩, by simp only [Int.toNat_natCast]; omega, rfl⟩
      simp only [ints_Pow10_l0, nat_dec_lt, hlt, decide_true, cond_true, w1, w2]
    · have : i = k := by omega
      subst this
      refine .inr ?_
      simp only [ints_Pow10_l0, nat_dec_lt, Nat.lt_irrefl, decide_false, cond_false]) n (1, (k : Int), 0) ⟨0, by omega, rfl⟩ (by simp; omega)
  have d1 : decide ((k : Int) < 0) = false := decide_eq_false (by omega)
  have d2 : decide ((k : Int) > 18) = false := decide_eq_false (by omega)
  simp only [ints_Pow10, d1, d2, cond_false, this, ob]

theorem wrap_u64 (x : Int) (h0 : 0 ≤ x) (h1 : x < 18446744073709551616) : IntKind.wrap .u64 x = x := by
  show x % 18446744073709551616 = x
  omega

theorem wrap_u64_eq (x : Int) : IntKind.wrap .u64 x = x % 18446744073709551616 := rfl

theorem and_lo {a : Nat} (ha : a < 18446744073709551616) : bits .and .u64 (a : Int) 4294967295 = ((a % 4294967296 : Nat) : Int) := by
  show IntKind.wrap .u64 ((BitVec.ofInt 64 (a : Int) &&& BitVec.ofInt 64 ((4294967295 : Nat) : Int)).toNat : Int) = _
  rw [ofInt_nat, ofInt_nat, BitVec.toNat_and, BitVec.toNat_ofNat, BitVec.toNat_ofNat, Nat.mod_eq_of_lt (show a < 2 ^ 64 from ha), Nat.mod_eq_of_lt (by decide)]
  have := Nat.and_two_pow_sub_one_eq_mod a 32
  rw [show (2 : Nat) ^ 32 - 1 = 4294967295 from by decide, show (2 : Nat) ^ 32 = 4294967296 from by decide] at this
  rw [this]
  exact wrap_u64 _ (by omega) (by omega)

theorem shr32 (a : Nat) : Int.fdiv (a : Int) (2 ^ 32) = ((a / 4294967296 : Nat) : Int) := by
  rw [fdiv_nat]

theorem mul_lt {a b A B : Nat} (ha : a ≤ A) (hb : b ≤ B) : a * b ≤ A * B := Nat.mul_le_mul ha hb

theorem split_mul (a b : Nat) : a * b = (a / 4294967296) * (b / 4294967296) * 18446744073709551616 + ((a / 4294967296) * (b % 4294967296) + (a % 4294967296) * (b / 4294967296)) * 4294967296 + (a % 4294967296) * (b % 4294967296) := by
  have e1 : a = (a / 4294967296) * 4294967296 + a % 4294967296 := by omega
  have e2 : b = (b / 4294967296) * 4294967296 + b % 4294967296 := by omega
  generalize a / 4294967296 = x1 at e1 ⊢
  generalize a % 4294967296 = x0 at e1 ⊢
  generalize b / 4294967296 = y1 at e2 ⊢
  generalize b % 4294967296 = y0 at e2 ⊢
  subst e1 e2
  rw [Nat.add_mul, Nat.mul_add, Nat.mul_add]
  have h1 : x1 * 4294967296 * (y1 * 4294967296) = x1 * y1 * 18446744073709551616 := by
    rw [Nat.mul_mul_mul_comm]
  have h2 : x1 * 4294967296 * y0 = x1 * y0 * 4294967296 := by rw [Nat.mul_right_comm]
  have h3 : x0 * (y1 * 4294967296) = x0 * y1 * 4294967296 := by rw [Nat.mul_assoc]
  rw [h1, h2, h3, Nat.add_mul]
  omega

theorem mul64 (n a b : Nat) (ha : a < 18446744073709551616) (hb : b < 18446744073709551616) : math_bits_Mul64 n (a : Int) (b : Int) = some (((a * b / 18446744073709551616 : Nat) : Int), ((a * b % 18446744073709551616 : Nat) : Int)) := by
  have hsp := split_mul a b
  have hx1 : a / 4294967296 ≤ 4294967295 := by omega
  have hx0 : a % 4294967296 ≤ 4294967295 := by omega
  have hy1 : b / 4294967296 ≤ 4294967295 := by omega
  have hy0 : b % 4294967296 ≤ 4294967295 := by omega
  have p00 := mul_lt hx0 hy0
  have p01 := mul_lt hx0 hy1
  have p10 := mul_lt hx1 hy0
  have p11 := mul_lt hx1 hy1
  have hlo : IntKind.wrap .u64 ((a : Int) * (b : Int)) = ((a * b % 18446744073709551616 : Nat) : Int) := by
    rw [wrap_u64_eq, ← Int.natCast_mul]; omega
  simp only [math_bits_Mul64, shr32, and_lo ha, and_lo hb, hlo]
  simp only [← Int.natCast_mul]
  generalize (a / 4294967296) * (b / 4294967296) = q11 at *
  generalize (a / 4294967296) * (b % 4294967296) = q10 at *
  generalize (a % 4294967296) * (b / 4294967296) = q01 at *
  generalize (a % 4294967296) * (b % 4294967296) = q00 at *
  generalize a * b = N at *
  have w1 : IntKind.wrap .u64 ((q00 : Nat) : Int) = ((q00 : Nat) : Int) := wrap_u64 _ (by omega) (by omega)
  have w2 : IntKind.wrap .u64 ((q10 : Nat) : Int) = ((q10 : Nat) : Int) := wrap_u64 _ (by omega) (by omega)
  have w3 : IntKind.wrap .u64 ((q01 : Nat) : Int) = ((q01 : Nat) : Int) := wrap_u64 _ (by omega) (by omega)
  have w4 : IntKind.wrap .u64 ((q11 : Nat) : Int) = ((q11 : Nat) : Int) := wrap_u64 _ (by omega) (by omega)
  rw [w1, w2, w3, w4, shr32 q00]
  have w5 : IntKind.wrap .u64 (((q10 : Nat) : Int) + ((q00 / 4294967296 : Nat) : Int)) = ((q10 + q00 / 4294967296 : Nat) : Int) := by rw [wrap_u64 _ (by omega) (by omega)]; omega
  rw [w5, shr32, and_lo (by omega)]
  have w6 : IntKind.wrap .u64 (((q11 : Nat) : Int) + (((q10 + q00 / 4294967296) / 4294967296 : Nat) : Int)) = ((q11 + (q10 + q00 / 4294967296) / 4294967296 : Nat) : Int) := by rw [wrap_u64 _ (by omega) (by omega)]; omega
  have w7 : IntKind.wrap .u64 ((((q10 + q00 / 4294967296) % 4294967296 : Nat) : Int) + ((q01 : Nat) : Int)) = (((q10 + q00 / 4294967296) % 4294967296 + q01 : Nat) : Int) := by rw [wrap_u64 _ (by omega) (by omega)]; omega
  rw [w6, w7, shr32]
  have w8 : IntKind.wrap .u64 (((q11 + (q10 + q00 / 4294967296) / 4294967296 : Nat) : Int) + ((((q10 + q00 / 4294967296) % 4294967296 + q01) / 4294967296 : Nat) : Int)) = ((N / 18446744073709551616 : Nat) : Int) := by
    rw [wrap_u64 _ (by omega) (by omega)]; omega
  rw [w8]

theorem mul_eq (n a b : Nat) (ha : a < 9223372036854775808) (hb : b < 9223372036854775808) : ints_Mul n (a : Int) (b : Int) = some (if a * b < 9223372036854775808 then (((a * b : Nat) : Int), 0) else (0, 15)) := by
  have d1 : decide ((a : Int) < 0) = false := decide_eq_false (by omega)
  have d2 : decide ((b : Int) < 0) = false := decide_eq_false (by omega)
  have w1 : IntKind.wrap .u64 (a : Int) = a := wrap_u64 _ (by omega) (by omega)
  have w2 : IntKind.wrap .u64 (b : Int) = b := wrap_u64 _ (by omega) (by omega)
  simp only [ints_Mul, ints_size, d1, d2, cond_false, w1, w2, ob, mul64 n a b (by omega) (by omega)]
  generalize a * b = N
  by_cases h : 18446744073709551616 ≤ N
  · have d3 : decide (((N / 18446744073709551616 : Nat) : Int) > 0) = true := decide_eq_true (by omega)
    rw [d3, if_neg (by omega)]
    rfl
  · have d3 : decide (((N / 18446744073709551616 : Nat) : Int) > 0) = false := decide_eq_false (by omega)
    have e : N % 18446744073709551616 = N := Nat.mod_eq_of_lt (by omega)
    rw [d3, e]
    simp only [cond_false, BEq.rfl, Bool.not_true, ints_signed, Bool.not_false, cond_true]
    by_cases h2 : N < 9223372036854775808
    · have d4 : decide (((N : Nat) : Int) ≤ 9223372036854775807) = true := decide_eq_true (by omega)
      rw [d4, if_pos h2, cond_true, wrap_i64 _ (by omega) (by omega)]
    · have d4 : decide (((N : Nat) : Int) ≤ 9223372036854775807) = false := decide_eq_false (by omega)
      rw [d4, if_neg h2, cond_false]

/-! ### Magnitudes -/

def E16 : Nat := 10000000000000000

theorem pow_big {x : Nat} (hx : 17 ≤ x) : E16 < 10 ^ x := by
  have : (10 : Nat) ^ 17 ≤ 10 ^ x := Nat.pow_le_pow_right (by decide) hx
  have h17 : (10 : Nat) ^ 17 = 100000000000000000 := by decide
  unfold E16
  omega

theorem magn_eq (n : Nat) (g l : Bool) (d : List UInt8) (x : Nat) (s : Int) (hd : ∀ c ∈ d, isDig c = true) (h0 : d ≠ []) (hl : d.length ≤ 17) (hx : x ≤ 18) (hn : 18 < n) :
    yearforms_magnitude n g l d (x : Int) s = some (if dval 0 d * 10 ^ x ≤ E16 then (((dval 0 d * 10 ^ x : Nat) : Int), 0) else (0, 6)) := by
  obtain ⟨h1, h2⟩ := parse_digs hd h0 (by omega)
  have hv : dval 0 d < 10 ^ 17 := Nat.lt_of_lt_of_le h2 (Nat.pow_le_pow_right (by decide) hl)
  have hp : (10 : Nat) ^ x ≤ 10 ^ 18 := Nat.pow_le_pow_right (by decide) hx
  have h17 : (10 : Nat) ^ 17 = 100000000000000000 := by decide
  have h18 : (10 : Nat) ^ 18 = 1000000000000000000 := by decide
  have hb : Nat.ble d.length 9223372036854775806 = true := Nat.ble_eq_true_of_le (by omega)
  simp only [yearforms_magnitude, hb, cond_true, h1, ob, pow10_eq n x hx hn, bne_self_eq_false, cond_false, mul_eq n _ _ (show dval 0 d < 9223372036854775808 by omega) (show 10 ^ x < 9223372036854775808 by omega)]
  generalize dval 0 d * 10 ^ x = N
  unfold E16
  by_cases h : N < 9223372036854775808
  · rw [if_pos h]
    simp only [bne_self_eq_false, cond_false]
    by_cases h3 : N ≤ 10000000000000000
    · have d1 : decide (((N : Nat) : Int) > 10000000000000000) = false := decide_eq_false (by omega)
      rw [d1, if_pos h3, cond_false]
    · have d1 : decide (((N : Nat) : Int) > 10000000000000000) = true := decide_eq_true (by omega)
      rw [d1, if_neg h3, cond_true]
  · rw [if_neg h, if_neg (by omega)]
    rfl

/-- The number of the first digits and zeros. -/
def pre (d : List UInt8) (i : Nat) : Nat := dval 0 (d.take i) * 10 ^ (i - d.length)

theorem pre_lt {d : List UInt8} {i : Nat} {c : UInt8} (h : d[i]? = some c) : pre d (i + 1) = 10 * pre d i + (c.toNat - 48) := by
  have hlt := lt_of_get h
  unfold pre
  rw [List.take_add_one, h, show i + 1 - d.length = 0 by omega, show i - d.length = 0 by omega]
  simp only [Option.toList, dval_app, Nat.pow_zero, Nat.mul_one]
  omega

theorem pre_ge {d : List UInt8} {i : Nat} (h : d.length ≤ i) : pre d (i + 1) = 10 * pre d i := by
  unfold pre
  rw [List.take_of_length_le (show d.length ≤ i + 1 by omega), List.take_of_length_le h, show i + 1 - d.length = (i - d.length) + 1 by omega, Nat.pow_succ]
  rw [← Nat.mul_assoc]
  omega

theorem pre_mono (d : List UInt8) : ∀ k i, pre d i ≤ pre d (i + k)
  | 0, i => Nat.le_refl _
  | k + 1, i => by
    have ih := pre_mono d k i
    rcases Nat.lt_or_ge (i + k) d.length with hlt | hge
    · have := pre_lt (List.getElem?_eq_getElem hlt)
      rw [show i + (k + 1) = i + k + 1 by omega, this]
      omega
    · have := pre_ge hge
      rw [show i + (k + 1) = i + k + 1 by omega, this]
      omega

theorem refMagn_eq (n : Nat) (d : List UInt8) (x : Nat) (hd : ∀ c ∈ d, isDig c = true) (hl : d.length ≤ 100) (hx : x ≤ 100) (hn : d.length + x < n) :
    circaref14_Magnitude n d (x : Int) = some (if dval 0 d * 10 ^ x ≤ E16 then (((dval 0 d * 10 ^ x : Nat) : Int), 1) else (0, 0)) := by
  have hend : pre d (d.length + x) = dval 0 d * 10 ^ x := by
    unfold pre
    rw [List.take_of_length_le (by omega), show d.length + x - d.length = x by omega]
  have w0 : IntKind.wrap .i64 (((d.length : Nat) : Int) + (x : Int)) = ((d.length + x : Nat) : Int) := by rw [wrap_i64 _ (by omega) (by omega)]; omega
  have := iterL_inv (step := circaref14_Magnitude_l0 n) (fun q => ∃ i : Nat, i ≤ d.length + x ∧ pre d i ≤ E16 ∧ q = (d, (x : Int), ((pre d i : Nat) : Int), (i : Int))) (fun q => d.length + x - q.2.2.2.toNat) (fun _ => if dval 0 d * 10 ^ x ≤ E16 then .inr ((dval 0 d * 10 ^ x : Nat) : Int) else .inl (0, 0)) (by
    rintro q ⟨i, hi, hp, rfl⟩
    simp only [circaref14_Magnitude_l0, w0, nat_dec_lt]
    unfold E16 at hp ⊢
    have w1 : IntKind.wrap .i64 ((i : Int) + 1) = ((i + 1 : Nat) : Int) := by rw [wrap_i64 _ (by omega) (by omega)]; omega
    have w2 : IntKind.wrap .i64 (10 * ((pre d i : Nat) : Int)) = ((10 * pre d i : Nat) : Int) := by rw [wrap_i64 _ (by omega) (by omega)]; omega
    by_cases h1 : i < d.length + x
    · have hm := pre_mono d (d.length + x - (i + 1)) (i + 1)
      rw [show i + 1 + (d.length + x - (i + 1)) = d.length + x by omega, hend] at hm
      simp only [h1, decide_true, cond_true, w1, w2]
      rcases Nat.lt_or_ge i d.length with hlt | hge
      · obtain ⟨c, hc⟩ : ∃ c, d[i]? = some c := ⟨d[i], List.getElem?_eq_getElem hlt⟩
        have hdig := (isDig_iff c).1 (hd c (List.mem_of_getElem? hc))
        have hs := pre_lt hc
        have w3 : IntKind.wrap .u8 (((c.toNat : Nat) : Int) - 48) = ((c.toNat - 48 : Nat) : Int) := by rw [wrap_u8 _ (by omega) (by omega)]; omega
        have w4 : IntKind.wrap .i64 ((c.toNat - 48 : Nat) : Int) = ((c.toNat - 48 : Nat) : Int) := wrap_i64 _ (by omega) (by omega)
        have w5 : IntKind.wrap .i64 (((10 * pre d i : Nat) : Int) + ((c.toNat - 48 : Nat) : Int)) = ((pre d (i + 1) : Nat) : Int) := by rw [wrap_i64 _ (by omega) (by omega)]; omega
        simp only [hlt, decide_true, cond_true, sx_nat hc, ob, w3, w4, w5]
        by_cases h2 : pre d (i + 1) ≤ 10000000000000000
        · have d1 : decide (((pre d (i + 1) : Nat) : Int) > 10000000000000000) = false := decide_eq_false (by omega)
          simp only [d1, cond_false]
          exact .inl ⟨_, rfl, ⟨i + 1, h1, h2, rfl⟩, by simp only [Int.toNat_natCast]; omega, trivial⟩
        · have d1 : decide (((pre d (i + 1) : Nat) : Int) > 10000000000000000) = true := decide_eq_true (by omega)
          simp only [d1, cond_true]
          rw [if_neg (by omega)]
          exact .inr rfl
      · have hs := pre_ge hge
        have hnl : ¬ i < d.length := by omega
        simp only [hnl, decide_false, cond_false]
        rw [← hs]
        by_cases h2 : pre d (i + 1) ≤ 10000000000000000
        · have d1 : decide (((pre d (i + 1) : Nat) : Int) > 10000000000000000) = false := decide_eq_false (by omega)
          simp only [d1, cond_false]
          exact .inl ⟨_, rfl, ⟨i + 1, h1, h2, rfl⟩, by simp only [Int.toNat_natCast]; omega, trivial⟩
        · have d1 : decide (((pre d (i + 1) : Nat) : Int) > 10000000000000000) = true := decide_eq_true (by omega)
          simp only [d1, cond_true]
          rw [if_neg (by omega)]
          exact .inr rfl
    · have : i = d.length + x := by omega
      subst this
      simp only [Nat.lt_irrefl, decide_false, cond_false]
      rw [hend] at hp ⊢
      rw [if_pos hp]
      exact .inr rfl) n (d, (x : Int), 0, 0) ⟨0, by omega, by unfold pre E16; simp [dval_nil], by unfold pre; simp [dval_nil]⟩ (by simp; omega)
  simp only [circaref14_Magnitude, this, ob]
  by_cases h : dval 0 d * 10 ^ x ≤ E16
  · rw [if_pos h, if_pos h]
  · rw [if_neg h, if_neg h]

end Go.Sh
