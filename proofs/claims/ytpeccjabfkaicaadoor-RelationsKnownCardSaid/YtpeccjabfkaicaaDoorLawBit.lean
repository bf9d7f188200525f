/- Bits of numbers of sixteen bits.
   Conditions: none. -/
import Derived.Test.YtpeccjabfkaicaaDoorLawCond
namespace Go.Sh
open Go.Abs

theorem wrap_u16 (x : Int) (h0 : 0 ≤ x) (h1 : x < 65536) : IntKind.wrap .u16 x = x := by
  show x % 65536 = x
  omega

theorem ofInt_nat (w a : Nat) : BitVec.ofInt w (a : Int) = BitVec.ofNat w a := by
  apply BitVec.eq_of_toNat_eq
  simp

theorem and16 {a b : Nat} (ha : a < 65536) (hb : b < 65536) : bits .and .u16 (a : Int) (b : Int) = ((a &&& b : Nat) : Int) := by
  show IntKind.wrap .u16 ((BitVec.ofInt 16 (a : Int) &&& BitVec.ofInt 16 (b : Int)).toNat : Int) = _
  rw [ofInt_nat, ofInt_nat, BitVec.toNat_and, BitVec.toNat_ofNat, BitVec.toNat_ofNat, Nat.mod_eq_of_lt (show a < 2 ^ 16 from ha), Nat.mod_eq_of_lt (show b < 2 ^ 16 from hb)]
  have := Nat.and_lt_two_pow (n := 16) a (show b < 2 ^ 16 from hb)
  exact wrap_u16 _ (by omega) (by omega)

theorem or16 {a b : Nat} (ha : a < 65536) (hb : b < 65536) : bits .or .u16 (a : Int) (b : Int) = ((a ||| b : Nat) : Int) := by
  show IntKind.wrap .u16 ((BitVec.ofInt 16 (a : Int) ||| BitVec.ofInt 16 (b : Int)).toNat : Int) = _
  rw [ofInt_nat, ofInt_nat, BitVec.toNat_or, BitVec.toNat_ofNat, BitVec.toNat_ofNat, Nat.mod_eq_of_lt (show a < 2 ^ 16 from ha), Nat.mod_eq_of_lt (show b < 2 ^ 16 from hb)]
  have := Nat.or_lt_two_pow (n := 16) (show a < 2 ^ 16 from ha) (show b < 2 ^ 16 from hb)
  exact wrap_u16 _ (by omega) (by omega)

theorem andNot16 {a b : Nat} (ha : a < 65536) (hb : b < 65536) : bits .andNot .u16 (a : Int) (b : Int) = ((a &&& (65535 - b) : Nat) : Int) := by
  show IntKind.wrap .u16 ((BitVec.ofInt 16 (a : Int) &&& ~~~BitVec.ofInt 16 (b : Int)).toNat : Int) = _
  rw [ofInt_nat, ofInt_nat, BitVec.toNat_and, BitVec.toNat_not, BitVec.toNat_ofNat, BitVec.toNat_ofNat, Nat.mod_eq_of_lt (show a < 2 ^ 16 from ha), Nat.mod_eq_of_lt (show b < 2 ^ 16 from hb)]
  have h2 : 2 ^ 16 - 1 - b = 65535 - b := rfl
  rw [h2]
  have := Nat.and_le_left (n := a) (m := 65535 - b)
  exact wrap_u16 _ (by omega) (by omega)

theorem pow_nat (k : Nat) : (2 : Int) ^ k = ((2 ^ k : Nat) : Int) := by simp

theorem fdiv_nat (a k : Nat) : Int.fdiv (a : Int) (2 ^ k) = ((a / 2 ^ k : Nat) : Int) := by
  rw [pow_nat k, Int.fdiv_eq_ediv_of_nonneg _ (Int.natCast_nonneg _)]
  rfl

theorem bit_and (a k : Nat) : a / 2 ^ k &&& 1 = if a.testBit k then 1 else 0 := by
  rw [Nat.testBit_eq_decide_div_mod_eq, Nat.and_one_is_mod]
  have := Nat.mod_two_eq_zero_or_one (a / 2 ^ k)
  by_cases h : a / 2 ^ k % 2 = 1
  · simp [h]
  · simp [h]; omega

theorem has16 {a k : Nat} (ha : a < 65536) (hk : k ≤ 16) : ((bits .and .u16 (Int.fdiv (a : Int) (2 ^ (min (Int.toNat (k : Int)) (IntKind.bits .u16)))) 1) == 1) = a.testBit k := by
  have hm : min (Int.toNat (k : Int)) (IntKind.bits .u16) = k := by
    simp only [Int.toNat_natCast]
    exact Nat.min_eq_left hk
  rw [hm, fdiv_nat]
  have h1 : a / 2 ^ k < 65536 := Nat.lt_of_le_of_lt (Nat.div_le_self _ _) ha
  rw [show (1 : Int) = ((1 : Nat) : Int) from rfl, and16 h1 (by omega), bit_and]
  cases a.testBit k <;> rfl

theorem shl16 {k : Nat} (hk : k < 16) : IntKind.wrap .u16 ((1 : Int) * 2 ^ (min (Int.toNat (k : Int)) (IntKind.bits .u16))) = ((2 ^ k : Nat) : Int) := by
  have hm : min (Int.toNat (k : Int)) (IntKind.bits .u16) = k := by
    simp only [Int.toNat_natCast]
    exact Nat.min_eq_left (Nat.le_of_lt hk)
  rw [hm, Int.one_mul, pow_nat k]
  have : 2 ^ k < 2 ^ 16 := Nat.pow_lt_pow_right (by decide) hk
  have h65 : 2 ^ 16 = 65536 := by decide
  rw [h65] at this
  generalize 2 ^ k = z at this ⊢
  exact wrap_u16 _ (Int.natCast_nonneg _) (by omega)

end Go.Sh
