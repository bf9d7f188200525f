/- Small tools for plain proofs: tests on data.
   Conditions: none. -/
import Derived.Test.YtpeccjabfkaicaaDoorLawBase
namespace Go.Sh
open Go.Abs

theorem cond_beq {α β : Type} [BEq α] [LawfulBEq α] [DecidableEq α] (a b : α) (x y : β) : (cond (a == b) x y) = if a = b then x else y := by
  by_cases h : a = b
  · subst h; simp
  · rw [beq_eq_false_iff_ne.2 h]; simp [h]

theorem cond_bne {α β : Type} [BEq α] [LawfulBEq α] [DecidableEq α] (a b : α) (x y : β) : (cond (a != b) x y) = if a = b then y else x := by
  by_cases h : a = b
  · subst h; simp
  · rw [bne, beq_eq_false_iff_ne.2 h]; simp [h]

theorem cond_dec {β : Type} (p : Prop) [Decidable p] (x y : β) : (cond (decide p) x y) = if p then x else y := by
  by_cases h : p <;> simp [h]

theorem cond_neg {β : Type} (b : Bool) (x y : β) : (cond (!b) x y) = cond b y x := by cases b <;> rfl

theorem cond_and {β : Type} (a b : Bool) (x y : β) : (cond (a && b) x y) = cond a (cond b x y) y := by cases a <;> rfl

theorem cond_or {β : Type} (a b : Bool) (x y : β) : (cond (a || b) x y) = cond a x (cond b x y) := by cases a <;> rfl

theorem nat_dec_lt (a b : Nat) : (decide (((a : Nat) : Int) < ((b : Nat) : Int))) = decide (a < b) := by
  by_cases h : a < b <;> simp [h]

theorem nat_dec_ge (a b : Nat) : (decide (((a : Nat) : Int) ≥ ((b : Nat) : Int))) = decide (b ≤ a) := by
  by_cases h : b ≤ a <;> simp [h]

theorem u8_beq (c d : UInt8) : ((((c.toNat : Nat) : Int)) == ((d.toNat : Nat) : Int)) = (c == d) := by
  by_cases h : c = d
  · subst h; simp
  · have h1 : c.toNat ≠ d.toNat := fun e => h (UInt8.toNat_inj.1 e)
    have h2 : ((c.toNat : Nat) : Int) ≠ ((d.toNat : Nat) : Int) := by omega
    rw [beq_eq_false_iff_ne.2 h2, beq_eq_false_iff_ne.2 h]

theorem u8_of (c : UInt8) : UInt8.ofNat (Int.toNat ((c.toNat : Nat) : Int)) = c := by simp

theorem padd_eq (o j : Nat) : padd o j = o + j := by
  unfold padd
  cases h : Nat.beq o 0 with
  | true => have := Nat.eq_of_beq_eq_true h; simp [this]
  | false => rfl

end Go.Sh
