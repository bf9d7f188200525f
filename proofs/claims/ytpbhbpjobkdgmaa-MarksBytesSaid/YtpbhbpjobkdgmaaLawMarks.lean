/- Chapter 13: what the plain functions of the laws on marks answer.
   Conditions: none. -/
import Derived.Test.YtpbhbpjobkdgmaaShM
import Derived.Test.YtpbhbpjobkdgmaaAbsR
namespace Go.Sh
open Go.Abs

theorem bits_or (x y : BitVec 8) : (y &&& ~~~x = 0#8) ↔ (x ||| y = x) := by
  constructor
  · intro h
    apply BitVec.eq_of_getLsbD_eq
    intro i hi
    have := congrArg (fun v : BitVec 8 => v.getLsbD i) h
    simp [hi] at this ⊢
    cases hx : x.getLsbD i <;> cases hy : y.getLsbD i <;> simp_all
  · intro h
    apply BitVec.eq_of_getLsbD_eq
    intro i hi
    have := congrArg (fun v : BitVec 8 => v.getLsbD i) h
    simp [hi] at this ⊢
    cases hx : x.getLsbD i <;> cases hy : y.getLsbD i <;> simp_all

theorem has_or (a b : Int) (h0 : 0 ≤ a) (h1 : a < 256) : (bits .andNot .u8 b a == 0) = (bits .or .u8 a b == a) := by
  have e1 : (bits .andNot .u8 b a = 0) ↔ (BitVec.ofInt 8 b &&& ~~~(BitVec.ofInt 8 a) = 0#8) := by
    constructor
    · intro h
      apply BitVec.eq_of_toNat_eq
      have : ((BitVec.ofInt 8 b &&& ~~~(BitVec.ofInt 8 a)).toNat : Int) % 256 = 0 := h
      have := (BitVec.ofInt 8 b &&& ~~~(BitVec.ofInt 8 a)).isLt
      simp only [BitVec.toNat_ofNat]
      omega
    · intro h
      show ((BitVec.ofInt 8 b &&& ~~~(BitVec.ofInt 8 a)).toNat : Int) % 256 = 0
      rw [h]; rfl
  have ha : ((BitVec.ofInt 8 a).toNat : Int) = a := by
    rw [BitVec.toNat_ofInt]
    omega
  have e2 : (bits .or .u8 a b = a) ↔ (BitVec.ofInt 8 a ||| BitVec.ofInt 8 b = BitVec.ofInt 8 a) := by
    have hl := (BitVec.ofInt 8 a ||| BitVec.ofInt 8 b).isLt
    constructor
    · intro h
      apply BitVec.eq_of_toNat_eq
      have : ((BitVec.ofInt 8 a ||| BitVec.ofInt 8 b).toNat : Int) % 256 = a := h
      omega
    · intro h
      show ((BitVec.ofInt 8 a ||| BitVec.ofInt 8 b).toNat : Int) % 256 = a
      rw [h, ha]; omega
  rw [Bool.eq_iff_iff, beq_iff_eq, beq_iff_eq, e1, e2]
  exact bits_or _ _

theorem lives13 : circalaw13_lives 20 = some true := by kernel_rfl

noncomputable def chkText (a : Int) : Bool := match marks_Text 20 a, circaref13_Text 20 a, marks_Check 20 a with
  | some r, some q, some c => ((r.2 == 0) == decide (a < 4)) && ((r.2 == 0 || r.2 == 9) && ((r.1 == q) && (c == r.2)))
  | _, _, _ => false

noncomputable def chkOf (a : Int) : Bool := match marks_Of 20 a, circaref13_Of 20 a with
  | some r, some q => (r.1 == q) && (r.2 == decide (r.1 > 0))
  | _, _ => false

theorem text_ok (a : Int) (h0 : 0 ≤ a) (h1 : a < 256) : chkText a = true := allI (n := 256) (by kernel_rfl) a h0 h1
theorem of_ok (a : Int) (h0 : 0 ≤ a) (h1 : a < 256) : chkOf a = true := allI (n := 256) (by kernel_rfl) a h0 h1

noncomputable def chkAdd (a b : Int) : Bool := match marks_Add 20 a b with
  | some r => (r.2 == 0) && ((r.1 == bits .or .u8 a b) && ((match marks_Has 20 r.1 a, marks_Has 20 r.1 b, marks_Has 20 a b with | some x, some y, some z => x && (y && (z == (r.1 == a))) | _, _, _ => false)))
  | none => false
theorem add_ok (a b : Int) (h0 : 0 ≤ a) (h1 : a < 4) (h2 : 0 ≤ b) (h3 : b < 4) : chkAdd a b = true := by
  have h : allN (fun i => allN (fun j => chkAdd i j) 4) 4 = true := by kernel_rfl
  have := allN_ok (allN_ok h a.toNat (by omega)) b.toNat (by omega)
  rwa [Int.toNat_of_nonneg h0, Int.toNat_of_nonneg h2] at this

theorem add_bad (a b : Int) (h : a > 3 ∨ b > 3) : marks_Add 20 a b = some (0, 9) := by
  unfold marks_Add marks_Check
  by_cases ha : a > 3
  · simp [ha, ob]
  · have hb : b > 3 := by omega
    simp [ha, hb, ob]

theorem marksBytes_ok (a b c : Int) (a0 : 0 ≤ a) (a1 : a < 256) (b0 : 0 ≤ b) (b1 : b < 256) (c0 : 0 ≤ c) (c1 : c < 256) : circalaw13_MarksBytes 20 a b c = some true := by
  have ht := text_ok a a0 a1
  have ho := of_ok c c0 c1
  unfold chkText at ht
  split at ht
  case h_2 => cases ht
  rename_i r q k hr hq hk
  simp only [Bool.and_eq_true, Bool.or_eq_true, beq_iff_eq] at ht
  obtain ⟨t1, t2, t3, t4⟩ := ht
  subst t3 t4
  unfold chkOf at ho
  split at ho
  case h_2 => cases ho
  rename_i s u hs hu
  simp only [Bool.and_eq_true, beq_iff_eq] at ho
  obtain ⟨o1, o2⟩ := ho
  subst o1
  have hh : marks_Has 20 a b = some (bits .or .u8 a b == a) := by unfold marks_Has; rw [has_or a b a0 a1]
  unfold circalaw13_MarksBytes
  by_cases ha : a > 3
  · have e := add_bad a b (.inl ha)
    have t5 : r.2 = 9 := by
      rcases t2 with h | h
      · rw [h] at t1; simp at t1; omega
      · exact h
    simp only [hr, hq, hk, hs, hu, e, hh, lives13, ob, o2, t5]
    simp [ha, show ¬ a < 4 by omega]
  · have t5 : r.2 = 0 := by
      rcases t2 with h | h
      · exact h
      · rw [h] at t1; simp at t1; omega
    by_cases hb : b > 3
    · have e := add_bad a b (.inr hb)
      simp only [hr, hq, hk, hs, hu, e, hh, lives13, ob, o2, t5]
      simp [ha, hb, show a < 4 by omega]
    · have g := add_ok a b a0 (by omega) b0 (by omega)
      unfold chkAdd at g
      split at g
      case h_2 => cases g
      rename_i p hp
      simp only [Bool.and_eq_true, beq_iff_eq] at g
      obtain ⟨g1, g2, g3⟩ := g
      split at g3
      case h_2 => cases g3
      rename_i x y z hx hy hz
      simp only [Bool.and_eq_true, beq_iff_eq] at g3
      obtain ⟨rfl, rfl, g4⟩ := g3
      simp only [hr, hq, hk, hs, hu, hp, hx, hy, hz, lives13, ob, o2, t5, g1, g4]
      simp [ha, hb, g2, show a < 4 by omega]

end Go.Sh
