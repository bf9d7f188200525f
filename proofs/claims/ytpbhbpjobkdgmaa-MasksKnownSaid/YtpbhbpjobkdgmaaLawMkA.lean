/- Chapter 3: which strings are masks.
   Conditions: none. -/
import Derived.Test.YtpbhbpjobkdgmaaLawBase
import Derived.Test.YtpbhbpjobkdgmaaShQ
set_option linter.unusedSimpArgs false
set_option linter.unusedVariables false
namespace Go.Sh
open Go.Abs

def okB (c : UInt8) : Bool := c.toNat == 88 || (decide (48 ≤ c.toNat) && decide (c.toNat ≤ 57))

/-- The error of a mask. -/
def chk (s : List UInt8) : Int := if 18 < s.length then 3 else if s.all okB then (if s = [] then 5 else 0) else 5

theorem masks_Check_loop (n : Nat) (s0 s : List UInt8) (hn : s.length + 1 < n) :
    iterL (masks_Check_l0 n) n (s0, s, 0) = some (if s.all okB then .inr s0 else .inl 5) := by
  have := iterL_inv (step := masks_Check_l0 n) (fun x => x.1 = s0 ∧ x.2.1 = s ∧ x.2.2 ≤ s.length) (fun x => s.length - x.2.2)
    (fun x => if (s.drop x.2.2).all okB then .inr s0 else .inl 5) ?_ n (s0, s, 0) ⟨rfl, rfl, Nat.zero_le _⟩ (by simp; omega)
  · simpa using this
  rintro ⟨a, b, i⟩ ⟨rfl, rfl, hi⟩
  simp only at hi ⊢
  rcases Nat.lt_or_ge i b.length with hlt | hge
  · obtain ⟨c, hc⟩ : ∃ c, b[i]? = some c := ⟨b[i], List.getElem?_eq_getElem hlt⟩
    have hb : Nat.blt i b.length = true := Nat.ble_eq_true_of_le hlt
    rw [drop_get hc, List.all_cons]
    simp only [masks_Check_l0, hb, cond_true]
    by_cases h128 : c.toNat < 128
    · rw [dec_low hc h128]
      by_cases h88 : c.toNat = 88
      · refine .inl ⟨(a, b, i + 1), by simp [h88], ⟨rfl, rfl, by simp only; omega⟩, by simp only; omega, ?_⟩
        simp [okB, h88]
      · by_cases h48 : c.toNat < 48
        · refine .inr ?_
          have e1 : (((c.toNat : Nat) : Int) != 88) = true := by simp; omega
          have e2 : (decide (((c.toNat : Nat) : Int) < 48)) = true := by simp; omega
          have e3 : okB c = false := by simp [okB]; omega
          simp [e1, e2, e3]
        · by_cases h57 : 57 < c.toNat
          · refine .inr ?_
            have e1 : (((c.toNat : Nat) : Int) != 88) = true := by simp; omega
            have e2 : (decide (((c.toNat : Nat) : Int) < 48)) = false := by simp; omega
            have e4 : (decide (((c.toNat : Nat) : Int) > 57)) = true := by simp; omega
            have e3 : okB c = false := by simp [okB]; omega
            simp [e1, e2, e3, e4]
          · have e1 : (((c.toNat : Nat) : Int) != 88) = true := by simp; omega
            have e2 : (decide (((c.toNat : Nat) : Int) < 48)) = false := by simp; omega
            have e4 : (decide (((c.toNat : Nat) : Int) > 57)) = false := by simp; omega
            have e3 : okB c = true := by simp [okB]; omega
            refine .inl ⟨(a, b, i + 1), by simp only [e1, e2, e4, cond_true, cond_false], ⟨rfl, rfl, by simp only; omega⟩, by simp only; omega, ?_⟩
            simp [e3]
    · obtain ⟨h1, h2⟩ := dec_high hc (by omega)
      refine .inr ?_
      have e1 : ((((dec b i).1 : Nat) : Int) != 88) = true := by simp; omega
      have e2 : (decide ((((dec b i).1 : Nat) : Int) < 48)) = false := by simp; omega
      have e4 : (decide ((((dec b i).1 : Nat) : Int) > 57)) = true := by simp; omega
      have e3 : okB c = false := by simp [okB]; omega
      simp [e1, e2, e3, e4]
  · have hb : Nat.blt i b.length = false := by
      cases h : Nat.blt i b.length with
      | false => rfl
      | true => have : i < b.length := Nat.le_of_ble_eq_true h; omega
    refine .inr ?_
    simp only [masks_Check_l0, hb, cond_false]
    rw [List.drop_eq_nil_of_le hge]
    rfl

theorem masks_Check_eq (n : Nat) (s : List UInt8) (hn : 30 ≤ n) : masks_Check n s = some (chk s) := by
  unfold masks_Check chk
  by_cases h : 18 < s.length
  · have : (decide (((List.length s : Nat) : Int) > 18)) = true := by simp; omega
    simp [this, h]
  · have e : (decide (((List.length s : Nat) : Int) > 18)) = false := by simp; omega
    simp only [e, cond_false, h, if_false]
    rw [masks_Check_loop n s s (by omega)]
    by_cases ha : s.all okB = true
    · simp only [ha, if_true, ob]
      by_cases hs : s = []
      · simp [hs]
      · have : (s == ([] : List UInt8)) = false := by simpa using hs
        simp [this, hs]
    · simp [ha, ob]

theorem ref_Check_loop (n : Nat) (s : List UInt8) (hn : s.length + 1 < n) (hl : s.length ≤ 100) :
    iterL (circaref03_Check_l0 n) n (s, 0) = some (cond (s.all okB) (.inr s) (.inl 5)) := by
  have := iterL_inv (step := circaref03_Check_l0 n) (fun x => x.1 = s ∧ 0 ≤ x.2 ∧ x.2 ≤ s.length) (fun x => s.length - x.2.toNat)
    (fun x => cond ((s.drop x.2.toNat).all okB) (.inr s) (.inl 5)) ?_ n (s, 0) ⟨rfl, by simp, by simp⟩ (by simp; omega)
  · simpa using this
  rintro ⟨b, i⟩ ⟨rfl, h0, hi⟩
  simp only at h0 hi hn hl ⊢
  obtain ⟨j, rfl⟩ : ∃ j : Nat, i = j := ⟨i.toNat, by omega⟩
  simp only [Int.toNat_natCast]
  rcases Nat.lt_or_ge j b.length with hlt | hge
  · obtain ⟨c, hc⟩ : ∃ c, b[j]? = some c := ⟨b[j], List.getElem?_eq_getElem hlt⟩
    have hb : (decide ((j : Int) < ((List.length b : Nat) : Int))) = true := by simp; omega
    have hw : IntKind.wrap .i64 ((j : Int) + 1) = ((j + 1 : Nat) : Int) := by rw [wrap_i64 _ (by omega) (by omega)]; omega
    rw [drop_get hc, List.all_cons]
    simp only [circaref03_Check_l0, hb, cond_true, sx_nat hc, ob, hw]
    by_cases h88 : c.toNat = 88
    · refine .inl ⟨(b, ((j + 1 : Nat) : Int)), by simp [h88], ⟨rfl, by simp only; omega, by simp only; omega⟩, by simp only [Int.toNat_natCast]; omega, ?_⟩
      simp only [Int.toNat_natCast]
      simp [okB, h88]
    · have e1 : (((c.toNat : Nat) : Int) != 88) = true := by simp; omega
      by_cases h48 : c.toNat < 48
      · refine .inr ?_
        have e2 : (decide (((c.toNat : Nat) : Int) < 48)) = true := by simp; omega
        have e3 : okB c = false := by simp [okB]; omega
        simp [e1, e2, e3]
      · have e2 : (decide (((c.toNat : Nat) : Int) < 48)) = false := by simp; omega
        by_cases h57 : 57 < c.toNat
        · refine .inr ?_
          have e4 : (decide (((c.toNat : Nat) : Int) > 57)) = true := by simp; omega
          have e3 : okB c = false := by simp [okB]; omega
          simp [e1, e2, e3, e4]
        · have e4 : (decide (((c.toNat : Nat) : Int) > 57)) = false := by simp; omega
          have e3 : okB c = true := by simp [okB]; omega
          refine .inl ⟨(b, ((j + 1 : Nat) : Int)), by simp only [e1, e2, e4, cond_true, cond_false], ⟨rfl, by simp only; omega, by simp only; omega⟩, by simp only [Int.toNat_natCast]; omega, ?_⟩
          simp only [Int.toNat_natCast]
          simp [e3]
  · have hb : (decide ((j : Int) < ((List.length b : Nat) : Int))) = false := by simp; omega
    refine .inr ?_
    simp only [circaref03_Check_l0, hb, cond_false]
    rw [List.drop_eq_nil_of_le hge]
    rfl

theorem ref_Check_eq (n : Nat) (s : List UInt8) (hn : 30 ≤ n) : circaref03_Check n s = some (chk s) := by
  unfold circaref03_Check chk
  by_cases h : 18 < s.length
  · have : (decide (((List.length s : Nat) : Int) > 18)) = true := by simp; omega
    simp [this, h]
  · have e : (decide (((List.length s : Nat) : Int) > 18)) = false := by simp; omega
    simp only [e, cond_false, h, if_false]
    rw [ref_Check_loop n s (by omega) (by omega)]
    by_cases ha : s.all okB = true
    · simp only [ha, if_true, cond_true, ob]
      by_cases hs : s = []
      · simp [hs]
      · have : (((List.length s : Nat) : Int) == 0) = false := by
          have : s.length ≠ 0 := fun h => hs (List.eq_nil_of_length_eq_zero h)
          simp; omega
        simp [this, hs]
    · simp [ha, ob]

theorem chk_len {s : List UInt8} (h : chk s = 0) : s.length ≤ 18 ∧ s ≠ [] ∧ ∀ c ∈ s, okB c = true := by
  unfold chk at h
  split at h
  · simp at h
  · split at h
    · rename_i ha
      split at h
      · simp at h
      · rename_i hs
        exact ⟨by omega, hs, by simpa using ha⟩
    · simp at h

/-! ### Refused masks -/

section
variable {n : Nat} {s t : List UInt8} {k : Int}

theorem bne_of {x : Int} (h : x ≠ 0) : (x != 0) = true := by simpa using h

theorem Count_bad (hn : 30 ≤ n) (h : chk s ≠ 0) : masks_Count n s = some (0, chk s) := by simp [masks_Count, masks_Check_eq n s hn, ob, bne_of h]
theorem Least_bad (hn : 30 ≤ n) (h : chk s ≠ 0) : masks_Least n s = some (0, chk s) := by simp [masks_Least, masks_Check_eq n s hn, ob, bne_of h]
theorem Greatest_bad (hn : 30 ≤ n) (h : chk s ≠ 0) : masks_Greatest n s = some (0, chk s) := by simp [masks_Greatest, masks_Check_eq n s hn, ob, bne_of h]
theorem Next_bad (hn : 30 ≤ n) (h : chk s ≠ 0) : masks_Next n s k = some (0, chk s) := by simp [masks_Next, masks_Check_eq n s hn, ob, bne_of h]
theorem Prev_bad (hn : 30 ≤ n) (h : chk s ≠ 0) : masks_Prev n s k = some (0, chk s) := by simp [masks_Prev, masks_Check_eq n s hn, ob, bne_of h]
theorem Nth_bad (hn : 30 ≤ n) (h : chk s ≠ 0) : masks_Nth n s k = some (0, chk s) := by simp [masks_Nth, Count_bad hn h, ob, bne_of h]
theorem Index_bad (hn : 30 ≤ n) (h : chk s ≠ 0) : masks_Index n s k = some (0, chk s) := by simp [masks_Index, masks_Check_eq n s hn, ob, bne_of h]
theorem Has_bad (hn : 30 ≤ n) (h : chk s ≠ 0) : masks_Has n s k = some false := by simp [masks_Has, masks_Check_eq n s hn, ob, bne_of h]
theorem Common_bad1 (hn : 30 ≤ n) (h : chk s ≠ 0) : masks_Common n s t = some ([], chk s) := by simp [masks_Common, masks_Check_eq n s hn, ob, bne_of h]
theorem Common_bad2 (hn : 30 ≤ n) (h0 : chk s = 0) (h : chk t ≠ 0) : masks_Common n s t = some ([], chk t) := by simp [masks_Common, masks_Check_eq n s hn, masks_Check_eq n t hn, ob, h0, bne_of h]
end

end Go.Sh
