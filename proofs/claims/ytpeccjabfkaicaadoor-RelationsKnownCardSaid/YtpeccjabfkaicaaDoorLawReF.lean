/- Chapter 31: the law of names.
   Conditions: none. Printed by program in part. -/
import Derived.Test.YtpeccjabfkaicaaDoorLawReE
set_option linter.unusedSimpArgs false
set_option linter.unusedVariables false
namespace Go.Sh
open Go.Abs

theorem nm_1 (m : Nat) : relations_Name (m + 300) 1 = some [66, 101, 102, 111, 114, 101] := by kernel_rfl
theorem rnm_1 (m : Nat) : circaref31_Name (m + 300) (IntKind.wrap .i64 1) = some [66, 101, 102, 111, 114, 101] := by kernel_rfl
theorem rmi_1 (m : Nat) : circaref31_Mirror (m + 300) (IntKind.wrap .i64 1) = some 13 := by kernel_rfl
theorem mi_1 (m : Nat) : relations_Mirror (m + 300) 1 = some (13, 0) := by kernel_rfl
theorem one_1 (m : Nat) : relations_One (m + 300) 1 = some (2, 0) := by kernel_rfl
theorem has_1 (m : Nat) : relations_Set_Has (m + 300) 2 1 = some true := by kernel_rfl
theorem cnt_1 (m : Nat) : relations_Set_Count (m + 300) 2 = some 1 := by kernel_rfl
theorem names_1 (m : Nat) (a1 : Int) (h0 : 0 ≤ a1) (h1 : a1 < 256) : circalaw31_RelationsNames (m + 300) 1 a1 = some true := by
  have hl := re_lives m
  have hc := rel_Compose (m + 100) 1 a1
  have e1 : IntKind.wrap .i64 1 = 1 := by decide
  have e2 : IntKind.wrap .i64 (14 - 1) = 13 := by decide
  have e3 : IntKind.wrap .i64 13 = 13 := by decide
  have e4 : IntKind.wrap .u16 ((1 : Int) * 2 ^ (min (Int.toNat 1) (IntKind.bits .u16))) = 2 := by decide
  have q := rnm_1 m
  have q2 := rmi_1 m
  rw [e1] at q q2
  have hcv : relations_Converse (m + 300) 1 = some (13, 0) := by rw [rel_conv]; rfl
  by_cases c1 : a1 < 1
  · rw [if_neg (by omega)] at hc
    simp only [circalaw31_RelationsNames, hcv, mi_1 m, one_1 m, hc, nm_1 m, e1, e2, e3, e4, q, q2, ob, has_1 m, cnt_1 m, cond_dec, cond_beq, cond_bne, cond_neg, rel_Has_not (m + 300) 2 a1 (by omega), hl, c1]
    rfl
  · by_cases c2 : a1 > 13
    · rw [if_neg (by omega)] at hc
      simp only [circalaw31_RelationsNames, hcv, mi_1 m, one_1 m, hc, nm_1 m, e1, e2, e3, e4, q, q2, ob, has_1 m, cnt_1 m, cond_dec, cond_beq, cond_bne, cond_neg, rel_Has_not (m + 300) 2 a1 (by omega), hl, c1, c2]
      rfl
    · obtain ⟨v, hv, hv0, _⟩ := tabF_lt (r := 1) (s := a1) ⟨⟨by decide, by decide⟩, by omega, by omega⟩
      rw [if_pos ⟨⟨by decide, by decide⟩, by omega, by omega⟩, hv] at hc
      have hv1 : ¬ ((v : Nat) : Int) = 0 := by omega
      simp only [circalaw31_RelationsNames, hcv, mi_1 m, one_1 m, hc, nm_1 m, e1, e2, e3, e4, q, q2, ob, has_1 m, cnt_1 m, cond_dec, cond_beq, cond_bne, cond_neg, hl, c1, c2, hv1]
      rfl

theorem nm_2 (m : Nat) : relations_Name (m + 300) 2 = some [77, 101, 101, 116, 115] := by kernel_rfl
theorem rnm_2 (m : Nat) : circaref31_Name (m + 300) (IntKind.wrap .i64 2) = some [77, 101, 101, 116, 115] := by kernel_rfl
theorem rmi_2 (m : Nat) : circaref31_Mirror (m + 300) (IntKind.wrap .i64 2) = some 12 := by kernel_rfl
theorem mi_2 (m : Nat) : relations_Mirror (m + 300) 2 = some (12, 0) := by kernel_rfl
theorem one_2 (m : Nat) : relations_One (m + 300) 2 = some (4, 0) := by kernel_rfl
theorem has_2 (m : Nat) : relations_Set_Has (m + 300) 4 2 = some true := by kernel_rfl
theorem cnt_2 (m : Nat) : relations_Set_Count (m + 300) 4 = some 1 := by kernel_rfl
theorem names_2 (m : Nat) (a1 : Int) (h0 : 0 ≤ a1) (h1 : a1 < 256) : circalaw31_RelationsNames (m + 300) 2 a1 = some true := by
  have hl := re_lives m
  have hc := rel_Compose (m + 100) 2 a1
  have e1 : IntKind.wrap .i64 2 = 2 := by decide
  have e2 : IntKind.wrap .i64 (14 - 2) = 12 := by decide
  have e3 : IntKind.wrap .i64 12 = 12 := by decide
  have e4 : IntKind.wrap .u16 ((1 : Int) * 2 ^ (min (Int.toNat 2) (IntKind.bits .u16))) = 4 := by decide
  have q := rnm_2 m
  have q2 := rmi_2 m
  rw [e1] at q q2
  have hcv : relations_Converse (m + 300) 2 = some (12, 0) := by rw [rel_conv]; rfl
  by_cases c1 : a1 < 1
  · rw [if_neg (by omega)] at hc
    simp only [circalaw31_RelationsNames, hcv, mi_2 m, one_2 m, hc, nm_2 m, e1, e2, e3, e4, q, q2, ob, has_2 m, cnt_2 m, cond_dec, cond_beq, cond_bne, cond_neg, rel_Has_not (m + 300) 4 a1 (by omega), hl, c1]
    rfl
  · by_cases c2 : a1 > 13
    · rw [if_neg (by omega)] at hc
      simp only [circalaw31_RelationsNames, hcv, mi_2 m, one_2 m, hc, nm_2 m, e1, e2, e3, e4, q, q2, ob, has_2 m, cnt_2 m, cond_dec, cond_beq, cond_bne, cond_neg, rel_Has_not (m + 300) 4 a1 (by omega), hl, c1, c2]
      rfl
    · obtain ⟨v, hv, hv0, _⟩ := tabF_lt (r := 2) (s := a1) ⟨⟨by decide, by decide⟩, by omega, by omega⟩
      rw [if_pos ⟨⟨by decide, by decide⟩, by omega, by omega⟩, hv] at hc
      have hv1 : ¬ ((v : Nat) : Int) = 0 := by omega
      simp only [circalaw31_RelationsNames, hcv, mi_2 m, one_2 m, hc, nm_2 m, e1, e2, e3, e4, q, q2, ob, has_2 m, cnt_2 m, cond_dec, cond_beq, cond_bne, cond_neg, hl, c1, c2, hv1]
      rfl

theorem nm_3 (m : Nat) : relations_Name (m + 300) 3 = some [79, 118, 101, 114, 108, 97, 112, 115] := by kernel_rfl
theorem rnm_3 (m : Nat) : circaref31_Name (m + 300) (IntKind.wrap .i64 3) = some [79, 118, 101, 114, 108, 97, 112, 115] := by kernel_rfl
theorem rmi_3 (m : Nat) : circaref31_Mirror (m + 300) (IntKind.wrap .i64 3) = some 11 := by kernel_rfl
theorem mi_3 (m : Nat) : relations_Mirror (m + 300) 3 = some (11, 0) := by kernel_rfl
theorem one_3 (m : Nat) : relations_One (m + 300) 3 = some (8, 0) := by kernel_rfl
theorem has_3 (m : Nat) : relations_Set_Has (m + 300) 8 3 = some true := by kernel_rfl
theorem cnt_3 (m : Nat) : relations_Set_Count (m + 300) 8 = some 1 := by kernel_rfl
theorem names_3 (m : Nat) (a1 : Int) (h0 : 0 ≤ a1) (h1 : a1 < 256) : circalaw31_RelationsNames (m + 300) 3 a1 = some true := by
  have hl := re_lives m
  have hc := rel_Compose (m + 100) 3 a1
  have e1 : IntKind.wrap .i64 3 = 3 := by decide
  have e2 : IntKind.wrap .i64 (14 - 3) = 11 := by decide
  have e3 : IntKind.wrap .i64 11 = 11 := by decide
  have e4 : IntKind.wrap .u16 ((1 : Int) * 2 ^ (min (Int.toNat 3) (IntKind.bits .u16))) = 8 := by decide
  have q := rnm_3 m
  have q2 := rmi_3 m
  rw [e1] at q q2
  have hcv : relations_Converse (m + 300) 3 = some (11, 0) := by rw [rel_conv]; rfl
  by_cases c1 : a1 < 1
  · rw [if_neg (by omega)] at hc
    simp only [circalaw31_RelationsNames, hcv, mi_3 m, one_3 m, hc, nm_3 m, e1, e2, e3, e4, q, q2, ob, has_3 m, cnt_3 m, cond_dec, cond_beq, cond_bne, cond_neg, rel_Has_not (m + 300) 8 a1 (by omega), hl, c1]
    rfl
  · by_cases c2 : a1 > 13
    · rw [if_neg (by omega)] at hc
      simp only [circalaw31_RelationsNames, hcv, mi_3 m, one_3 m, hc, nm_3 m, e1, e2, e3, e4, q, q2, ob, has_3 m, cnt_3 m, cond_dec, cond_beq, cond_bne, cond_neg, rel_Has_not (m + 300) 8 a1 (by omega), hl, c1, c2]
      rfl
    · obtain ⟨v, hv, hv0, _⟩ := tabF_lt (r := 3) (s := a1) ⟨⟨by decide, by decide⟩, by omega, by omega⟩
      rw [if_pos ⟨⟨by decide, by decide⟩, by omega, by omega⟩, hv] at hc
      have hv1 : ¬ ((v : Nat) : Int) = 0 := by omega
      simp only [circalaw31_RelationsNames, hcv, mi_3 m, one_3 m, hc, nm_3 m, e1, e2, e3, e4, q, q2, ob, has_3 m, cnt_3 m, cond_dec, cond_beq, cond_bne, cond_neg, hl, c1, c2, hv1]
      rfl

theorem nm_4 (m : Nat) : relations_Name (m + 300) 4 = some [83, 116, 97, 114, 116, 115] := by kernel_rfl
theorem rnm_4 (m : Nat) : circaref31_Name (m + 300) (IntKind.wrap .i64 4) = some [83, 116, 97, 114, 116, 115] := by kernel_rfl
theorem rmi_4 (m : Nat) : circaref31_Mirror (m + 300) (IntKind.wrap .i64 4) = some 6 := by kernel_rfl
theorem mi_4 (m : Nat) : relations_Mirror (m + 300) 4 = some (6, 0) := by kernel_rfl
theorem one_4 (m : Nat) : relations_One (m + 300) 4 = some (16, 0) := by kernel_rfl
theorem has_4 (m : Nat) : relations_Set_Has (m + 300) 16 4 = some true := by kernel_rfl
theorem cnt_4 (m : Nat) : relations_Set_Count (m + 300) 16 = some 1 := by kernel_rfl
theorem names_4 (m : Nat) (a1 : Int) (h0 : 0 ≤ a1) (h1 : a1 < 256) : circalaw31_RelationsNames (m + 300) 4 a1 = some true := by
  have hl := re_lives m
  have hc := rel_Compose (m + 100) 4 a1
  have e1 : IntKind.wrap .i64 4 = 4 := by decide
  have e2 : IntKind.wrap .i64 (14 - 4) = 10 := by decide
  have e3 : IntKind.wrap .i64 10 = 10 := by decide
  have e4 : IntKind.wrap .u16 ((1 : Int) * 2 ^ (min (Int.toNat 4) (IntKind.bits .u16))) = 16 := by decide
  have q := rnm_4 m
  have q2 := rmi_4 m
  rw [e1] at q q2
  have hcv : relations_Converse (m + 300) 4 = some (10, 0) := by rw [rel_conv]; rfl
  by_cases c1 : a1 < 1
  · rw [if_neg (by omega)] at hc
    simp only [circalaw31_RelationsNames, hcv, mi_4 m, one_4 m, hc, nm_4 m, e1, e2, e3, e4, q, q2, ob, has_4 m, cnt_4 m, cond_dec, cond_beq, cond_bne, cond_neg, rel_Has_not (m + 300) 16 a1 (by omega), hl, c1]
    rfl
  · by_cases c2 : a1 > 13
    · rw [if_neg (by omega)] at hc
      simp only [circalaw31_RelationsNames, hcv, mi_4 m, one_4 m, hc, nm_4 m, e1, e2, e3, e4, q, q2, ob, has_4 m, cnt_4 m, cond_dec, cond_beq, cond_bne, cond_neg, rel_Has_not (m + 300) 16 a1 (by omega), hl, c1, c2]
      rfl
    · obtain ⟨v, hv, hv0, _⟩ := tabF_lt (r := 4) (s := a1) ⟨⟨by decide, by decide⟩, by omega, by omega⟩
      rw [if_pos ⟨⟨by decide, by decide⟩, by omega, by omega⟩, hv] at hc
      have hv1 : ¬ ((v : Nat) : Int) = 0 := by omega
      simp only [circalaw31_RelationsNames, hcv, mi_4 m, one_4 m, hc, nm_4 m, e1, e2, e3, e4, q, q2, ob, has_4 m, cnt_4 m, cond_dec, cond_beq, cond_bne, cond_neg, hl, c1, c2, hv1]
      rfl

theorem nm_5 (m : Nat) : relations_Name (m + 300) 5 = some [68, 117, 114, 105, 110, 103] := by kernel_rfl
theorem rnm_5 (m : Nat) : circaref31_Name (m + 300) (IntKind.wrap .i64 5) = some [68, 117, 114, 105, 110, 103] := by kernel_rfl
theorem rmi_5 (m : Nat) : circaref31_Mirror (m + 300) (IntKind.wrap .i64 5) = some 5 := by kernel_rfl
theorem mi_5 (m : Nat) : relations_Mirror (m + 300) 5 = some (5, 0) := by kernel_rfl
theorem one_5 (m : Nat) : relations_One (m + 300) 5 = some (32, 0) := by kernel_rfl
theorem has_5 (m : Nat) : relations_Set_Has (m + 300) 32 5 = some true := by kernel_rfl
theorem cnt_5 (m : Nat) : relations_Set_Count (m + 300) 32 = some 1 := by kernel_rfl
theorem names_5 (m : Nat) (a1 : Int) (h0 : 0 ≤ a1) (h1 : a1 < 256) : circalaw31_RelationsNames (m + 300) 5 a1 = some true := by
  have hl := re_lives m
  have hc := rel_Compose (m + 100) 5 a1
  have e1 : IntKind.wrap .i64 5 = 5 := by decide
  have e2 : IntKind.wrap .i64 (14 - 5) = 9 := by decide
  have e3 : IntKind.wrap .i64 9 = 9 := by decide
  have e4 : IntKind.wrap .u16 ((1 : Int) * 2 ^ (min (Int.toNat 5) (IntKind.bits .u16))) = 32 := by decide
  have q := rnm_5 m
  have q2 := rmi_5 m
  rw [e1] at q q2
  have hcv : relations_Converse (m + 300) 5 = some (9, 0) := by rw [rel_conv]; rfl
  by_cases c1 : a1 < 1
  · rw [if_neg (by omega)] at hc
    simp only [circalaw31_RelationsNames, hcv, mi_5 m, one_5 m, hc, nm_5 m, e1, e2, e3, e4, q, q2, ob, has_5 m, cnt_5 m, cond_dec, cond_beq, cond_bne, cond_neg, rel_Has_not (m + 300) 32 a1 (by omega), hl, c1]
    rfl
  · by_cases c2 : a1 > 13
    · rw [if_neg (by omega)] at hc
      simp only [circalaw31_RelationsNames, hcv, mi_5 m, one_5 m, hc, nm_5 m, e1, e2, e3, e4, q, q2, ob, has_5 m, cnt_5 m, cond_dec, cond_beq, cond_bne, cond_neg, rel_Has_not (m + 300) 32 a1 (by omega), hl, c1, c2]
      rfl
    · obtain ⟨v, hv, hv0, _⟩ := tabF_lt (r := 5) (s := a1) ⟨⟨by decide, by decide⟩, by omega, by omega⟩
      rw [if_pos ⟨⟨by decide, by decide⟩, by omega, by omega⟩, hv] at hc
      have hv1 : ¬ ((v : Nat) : Int) = 0 := by omega
      simp only [circalaw31_RelationsNames, hcv, mi_5 m, one_5 m, hc, nm_5 m, e1, e2, e3, e4, q, q2, ob, has_5 m, cnt_5 m, cond_dec, cond_beq, cond_bne, cond_neg, hl, c1, c2, hv1]
      rfl

theorem nm_6 (m : Nat) : relations_Name (m + 300) 6 = some [70, 105, 110, 105, 115, 104, 101, 115] := by kernel_rfl
theorem rnm_6 (m : Nat) : circaref31_Name (m + 300) (IntKind.wrap .i64 6) = some [70, 105, 110, 105, 115, 104, 101, 115] := by kernel_rfl
theorem rmi_6 (m : Nat) : circaref31_Mirror (m + 300) (IntKind.wrap .i64 6) = some 4 := by kernel_rfl
theorem mi_6 (m : Nat) : relations_Mirror (m + 300) 6 = some (4, 0) := by kernel_rfl
theorem one_6 (m : Nat) : relations_One (m + 300) 6 = some (64, 0) := by kernel_rfl
theorem has_6 (m : Nat) : relations_Set_Has (m + 300) 64 6 = some true := by kernel_rfl
theorem cnt_6 (m : Nat) : relations_Set_Count (m + 300) 64 = some 1 := by kernel_rfl
theorem names_6 (m : Nat) (a1 : Int) (h0 : 0 ≤ a1) (h1 : a1 < 256) : circalaw31_RelationsNames (m + 300) 6 a1 = some true := by
  have hl := re_lives m
  have hc := rel_Compose (m + 100) 6 a1
  have e1 : IntKind.wrap .i64 6 = 6 := by decide
  have e2 : IntKind.wrap .i64 (14 - 6) = 8 := by decide
  have e3 : IntKind.wrap .i64 8 = 8 := by decide
  have e4 : IntKind.wrap .u16 ((1 : Int) * 2 ^ (min (Int.toNat 6) (IntKind.bits .u16))) = 64 := by decide
  have q := rnm_6 m
  have q2 := rmi_6 m
  rw [e1] at q q2
  have hcv : relations_Converse (m + 300) 6 = some (8, 0) := by rw [rel_conv]; rfl
  by_cases c1 : a1 < 1
  · rw [if_neg (by omega)] at hc
    simp only [circalaw31_RelationsNames, hcv, mi_6 m, one_6 m, hc, nm_6 m, e1, e2, e3, e4, q, q2, ob, has_6 m, cnt_6 m, cond_dec, cond_beq, cond_bne, cond_neg, rel_Has_not (m + 300) 64 a1 (by omega), hl, c1]
    rfl
  · by_cases c2 : a1 > 13
    · rw [if_neg (by omega)] at hc
      simp only [circalaw31_RelationsNames, hcv, mi_6 m, one_6 m, hc, nm_6 m, e1, e2, e3, e4, q, q2, ob, has_6 m, cnt_6 m, cond_dec, cond_beq, cond_bne, cond_neg, rel_Has_not (m + 300) 64 a1 (by omega), hl, c1, c2]
      rfl
    · obtain ⟨v, hv, hv0, _⟩ := tabF_lt (r := 6) (s := a1) ⟨⟨by decide, by decide⟩, by omega, by omega⟩
      rw [if_pos ⟨⟨by decide, by decide⟩, by omega, by omega⟩, hv] at hc
      have hv1 : ¬ ((v : Nat) : Int) = 0 := by omega
      simp only [circalaw31_RelationsNames, hcv, mi_6 m, one_6 m, hc, nm_6 m, e1, e2, e3, e4, q, q2, ob, has_6 m, cnt_6 m, cond_dec, cond_beq, cond_bne, cond_neg, hl, c1, c2, hv1]
      rfl

theorem nm_7 (m : Nat) : relations_Name (m + 300) 7 = some [69, 113, 117, 97, 108, 115] := by kernel_rfl
theorem rnm_7 (m : Nat) : circaref31_Name (m + 300) (IntKind.wrap .i64 7) = some [69, 113, 117, 97, 108, 115] := by kernel_rfl
theorem rmi_7 (m : Nat) : circaref31_Mirror (m + 300) (IntKind.wrap .i64 7) = some 7 := by kernel_rfl
theorem mi_7 (m : Nat) : relations_Mirror (m + 300) 7 = some (7, 0) := by kernel_rfl
theorem one_7 (m : Nat) : relations_One (m + 300) 7 = some (128, 0) := by kernel_rfl
theorem has_7 (m : Nat) : relations_Set_Has (m + 300) 128 7 = some true := by kernel_rfl
theorem cnt_7 (m : Nat) : relations_Set_Count (m + 300) 128 = some 1 := by kernel_rfl
theorem names_7 (m : Nat) (a1 : Int) (h0 : 0 ≤ a1) (h1 : a1 < 256) : circalaw31_RelationsNames (m + 300) 7 a1 = some true := by
  have hl := re_lives m
  have hc := rel_Compose (m + 100) 7 a1
  have e1 : IntKind.wrap .i64 7 = 7 := by decide
  have e2 : IntKind.wrap .i64 (14 - 7) = 7 := by decide
  have e3 : IntKind.wrap .i64 7 = 7 := by decide
  have e4 : IntKind.wrap .u16 ((1 : Int) * 2 ^ (min (Int.toNat 7) (IntKind.bits .u16))) = 128 := by decide
  have q := rnm_7 m
  have q2 := rmi_7 m
  rw [e1] at q q2
  have hcv : relations_Converse (m + 300) 7 = some (7, 0) := by rw [rel_conv]; rfl
  by_cases c1 : a1 < 1
  · rw [if_neg (by omega)] at hc
    simp only [circalaw31_RelationsNames, hcv, mi_7 m, one_7 m, hc, nm_7 m, e1, e2, e3, e4, q, q2, ob, has_7 m, cnt_7 m, cond_dec, cond_beq, cond_bne, cond_neg, rel_Has_not (m + 300) 128 a1 (by omega), hl, c1]
    rfl
  · by_cases c2 : a1 > 13
    · rw [if_neg (by omega)] at hc
      simp only [circalaw31_RelationsNames, hcv, mi_7 m, one_7 m, hc, nm_7 m, e1, e2, e3, e4, q, q2, ob, has_7 m, cnt_7 m, cond_dec, cond_beq, cond_bne, cond_neg, rel_Has_not (m + 300) 128 a1 (by omega), hl, c1, c2]
      rfl
    · obtain ⟨v, hv, hv0, _⟩ := tabF_lt (r := 7) (s := a1) ⟨⟨by decide, by decide⟩, by omega, by omega⟩
      rw [if_pos ⟨⟨by decide, by decide⟩, by omega, by omega⟩, hv] at hc
      have hv1 : ¬ ((v : Nat) : Int) = 0 := by omega
      simp only [circalaw31_RelationsNames, hcv, mi_7 m, one_7 m, hc, nm_7 m, e1, e2, e3, e4, q, q2, ob, has_7 m, cnt_7 m, cond_dec, cond_beq, cond_bne, cond_neg, hl, c1, c2, hv1]
      rfl

theorem nm_8 (m : Nat) : relations_Name (m + 300) 8 = some [70, 105, 110, 105, 115, 104, 101, 100, 66, 121] := by kernel_rfl
theorem rnm_8 (m : Nat) : circaref31_Name (m + 300) (IntKind.wrap .i64 8) = some [70, 105, 110, 105, 115, 104, 101, 100, 66, 121] := by kernel_rfl
theorem rmi_8 (m : Nat) : circaref31_Mirror (m + 300) (IntKind.wrap .i64 8) = some 10 := by kernel_rfl
theorem mi_8 (m : Nat) : relations_Mirror (m + 300) 8 = some (10, 0) := by kernel_rfl
theorem one_8 (m : Nat) : relations_One (m + 300) 8 = some (256, 0) := by kernel_rfl
theorem has_8 (m : Nat) : relations_Set_Has (m + 300) 256 8 = some true := by kernel_rfl
theorem cnt_8 (m : Nat) : relations_Set_Count (m + 300) 256 = some 1 := by kernel_rfl
theorem names_8 (m : Nat) (a1 : Int) (h0 : 0 ≤ a1) (h1 : a1 < 256) : circalaw31_RelationsNames (m + 300) 8 a1 = some true := by
  have hl := re_lives m
  have hc := rel_Compose (m + 100) 8 a1
  have e1 : IntKind.wrap .i64 8 = 8 := by decide
  have e2 : IntKind.wrap .i64 (14 - 8) = 6 := by decide
  have e3 : IntKind.wrap .i64 6 = 6 := by decide
  have e4 : IntKind.wrap .u16 ((1 : Int) * 2 ^ (min (Int.toNat 8) (IntKind.bits .u16))) = 256 := by decide
  have q := rnm_8 m
  have q2 := rmi_8 m
  rw [e1] at q q2
  have hcv : relations_Converse (m + 300) 8 = some (6, 0) := by rw [rel_conv]; rfl
  by_cases c1 : a1 < 1
  · rw [if_neg (by omega)] at hc
    simp only [circalaw31_RelationsNames, hcv, mi_8 m, one_8 m, hc, nm_8 m, e1, e2, e3, e4, q, q2, ob, has_8 m, cnt_8 m, cond_dec, cond_beq, cond_bne, cond_neg, rel_Has_not (m + 300) 256 a1 (by omega), hl, c1]
    rfl
  · by_cases c2 : a1 > 13
    · rw [if_neg (by omega)] at hc
      simp only [circalaw31_RelationsNames, hcv, mi_8 m, one_8 m, hc, nm_8 m, e1, e2, e3, e4, q, q2, ob, has_8 m, cnt_8 m, cond_dec, cond_beq, cond_bne, cond_neg, rel_Has_not (m + 300) 256 a1 (by omega), hl, c1, c2]
      rfl
    · obtain ⟨v, hv, hv0, _⟩ := tabF_lt (r := 8) (s := a1) ⟨⟨by decide, by decide⟩, by omega, by omega⟩
      rw [if_pos ⟨⟨by decide, by decide⟩, by omega, by omega⟩, hv] at hc
      have hv1 : ¬ ((v : Nat) : Int) = 0 := by omega
      simp only [circalaw31_RelationsNames, hcv, mi_8 m, one_8 m, hc, nm_8 m, e1, e2, e3, e4, q, q2, ob, has_8 m, cnt_8 m, cond_dec, cond_beq, cond_bne, cond_neg, hl, c1, c2, hv1]
      rfl

theorem nm_9 (m : Nat) : relations_Name (m + 300) 9 = some [67, 111, 110, 116, 97, 105, 110, 115] := by kernel_rfl
theorem rnm_9 (m : Nat) : circaref31_Name (m + 300) (IntKind.wrap .i64 9) = some [67, 111, 110, 116, 97, 105, 110, 115] := by kernel_rfl
theorem rmi_9 (m : Nat) : circaref31_Mirror (m + 300) (IntKind.wrap .i64 9) = some 9 := by kernel_rfl
theorem mi_9 (m : Nat) : relations_Mirror (m + 300) 9 = some (9, 0) := by kernel_rfl
theorem one_9 (m : Nat) : relations_One (m + 300) 9 = some (512, 0) := by kernel_rfl
theorem has_9 (m : Nat) : relations_Set_Has (m + 300) 512 9 = some true := by kernel_rfl
theorem cnt_9 (m : Nat) : relations_Set_Count (m + 300) 512 = some 1 := by kernel_rfl
theorem names_9 (m : Nat) (a1 : Int) (h0 : 0 ≤ a1) (h1 : a1 < 256) : circalaw31_RelationsNames (m + 300) 9 a1 = some true := by
  have hl := re_lives m
  have hc := rel_Compose (m + 100) 9 a1
  have e1 : IntKind.wrap .i64 9 = 9 := by decide
  have e2 : IntKind.wrap .i64 (14 - 9) = 5 := by decide
  have e3 : IntKind.wrap .i64 5 = 5 := by decide
  have e4 : IntKind.wrap .u16 ((1 : Int) * 2 ^ (min (Int.toNat 9) (IntKind.bits .u16))) = 512 := by decide
  have q := rnm_9 m
  have q2 := rmi_9 m
  rw [e1] at q q2
  have hcv : relations_Converse (m + 300) 9 = some (5, 0) := by rw [rel_conv]; rfl
  by_cases c1 : a1 < 1
  · rw [if_neg (by omega)] at hc
    simp only [circalaw31_RelationsNames, hcv, mi_9 m, one_9 m, hc, nm_9 m, e1, e2, e3, e4, q, q2, ob, has_9 m, cnt_9 m, cond_dec, cond_beq, cond_bne, cond_neg, rel_Has_not (m + 300) 512 a1 (by omega), hl, c1]
    rfl
  · by_cases c2 : a1 > 13
    · rw [if_neg (by omega)] at hc
      simp only [circalaw31_RelationsNames, hcv, mi_9 m, one_9 m, hc, nm_9 m, e1, e2, e3, e4, q, q2, ob, has_9 m, cnt_9 m, cond_dec, cond_beq, cond_bne, cond_neg, rel_Has_not (m + 300) 512 a1 (by omega), hl, c1, c2]
      rfl
    · obtain ⟨v, hv, hv0, _⟩ := tabF_lt (r := 9) (s := a1) ⟨⟨by decide, by decide⟩, by omega, by omega⟩
      rw [if_pos ⟨⟨by decide, by decide⟩, by omega, by omega⟩, hv] at hc
      have hv1 : ¬ ((v : Nat) : Int) = 0 := by omega
      simp only [circalaw31_RelationsNames, hcv, mi_9 m, one_9 m, hc, nm_9 m, e1, e2, e3, e4, q, q2, ob, has_9 m, cnt_9 m, cond_dec, cond_beq, cond_bne, cond_neg, hl, c1, c2, hv1]
      rfl

theorem nm_10 (m : Nat) : relations_Name (m + 300) 10 = some [83, 116, 97, 114, 116, 101, 100, 66, 121] := by kernel_rfl
theorem rnm_10 (m : Nat) : circaref31_Name (m + 300) (IntKind.wrap .i64 10) = some [83, 116, 97, 114, 116, 101, 100, 66, 121] := by kernel_rfl
theorem rmi_10 (m : Nat) : circaref31_Mirror (m + 300) (IntKind.wrap .i64 10) = some 8 := by kernel_rfl
theorem mi_10 (m : Nat) : relations_Mirror (m + 300) 10 = some (8, 0) := by kernel_rfl
theorem one_10 (m : Nat) : relations_One (m + 300) 10 = some (1024, 0) := by kernel_rfl
theorem has_10 (m : Nat) : relations_Set_Has (m + 300) 1024 10 = some true := by kernel_rfl
theorem cnt_10 (m : Nat) : relations_Set_Count (m + 300) 1024 = some 1 := by kernel_rfl
theorem names_10 (m : Nat) (a1 : Int) (h0 : 0 ≤ a1) (h1 : a1 < 256) : circalaw31_RelationsNames (m + 300) 10 a1 = some true := by
  have hl := re_lives m
  have hc := rel_Compose (m + 100) 10 a1
  have e1 : IntKind.wrap .i64 10 = 10 := by decide
  have e2 : IntKind.wrap .i64 (14 - 10) = 4 := by decide
  have e3 : IntKind.wrap .i64 4 = 4 := by decide
  have e4 : IntKind.wrap .u16 ((1 : Int) * 2 ^ (min (Int.toNat 10) (IntKind.bits .u16))) = 1024 := by decide
  have q := rnm_10 m
  have q2 := rmi_10 m
  rw [e1] at q q2
  have hcv : relations_Converse (m + 300) 10 = some (4, 0) := by rw [rel_conv]; rfl
  by_cases c1 : a1 < 1
  · rw [if_neg (by omega)] at hc
    simp only [circalaw31_RelationsNames, hcv, mi_10 m, one_10 m, hc, nm_10 m, e1, e2, e3, e4, q, q2, ob, has_10 m, cnt_10 m, cond_dec, cond_beq, cond_bne, cond_neg, rel_Has_not (m + 300) 1024 a1 (by omega), hl, c1]
    rfl
  · by_cases c2 : a1 > 13
    · rw [if_neg (by omega)] at hc
      simp only [circalaw31_RelationsNames, hcv, mi_10 m, one_10 m, hc, nm_10 m, e1, e2, e3, e4, q, q2, ob, has_10 m, cnt_10 m, cond_dec, cond_beq, cond_bne, cond_neg, rel_Has_not (m + 300) 1024 a1 (by omega), hl, c1, c2]
      rfl
    · obtain ⟨v, hv, hv0, _⟩ := tabF_lt (r := 10) (s := a1) ⟨⟨by decide, by decide⟩, by omega, by omega⟩
      rw [if_pos ⟨⟨by decide, by decide⟩, by omega, by omega⟩, hv] at hc
      have hv1 : ¬ ((v : Nat) : Int) = 0 := by omega
      simp only [circalaw31_RelationsNames, hcv, mi_10 m, one_10 m, hc, nm_10 m, e1, e2, e3, e4, q, q2, ob, has_10 m, cnt_10 m, cond_dec, cond_beq, cond_bne, cond_neg, hl, c1, c2, hv1]
      rfl

theorem nm_11 (m : Nat) : relations_Name (m + 300) 11 = some [79, 118, 101, 114, 108, 97, 112, 112, 101, 100, 66, 121] := by kernel_rfl
theorem rnm_11 (m : Nat) : circaref31_Name (m + 300) (IntKind.wrap .i64 11) = some [79, 118, 101, 114, 108, 97, 112, 112, 101, 100, 66, 121] := by kernel_rfl
theorem rmi_11 (m : Nat) : circaref31_Mirror (m + 300) (IntKind.wrap .i64 11) = some 3 := by kernel_rfl
theorem mi_11 (m : Nat) : relations_Mirror (m + 300) 11 = some (3, 0) := by kernel_rfl
theorem one_11 (m : Nat) : relations_One (m + 300) 11 = some (2048, 0) := by kernel_rfl
theorem has_11 (m : Nat) : relations_Set_Has (m + 300) 2048 11 = some true := by kernel_rfl
theorem cnt_11 (m : Nat) : relations_Set_Count (m + 300) 2048 = some 1 := by kernel_rfl
theorem names_11 (m : Nat) (a1 : Int) (h0 : 0 ≤ a1) (h1 : a1 < 256) : circalaw31_RelationsNames (m + 300) 11 a1 = some true := by
  have hl := re_lives m
  have hc := rel_Compose (m + 100) 11 a1
  have e1 : IntKind.wrap .i64 11 = 11 := by decide
  have e2 : IntKind.wrap .i64 (14 - 11) = 3 := by decide
  have e3 : IntKind.wrap .i64 3 = 3 := by decide
  have e4 : IntKind.wrap .u16 ((1 : Int) * 2 ^ (min (Int.toNat 11) (IntKind.bits .u16))) = 2048 := by decide
  have q := rnm_11 m
  have q2 := rmi_11 m
  rw [e1] at q q2
  have hcv : relations_Converse (m + 300) 11 = some (3, 0) := by rw [rel_conv]; rfl
  by_cases c1 : a1 < 1
  · rw [if_neg (by omega)] at hc
    simp only [circalaw31_RelationsNames, hcv, mi_11 m, one_11 m, hc, nm_11 m, e1, e2, e3, e4, q, q2, ob, has_11 m, cnt_11 m, cond_dec, cond_beq, cond_bne, cond_neg, rel_Has_not (m + 300) 2048 a1 (by omega), hl, c1]
    rfl
  · by_cases c2 : a1 > 13
    · rw [if_neg (by omega)] at hc
      simp only [circalaw31_RelationsNames, hcv, mi_11 m, one_11 m, hc, nm_11 m, e1, e2, e3, e4, q, q2, ob, has_11 m, cnt_11 m, cond_dec, cond_beq, cond_bne, cond_neg, rel_Has_not (m + 300) 2048 a1 (by omega), hl, c1, c2]
      rfl
    · obtain ⟨v, hv, hv0, _⟩ := tabF_lt (r := 11) (s := a1) ⟨⟨by decide, by decide⟩, by omega, by omega⟩
      rw [if_pos ⟨⟨by decide, by decide⟩, by omega, by omega⟩, hv] at hc
      have hv1 : ¬ ((v : Nat) : Int) = 0 := by omega
      simp only [circalaw31_RelationsNames, hcv, mi_11 m, one_11 m, hc, nm_11 m, e1, e2, e3, e4, q, q2, ob, has_11 m, cnt_11 m, cond_dec, cond_beq, cond_bne, cond_neg, hl, c1, c2, hv1]
      rfl

theorem nm_12 (m : Nat) : relations_Name (m + 300) 12 = some [77, 101, 116, 66, 121] := by kernel_rfl
theorem rnm_12 (m : Nat) : circaref31_Name (m + 300) (IntKind.wrap .i64 12) = some [77, 101, 116, 66, 121] := by kernel_rfl
theorem rmi_12 (m : Nat) : circaref31_Mirror (m + 300) (IntKind.wrap .i64 12) = some 2 := by kernel_rfl
theorem mi_12 (m : Nat) : relations_Mirror (m + 300) 12 = some (2, 0) := by kernel_rfl
theorem one_12 (m : Nat) : relations_One (m + 300) 12 = some (4096, 0) := by kernel_rfl
theorem has_12 (m : Nat) : relations_Set_Has (m + 300) 4096 12 = some true := by kernel_rfl
theorem cnt_12 (m : Nat) : relations_Set_Count (m + 300) 4096 = some 1 := by kernel_rfl
theorem names_12 (m : Nat) (a1 : Int) (h0 : 0 ≤ a1) (h1 : a1 < 256) : circalaw31_RelationsNames (m + 300) 12 a1 = some true := by
  have hl := re_lives m
  have hc := rel_Compose (m + 100) 12 a1
  have e1 : IntKind.wrap .i64 12 = 12 := by decide
  have e2 : IntKind.wrap .i64 (14 - 12) = 2 := by decide
  have e3 : IntKind.wrap .i64 2 = 2 := by decide
  have e4 : IntKind.wrap .u16 ((1 : Int) * 2 ^ (min (Int.toNat 12) (IntKind.bits .u16))) = 4096 := by decide
  have q := rnm_12 m
  have q2 := rmi_12 m
  rw [e1] at q q2
  have hcv : relations_Converse (m + 300) 12 = some (2, 0) := by rw [rel_conv]; rfl
  by_cases c1 : a1 < 1
  · rw [if_neg (by omega)] at hc
    simp only [circalaw31_RelationsNames, hcv, mi_12 m, one_12 m, hc, nm_12 m, e1, e2, e3, e4, q, q2, ob, has_12 m, cnt_12 m, cond_dec, cond_beq, cond_bne, cond_neg, rel_Has_not (m + 300) 4096 a1 (by omega), hl, c1]
    rfl
  · by_cases c2 : a1 > 13
    · rw [if_neg (by omega)] at hc
      simp only [circalaw31_RelationsNames, hcv, mi_12 m, one_12 m, hc, nm_12 m, e1, e2, e3, e4, q, q2, ob, has_12 m, cnt_12 m, cond_dec, cond_beq, cond_bne, cond_neg, rel_Has_not (m + 300) 4096 a1 (by omega), hl, c1, c2]
      rfl
    · obtain ⟨v, hv, hv0, _⟩ := tabF_lt (r := 12) (s := a1) ⟨⟨by decide, by decide⟩, by omega, by omega⟩
      rw [if_pos ⟨⟨by decide, by decide⟩, by omega, by omega⟩, hv] at hc
      have hv1 : ¬ ((v : Nat) : Int) = 0 := by omega
      simp only [circalaw31_RelationsNames, hcv, mi_12 m, one_12 m, hc, nm_12 m, e1, e2, e3, e4, q, q2, ob, has_12 m, cnt_12 m, cond_dec, cond_beq, cond_bne, cond_neg, hl, c1, c2, hv1]
      rfl

theorem nm_13 (m : Nat) : relations_Name (m + 300) 13 = some [65, 102, 116, 101, 114] := by kernel_rfl
theorem rnm_13 (m : Nat) : circaref31_Name (m + 300) (IntKind.wrap .i64 13) = some [65, 102, 116, 101, 114] := by kernel_rfl
theorem rmi_13 (m : Nat) : circaref31_Mirror (m + 300) (IntKind.wrap .i64 13) = some 1 := by kernel_rfl
theorem mi_13 (m : Nat) : relations_Mirror (m + 300) 13 = some (1, 0) := by kernel_rfl
theorem one_13 (m : Nat) : relations_One (m + 300) 13 = some (8192, 0) := by kernel_rfl
theorem has_13 (m : Nat) : relations_Set_Has (m + 300) 8192 13 = some true := by kernel_rfl
theorem cnt_13 (m : Nat) : relations_Set_Count (m + 300) 8192 = some 1 := by kernel_rfl
theorem names_13 (m : Nat) (a1 : Int) (h0 : 0 ≤ a1) (h1 : a1 < 256) : circalaw31_RelationsNames (m + 300) 13 a1 = some true := by
  have hl := re_lives m
  have hc := rel_Compose (m + 100) 13 a1
  have e1 : IntKind.wrap .i64 13 = 13 := by decide
  have e2 : IntKind.wrap .i64 (14 - 13) = 1 := by decide
  have e3 : IntKind.wrap .i64 1 = 1 := by decide
  have e4 : IntKind.wrap .u16 ((1 : Int) * 2 ^ (min (Int.toNat 13) (IntKind.bits .u16))) = 8192 := by decide
  have q := rnm_13 m
  have q2 := rmi_13 m
  rw [e1] at q q2
  have hcv : relations_Converse (m + 300) 13 = some (1, 0) := by rw [rel_conv]; rfl
  by_cases c1 : a1 < 1
  · rw [if_neg (by omega)] at hc
    simp only [circalaw31_RelationsNames, hcv, mi_13 m, one_13 m, hc, nm_13 m, e1, e2, e3, e4, q, q2, ob, has_13 m, cnt_13 m, cond_dec, cond_beq, cond_bne, cond_neg, rel_Has_not (m + 300) 8192 a1 (by omega), hl, c1]
    rfl
  · by_cases c2 : a1 > 13
    · rw [if_neg (by omega)] at hc
      simp only [circalaw31_RelationsNames, hcv, mi_13 m, one_13 m, hc, nm_13 m, e1, e2, e3, e4, q, q2, ob, has_13 m, cnt_13 m, cond_dec, cond_beq, cond_bne, cond_neg, rel_Has_not (m + 300) 8192 a1 (by omega), hl, c1, c2]
      rfl
    · obtain ⟨v, hv, hv0, _⟩ := tabF_lt (r := 13) (s := a1) ⟨⟨by decide, by decide⟩, by omega, by omega⟩
      rw [if_pos ⟨⟨by decide, by decide⟩, by omega, by omega⟩, hv] at hc
      have hv1 : ¬ ((v : Nat) : Int) = 0 := by omega
      simp only [circalaw31_RelationsNames, hcv, mi_13 m, one_13 m, hc, nm_13 m, e1, e2, e3, e4, q, q2, ob, has_13 m, cnt_13 m, cond_dec, cond_beq, cond_bne, cond_neg, hl, c1, c2, hv1]
      rfl

theorem name_out (n : Nat) (a : Int) (h : ¬ (1 ≤ a ∧ a ≤ 13)) : relations_Name n a = some [] := by
  simp [relations_Name, rel_valid, ob, h]

theorem rname_out (n : Nat) (a : Int) (h : ¬ (1 ≤ a ∧ a ≤ 13)) : circaref31_Name n a = some [] := by
  simp only [circaref31_Name, cond_dec]
  by_cases c1 : a < 1
  · rw [if_pos c1]
  · rw [if_neg c1, if_pos (by omega)]

theorem relationsNames_ok (m : Nat) (a0 a1 : Int) (h0 : 0 ≤ a0) (h1 : a0 < 256) (h2 : 0 ≤ a1) (h3 : a1 < 256) : circalaw31_RelationsNames (m + 300) a0 a1 = some true := by
  by_cases h : 1 ≤ a0 ∧ a0 ≤ 13
  · have h' : a0 = 1 ∨ a0 = 2 ∨ a0 = 3 ∨ a0 = 4 ∨ a0 = 5 ∨ a0 = 6 ∨ a0 = 7 ∨ a0 = 8 ∨ a0 = 9 ∨ a0 = 10 ∨ a0 = 11 ∨ a0 = 12 ∨ a0 = 13 := by omega
    rcases h' with rfl | rfl | rfl | rfl | rfl | rfl | rfl | rfl | rfl | rfl | rfl | rfl | rfl
    · exact names_1 m a1 h2 h3
    · exact names_2 m a1 h2 h3
    · exact names_3 m a1 h2 h3
    · exact names_4 m a1 h2 h3
    · exact names_5 m a1 h2 h3
    · exact names_6 m a1 h2 h3
    · exact names_7 m a1 h2 h3
    · exact names_8 m a1 h2 h3
    · exact names_9 m a1 h2 h3
    · exact names_10 m a1 h2 h3
    · exact names_11 m a1 h2 h3
    · exact names_12 m a1 h2 h3
    · exact names_13 m a1 h2 h3
  · have hl := re_lives m
    have hc := rel_Compose (m + 100) a0 a1
    rw [if_neg (fun q => h q.1)] at hc
    have hcv := rel_conv (m + 300) a0
    rw [if_neg h] at hcv
    have hm : relations_Mirror (m + 300) a0 = some (0, 18) := by simp [relations_Mirror, rel_valid, ob, h]
    have ho : relations_One (m + 300) a0 = some (0, 18) := by simp [relations_One, rel_valid, ob, h]
    have hw : IntKind.wrap .i64 a0 = a0 := wrap_i64 _ (by omega) (by omega)
    simp only [circalaw31_RelationsNames, hcv, hm, ho, hc, name_out (m + 300) a0 h, hw, rname_out (m + 300) a0 h, ob, hl, BEq.rfl, Bool.not_true, cond_false, cond_true, cond_dec]
    by_cases c1 : a0 < 1
    · rw [if_pos c1]
    · rw [if_neg c1, if_pos (by omega)]

end Go.Sh
