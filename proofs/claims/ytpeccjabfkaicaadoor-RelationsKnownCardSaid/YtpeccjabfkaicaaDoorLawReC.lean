/- Chapter 31: the composition of two relations, as the program finds it: the table.
   Conditions: none. Printed by program. -/
import Derived.Test.YtpeccjabfkaicaaDoorLawReB
import Derived.KernelRfl
namespace Go.Sh
open Go.Abs

/-- The table of compositions. -/
def rtab : List (List Int) := [[2, 2, 2, 2, 62, 62, 2, 2, 2, 2, 62, 62, 16382], [2, 2, 2, 4, 56, 56, 4, 2, 2, 4, 56, 448, 15872], [2, 2, 14, 8, 56, 56, 8, 14, 782, 776, 4088, 3584, 15872], [2, 2, 14, 16, 32, 32, 16, 14, 782, 1168, 2144, 4096, 8192], [2, 2, 62, 32, 32, 32, 32, 62, 16382, 14432, 14432, 8192, 8192], [2, 4, 56, 32, 32, 64, 64, 448, 15872, 14336, 14336, 8192, 8192], [2, 4, 8, 16, 32, 64, 128, 256, 512, 1024, 2048, 4096, 8192], [2, 4, 8, 8, 56, 448, 256, 256, 512, 512, 3584, 3584, 15872], [782, 776, 776, 776, 4088, 3584, 512, 512, 512, 512, 3584, 3584, 15872], [782, 776, 776, 1168, 2144, 2048, 1024, 512, 512, 1024, 2048, 4096, 8192], [782, 776, 4088, 2144, 2144, 2048, 2048, 3584, 15872, 14336, 14336, 8192, 8192], [782, 1168, 2144, 2144, 2144, 4096, 4096, 4096, 8192, 8192, 8192, 8192, 8192], [16382, 14432, 14432, 14432, 14432, 8192, 8192, 8192, 8192, 8192, 8192, 8192, 8192]]
def tabF (r s : Int) : Int := (rtab.getD (r.toNat - 1) []).getD (s.toNat - 1) 0

theorem tab_1_1 (m : Nat) : relations_compose (m + 200) 1 1 = some (tabF 1 1) := by kernel_rfl
theorem tab_1_2 (m : Nat) : relations_compose (m + 200) 1 2 = some (tabF 1 2) := by kernel_rfl
theorem tab_1_3 (m : Nat) : relations_compose (m + 200) 1 3 = some (tabF 1 3) := by kernel_rfl
theorem tab_1_4 (m : Nat) : relations_compose (m + 200) 1 4 = some (tabF 1 4) := by kernel_rfl
theorem tab_1_5 (m : Nat) : relations_compose (m + 200) 1 5 = some (tabF 1 5) := by kernel_rfl
theorem tab_1_6 (m : Nat) : relations_compose (m + 200) 1 6 = some (tabF 1 6) := by kernel_rfl
theorem tab_1_7 (m : Nat) : relations_compose (m + 200) 1 7 = some (tabF 1 7) := by kernel_rfl
theorem tab_1_8 (m : Nat) : relations_compose (m + 200) 1 8 = some (tabF 1 8) := by kernel_rfl
theorem tab_1_9 (m : Nat) : relations_compose (m + 200) 1 9 = some (tabF 1 9) := by kernel_rfl
theorem tab_1_10 (m : Nat) : relations_compose (m + 200) 1 10 = some (tabF 1 10) := by kernel_rfl
theorem tab_1_11 (m : Nat) : relations_compose (m + 200) 1 11 = some (tabF 1 11) := by kernel_rfl
theorem tab_1_12 (m : Nat) : relations_compose (m + 200) 1 12 = some (tabF 1 12) := by kernel_rfl
theorem tab_1_13 (m : Nat) : relations_compose (m + 200) 1 13 = some (tabF 1 13) := by kernel_rfl
theorem tab_1 (m : Nat) {s : Int} (h1 : 1 ≤ s) (h2 : s ≤ 13) : relations_compose (m + 200) 1 s = some (tabF 1 s) := by
  have h : s = 1 ∨ s = 2 ∨ s = 3 ∨ s = 4 ∨ s = 5 ∨ s = 6 ∨ s = 7 ∨ s = 8 ∨ s = 9 ∨ s = 10 ∨ s = 11 ∨ s = 12 ∨ s = 13 := by omega
  rcases h with rfl | rfl | rfl | rfl | rfl | rfl | rfl | rfl | rfl | rfl | rfl | rfl | rfl
  · exact tab_1_1 m
  · exact tab_1_2 m
  · exact tab_1_3 m
  · exact tab_1_4 m
  · exact tab_1_5 m
  · exact tab_1_6 m
  · exact tab_1_7 m
  · exact tab_1_8 m
  · exact tab_1_9 m
  · exact tab_1_10 m
  · exact tab_1_11 m
  · exact tab_1_12 m
  · exact tab_1_13 m
theorem tab_2_1 (m : Nat) : relations_compose (m + 200) 2 1 = some (tabF 2 1) := by kernel_rfl
theorem tab_2_2 (m : Nat) : relations_compose (m + 200) 2 2 = some (tabF 2 2) := by kernel_rfl
theorem tab_2_3 (m : Nat) : relations_compose (m + 200) 2 3 = some (tabF 2 3) := by kernel_rfl
theorem tab_2_4 (m : Nat) : relations_compose (m + 200) 2 4 = some (tabF 2 4) := by kernel_rfl
theorem tab_2_5 (m : Nat) : relations_compose (m + 200) 2 5 = some (tabF 2 5) := by kernel_rfl
theorem tab_2_6 (m : Nat) : relations_compose (m + 200) 2 6 = some (tabF 2 6) := by kernel_rfl
theorem tab_2_7 (m : Nat) : relations_compose (m + 200) 2 7 = some (tabF 2 7) := by kernel_rfl
theorem tab_2_8 (m : Nat) : relations_compose (m + 200) 2 8 = some (tabF 2 8) := by kernel_rfl
theorem tab_2_9 (m : Nat) : relations_compose (m + 200) 2 9 = some (tabF 2 9) := by kernel_rfl
theorem tab_2_10 (m : Nat) : relations_compose (m + 200) 2 10 = some (tabF 2 10) := by kernel_rfl
theorem tab_2_11 (m : Nat) : relations_compose (m + 200) 2 11 = some (tabF 2 11) := by kernel_rfl
theorem tab_2_12 (m : Nat) : relations_compose (m + 200) 2 12 = some (tabF 2 12) := by kernel_rfl
theorem tab_2_13 (m : Nat) : relations_compose (m + 200) 2 13 = some (tabF 2 13) := by kernel_rfl
theorem tab_2 (m : Nat) {s : Int} (h1 : 1 ≤ s) (h2 : s ≤ 13) : relations_compose (m + 200) 2 s = some (tabF 2 s) := by
  have h : s = 1 ∨ s = 2 ∨ s = 3 ∨ s = 4 ∨ s = 5 ∨ s = 6 ∨ s = 7 ∨ s = 8 ∨ s = 9 ∨ s = 10 ∨ s = 11 ∨ s = 12 ∨ s = 13 := by omega
  rcases h with rfl | rfl | rfl | rfl | rfl | rfl | rfl | rfl | rfl | rfl | rfl | rfl | rfl
  · exact tab_2_1 m
  · exact tab_2_2 m
  · exact tab_2_3 m
  · exact tab_2_4 m
  · exact tab_2_5 m
  · exact tab_2_6 m
  · exact tab_2_7 m
  · exact tab_2_8 m
  · exact tab_2_9 m
  · exact tab_2_10 m
  · exact tab_2_11 m
  · exact tab_2_12 m
  · exact tab_2_13 m
theorem tab_3_1 (m : Nat) : relations_compose (m + 200) 3 1 = some (tabF 3 1) := by kernel_rfl
theorem tab_3_2 (m : Nat) : relations_compose (m + 200) 3 2 = some (tabF 3 2) := by kernel_rfl
theorem tab_3_3 (m : Nat) : relations_compose (m + 200) 3 3 = some (tabF 3 3) := by kernel_rfl
theorem tab_3_4 (m : Nat) : relations_compose (m + 200) 3 4 = some (tabF 3 4) := by kernel_rfl
theorem tab_3_5 (m : Nat) : relations_compose (m + 200) 3 5 = some (tabF 3 5) := by kernel_rfl
theorem tab_3_6 (m : Nat) : relations_compose (m + 200) 3 6 = some (tabF 3 6) := by kernel_rfl
theorem tab_3_7 (m : Nat) : relations_compose (m + 200) 3 7 = some (tabF 3 7) := by kernel_rfl
theorem tab_3_8 (m : Nat) : relations_compose (m + 200) 3 8 = some (tabF 3 8) := by kernel_rfl
theorem tab_3_9 (m : Nat) : relations_compose (m + 200) 3 9 = some (tabF 3 9) := by kernel_rfl
theorem tab_3_10 (m : Nat) : relations_compose (m + 200) 3 10 = some (tabF 3 10) := by kernel_rfl
theorem tab_3_11 (m : Nat) : relations_compose (m + 200) 3 11 = some (tabF 3 11) := by kernel_rfl
theorem tab_3_12 (m : Nat) : relations_compose (m + 200) 3 12 = some (tabF 3 12) := by kernel_rfl
theorem tab_3_13 (m : Nat) : relations_compose (m + 200) 3 13 = some (tabF 3 13) := by kernel_rfl
theorem tab_3 (m : Nat) {s : Int} (h1 : 1 ≤ s) (h2 : s ≤ 13) : relations_compose (m + 200) 3 s = some (tabF 3 s) := by
  have h : s = 1 ∨ s = 2 ∨ s = 3 ∨ s = 4 ∨ s = 5 ∨ s = 6 ∨ s = 7 ∨ s = 8 ∨ s = 9 ∨ s = 10 ∨ s = 11 ∨ s = 12 ∨ s = 13 := by omega
  rcases h with rfl | rfl | rfl | rfl | rfl | rfl | rfl | rfl | rfl | rfl | rfl | rfl | rfl
  · exact tab_3_1 m
  · exact tab_3_2 m
  · exact tab_3_3 m
  · exact tab_3_4 m
  · exact tab_3_5 m
  · exact tab_3_6 m
  · exact tab_3_7 m
  · exact tab_3_8 m
  · exact tab_3_9 m
  · exact tab_3_10 m
  · exact tab_3_11 m
  · exact tab_3_12 m
  · exact tab_3_13 m
theorem tab_4_1 (m : Nat) : relations_compose (m + 200) 4 1 = some (tabF 4 1) := by kernel_rfl
theorem tab_4_2 (m : Nat) : relations_compose (m + 200) 4 2 = some (tabF 4 2) := by kernel_rfl
theorem tab_4_3 (m : Nat) : relations_compose (m + 200) 4 3 = some (tabF 4 3) := by kernel_rfl
theorem tab_4_4 (m : Nat) : relations_compose (m + 200) 4 4 = some (tabF 4 4) := by kernel_rfl
theorem tab_4_5 (m : Nat) : relations_compose (m + 200) 4 5 = some (tabF 4 5) := by kernel_rfl
theorem tab_4_6 (m : Nat) : relations_compose (m + 200) 4 6 = some (tabF 4 6) := by kernel_rfl
theorem tab_4_7 (m : Nat) : relations_compose (m + 200) 4 7 = some (tabF 4 7) := by kernel_rfl
theorem tab_4_8 (m : Nat) : relations_compose (m + 200) 4 8 = some (tabF 4 8) := by kernel_rfl
theorem tab_4_9 (m : Nat) : relations_compose (m + 200) 4 9 = some (tabF 4 9) := by kernel_rfl
theorem tab_4_10 (m : Nat) : relations_compose (m + 200) 4 10 = some (tabF 4 10) := by kernel_rfl
theorem tab_4_11 (m : Nat) : relations_compose (m + 200) 4 11 = some (tabF 4 11) := by kernel_rfl
theorem tab_4_12 (m : Nat) : relations_compose (m + 200) 4 12 = some (tabF 4 12) := by kernel_rfl
theorem tab_4_13 (m : Nat) : relations_compose (m + 200) 4 13 = some (tabF 4 13) := by kernel_rfl
theorem tab_4 (m : Nat) {s : Int} (h1 : 1 ≤ s) (h2 : s ≤ 13) : relations_compose (m + 200) 4 s = some (tabF 4 s) := by
  have h : s = 1 ∨ s = 2 ∨ s = 3 ∨ s = 4 ∨ s = 5 ∨ s = 6 ∨ s = 7 ∨ s = 8 ∨ s = 9 ∨ s = 10 ∨ s = 11 ∨ s = 12 ∨ s = 13 := by omega
  rcases h with rfl | rfl | rfl | rfl | rfl | rfl | rfl | rfl | rfl | rfl | rfl | rfl | rfl
  · exact tab_4_1 m
  · exact tab_4_2 m
  · exact tab_4_3 m
  · exact tab_4_4 m
  · exact tab_4_5 m
  · exact tab_4_6 m
  · exact tab_4_7 m
  · exact tab_4_8 m
  · exact tab_4_9 m
  · exact tab_4_10 m
  · exact tab_4_11 m
  · exact tab_4_12 m
  · exact tab_4_13 m
theorem tab_5_1 (m : Nat) : relations_compose (m + 200) 5 1 = some (tabF 5 1) := by kernel_rfl
theorem tab_5_2 (m : Nat) : relations_compose (m + 200) 5 2 = some (tabF 5 2) := by kernel_rfl
theorem tab_5_3 (m : Nat) : relations_compose (m + 200) 5 3 = some (tabF 5 3) := by kernel_rfl
theorem tab_5_4 (m : Nat) : relations_compose (m + 200) 5 4 = some (tabF 5 4) := by kernel_rfl
theorem tab_5_5 (m : Nat) : relations_compose (m + 200) 5 5 = some (tabF 5 5) := by kernel_rfl
theorem tab_5_6 (m : Nat) : relations_compose (m + 200) 5 6 = some (tabF 5 6) := by kernel_rfl
theorem tab_5_7 (m : Nat) : relations_compose (m + 200) 5 7 = some (tabF 5 7) := by kernel_rfl
theorem tab_5_8 (m : Nat) : relations_compose (m + 200) 5 8 = some (tabF 5 8) := by kernel_rfl
theorem tab_5_9 (m : Nat) : relations_compose (m + 200) 5 9 = some (tabF 5 9) := by kernel_rfl
theorem tab_5_10 (m : Nat) : relations_compose (m + 200) 5 10 = some (tabF 5 10) := by kernel_rfl
theorem tab_5_11 (m : Nat) : relations_compose (m + 200) 5 11 = some (tabF 5 11) := by kernel_rfl
theorem tab_5_12 (m : Nat) : relations_compose (m + 200) 5 12 = some (tabF 5 12) := by kernel_rfl
theorem tab_5_13 (m : Nat) : relations_compose (m + 200) 5 13 = some (tabF 5 13) := by kernel_rfl
theorem tab_5 (m : Nat) {s : Int} (h1 : 1 ≤ s) (h2 : s ≤ 13) : relations_compose (m + 200) 5 s = some (tabF 5 s) := by
  have h : s = 1 ∨ s = 2 ∨ s = 3 ∨ s = 4 ∨ s = 5 ∨ s = 6 ∨ s = 7 ∨ s = 8 ∨ s = 9 ∨ s = 10 ∨ s = 11 ∨ s = 12 ∨ s = 13 := by omega
  rcases h with rfl | rfl | rfl | rfl | rfl | rfl | rfl | rfl | rfl | rfl | rfl | rfl | rfl
  · exact tab_5_1 m
  · exact tab_5_2 m
  · exact tab_5_3 m
  · exact tab_5_4 m
  · exact tab_5_5 m
  · exact tab_5_6 m
  · exact tab_5_7 m
  · exact tab_5_8 m
  · exact tab_5_9 m
  · exact tab_5_10 m
  · exact tab_5_11 m
  · exact tab_5_12 m
  · exact tab_5_13 m
theorem tab_6_1 (m : Nat) : relations_compose (m + 200) 6 1 = some (tabF 6 1) := by kernel_rfl
theorem tab_6_2 (m : Nat) : relations_compose (m + 200) 6 2 = some (tabF 6 2) := by kernel_rfl
theorem tab_6_3 (m : Nat) : relations_compose (m + 200) 6 3 = some (tabF 6 3) := by kernel_rfl
theorem tab_6_4 (m : Nat) : relations_compose (m + 200) 6 4 = some (tabF 6 4) := by kernel_rfl
theorem tab_6_5 (m : Nat) : relations_compose (m + 200) 6 5 = some (tabF 6 5) := by kernel_rfl
theorem tab_6_6 (m : Nat) : relations_compose (m + 200) 6 6 = some (tabF 6 6) := by kernel_rfl
theorem tab_6_7 (m : Nat) : relations_compose (m + 200) 6 7 = some (tabF 6 7) := by kernel_rfl
theorem tab_6_8 (m : Nat) : relations_compose (m + 200) 6 8 = some (tabF 6 8) := by kernel_rfl
theorem tab_6_9 (m : Nat) : relations_compose (m + 200) 6 9 = some (tabF 6 9) := by kernel_rfl
theorem tab_6_10 (m : Nat) : relations_compose (m + 200) 6 10 = some (tabF 6 10) := by kernel_rfl
theorem tab_6_11 (m : Nat) : relations_compose (m + 200) 6 11 = some (tabF 6 11) := by kernel_rfl
theorem tab_6_12 (m : Nat) : relations_compose (m + 200) 6 12 = some (tabF 6 12) := by kernel_rfl
theorem tab_6_13 (m : Nat) : relations_compose (m + 200) 6 13 = some (tabF 6 13) := by kernel_rfl
theorem tab_6 (m : Nat) {s : Int} (h1 : 1 ≤ s) (h2 : s ≤ 13) : relations_compose (m + 200) 6 s = some (tabF 6 s) := by
  have h : s = 1 ∨ s = 2 ∨ s = 3 ∨ s = 4 ∨ s = 5 ∨ s = 6 ∨ s = 7 ∨ s = 8 ∨ s = 9 ∨ s = 10 ∨ s = 11 ∨ s = 12 ∨ s = 13 := by omega
  rcases h with rfl | rfl | rfl | rfl | rfl | rfl | rfl | rfl | rfl | rfl | rfl | rfl | rfl
  · exact tab_6_1 m
  · exact tab_6_2 m
  · exact tab_6_3 m
  · exact tab_6_4 m
  · exact tab_6_5 m
  · exact tab_6_6 m
  · exact tab_6_7 m
  · exact tab_6_8 m
  · exact tab_6_9 m
  · exact tab_6_10 m
  · exact tab_6_11 m
  · exact tab_6_12 m
  · exact tab_6_13 m
theorem tab_7_1 (m : Nat) : relations_compose (m + 200) 7 1 = some (tabF 7 1) := by kernel_rfl
theorem tab_7_2 (m : Nat) : relations_compose (m + 200) 7 2 = some (tabF 7 2) := by kernel_rfl
theorem tab_7_3 (m : Nat) : relations_compose (m + 200) 7 3 = some (tabF 7 3) := by kernel_rfl
theorem tab_7_4 (m : Nat) : relations_compose (m + 200) 7 4 = some (tabF 7 4) := by kernel_rfl
theorem tab_7_5 (m : Nat) : relations_compose (m + 200) 7 5 = some (tabF 7 5) := by kernel_rfl
theorem tab_7_6 (m : Nat) : relations_compose (m + 200) 7 6 = some (tabF 7 6) := by kernel_rfl
theorem tab_7_7 (m : Nat) : relations_compose (m + 200) 7 7 = some (tabF 7 7) := by kernel_rfl
theorem tab_7_8 (m : Nat) : relations_compose (m + 200) 7 8 = some (tabF 7 8) := by kernel_rfl
theorem tab_7_9 (m : Nat) : relations_compose (m + 200) 7 9 = some (tabF 7 9) := by kernel_rfl
theorem tab_7_10 (m : Nat) : relations_compose (m + 200) 7 10 = some (tabF 7 10) := by kernel_rfl
theorem tab_7_11 (m : Nat) : relations_compose (m + 200) 7 11 = some (tabF 7 11) := by kernel_rfl
theorem tab_7_12 (m : Nat) : relations_compose (m + 200) 7 12 = some (tabF 7 12) := by kernel_rfl
theorem tab_7_13 (m : Nat) : relations_compose (m + 200) 7 13 = some (tabF 7 13) := by kernel_rfl
theorem tab_7 (m : Nat) {s : Int} (h1 : 1 ≤ s) (h2 : s ≤ 13) : relations_compose (m + 200) 7 s = some (tabF 7 s) := by
  have h : s = 1 ∨ s = 2 ∨ s = 3 ∨ s = 4 ∨ s = 5 ∨ s = 6 ∨ s = 7 ∨ s = 8 ∨ s = 9 ∨ s = 10 ∨ s = 11 ∨ s = 12 ∨ s = 13 := by omega
  rcases h with rfl | rfl | rfl | rfl | rfl | rfl | rfl | rfl | rfl | rfl | rfl | rfl | rfl
  · exact tab_7_1 m
  · exact tab_7_2 m
  · exact tab_7_3 m
  · exact tab_7_4 m
  · exact tab_7_5 m
  · exact tab_7_6 m
  · exact tab_7_7 m
  · exact tab_7_8 m
  · exact tab_7_9 m
  · exact tab_7_10 m
  · exact tab_7_11 m
  · exact tab_7_12 m
  · exact tab_7_13 m
theorem tab_8_1 (m : Nat) : relations_compose (m + 200) 8 1 = some (tabF 8 1) := by kernel_rfl
theorem tab_8_2 (m : Nat) : relations_compose (m + 200) 8 2 = some (tabF 8 2) := by kernel_rfl
theorem tab_8_3 (m : Nat) : relations_compose (m + 200) 8 3 = some (tabF 8 3) := by kernel_rfl
theorem tab_8_4 (m : Nat) : relations_compose (m + 200) 8 4 = some (tabF 8 4) := by kernel_rfl
theorem tab_8_5 (m : Nat) : relations_compose (m + 200) 8 5 = some (tabF 8 5) := by kernel_rfl
theorem tab_8_6 (m : Nat) : relations_compose (m + 200) 8 6 = some (tabF 8 6) := by kernel_rfl
theorem tab_8_7 (m : Nat) : relations_compose (m + 200) 8 7 = some (tabF 8 7) := by kernel_rfl
theorem tab_8_8 (m : Nat) : relations_compose (m + 200) 8 8 = some (tabF 8 8) := by kernel_rfl
theorem tab_8_9 (m : Nat) : relations_compose (m + 200) 8 9 = some (tabF 8 9) := by kernel_rfl
theorem tab_8_10 (m : Nat) : relations_compose (m + 200) 8 10 = some (tabF 8 10) := by kernel_rfl
theorem tab_8_11 (m : Nat) : relations_compose (m + 200) 8 11 = some (tabF 8 11) := by kernel_rfl
theorem tab_8_12 (m : Nat) : relations_compose (m + 200) 8 12 = some (tabF 8 12) := by kernel_rfl
theorem tab_8_13 (m : Nat) : relations_compose (m + 200) 8 13 = some (tabF 8 13) := by kernel_rfl
theorem tab_8 (m : Nat) {s : Int} (h1 : 1 ≤ s) (h2 : s ≤ 13) : relations_compose (m + 200) 8 s = some (tabF 8 s) := by
  have h : s = 1 ∨ s = 2 ∨ s = 3 ∨ s = 4 ∨ s = 5 ∨ s = 6 ∨ s = 7 ∨ s = 8 ∨ s = 9 ∨ s = 10 ∨ s = 11 ∨ s = 12 ∨ s = 13 := by omega
  rcases h with rfl | rfl | rfl | rfl | rfl | rfl | rfl | rfl | rfl | rfl | rfl | rfl | rfl
  · exact tab_8_1 m
  · exact tab_8_2 m
  · exact tab_8_3 m
  · exact tab_8_4 m
  · exact tab_8_5 m
  · exact tab_8_6 m
  · exact tab_8_7 m
  · exact tab_8_8 m
  · exact tab_8_9 m
  · exact tab_8_10 m
  · exact tab_8_11 m
  · exact tab_8_12 m
  · exact tab_8_13 m
theorem tab_9_1 (m : Nat) : relations_compose (m + 200) 9 1 = some (tabF 9 1) := by kernel_rfl
theorem tab_9_2 (m : Nat) : relations_compose (m + 200) 9 2 = some (tabF 9 2) := by kernel_rfl
theorem tab_9_3 (m : Nat) : relations_compose (m + 200) 9 3 = some (tabF 9 3) := by kernel_rfl
theorem tab_9_4 (m : Nat) : relations_compose (m + 200) 9 4 = some (tabF 9 4) := by kernel_rfl
theorem tab_9_5 (m : Nat) : relations_compose (m + 200) 9 5 = some (tabF 9 5) := by kernel_rfl
theorem tab_9_6 (m : Nat) : relations_compose (m + 200) 9 6 = some (tabF 9 6) := by kernel_rfl
theorem tab_9_7 (m : Nat) : relations_compose (m + 200) 9 7 = some (tabF 9 7) := by kernel_rfl
theorem tab_9_8 (m : Nat) : relations_compose (m + 200) 9 8 = some (tabF 9 8) := by kernel_rfl
theorem tab_9_9 (m : Nat) : relations_compose (m + 200) 9 9 = some (tabF 9 9) := by kernel_rfl
theorem tab_9_10 (m : Nat) : relations_compose (m + 200) 9 10 = some (tabF 9 10) := by kernel_rfl
theorem tab_9_11 (m : Nat) : relations_compose (m + 200) 9 11 = some (tabF 9 11) := by kernel_rfl
theorem tab_9_12 (m : Nat) : relations_compose (m + 200) 9 12 = some (tabF 9 12) := by kernel_rfl
theorem tab_9_13 (m : Nat) : relations_compose (m + 200) 9 13 = some (tabF 9 13) := by kernel_rfl
theorem tab_9 (m : Nat) {s : Int} (h1 : 1 ≤ s) (h2 : s ≤ 13) : relations_compose (m + 200) 9 s = some (tabF 9 s) := by
  have h : s = 1 ∨ s = 2 ∨ s = 3 ∨ s = 4 ∨ s = 5 ∨ s = 6 ∨ s = 7 ∨ s = 8 ∨ s = 9 ∨ s = 10 ∨ s = 11 ∨ s = 12 ∨ s = 13 := by omega
  rcases h with rfl | rfl | rfl | rfl | rfl | rfl | rfl | rfl | rfl | rfl | rfl | rfl | rfl
  · exact tab_9_1 m
  · exact tab_9_2 m
  · exact tab_9_3 m
  · exact tab_9_4 m
  · exact tab_9_5 m
  · exact tab_9_6 m
  · exact tab_9_7 m
  · exact tab_9_8 m
  · exact tab_9_9 m
  · exact tab_9_10 m
  · exact tab_9_11 m
  · exact tab_9_12 m
  · exact tab_9_13 m
theorem tab_10_1 (m : Nat) : relations_compose (m + 200) 10 1 = some (tabF 10 1) := by kernel_rfl
theorem tab_10_2 (m : Nat) : relations_compose (m + 200) 10 2 = some (tabF 10 2) := by kernel_rfl
theorem tab_10_3 (m : Nat) : relations_compose (m + 200) 10 3 = some (tabF 10 3) := by kernel_rfl
theorem tab_10_4 (m : Nat) : relations_compose (m + 200) 10 4 = some (tabF 10 4) := by kernel_rfl
theorem tab_10_5 (m : Nat) : relations_compose (m + 200) 10 5 = some (tabF 10 5) := by kernel_rfl
theorem tab_10_6 (m : Nat) : relations_compose (m + 200) 10 6 = some (tabF 10 6) := by kernel_rfl
theorem tab_10_7 (m : Nat) : relations_compose (m + 200) 10 7 = some (tabF 10 7) := by kernel_rfl
theorem tab_10_8 (m : Nat) : relations_compose (m + 200) 10 8 = some (tabF 10 8) := by kernel_rfl
theorem tab_10_9 (m : Nat) : relations_compose (m + 200) 10 9 = some (tabF 10 9) := by kernel_rfl
theorem tab_10_10 (m : Nat) : relations_compose (m + 200) 10 10 = some (tabF 10 10) := by kernel_rfl
theorem tab_10_11 (m : Nat) : relations_compose (m + 200) 10 11 = some (tabF 10 11) := by kernel_rfl
theorem tab_10_12 (m : Nat) : relations_compose (m + 200) 10 12 = some (tabF 10 12) := by kernel_rfl
theorem tab_10_13 (m : Nat) : relations_compose (m + 200) 10 13 = some (tabF 10 13) := by kernel_rfl
theorem tab_10 (m : Nat) {s : Int} (h1 : 1 ≤ s) (h2 : s ≤ 13) : relations_compose (m + 200) 10 s = some (tabF 10 s) := by
  have h : s = 1 ∨ s = 2 ∨ s = 3 ∨ s = 4 ∨ s = 5 ∨ s = 6 ∨ s = 7 ∨ s = 8 ∨ s = 9 ∨ s = 10 ∨ s = 11 ∨ s = 12 ∨ s = 13 := by omega
  rcases h with rfl | rfl | rfl | rfl | rfl | rfl | rfl | rfl | rfl | rfl | rfl | rfl | rfl
  · exact tab_10_1 m
  · exact tab_10_2 m
  · exact tab_10_3 m
  · exact tab_10_4 m
  · exact tab_10_5 m
  · exact tab_10_6 m
  · exact tab_10_7 m
  · exact tab_10_8 m
  · exact tab_10_9 m
  · exact tab_10_10 m
  · exact tab_10_11 m
  · exact tab_10_12 m
  · exact tab_10_13 m
theorem tab_11_1 (m : Nat) : relations_compose (m + 200) 11 1 = some (tabF 11 1) := by kernel_rfl
theorem tab_11_2 (m : Nat) : relations_compose (m + 200) 11 2 = some (tabF 11 2) := by kernel_rfl
theorem tab_11_3 (m : Nat) : relations_compose (m + 200) 11 3 = some (tabF 11 3) := by kernel_rfl
theorem tab_11_4 (m : Nat) : relations_compose (m + 200) 11 4 = some (tabF 11 4) := by kernel_rfl
theorem tab_11_5 (m : Nat) : relations_compose (m + 200) 11 5 = some (tabF 11 5) := by kernel_rfl
theorem tab_11_6 (m : Nat) : relations_compose (m + 200) 11 6 = some (tabF 11 6) := by kernel_rfl
theorem tab_11_7 (m : Nat) : relations_compose (m + 200) 11 7 = some (tabF 11 7) := by kernel_rfl
theorem tab_11_8 (m : Nat) : relations_compose (m + 200) 11 8 = some (tabF 11 8) := by kernel_rfl
theorem tab_11_9 (m : Nat) : relations_compose (m + 200) 11 9 = some (tabF 11 9) := by kernel_rfl
theorem tab_11_10 (m : Nat) : relations_compose (m + 200) 11 10 = some (tabF 11 10) := by kernel_rfl
theorem tab_11_11 (m : Nat) : relations_compose (m + 200) 11 11 = some (tabF 11 11) := by kernel_rfl
theorem tab_11_12 (m : Nat) : relations_compose (m + 200) 11 12 = some (tabF 11 12) := by kernel_rfl
theorem tab_11_13 (m : Nat) : relations_compose (m + 200) 11 13 = some (tabF 11 13) := by kernel_rfl
theorem tab_11 (m : Nat) {s : Int} (h1 : 1 ≤ s) (h2 : s ≤ 13) : relations_compose (m + 200) 11 s = some (tabF 11 s) := by
  have h : s = 1 ∨ s = 2 ∨ s = 3 ∨ s = 4 ∨ s = 5 ∨ s = 6 ∨ s = 7 ∨ s = 8 ∨ s = 9 ∨ s = 10 ∨ s = 11 ∨ s = 12 ∨ s = 13 := by omega
  rcases h with rfl | rfl | rfl | rfl | rfl | rfl | rfl | rfl | rfl | rfl | rfl | rfl | rfl
  · exact tab_11_1 m
  · exact tab_11_2 m
  · exact tab_11_3 m
  · exact tab_11_4 m
  · exact tab_11_5 m
  · exact tab_11_6 m
  · exact tab_11_7 m
  · exact tab_11_8 m
  · exact tab_11_9 m
  · exact tab_11_10 m
  · exact tab_11_11 m
  · exact tab_11_12 m
  · exact tab_11_13 m
theorem tab_12_1 (m : Nat) : relations_compose (m + 200) 12 1 = some (tabF 12 1) := by kernel_rfl
theorem tab_12_2 (m : Nat) : relations_compose (m + 200) 12 2 = some (tabF 12 2) := by kernel_rfl
theorem tab_12_3 (m : Nat) : relations_compose (m + 200) 12 3 = some (tabF 12 3) := by kernel_rfl
theorem tab_12_4 (m : Nat) : relations_compose (m + 200) 12 4 = some (tabF 12 4) := by kernel_rfl
theorem tab_12_5 (m : Nat) : relations_compose (m + 200) 12 5 = some (tabF 12 5) := by kernel_rfl
theorem tab_12_6 (m : Nat) : relations_compose (m + 200) 12 6 = some (tabF 12 6) := by kernel_rfl
theorem tab_12_7 (m : Nat) : relations_compose (m + 200) 12 7 = some (tabF 12 7) := by kernel_rfl
theorem tab_12_8 (m : Nat) : relations_compose (m + 200) 12 8 = some (tabF 12 8) := by kernel_rfl
theorem tab_12_9 (m : Nat) : relations_compose (m + 200) 12 9 = some (tabF 12 9) := by kernel_rfl
theorem tab_12_10 (m : Nat) : relations_compose (m + 200) 12 10 = some (tabF 12 10) := by kernel_rfl
theorem tab_12_11 (m : Nat) : relations_compose (m + 200) 12 11 = some (tabF 12 11) := by kernel_rfl
theorem tab_12_12 (m : Nat) : relations_compose (m + 200) 12 12 = some (tabF 12 12) := by kernel_rfl
theorem tab_12_13 (m : Nat) : relations_compose (m + 200) 12 13 = some (tabF 12 13) := by kernel_rfl
theorem tab_12 (m : Nat) {s : Int} (h1 : 1 ≤ s) (h2 : s ≤ 13) : relations_compose (m + 200) 12 s = some (tabF 12 s) := by
  have h : s = 1 ∨ s = 2 ∨ s = 3 ∨ s = 4 ∨ s = 5 ∨ s = 6 ∨ s = 7 ∨ s = 8 ∨ s = 9 ∨ s = 10 ∨ s = 11 ∨ s = 12 ∨ s = 13 := by omega
  rcases h with rfl | rfl | rfl | rfl | rfl | rfl | rfl | rfl | rfl | rfl | rfl | rfl | rfl
  · exact tab_12_1 m
  · exact tab_12_2 m
  · exact tab_12_3 m
  · exact tab_12_4 m
  · exact tab_12_5 m
  · exact tab_12_6 m
  · exact tab_12_7 m
  · exact tab_12_8 m
  · exact tab_12_9 m
  · exact tab_12_10 m
  · exact tab_12_11 m
  · exact tab_12_12 m
  · exact tab_12_13 m
theorem tab_13_1 (m : Nat) : relations_compose (m + 200) 13 1 = some (tabF 13 1) := by kernel_rfl
theorem tab_13_2 (m : Nat) : relations_compose (m + 200) 13 2 = some (tabF 13 2) := by kernel_rfl
theorem tab_13_3 (m : Nat) : relations_compose (m + 200) 13 3 = some (tabF 13 3) := by kernel_rfl
theorem tab_13_4 (m : Nat) : relations_compose (m + 200) 13 4 = some (tabF 13 4) := by kernel_rfl
theorem tab_13_5 (m : Nat) : relations_compose (m + 200) 13 5 = some (tabF 13 5) := by kernel_rfl
theorem tab_13_6 (m : Nat) : relations_compose (m + 200) 13 6 = some (tabF 13 6) := by kernel_rfl
theorem tab_13_7 (m : Nat) : relations_compose (m + 200) 13 7 = some (tabF 13 7) := by kernel_rfl
theorem tab_13_8 (m : Nat) : relations_compose (m + 200) 13 8 = some (tabF 13 8) := by kernel_rfl
theorem tab_13_9 (m : Nat) : relations_compose (m + 200) 13 9 = some (tabF 13 9) := by kernel_rfl
theorem tab_13_10 (m : Nat) : relations_compose (m + 200) 13 10 = some (tabF 13 10) := by kernel_rfl
theorem tab_13_11 (m : Nat) : relations_compose (m + 200) 13 11 = some (tabF 13 11) := by kernel_rfl
theorem tab_13_12 (m : Nat) : relations_compose (m + 200) 13 12 = some (tabF 13 12) := by kernel_rfl
theorem tab_13_13 (m : Nat) : relations_compose (m + 200) 13 13 = some (tabF 13 13) := by kernel_rfl
theorem tab_13 (m : Nat) {s : Int} (h1 : 1 ≤ s) (h2 : s ≤ 13) : relations_compose (m + 200) 13 s = some (tabF 13 s) := by
  have h : s = 1 ∨ s = 2 ∨ s = 3 ∨ s = 4 ∨ s = 5 ∨ s = 6 ∨ s = 7 ∨ s = 8 ∨ s = 9 ∨ s = 10 ∨ s = 11 ∨ s = 12 ∨ s = 13 := by omega
  rcases h with rfl | rfl | rfl | rfl | rfl | rfl | rfl | rfl | rfl | rfl | rfl | rfl | rfl
  · exact tab_13_1 m
  · exact tab_13_2 m
  · exact tab_13_3 m
  · exact tab_13_4 m
  · exact tab_13_5 m
  · exact tab_13_6 m
  · exact tab_13_7 m
  · exact tab_13_8 m
  · exact tab_13_9 m
  · exact tab_13_10 m
  · exact tab_13_11 m
  · exact tab_13_12 m
  · exact tab_13_13 m

theorem rel_compose (m : Nat) {r s : Int} (h1 : 1 ≤ r) (h2 : r ≤ 13) (h3 : 1 ≤ s) (h4 : s ≤ 13) : relations_compose (m + 200) r s = some (tabF r s) := by
  have h : r = 1 ∨ r = 2 ∨ r = 3 ∨ r = 4 ∨ r = 5 ∨ r = 6 ∨ r = 7 ∨ r = 8 ∨ r = 9 ∨ r = 10 ∨ r = 11 ∨ r = 12 ∨ r = 13 := by omega
  rcases h with rfl | rfl | rfl | rfl | rfl | rfl | rfl | rfl | rfl | rfl | rfl | rfl | rfl
  · exact tab_1 m h3 h4
  · exact tab_2 m h3 h4
  · exact tab_3 m h3 h4
  · exact tab_4 m h3 h4
  · exact tab_5 m h3 h4
  · exact tab_6 m h3 h4
  · exact tab_7 m h3 h4
  · exact tab_8 m h3 h4
  · exact tab_9 m h3 h4
  · exact tab_10 m h3 h4
  · exact tab_11 m h3 h4
  · exact tab_12 m h3 h4
  · exact tab_13 m h3 h4

end Go.Sh
