/- Chapter 31: the definition's table of compositions.
   Conditions: none. -/
import Derived.Test.YtpeccjabfkaicaaDoorLawRkA
set_option linter.unusedVariables false
set_option linter.unusedSimpArgs false
set_option maxRecDepth 100000
namespace Go.Sh
open Go.Abs

theorem tbl_len : tbl.length = 196 := by decide +kernel

theorem entry_eq (f : HB) (hf : ∀ p t, p < 196 → t < 14 → f p t = bitB p t) : st f = tbl.map fun x : Nat => (x : Int) := by
  apply List.ext_getElem?
  intro p
  by_cases hp : p < 196
  · have hv := (List.all_eq_true.1 tbl_val) p (List.mem_range.2 hp)
    rw [beq_iff_eq] at hv
    have hg : tbl[p]? = some (tbl.getD p 0) := by
      rw [List.getD_eq_getElem?_getD, List.getElem?_eq_getElem (by rw [tbl_len]; exact hp)]; rfl
    have e : val (f p) = tbl.getD p 0 := by
      rw [← hv]
      exact val_congr fun t ht => hf p t hp ht
    rw [st_get _ hp, List.getElem?_map, hg, e]
    rfl
  · rw [List.getElem?_eq_none (by rw [st_len]; omega), List.getElem?_eq_none (by rw [List.length_map, tbl_len]; omega)]

theorem fin_eq : st (H2 fun _ _ => false) = tbl.map fun x : Nat => (x : Int) :=
  entry_eq _ fun p t hp ht => by
    rw [H2_eq, Bool.false_or]
    exact bits_eq hp ht

theorem ob_go {A B : Type} (a : A) (f : A → Option B) : ob (some a) f = f a := rfl

theorem table_0 : iterL (circaref31_Table_l0 300) 300 (0, (List.replicate 196 (0 : Int)), ([] : List (Int × Int × Int × Int))) = some (List.replicate 196 (0 : Int), runsL) := by kernel_rfl
theorem table_1 : List.replicate 196 (0 : Int) = st (fun _ _ => false) := by decide +kernel
theorem table_2 : iterL (circaref31_Table_l2 300) 300 (0, List.replicate 196 (0 : Int), runsL) = some (tbl.map fun x : Nat => (x : Int)) := by
  rw [table_1, l2_loop, fin_eq]

theorem table_eq : circaref31_Table 300 = some (tbl.map fun x : Nat => (x : Int)) := by
  have h0 := table_0
  have h2 := table_2
  unfold circaref31_Table
  generalize List.replicate 196 (0 : Int) = Z at *
  generalize iterL (circaref31_Table_l2 300) 300 = F at *
  rw [h0, ob_go, h2, ob_go]

end Go.Sh
