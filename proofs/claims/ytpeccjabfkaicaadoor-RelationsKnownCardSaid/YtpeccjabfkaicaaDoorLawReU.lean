/- Chapter 31: the law of texts: what is read, and the law.
   Conditions: none. Printed by program in part. -/
import Derived.Test.YtpeccjabfkaicaaDoorLawReT
set_option linter.unusedSimpArgs false
set_option linter.unusedVariables false
namespace Go.Sh
open Go.Abs

theorem idx_nm_1 (m : Nat) : slices_Index_string_string (m + 300) [66, 101, 102, 111, 114, 101] [] [66, 101, 102, 111, 114, 101] [77, 101, 101, 116, 115] [79, 118, 101, 114, 108, 97, 112, 115] [83, 116, 97, 114, 116, 115] [68, 117, 114, 105, 110, 103] [70, 105, 110, 105, 115, 104, 101, 115] [69, 113, 117, 97, 108, 115] [70, 105, 110, 105, 115, 104, 101, 100, 66, 121] [67, 111, 110, 116, 97, 105, 110, 115] [83, 116, 97, 114, 116, 101, 100, 66, 121] [79, 118, 101, 114, 108, 97, 112, 112, 101, 100, 66, 121] [77, 101, 116, 66, 121] [65, 102, 116, 101, 114] = some 0 := by kernel_rfl
theorem idx_nm_2 (m : Nat) : slices_Index_string_string (m + 300) [77, 101, 101, 116, 115] [] [66, 101, 102, 111, 114, 101] [77, 101, 101, 116, 115] [79, 118, 101, 114, 108, 97, 112, 115] [83, 116, 97, 114, 116, 115] [68, 117, 114, 105, 110, 103] [70, 105, 110, 105, 115, 104, 101, 115] [69, 113, 117, 97, 108, 115] [70, 105, 110, 105, 115, 104, 101, 100, 66, 121] [67, 111, 110, 116, 97, 105, 110, 115] [83, 116, 97, 114, 116, 101, 100, 66, 121] [79, 118, 101, 114, 108, 97, 112, 112, 101, 100, 66, 121] [77, 101, 116, 66, 121] [65, 102, 116, 101, 114] = some 1 := by kernel_rfl
theorem idx_nm_3 (m : Nat) : slices_Index_string_string (m + 300) [79, 118, 101, 114, 108, 97, 112, 115] [] [66, 101, 102, 111, 114, 101] [77, 101, 101, 116, 115] [79, 118, 101, 114, 108, 97, 112, 115] [83, 116, 97, 114, 116, 115] [68, 117, 114, 105, 110, 103] [70, 105, 110, 105, 115, 104, 101, 115] [69, 113, 117, 97, 108, 115] [70, 105, 110, 105, 115, 104, 101, 100, 66, 121] [67, 111, 110, 116, 97, 105, 110, 115] [83, 116, 97, 114, 116, 101, 100, 66, 121] [79, 118, 101, 114, 108, 97, 112, 112, 101, 100, 66, 121] [77, 101, 116, 66, 121] [65, 102, 116, 101, 114] = some 2 := by kernel_rfl
theorem idx_nm_4 (m : Nat) : slices_Index_string_string (m + 300) [83, 116, 97, 114, 116, 115] [] [66, 101, 102, 111, 114, 101] [77, 101, 101, 116, 115] [79, 118, 101, 114, 108, 97, 112, 115] [83, 116, 97, 114, 116, 115] [68, 117, 114, 105, 110, 103] [70, 105, 110, 105, 115, 104, 101, 115] [69, 113, 117, 97, 108, 115] [70, 105, 110, 105, 115, 104, 101, 100, 66, 121] [67, 111, 110, 116, 97, 105, 110, 115] [83, 116, 97, 114, 116, 101, 100, 66, 121] [79, 118, 101, 114, 108, 97, 112, 112, 101, 100, 66, 121] [77, 101, 116, 66, 121] [65, 102, 116, 101, 114] = some 3 := by kernel_rfl
theorem idx_nm_5 (m : Nat) : slices_Index_string_string (m + 300) [68, 117, 114, 105, 110, 103] [] [66, 101, 102, 111, 114, 101] [77, 101, 101, 116, 115] [79, 118, 101, 114, 108, 97, 112, 115] [83, 116, 97, 114, 116, 115] [68, 117, 114, 105, 110, 103] [70, 105, 110, 105, 115, 104, 101, 115] [69, 113, 117, 97, 108, 115] [70, 105, 110, 105, 115, 104, 101, 100, 66, 121] [67, 111, 110, 116, 97, 105, 110, 115] [83, 116, 97, 114, 116, 101, 100, 66, 121] [79, 118, 101, 114, 108, 97, 112, 112, 101, 100, 66, 121] [77, 101, 116, 66, 121] [65, 102, 116, 101, 114] = some 4 := by kernel_rfl
theorem idx_nm_6 (m : Nat) : slices_Index_string_string (m + 300) [70, 105, 110, 105, 115, 104, 101, 115] [] [66, 101, 102, 111, 114, 101] [77, 101, 101, 116, 115] [79, 118, 101, 114, 108, 97, 112, 115] [83, 116, 97, 114, 116, 115] [68, 117, 114, 105, 110, 103] [70, 105, 110, 105, 115, 104, 101, 115] [69, 113, 117, 97, 108, 115] [70, 105, 110, 105, 115, 104, 101, 100, 66, 121] [67, 111, 110, 116, 97, 105, 110, 115] [83, 116, 97, 114, 116, 101, 100, 66, 121] [79, 118, 101, 114, 108, 97, 112, 112, 101, 100, 66, 121] [77, 101, 116, 66, 121] [65, 102, 116, 101, 114] = some 5 := by kernel_rfl
theorem idx_nm_7 (m : Nat) : slices_Index_string_string (m + 300) [69, 113, 117, 97, 108, 115] [] [66, 101, 102, 111, 114, 101] [77, 101, 101, 116, 115] [79, 118, 101, 114, 108, 97, 112, 115] [83, 116, 97, 114, 116, 115] [68, 117, 114, 105, 110, 103] [70, 105, 110, 105, 115, 104, 101, 115] [69, 113, 117, 97, 108, 115] [70, 105, 110, 105, 115, 104, 101, 100, 66, 121] [67, 111, 110, 116, 97, 105, 110, 115] [83, 116, 97, 114, 116, 101, 100, 66, 121] [79, 118, 101, 114, 108, 97, 112, 112, 101, 100, 66, 121] [77, 101, 116, 66, 121] [65, 102, 116, 101, 114] = some 6 := by kernel_rfl
theorem idx_nm_8 (m : Nat) : slices_Index_string_string (m + 300) [70, 105, 110, 105, 115, 104, 101, 100, 66, 121] [] [66, 101, 102, 111, 114, 101] [77, 101, 101, 116, 115] [79, 118, 101, 114, 108, 97, 112, 115] [83, 116, 97, 114, 116, 115] [68, 117, 114, 105, 110, 103] [70, 105, 110, 105, 115, 104, 101, 115] [69, 113, 117, 97, 108, 115] [70, 105, 110, 105, 115, 104, 101, 100, 66, 121] [67, 111, 110, 116, 97, 105, 110, 115] [83, 116, 97, 114, 116, 101, 100, 66, 121] [79, 118, 101, 114, 108, 97, 112, 112, 101, 100, 66, 121] [77, 101, 116, 66, 121] [65, 102, 116, 101, 114] = some 7 := by kernel_rfl
theorem idx_nm_9 (m : Nat) : slices_Index_string_string (m + 300) [67, 111, 110, 116, 97, 105, 110, 115] [] [66, 101, 102, 111, 114, 101] [77, 101, 101, 116, 115] [79, 118, 101, 114, 108, 97, 112, 115] [83, 116, 97, 114, 116, 115] [68, 117, 114, 105, 110, 103] [70, 105, 110, 105, 115, 104, 101, 115] [69, 113, 117, 97, 108, 115] [70, 105, 110, 105, 115, 104, 101, 100, 66, 121] [67, 111, 110, 116, 97, 105, 110, 115] [83, 116, 97, 114, 116, 101, 100, 66, 121] [79, 118, 101, 114, 108, 97, 112, 112, 101, 100, 66, 121] [77, 101, 116, 66, 121] [65, 102, 116, 101, 114] = some 8 := by kernel_rfl
theorem idx_nm_10 (m : Nat) : slices_Index_string_string (m + 300) [83, 116, 97, 114, 116, 101, 100, 66, 121] [] [66, 101, 102, 111, 114, 101] [77, 101, 101, 116, 115] [79, 118, 101, 114, 108, 97, 112, 115] [83, 116, 97, 114, 116, 115] [68, 117, 114, 105, 110, 103] [70, 105, 110, 105, 115, 104, 101, 115] [69, 113, 117, 97, 108, 115] [70, 105, 110, 105, 115, 104, 101, 100, 66, 121] [67, 111, 110, 116, 97, 105, 110, 115] [83, 116, 97, 114, 116, 101, 100, 66, 121] [79, 118, 101, 114, 108, 97, 112, 112, 101, 100, 66, 121] [77, 101, 116, 66, 121] [65, 102, 116, 101, 114] = some 9 := by kernel_rfl
theorem idx_nm_11 (m : Nat) : slices_Index_string_string (m + 300) [79, 118, 101, 114, 108, 97, 112, 112, 101, 100, 66, 121] [] [66, 101, 102, 111, 114, 101] [77, 101, 101, 116, 115] [79, 118, 101, 114, 108, 97, 112, 115] [83, 116, 97, 114, 116, 115] [68, 117, 114, 105, 110, 103] [70, 105, 110, 105, 115, 104, 101, 115] [69, 113, 117, 97, 108, 115] [70, 105, 110, 105, 115, 104, 101, 100, 66, 121] [67, 111, 110, 116, 97, 105, 110, 115] [83, 116, 97, 114, 116, 101, 100, 66, 121] [79, 118, 101, 114, 108, 97, 112, 112, 101, 100, 66, 121] [77, 101, 116, 66, 121] [65, 102, 116, 101, 114] = some 10 := by kernel_rfl
theorem idx_nm_12 (m : Nat) : slices_Index_string_string (m + 300) [77, 101, 116, 66, 121] [] [66, 101, 102, 111, 114, 101] [77, 101, 101, 116, 115] [79, 118, 101, 114, 108, 97, 112, 115] [83, 116, 97, 114, 116, 115] [68, 117, 114, 105, 110, 103] [70, 105, 110, 105, 115, 104, 101, 115] [69, 113, 117, 97, 108, 115] [70, 105, 110, 105, 115, 104, 101, 100, 66, 121] [67, 111, 110, 116, 97, 105, 110, 115] [83, 116, 97, 114, 116, 101, 100, 66, 121] [79, 118, 101, 114, 108, 97, 112, 112, 101, 100, 66, 121] [77, 101, 116, 66, 121] [65, 102, 116, 101, 114] = some 11 := by kernel_rfl
theorem idx_nm_13 (m : Nat) : slices_Index_string_string (m + 300) [65, 102, 116, 101, 114] [] [66, 101, 102, 111, 114, 101] [77, 101, 101, 116, 115] [79, 118, 101, 114, 108, 97, 112, 115] [83, 116, 97, 114, 116, 115] [68, 117, 114, 105, 110, 103] [70, 105, 110, 105, 115, 104, 101, 115] [69, 113, 117, 97, 108, 115] [70, 105, 110, 105, 115, 104, 101, 100, 66, 121] [67, 111, 110, 116, 97, 105, 110, 115] [83, 116, 97, 114, 116, 101, 100, 66, 121] [79, 118, 101, 114, 108, 97, 112, 112, 101, 100, 66, 121] [77, 101, 116, 66, 121] [65, 102, 116, 101, 114] = some 12 := by kernel_rfl
theorem idx_none (m : Nat) : slices_Index_string_string (m + 300) [110, 111, 110, 101] [] [66, 101, 102, 111, 114, 101] [77, 101, 101, 116, 115] [79, 118, 101, 114, 108, 97, 112, 115] [83, 116, 97, 114, 116, 115] [68, 117, 114, 105, 110, 103] [70, 105, 110, 105, 115, 104, 101, 115] [69, 113, 117, 97, 108, 115] [70, 105, 110, 105, 115, 104, 101, 100, 66, 121] [67, 111, 110, 116, 97, 105, 110, 115] [83, 116, 97, 114, 116, 101, 100, 66, 121] [79, 118, 101, 114, 108, 97, 112, 112, 101, 100, 66, 121] [77, 101, 116, 66, 121] [65, 102, 116, 101, 114] = some (-1) := by kernel_rfl

theorem idx_nm (m r : Nat) (h1 : 1 ≤ r) (h2 : r < 14) : slices_Index_string_string (m + 300) (nm r) [] [66, 101, 102, 111, 114, 101] [77, 101, 101, 116, 115] [79, 118, 101, 114, 108, 97, 112, 115] [83, 116, 97, 114, 116, 115] [68, 117, 114, 105, 110, 103] [70, 105, 110, 105, 115, 104, 101, 115] [69, 113, 117, 97, 108, 115] [70, 105, 110, 105, 115, 104, 101, 100, 66, 121] [67, 111, 110, 116, 97, 105, 110, 115] [83, 116, 97, 114, 116, 101, 100, 66, 121] [79, 118, 101, 114, 108, 97, 112, 112, 101, 100, 66, 121] [77, 101, 116, 66, 121] [65, 102, 116, 101, 114] = some ((r : Int) - 1) := by
  have hq : r = 1 ∨ r = 2 ∨ r = 3 ∨ r = 4 ∨ r = 5 ∨ r = 6 ∨ r = 7 ∨ r = 8 ∨ r = 9 ∨ r = 10 ∨ r = 11 ∨ r = 12 ∨ r = 13 := by omega
  rcases hq with rfl | rfl | rfl | rfl | rfl | rfl | rfl | rfl | rfl | rfl | rfl | rfl | rfl
  · exact idx_nm_1 m
  · exact idx_nm_2 m
  · exact idx_nm_3 m
  · exact idx_nm_4 m
  · exact idx_nm_5 m
  · exact idx_nm_6 m
  · exact idx_nm_7 m
  · exact idx_nm_8 m
  · exact idx_nm_9 m
  · exact idx_nm_10 m
  · exact idx_nm_11 m
  · exact idx_nm_12 m
  · exact idx_nm_13 m

/-- What the loop over names holds. -/
def stP (t : List UInt8) (s : Nat) (k i : Nat) (ws : List (List UInt8)) : List UInt8 × Int × Nat × Int × Int × List UInt8 × List UInt8 × List UInt8 × List UInt8 × List UInt8 × List UInt8 × List UInt8 × List UInt8 × List UInt8 × List UInt8 × List UInt8 × List UInt8 × List UInt8 × List UInt8 × List (List UInt8) :=
  (t, (s : Int), k, (k : Int), (i : Int), [], [66, 101, 102, 111, 114, 101], [77, 101, 101, 116, 115], [79, 118, 101, 114, 108, 97, 112, 115], [83, 116, 97, 114, 116, 115], [68, 117, 114, 105, 110, 103], [70, 105, 110, 105, 115, 104, 101, 115], [69, 113, 117, 97, 108, 115], [70, 105, 110, 105, 115, 104, 101, 100, 66, 121], [67, 111, 110, 116, 97, 105, 110, 115], [83, 116, 97, 114, 116, 101, 100, 66, 121], [79, 118, 101, 114, 108, 97, 112, 112, 101, 100, 66, 121], [77, 101, 116, 66, 121], [65, 102, 116, 101, 114], ws)

def orL : List Nat → Nat
  | [] => 0
  | r :: l => 2 ^ r ||| orL l

theorem orL_bit : ∀ (l : List Nat) (i : Nat), (orL l).testBit i = true ↔ i ∈ l
  | [], i => by simp [orL]
  | r :: l, i => by
    rw [orL, Nat.testBit_or, Bool.or_eq_true, orL_bit l i, List.mem_cons, Nat.testBit_two_pow]
    simp only [decide_eq_true_eq]
    exact ⟨fun h => h.imp Eq.symm id, fun h => h.imp Eq.symm id⟩

theorem orL_Lr {x : Nat} (h : okS x) : orL (Lr x 14) = x := by
  apply Nat.eq_of_testBit_eq
  intro i
  have h1 := orL_bit (Lr x 14) i
  rw [Lr_mem] at h1
  cases hb : x.testBit i with
  | false =>
    cases ho : (orL (Lr x 14)).testBit i with
    | false => rfl
    | true => rw [(h1.1 ho).2.2] at hb; cases hb
  | true =>
    refine h1.2 ⟨?_, ?_, hb⟩
    · rcases Nat.lt_or_ge i 14 with q | q
      · exact q
      · have := Nat.testBit_lt_two_pow (Nat.lt_of_lt_of_le h.1 (Nat.pow_le_pow_right (show 0 < 2 by decide) q))
        rw [this] at hb; cases hb
    · rcases Nat.eq_zero_or_pos i with rfl | q
      · rw [h.2] at hb; cases hb
      · exact q

theorem or_lt {a r : Nat} (ha : a < 16384) (hr : r < 14) : a ||| 2 ^ r < 16384 :=
  Nat.or_lt_two_pow (n := 14) ha (Nat.pow_lt_pow_right (by decide) hr)

theorem parse_loop (m : Nat) (t : List UInt8) (ws : List (List UInt8)) (hw : ws.length ≤ 1000) : ∀ (rs : List Nat) (s i : Nat), (∀ r ∈ rs, 1 ≤ r ∧ r < 14) → s < 16384 → i + rs.length = ws.length → ws.drop i = rs.map nm → ∀ n, rs.length < n →
    iterL (relations_Parse_l0a (m + 300)) n (stP t s ws.length i ws) = some (.inr (t, ((s ||| orL rs : Nat) : Int)))
  | [], s, i, hr, hs, hi, hd, n, hn => by
    obtain ⟨n, rfl⟩ : ∃ q, n = q + 1 := ⟨n - 1, by omega⟩
    obtain rfl : i = ws.length := by simpa using hi
    simp [iterL, relations_Parse_l0a, stP, orL]
  | r :: rs, s, i, hr, hs, hi, hd, n, hn => by
    obtain ⟨n, rfl⟩ : ∃ q, n = q + 1 := ⟨n - 1, by omega⟩
    have hm := hr r (by simp)
    simp only [List.length_cons] at hi hn
    have hlt : i < ws.length := by omega
    have hg : ws[i]? = some (nm r) := by
      have : (ws.drop i)[0]? = some (nm r) := by rw [hd]; rfl
      rw [List.getElem?_drop] at this
      exact this
    have hd' : ws.drop (i + 1) = rs.map nm := by
      have := drop_get hg
      rw [hd] at this
      simp only [List.map_cons, List.cons.injEq, true_and] at this
      exact this.symm
    have ih := parse_loop m t ws hw rs (s ||| 2 ^ r) (i + 1) (fun q hq => hr q (by simp [hq])) (or_lt hs hm.2) (by omega) hd' n (by omega)
    have w1 : IntKind.wrap .i64 (((i : Nat) : Int) + 1) = ((i + 1 : Nat) : Int) := by rw [wrap_i64 _ (by omega) (by omega)]; omega
    have w2 : IntKind.wrap .i64 (((r : Nat) : Int) - 1 + 1) = ((r : Nat) : Int) := by rw [wrap_i64 _ (by omega) (by omega)]; omega
    have d1 : decide (((r : Nat) : Int) - 1 < 0) = false := decide_eq_false (by omega)
    have d2 : decide (((r : Nat) : Int) - 1 ≥ 0) = true := decide_eq_true (by omega)
    have d3 : decide (((r : Nat) : Int) < 0) = false := decide_eq_false (by omega)
    have hor : bits .or .u16 ((s : Nat) : Int) ((2 ^ r : Nat) : Int) = ((s ||| 2 ^ r : Nat) : Int) := or16 (Nat.lt_trans hs (by decide)) (Nat.lt_trans (Nat.pow_lt_pow_right (by decide) (show r < 14 by omega)) (by decide))
    unfold stP
    simp only [iterL, relations_Parse_l0a, nat_dec_lt, hlt, decide_true, cond_true, ix_nat hlt, ob, hg, idx_nm m r hm.1 hm.2, d1, d2, d3, cond_false, w1, w2, shl16 (show r < 16 by omega), hor]
    rw [show orL (r :: rs) = 2 ^ r ||| orL rs from rfl, ← Nat.or_assoc]
    exact ih

theorem set_parse (m : Nat) {x : Nat} (h : okS x) : relations_Parse (m + 300) (setT x) = some ((x : Int), 0) := by
  by_cases h0 : x = 0
  · subst h0; kernel_rfl
  · have hne : Lr x 14 ≠ [] := fun e => h0 ((Lr_nil h).1 e)
    have hok := Lr_ok x 14 (Nat.le_refl _)
    have hlen := Lr_len x 14
    have htl := txt_len _ hok
    have ht : setT x = txt (Lr x 14) := by rw [setT, if_neg h0]
    have hst := set_text m h
    have hor := orL_Lr h
    obtain ⟨a, l, hl⟩ : ∃ a l, Lr x 14 = a :: l := by
      cases hq : Lr x 14 with
      | nil => exact absurd hq hne
      | cons a l => exact ⟨a, l, rfl⟩
    have hsp := split_join (m + 300) (nm a) (l.map nm) (by
      intro v hv
      have : v ∈ (Lr x 14).map nm := by rw [hl]; exact hv
      obtain ⟨r, hr, rfl⟩ := List.mem_map.1 this
      exact (nm_ok r (hok r hr).2 (hok r hr).1).1) (by
      have e : Lib.join (nm a :: l.map nm) [44] = txt (Lr x 14) := by rw [hl]; rfl
      rw [e]; omega) (by
      rw [hl] at hlen
      simp only [List.length_map, List.length_cons] at hlen ⊢
      omega)
    have e : Lib.join (nm a :: l.map nm) [44] = setT x := by rw [ht, hl]; rfl
    rw [e] at hsp
    have hws : nm a :: l.map nm = (Lr x 14).map nm := by rw [hl]; rfl
    have hpl := parse_loop m (setT x) ((Lr x 14).map nm) (by simp only [List.length_map]; omega) (Lr x 14) 0 0 hok (by decide) (by simp) (by simp) (m + 300) (by omega)
    rw [hor, Nat.zero_or] at hpl
    have hk : (l.map nm).length + 1 = ((Lr x 14).map nm).length := by rw [hl]; simp
    rw [hk, hws] at hsp
    have hpl' : iterL (relations_Parse_l0a (m + 300)) (m + 300) (setT x, 0, ((Lr x 14).map nm).length, ((((Lr x 14).map nm).length : Nat) : Int), 0, [], [66, 101, 102, 111, 114, 101], [77, 101, 101, 116, 115], [79, 118, 101, 114, 108, 97, 112, 115], [83, 116, 97, 114, 116, 115], [68, 117, 114, 105, 110, 103], [70, 105, 110, 105, 115, 104, 101, 115], [69, 113, 117, 97, 108, 115], [70, 105, 110, 105, 115, 104, 101, 100, 66, 121], [67, 111, 110, 116, 97, 105, 110, 115], [83, 116, 97, 114, 116, 101, 100, 66, 121], [79, 118, 101, 114, 108, 97, 112, 112, 101, 100, 66, 121], [77, 101, 116, 66, 121], [65, 102, 116, 101, 114], (Lr x 14).map nm) = some (.inr (setT x, (x : Int))) := hpl
    simp only [relations_Parse, relations_names, ob, hsp, hpl', hst, bne_self_eq_false, cond_false, beq_self_eq_true, Bool.not_true]

/-! ### Any text -/

theorem pieces : ∀ t : List UInt8, ∃ w ws, t = w ++ Lib.joinTail [44] ws ∧ (∀ v ∈ w :: ws, (44 : UInt8) ∉ v)
  | [] => ⟨[], [], rfl, by simp⟩
  | c :: t => by
    obtain ⟨w, ws, h1, h2⟩ := pieces t
    by_cases hc : c = 44
    · subst hc
      refine ⟨[], w :: ws, ?_, ?_⟩
      · rw [jt_cons, ← h1]; rfl
      · intro v hv
        rcases List.mem_cons.1 hv with rfl | hv
        · simp
        · exact h2 v hv
    · refine ⟨c :: w, ws, by rw [h1]; rfl, ?_⟩
      intro v hv
      rcases List.mem_cons.1 hv with rfl | hv
      · simp only [List.mem_cons, not_or]
        exact ⟨fun e => hc e.symm, h2 w (by simp)⟩
      · exact h2 v (by simp [hv])

def nmsL : List (List UInt8) := [[], [66, 101, 102, 111, 114, 101], [77, 101, 101, 116, 115], [79, 118, 101, 114, 108, 97, 112, 115], [83, 116, 97, 114, 116, 115], [68, 117, 114, 105, 110, 103], [70, 105, 110, 105, 115, 104, 101, 115], [69, 113, 117, 97, 108, 115], [70, 105, 110, 105, 115, 104, 101, 100, 66, 121], [67, 111, 110, 116, 97, 105, 110, 115], [83, 116, 97, 114, 116, 101, 100, 66, 121], [79, 118, 101, 114, 108, 97, 112, 112, 101, 100, 66, 121], [77, 101, 116, 66, 121], [65, 102, 116, 101, 114]]

theorem nms_get (j : Nat) (h : j < 13) : nmsL[1 + j]? = some (nm (1 + j)) := by
  have : ∀ j, j < 13 → nmsL[1 + j]? = some (nm (1 + j)) := by decide
  exact this j h

theorem idx_no (m : Nat) (w : List UInt8) (h : ∀ r, 1 ≤ r → r < 14 → w ≠ nm r) : slices_Index_string_string (m + 300) w [] [66, 101, 102, 111, 114, 101] [77, 101, 101, 116, 115] [79, 118, 101, 114, 108, 97, 112, 115] [83, 116, 97, 114, 116, 115] [68, 117, 114, 105, 110, 103] [70, 105, 110, 105, 115, 104, 101, 115] [69, 113, 117, 97, 108, 115] [70, 105, 110, 105, 115, 104, 101, 100, 66, 121] [67, 111, 110, 116, 97, 105, 110, 115] [83, 116, 97, 114, 116, 101, 100, 66, 121] [79, 118, 101, 114, 108, 97, 112, 112, 101, 100, 66, 121] [77, 101, 116, 66, 121] [65, 102, 116, 101, 114] = some (-1) := by
  have := iterL_steps (step := slices_Index_string_string_l0 (m + 300)) (f := fun i : Nat => (w, 13, (i : Int), [], [66, 101, 102, 111, 114, 101], [77, 101, 101, 116, 115], [79, 118, 101, 114, 108, 97, 112, 115], [83, 116, 97, 114, 116, 115], [68, 117, 114, 105, 110, 103], [70, 105, 110, 105, 115, 104, 101, 115], [69, 113, 117, 97, 108, 115], [70, 105, 110, 105, 115, 104, 101, 100, 66, 121], [67, 111, 110, 116, 97, 105, 110, 115], [83, 116, 97, 114, 116, 101, 100, 66, 121], [79, 118, 101, 114, 108, 97, 112, 112, 101, 100, 66, 121], [77, 101, 116, 66, 121], [65, 102, 116, 101, 114])) (y := .inr ()) (m := 13) (n := m + 300) (fun i hi => by
    have hx : ix 13 (i : Int) = some i := ix_nat hi
    have hd : decide ((i : Int) < 13) = true := decide_eq_true (by omega)
    have hw : IntKind.wrap .i64 ((i : Int) + 1) = ((i + 1 : Nat) : Int) := by rw [wrap_i64 _ (by omega) (by omega)]; omega
    have hg := nms_get i hi
    have hn : (w == nm (1 + i)) = false := beq_eq_false_iff_ne.2 (h (1 + i) (by omega) (by omega))
    unfold nmsL at hg
    simp only [slices_Index_string_string_l0, hd, cond_true, hx, ob, hg, hn, cond_false, hw]) (by rfl) (by omega)
  simp only [Int.natCast_zero] at this
  have h' : iterL (slices_Index_string_string_l0 (m + 300)) (m + 300) (w, 13, 0, [], [66, 101, 102, 111, 114, 101], [77, 101, 101, 116, 115], [79, 118, 101, 114, 108, 97, 112, 115], [83, 116, 97, 114, 116, 115], [68, 117, 114, 105, 110, 103], [70, 105, 110, 105, 115, 104, 101, 115], [69, 113, 117, 97, 108, 115], [70, 105, 110, 105, 115, 104, 101, 100, 66, 121], [67, 111, 110, 116, 97, 105, 110, 115], [83, 116, 97, 114, 116, 101, 100, 66, 121], [79, 118, 101, 114, 108, 97, 112, 112, 101, 100, 66, 121], [77, 101, 116, 66, 121], [65, 102, 116, 101, 114]) = some (.inr ()) := this
  simp only [slices_Index_string_string, h', ob]

theorem parse_loop_any (m : Nat) (t : List UInt8) (ht : t ≠ [110, 111, 110, 101]) (ws : List (List UInt8)) (hw : ws.length ≤ 1000) : ∀ (rs : List (List UInt8)) (s i : Nat), okS s → i + rs.length = ws.length → ws.drop i = rs → ∀ n, rs.length < n →
    ∃ y, iterL (relations_Parse_l0a (m + 300)) n (stP t s ws.length i ws) = some y ∧ (y = .inl (0, 5) ∨ ∃ s' : Nat, okS s' ∧ y = .inr (t, (s' : Int)))
  | [], s, i, hs, hi, hd, n, hn => by
    obtain ⟨n, rfl⟩ : ∃ q, n = q + 1 := ⟨n - 1, by omega⟩
    obtain rfl : i = ws.length := by simpa using hi
    exact ⟨.inr (t, (s : Int)), by simp [iterL, relations_Parse_l0a, stP], .inr ⟨s, hs, rfl⟩⟩
  | w :: rs, s, i, hs, hi, hd, n, hn => by
    obtain ⟨n, rfl⟩ : ∃ q, n = q + 1 := ⟨n - 1, by omega⟩
    simp only [List.length_cons] at hi hn
    have hlt : i < ws.length := by omega
    have hg : ws[i]? = some w := by
      have : (ws.drop i)[0]? = some w := by rw [hd]; rfl
      rw [List.getElem?_drop] at this
      exact this
    have hd' : ws.drop (i + 1) = rs := by
      have := drop_get hg
      rw [hd] at this
      simp only [List.cons.injEq, true_and] at this
      exact this.symm
    have w1 : IntKind.wrap .i64 (((i : Nat) : Int) + 1) = ((i + 1 : Nat) : Int) := by rw [wrap_i64 _ (by omega) (by omega)]; omega
    by_cases hx : ∃ r, (1 ≤ r ∧ r < 14) ∧ w = nm r
    · obtain ⟨r, hm, rfl⟩ := hx
      have hok : okS (s ||| 2 ^ r) := ⟨or_lt hs.1 hm.2, by
        rw [Nat.testBit_or, hs.2, Nat.testBit_two_pow]
        simp; omega⟩
      obtain ⟨y, h1, h2⟩ := parse_loop_any m t ht ws hw rs (s ||| 2 ^ r) (i + 1) hok (by omega) hd' n (by omega)
      have w2 : IntKind.wrap .i64 (((r : Nat) : Int) - 1 + 1) = ((r : Nat) : Int) := by rw [wrap_i64 _ (by omega) (by omega)]; omega
      have d1 : decide (((r : Nat) : Int) - 1 < 0) = false := decide_eq_false (by omega)
      have d2 : decide (((r : Nat) : Int) - 1 ≥ 0) = true := decide_eq_true (by omega)
      have d3 : decide (((r : Nat) : Int) < 0) = false := decide_eq_false (by omega)
      have hor : bits .or .u16 ((s : Nat) : Int) ((2 ^ r : Nat) : Int) = ((s ||| 2 ^ r : Nat) : Int) := or16 (Nat.lt_trans hs.1 (by decide)) (Nat.lt_trans (Nat.pow_lt_pow_right (by decide) (show r < 14 by omega)) (by decide))
      refine ⟨y, ?_, h2⟩
      unfold stP
      simp only [iterL, relations_Parse_l0a, nat_dec_lt, hlt, decide_true, cond_true, ix_nat hlt, ob, hg, idx_nm m r hm.1 hm.2, d1, d2, d3, cond_false, w1, w2, shl16 (show r < 16 by omega), hor]
      exact h1
    · have hno := idx_no m w fun r h1 h2 e => hx ⟨r, ⟨h1, h2⟩, e⟩
      have d1 : decide ((-1 : Int) < 0) = true := rfl
      have d2 : (t == [110, 111, 110, 101]) = false := beq_eq_false_iff_ne.2 ht
      refine ⟨.inl (0, 5), ?_, .inl rfl⟩
      unfold stP
      simp only [iterL, relations_Parse_l0a, nat_dec_lt, hlt, decide_true, cond_true, ix_nat hlt, ob, hg, hno, d1, d2, Bool.not_false]

/-- What is read: a right set whose text it is, or nothing. -/
theorem parse_any (m : Nat) (t : List UInt8) (ht : t.length ≤ 200) : ∃ v e, relations_Parse (m + 300) t = some (v, e) ∧ ((v = 0 ∧ e = 5) ∨ (e = 0 ∧ ∃ s : Nat, v = (s : Int) ∧ okS s ∧ setT s = t)) := by
  by_cases hn : t = [110, 111, 110, 101]
  · have h0 : okS 0 := ⟨by decide, by decide⟩
    have := set_parse m h0
    have e : setT 0 = t := by rw [hn]; rfl
    rw [e] at this
    exact ⟨_, _, this, .inr ⟨rfl, 0, rfl, h0, e⟩⟩
  · obtain ⟨w, ws, h1, h2⟩ := pieces t
    have hjl := jt_len ws
    have hwl : ws.length ≤ 200 := by
      rw [h1, List.length_append] at ht
      omega
    have hsp := split_join (m + 300) w ws h2 (by rw [Lib.join_cons, ← h1]; omega) (by omega)
    rw [Lib.join_cons, ← h1] at hsp
    obtain ⟨y, h3, h4⟩ := parse_loop_any m t hn (w :: ws) (by simp only [List.length_cons]; omega) (w :: ws) 0 0 ⟨by decide, by decide⟩ (by simp) (by simp) (m + 300) (by simp only [List.length_cons]; omega)
    have h3' : iterL (relations_Parse_l0a (m + 300)) (m + 300) (t, 0, ws.length + 1, ((ws.length + 1 : Nat) : Int), 0, [], [66, 101, 102, 111, 114, 101], [77, 101, 101, 116, 115], [79, 118, 101, 114, 108, 97, 112, 115], [83, 116, 97, 114, 116, 115], [68, 117, 114, 105, 110, 103], [70, 105, 110, 105, 115, 104, 101, 115], [69, 113, 117, 97, 108, 115], [70, 105, 110, 105, 115, 104, 101, 100, 66, 121], [67, 111, 110, 116, 97, 105, 110, 115], [83, 116, 97, 114, 116, 101, 100, 66, 121], [79, 118, 101, 114, 108, 97, 112, 112, 101, 100, 66, 121], [77, 101, 116, 66, 121], [65, 102, 116, 101, 114], w :: ws) = some y := h3
    simp only [relations_Parse, relations_names, ob, hsp, h3']
    rcases h4 with rfl | ⟨s, hs, rfl⟩
    · exact ⟨0, 5, rfl, .inl ⟨rfl, rfl⟩⟩
    · simp only [set_text m hs, bne_self_eq_false, cond_false]
      by_cases he : setT s = t
      · have : (setT s == t) = true := beq_iff_eq.2 he
        simp only [this, Bool.not_true, cond_false]
        exact ⟨_, _, rfl, .inr ⟨rfl, s, rfl, hs, he⟩⟩
      · have : (setT s == t) = false := beq_eq_false_iff_ne.2 he
        simp only [this, Bool.not_false, cond_true]
        exact ⟨_, _, rfl, .inl ⟨rfl, rfl⟩⟩

theorem and64 {a b : Nat} (ha : a < 65536) (hb : b < 65536) : bits .and .i64 (a : Int) (b : Int) = ((a &&& b : Nat) : Int) := by
  show IntKind.wrap .i64 ((BitVec.ofInt 64 (a : Int) &&& BitVec.ofInt 64 (b : Int)).toNat : Int) = _
  rw [ofInt_nat, ofInt_nat, BitVec.toNat_and, BitVec.toNat_ofNat, BitVec.toNat_ofNat, Nat.mod_eq_of_lt (Nat.lt_trans ha (by decide)), Nat.mod_eq_of_lt (Nat.lt_trans hb (by decide))]
  have := Nat.and_lt_two_pow (n := 16) a (show b < 2 ^ 16 from hb)
  exact wrap_i64 _ (by omega) (by omega)

theorem okS_and (x : Nat) : okS (x &&& 16382) := by
  refine ⟨Nat.and_lt_two_pow (n := 14) x (by decide), ?_⟩
  rw [Nat.testBit_and]
  simp [show Nat.testBit 16382 0 = false from by decide]

theorem text_tail (m : Nat) (x : Nat) (hx : x < 65536) (t : List UInt8) (v e : Int) (hp : relations_Parse (m + 300) t = some (v, e)) (hve : (v = 0 ∧ e = 5) ∨ (e = 0 ∧ ∃ s : Nat, v = (s : Int) ∧ okS s ∧ setT s = t)) :
    (cond (e != 0) (cond (e == 5) (cond (v == 0) (ob (circaref31_Text (m + 300) (bits .and .i64 (IntKind.wrap .i64 ((x : Nat) : Int)) 16382)) fun r => (cond (!(t == r)) (ob (circalaw31_lives (m + 300)) fun r2 => (some r2)) (some false))) (some false)) (some false)) (cond ((bits .andNot .u16 v 16382) == 0) (ob (circaref31_Text (m + 300) (IntKind.wrap .i64 v)) fun r => (cond (r == t) (ob (circalaw31_lives (m + 300)) fun r2 => (some r2)) (some false))) (some false))) = some true := by
  have hl := re_lives m
  have wx : IntKind.wrap .i64 ((x : Nat) : Int) = x := wrap_i64 _ (by omega) (by omega)
  have hand : bits .and .i64 (IntKind.wrap .i64 ((x : Nat) : Int)) 16382 = ((x &&& 16382 : Nat) : Int) := by rw [wx]; exact and64 hx (by decide)
  have hrt := ref_text m (okS_and x)
  rcases hve with ⟨rfl, rfl⟩ | ⟨rfl, s, rfl, hs, hst⟩
  · have hne : (t == setT (x &&& 16382)) = false := by
      rw [beq_eq_false_iff_ne]
      intro e
      have := set_parse m (okS_and x)
      rw [← e, hp] at this
      simp at this
    rw [hand, hrt, hl]
    simp only [ob, hne]
    rfl
  · have hs16 : s < 65536 := Nat.lt_trans hs.1 (by decide)
    have ws' : IntKind.wrap .i64 ((s : Nat) : Int) = s := wrap_i64 _ (by omega) (by omega)
    have hst' : (setT s == t) = true := beq_iff_eq.2 hst
    rw [ws', ref_text m hs, hl, (right_iff hs16).2 hs]
    simp only [bne_self_eq_false, cond_false, cond_true, ob, hst']

theorem relationsText_ok (m : Nat) (x : Nat) (hx : x < 65536) (t : List UInt8) : circalaw31_RelationsText (m + 300) (x : Int) t = some true := by
  have hl := re_lives m
  unfold circalaw31_RelationsText
  by_cases ht : t.length > 200
  · have : decide (((t.length : Nat) : Int) > 200) = true := decide_eq_true (by omega)
    rw [this, hl]; rfl
  · have hd : decide (((t.length : Nat) : Int) > 200) = false := decide_eq_false (by omega)
    have wx : IntKind.wrap .i64 ((x : Nat) : Int) = x := wrap_i64 _ (by omega) (by omega)
    obtain ⟨v, e, hp, hve⟩ := parse_any m t (by omega)
    have tail := text_tail m x hx t v e hp hve
    simp only [ob] at tail
    rw [hd, cond_false]
    by_cases hr : okS x
    · have h1 : (bits .andNot .u16 ((x : Nat) : Int) 16382 != 0) = false := by rw [bne, (right_iff hx).2 hr]; rfl
      have hrx : circaref31_Text (m + 300) (IntKind.wrap .i64 ((x : Nat) : Int)) = some (setT x) := by rw [wx]; exact ref_text m hr
      rw [set_text m hr, h1]
      simp only [ob, cond_false, set_parse m hr, bne_self_eq_false, hrx, beq_self_eq_true, Bool.not_true, hp]
      exact tail
    · have h0 : (bits .andNot .u16 ((x : Nat) : Int) 16382 == 0) = false := by
        cases h : (bits .andNot .u16 ((x : Nat) : Int) 16382 == 0) with
        | false => rfl
        | true => exact absurd ((right_iff hx).1 h) hr
      have h1 : (bits .andNot .u16 ((x : Nat) : Int) 16382 != 0) = true := by rw [bne, h0]; rfl
      have hst : relations_Set_Text (m + 300) ((x : Nat) : Int) = some ([], 1) := by
        simp only [relations_Set_Text, relations_Set_right, ob, h0, Bool.not_false, cond_true]
      rw [hst, h1]
      simp only [ob, cond_true, hp]
      exact tail

end Go.Sh
