/- Chapter 31: the law of sets.
   Conditions: none. -/
import Derived.Test.YtpeccjabfkaicaaDoorLawReU
set_option linter.unusedSimpArgs false
set_option linter.unusedVariables false
set_option maxRecDepth 20000
namespace Go.Sh
open Go.Abs

instance (x : Nat) : Decidable (okS x) := by unfold okS; infer_instance

theorem each_loop (n : Nat) (f : Nat → Nat) (rs : List Nat) (hk : rs.length ≤ 100) (hf : ∀ r ∈ rs, relations_Converse n ((r : Nat) : Int) = some (((f r : Nat) : Int), 0) ∧ f r < 14) : ∀ (k i s : Nat), i + k = rs.length → s < 16384 → ∀ m, k < m →
    iterL (relations_Set_each_l0 n) m ((s : Int), rs.length, rs.length, ((rs.length : Nat) : Int), ((i : Nat) : Int), ints rs) = some ((s ||| orL ((rs.drop i).map f) : Nat) : Int)
  | 0, i, s, hi, hs, m, hm => by
    obtain ⟨m, rfl⟩ : ∃ q, m = q + 1 := ⟨m - 1, by omega⟩
    obtain rfl : i = rs.length := by omega
    simp [iterL, relations_Set_each_l0, orL]
  | k + 1, i, s, hi, hs, m, hm => by
    obtain ⟨m, rfl⟩ : ∃ q, m = q + 1 := ⟨m - 1, by omega⟩
    have hlt : i < rs.length := by omega
    have hg : rs[i]? = some rs[i] := List.getElem?_eq_getElem hlt
    obtain ⟨h1, h2⟩ := hf rs[i] (List.getElem_mem hlt)
    have ih := each_loop n f rs hk hf k (i + 1) (s ||| 2 ^ f rs[i]) (by omega) (or_lt hs h2) m (by omega)
    have w1 : IntKind.wrap .i64 (((i : Nat) : Int) + 1) = ((i + 1 : Nat) : Int) := by rw [wrap_i64 _ (by omega) (by omega)]; omega
    have hgi : (ints rs)[i]? = some ((rs[i] : Nat) : Int) := by simp [ints, hg]
    have d3 : decide (((f rs[i] : Nat) : Int) < 0) = false := decide_eq_false (by omega)
    have hor : bits .or .u16 ((s : Nat) : Int) ((2 ^ f rs[i] : Nat) : Int) = ((s ||| 2 ^ f rs[i] : Nat) : Int) := or16 (Nat.lt_trans hs (by decide)) (Nat.lt_trans (Nat.pow_lt_pow_right (by decide) h2) (by decide))
    rw [drop_get hg, List.map_cons, show orL (f rs[i] :: (rs.drop (i + 1)).map f) = 2 ^ f rs[i] ||| orL ((rs.drop (i + 1)).map f) from rfl, ← Nat.or_assoc]
    simp only [iterL, relations_Set_each_l0, nat_dec_lt, hlt, decide_true, cond_true, ix_nat hlt, ob, hgi, h1, d3, cond_false, w1, shl16 (show f rs[i] < 16 by omega), hor]
    exact ih

theorem each2_loop (n : Nat) (f : Nat → Nat) (rs : List Nat) (hk : rs.length ≤ 100) (hf : ∀ r ∈ rs, relations_Mirror n ((r : Nat) : Int) = some (((f r : Nat) : Int), 0) ∧ f r < 14) : ∀ (k i s : Nat), i + k = rs.length → s < 16384 → ∀ m, k < m →
    iterL (relations_Set_each_v2_l0 n) m ((s : Int), rs.length, rs.length, ((rs.length : Nat) : Int), ((i : Nat) : Int), ints rs) = some ((s ||| orL ((rs.drop i).map f) : Nat) : Int)
  | 0, i, s, hi, hs, m, hm => by
    obtain ⟨m, rfl⟩ : ∃ q, m = q + 1 := ⟨m - 1, by omega⟩
    obtain rfl : i = rs.length := by omega
    simp [iterL, relations_Set_each_v2_l0, orL]
  | k + 1, i, s, hi, hs, m, hm => by
    obtain ⟨m, rfl⟩ : ∃ q, m = q + 1 := ⟨m - 1, by omega⟩
    have hlt : i < rs.length := by omega
    have hg : rs[i]? = some rs[i] := List.getElem?_eq_getElem hlt
    obtain ⟨h1, h2⟩ := hf rs[i] (List.getElem_mem hlt)
    have ih := each2_loop n f rs hk hf k (i + 1) (s ||| 2 ^ f rs[i]) (by omega) (or_lt hs h2) m (by omega)
    have w1 : IntKind.wrap .i64 (((i : Nat) : Int) + 1) = ((i + 1 : Nat) : Int) := by rw [wrap_i64 _ (by omega) (by omega)]; omega
    have hgi : (ints rs)[i]? = some ((rs[i] : Nat) : Int) := by simp [ints, hg]
    have d3 : decide (((f rs[i] : Nat) : Int) < 0) = false := decide_eq_false (by omega)
    have hor : bits .or .u16 ((s : Nat) : Int) ((2 ^ f rs[i] : Nat) : Int) = ((s ||| 2 ^ f rs[i] : Nat) : Int) := or16 (Nat.lt_trans hs (by decide)) (Nat.lt_trans (Nat.pow_lt_pow_right (by decide) h2) (by decide))
    rw [drop_get hg, List.map_cons, show orL (f rs[i] :: (rs.drop (i + 1)).map f) = 2 ^ f rs[i] ||| orL ((rs.drop (i + 1)).map f) from rfl, ← Nat.or_assoc]
    simp only [iterL, relations_Set_each_v2_l0, nat_dec_lt, hlt, decide_true, cond_true, ix_nat hlt, ob, hgi, h1, d3, cond_false, w1, shl16 (show f rs[i] < 16 by omega), hor]
    exact ih

def cv (r : Nat) : Nat := 14 - r
def mv (r : Nat) : Nat := (mirF (r : Int)).toNat

theorem mv_ok : ∀ r : Nat, 1 ≤ r → r < 14 → mirF (r : Int) = ((mv r : Nat) : Int) ∧ 1 ≤ mv r ∧ mv r < 14 ∧ mv (mv r) = r := by
  have : ∀ r : Nat, r < 14 → 1 ≤ r → mirF (r : Int) = ((mv r : Nat) : Int) ∧ 1 ≤ mv r ∧ mv r < 14 ∧ mv (mv r) = r := by decide
  exact fun r h1 h2 => this r h2 h1

def imgS (f : Nat → Nat) (x : Nat) : Nat := orL ((Lr x 14).map f)

theorem or_of_lt : ∀ l : List Nat, (∀ r ∈ l, r < 14) → orL l < 16384
  | [], _ => by decide
  | r :: l, h => by
    have ih := or_of_lt l fun q hq => h q (by simp [hq])
    show 2 ^ r ||| orL l < 16384
    rw [Nat.or_comm]
    exact or_lt ih (h r (by simp))

theorem img_ok (f : Nat → Nat) (hf : ∀ r, 1 ≤ r → r < 14 → 1 ≤ f r ∧ f r < 14) (x : Nat) : okS (imgS f x) := by
  have hm : ∀ r ∈ (Lr x 14).map f, 1 ≤ r ∧ r < 14 := by
    intro r hr
    obtain ⟨q, hq, rfl⟩ := List.mem_map.1 hr
    have := Lr_mem.1 hq
    exact hf q this.2.1 this.1
  refine ⟨or_of_lt _ fun r hr => (hm r hr).2, ?_⟩
  cases h : (imgS f x).testBit 0 with
  | false => rfl
  | true =>
    have := hm 0 ((orL_bit _ 0).1 h)
    omega

theorem img_bit (f : Nat → Nat) (hf : ∀ r, 1 ≤ r → r < 14 → 1 ≤ f r ∧ f r < 14 ∧ f (f r) = r) (x : Nat) {j : Nat} (h1 : 1 ≤ j) (h2 : j < 14) : (imgS f x).testBit j = x.testBit (f j) := by
  have hj := hf j h1 h2
  have h := orL_bit ((Lr x 14).map f) j
  cases hb : x.testBit (f j) with
  | true => exact h.2 (List.mem_map.2 ⟨f j, Lr_mem.2 ⟨hj.2.1, hj.1, hb⟩, hj.2.2⟩)
  | false =>
    cases ho : (imgS f x).testBit j with
    | false => rfl
    | true =>
      obtain ⟨q, hq, he⟩ := List.mem_map.1 (h.1 ho)
      have hq := Lr_mem.1 hq
      have := hf q hq.2.1 hq.1
      rw [← he, this.2.2, hq.2.2] at hb
      cases hb

theorem img_img (f : Nat → Nat) (hf : ∀ r, 1 ≤ r → r < 14 → 1 ≤ f r ∧ f r < 14 ∧ f (f r) = r) {x : Nat} (hx : okS x) : imgS f (imgS f x) = x := by
  have hok := img_ok f (fun r h1 h2 => ⟨(hf r h1 h2).1, (hf r h1 h2).2.1⟩)
  apply Nat.eq_of_testBit_eq
  intro i
  by_cases h1 : 1 ≤ i
  · by_cases h2 : i < 14
    · rw [img_bit f hf _ h1 h2, img_bit f hf _ (hf i h1 h2).1 (hf i h1 h2).2.1, (hf i h1 h2).2.2]
    · have hp : (16384 : Nat) ≤ 2 ^ i := Nat.pow_le_pow_right (n := 2) (show 0 < 2 by decide) (show 14 ≤ i by omega)
      rw [Nat.testBit_lt_two_pow (Nat.lt_of_lt_of_le (hok _).1 hp), Nat.testBit_lt_two_pow (Nat.lt_of_lt_of_le hx.1 hp)]
  · have : i = 0 := by omega
    subst this
    rw [(hok _).2, hx.2]

def b01 (x j : Nat) : Nat := if x.testBit j then 1 else 0

theorem len_step (x r : Nat) (h : 1 ≤ r) : (Lr x (r + 1)).length = (Lr x r).length + b01 x r := by
  rw [Lr_succ]
  unfold b01
  cases hb : x.testBit r with
  | true => rw [if_pos ⟨h, rfl⟩, if_pos rfl]; simp
  | false => rw [if_neg (by simp), if_neg (by simp)]; simp

theorem len14 (x : Nat) : (Lr x 14).length = b01 x 1 + b01 x 2 + b01 x 3 + b01 x 4 + b01 x 5 + b01 x 6 + b01 x 7 + b01 x 8 + b01 x 9 + b01 x 10 + b01 x 11 + b01 x 12 + b01 x 13 := by
  have h1 : Lr x 1 = [] := by simp [Lr, List.range_succ]
  rw [len_step x 13 (by decide), len_step x 12 (by decide), len_step x 11 (by decide), len_step x 10 (by decide), len_step x 9 (by decide), len_step x 8 (by decide), len_step x 7 (by decide), len_step x 6 (by decide), len_step x 5 (by decide), len_step x 4 (by decide), len_step x 3 (by decide), len_step x 2 (by decide), len_step x 1 (by decide), h1]
  simp

theorem cv_inv : ∀ r, 1 ≤ r → r < 14 → 1 ≤ cv r ∧ cv r < 14 ∧ cv (cv r) = r := by
  intro r h1 h2; unfold cv; omega
theorem mv_inv : ∀ r, 1 ≤ r → r < 14 → 1 ≤ mv r ∧ mv r < 14 ∧ mv (mv r) = r := fun r h1 h2 => (mv_ok r h1 h2).2

theorem img_b01 (f : Nat → Nat) (hf : ∀ r, 1 ≤ r → r < 14 → 1 ≤ f r ∧ f r < 14 ∧ f (f r) = r) (x j : Nat) (h1 : 1 ≤ j) (h2 : j < 14) : b01 (imgS f x) j = b01 x (f j) := by
  unfold b01; rw [img_bit f hf x h1 h2]

theorem img_len_cv (x : Nat) : (Lr (imgS cv x) 14).length = (Lr x 14).length := by
  rw [len14, len14]
  rw [img_b01 cv cv_inv x 1 (by decide) (by decide), img_b01 cv cv_inv x 2 (by decide) (by decide), img_b01 cv cv_inv x 3 (by decide) (by decide), img_b01 cv cv_inv x 4 (by decide) (by decide), img_b01 cv cv_inv x 5 (by decide) (by decide), img_b01 cv cv_inv x 6 (by decide) (by decide), img_b01 cv cv_inv x 7 (by decide) (by decide), img_b01 cv cv_inv x 8 (by decide) (by decide), img_b01 cv cv_inv x 9 (by decide) (by decide), img_b01 cv cv_inv x 10 (by decide) (by decide), img_b01 cv cv_inv x 11 (by decide) (by decide), img_b01 cv cv_inv x 12 (by decide) (by decide), img_b01 cv cv_inv x 13 (by decide) (by decide)]
  have e : cv 1 = 13 ∧ cv 2 = 12 ∧ cv 3 = 11 ∧ cv 4 = 10 ∧ cv 5 = 9 ∧ cv 6 = 8 ∧ cv 7 = 7 ∧ cv 8 = 6 ∧ cv 9 = 5 ∧ cv 10 = 4 ∧ cv 11 = 3 ∧ cv 12 = 2 ∧ cv 13 = 1 := by decide
  obtain ⟨e1, e2, e3, e4, e5, e6, e7, e8, e9, e10, e11, e12, e13⟩ := e
  rw [e1, e2, e3, e4, e5, e6, e7, e8, e9, e10, e11, e12, e13]
  omega

theorem img_len_mv (x : Nat) : (Lr (imgS mv x) 14).length = (Lr x 14).length := by
  rw [len14, len14]
  rw [img_b01 mv mv_inv x 1 (by decide) (by decide), img_b01 mv mv_inv x 2 (by decide) (by decide), img_b01 mv mv_inv x 3 (by decide) (by decide), img_b01 mv mv_inv x 4 (by decide) (by decide), img_b01 mv mv_inv x 5 (by decide) (by decide), img_b01 mv mv_inv x 6 (by decide) (by decide), img_b01 mv mv_inv x 7 (by decide) (by decide), img_b01 mv mv_inv x 8 (by decide) (by decide), img_b01 mv mv_inv x 9 (by decide) (by decide), img_b01 mv mv_inv x 10 (by decide) (by decide), img_b01 mv mv_inv x 11 (by decide) (by decide), img_b01 mv mv_inv x 12 (by decide) (by decide), img_b01 mv mv_inv x 13 (by decide) (by decide)]
  have e : mv 1 = 13 ∧ mv 2 = 12 ∧ mv 3 = 11 ∧ mv 4 = 6 ∧ mv 5 = 5 ∧ mv 6 = 4 ∧ mv 7 = 7 ∧ mv 8 = 10 ∧ mv 9 = 9 ∧ mv 10 = 8 ∧ mv 11 = 3 ∧ mv 12 = 2 ∧ mv 13 = 1 := by decide
  obtain ⟨e1, e2, e3, e4, e5, e6, e7, e8, e9, e10, e11, e12, e13⟩ := e
  rw [e1, e2, e3, e4, e5, e6, e7, e8, e9, e10, e11, e12, e13]
  omega

theorem notright {x : Nat} (hx : x < 65536) (h : ¬ okS x) : ((bits .andNot .u16 (x : Int) 16382) == 0) = false := by
  cases hh : ((bits .andNot .u16 (x : Int) 16382) == 0) with
  | false => rfl
  | true => exact absurd ((right_iff hx).1 hh) h

theorem set_conv (m : Nat) {x : Nat} (hx : x < 65536) : relations_Set_Converse (m + 300) (x : Int) = some (if okS x then (((imgS cv x : Nat) : Int), 0) else (0, 1)) := by
  unfold relations_Set_Converse relations_Set_each relations_Set_right
  by_cases h : okS x
  · have hln := Lr_len x 14
    have hl := each_loop (m + 300) cv (Lr x 14) (by omega) (fun r hr => by
      have := Lr_mem.1 hr
      rw [rel_conv, if_pos (by omega)]
      refine ⟨?_, by unfold cv; omega⟩
      unfold cv
      congr 2
      omega) (Lr x 14).length 0 0 (by omega) (by decide) (m + 300) (by omega)
    rw [List.drop_zero, Nat.zero_or] at hl
    have hl' : iterL (relations_Set_each_l0 (m + 300)) (m + 300) (0, (Lr x 14).length, (Lr x 14).length, (((Lr x 14).length : Nat) : Int), 0, ints (Lr x 14)) = some ((imgS cv x : Nat) : Int) := hl
    simp only [ob, (right_iff hx).2 h, Bool.not_true, cond_false, show m + 300 = (m + 286) + 14 from rfl, set_list (m + 286) hx]
    simp only [show (m + 286) + 14 = m + 300 from rfl, hl', if_pos h]
  · simp only [ob, notright hx h, Bool.not_false, cond_true, if_neg h]

theorem set_mirr (m : Nat) {x : Nat} (hx : x < 65536) : relations_Set_Mirror (m + 300) (x : Int) = some (if okS x then (((imgS mv x : Nat) : Int), 0) else (0, 1)) := by
  unfold relations_Set_Mirror relations_Set_each_v2 relations_Set_right
  by_cases h : okS x
  · have hln := Lr_len x 14
    have hl := each2_loop (m + 300) mv (Lr x 14) (by omega) (fun r hr => by
      have := Lr_mem.1 hr
      have hm := mv_ok r this.2.1 this.1
      rw [rel_mirror _ (by omega), hm.1]
      exact ⟨rfl, hm.2.2.1⟩) (Lr x 14).length 0 0 (by omega) (by decide) (m + 300) (by omega)
    rw [List.drop_zero, Nat.zero_or] at hl
    have hl' : iterL (relations_Set_each_v2_l0 (m + 300)) (m + 300) (0, (Lr x 14).length, (Lr x 14).length, (((Lr x 14).length : Nat) : Int), 0, ints (Lr x 14)) = some ((imgS mv x : Nat) : Int) := hl
    simp only [ob, (right_iff hx).2 h, Bool.not_true, cond_false, show m + 300 = (m + 286) + 14 from rfl, set_list (m + 286) hx]
    simp only [show (m + 286) + 14 = m + 300 from rfl, hl', if_pos h]
  · simp only [ob, notright hx h, Bool.not_false, cond_true, if_neg h]

/-! ### Compositions -/

def tabN (r s : Nat) : Nat := (tabF (r : Int) (s : Int)).toNat

theorem tabN_ok {r s : Nat} (h1 : 1 ≤ r) (h2 : r < 14) (h3 : 1 ≤ s) (h4 : s < 14) : tabF (r : Int) (s : Int) = ((tabN r s : Nat) : Int) ∧ tabN r s < 65536 := by
  obtain ⟨v, hv, _, hlt⟩ := tabF_lt (r := (r : Int)) (s := (s : Int)) (by omega)
  unfold tabN
  rw [hv]
  simp [hlt]

def inF (r : Nat) (ys : List Nat) (acc : Nat) : Nat := ys.foldl (fun o s => o ||| tabN r s) acc
def outF (xs ys : List Nat) (acc : Nat) : Nat := xs.foldl (fun o r => inF r ys o) acc

theorem or_lt16 {a b : Nat} (ha : a < 65536) (hb : b < 65536) : a ||| b < 65536 := Nat.or_lt_two_pow (n := 16) ha hb

theorem inF_lt (r : Nat) (h1 : 1 ≤ r) (h2 : r < 14) : ∀ (ys : List Nat) (acc : Nat), (∀ s ∈ ys, 1 ≤ s ∧ s < 14) → acc < 65536 → inF r ys acc < 65536
  | [], acc, _, h => h
  | s :: ys, acc, hy, h => inF_lt r h1 h2 ys _ (fun q hq => hy q (by simp [hq])) (or_lt16 h (tabN_ok h1 h2 (hy s (by simp)).1 (hy s (by simp)).2).2)

theorem outF_lt (ys : List Nat) (hy : ∀ s ∈ ys, 1 ≤ s ∧ s < 14) : ∀ (xs : List Nat) (acc : Nat), (∀ s ∈ xs, 1 ≤ s ∧ s < 14) → acc < 65536 → outF xs ys acc < 65536
  | [], acc, _, h => h
  | r :: xs, acc, hx, h => outF_lt ys hy xs _ (fun q hq => hx q (by simp [hq])) (inF_lt r (hx r (by simp)).1 (hx r (by simp)).2 ys acc hy h)

theorem comp_in (m : Nat) (y : Int) (r : Nat) (h1 : 1 ≤ r) (h2 : r < 14) (xs : List Nat) (j : Int) (a b : Nat) (c : Int) (ys : List Nat) (hk : ys.length ≤ 100) (hy : ∀ s ∈ ys, 1 ≤ s ∧ s < 14) : ∀ (k i acc : Nat), i + k = ys.length → acc < 65536 → ∀ q, k < q →
    iterL (relations_Set_Compose_l1 (m + 200)) q (y, ((acc : Nat) : Int), ((r : Nat) : Int), a, b, c, j, ys.length, ys.length, ((ys.length : Nat) : Int), ((i : Nat) : Int), ints xs, ints ys) = some (y, ((inF r (ys.drop i) acc : Nat) : Int), a, b, c, j, ints xs)
  | 0, i, acc, hi, ha, q, hq => by
    obtain ⟨q, rfl⟩ : ∃ p, q = p + 1 := ⟨q - 1, by omega⟩
    obtain rfl : i = ys.length := by omega
    simp [iterL, relations_Set_Compose_l1, inF]
  | k + 1, i, acc, hi, ha, q, hq => by
    obtain ⟨q, rfl⟩ : ∃ p, q = p + 1 := ⟨q - 1, by omega⟩
    have hlt : i < ys.length := by omega
    have hg : ys[i]? = some ys[i] := List.getElem?_eq_getElem hlt
    have hs := hy ys[i] (List.getElem_mem hlt)
    have ht := tabN_ok h1 h2 hs.1 hs.2
    have ih := comp_in m y r h1 h2 xs j a b c ys hk hy k (i + 1) (acc ||| tabN r ys[i]) (by omega) (or_lt16 ha ht.2) q (by omega)
    have w1 : IntKind.wrap .i64 (((i : Nat) : Int) + 1) = ((i + 1 : Nat) : Int) := by rw [wrap_i64 _ (by omega) (by omega)]; omega
    have hgi : (ints ys)[i]? = some ((ys[i] : Nat) : Int) := by simp [ints, hg]
    rw [drop_get hg]
    simp only [iterL, relations_Set_Compose_l1, nat_dec_lt, hlt, decide_true, cond_true, ix_nat hlt, ob, hgi, rel_compose m (show 1 ≤ ((r : Nat) : Int) by omega) (show ((r : Nat) : Int) ≤ 13 by omega) (show 1 ≤ ((ys[i] : Nat) : Int) by omega) (show ((ys[i] : Nat) : Int) ≤ 13 by omega), ht.1, or16 ha ht.2, w1]
    exact ih

theorem comp_out (m : Nat) {y : Nat} (hy16 : y < 65536) (xs : List Nat) (hk : xs.length ≤ 100) (hx : ∀ s ∈ xs, 1 ≤ s ∧ s < 14) : ∀ (k i acc : Nat), i + k = xs.length → acc < 65536 → ∀ q, k < q →
    iterL (relations_Set_Compose_l0 (m + 300)) q ((y : Int), ((acc : Nat) : Int), xs.length, xs.length, ((xs.length : Nat) : Int), ((i : Nat) : Int), ints xs) = some ((outF (xs.drop i) (Lr y 14) acc : Nat) : Int)
  | 0, i, acc, hi, ha, q, hq => by
    obtain ⟨q, rfl⟩ : ∃ p, q = p + 1 := ⟨q - 1, by omega⟩
    obtain rfl : i = xs.length := by omega
    simp [iterL, relations_Set_Compose_l0, outF]
  | k + 1, i, acc, hi, ha, q, hq => by
    obtain ⟨q, rfl⟩ : ∃ p, q = p + 1 := ⟨q - 1, by omega⟩
    have hlt : i < xs.length := by omega
    have hg : xs[i]? = some xs[i] := List.getElem?_eq_getElem hlt
    have hs := hx xs[i] (List.getElem_mem hlt)
    have hln := Lr_len y 14
    have hok := Lr_ok y 14 (Nat.le_refl _)
    have ih := comp_out m hy16 xs hk hx k (i + 1) (inF xs[i] (Lr y 14) acc) (by omega) (inF_lt _ hs.1 hs.2 _ _ hok ha) q (by omega)
    have w1 : IntKind.wrap .i64 (((i : Nat) : Int) + 1) = ((i + 1 : Nat) : Int) := by rw [wrap_i64 _ (by omega) (by omega)]; omega
    have hgi : (ints xs)[i]? = some ((xs[i] : Nat) : Int) := by simp [ints, hg]
    have hin := comp_in (m + 100) (y : Int) xs[i] hs.1 hs.2 xs ((i : Nat) : Int) xs.length xs.length ((xs.length : Nat) : Int) (Lr y 14) (by omega) hok (Lr y 14).length 0 acc (by omega) ha (m + 300) (by omega)
    rw [List.drop_zero] at hin
    have hin' : iterL (relations_Set_Compose_l1 (m + 300)) (m + 300) ((y : Int), ((acc : Nat) : Int), ((xs[i] : Nat) : Int), xs.length, xs.length, ((xs.length : Nat) : Int), ((i : Nat) : Int), (Lr y 14).length, (Lr y 14).length, (((Lr y 14).length : Nat) : Int), 0, ints xs, ints (Lr y 14)) = some ((y : Int), ((inF xs[i] (Lr y 14) acc : Nat) : Int), xs.length, xs.length, ((xs.length : Nat) : Int), ((i : Nat) : Int), ints xs) := hin
    have hsl : relations_Set_List (m + 300) (y : Int) = some ((Lr y 14).length, (Lr y 14).length, ints (Lr y 14)) := set_list (m + 286) hy16
    rw [drop_get hg]
    rw [iterL]
    simp only [relations_Set_Compose_l0, nat_dec_lt, hlt, decide_true, cond_true, ix_nat hlt, ob, hgi, hsl, hin', w1]
    exact ih

theorem set_comp (m : Nat) {x y : Nat} (hx : x < 65536) (hy : y < 65536) : relations_Set_Compose (m + 300) (x : Int) (y : Int) = some (if okS x ∧ okS y then (((outF (Lr x 14) (Lr y 14) 0 : Nat) : Int), 0) else (0, 1)) := by
  unfold relations_Set_Compose relations_Set_right
  by_cases h : okS x
  · by_cases k : okS y
    · have hln := Lr_len x 14
      have hl := comp_out m hy (Lr x 14) (by omega) (Lr_ok x 14 (Nat.le_refl _)) (Lr x 14).length 0 0 (by omega) (by decide) (m + 300) (by omega)
      rw [List.drop_zero] at hl
      have hl' : iterL (relations_Set_Compose_l0 (m + 300)) (m + 300) ((y : Int), 0, (Lr x 14).length, (Lr x 14).length, (((Lr x 14).length : Nat) : Int), 0, ints (Lr x 14)) = some ((outF (Lr x 14) (Lr y 14) 0 : Nat) : Int) := hl
      have hsl : relations_Set_List (m + 300) (x : Int) = some ((Lr x 14).length, (Lr x 14).length, ints (Lr x 14)) := set_list (m + 286) hx
      simp only [ob, (right_iff hx).2 h, (right_iff hy).2 k, Bool.not_true, cond_false, hsl, hl', if_pos (show okS x ∧ okS y from ⟨h, k⟩)]
    · simp only [ob, (right_iff hx).2 h, notright hy k, Bool.not_true, Bool.not_false, cond_true, cond_false]
      rw [if_neg (fun q => k q.2)]
  · simp only [ob, notright hx h, Bool.not_false, cond_true]
    rw [if_neg (fun q => h q.1)]

theorem set_count (m : Nat) {x : Nat} (hx : x < 65536) : relations_Set_Count (m + 300) (x : Int) = some (((Lr x 14).length : Nat) : Int) := by
  have hsl : relations_Set_List (m + 300) (x : Int) = some ((Lr x 14).length, (Lr x 14).length, ints (Lr x 14)) := set_list (m + 286) hx
  simp only [relations_Set_Count, hsl, ob]

/-! ### The law -/

theorem ref_Has2 (n : Nat) (x : Nat) {r : Nat} (h1 : 1 ≤ r) (h2 : r < 14) : circaref31_Has n (x : Int) ((r : Nat) : Int) = some (if x.testBit r then 1 else 0) := by
  have d1 : decide (((r : Nat) : Int) < 1) = false := decide_eq_false (by omega)
  have d2 : decide (((r : Nat) : Int) > 13) = false := decide_eq_false (by omega)
  have d3 : decide (((r : Nat) : Int) < 0) = false := decide_eq_false (by omega)
  have hm : min (Int.toNat ((r : Nat) : Int)) (IntKind.bits .i64) = r := by
    simp only [Int.toNat_natCast]; exact Nat.min_eq_left (by show r ≤ 64; omega)
  simp only [circaref31_Has, d1, d2, d3, cond_false, hm, fdiv_nat]
  rw [Nat.testBit_eq_decide_div_mod_eq]
  have := Nat.mod_two_eq_zero_or_one (x / 2 ^ r)
  rw [show Int.tmod ((x / 2 ^ r : Nat) : Int) 2 = ((x / 2 ^ r % 2 : Nat) : Int) from rfl]
  rcases this with h | h <;> simp [h]

theorem ref_Has_no (n : Nat) (x : Int) {r : Nat} (h : ¬ (1 ≤ r ∧ r < 14)) : circaref31_Has n x ((r : Nat) : Int) = some 0 := by
  simp only [circaref31_Has, cond_dec]
  by_cases h1 : ((r : Nat) : Int) < 1
  · rw [if_pos h1]
  · rw [if_neg h1, if_pos (by omega)]

theorem Lr_split (x : Nat) : ∀ (k r : Nat), ∃ t, Lr x (r + k) = Lr x r ++ t
  | 0, r => ⟨[], by simp⟩
  | k + 1, r => by
    obtain ⟨t, ht⟩ := Lr_split x k r
    rw [show r + (k + 1) = r + k + 1 by omega, Lr_succ]
    split
    · exact ⟨t ++ [r + k], by rw [ht, List.append_assoc]⟩
    · exact ⟨t, ht⟩

theorem Lr_at {x r : Nat} (h1 : 1 ≤ r) (h2 : r < 14) (hb : x.testBit r = true) : (Lr x 14)[(Lr x r).length]? = some r := by
  obtain ⟨t, ht⟩ := Lr_split x (14 - (r + 1)) (r + 1)
  have hsc : Lr x (r + 1) = Lr x r ++ [r] := by rw [Lr_succ, if_pos ⟨h1, hb⟩]
  rw [show r + 1 + (14 - (r + 1)) = 14 by omega, hsc] at ht
  rw [ht, List.append_assoc, List.getElem?_append_right (Nat.le_refl _)]
  simp

/-- How many relations are listed below a number. -/
def cntB (x r : Nat) : Nat := (Lr x (min r 14)).length

theorem sets_l0 (m : Nat) {x : Nat} (hx : x < 65536) (y : Int) : ∀ (k r : Nat), r + k = 20 → ∀ q, k < q →
    iterL (circalaw31_RelationsSets_l0 (m + 300)) q ((x : Int), y, (x : Int), y, (Lr x 14).length, (Lr x 14).length, ((cntB x r : Nat) : Int), ((r : Nat) : Int), ints (Lr x 14)) = some (.inr ((x : Int), y, (x : Int), y, (Lr x 14).length, (Lr x 14).length, (((Lr x 14).length : Nat) : Int), ints (Lr x 14)))
  | 0, r, hr, q, hq => by
    obtain ⟨q, rfl⟩ : ∃ p, q = p + 1 := ⟨q - 1, by omega⟩
    obtain rfl : r = 20 := by omega
    rfl
  | k + 1, r, hr, q, hq => by
    obtain ⟨q, rfl⟩ : ∃ p, q = p + 1 := ⟨q - 1, by omega⟩
    have ih := sets_l0 m hx y k (r + 1) (by omega) q (by omega)
    have d1 : decide (((r : Nat) : Int) < 20) = true := decide_eq_true (by omega)
    have w1 : IntKind.wrap .i64 (((r : Nat) : Int) + 1) = ((r + 1 : Nat) : Int) := by rw [wrap_i64 _ (by omega) (by omega)]; omega
    have w8 : IntKind.wrap .u8 ((r : Nat) : Int) = ((r : Nat) : Int) := wrap_u8 _ (by omega) (by omega)
    have wr : IntKind.wrap .i64 ((r : Nat) : Int) = ((r : Nat) : Int) := wrap_i64 _ (by omega) (by omega)
    have wx : IntKind.wrap .i64 ((x : Nat) : Int) = ((x : Nat) : Int) := wrap_i64 _ (by omega) (by omega)
    by_cases hin : 1 ≤ r ∧ r < 14
    · have hm1 : min r 14 = r := by omega
      have hm2 : min (r + 1) 14 = r + 1 := by omega
      have hstep := len_step x r hin.1
      have hln := Lr_len x 14
      have hc1 : cntB x r = (Lr x r).length := by unfold cntB; rw [hm1]
      have hc2 : cntB x (r + 1) = (Lr x r).length + b01 x r := by unfold cntB; rw [hm2, hstep]
      rw [hc2] at ih
      rw [hc1]
      simp only [iterL, circalaw31_RelationsSets_l0, d1, cond_true, w8, wx, wr, rel_Has (m + 300) hx (show 1 ≤ ((r : Nat) : Int) ∧ ((r : Nat) : Int) ≤ 13 by omega), ref_Has2 (m + 300) x hin.1 hin.2, ob, Int.toNat_natCast, w1]
      cases hb : x.testBit r with
      | true =>
        have hat := Lr_at hin.1 hin.2 hb
        have hlt := lt_of_get hat
        have hgi : (ints (Lr x 14))[(Lr x r).length]? = some ((r : Nat) : Int) := by simp [ints, hat]
        have d2 : decide ((((Lr x r).length : Nat) : Int) ≥ (((Lr x 14).length : Nat) : Int)) = false := decide_eq_false (by omega)
        have w2 : IntKind.wrap .i64 ((((Lr x r).length : Nat) : Int) + 1) = (((Lr x r).length + 1 : Nat) : Int) := by rw [wrap_i64 _ (by omega) (by omega)]; omega
        have hb1 : b01 x r = 1 := by unfold b01; rw [hb]; rfl
        rw [hb1] at ih
        simp only [if_true, BEq.rfl, Bool.not_true, cond_false, cond_true, d2, ix_nat hlt, hgi, wr, bne_self_eq_false, w2]
        exact ih
      | false =>
        have hb1 : b01 x r = 0 := by unfold b01; rw [hb]; rfl
        rw [hb1, Nat.add_zero] at ih
        have e0 : ((if false = true then (1 : Int) else 0) == 1) = false := rfl
        simp only [e0, BEq.rfl, Bool.not_true, cond_false]
        exact ih
    · have hc : cntB x (r + 1) = cntB x r := by
        unfold cntB
        by_cases h0 : r = 0
        · subst h0; simp [Lr, List.range_succ]
        · rw [show min r 14 = 14 by omega, show min (r + 1) 14 = 14 by omega]
      rw [hc] at ih
      have e0 : ((0 : Int) == 1) = false := rfl
      simp only [iterL, circalaw31_RelationsSets_l0, d1, cond_true, w8, wx, rel_Has_not (m + 300) _ ((r : Nat) : Int) (by omega), ref_Has_no (m + 300) _ hin, ob, w1, e0, BEq.rfl, Bool.not_true, cond_false]
      exact ih

theorem inF_app (r : Nat) (ys : List Nat) (s acc : Nat) : inF r (ys ++ [s]) acc = inF r ys acc ||| tabN r s := by
  unfold inF; rw [List.foldl_append]; rfl

theorem outF_app (xs ys : List Nat) (r acc : Nat) : outF (xs ++ [r]) ys acc = inF r ys (outF xs ys acc) := by
  unfold outF; rw [List.foldl_append]; rfl

theorem sets_l2 (m : Nat) {x y : Nat} (hx : okS x) (hy : okS y) (c a e : Int) (i : Nat) (hi : 1 ≤ i) (hi2 : i < 14) (hib : x.testBit i = true) (w0 : Nat) (hw : w0 < 65536) : ∀ (k r : Nat), r + k = 14 → 1 ≤ r → ∀ q, k < q →
    iterL (circalaw31_RelationsSets_l2 (m + 300)) q ((x : Int), (y : Int), c, a, e, ((inF i (Lr y r) w0 : Nat) : Int), ((i : Nat) : Int), ((r : Nat) : Int)) = some (.inr ((x : Int), (y : Int), c, a, e, ((inF i (Lr y 14) w0 : Nat) : Int), ((i : Nat) : Int)))
  | 0, r, hr, h1, q, hq => by
    obtain ⟨q, rfl⟩ : ∃ p, q = p + 1 := ⟨q - 1, by omega⟩
    obtain rfl : r = 14 := by omega
    rfl
  | k + 1, r, hr, h1, q, hq => by
    obtain ⟨q, rfl⟩ : ∃ p, q = p + 1 := ⟨q - 1, by omega⟩
    have ih := sets_l2 m hx hy c a e i hi hi2 hib w0 hw k (r + 1) (by omega) (by omega) q (by omega)
    have hx16 : x < 65536 := Nat.lt_trans hx.1 (by decide)
    have hy16 : y < 65536 := Nat.lt_trans hy.1 (by decide)
    have d1 : decide (((r : Nat) : Int) < 14) = true := decide_eq_true (by omega)
    have w1 : IntKind.wrap .i64 (((r : Nat) : Int) + 1) = ((r + 1 : Nat) : Int) := by rw [wrap_i64 _ (by omega) (by omega)]; omega
    have w8 : IntKind.wrap .u8 ((r : Nat) : Int) = ((r : Nat) : Int) := wrap_u8 _ (by omega) (by omega)
    have wi : IntKind.wrap .u8 ((i : Nat) : Int) = ((i : Nat) : Int) := wrap_u8 _ (by omega) (by omega)
    have hin := inF_lt i hi hi2 (Lr y r) w0 (Lr_ok y r (by omega)) hw
    have ht := tabN_ok hi hi2 h1 (show r < 14 by omega)
    have hcp : relations_Compose (m + 300) ((i : Nat) : Int) ((r : Nat) : Int) = some (((tabN i r : Nat) : Int), 0) := by
      rw [show m + 300 = (m + 100) + 200 from rfl, rel_Compose, if_pos (by omega), ht.1]
    rw [Lr_succ] at ih
    simp only [iterL, circalaw31_RelationsSets_l2, d1, cond_true, w8, wi, rel_Has (m + 300) hx16 (show 1 ≤ ((i : Nat) : Int) ∧ ((i : Nat) : Int) ≤ 13 by omega), rel_Has (m + 300) hy16 (show 1 ≤ ((r : Nat) : Int) ∧ ((r : Nat) : Int) ≤ 13 by omega), ob, Int.toNat_natCast, hib, w1]
    cases hb : y.testBit r with
    | true =>
      rw [if_pos ⟨h1, hb⟩, inF_app] at ih
      simp only [cond_true, hcp, bne_self_eq_false, cond_false, or16 hin ht.2]
      exact ih
    | false =>
      rw [if_neg (by rw [hb]; simp)] at ih
      simp only [cond_false]
      exact ih

theorem sets_l2_no (m : Nat) {x : Nat} (hx : okS x) (y c a e w : Int) (i : Nat) (hi : 1 ≤ i) (hi2 : i < 14) (hib : x.testBit i = false) : ∀ (k r : Nat), r + k = 14 → 1 ≤ r → ∀ q, k < q →
    iterL (circalaw31_RelationsSets_l2 (m + 300)) q ((x : Int), y, c, a, e, w, ((i : Nat) : Int), ((r : Nat) : Int)) = some (.inr ((x : Int), y, c, a, e, w, ((i : Nat) : Int)))
  | 0, r, hr, h1, q, hq => by
    obtain ⟨q, rfl⟩ : ∃ p, q = p + 1 := ⟨q - 1, by omega⟩
    obtain rfl : r = 14 := by omega
    rfl
  | k + 1, r, hr, h1, q, hq => by
    obtain ⟨q, rfl⟩ : ∃ p, q = p + 1 := ⟨q - 1, by omega⟩
    have ih := sets_l2_no m hx y c a e w i hi hi2 hib k (r + 1) (by omega) (by omega) q (by omega)
    have hx16 : x < 65536 := Nat.lt_trans hx.1 (by decide)
    have d1 : decide (((r : Nat) : Int) < 14) = true := decide_eq_true (by omega)
    have w1 : IntKind.wrap .i64 (((r : Nat) : Int) + 1) = ((r + 1 : Nat) : Int) := by rw [wrap_i64 _ (by omega) (by omega)]; omega
    have wi : IntKind.wrap .u8 ((i : Nat) : Int) = ((i : Nat) : Int) := wrap_u8 _ (by omega) (by omega)
    simp only [iterL, circalaw31_RelationsSets_l2, d1, cond_true, wi, rel_Has (m + 300) hx16 (show 1 ≤ ((i : Nat) : Int) ∧ ((i : Nat) : Int) ≤ 13 by omega), ob, Int.toNat_natCast, hib, w1, cond_false]
    exact ih

theorem sets_l1 (m : Nat) {x y : Nat} (hx : okS x) (hy : okS y) (a e : Int) : ∀ (k i : Nat), i + k = 14 → 1 ≤ i → ∀ q, k < q →
    iterL (circalaw31_RelationsSets_l1 (m + 300)) q ((x : Int), (y : Int), ((imgS cv x : Nat) : Int), a, e, ((outF (Lr x i) (Lr y 14) 0 : Nat) : Int), ((i : Nat) : Int)) = some (.inr (a, e, ((outF (Lr x 14) (Lr y 14) 0 : Nat) : Int)))
  | 0, i, hr, h1, q, hq => by
    obtain ⟨q, rfl⟩ : ∃ p, q = p + 1 := ⟨q - 1, by omega⟩
    obtain rfl : i = 14 := by omega
    rfl
  | k + 1, i, hr, h1, q, hq => by
    obtain ⟨q, rfl⟩ : ∃ p, q = p + 1 := ⟨q - 1, by omega⟩
    have ih := sets_l1 m hx hy a e k (i + 1) (by omega) (by omega) q (by omega)
    have hx16 : x < 65536 := Nat.lt_trans hx.1 (by decide)
    have hc := img_ok cv (fun r h1 h2 => ⟨(cv_inv r h1 h2).1, (cv_inv r h1 h2).2.1⟩) x
    have hc16 : imgS cv x < 65536 := Nat.lt_trans hc.1 (by decide)
    have d1 : decide (((i : Nat) : Int) < 14) = true := decide_eq_true (by omega)
    have w1 : IntKind.wrap .i64 (((i : Nat) : Int) + 1) = ((i + 1 : Nat) : Int) := by rw [wrap_i64 _ (by omega) (by omega)]; omega
    have wi : IntKind.wrap .u8 ((i : Nat) : Int) = ((i : Nat) : Int) := wrap_u8 _ (by omega) (by omega)
    have w2 : IntKind.wrap .u8 (IntKind.wrap .i64 (14 - ((i : Nat) : Int))) = ((14 - i : Nat) : Int) := by rw [wrap_i64 _ (by omega) (by omega), wrap_u8 _ (by omega) (by omega)]; omega
    have hib : (imgS cv x).testBit i = x.testBit (14 - i) := img_bit cv cv_inv x h1 (by omega)
    have hout := outF_lt (Lr y 14) (Lr_ok y 14 (Nat.le_refl _)) (Lr x i) 0 (Lr_ok x i (by omega)) (by decide)
    rw [Lr_succ] at ih
    rw [iterL]
    simp only [circalaw31_RelationsSets_l1, d1, cond_true, wi, w2, rel_Has (m + 300) hc16 (show 1 ≤ ((i : Nat) : Int) ∧ ((i : Nat) : Int) ≤ 13 by omega), rel_Has (m + 300) hx16 (show 1 ≤ ((14 - i : Nat) : Int) ∧ ((14 - i : Nat) : Int) ≤ 13 by omega), ob, Int.toNat_natCast, hib, BEq.rfl, Bool.not_true, cond_false]
    cases hb : x.testBit i with
    | true =>
      have hl2 := sets_l2 m hx hy ((imgS cv x : Nat) : Int) a e i h1 (by omega) hb (outF (Lr x i) (Lr y 14) 0) hout 13 1 (by omega) (by omega) (m + 300) (by omega)
      have h0 : Lr y 1 = [] := by simp [Lr, List.range_succ]
      rw [h0] at hl2
      have hl2' : iterL (circalaw31_RelationsSets_l2 (m + 300)) (m + 300) ((x : Int), (y : Int), ((imgS cv x : Nat) : Int), a, e, ((outF (Lr x i) (Lr y 14) 0 : Nat) : Int), ((i : Nat) : Int), 1) = _ := hl2
      rw [if_pos ⟨h1, hb⟩, outF_app] at ih
      simp only [hl2', w1]
      exact ih
    | false =>
      have hl2 := sets_l2_no m hx (y : Int) ((imgS cv x : Nat) : Int) a e ((outF (Lr x i) (Lr y 14) 0 : Nat) : Int) i h1 (by omega) hb 13 1 (by omega) (by omega) (m + 300) (by omega)
      have hl2' : iterL (circalaw31_RelationsSets_l2 (m + 300)) (m + 300) ((x : Int), (y : Int), ((imgS cv x : Nat) : Int), a, e, ((outF (Lr x i) (Lr y 14) 0 : Nat) : Int), ((i : Nat) : Int), 1) = _ := hl2
      rw [if_neg (by rw [hb]; simp)] at ih
      simp only [hl2', w1]
      exact ih

theorem bne_right {x : Nat} (hx : x < 65536) (h : okS x) : ((bits .andNot .u16 (x : Int) 16382) != 0) = false := by rw [bne, (right_iff hx).2 h]; rfl
theorem bne_wrong {x : Nat} (hx : x < 65536) (h : ¬ okS x) : ((bits .andNot .u16 (x : Int) 16382) != 0) = true := by rw [bne, notright hx h]; rfl

theorem relationsSets_ok (m : Nat) (x y : Nat) (hx : x < 65536) (hy : y < 65536) : circalaw31_RelationsSets (m + 300) (x : Int) (y : Int) = some true := by
  have hl := re_lives m
  have hsl : relations_Set_List (m + 300) (x : Int) = some ((Lr x 14).length, (Lr x 14).length, ints (Lr x 14)) := set_list (m + 286) hx
  have h0 := sets_l0 m hx (y : Int) 20 0 (by omega) (m + 300) (by omega)
  have hc0 : cntB x 0 = 0 := by unfold cntB; simp [Lr]
  rw [hc0] at h0
  have h0' : iterL (circalaw31_RelationsSets_l0 (m + 300)) (m + 300) ((x : Int), (y : Int), (x : Int), (y : Int), (Lr x 14).length, (Lr x 14).length, 0, 0, ints (Lr x 14)) = _ := h0
  unfold circalaw31_RelationsSets
  rw [hsl]
  simp only [ob]
  rw [h0']
  simp only [bne_self_eq_false, cond_false]
  rw [set_count m hx, set_conv m hx, set_mirr m hx, set_comp m hx hy, hl]
  simp only [bne_self_eq_false, cond_false]
  by_cases h : okS x
  · have hci := img_ok cv (fun r h1 h2 => ⟨(cv_inv r h1 h2).1, (cv_inv r h1 h2).2.1⟩) x
    have hmi := img_ok mv (fun r h1 h2 => ⟨(mv_inv r h1 h2).1, (mv_inv r h1 h2).2.1⟩) x
    have hc16 : imgS cv x < 65536 := Nat.lt_trans hci.1 (by decide)
    have hm16 : imgS mv x < 65536 := Nat.lt_trans hmi.1 (by decide)
    rw [bne_right hx h]
    simp only [if_pos h, cond_false]
    rw [set_conv m hc16, if_pos hci, img_img cv cv_inv h, set_count m hm16, set_count m hc16, img_len_cv, img_len_mv]
    simp only [bne_self_eq_false, cond_false]
    by_cases k : okS y
    · rw [bne_right hy k]
      have hl1 := sets_l1 m h k ((outF (Lr x 14) (Lr y 14) 0 : Nat) : Int) 0 13 1 (by omega) (by omega) (m + 300) (by omega)
      have h01 : Lr x 1 = [] := by simp [Lr, List.range_succ]
      rw [h01] at hl1
      have hl1' : iterL (circalaw31_RelationsSets_l1 (m + 300)) (m + 300) ((x : Int), (y : Int), ((imgS cv x : Nat) : Int), ((outF (Lr x 14) (Lr y 14) 0 : Nat) : Int), 0, 0, 1) = _ := hl1
      simp only [if_pos (show okS x ∧ okS y from ⟨h, k⟩), cond_false, hl1', BEq.rfl, cond_true]
    · rw [bne_wrong hy k]
      simp only [if_neg (fun q : okS x ∧ okS y => k q.2), cond_true]
      rfl
  · rw [bne_wrong hx h]
    simp only [if_neg h, if_neg (fun q : okS x ∧ okS y => h q.1), cond_true]
    rfl

end Go.Sh
