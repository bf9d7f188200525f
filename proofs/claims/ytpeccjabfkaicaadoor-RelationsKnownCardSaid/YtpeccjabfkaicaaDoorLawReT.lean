/- Chapter 31: the law of texts: sets are written, and read, as the definition says.
   Conditions: none. -/
import Derived.Test.YtpeccjabfkaicaaDoorLawReE
import Derived.KernelRfl
import Derived.Lib.Join
import Derived.Lib.Bytealg
set_option linter.unusedSimpArgs false
set_option linter.unusedVariables false
namespace Go.Sh
open Go.Abs

/-! ### Texts that are split at commas -/

theorem ib_here (r : List UInt8) : ∀ w : List UInt8, (44 : UInt8) ∉ w → Lib.indexByte (w ++ 44 :: r) 44 = (w.length : Int)
  | [], _ => by simp [Lib.indexByte]
  | b :: w, h => by
    have h1 : b ≠ 44 := fun e => h (by simp [e])
    have h2 : (44 : UInt8) ∉ w := fun e => h (by simp [e])
    have ih := ib_here r w h2
    simp only [List.cons_append, Lib.indexByte]
    rw [ih]
    have h3 : (b == (44 : UInt8)) = false := beq_eq_false_iff_ne.2 h1
    have h4 : (((w.length : Nat) : Int) == -1) = false := beq_eq_false_iff_ne.2 (by omega)
    simp [h3, h4]

theorem idx44 (n : Nat) (s : List UInt8) : strings_Index n s = some (Lib.indexByte s 44) := by
  have e : UInt8.ofNat (Int.toNat 44) = (44 : UInt8) := rfl
  simp only [strings_Index, int_stringslite_Index, int_stringslite_IndexByte, ob, e]
  by_cases h : ([44] : List UInt8) = s
  · subst h; rfl
  · have : (([44] : List UInt8) == s) = false := beq_eq_false_iff_ne.2 h
    simp only [this, cond_false]

theorem jt_cons (v : List UInt8) (ws : List (List UInt8)) : Lib.joinTail [44] (v :: ws) = 44 :: (v ++ Lib.joinTail [44] ws) := by
  simp [Lib.joinTail]

theorem jt_len : ∀ ws : List (List UInt8), ws.length ≤ (Lib.joinTail [44] ws).length
  | [] => by simp
  | v :: ws => by
    have := jt_len ws
    rw [jt_cons]
    simp only [List.length_cons, List.length_append]
    omega

theorem jt_count : ∀ ws : List (List UInt8), (∀ v ∈ ws, (44 : UInt8) ∉ v) → (Lib.joinTail [44] ws).count 44 = ws.length
  | [], _ => by simp [Lib.joinTail]
  | v :: ws, h => by
    have := jt_count ws fun u hu => h u (by simp [hu])
    rw [jt_cons, List.count_cons_self, List.count_append, this, List.count_eq_zero.2 (h v (by simp))]
    simp

theorem split_loop (N : Nat) : ∀ (ws : List (List UInt8)) (w : List UInt8) (pre : List (List UInt8)) (n : Nat), (∀ v ∈ w :: ws, (44 : UInt8) ∉ v) → (w ++ Lib.joinTail [44] ws).length ≤ 100000 → pre.length + ws.length ≤ 100000 → ws.length < n →
    ∃ y : List UInt8 × Int × List (List UInt8), iterL (strings_genSplit_l0 N) n (w ++ Lib.joinTail [44] ws, 0, ((pre.length + ws.length : Nat) : Int), (pre.length : Int), pre ++ List.replicate (ws.length + 1) []) = some y ∧ y.2.1 = ((pre.length + ws.length : Nat) : Int) ∧ y.2.2.length = pre.length + ws.length + 1 ∧ y.2.2.set (pre.length + ws.length) y.1 = pre ++ w :: ws
  | [], w, pre, n, hc, hl, hp, hn => by
    obtain ⟨n, rfl⟩ : ∃ q, n = q + 1 := ⟨n - 1, by simp at hn; omega⟩
    refine ⟨(w ++ Lib.joinTail [44] [], (pre.length : Int), pre ++ [[]]), ?_, by simp, by simp, by simp [Lib.joinTail]⟩
    simp [iterL, strings_genSplit_l0]
  | v :: ws, w, pre, n, hc, hl, hp, hn => by
    obtain ⟨n, rfl⟩ : ∃ q, n = q + 1 := ⟨n - 1, by simp at hn; omega⟩
    obtain ⟨y, h1, h2, h3, h4⟩ := split_loop N ws v (pre ++ [w]) n (fun u hu => hc u (by simp only [List.mem_cons] at hu ⊢; exact .inr hu)) (by
      rw [jt_cons] at hl
      simp only [List.length_cons, List.length_append] at hl ⊢
      omega) (by simp only [List.length_append, List.length_cons, List.length_nil] at hp ⊢; omega) (by simp only [List.length_cons] at hn; omega)
    refine ⟨y, ?_, ?_, ?_, ?_⟩
    · rw [← h1]
      have hw : (44 : UInt8) ∉ w := hc w (by simp)
      have hlt : (decide (((pre.length : Nat) : Int) < (((pre ++ [w]).length + ws.length : Nat) : Int))) = true := decide_eq_true (by simp only [List.length_append, List.length_cons, List.length_nil]; omega)
      have hib : Lib.indexByte (w ++ Lib.joinTail [44] (v :: ws)) 44 = (w.length : Int) := by rw [jt_cons]; exact ib_here _ _ hw
      have hneg : decide (((w.length : Nat) : Int) < 0) = false := decide_eq_false (by omega)
      have hlen : (w ++ Lib.joinTail [44] (v :: ws)).length = w.length + 1 + (v ++ Lib.joinTail [44] ws).length := by
        rw [jt_cons]; simp only [List.length_append, List.length_cons]; omega
      have w0 : IntKind.wrap .i64 (((w.length : Nat) : Int) + 0) = ((w.length : Nat) : Int) := by rw [wrap_i64 _ (by omega) (by rw [hlen] at hl; omega)]; omega
      have w1 : IntKind.wrap .i64 (((w.length : Nat) : Int) + 1) = ((w.length + 1 : Nat) : Int) := by rw [wrap_i64 _ (by omega) (by rw [hlen] at hl; omega)]; omega
      have w2 : IntKind.wrap .i64 (((pre.length : Nat) : Int) + 1) = (((pre ++ [w]).length : Nat) : Int) := by rw [wrap_i64 _ (by omega) (by omega)]; simp
      have hget : (pre ++ List.replicate ((v :: ws).length + 1) ([] : List UInt8))[pre.length]? = some [] := by
        rw [List.getElem?_append_right (Nat.le_refl _)]; simp
      have hx : ix (pre ++ List.replicate ((v :: ws).length + 1) ([] : List UInt8)).length ((pre.length : Nat) : Int) = some pre.length := ix_nat (by simp)
      have hset : (pre ++ List.replicate ((v :: ws).length + 1) ([] : List UInt8)).set pre.length w = (pre ++ [w]) ++ List.replicate (ws.length + 1) [] := by
        rw [List.set_append_right _ _ (Nat.le_refl _)]
        simp [List.replicate_succ]
      have hdrop : List.drop (w.length + 1) (w ++ Lib.joinTail [44] (v :: ws)) = v ++ Lib.joinTail [44] ws := by
        rw [jt_cons, show w ++ 44 :: (v ++ Lib.joinTail [44] ws) = (w ++ [44]) ++ (v ++ Lib.joinTail [44] ws) by simp, List.drop_left' (by simp)]
      have htake : List.take w.length (w ++ Lib.joinTail [44] (v :: ws)) = w := List.take_left' rfl
      have e3 : pre.length + (v :: ws).length = (pre ++ [w]).length + ws.length := by simp only [List.length_append, List.length_cons, List.length_nil]; omega
      simp only [iterL, strings_genSplit_l0, hlt, cond_true, idx44, ob, hib, hneg, cond_false, w0, w1, w2, bx_nat (show w.length ≤ (w ++ Lib.joinTail [44] (v :: ws)).length by omega), bx_nat (show w.length + 1 ≤ (w ++ Lib.joinTail [44] (v :: ws)).length by omega), hx, hget, List.take_length, hdrop, htake, List.drop_zero, hset, e3]
    · rw [h2]; simp only [List.length_append, List.length_cons, List.length_nil]; congr 1; omega
    · rw [h3]; simp only [List.length_append, List.length_cons, List.length_nil]; omega
    · rw [show pre.length + (v :: ws).length = (pre ++ [w]).length + ws.length by simp only [List.length_append, List.length_cons, List.length_nil]; omega, h4]; simp

theorem split_join (n : Nat) (w : List UInt8) (ws : List (List UInt8)) (hc : ∀ v ∈ w :: ws, (44 : UInt8) ∉ v) (hl : (Lib.join (w :: ws) [44]).length ≤ 100000) (hn : ws.length < n) :
    strings_Split n (Lib.join (w :: ws) [44]) = some (.inr (ws.length + 1, w :: ws)) := by
  rw [Lib.join_cons] at hl ⊢
  have hjl := jt_len ws
  have hcnt : Lib.countByte (w ++ Lib.joinTail [44] ws) (UInt8.ofNat (Int.toNat 44)) = ws.length := by
    show (w ++ Lib.joinTail [44] ws).count 44 = _
    rw [List.count_append, jt_count ws fun v hv => hc v (by simp [hv]), List.count_eq_zero.2 (hc w (by simp))]
    simp
  have hlen : ws.length ≤ (w ++ Lib.joinTail [44] ws).length := by simp only [List.length_append]; omega
  generalize hs : w ++ Lib.joinTail [44] ws = s at *
  have w1 : IntKind.wrap .i64 (((s.length : Nat) : Int) + 1) = ((s.length + 1 : Nat) : Int) := by rw [wrap_i64 _ (by omega) (by omega)]; omega
  have w2 : IntKind.wrap .i64 (((ws.length : Nat) : Int) + 1) = ((ws.length + 1 : Nat) : Int) := by rw [wrap_i64 _ (by omega) (by omega)]; omega
  have w3 : IntKind.wrap .i64 (((ws.length + 1 : Nat) : Int) - 1) = ((ws.length : Nat) : Int) := by rw [wrap_i64 _ (by omega) (by omega)]; omega
  have d1 : decide (((s.length + 1 : Nat) : Int) < ((ws.length + 1 : Nat) : Int)) = false := decide_eq_false (by omega)
  have d2 : decide ((0 : Int) ≤ ((ws.length + 1 : Nat) : Int)) = true := decide_eq_true (by omega)
  have d3 : decide (((ws.length + 1 : Nat) : Int) ≤ ((ws.length + 1 : Nat) : Int)) = true := decide_eq_true (by omega)
  have d4 : decide (((ws.length + 1 : Nat) : Int) ≤ 67108864) = true := decide_eq_true (by omega)
  have d5 : ((-1 : Int) == 0) = false := rfl
  have d6 : decide ((-1 : Int) < 0) = true := rfl
  obtain ⟨y, h1, h2, h3, h4⟩ := split_loop n ws w [] n hc (by rw [hs]; omega) (by simp; omega) hn
  simp only [List.length_nil, Nat.zero_add, List.nil_append, hs, Int.natCast_zero] at h1 h2 h3 h4
  have hy := lt_of_get (show y.2.2[ws.length]? = some (y.2.2[ws.length]'(by omega)) from List.getElem?_eq_getElem _)
  simp only [strings_Split, strings_genSplit, strings_Count, ob, hcnt, w1, w2, w3, d1, d2, d3, d4, d5, d6, cond_true, cond_false, Bool.and_self, Int.toNat_natCast, h1, h2, h3, ix_nat (show ws.length < ws.length + 1 by omega), List.getElem?_eq_getElem hy, List.length_set, h4, bx_nat (show ws.length + 1 ≤ (w :: ws).length by simp)]

/-! ### The relations of a set -/

/-- The bits of a number from 1 to 13, below a bound. -/
def Lr (x r : Nat) : List Nat := (List.range r).filter fun j => (decide (1 ≤ j) && x.testBit j)

theorem Lr_succ (x r : Nat) : Lr x (r + 1) = if 1 ≤ r ∧ x.testBit r = true then Lr x r ++ [r] else Lr x r := by
  unfold Lr
  rw [List.range_succ, List.filter_append]
  by_cases h : 1 ≤ r ∧ x.testBit r = true
  · rw [if_pos h]; simp [h.1, h.2]
  · rw [if_neg h]
    have : (decide (1 ≤ r) && x.testBit r) = false := by
      cases h1 : decide (1 ≤ r) && x.testBit r with
      | false => rfl
      | true => simp only [Bool.and_eq_true, decide_eq_true_eq] at h1; exact absurd h1 h
    simp [this]

theorem Lr_mem {x r j : Nat} : j ∈ Lr x r ↔ j < r ∧ 1 ≤ j ∧ x.testBit j = true := by
  unfold Lr
  simp [List.mem_filter]

theorem Lr_len (x r : Nat) : (Lr x r).length ≤ r := by
  have := List.length_filter_le (fun j => (decide (1 ≤ j) && x.testBit j)) (List.range r)
  rw [List.length_range] at this
  exact this

def ints (l : List Nat) : List Int := l.map fun j => ((j : Nat) : Int)

theorem list_loop (n : Nat) {x : Nat} (hx : x < 65536) : ∀ k r, r + k = 14 → 1 ≤ r → ∀ m, k < m → iterL (relations_Set_List_l0 n) m ((x : Int), ((r : Nat) : Int), ints (Lr x r)) = some (ints (Lr x 14))
  | 0, r, hr, h1, m, hm => by
    obtain ⟨m, rfl⟩ : ∃ q, m = q + 1 := ⟨m - 1, by omega⟩
    obtain rfl : r = 14 := by omega
    rfl
  | k + 1, r, hr, h1, m, hm => by
    obtain ⟨m, rfl⟩ : ∃ q, m = q + 1 := ⟨m - 1, by omega⟩
    have ih := list_loop n hx k (r + 1) (by omega) (by omega) m (by omega)
    have d1 : decide (((r : Nat) : Int) ≤ 13) = true := decide_eq_true (by omega)
    have w1 : IntKind.wrap .u8 (((r : Nat) : Int) + 1) = ((r + 1 : Nat) : Int) := by rw [wrap_u8 _ (by omega) (by omega)]; omega
    have hl : Nat.ble ((ints (Lr x r)).length + 1) mostRows = true := by
      have := Lr_len x r
      apply Nat.ble_eq_true_of_le
      simp only [ints, List.length_map, mostRows]
      omega
    simp only [iterL, relations_Set_List_l0, d1, cond_true, rel_Has n hx (show 1 ≤ ((r : Nat) : Int) ∧ ((r : Nat) : Int) ≤ 13 by omega), ob, Int.toNat_natCast, w1, hl]
    rw [Lr_succ] at ih
    cases hb : x.testBit r with
    | true =>
      rw [if_pos ⟨h1, hb⟩] at ih
      simp only [cond_true]
      rw [← ih]
      simp [ints]
    | false =>
      rw [if_neg (by rw [hb]; simp)] at ih
      simp only [cond_false]
      exact ih

theorem set_list (m : Nat) {x : Nat} (hx : x < 65536) : relations_Set_List (m + 14) (x : Int) = some ((Lr x 14).length, (Lr x 14).length, ints (Lr x 14)) := by
  have h := list_loop (m + 14) hx 13 1 (by omega) (by omega) (m + 14) (by omega)
  have h0 : Lr x 1 = [] := by simp [Lr, List.range_succ]
  rw [h0] at h
  have hlen : (ints (Lr x 14)).length = (Lr x 14).length := by simp [ints]
  have h' : iterL (relations_Set_List_l0 (m + 14)) (m + 14) ((x : Int), 1, ([] : List Int)) = some (ints (Lr x 14)) := h
  simp only [relations_Set_List, h', ob, slices_Clip_api_Relation_api_Relation, hlen, bx_nat (Nat.le_refl (Lr x 14).length)]

/-! ### Names -/

def nm (r : Nat) : List UInt8 := ([[], [66, 101, 102, 111, 114, 101], [77, 101, 101, 116, 115], [79, 118, 101, 114, 108, 97, 112, 115], [83, 116, 97, 114, 116, 115], [68, 117, 114, 105, 110, 103], [70, 105, 110, 105, 115, 104, 101, 115], [69, 113, 117, 97, 108, 115], [70, 105, 110, 105, 115, 104, 101, 100, 66, 121], [67, 111, 110, 116, 97, 105, 110, 115], [83, 116, 97, 114, 116, 101, 100, 66, 121], [79, 118, 101, 114, 108, 97, 112, 112, 101, 100, 66, 121], [77, 101, 116, 66, 121], [65, 102, 116, 101, 114]] : List (List UInt8)).getD r []

theorem nm_ok : ∀ r, r < 14 → 1 ≤ r → (44 : UInt8) ∉ nm r ∧ nm r ≠ [] ∧ (nm r).length ≤ 12 := by decide

theorem rel_Name (n r : Nat) (h1 : 1 ≤ r) (h2 : r < 14) : relations_Name n ((r : Nat) : Int) = some (nm r) := by
  have hq : r = 1 ∨ r = 2 ∨ r = 3 ∨ r = 4 ∨ r = 5 ∨ r = 6 ∨ r = 7 ∨ r = 8 ∨ r = 9 ∨ r = 10 ∨ r = 11 ∨ r = 12 ∨ r = 13 := by omega
  rcases hq with rfl | rfl | rfl | rfl | rfl | rfl | rfl | rfl | rfl | rfl | rfl | rfl | rfl <;> rfl

theorem ref_Name (n r : Nat) (h1 : 1 ≤ r) (h2 : r < 14) : circaref31_Name n ((r : Nat) : Int) = some (nm r) := by
  have hq : r = 1 ∨ r = 2 ∨ r = 3 ∨ r = 4 ∨ r = 5 ∨ r = 6 ∨ r = 7 ∨ r = 8 ∨ r = 9 ∨ r = 10 ∨ r = 11 ∨ r = 12 ∨ r = 13 := by omega
  rcases hq with rfl | rfl | rfl | rfl | rfl | rfl | rfl | rfl | rfl | rfl | rfl | rfl | rfl <;> rfl

/-! ### Texts -/

def txt (l : List Nat) : List UInt8 := Lib.join (l.map nm) [44]

theorem txt_nil : txt [] = [] := rfl

theorem jt_app (ws : List (List UInt8)) (v : List UInt8) : Lib.joinTail [44] (ws ++ [v]) = Lib.joinTail [44] ws ++ 44 :: v := by
  simp [Lib.joinTail]

theorem txt_app (l : List Nat) (r : Nat) : txt (l ++ [r]) = if l = [] then nm r else txt l ++ 44 :: nm r := by
  cases l with
  | nil => simp [txt, Lib.join_one]
  | cons a l =>
    simp only [txt, List.cons_append, List.map_cons, List.map_append, List.map_nil, Lib.join_cons, jt_app, List.append_assoc]
    simp

theorem txt_len (l : List Nat) (hl : ∀ r ∈ l, 1 ≤ r ∧ r < 14) : (txt l).length ≤ 13 * l.length := by
  cases l with
  | nil => simp [txt_nil]
  | cons a l =>
    simp only [txt, List.map_cons, Lib.join_length, List.length_map, List.length_cons, List.length_nil]
    have : ∀ k : List Nat, (∀ r ∈ k, 1 ≤ r ∧ r < 14) → Lib.lens (k.map nm) ≤ 12 * k.length := by
      intro k
      induction k with
      | nil => intro _; simp [Lib.lens]
      | cons b k ih =>
        intro hk
        have h1 := ih fun r hr => hk r (by simp [hr])
        have h2 := (nm_ok b (hk b (by simp)).2 (hk b (by simp)).1).2.2
        simp only [Lib.lens, List.map_cons, List.sum_cons, List.length_cons] at h1 ⊢
        omega
    have := this (a :: l) hl
    simp only [List.map_cons, List.length_cons] at this
    omega

theorem txt_ne (l : List Nat) (hl : ∀ r ∈ l, 1 ≤ r ∧ r < 14) (h : l ≠ []) : txt l ≠ [] := by
  cases l with
  | nil => exact absurd rfl h
  | cons a l =>
    simp only [txt, List.map_cons, Lib.join_cons]
    have h2 := (nm_ok a (hl a (by simp)).2 (hl a (by simp)).1).2.1
    simp [h2]

theorem Lr_ok (x r : Nat) (h : r ≤ 14) : ∀ j ∈ Lr x r, 1 ≤ j ∧ j < 14 := fun j hj => by
  have := Lr_mem.1 hj
  omega

theorem text_loop (n : Nat) (rs : List Nat) (hr : ∀ r ∈ rs, 1 ≤ r ∧ r < 14) (hk : rs.length ≤ 100) : ∀ k i, i + k = rs.length → ∀ m, k < m →
    iterL (relations_Set_Text_l0 n) m (rs.length, rs.length, ((rs.length : Nat) : Int), ((i : Nat) : Int), ints rs, (rs.take i).map nm) = some (rs.map nm)
  | 0, i, hi, m, hm => by
    obtain ⟨m, rfl⟩ : ∃ q, m = q + 1 := ⟨m - 1, by omega⟩
    obtain rfl : i = rs.length := by omega
    simp [iterL, relations_Set_Text_l0]
  | k + 1, i, hi, m, hm => by
    obtain ⟨m, rfl⟩ : ∃ q, m = q + 1 := ⟨m - 1, by omega⟩
    have ih := text_loop n rs hr hk k (i + 1) (by omega) m (by omega)
    have hlt : i < rs.length := by omega
    have hg : rs[i]? = some rs[i] := List.getElem?_eq_getElem hlt
    have hm := hr rs[i] (List.getElem_mem hlt)
    have w1 : IntKind.wrap .i64 (((i : Nat) : Int) + 1) = ((i + 1 : Nat) : Int) := by rw [wrap_i64 _ (by omega) (by omega)]; omega
    have hgi : (ints rs)[i]? = some ((rs[i] : Nat) : Int) := by simp [ints, hg]
    have hl : Nat.ble (((rs.take i).map nm).length + 1) mostRows = true := by
      apply Nat.ble_eq_true_of_le
      simp only [List.length_map, List.length_take, mostRows]
      omega
    have ht : (rs.take i).map nm ++ [nm rs[i]] = (rs.take (i + 1)).map nm := by
      rw [List.take_add_one, hg]; simp only [Option.toList, List.map_append, List.map_cons, List.map_nil]
    rw [ht.symm] at ih
    simp only [iterL, relations_Set_Text_l0, nat_dec_lt, hlt, decide_true, cond_true, ix_nat hlt, ob, hgi, rel_Name n rs[i] hm.1 hm.2, hl, w1]
    exact ih

/-- The text of a right set. -/
def setT (x : Nat) : List UInt8 := if x = 0 then [110, 111, 110, 101] else txt (Lr x 14)

/-- A set is right. -/
def okS (x : Nat) : Prop := x < 16384 ∧ x.testBit 0 = false

theorem right_iff {x : Nat} (hx : x < 65536) : ((bits .andNot .u16 (x : Int) 16382) == 0) = true ↔ okS x := by
  rw [show (16382 : Int) = ((16382 : Nat) : Int) from rfl, andNot16 hx (by decide)]
  have e : 65535 - 16382 = 49153 := rfl
  rw [e, beq_iff_eq]
  have hb : ∀ i, i < 16 → (Nat.testBit 49153 i = true ↔ i = 0 ∨ i = 14 ∨ i = 15) := by decide
  constructor
  · intro h
    have h0 : x &&& 49153 = 0 := by omega
    have hz : ∀ i, (i = 0 ∨ i = 14 ∨ i = 15) → x.testBit i = false := by
      intro i hi
      have h1 : (x &&& 49153).testBit i = false := by rw [h0]; simp
      rw [Nat.testBit_and, (hb i (by omega)).2 hi] at h1
      simpa using h1
    refine ⟨?_, hz 0 (by simp)⟩
    have h14 := hz 14 (by simp)
    have h15 := hz 15 (by simp)
    rw [Nat.testBit_eq_decide_div_mod_eq] at h14 h15
    simp only [decide_eq_false_iff_not] at h14 h15
    omega
  · rintro ⟨h1, h2⟩
    have : x &&& 49153 = 0 := by
      apply Nat.eq_of_testBit_eq
      intro i
      rw [Nat.testBit_and, Nat.zero_testBit]
      by_cases hi : i < 14
      · by_cases h0 : i = 0
        · subst h0; simp [h2]
        · have : Nat.testBit 49153 i = false := by
            cases h : Nat.testBit 49153 i with
            | false => rfl
            | true => exact absurd ((hb i (by omega)).1 h) (by omega)
          simp [this]
      · have : x.testBit i = false := Nat.testBit_lt_two_pow (Nat.lt_of_lt_of_le h1 (Nat.pow_le_pow_right (show 0 < 2 by decide) (show 14 ≤ i by omega)))
        simp [this]
    omega

theorem Lr_nil {x : Nat} (h : okS x) : Lr x 14 = [] ↔ x = 0 := by
  constructor
  · intro hn
    apply Nat.eq_of_testBit_eq
    intro i
    rw [Nat.zero_testBit]
    cases hb : x.testBit i with
    | false => rfl
    | true =>
      exfalso
      have h14 : i < 14 := by
        rcases Nat.lt_or_ge i 14 with q | q
        · exact q
        · have := Nat.testBit_lt_two_pow (Nat.lt_of_lt_of_le h.1 (Nat.pow_le_pow_right (show 0 < 2 by decide) q))
          rw [this] at hb; cases hb
      have h0 : i ≠ 0 := by rintro rfl; rw [h.2] at hb; cases hb
      have : i ∈ Lr x 14 := Lr_mem.2 ⟨h14, by omega, hb⟩
      rw [hn] at this
      cases this
  · rintro rfl
    simp [Lr]

theorem set_text (m : Nat) {x : Nat} (h : okS x) : relations_Set_Text (m + 300) (x : Int) = some (setT x, 0) := by
  have hx : x < 65536 := Nat.lt_trans h.1 (by decide)
  have hr : (!((bits .andNot .u16 (x : Int) 16382) == 0)) = false := by rw [(right_iff hx).2 h]; rfl
  simp only [relations_Set_Text, relations_Set_right, ob, hr, cond_false]
  by_cases h0 : x = 0
  · subst h0; rfl
  · have hz : (((x : Nat) : Int) == 0) = false := beq_eq_false_iff_ne.2 (by omega)
    have hl := text_loop (m + 300) (Lr x 14) (Lr_ok x 14 (Nat.le_refl _)) (Nat.le_trans (Lr_len x 14) (by decide)) (Lr x 14).length 0 (by omega) (m + 300) (by have := Lr_len x 14; omega)
    simp only [List.take_zero, List.map_nil, Int.natCast_zero] at hl
    have hln := Lr_len x 14
    have ht := txt_len (Lr x 14) (Lr_ok x 14 (Nat.le_refl _))
    have hb1 : Nat.ble ((Lr x 14).map nm).length 140737488355328 = true := Nat.ble_eq_true_of_le (by simp only [List.length_map]; omega)
    have hb2 : Nat.ble (Lib.join ((Lr x 14).map nm) [44]).length 140737488355328 = true := Nat.ble_eq_true_of_le (by show (txt (Lr x 14)).length ≤ _; omega)
    simp only [hz, cond_false, show m + 300 = (m + 286) + 14 from rfl, set_list (m + 286) hx, ob]
    simp only [show (m + 286) + 14 = m + 300 from rfl, hl, ob, hb1, hb2, Bool.and_self, cond_true, setT, if_neg h0, txt]

theorem ref_Has (n : Nat) {x : Nat} (hx : x < 16384) {r : Nat} (h1 : 1 ≤ r) (h2 : r < 14) : circaref31_Has n (x : Int) ((r : Nat) : Int) = some (if x.testBit r then 1 else 0) := by
  have d1 : decide (((r : Nat) : Int) < 1) = false := decide_eq_false (by omega)
  have d2 : decide (((r : Nat) : Int) > 13) = false := decide_eq_false (by omega)
  have d3 : decide (((r : Nat) : Int) < 0) = false := decide_eq_false (by omega)
  have hm : min (Int.toNat ((r : Nat) : Int)) (IntKind.bits .i64) = r := by
    simp only [Int.toNat_natCast]; exact Nat.min_eq_left (by show r ≤ 64; omega)
  simp only [circaref31_Has, d1, d2, d3, cond_false, hm, fdiv_nat]
  rw [Nat.testBit_eq_decide_div_mod_eq]
  have := Nat.mod_two_eq_zero_or_one (x / 2 ^ r)
  rw [show Int.tmod ((x / 2 ^ r : Nat) : Int) 2 = ((x / 2 ^ r % 2 : Nat) : Int) from rfl]
  rcases this with h | h <;> simp [h]

theorem ref_loop (n : Nat) {x : Nat} (hx : x < 16384) : ∀ k r, r + k = 14 → 1 ≤ r → ∀ m, k < m → iterL (circaref31_Text_l0 n) m ((x : Int), txt (Lr x r), ((r : Nat) : Int)) = some (txt (Lr x 14))
  | 0, r, hr, h1, m, hm => by
    obtain ⟨m, rfl⟩ : ∃ q, m = q + 1 := ⟨m - 1, by omega⟩
    obtain rfl : r = 14 := by omega
    rfl
  | k + 1, r, hr, h1, m, hm => by
    obtain ⟨m, rfl⟩ : ∃ q, m = q + 1 := ⟨m - 1, by omega⟩
    have ih := ref_loop n hx k (r + 1) (by omega) (by omega) m (by omega)
    have d1 : decide (((r : Nat) : Int) < 14) = true := decide_eq_true (by omega)
    have w1 : IntKind.wrap .i64 (((r : Nat) : Int) + 1) = ((r + 1 : Nat) : Int) := by rw [wrap_i64 _ (by omega) (by omega)]; omega
    simp only [iterL, circaref31_Text_l0, d1, cond_true, ref_Has n hx h1 (show r < 14 by omega), ob, w1, ref_Name n r h1 (by omega)]
    rw [Lr_succ] at ih
    have hl := txt_len (Lr x r) (Lr_ok x r (by omega))
    have hl2 := Lr_len x r
    have hn := nm_ok r (by omega) h1
    cases hb : x.testBit r with
    | true =>
      rw [if_pos ⟨h1, hb⟩, txt_app] at ih
      have c1 : ((if (true = true) then (1 : Int) else 0) == 0) = false := rfl
      simp only [c1, cond_false]
      by_cases he : Lr x r = []
      · rw [if_pos he] at ih
        have ht : (!(txt (Lr x r) == ([] : List UInt8))) = false := by rw [he]; rfl
        simp only [ht, cond_false]
        rw [he]
        have hc : cat (txt []) (nm r) = some (nm r) := by
          unfold cat; rw [if_pos (by rw [txt_nil]; simp; omega)]; rfl
        rw [hc]
        exact ih
      · rw [if_neg he] at ih
        have ht : (!(txt (Lr x r) == ([] : List UInt8))) = true := by
          rw [beq_eq_false_iff_ne.2 (txt_ne _ (Lr_ok x r (by omega)) he)]; rfl
        have hc1 : cat (txt (Lr x r)) [44] = some (txt (Lr x r) ++ [44]) := by
          unfold cat; rw [if_pos (by simp; omega)]
        have hc2 : cat (txt (Lr x r) ++ [44]) (nm r) = some (txt (Lr x r) ++ 44 :: nm r) := by
          unfold cat; rw [if_pos (by simp; omega)]; simp
        simp only [ht, cond_true, hc1, hc2, ob]
        exact ih
    | false =>
      rw [if_neg (by rw [hb]; simp)] at ih
      have c1 : ((if (false = true) then (1 : Int) else 0) == 0) = true := rfl
      simp only [c1, cond_true]
      exact ih

theorem ref_text (m : Nat) {x : Nat} (h : okS x) : circaref31_Text (m + 300) (x : Int) = some (setT x) := by
  have hl := ref_loop (m + 300) h.1 13 1 (by omega) (by omega) (m + 300) (by omega)
  have h0 : Lr x 1 = [] := by simp [Lr, List.range_succ]
  rw [h0, txt_nil] at hl
  have hl' : iterL (circaref31_Text_l0 (m + 300)) (m + 300) ((x : Int), [], 1) = some (txt (Lr x 14)) := hl
  simp only [circaref31_Text, hl', ob, setT]
  by_cases hx : x = 0
  · rw [if_pos hx, (Lr_nil h).2 hx]; rfl
  · rw [if_neg hx]
    have : (txt (Lr x 14) == ([] : List UInt8)) = false := beq_eq_false_iff_ne.2 (txt_ne _ (Lr_ok x 14 (Nat.le_refl _)) (fun e => hx ((Lr_nil h).1 e)))
    simp only [this, cond_false]

end Go.Sh
