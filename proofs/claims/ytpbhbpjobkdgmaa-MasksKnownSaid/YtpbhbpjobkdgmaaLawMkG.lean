/- Chapter 3: the code's least and greatest number, number with an index, index of a number; the reference's search.
   Conditions: none. -/
import Derived.Test.YtpbhbpjobkdgmaaLawMkF
set_option linter.unusedSimpArgs false
set_option linter.unusedVariables false
namespace Go.Sh
open Go.Abs

/-! ### filled -/

def fd (x y : Int) : Int := (if y = 88 then x else y) - 48

/-- The number of bytes, the first one ahead. -/
def fval (x : Int) (l : List Int) : Int := l.foldl (fun n y => 10 * n + fd x y) 0

theorem fold_lin (x : Int) : ∀ (l : List Int) (n : Int), l.foldl (fun n y => 10 * n + fd x y) n = n * 10 ^ l.length + fval x l
  | [], n => by simp [fval]
  | y :: l, n => by
    have e := fold_lin x l (10 * n + fd x y)
    have e2 := fold_lin x l (10 * 0 + fd x y)
    simp only [fval, List.foldl_cons, List.length_cons, pow_succ10] at e e2 ⊢
    rw [e, e2, Int.add_mul, Int.add_mul]
    have : 10 * n * 10 ^ l.length = n * (10 * 10 ^ l.length) := by rw [Int.mul_comm 10 n, Int.mul_assoc]
    omega

theorem filled_eq (s : List UInt8) (x : Int) (h18 : s.length ≤ 18) (hs : ∀ c ∈ s, 0 ≤ fd x ((c.toNat : Nat) : Int) ∧ fd x ((c.toNat : Nat) : Int) < 10) : masks_filled 20000 s x = some (fval x (nums s)) := by
  have hs' : ∀ y ∈ nums s, 0 ≤ fd x y ∧ fd x y < 10 := by
    intro y hy
    obtain ⟨c, hc, rfl⟩ := List.mem_map.1 hy
    exact hs c hc
  have hl : (nums s).length = s.length := nums_len s
  have := iterL_inv (step := masks_filled_l0 20000)
    (fun st => st.1 = x ∧ st.2.2.1 = ((s.length : Nat) : Int) ∧ st.2.2.2.2 = nums s ∧ (0 ≤ st.2.2.2.1 ∧ st.2.2.2.1 ≤ s.length) ∧ 0 ≤ st.2.1 ∧ st.2.1 < 10 ^ st.2.2.2.1.toNat) (fun st => s.length - st.2.2.2.1.toNat)
    (fun st => ((nums s).drop st.2.2.2.1.toNat).foldl (fun n y => 10 * n + fd x y) st.2.1) ?_ 20000 (x, 0, ((s.length : Nat) : Int), 0, nums s) ⟨rfl, rfl, rfl, ⟨by simp, by simp⟩, by simp, by simp⟩ (by simp; omega)
  · show (ob (iterL (masks_filled_l0 20000) 20000 (x, 0, ((List.length (nums s) : Nat) : Int), 0, nums s)) fun y30 => some y30) = _
    rw [hl, this]
    rfl
  rintro ⟨x', n, len, i, l⟩ ⟨q1, q2, q3, ⟨h0, hi⟩, n0, n1⟩
  simp only at q1 q2 q3 h0 hi n0 n1 ⊢
  subst q1 q2 q3
  obtain ⟨j, rfl⟩ : ∃ j : Nat, i = j := ⟨i.toNat, by omega⟩
  simp only [Int.toNat_natCast] at n1 ⊢
  rcases Nat.lt_or_ge j s.length with hlt | hge
  · obtain ⟨y, hy⟩ : ∃ c, (nums s)[j]? = some c := ⟨(nums s)[j]'(by omega), List.getElem?_eq_getElem (by omega)⟩
    obtain ⟨d0, d1⟩ := hs' y (List.mem_of_getElem? hy)
    have hb : (decide ((j : Int) < ((s.length : Nat) : Int))) = true := by simp; omega
    have hw : IntKind.wrap .i64 ((j : Int) + 1) = ((j + 1 : Nat) : Int) := by rw [wrap_i64 _ (by omega) (by omega)]; omega
    have hb1 := pow_bound (j + 1) (by omega)
    rw [pow_succ10] at hb1
    have w1 : IntKind.wrap .i64 (10 * n) = 10 * n := wrap_i64 _ (by omega) (by omega)
    have w2 : ∀ z : Int, 0 ≤ z → z < 10 → IntKind.wrap .i64 (10 * n + IntKind.wrap .i64 (IntKind.wrap .u8 z)) = 10 * n + z := fun z z0 z1 => by
      rw [wrap_u8 z (by omega) (by omega), wrap_i64 z (by omega) (by omega), wrap_i64 _ (by omega) (by omega)]
    rw [drop_get hy, List.foldl_cons]
    simp only [masks_filled_l0, hb, cond_true, ix_nat (show j < (nums s).length by omega), ob, hy, hw, w1]
    have next : 0 ≤ 10 * n + fd x' y ∧ 10 * n + fd x' y < 10 ^ (j + 1) := by rw [pow_succ10]; omega
    by_cases h88 : y = 88
    · have e1 : (y == 88) = true := by simpa using h88
      have hd : fd x' y = x' - 48 := by simp [fd, h88]
      rw [hd] at d0 d1 next ⊢
      refine .inl ⟨(x', 10 * n + (x' - 48), ((s.length : Nat) : Int), ((j + 1 : Nat) : Int), nums s), by simp only [e1, cond_true, w2 _ d0 d1], ⟨rfl, rfl, rfl, ⟨by simp only; omega, by simp only; omega⟩, next.1, by simpa only [Int.toNat_natCast] using next.2⟩, by simp only [Int.toNat_natCast]; omega, by simp only [Int.toNat_natCast]⟩
    · have e1 : (y == 88) = false := by simpa using h88
      have hd : fd x' y = y - 48 := by simp [fd, h88]
      rw [hd] at d0 d1 next ⊢
      refine .inl ⟨(x', 10 * n + (y - 48), ((s.length : Nat) : Int), ((j + 1 : Nat) : Int), nums s), by simp only [e1, cond_false, w2 _ d0 d1], ⟨rfl, rfl, rfl, ⟨by simp only; omega, by simp only; omega⟩, next.1, by simpa only [Int.toNat_natCast] using next.2⟩, by simp only [Int.toNat_natCast]; omega, by simp only [Int.toNat_natCast]⟩
  · have hb : (decide ((j : Int) < ((s.length : Nat) : Int))) = false := by simp; omega
    refine .inr ?_
    simp only [masks_filled_l0, hb, cond_false]
    rw [List.drop_eq_nil_of_le (by omega)]; rfl

theorem fval_snoc (x : Int) (l : List Int) (y : Int) : fval x (l ++ [y]) = 10 * fval x l + fd x y := by simp [fval, List.foldl_append]

theorem nums_snoc (r : List UInt8) (c : UInt8) : nums ((c :: r).reverse) = nums r.reverse ++ [((c.toNat : Nat) : Int)] := by simp [nums]

theorem fd_byte (x : Int) (c : UInt8) : fd x ((c.toNat : Nat) : Int) = if c = 88 then x - 48 else dv c := by
  unfold fd dv
  by_cases h : c = 88
  · simp [h]
  · have : ¬ ((c.toNat : Nat) : Int) = 88 := fun e => h (UInt8.toNat_inj.1 (by simpa using (by omega : c.toNat = 88)))
    rw [if_neg this, if_neg h]

theorem fval_least : ∀ (r : List UInt8), fval 48 (nums r.reverse) = nth r 0
  | [] => rfl
  | c :: r => by
    rw [nums_snoc, fval_snoc, fval_least r, fd_byte]
    simp only [nth]
    split <;> simp

theorem fval_greatest : ∀ (r : List UInt8), fval 57 (nums r.reverse) = nth r (10 ^ cnt r - 1)
  | [] => rfl
  | c :: r => by
    have hp := pow_pos10 (cnt r)
    rw [nums_snoc, fval_snoc, fval_greatest r, fd_byte]
    simp only [nth, cnt]
    split
    · rw [pow_succ10]
      have e1 : (10 * (10 : Int) ^ cnt r - 1) / 10 = 10 ^ cnt r - 1 := by omega
      have e2 : (10 * (10 : Int) ^ cnt r - 1) % 10 = 9 := by omega
      rw [e1, e2]; omega
    · rfl

theorem fd_ok {m : List UInt8} (hok : ∀ c ∈ m, okB c = true) {x : Int} (hx : 48 ≤ x ∧ x < 58) : ∀ c ∈ m, 0 ≤ fd x ((c.toNat : Nat) : Int) ∧ fd x ((c.toNat : Nat) : Int) < 10 := by
  intro c hc
  rw [fd_byte]
  have := okR_of hok c (List.mem_reverse.2 hc)
  split
  · omega
  · rename_i h; exact this.resolve_left h

theorem Least_eq {m : List UInt8} (hm : chk m = 0) : masks_Least 20000 m = some (nth m.reverse 0, 0) := by
  obtain ⟨h18, _, hok⟩ := chk_len hm
  have e0 : ((0 : Int) != 0) = false := by simp
  have := fval_least m.reverse
  rw [List.reverse_reverse] at this
  simp only [masks_Least, masks_Check_eq 20000 m (by omega), hm, ob, e0, cond_false, filled_eq m 48 h18 (fd_ok hok (by omega)), this]

theorem Greatest_eq {m : List UInt8} (hm : chk m = 0) : masks_Greatest 20000 m = some (nth m.reverse (10 ^ cnt m - 1), 0) := by
  obtain ⟨h18, _, hok⟩ := chk_len hm
  have e0 : ((0 : Int) != 0) = false := by simp
  have := fval_greatest m.reverse
  rw [List.reverse_reverse, cnt_reverse] at this
  simp only [masks_Greatest, masks_Check_eq 20000 m (by omega), hm, ob, e0, cond_false, filled_eq m 57 h18 (fd_ok hok (by omega)), this]

/-! ### Nth -/

/-- The bytes of the number with an index, the mask's last byte first. -/
def fill : List UInt8 → Int → List Int
  | [], _ => []
  | c :: r, i => if c = 88 then fill r (i / 10) ++ [48 + i % 10] else fill r i ++ [((c.toNat : Nat) : Int)]

theorem fill_len : ∀ (r : List UInt8) (i : Int), (fill r i).length = r.length
  | [], _ => rfl
  | c :: r, i => by
    simp only [fill]
    split <;> simp [fill_len r]

theorem fill_range : ∀ {r : List UInt8}, okR r → ∀ i, ∀ y ∈ fill r i, 48 ≤ y ∧ y < 58
  | [], _, i, y, hy => by simp [fill] at hy
  | c :: r, h, i, y, hy => by
    simp only [fill] at hy
    split at hy
    · rcases List.mem_append.1 hy with hy | hy
      · exact fill_range (okR_tail h) _ y hy
      · simp only [List.mem_singleton] at hy; omega
    · rename_i hc
      rcases List.mem_append.1 hy with hy | hy
      · exact fill_range (okR_tail h) _ y hy
      · simp only [List.mem_singleton] at hy
        have := (h c (by simp)).resolve_left hc
        unfold dv at this
        omega

theorem fval_fill : ∀ {r : List UInt8}, okR r → ∀ i, fval 0 (fill r i) = nth r i
  | [], _, _ => rfl
  | c :: r, h, i => by
    simp only [fill, nth]
    split
    · rw [fval_snoc, fval_fill (okR_tail h)]
      have : fd 0 (48 + i % 10) = i % 10 := by unfold fd; rw [if_neg (by omega)]; omega
      rw [this]
    · rename_i hc
      rw [fval_snoc, fval_fill (okR_tail h), fd_byte, if_neg hc]

theorem value_eq {m : List UInt8} {l : List Int} (z : List Int) (h18 : m.length ≤ 18) (hl : l.length = m.length) (hr : ∀ y ∈ l, 48 ≤ y ∧ y < 58) : masks_value 20000 m (over z 0 l) = some (fval 0 l) := by
  have ht : List.take m.length (over z 0 l) = l := by
    unfold over
    rw [List.take_zero, List.nil_append, List.take_append_of_le_length (by omega), List.take_of_length_le (by omega)]
  have hn : nums (bytesOf l) = l := nums_bytes l fun y hy => by have := hr y hy; omega
  have hb : (bytesOf l).length = m.length := by simp [bytesOf, hl]
  simp only [masks_value, bx_nat h18, ob, Nat.zero_add, show Nat.ble m.length 18 = true from Nat.ble_eq_true_of_le h18, cond_true, List.drop_zero, ht]
  rw [filled_eq (bytesOf l) 0 (by omega) ?_, hn]
  intro c hc
  have hmem : ((c.toNat : Nat) : Int) ∈ l := by rw [← hn]; exact List.mem_map.2 ⟨c, hc, rfl⟩
  have := hr _ hmem
  unfold fd
  rw [if_neg (by omega)]; omega

theorem Nth_loop {m : List UInt8} (h18 : m.length ≤ 18) (i : Int) (d : List Int) (h0 : 0 ≤ i) (h1 : i < 9223372036854775808) (hd : d.length = 18) :
    iterL (masks_Nth_l0 20000) 20000 (m, i, (m.length : Int) - 1, d) = some (m, over d 0 (fill m.reverse i)) := by
  have := iterL_inv (step := masks_Nth_l0 20000) (fun x => x.1 = m ∧ (0 ≤ x.2.1 ∧ x.2.1 < 9223372036854775808) ∧ (-1 ≤ x.2.2.1 ∧ x.2.2.1 < m.length) ∧ x.2.2.2.length = 18) (fun x => (x.2.2.1 + 1).toNat)
    (fun x => (m, over x.2.2.2 0 (fill (m.take (x.2.2.1 + 1).toNat).reverse x.2.1))) ?_ 20000 (m, i, (m.length : Int) - 1, d) ⟨rfl, ⟨h0, h1⟩, ⟨by simp only; omega, by simp only; omega⟩, hd⟩ (by simp only; omega)
  · have e : ((m.length : Int) - 1 + 1).toNat = m.length := by omega
    simpa only [e, List.take_length] using this
  rintro ⟨m', i, k, d⟩ ⟨q1, ⟨h0, h1⟩, ⟨h2, h3⟩, hd⟩
  simp only at q1 h0 h1 h2 h3 hd ⊢
  subst q1
  by_cases hk : 0 ≤ k
  · obtain ⟨j, rfl⟩ : ∃ j : Nat, k = j := ⟨k.toNat, by omega⟩
    have hlt : j < m'.length := by omega
    have hj : j < 18 := by omega
    obtain ⟨c, hc⟩ : ∃ c, m'[j]? = some c := ⟨m'[j], List.getElem?_eq_getElem hlt⟩
    have e1 : decide ((j : Int) ≥ 0) = true := by simp
    have e2 : Nat.blt j 18 = true := Nat.ble_eq_true_of_le hj
    have s1 : ((j : Int) - 1 + 1).toNat = j := by omega
    have s2 : ((j : Int) + 1).toNat = j + 1 := by omega
    have w1 : IntKind.wrap .i64 ((j : Int) - 1) = (j : Int) - 1 := wrap_i64 _ (by omega) (by omega)
    have put : ∀ (L : List Int) (y : Int), L.length = j → over (d.set j y) 0 L = over d 0 (L ++ [y]) := by
      intro L y hL
      simp only [over, List.take_zero, List.nil_append, Nat.zero_add, List.length_append, List.length_cons, List.length_nil, hL, List.append_assoc]
      congr 1
      rw [List.drop_set, if_neg (by omega), Nat.sub_self, List.drop_eq_getElem_cons (by omega)]
      simp only [List.set_cons_zero, List.cons_append, List.nil_append]
    have hfl : ∀ q, (fill (m'.take j).reverse q).length = j := fun q => by rw [fill_len, List.length_reverse, List.length_take]; omega
    simp only [s2]
    rw [take_rev hc]
    simp only [masks_Nth_l0, e1, cond_true, sx_nat hc, ob, ix_nat hj, e2, toNat_88, w1, fill]
    by_cases h88 : c = 88
    · have t2 : IntKind.wrap .i64 (Int.tdiv i 10) = i / 10 := by rw [tdiv10 h0]; exact wrap_i64 _ (by omega) (by omega)
      have w3 : IntKind.wrap .u8 (IntKind.wrap .i64 (48 + Int.tmod i 10)) = 48 + i % 10 := by rw [tmod10 h0, wrap_i64 _ (by omega) (by omega), wrap_u8 _ (by omega) (by omega)]
      refine .inl ⟨(m', i / 10, (j : Int) - 1, (d.set j ((c.toNat : Nat) : Int)).set j (48 + i % 10)), by simp only [decide_eq_true h88, cond_true, t2, w3], ⟨rfl, ⟨by simp only; omega, by simp only; omega⟩, ⟨by simp only; omega, by simp only; omega⟩, by simpa using hd⟩, by simp only; omega, ?_⟩
      simp only [s1]
      rw [if_pos h88, List.set_set, put _ _ (hfl _)]
    · refine .inl ⟨(m', i, (j : Int) - 1, d.set j ((c.toNat : Nat) : Int)), by simp only [decide_eq_false h88, cond_false], ⟨rfl, ⟨h0, h1⟩, ⟨by simp only; omega, by simp only; omega⟩, by simpa using hd⟩, by simp only; omega, ?_⟩
      simp only [s1]
      rw [if_neg h88, put _ _ (hfl _)]
  · have e1 : decide (k ≥ 0) = false := by simp; omega
    have s : (k + 1).toNat = 0 := by omega
    refine .inr ?_
    simp only [masks_Nth_l0, e1, cond_false, s, List.take_zero, List.reverse_nil, fill, over_nil]

theorem Nth_eq {m : List UInt8} (hm : chk m = 0) (i : Int) : masks_Nth 20000 m i = some (if 0 ≤ i ∧ i < 10 ^ cnt m then (nth m.reverse i, 0) else (0, 4)) := by
  obtain ⟨h18, _, hok⟩ := chk_len hm
  have e0 : ((0 : Int) != 0) = false := by simp
  have hc := cnt_le m
  have hp := pow_bound (cnt m) (by omega)
  simp only [masks_Nth, Count_eq hm, ob, e0, cond_false]
  by_cases h0 : i < 0
  · simp only [decide_eq_true h0, cond_true]
    rw [if_neg (by omega)]
  · simp only [decide_eq_false h0, cond_false]
    by_cases h1 : i < 10 ^ cnt m
    · have e1 : decide (i ≥ 10 ^ cnt m) = false := by simp; omega
      have w : IntKind.wrap .i64 (((List.length m : Nat) : Int) - 1) = (m.length : Int) - 1 := wrap_i64 _ (by omega) (by omega)
      simp only [e1, cond_false, w]
      rw [Nth_loop h18 i [0, 0, 0, 0, 0, 0, 0, 0, 0, 0, 0, 0, 0, 0, 0, 0, 0, 0] (by omega) (by omega) (by rfl)]
      simp only []
      rw [value_eq _ h18 (by rw [fill_len, List.length_reverse]) (fill_range (okR_of hok) i), fval_fill (okR_of hok), if_pos ⟨by omega, h1⟩]
    · have e1 : decide (i ≥ 10 ^ cnt m) = true := by simp; omega
      simp only [e1, cond_true]
      rw [if_neg (by omega)]

end Go.Sh
