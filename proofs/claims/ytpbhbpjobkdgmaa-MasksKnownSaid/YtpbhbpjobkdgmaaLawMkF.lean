/- Chapter 3: the numbers of a mask in order.
   Conditions: none. -/
import Derived.Test.YtpbhbpjobkdgmaaLawMkE
set_option linter.unusedSimpArgs false
set_option linter.unusedVariables false
namespace Go.Sh
open Go.Abs

/-! ### Masks from their end: plain numbers -/

def cnt : List UInt8 → Nat
  | [] => 0
  | c :: r => if c = 88 then cnt r + 1 else cnt r

/-- What a byte is as a digit. -/
def dv (c : UInt8) : Int := ((c.toNat : Nat) : Int) - 48

/-- The number with an index; the mask's last byte first. -/
def nth : List UInt8 → Int → Int
  | [], _ => 0
  | c :: r, i => if c = 88 then 10 * nth r (i / 10) + i % 10 else 10 * nth r i + dv c

/-- Does a number have the bytes of a mask? -/
def ag : List UInt8 → Int → Bool
  | [], _ => true
  | c :: r, k => ag r (k / 10) && (decide (c = 88) || decide (dv c = k % 10))

/-- The index of a number. -/
def idx : List UInt8 → Int → Int
  | [], _ => 0
  | c :: r, k => if c = 88 then 10 * idx r (k / 10) + k % 10 else idx r (k / 10)

def okR (r : List UInt8) : Prop := ∀ c ∈ r, c = 88 ∨ (0 ≤ dv c ∧ dv c < 10)

theorem okR_of {m : List UInt8} (h : ∀ c ∈ m, okB c = true) : okR m.reverse := by
  intro c hc
  have := h c (List.mem_reverse.1 hc)
  simp only [okB, Bool.or_eq_true, beq_iff_eq, Bool.and_eq_true, decide_eq_true_eq] at this
  rcases this with h | h
  · exact .inl (UInt8.toNat_inj.1 (by simpa using h))
  · exact .inr (by unfold dv; omega)

theorem okR_tail {c : UInt8} {r : List UInt8} (h : okR (c :: r)) : okR r := fun x hx => h x (List.mem_cons_of_mem _ hx)

theorem pow_succ10 (n : Nat) : (10 : Int) ^ (n + 1) = 10 * 10 ^ n := by rw [Int.pow_succ, Int.mul_comm]

theorem pow_pos10 (n : Nat) : (0 : Int) < 10 ^ n := Int.pow_pos (by omega)

theorem nth_range : ∀ {r : List UInt8}, okR r → ∀ i, 0 ≤ i → 0 ≤ nth r i ∧ nth r i < 10 ^ r.length
  | [], _, i, _ => by simp [nth]
  | c :: r, h, i, hi => by
    simp only [nth, List.length_cons, pow_succ10]
    split
    · have := nth_range (okR_tail h) (i / 10) (by omega)
      omega
    · rename_i hc
      have := nth_range (okR_tail h) i hi
      have := (h c (by simp)).resolve_left hc
      omega

theorem ag_nth : ∀ {r : List UInt8}, okR r → ∀ i, 0 ≤ i → ag r (nth r i) = true
  | [], _, _, _ => rfl
  | c :: r, h, i, hi => by
    simp only [nth, ag]
    split
    · rename_i hc
      have e : (10 * nth r (i / 10) + i % 10) / 10 = nth r (i / 10) := by omega
      rw [e, ag_nth (okR_tail h) (i / 10) (by omega)]
      simp [hc]
    · rename_i hc
      have hd := (h c (by simp)).resolve_left hc
      have e : (10 * nth r i + dv c) / 10 = nth r i := by omega
      have e2 : (10 * nth r i + dv c) % 10 = dv c := by omega
      rw [e, e2, ag_nth (okR_tail h) i hi]
      simp

theorem idx_nth : ∀ {r : List UInt8}, okR r → ∀ i, 0 ≤ i → i < 10 ^ cnt r → idx r (nth r i) = i
  | [], _, i, h0, h1 => by simp [cnt] at h1; simp [idx]; omega
  | c :: r, h, i, h0, h1 => by
    simp only [nth, idx, cnt] at h1 ⊢
    split
    · rename_i hc
      rw [if_pos hc, pow_succ10] at h1
      have e : (10 * nth r (i / 10) + i % 10) / 10 = nth r (i / 10) := by omega
      have e2 : (10 * nth r (i / 10) + i % 10) % 10 = i % 10 := by omega
      rw [e, e2, idx_nth (okR_tail h) (i / 10) (by omega) (by omega)]
      omega
    · rename_i hc
      rw [if_neg hc] at h1
      have hd := (h c (by simp)).resolve_left hc
      have e : (10 * nth r i + dv c) / 10 = nth r i := by omega
      rw [e, idx_nth (okR_tail h) i h0 h1]

theorem idx_range : ∀ (r : List UInt8) (k : Int), 0 ≤ k → 0 ≤ idx r k ∧ idx r k < 10 ^ cnt r
  | [], k, _ => by simp [idx, cnt]
  | c :: r, k, hk => by
    have := idx_range r (k / 10) (by omega)
    simp only [idx, cnt]
    split
    · rw [pow_succ10]; omega
    · exact this

theorem nth_idx : ∀ {r : List UInt8} {k : Int}, 0 ≤ k → k < 10 ^ r.length → ag r k = true → nth r (idx r k) = k
  | [], k, h0, h1, _ => by simp at h1; simp [nth]; omega
  | c :: r, k, h0, h1, ha => by
    simp only [ag, Bool.and_eq_true, Bool.or_eq_true, decide_eq_true_eq] at ha
    rw [List.length_cons, pow_succ10] at h1
    have ih := nth_idx (r := r) (k := k / 10) (by omega) (by omega) ha.1
    simp only [nth, idx]
    split
    · have := idx_range r (k / 10) (by omega)
      have e : (10 * idx r (k / 10) + k % 10) / 10 = idx r (k / 10) := by omega
      have e2 : (10 * idx r (k / 10) + k % 10) % 10 = k % 10 := by omega
      rw [e, e2, ih]; omega
    · rename_i hc
      rw [ih]
      have := ha.2.resolve_left hc
      omega

theorem nth_mono : ∀ {r : List UInt8}, okR r → ∀ i j, 0 ≤ i → i < j → j < 10 ^ cnt r → nth r i < nth r j
  | [], _, i, j, h0, h1, h2 => by simp [cnt] at h2; omega
  | c :: r, h, i, j, h0, h1, h2 => by
    simp only [nth, cnt] at h2 ⊢
    split
    · rename_i hc
      rw [if_pos hc, pow_succ10] at h2
      by_cases hq : i / 10 = j / 10
      · rw [hq]; omega
      · have := nth_mono (okR_tail h) (i / 10) (j / 10) (by omega) (by omega) (by omega)
        omega
    · rename_i hc
      rw [if_neg hc] at h2
      have := nth_mono (okR_tail h) i j h0 h1 h2
      omega

/-- The earlier word for it. -/
theorem agree_ag : ∀ (r : List UInt8), ∀ k, agree r.reverse (dg r.length k) = ag r k
  | [], k => rfl
  | c :: r, k => by
    simp only [List.reverse_cons, List.length_cons, dg, ag]
    rw [agree_append (by rw [List.length_reverse, dg_len]), agree_ag r]
    have e1 : decide (((c.toNat : Nat) : Int) = 48 + k % 10) = decide (dv c = k % 10) := decide_eq_decide.2 (by unfold dv; omega)
    have e2 : (c == 88) = decide (c = 88) := by by_cases h : c = 88 <;> simp [h]
    simp only [agree, Bool.and_true, e1, e2]

theorem hasM_ag (m : List UInt8) (k : Int) : hasM m k = (decide (0 ≤ k) && (decide (k < 10 ^ m.length) && ag m.reverse k)) := by
  have := agree_ag m.reverse k
  rw [List.reverse_reverse, List.length_reverse] at this
  unfold hasM
  rw [this]

theorem cnt_count : ∀ (m : List UInt8), cnt m = m.count 88
  | [] => rfl
  | c :: m => by
    simp only [cnt, cnt_count m, List.count_cons]
    by_cases h : c = 88 <;> simp [h]

theorem cnt_reverse (m : List UInt8) : cnt m.reverse = cnt m := by rw [cnt_count, cnt_count, List.count_reverse]

theorem cnt_le : ∀ (m : List UInt8), cnt m ≤ m.length
  | [] => by simp [cnt]
  | c :: m => by
    have := cnt_le m
    simp only [cnt, List.length_cons]
    split <;> omega

/-! ### How many -/

theorem Count_eq {m : List UInt8} (hm : chk m = 0) : masks_Count 20000 m = some (10 ^ cnt m, 0) := by
  obtain ⟨h18, _, _⟩ := chk_len hm
  have e0 : ((0 : Int) != 0) = false := by simp
  have hc : (Lib.countByte m (UInt8.ofNat (Int.toNat 88)) : Nat) = cnt m := by rw [cnt_count]; rfl
  have := cnt_le m
  simp only [masks_Count, masks_Check_eq 20000 m (by omega), hm, ob, e0, cond_false, strings_Count, hc, power_eq (cnt m) (by omega)]

theorem refCount_eq {m : List UInt8} (h18 : m.length ≤ 18) : circaref03_Count 20000 m = some (10 ^ cnt m) := by
  have := iterL_inv (step := circaref03_Count_l0 20000) (fun x => x.1 = m ∧ (0 ≤ x.2.2 ∧ x.2.2 ≤ m.length) ∧ ∃ p : Nat, x.2.1 = 10 ^ p ∧ (p : Int) ≤ x.2.2) (fun x => m.length - x.2.2.toNat)
    (fun x => x.2.1 * 10 ^ cnt (m.drop x.2.2.toNat)) ?_ 20000 (m, 1, 0) ⟨rfl, ⟨by simp, by simp⟩, 0, by simp, by simp⟩ (by simp; omega)
  · simp only [circaref03_Count, this, ob]
    simp
  rintro ⟨m', n, i⟩ ⟨q1, ⟨h0, hi⟩, p, hp, hpi⟩
  simp only at q1 h0 hi hp hpi ⊢
  subst q1
  obtain ⟨j, rfl⟩ : ∃ j : Nat, i = j := ⟨i.toNat, by omega⟩
  simp only [Int.toNat_natCast]
  rcases Nat.lt_or_ge j m'.length with hlt | hge
  · obtain ⟨c, hc⟩ : ∃ c, m'[j]? = some c := ⟨m'[j], List.getElem?_eq_getElem hlt⟩
    have hb : (decide ((j : Int) < ((List.length m' : Nat) : Int))) = true := by simp; omega
    have hw : IntKind.wrap .i64 ((j : Int) + 1) = ((j + 1 : Nat) : Int) := by rw [wrap_i64 _ (by omega) (by omega)]; omega
    have hpw : n ≤ 1000000000000000000 ∧ 0 < n := by
      rw [hp]; exact ⟨pow_bound p (by omega), pow_pos10 p⟩
    have hw2 : IntKind.wrap .i64 (n * 10) = n * 10 := by
      rw [hp]
      have h9 := pow_bound (p + 1) (by omega)
      rw [pow_succ10] at h9
      have := pow_pos10 p
      rw [wrap_i64 _ (by omega) (by omega)]
    rw [drop_get hc]
    simp only [circaref03_Count_l0, hb, cond_true, sx_nat hc, ob, hw, hw2, toNat_88, cnt]
    by_cases h88 : c = 88
    · refine .inl ⟨(m', n * 10, ((j + 1 : Nat) : Int)), by simp only [decide_eq_true h88, cond_true], ⟨rfl, ⟨by simp only; omega, by simp only; omega⟩, p + 1, by simp only [hp, pow_succ10, Int.mul_comm], by simp only; omega⟩, by simp only [Int.toNat_natCast]; omega, ?_⟩
      simp only [Int.toNat_natCast]
      rw [if_pos h88, pow_succ10, Int.mul_assoc]
    · refine .inl ⟨(m', n, ((j + 1 : Nat) : Int)), by simp only [decide_eq_false h88, cond_false], ⟨rfl, ⟨by simp only; omega, by simp only; omega⟩, p, hp, by simp only; omega⟩, by simp only [Int.toNat_natCast]; omega, ?_⟩
      simp only [Int.toNat_natCast]
      rw [if_neg h88]
  · have hb : (decide ((j : Int) < ((List.length m' : Nat) : Int))) = false := by simp; omega
    refine .inr ?_
    simp only [circaref03_Count_l0, hb, cond_false]
    rw [List.drop_eq_nil_of_le hge]
    simp [cnt]

/-! ### The number with an index, by the reference -/

theorem take_rev {m : List UInt8} {j : Nat} {c : UInt8} (h : m[j]? = some c) : (m.take (j + 1)).reverse = c :: (m.take j).reverse := by
  rw [List.take_add_one, h]; simp

theorem dv_wrap {c : UInt8} (h : 0 ≤ dv c ∧ dv c < 10) : IntKind.wrap .i64 (IntKind.wrap .u8 (((c.toNat : Nat) : Int) - 48)) = dv c := by
  unfold dv at h ⊢
  rw [wrap_u8 _ (by omega) (by omega), wrap_i64 _ (by omega) (by omega)]

theorem refNth_eq {m : List UInt8} (hm : chk m = 0) {i : Int} (h0 : 0 ≤ i) (h1 : i < 9223372036854775808) : circaref03_Nth 20000 m i = some (nth m.reverse i) := by
  obtain ⟨h18, _, hok⟩ := chk_len hm
  have hR : ∀ c ∈ m, c = 88 ∨ (0 ≤ dv c ∧ dv c < 10) := fun c hc => okR_of hok c (List.mem_reverse.2 hc)
  have := iterL_inv (step := circaref03_Nth_l0 20000)
    (fun x => x.1 = m ∧ (0 ≤ x.2.1 ∧ x.2.1 < 9223372036854775808) ∧ (-1 ≤ x.2.2.2.2 ∧ x.2.2.2.2 < m.length) ∧ ∃ p : Nat, (p : Int) + x.2.2.2.2 + 1 = m.length ∧ x.2.2.2.1 = 10 ^ p ∧ 0 ≤ x.2.2.1 ∧ x.2.2.1 < 10 ^ p) (fun x => (x.2.2.2.2 + 1).toNat)
    (fun x => x.2.2.1 + x.2.2.2.1 * nth (m.take (x.2.2.2.2 + 1).toNat).reverse x.2.1) ?_ 20000 (m, i, 0, 1, (m.length : Int) - 1)
    ⟨rfl, ⟨h0, h1⟩, ⟨by simp only; omega, by simp only; omega⟩, 0, by simp only; omega, by simp, by simp, by simp⟩ (by simp only; omega)
  · have w : IntKind.wrap .i64 (((List.length m : Nat) : Int) - 1) = (m.length : Int) - 1 := wrap_i64 _ (by omega) (by omega)
    have e : ((m.length : Int) - 1 + 1).toNat = m.length := by omega
    simp only [circaref03_Nth, w, this, ob, e, List.take_length]
    congr 1; omega
  rintro ⟨m', i, n, wt, k⟩ ⟨q1, ⟨h0, h1⟩, ⟨h2, h3⟩, p, p1, p2, p3, p4⟩
  simp only at q1 h0 h1 h2 h3 p1 p2 p3 p4 ⊢
  subst q1
  by_cases hk : 0 ≤ k
  · obtain ⟨j, rfl⟩ : ∃ j : Nat, k = j := ⟨k.toNat, by omega⟩
    have hlt : j < m'.length := by omega
    obtain ⟨c, hc⟩ : ∃ c, m'[j]? = some c := ⟨m'[j], List.getElem?_eq_getElem hlt⟩
    have hcr := hR c (List.mem_of_getElem? hc)
    have e1 : decide ((j : Int) ≥ 0) = true := by simp
    have s1 : ((j : Int) - 1 + 1).toNat = j := by omega
    have s2 : ((j : Int) + 1).toNat = j + 1 := by omega
    have hp17 : p ≤ 17 := by omega
    have hb1 := pow_bound (p + 1) (by omega)
    have hb2 := pow_pos10 p
    rw [pow_succ10] at hb1
    have w1 : IntKind.wrap .i64 ((j : Int) - 1) = (j : Int) - 1 := wrap_i64 _ (by omega) (by omega)
    have w2 : IntKind.wrap .i64 (wt * 10) = wt * 10 := by rw [p2]; exact wrap_i64 _ (by omega) (by omega)
    have acc : ∀ d : Int, 0 ≤ d → d < 10 → IntKind.wrap .i64 (n + IntKind.wrap .i64 (wt * d)) = n + wt * d ∧ 0 ≤ n + wt * d ∧ n + wt * d < 10 ^ (p + 1) := by
      intro d d0 d1
      rw [p2, pow_succ10]
      have a1 : 0 ≤ (10 : Int) ^ p * d := Int.mul_nonneg (by omega) d0
      have a2 : (10 : Int) ^ p * d ≤ 10 ^ p * 9 := Int.mul_le_mul_of_nonneg_left (by omega) (by omega)
      generalize (10 : Int) ^ p * d = z at a1 a2 ⊢
      rw [wrap_i64 z (by omega) (by omega), wrap_i64 _ (by omega) (by omega)]
      omega
    simp only [s2]
    rw [take_rev hc]
    simp only [circaref03_Nth_l0, e1, cond_true, sx_nat hc, ob, toNat_88, w1, w2, nth]
    by_cases h88 : c = 88
    · have t1 : Int.tmod i 10 = i % 10 := tmod10 h0
      have t2 : IntKind.wrap .i64 (Int.tdiv i 10) = i / 10 := by rw [tdiv10 h0]; exact wrap_i64 _ (by omega) (by omega)
      obtain ⟨a1, a2, a3⟩ := acc (i % 10) (by omega) (by omega)
      refine .inl ⟨(m', i / 10, n + wt * (i % 10), wt * 10, (j : Int) - 1), by simp only [decide_eq_true h88, cond_true, t1, t2, a1], ⟨rfl, ⟨by simp only; omega, by simp only; omega⟩, ⟨by simp only; omega, by simp only; omega⟩, p + 1, by simp only; omega, by simp only [p2, pow_succ10, Int.mul_comm], a2, a3⟩, by simp only; omega, ?_⟩
      simp only [s1]
      rw [if_pos h88, Int.mul_add, Int.mul_assoc]
      omega
    · obtain ⟨d0, d1⟩ := hcr.resolve_left h88
      obtain ⟨a1, a2, a3⟩ := acc (dv c) d0 d1
      refine .inl ⟨(m', i, n + wt * dv c, wt * 10, (j : Int) - 1), by simp only [decide_eq_false h88, cond_false, dv_wrap ⟨d0, d1⟩, a1], ⟨rfl, ⟨h0, h1⟩, ⟨by simp only; omega, by simp only; omega⟩, p + 1, by simp only; omega, by simp only [p2, pow_succ10, Int.mul_comm], a2, a3⟩, by simp only; omega, ?_⟩
      simp only [s1]
      rw [if_neg h88, Int.mul_add, Int.mul_assoc]
      omega
  · have e1 : decide (k ≥ 0) = false := by simp; omega
    have s : (k + 1).toNat = 0 := by omega
    refine .inr ?_
    simp only [circaref03_Nth_l0, e1, cond_false, s, List.take_zero, List.reverse_nil, nth, Int.mul_zero, Int.add_zero]

end Go.Sh
