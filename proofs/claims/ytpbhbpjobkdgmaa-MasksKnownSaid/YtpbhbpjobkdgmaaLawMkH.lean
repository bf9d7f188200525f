/- Chapter 3: the law on a mask's numbers.
   Conditions: none. -/
import Derived.Test.YtpbhbpjobkdgmaaLawMkG
set_option linter.unusedSimpArgs false
set_option linter.unusedVariables false
namespace Go.Sh
open Go.Abs

/-! ### The index -/

def jdx : List UInt8 → List Int → Int → Int
  | c :: m, y :: l, n => jdx m l (if c = 88 then 10 * n + (y - 48) else n)
  | _, _, n => n

theorem jdx_snoc : ∀ {a : List UInt8} {b : List Int} (c : UInt8) (y n : Int), a.length = b.length → jdx (a ++ [c]) (b ++ [y]) n = if c = 88 then 10 * jdx a b n + (y - 48) else jdx a b n
  | [], [], c, y, n, _ => by simp [jdx]
  | x :: a, z :: b, c, y, n, h => by
    simp only [List.length_cons, Nat.add_right_cancel_iff] at h
    simp only [List.cons_append, jdx]
    exact jdx_snoc c y _ h
  | [], _ :: _, _, _, _, h => by simp at h
  | _ :: _, [], _, _, _, h => by simp at h

theorem jdx_idx : ∀ (r : List UInt8) (k : Int), jdx r.reverse (dg r.length k) 0 = idx r k
  | [], _ => rfl
  | c :: r, k => by
    simp only [List.reverse_cons, List.length_cons, dg, idx]
    rw [jdx_snoc _ _ _ (by rw [List.length_reverse, dg_len]), jdx_idx r]
    split <;> omega

theorem Index_loop (m : List UInt8) (l z : List Int) (hl : l.length = m.length) (h18 : m.length ≤ 18) (hm : ∀ c ∈ m, okB c = true) (hr : ∀ y ∈ l, 48 ≤ y ∧ y < 58) :
    iterL (masks_Index_l0 20000) 20000 (0, over z 0 l, m, 0) = some (jdx m l 0) := by
  have := iterL_inv (step := masks_Index_l0 20000) (fun x => x.2.1 = over z 0 l ∧ x.2.2.1 = m ∧ x.2.2.2 ≤ m.length ∧ 0 ≤ x.1 ∧ x.1 < 10 ^ x.2.2.2) (fun x => m.length - x.2.2.2)
    (fun x => jdx (m.drop x.2.2.2) (l.drop x.2.2.2) x.1) ?_ 20000 (0, over z 0 l, m, 0) ⟨rfl, rfl, Nat.zero_le _, by simp, by simp⟩ (by simp only; omega)
  · simpa using this
  rintro ⟨n, d, b, i⟩ ⟨q1, q2, hi, n0, n1⟩
  simp only at q1 q2 hi n0 n1 ⊢
  subst q2 q1
  rcases Nat.lt_or_ge i b.length with hlt | hge
  · obtain ⟨c, hc⟩ : ∃ c, b[i]? = some c := ⟨b[i], List.getElem?_eq_getElem hlt⟩
    obtain ⟨y, hy⟩ : ∃ c, l[i]? = some c := ⟨l[i]'(by omega), List.getElem?_eq_getElem (by omega)⟩
    have hok := hm c (List.mem_of_getElem? hc)
    obtain ⟨y0, y1⟩ := hr y (List.mem_of_getElem? hy)
    have hb : Nat.blt i b.length = true := Nat.ble_eq_true_of_le hlt
    have h128 : c.toNat < 128 := by
      simp only [okB, Bool.or_eq_true, beq_iff_eq, Bool.and_eq_true, decide_eq_true_eq] at hok
      omega
    have hb1 := pow_bound (i + 1) (by omega)
    rw [pow_succ10] at hb1
    rw [drop_get hc, drop_get hy]
    simp only [jdx, masks_Index_l0, hb, cond_true, dec_low hc h128, toNat_88]
    by_cases h88 : c = 88
    · have hg : (over z 0 l)[i]? = some y := by rw [over_get (by omega)]; exact hy
      have w1 : IntKind.wrap .i64 (IntKind.wrap .i64 (10 * n) + IntKind.wrap .i64 (IntKind.wrap .u8 (y - 48))) = 10 * n + (y - 48) := by
        rw [wrap_u8 _ (by omega) (by omega), wrap_i64 (y - 48) (by omega) (by omega), wrap_i64 (10 * n) (by omega) (by omega), wrap_i64 _ (by omega) (by omega)]
      refine .inl ⟨(10 * n + (y - 48), over z 0 l, b, i + 1), by simp only [decide_eq_true h88, cond_true, ix_nat (show i < 18 by omega), ob, hg, w1], ⟨rfl, rfl, by simp only; omega, by simp only; omega, by simp only [pow_succ10]; omega⟩, by simp only; omega, ?_⟩
      simp only []
      rw [if_pos h88]
    · refine .inl ⟨(n, over z 0 l, b, i + 1), by simp only [decide_eq_false h88, cond_false], ⟨rfl, rfl, by simp only; omega, n0, by simp only [pow_succ10]; omega⟩, by simp only; omega, ?_⟩
      simp only []
      rw [if_neg h88]
  · have hb : Nat.blt i b.length = false := by
      cases h : Nat.blt i b.length with
      | false => rfl
      | true => have : i < b.length := Nat.le_of_ble_eq_true h; omega
    refine .inr ?_
    simp only [masks_Index_l0, hb, cond_false]
    rw [List.drop_eq_nil_of_le hge]
    rfl

theorem Index_eq {m : List UInt8} (hm : chk m = 0) (k : Int) (h1 : k < 9223372036854775808) : masks_Index 20000 m k = some (if hasM m k = true then (idx m.reverse k, 0) else (0, 16)) := by
  obtain ⟨h18, _, hok⟩ := chk_len hm
  have e0 : ((0 : Int) != 0) = false := by simp
  simp only [masks_Index, masks_Check_eq 20000 m (by omega), hm, ob, e0, cond_false, Has_eq hm k h1]
  cases hh : hasM m k with
  | false => simp
  | true =>
    have h0 : 0 ≤ k := by
      unfold hasM at hh
      simp only [Bool.and_eq_true, decide_eq_true_eq] at hh
      exact hh.1
    have hj := jdx_idx m.reverse k
    rw [List.reverse_reverse, List.length_reverse] at hj
    simp only [Bool.not_true, cond_false, split_eq m k h18 h0 h1, Index_loop m _ _ (dg_len _ _) h18 hok (dg_range _ _), hj, if_true]

/-! ### The reference: has, below -/

theorem refHas_eq {m : List UInt8} (hm : chk m = 0) (k : Int) (h1 : k < 9223372036854775808) : circaref03_Has 20000 m k = some (hasM m k) := by
  obtain ⟨h18, _, hok⟩ := chk_len hm
  rw [hasM_ag]
  by_cases h0 : k < 0
  · simp only [circaref03_Has, decide_eq_true h0, cond_true]
    rw [decide_eq_false (by omega : ¬ 0 ≤ k)]; rfl
  have := iterL_inv (step := circaref03_Has_l0 20000) (fun x => x.1 = m ∧ (0 ≤ x.2.1 ∧ x.2.1 < 9223372036854775808) ∧ (-1 ≤ x.2.2 ∧ x.2.2 < m.length)) (fun x => (x.2.2 + 1).toNat)
    (fun x => cond (ag (m.take (x.2.2 + 1).toNat).reverse x.2.1) (.inr (x.2.1 / 10 ^ (x.2.2 + 1).toNat)) (.inl false)) ?_ 20000 (m, k, (m.length : Int) - 1) ⟨rfl, ⟨by simp only; omega, h1⟩, ⟨by simp only; omega, by simp only; omega⟩⟩ (by simp only; omega)
  · have w : IntKind.wrap .i64 (((List.length m : Nat) : Int) - 1) = (m.length : Int) - 1 := wrap_i64 _ (by omega) (by omega)
    have e : ((m.length : Int) - 1 + 1).toNat = m.length := by omega
    simp only [circaref03_Has, decide_eq_false h0, cond_false, w, this, ob, e, List.take_length, decide_eq_true (show 0 ≤ k by omega), Bool.true_and]
    have hp := pow_pos10 m.length
    cases ag m.reverse k with
    | false => simp
    | true =>
      simp only [cond_true, Bool.and_true]
      congr 1
      by_cases hk : k < 10 ^ m.length
      · rw [Int.ediv_eq_zero_of_lt (by omega) hk, decide_eq_true hk]; rfl
      · rw [decide_eq_false hk]
        have : k / 10 ^ m.length ≠ 0 := by
          intro e
          have h9 := Int.lt_ediv_add_one_mul_self k hp
          rw [e] at h9
          omega
        simpa using this
  rintro ⟨m', n, i⟩ ⟨q1, ⟨n0, n1⟩, ⟨h2, h3⟩⟩
  simp only at q1 n0 n1 h2 h3 ⊢
  subst q1
  by_cases hk : 0 ≤ i
  · obtain ⟨j, rfl⟩ : ∃ j : Nat, i = j := ⟨i.toNat, by omega⟩
    have hlt : j < m'.length := by omega
    obtain ⟨c, hc⟩ : ∃ c, m'[j]? = some c := ⟨m'[j], List.getElem?_eq_getElem hlt⟩
    have hcr := okR_of hok c (List.mem_reverse.2 (List.mem_of_getElem? hc))
    have e1 : decide ((j : Int) ≥ 0) = true := by simp
    have s1 : ((j : Int) - 1 + 1).toNat = j := by omega
    have s2 : ((j : Int) + 1).toNat = j + 1 := by omega
    have w1 : IntKind.wrap .i64 ((j : Int) - 1) = (j : Int) - 1 := wrap_i64 _ (by omega) (by omega)
    have t1 : Int.tmod n 10 = n % 10 := tmod10 n0
    have t2 : IntKind.wrap .i64 (Int.tdiv n 10) = n / 10 := by rw [tdiv10 n0]; exact wrap_i64 _ (by omega) (by omega)
    have n88 : (((c.toNat : Nat) : Int) != 88) = !decide (c = 88) := by rw [bne, toNat_88]
    have hdiv : n / 10 ^ (j + 1) = n / 10 / 10 ^ j := by
      rw [pow_succ10, Int.ediv_ediv_of_nonneg (by omega)]
    simp only [s2]
    rw [take_rev hc, hdiv]
    simp only [circaref03_Has_l0, e1, cond_true, sx_nat hc, ob, w1, t1, t2, n88, ag]
    by_cases h88 : c = 88
    · refine .inl ⟨(m', n / 10, (j : Int) - 1), by simp only [decide_eq_true h88, Bool.not_true, cond_false], ⟨rfl, ⟨by simp only; omega, by simp only; omega⟩, ⟨by simp only; omega, by simp only; omega⟩⟩, by simp only; omega, ?_⟩
      simp only [s1, decide_eq_true h88, Bool.true_or, Bool.and_true]
    · obtain ⟨d0, d1⟩ := hcr.resolve_left h88
      simp only [decide_eq_false h88, Bool.not_false, cond_true, dv_wrap ⟨d0, d1⟩, Bool.false_or]
      by_cases hd : dv c = n % 10
      · have e2 : (dv c != n % 10) = false := by simpa using hd
        refine .inl ⟨(m', n / 10, (j : Int) - 1), by simp only [e2, cond_false], ⟨rfl, ⟨by simp only; omega, by simp only; omega⟩, ⟨by simp only; omega, by simp only; omega⟩⟩, by simp only; omega, ?_⟩
        simp only [s1, decide_eq_true hd, Bool.and_true]
      · have e2 : (dv c != n % 10) = true := by simpa using hd
        refine .inr ?_
        simp only [e2, cond_true, decide_eq_false hd, Bool.and_false, cond_false]
  · have e1 : decide (i ≥ 0) = false := by simp; omega
    have s : (i + 1).toNat = 0 := by omega
    refine .inr ?_
    simp only [circaref03_Has_l0, e1, cond_false, s, List.take_zero, List.reverse_nil, ag, cond_true, Int.pow_zero, Int.ediv_one]

theorem Below_loop {m : List UInt8} (hm : chk m = 0) (k : Int) : ∀ (j f : Nat) (a b : Int), 0 ≤ a → a ≤ b → b ≤ 10 ^ cnt m → b - a < 2 ^ j → j < f →
    (∀ i, 0 ≤ i → i < a → nth m.reverse i < k) → (∀ i, b ≤ i → i < 10 ^ cnt m → k ≤ nth m.reverse i) →
    ∃ B, iterL (circaref03_Below_l0 20000) f (m, k, a, b) = some B ∧ 0 ≤ B ∧ B ≤ 10 ^ cnt m ∧ (∀ i, 0 ≤ i → i < B → nth m.reverse i < k) ∧ (∀ i, B ≤ i → i < 10 ^ cnt m → k ≤ nth m.reverse i) := by
  obtain ⟨h18, _, hok⟩ := chk_len hm
  have hc := cnt_le m
  have hp := pow_bound (cnt m) (by omega)
  have hmono : ∀ i j, 0 ≤ i → i < j → j < 10 ^ cnt m → nth m.reverse i < nth m.reverse j := fun i j h0 h1 h2 => nth_mono (okR_of hok) i j h0 h1 (by rw [cnt_reverse]; exact h2)
  intro j
  induction j with
  | zero =>
    intro f a b h0 h1 h2 h3 hf hl hu
    obtain ⟨f, rfl⟩ : ∃ q, f = q + 1 := ⟨f - 1, by omega⟩
    have hab : a = b := by simp at h3; omega
    subst hab
    refine ⟨a, ?_, h0, h2, hl, hu⟩
    simp [iterL, circaref03_Below_l0]
  | succ j ih =>
    intro f a b h0 h1 h2 h3 hf hl hu
    obtain ⟨f, rfl⟩ : ∃ q, f = q + 1 := ⟨f - 1, by omega⟩
    by_cases hab : a < b
    · have h4 : (2 : Int) ^ (j + 1) = 2 * 2 ^ j := by rw [Int.pow_succ, Int.mul_comm]
      rw [h4] at h3
      have t : Int.tdiv (b - a) 2 = (b - a) / 2 := Int.tdiv_eq_ediv_of_nonneg (by omega)
      have w1 : IntKind.wrap .i64 (b - a) = b - a := wrap_i64 _ (by omega) (by omega)
      have w2 : IntKind.wrap .i64 ((b - a) / 2) = (b - a) / 2 := wrap_i64 _ (by omega) (by omega)
      have w3 : IntKind.wrap .i64 (a + (b - a) / 2) = a + (b - a) / 2 := wrap_i64 _ (by omega) (by omega)
      have w4 : IntKind.wrap .i64 (a + (b - a) / 2 + 1) = a + (b - a) / 2 + 1 := wrap_i64 _ (by omega) (by omega)
      simp only [iterL, circaref03_Below_l0, decide_eq_true hab, cond_true, w1, t, w2, w3, w4, refNth_eq hm (show 0 ≤ a + (b - a) / 2 by omega) (by omega), ob]
      by_cases hn : nth m.reverse (a + (b - a) / 2) < k
      · simp only [decide_eq_true hn, cond_true]
        refine ih f _ _ (by omega) (by omega) h2 (by omega) (by omega) (fun i i0 i1 => ?_) hu
        by_cases he : i = a + (b - a) / 2
        · rw [he]; exact hn
        · have := hmono i (a + (b - a) / 2) i0 (by omega) (by omega); omega
      · simp only [decide_eq_false hn, cond_false]
        refine ih f _ _ h0 (by omega) (by omega) (by omega) (by omega) hl fun i i0 i1 => ?_
        by_cases he : i = a + (b - a) / 2
        · rw [he]; omega
        · have := hmono (a + (b - a) / 2) i (by omega) (by omega) i1; omega
    · have hab' : a = b := by omega
      subst hab'
      refine ⟨a, ?_, h0, h2, hl, hu⟩
      simp [iterL, circaref03_Below_l0]

theorem Below_eq {m : List UInt8} (hm : chk m = 0) (k : Int) : ∃ B, circaref03_Below 20000 m k = some B ∧ 0 ≤ B ∧ B ≤ 10 ^ cnt m ∧ (∀ i, 0 ≤ i → i < B → nth m.reverse i < k) ∧ (∀ i, B ≤ i → i < 10 ^ cnt m → k ≤ nth m.reverse i) := by
  obtain ⟨h18, _, hok⟩ := chk_len hm
  have hc := cnt_le m
  have hp := pow_bound (cnt m) (by omega)
  have hp0 := pow_pos10 (cnt m)
  obtain ⟨B, h1, h2⟩ := Below_loop hm k 60 20000 0 (10 ^ cnt m) (by omega) (by omega) (by omega) (by
    have : (2 : Int) ^ 60 = 1152921504606846976 := by decide
    rw [this]; omega) (by omega) (fun i i0 i1 => by omega) (fun i i0 i1 => by omega)
  exact ⟨B, by simp only [circaref03_Below, refCount_eq h18, ob, h1], h2⟩

theorem hasM_nth {m : List UInt8} (hm : chk m = 0) {i : Int} (h0 : 0 ≤ i) : hasM m (nth m.reverse i) = true := by
  obtain ⟨h18, _, hok⟩ := chk_len hm
  have hr := nth_range (okR_of hok) i h0
  rw [List.length_reverse] at hr
  rw [hasM_ag, ag_nth (okR_of hok) i h0, decide_eq_true hr.1, decide_eq_true hr.2]
  rfl

theorem nth_small {m : List UInt8} (hm : chk m = 0) {i : Int} (h0 : 0 ≤ i) : nth m.reverse i < 9223372036854775808 := by
  obtain ⟨h18, _, hok⟩ := chk_len hm
  have hr := nth_range (okR_of hok) i h0
  rw [List.length_reverse] at hr
  have := pow_bound m.length h18
  omega

theorem below_idx {m : List UInt8} (hm : chk m = 0) {k B : Int} (hk : hasM m k = true) (b0 : 0 ≤ B) (b1 : B ≤ 10 ^ cnt m) (hl : ∀ i, 0 ≤ i → i < B → nth m.reverse i < k) (hu : ∀ i, B ≤ i → i < 10 ^ cnt m → k ≤ nth m.reverse i) :
    B = idx m.reverse k := by
  obtain ⟨h18, _, hok⟩ := chk_len hm
  rw [hasM_ag] at hk
  simp only [Bool.and_eq_true, decide_eq_true_eq] at hk
  obtain ⟨k0, k1, k2⟩ := hk
  have ht := nth_idx k0 (by rw [List.length_reverse]; exact k1) k2
  obtain ⟨t0, t1⟩ := idx_range m.reverse k k0
  rw [cnt_reverse] at t1
  rcases Int.lt_trichotomy (idx m.reverse k) B with h | h | h
  · have := hl _ t0 h; omega
  · exact h.symm
  · have := nth_mono (okR_of hok) B _ b0 h (by rw [cnt_reverse]; exact t1)
    have := hu B (by omega) (by omega)
    omega

theorem num_eq (x : Int) : circalaw03_num 20000 x 0 x = some true := by simp [circalaw03_num]

/-- MasksNumbers. -/
theorem masksNumbers_ok (i k : Int) (l : List Int) (h1 : k < 9223372036854775808) (r : ∀ x ∈ l, 0 ≤ x ∧ x < 256) : circalaw03_MasksNumbers 20000 i k l = some true := by
  have hm := mk_chk l
  unfold circalaw03_MasksNumbers
  rw [M_Of_eq l r, ob_ret]
  generalize mk l = m at hm ⊢
  obtain ⟨h18, _, hok⟩ := chk_len hm
  have hc := cnt_le m
  have hp := pow_bound (cnt m) (by omega)
  have hp0 := pow_pos10 (cnt m)
  have w : IntKind.wrap .i64 ((10 : Int) ^ cnt m - 1) = 10 ^ cnt m - 1 := wrap_i64 _ (by omega) (by omega)
  have e0 : ((0 : Int) != 0) = false := by simp
  obtain ⟨B, hB, b0, b1, hl, hu⟩ := Below_eq hm k
  have tail : (ob (circaref03_Has 20000 m k) fun r280 => (ob (masks_Index 20000 m k) fun r281 => (ob (masks_Has 20000 m k) fun r282 => (cond (r282 == r280) (ob (circaref03_Below 20000 m k) fun r283 => (ob (circalaw03_gives 20000 r281.1 r281.2 r283 r280 16) fun r284 => (cond r284 (ob (circalaw03_lives 20000) fun r285 => (some r285)) (some false)))) (some false))))) = some true := by
    rw [refHas_eq hm k h1, ob_ret, Index_eq hm k h1, ob_ret, Has_eq hm k h1, ob_ret, hB, ob_ret, lives03]
    cases hh : hasM m k with
    | true => rw [below_idx hm hh b0 b1 hl hu]; simp [circalaw03_gives]
    | false => simp [circalaw03_gives]
  rw [Count_eq hm, ob_ret, Least_eq hm, ob_ret, Greatest_eq hm, ob_ret, refCount_eq h18, ob_ret, num_eq, ob_ret, refNth_eq hm (by omega) (by omega), ob_ret, num_eq, ob_ret, w, refNth_eq hm (by omega) (by omega), ob_ret, num_eq, ob_ret, masks_Check_eq 20000 m (by omega), ob_ret, hm]
  simp only [Bool.not_true, cond_false, e0, Nth_eq hm i, ob_ret]
  by_cases h0 : 0 ≤ i
  · have d0 : decide (i ≥ 0) = true := by simpa using h0
    by_cases h2 : i < 10 ^ cnt m
    · have hx := idx_nth (okR_of hok) i h0 (by rw [cnt_reverse]; exact h2)
      simp only [d0, decide_eq_true h2, cond_true, if_pos (show 0 ≤ i ∧ i < 10 ^ cnt m from ⟨h0, h2⟩), refNth_eq hm h0 (by omega), ob_ret, num_eq, Bool.not_true, cond_false, Index_eq hm _ (nth_small hm h0), hasM_nth hm h0, if_true, hx, Has_eq hm _ (nth_small hm h0)]
      exact tail
    · simp only [d0, decide_eq_false h2, cond_true, cond_false, Bool.not_false, if_neg (show ¬ (0 ≤ i ∧ i < 10 ^ cnt m) from fun h => h2 h.2), bad_eq, ob_ret, Bool.not_true]
      exact tail
  · have d0 : decide (i ≥ 0) = false := by simpa using h0
    simp only [d0, cond_false, Bool.not_false, cond_true, if_neg (show ¬ (0 ≤ i ∧ i < 10 ^ cnt m) from fun h => h0 h.1), bad_eq, ob_ret, Bool.not_true]
    exact tail

end Go.Sh
