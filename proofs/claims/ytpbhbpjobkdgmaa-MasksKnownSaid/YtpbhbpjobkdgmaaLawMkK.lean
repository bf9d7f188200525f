/- Chapter 3: the law on the next number and the one before.
   Conditions: none. -/
import Derived.Test.YtpbhbpjobkdgmaaLawMkJ
set_option linter.unusedSimpArgs false
set_option linter.unusedVariables false
namespace Go.Sh
open Go.Abs

/-- The number of a mask that is nearest on one side, or none. -/
def near (up : Bool) (m : List UInt8) (k : Int) : Option Int → Prop
  | some R => hasM m R = true ∧ ahead up k R ∧ ∀ e, hasM m e = true → ahead up k e → ahead up R e
  | none => ∀ e, hasM m e = true → ¬ ahead up k e

theorem ahead_antisymm {up : Bool} {a b : Int} (h1 : ahead up a b) (h2 : ahead up b a) : a = b := by
  cases up <;> simp only [ahead] at h1 h2 <;> omega

theorem near_unique {up : Bool} {m : List UInt8} {k : Int} : ∀ {a b : Option Int}, near up m k a → near up m k b → a = b
  | none, none, _, _ => rfl
  | some a, some b, ⟨h1, h2, h3⟩, ⟨g1, g2, g3⟩ => by rw [ahead_antisymm (h3 b g1 g2) (g3 a h1 h2)]
  | none, some b, h, ⟨g1, g2, _⟩ => absurd g2 (h b g1)
  | some a, none, ⟨h1, h2, _⟩, g => absurd h2 (g a h1)

def res (o : Option Int) : Int × Int := match o with | some r => (r, 0) | none => (0, 16)
def rff (o : Option Int) : Int × Bool := match o with | some r => (r, true) | none => (0, false)

theorem hasM_dg {m : List UInt8} {e : Int} (h : hasM m e = true) : (dg m.length e).length = m.length ∧ digl (dg m.length e) ∧ agree m (dg m.length e) = true ∧ vl (dg m.length e) = e ∧ 0 ≤ e ∧ e < 10 ^ m.length := by
  unfold hasM at h
  simp only [Bool.and_eq_true, decide_eq_true_eq] at h
  exact ⟨dg_len _ _, dg_range _ _, h.2.2, vl_dg _ _ h.1 h.2.1, h.1, h.2.1⟩

theorem hasM_vl {m : List UInt8} {r : List Int} (h1 : r.length = m.length) (h2 : digl r) (h3 : agree m r = true) : hasM m (vl r) = true := by
  have hr := vl_range h2
  have hd := dg_vl h2
  rw [h1] at hr hd
  unfold hasM
  rw [hd, h3, decide_eq_true hr.1, decide_eq_true hr.2]; rfl

theorem beyond_near {m : List UInt8} (hm : chk m = 0) (up : Bool) (k : Int) (h0 : 0 ≤ k) (h1 : k < 10 ^ m.length) : ∃ o, masks_beyond 20000 m k up = some (res o) ∧ near up m k o := by
  obtain ⟨h18, _, hok⟩ := chk_len hm
  have hn := nx_ok up hok (dg_len m.length k).symm (dg_range m.length k)
  have hv := vl_dg m.length k h0 h1
  refine ⟨(nx up m (dg m.length k)).map vl, ?_, ?_⟩
  · rw [beyond_eq hm up k h0 h1]
    cases nx up m (dg m.length k) <;> rfl
  · cases hx : nx up m (dg m.length k) with
    | none =>
      rw [hx] at hn
      intro e he ha
      obtain ⟨e1, e2, e3, e4, _⟩ := hasM_dg he
      exact hn _ e1 e2 e3 (by rw [hv, e4]; exact ha)
    | some r =>
      rw [hx] at hn
      obtain ⟨i1, i2, i3, i4, i5⟩ := hn
      refine ⟨hasM_vl i1 i2 i3, by rw [hv] at i4; exact i4, fun e he ha => ?_⟩
      obtain ⟨e1, e2, e3, e4, _⟩ := hasM_dg he
      have := i5 _ e1 e2 e3 (by rw [hv, e4]; exact ha)
      rwa [e4] at this

theorem hasM_idx {m : List UInt8} {e : Int} (h : hasM m e = true) : 0 ≤ idx m.reverse e ∧ idx m.reverse e < 10 ^ cnt m ∧ nth m.reverse (idx m.reverse e) = e := by
  rw [hasM_ag] at h
  simp only [Bool.and_eq_true, decide_eq_true_eq] at h
  obtain ⟨k0, k1, k2⟩ := h
  have := idx_range m.reverse e k0
  rw [cnt_reverse] at this
  exact ⟨this.1, this.2, nth_idx k0 (by rw [List.length_reverse]; exact k1) k2⟩

section
variable {m : List UInt8} (hm : chk m = 0)
include hm

theorem mono_le {i j : Int} (h0 : 0 ≤ i) (h1 : i ≤ j) (h2 : j < 10 ^ cnt m) : nth m.reverse i ≤ nth m.reverse j := by
  obtain ⟨h18, _, hok⟩ := chk_len hm
  rcases Int.lt_or_eq_of_le h1 with h | rfl
  · exact Int.le_of_lt (nth_mono (okR_of hok) i j h0 h (by rw [cnt_reverse]; exact h2))
  · exact Int.le_refl _

theorem refNext_near (k : Int) : ∃ o, circaref03_Next 20000 m k = some (rff o) ∧ near true m k o := by
  obtain ⟨h18, _, hok⟩ := chk_len hm
  have hc := cnt_le m
  have hp := pow_bound (cnt m) (by omega)
  obtain ⟨B, hB, b0, b1, hl, hu⟩ := Below_eq hm k
  by_cases hb : B = 10 ^ cnt m
  · refine ⟨none, ?_, fun e he ha => ?_⟩
    · have e1 : (B == 10 ^ cnt m) = true := by simpa using hb
      simp only [circaref03_Next, hB, ob, refCount_eq h18, e1, cond_true, rff]
    · obtain ⟨i0, i1, i2⟩ := hasM_idx he
      have := hl _ i0 (by omega)
      simp only [ahead] at ha; omega
  · refine ⟨some (nth m.reverse B), ?_, hasM_nth hm b0, hu B (by omega) (by omega), fun e he ha => ?_⟩
    · have e1 : (B == 10 ^ cnt m) = false := by simpa using hb
      simp only [circaref03_Next, hB, ob, refCount_eq h18, e1, cond_false, refNth_eq hm b0 (by omega), rff]
    · obtain ⟨i0, i1, i2⟩ := hasM_idx he
      simp only [ahead] at ha ⊢
      have hge : B ≤ idx m.reverse e := by
        refine Int.not_lt.1 fun h => ?_
        have := hl _ i0 h
        omega
      have := mono_le hm b0 hge i1
      omega

theorem refPrev_near (k : Int) : ∃ o, circaref03_Prev 20000 m k = some (rff o) ∧ near false m k o := by
  obtain ⟨h18, _, hok⟩ := chk_len hm
  have hc := cnt_le m
  have hp := pow_bound (cnt m) (by omega)
  obtain ⟨B, hB, b0, b1, hl, hu⟩ := Below_eq hm k
  have lower : (¬ (B < 10 ^ cnt m ∧ nth m.reverse B = k)) → ∃ o, near false m k o ∧ (cond (B == 0) (some (0, false)) (ob (circaref03_Nth 20000 m (IntKind.wrap .i64 (B - 1))) fun r357 => (some (r357, true)))) = some (rff o) := by
    intro hn
    have hlow : ∀ e, hasM m e = true → e ≤ k → 0 ≤ idx m.reverse e ∧ idx m.reverse e < B ∧ nth m.reverse (idx m.reverse e) = e := by
      intro e he ha
      obtain ⟨i0, i1, i2⟩ := hasM_idx he
      refine ⟨i0, Int.not_le.1 fun h => ?_, i2⟩
      have h1 := hu _ h i1
      have h2 := mono_le hm b0 h i1
      have h3 := hu B (Int.le_refl _) (by omega)
      exact hn ⟨by omega, by omega⟩
    by_cases hz : B = 0
    · refine ⟨none, fun e he ha => ?_, by simp [hz, rff]⟩
      have := hlow e he ha
      omega
    · have e1 : (B == 0) = false := by simpa using hz
      have w : IntKind.wrap .i64 (B - 1) = B - 1 := wrap_i64 _ (by omega) (by omega)
      refine ⟨some (nth m.reverse (B - 1)), ⟨hasM_nth hm (by omega), Int.le_of_lt (hl (B - 1) (by omega) (by omega)), fun e he ha => ?_⟩, ?_⟩
      · obtain ⟨i0, i1, i2⟩ := hlow e he ha
        have := mono_le hm i0 (show idx m.reverse e ≤ B - 1 by omega) (by omega)
        simp only [ahead]; omega
      · simp only [e1, cond_false, w, refNth_eq hm (show 0 ≤ B - 1 by omega) (by omega), ob, rff]
  by_cases hb : B < 10 ^ cnt m
  · by_cases he : nth m.reverse B = k
    · refine ⟨some k, ?_, by rw [← he]; exact hasM_nth hm b0, Int.le_refl _, fun e _ h => h⟩
      have e1 : (nth m.reverse B == k) = true := by simpa using he
      simp only [circaref03_Prev, hB, ob, refCount_eq h18, decide_eq_true hb, cond_true, refNth_eq hm b0 (show B < 9223372036854775808 by omega), e1, rff]
    · obtain ⟨o, ho, hr⟩ := lower fun h => he h.2
      refine ⟨o, ?_, ho⟩
      have e1 : (nth m.reverse B == k) = false := by simpa using he
      simp only [circaref03_Prev, hB, ob_ret, refCount_eq h18, decide_eq_true hb, cond_true, refNth_eq hm b0 (show B < 9223372036854775808 by omega), e1, cond_false]
      exact hr
  · obtain ⟨o, ho, hr⟩ := lower fun h => hb h.1
    refine ⟨o, ?_, ho⟩
    simp only [circaref03_Prev, hB, ob_ret, refCount_eq h18, decide_eq_false hb, cond_false]
    exact hr

theorem within_eq (k : Int) : masks_within 20000 m k = some (decide (0 ≤ k ∧ k < 10 ^ m.length)) := by
  obtain ⟨h18, _, hok⟩ := chk_len hm
  simp only [masks_within, power_eq m.length h18, ob]
  by_cases h0 : 0 ≤ k
  · have d0 : decide (k ≥ 0) = true := by simpa using h0
    simp only [d0, cond_true, h0, true_and, decide_true]
  · have d0 : decide (k ≥ 0) = false := by simpa using h0
    simp only [d0, cond_false, h0, false_and, decide_false]

theorem Next_near (k : Int) : ∃ o, masks_Next 20000 m k = some (res o) ∧ near true m k o := by
  obtain ⟨h18, _, hok⟩ := chk_len hm
  have e0 : ((0 : Int) != 0) = false := by simp
  simp only [masks_Next, masks_Check_eq 20000 m (by omega), hm, ob_ret, e0, cond_false, within_eq hm]
  by_cases h0 : k < 0
  · refine ⟨some (nth m.reverse 0), by simp only [decide_eq_true h0, cond_true, Least_eq hm, ob_ret, res], hasM_nth hm (by omega), ?_, fun e he ha => ?_⟩
    · have := (nth_range (okR_of hok) 0 (by omega)).1
      simp only [ahead]; omega
    · obtain ⟨i0, i1, i2⟩ := hasM_idx he
      have := mono_le hm (Int.le_refl 0) i0 i1
      simp only [ahead]; omega
  · by_cases h1 : k < 10 ^ m.length
    · obtain ⟨o, h2, h3⟩ := beyond_near hm true k (by omega) h1
      exact ⟨o, by simp only [decide_eq_false h0, cond_false, decide_eq_true (show 0 ≤ k ∧ k < 10 ^ m.length from ⟨by omega, h1⟩), Bool.not_true, h2, ob_ret], h3⟩
    · refine ⟨none, by simp only [decide_eq_false h0, cond_false, decide_eq_false (show ¬ (0 ≤ k ∧ k < 10 ^ m.length) from fun h => h1 h.2), Bool.not_false, cond_true, res], fun e he ha => ?_⟩
      obtain ⟨_, _, _, _, _, i⟩ := hasM_dg he
      simp only [ahead] at ha; omega

theorem Prev_near (k : Int) : ∃ o, masks_Prev 20000 m k = some (res o) ∧ near false m k o := by
  obtain ⟨h18, _, hok⟩ := chk_len hm
  have e0 : ((0 : Int) != 0) = false := by simp
  simp only [masks_Prev, masks_Check_eq 20000 m (by omega), hm, ob_ret, e0, cond_false, within_eq hm]
  by_cases h0 : k < 0
  · refine ⟨none, by simp only [decide_eq_true h0, cond_true, res], fun e he ha => ?_⟩
    obtain ⟨_, _, _, _, i, _⟩ := hasM_dg he
    simp only [ahead] at ha; omega
  · by_cases h1 : k < 10 ^ m.length
    · obtain ⟨o, h2, h3⟩ := beyond_near hm false k (by omega) h1
      exact ⟨o, by simp only [decide_eq_false h0, cond_false, decide_eq_true (show 0 ≤ k ∧ k < 10 ^ m.length from ⟨by omega, h1⟩), Bool.not_true, h2, ob_ret], h3⟩
    · have hp0 := pow_pos10 (cnt m)
      refine ⟨some (nth m.reverse (10 ^ cnt m - 1)), by simp only [decide_eq_false h0, cond_false, decide_eq_false (show ¬ (0 ≤ k ∧ k < 10 ^ m.length) from fun h => h1 h.2), Bool.not_false, cond_true, Greatest_eq hm, ob_ret, res], hasM_nth hm (by omega), ?_, fun e he ha => ?_⟩
      · have := (nth_range (okR_of hok) (10 ^ cnt m - 1) (by omega)).2
        rw [List.length_reverse] at this
        simp only [ahead]; omega
      · obtain ⟨i0, i1, i2⟩ := hasM_idx he
        have := mono_le hm i0 (show idx m.reverse e ≤ 10 ^ cnt m - 1 by omega) (by omega)
        simp only [ahead]; omega

end

theorem gives_eq (o : Option Int) : circalaw03_gives 20000 (res o).1 (res o).2 (rff o).1 (rff o).2 16 = some true := by
  cases o <;> simp [circalaw03_gives, res, rff]

/-- MasksNext. -/
theorem masksNext_ok (n k : Int) (l : List Int) (h1 : n < 9223372036854775808) (h2 : k < 9223372036854775808) (r : ∀ x ∈ l, 0 ≤ x ∧ x < 256) : circalaw03_MasksNext 20000 n k l = some true := by
  have hm := mk_chk l
  unfold circalaw03_MasksNext
  rw [M_Of_eq l r, ob_ret]
  generalize mk l = m at hm ⊢
  obtain ⟨a, ha, na⟩ := Next_near hm n
  obtain ⟨b, hb, nb⟩ := Prev_near hm n
  obtain ⟨a', ha', na'⟩ := refNext_near hm n
  obtain ⟨b', hb', nb'⟩ := refPrev_near hm n
  obtain rfl := near_unique na na'
  obtain rfl := near_unique nb nb'
  rw [ha, ob_ret, hb, ob_ret, ha', ob_ret, hb', ob_ret, gives_eq, ob_ret, gives_eq, ob_ret, Has_eq hm k h2, ob_ret, Has_eq hm n h1, lives03]
  simp only [Bool.not_true, cond_false, ob_ret]
  have tail : (cond (!(hasM m n)) (some true) (cond ((res a).1 == n) (cond ((res b).1 == n) (some true) (some false)) (some false))) = some true := by
    cases hh : hasM m n with
    | false => rfl
    | true =>
      have sa : near true m n (some n) := ⟨hh, Int.le_refl _, fun e _ h => h⟩
      have sb : near false m n (some n) := ⟨hh, Int.le_refl _, fun e _ h => h⟩
      rw [near_unique na sa, near_unique nb sb]
      simp [res]
  cases hk : hasM m k with
  | false => simpa only [cond_false] using tail
  | true =>
    simp only [cond_true]
    have up : n ≤ k → (rff a).2 = true ∧ (res a).1 ≤ k := fun h => by
      cases a with
      | none => exact absurd h (na k hk)
      | some v => exact ⟨rfl, na.2.2 k hk h⟩
    have dn : k ≤ n → (rff b).2 = true ∧ k ≤ (res b).1 := fun h => by
      cases b with
      | none => exact absurd h (nb k hk)
      | some v => exact ⟨rfl, nb.2.2 k hk h⟩
    by_cases g1 : n ≤ k
    · obtain ⟨u1, u2⟩ := up g1
      have d1 : decide (k ≥ n) = true := by simpa using g1
      have d2 : decide ((res a).1 > k) = false := by simp; omega
      simp only [d1, cond_true, u1, Bool.not_true, cond_false, d2]
      by_cases g2 : k ≤ n
      · obtain ⟨v1, v2⟩ := dn g2
        have d4 : decide ((res b).1 < k) = false := by simp; omega
        simp only [decide_eq_true g2, cond_true, v1, Bool.not_true, cond_false, d4]
        exact tail
      · simp only [decide_eq_false g2, cond_false]
        exact tail
    · have d1 : decide (k ≥ n) = false := by simp; omega
      simp only [d1, cond_false]
      by_cases g2 : k ≤ n
      · obtain ⟨v1, v2⟩ := dn g2
        have d4 : decide ((res b).1 < k) = false := by simp; omega
        simp only [decide_eq_true g2, cond_true, v1, Bool.not_true, cond_false, d4]
        exact tail
      · simp only [decide_eq_false g2, cond_false]
        exact tail

end Go.Sh
