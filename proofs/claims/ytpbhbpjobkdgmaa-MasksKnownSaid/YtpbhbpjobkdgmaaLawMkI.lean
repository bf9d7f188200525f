/- Chapter 3: the digits that are nearest on one side.
   Conditions: none. -/
import Derived.Test.YtpbhbpjobkdgmaaLawMkH
set_option linter.unusedSimpArgs false
set_option linter.unusedVariables false
namespace Go.Sh
open Go.Abs

/-! ### Numbers of digits, the first one ahead -/

def vl : List Int → Int
  | [] => 0
  | y :: l => (y - 48) * 10 ^ l.length + vl l

def digl (l : List Int) : Prop := ∀ y ∈ l, 48 ≤ y ∧ y < 58

theorem digl_tail {y : Int} {l : List Int} (h : digl (y :: l)) : digl l := fun x hx => h x (List.mem_cons_of_mem _ hx)

theorem vl_range : ∀ {l : List Int}, digl l → 0 ≤ vl l ∧ vl l < 10 ^ l.length
  | [], _ => by simp [vl]
  | y :: l, h => by
    have ih := vl_range (digl_tail h)
    have hy := h y (by simp)
    have hp := pow_pos10 l.length
    simp only [vl, List.length_cons, pow_succ10]
    have a1 : 0 ≤ (y - 48) * 10 ^ l.length := Int.mul_nonneg (by omega) (by omega)
    have a2 : (y - 48) * 10 ^ l.length ≤ 9 * 10 ^ l.length := Int.mul_le_mul_of_nonneg_right (by omega) (by omega)
    omega

theorem vl_lt {y z : Int} {a b : List Int} (hl : a.length = b.length) (ha : digl a) (hb : digl b) (h : y < z) : vl (y :: a) < vl (z :: b) := by
  have h1 := vl_range ha
  have h2 := vl_range hb
  have hp := pow_pos10 a.length
  simp only [vl]
  rw [← hl] at h2 ⊢
  have a2 : (y - 48 + 1) * 10 ^ a.length ≤ (z - 48) * 10 ^ a.length := Int.mul_le_mul_of_nonneg_right (by omega) (by omega)
  rw [Int.add_mul] at a2
  omega

theorem vl_fval : ∀ {l : List Int}, digl l → fval 0 l = vl l
  | [], _ => rfl
  | y :: l, h => by
    have hy := h y (by simp)
    have e : fval 0 (y :: l) = l.foldl (fun n y => 10 * n + fd 0 y) (10 * 0 + fd 0 y) := rfl
    have e2 : fd 0 y = y - 48 := by unfold fd; rw [if_neg (by omega)]
    rw [e, fold_lin, vl_fval (digl_tail h), e2]
    simp only [vl, Int.mul_zero, Int.zero_add]

theorem vl_snoc {l : List Int} {y : Int} (h : digl (l ++ [y])) : vl (l ++ [y]) = 10 * vl l + (y - 48) := by
  have hy := h y (by simp)
  have hl : digl l := fun x hx => h x (by simp [hx])
  rw [← vl_fval h, ← vl_fval hl, fval_snoc]
  unfold fd; rw [if_neg (by omega)]

theorem vl_dg : ∀ (L : Nat) (k : Int), 0 ≤ k → k < 10 ^ L → vl (dg L k) = k
  | 0, k, h0, h1 => by simp at h1; simp [dg, vl]; omega
  | L + 1, k, h0, h1 => by
    rw [pow_succ10] at h1
    have := vl_dg L (k / 10) (by omega) (by omega)
    have hd := dg_range (L + 1) k
    simp only [dg] at hd ⊢
    rw [vl_snoc hd, this]; omega

theorem dg_vl {l : List Int} (h : digl l) : dg l.length (vl l) = l := by
  have go : ∀ (r : List Int), digl r.reverse → dg r.length (vl r.reverse) = r.reverse := by
    intro r
    induction r with
    | nil => intro _; rfl
    | cons y r ih =>
      intro h
      simp only [List.reverse_cons, List.length_cons] at h ⊢
      have hy := h y (by simp)
      rw [vl_snoc h]
      simp only [dg]
      have e1 : (10 * vl r.reverse + (y - 48)) / 10 = vl r.reverse := by omega
      have e2 : 48 + (10 * vl r.reverse + (y - 48)) % 10 = y := by omega
      rw [e1, e2, ih fun x hx => h x (List.mem_append.2 (.inl hx))]
  have := go l.reverse (by rw [List.reverse_reverse]; exact h)
  rwa [List.reverse_reverse, List.length_reverse] at this

/-! ### The nearest digits -/

def fst (up : Bool) : Int := cond up 48 57
def lst (up : Bool) : Int := cond up 57 48
def stp (up : Bool) (y : Int) : Int := cond up (y + 1) (y - 1)

def fil (up : Bool) (m : List UInt8) : List Int := m.map fun c => cond (decide (c = 88)) (fst up) ((c.toNat : Nat) : Int)

def nx (up : Bool) : List UInt8 → List Int → Option (List Int)
  | c :: m, y :: l =>
    if c = 88 then
      match nx up m l with
      | some r => some (y :: r)
      | none => if y = lst up then none else some (stp up y :: fil up m)
    else if ((c.toNat : Nat) : Int) = y then (nx up m l).map fun r => y :: r
    else if decide (((c.toNat : Nat) : Int) > y) = up then some (((c.toNat : Nat) : Int) :: fil up m) else none
  | _, _ => some []

def okM (m : List UInt8) : Prop := ∀ c ∈ m, okB c = true

theorem okM_tail {c : UInt8} {m : List UInt8} (h : okM (c :: m)) : okM m := fun x hx => h x (List.mem_cons_of_mem _ hx)

theorem ok_range {c : UInt8} (h : okB c = true) (h88 : ¬ c = 88) : 48 ≤ ((c.toNat : Nat) : Int) ∧ ((c.toNat : Nat) : Int) < 58 := by
  simp only [okB, Bool.or_eq_true, beq_iff_eq, Bool.and_eq_true, decide_eq_true_eq] at h
  have : ¬ c.toNat = 88 := fun e => h88 (UInt8.toNat_inj.1 (by simpa using e))
  omega

theorem fil_len (up : Bool) (m : List UInt8) : (fil up m).length = m.length := by simp [fil]

theorem fil_dig (up : Bool) {m : List UInt8} (h : okM m) : digl (fil up m) := by
  intro y hy
  obtain ⟨c, hc, rfl⟩ := List.mem_map.1 hy
  by_cases h88 : c = 88
  · simp only [decide_eq_true h88, cond_true]
    cases up <;> simp [fst]
  · simp only [decide_eq_false h88, cond_false]
    exact ok_range (h c hc) h88

theorem fil_agree (up : Bool) : ∀ (m : List UInt8), agree m (fil up m) = true
  | [] => rfl
  | c :: m => by
    have := fil_agree up m
    simp only [fil, List.map_cons, agree] at this ⊢
    rw [this]
    by_cases h88 : c = 88
    · simp [h88]
    · simp [h88]

/-- On one side of it. -/
def ahead (up : Bool) (a b : Int) : Prop := match up with | true => a ≤ b | false => b ≤ a

theorem fil_best (up : Bool) : ∀ {m : List UInt8} {e : List Int}, okM m → m.length = e.length → digl e → agree m e = true → ahead up (vl (fil up m)) (vl e)
  | [], [], _, _, _, _ => by cases up <;> simp [fil, vl, ahead]
  | c :: m, y :: e, hm, hl, he, ha => by
    simp only [List.length_cons, Nat.add_right_cancel_iff] at hl
    simp only [agree, Bool.and_eq_true, Bool.or_eq_true, beq_iff_eq, decide_eq_true_eq] at ha
    have ih := fil_best up (okM_tail hm) hl (digl_tail he) ha.2
    have hy := he y (by simp)
    have hfl := fil_len up m
    have h1 := fil_dig up (okM_tail hm)
    have same : ∀ z : Int, vl (z :: fil up m) = (z - 48) * 10 ^ m.length + vl (fil up m) := fun z => by rw [vl, hfl]
    have hcons : fil up (c :: m) = (cond (decide (c = 88)) (fst up) ((c.toNat : Nat) : Int)) :: fil up m := rfl
    rw [hcons]
    by_cases h88 : c = 88
    · simp only [decide_eq_true h88, cond_true]
      by_cases hyf : y = fst up
      · rw [← hyf, same, vl, ← hl]
        cases up <;> simp only [ahead] at ih ⊢ <;> omega
      · cases up
        · exact Int.le_of_lt (vl_lt (by rw [hfl, hl]) (digl_tail he) h1 (by simp [fst] at hyf ⊢; omega))
        · exact Int.le_of_lt (vl_lt (by rw [hfl, hl]) h1 (digl_tail he) (by simp [fst] at hyf ⊢; omega))
    · simp only [decide_eq_false h88, cond_false]
      rw [ha.1.resolve_left h88, same, vl, ← hl]
      cases up <;> simp only [ahead] at ih ⊢ <;> omega
  | [], _ :: _, _, h, _, _ => by simp at h
  | _ :: _, [], _, h, _, _ => by simp at h

/-- What the nearest digits are. -/
theorem nx_ok (up : Bool) : ∀ {m : List UInt8} {l : List Int}, okM m → m.length = l.length → digl l →
    match nx up m l with
    | some r => r.length = m.length ∧ digl r ∧ agree m r = true ∧ ahead up (vl l) (vl r) ∧ ∀ e, e.length = m.length → digl e → agree m e = true → ahead up (vl l) (vl e) → ahead up (vl r) (vl e)
    | none => ∀ e, e.length = m.length → digl e → agree m e = true → ¬ ahead up (vl l) (vl e)
  | [], [], _, _, _ => by
    simp only [nx]
    refine ⟨rfl, by intro y hy; simp at hy, rfl, by cases up <;> simp [ahead], ?_⟩
    intro e h1 _ _ _
    simp only [List.length_nil] at h1
    rw [List.eq_nil_of_length_eq_zero h1]
    cases up <;> simp [ahead]
  | c :: m, y :: l, hm, hl, hd => by
    simp only [List.length_cons, Nat.add_right_cancel_iff] at hl
    have ih := nx_ok up (okM_tail hm) hl (digl_tail hd)
    have hy := hd y (by simp)
    have hdl := digl_tail hd
    have hfl := fil_len up m
    have hfd := fil_dig up (okM_tail hm)
    have hlt : ∀ {z w : Int} {a b : List Int}, a.length = m.length → b.length = m.length → digl a → digl b → z < w → vl (z :: a) < vl (w :: b) := fun h1 h2 h3 h4 h5 => vl_lt (by rw [h1, h2]) h3 h4 h5
    have hsame : ∀ (z : Int) {a b : List Int}, a.length = m.length → b.length = m.length → (ahead up (vl (z :: a)) (vl (z :: b)) ↔ ahead up (vl a) (vl b)) := fun z a b h1 h2 => by
      simp only [vl, h1, h2]
      cases up <;> simp only [ahead] <;> omega
    -- whatever is not beyond
    have beh : ∀ {z w : Int} {a b : List Int}, a.length = m.length → b.length = m.length → digl a → digl b → z ≠ w → (ahead up (vl (z :: a)) (vl (w :: b)) ↔ ahead up z w) := fun {z w a b} h1 h2 h3 h4 h5 => by
      rcases Int.lt_trichotomy z w with h | h | h
      · have := hlt h1 h2 h3 h4 h
        cases up <;> simp only [ahead] <;> omega
      · exact absurd h h5
      · have := hlt h2 h1 h4 h3 h
        cases up <;> simp only [ahead] <;> omega
    have cases_e : ∀ e : List Int, e.length = (c :: m).length → ∃ w a, e = w :: a ∧ a.length = m.length := fun e h => by
      match e, h with
      | w :: a, h => exact ⟨w, a, rfl, by simpa using h⟩
    by_cases h88 : c = 88
    · cases hn : nx up m l with
      | some r =>
        rw [hn] at ih
        obtain ⟨i1, i2, i3, i4, i5⟩ := ih
        simp only [nx, if_pos h88, hn]
        refine ⟨by simp [i1], fun z hz => ?_, by simp [agree, h88, i3], (hsame y hl.symm i1).2 i4, fun e e1 e2 e3 e4 => ?_⟩
        · rcases List.mem_cons.1 hz with rfl | hz
          · exact hy
          · exact i2 z hz
        · obtain ⟨w, a, rfl, ha⟩ := cases_e e e1
          simp only [agree, h88, beq_self_eq_true, Bool.true_or, Bool.true_and] at e3
          by_cases hw : y = w
          · subst hw
            exact (hsame y i1 ha).2 (i5 a ha (digl_tail e2) e3 ((hsame y hl.symm ha).1 e4))
          · exact (beh i1 ha i2 (digl_tail e2) hw).2 ((beh hl.symm ha hdl (digl_tail e2) hw).1 e4)
      | none =>
        rw [hn] at ih
        by_cases hlast : y = lst up
        · simp only [nx, if_pos h88, hn, if_pos hlast]
          intro e e1 e2 e3 e4
          obtain ⟨w, a, rfl, ha⟩ := cases_e e e1
          simp only [agree, h88, beq_self_eq_true, Bool.true_or, Bool.true_and] at e3
          have hw9 := e2 w (by simp)
          by_cases hw : y = w
          · subst hw
            exact ih a ha (digl_tail e2) e3 ((hsame y hl.symm ha).1 e4)
          · have := (beh hl.symm ha hdl (digl_tail e2) hw).1 e4
            cases up <;> simp only [ahead, lst, cond_true, cond_false] at this hlast <;> omega
        · simp only [nx, if_pos h88, hn, if_neg hlast]
          have hs : 48 ≤ stp up y ∧ stp up y < 58 ∧ y ≠ stp up y ∧ ahead up y (stp up y) ∧ ∀ w, w ≠ y → ahead up y w → ahead up (stp up y) w := by
            cases up <;> simp only [ahead, lst, stp, cond_true, cond_false] at hlast ⊢ <;> exact ⟨by omega, by omega, by omega, by omega, fun w h1 h2 => by omega⟩
          obtain ⟨s1, s2, s3, s4, s5⟩ := hs
          refine ⟨by simp [hfl], fun z hz => ?_, by simp [agree, h88, fil_agree], (beh hl.symm hfl hdl hfd s3).2 s4, fun e e1 e2 e3 e4 => ?_⟩
          · rcases List.mem_cons.1 hz with rfl | hz
            · exact ⟨s1, s2⟩
            · exact hfd z hz
          · obtain ⟨w, a, rfl, ha⟩ := cases_e e e1
            simp only [agree, h88, beq_self_eq_true, Bool.true_or, Bool.true_and] at e3
            by_cases hw : y = w
            · subst hw
              exact absurd ((hsame y hl.symm ha).1 e4) (ih a ha (digl_tail e2) e3)
            · have h9 := s5 w (fun h => hw h.symm) ((beh hl.symm ha hdl (digl_tail e2) hw).1 e4)
              by_cases hw2 : stp up y = w
              · rw [hw2]
                exact (hsame w hfl ha).2 (fil_best up (okM_tail hm) ha.symm (digl_tail e2) e3)
              · exact (beh hfl ha hfd (digl_tail e2) hw2).2 h9
    · have hcr := ok_range (hm c (by simp)) h88
      have hag : ∀ w a, agree (c :: m) (w :: a) = true → w = ((c.toNat : Nat) : Int) ∧ agree m a = true := fun w a h => by
        simp only [agree, Bool.and_eq_true, Bool.or_eq_true, beq_iff_eq, decide_eq_true_eq] at h
        exact ⟨(h.1.resolve_left h88).symm, h.2⟩
      by_cases hcy : ((c.toNat : Nat) : Int) = y
      · cases hn : nx up m l with
        | some r =>
          rw [hn] at ih
          obtain ⟨i1, i2, i3, i4, i5⟩ := ih
          simp only [nx, if_neg h88, if_pos hcy, hn, Option.map_some]
          refine ⟨by simp [i1], fun z hz => ?_, by simp [agree, hcy, i3], (hsame y hl.symm i1).2 i4, fun e e1 e2 e3 e4 => ?_⟩
          · rcases List.mem_cons.1 hz with rfl | hz
            · exact hy
            · exact i2 z hz
          · obtain ⟨w, a, rfl, ha⟩ := cases_e e e1
            obtain ⟨rfl, e3'⟩ := hag w a e3
            rw [hcy] at e4 ⊢
            exact (hsame y i1 ha).2 (i5 a ha (digl_tail e2) e3' ((hsame y hl.symm ha).1 e4))
        | none =>
          rw [hn] at ih
          simp only [nx, if_neg h88, if_pos hcy, hn, Option.map_none]
          intro e e1 e2 e3 e4
          obtain ⟨w, a, rfl, ha⟩ := cases_e e e1
          obtain ⟨rfl, e3'⟩ := hag w a e3
          rw [hcy] at e4
          exact ih a ha (digl_tail e2) e3' ((hsame y hl.symm ha).1 e4)
      · have hdir : decide (((c.toNat : Nat) : Int) > y) = up ↔ ahead up y ((c.toNat : Nat) : Int) := by
          cases up
          · simp only [decide_eq_false_iff_not, ahead]; omega
          · simp only [decide_eq_true_eq, ahead]; omega
        by_cases hup : decide (((c.toNat : Nat) : Int) > y) = up
        · simp only [nx, if_neg h88, if_neg hcy, if_pos hup]
          refine ⟨by simp [hfl], fun z hz => ?_, by simp [agree, fil_agree], (beh hl.symm hfl hdl hfd (fun h => hcy h.symm)).2 (hdir.1 hup), fun e e1 e2 e3 e4 => ?_⟩
          · rcases List.mem_cons.1 hz with rfl | hz
            · exact hcr
            · exact hfd z hz
          · obtain ⟨w, a, rfl, ha⟩ := cases_e e e1
            obtain ⟨rfl, e3'⟩ := hag w a e3
            exact (hsame _ hfl ha).2 (fil_best up (okM_tail hm) ha.symm (digl_tail e2) e3')
        · simp only [nx, if_neg h88, if_neg hcy, if_neg hup]
          intro e e1 e2 e3 e4
          obtain ⟨w, a, rfl, ha⟩ := cases_e e e1
          obtain ⟨rfl, e3'⟩ := hag w a e3
          exact hup (hdir.2 ((beh hl.symm ha hdl (digl_tail e2) (fun h => hcy h.symm)).1 e4))
  | [], _ :: _, _, h, _ => by simp at h
  | _ :: _, [], _, h, _ => by simp at h

end Go.Sh
