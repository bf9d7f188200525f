/- Chapter 14: bytes of digits: counts, sets, trims.
   Conditions: none. -/
import Derived.Test.YtbghdnhhpanidaaGreatDoorLawStr
set_option linter.unusedSimpArgs false
set_option linter.unusedVariables false
namespace Go.Sh
open Go.Abs

/-! ### Counts -/

def inR (lo hi : Int) (c : UInt8) : Bool := decide (((c.toNat : Nat) : Int) ≥ lo) && decide (((c.toNat : Nat) : Int) ≤ hi)

def cnt (lo hi : Int) (l : List UInt8) : Nat := l.countP (inR lo hi)

theorem cnt_le (lo hi : Int) (l : List UInt8) : cnt lo hi l ≤ l.length := List.countP_le_length

theorem cnt_take (lo hi : Int) {l : List UInt8} {i : Nat} {c : UInt8} (h : l[i]? = some c) : cnt lo hi (l.take (i + 1)) = cnt lo hi (l.take i) + if inR lo hi c then 1 else 0 := by
  unfold cnt
  rw [List.take_add_one, h, List.countP_append]
  simp [List.countP_cons]

theorem has_eq (n : Nat) (s : List UInt8) (lo hi : Int) (hs : s.length < n) (hb : s.length < 100000) : circaref14_has n s lo hi = some ((cnt lo hi s : Nat) : Int) := by
  have := iterL_inv (step := circaref14_has_l0 n) (fun x => ∃ i : Nat, i ≤ s.length ∧ x = (s, lo, hi, ((cnt lo hi (s.take i) : Nat) : Int), (i : Int))) (fun x => s.length - x.2.2.2.2.toNat) (fun _ => ((cnt lo hi s : Nat) : Int)) ?_ n (s, lo, hi, 0, 0) ⟨0, by omega, by simp [cnt]⟩ (by simp; omega)
  · simp only [circaref14_has, this, ob]
  rintro x ⟨i, hi', rfl⟩
  rcases Nat.lt_or_ge i s.length with hlt | hge
  · obtain ⟨c, hc⟩ : ∃ c, s[i]? = some c := ⟨s[i], List.getElem?_eq_getElem hlt⟩
    have hct := cnt_take lo hi hc
    have hle := cnt_le lo hi (s.take i)
    rw [List.length_take] at hle
    have w1 : IntKind.wrap .i64 ((i : Int) + 1) = ((i + 1 : Nat) : Int) := by rw [wrap_i64 _ (by omega) (by omega)]; omega
    have w2 : IntKind.wrap .i64 (((cnt lo hi (s.take i) : Nat) : Int) + 1) = ((cnt lo hi (s.take i) + 1 : Nat) : Int) := by rw [wrap_i64 _ (by omega) (by omega)]; omega
    refine .inl ⟨(s, lo, hi, ((cnt lo hi (s.take (i + 1)) : Nat) : Int), ((i + 1 : Nat) : Int)), ?_, ⟨i + 1, hlt, rfl⟩, by simp only [Int.toNat_natCast]; omega, rfl⟩
    simp only [circaref14_has_l0, nat_dec_lt, hlt, decide_true, cond_true, sx_nat hc, ob, w1, w2]
    rw [hct]
    by_cases h1 : ((c.toNat : Nat) : Int) ≥ lo
    · by_cases h2 : ((c.toNat : Nat) : Int) ≤ hi
      · simp [h1, h2, inR]
      · simp [h1, h2, inR]
    · simp [h1, inR]
  · have : i = s.length := by omega
    subst this
    refine .inr ?_
    simp only [circaref14_has_l0, nat_dec_lt, Nat.lt_irrefl, decide_false, cond_false, List.take_length]

theorem cnt_all (lo hi : Int) (l : List UInt8) : cnt lo hi l = l.length ↔ ∀ c ∈ l, inR lo hi c = true := by
  unfold cnt
  rw [List.countP_eq_length]

theorem cnt_zero (lo hi : Int) (l : List UInt8) : cnt lo hi l = 0 ↔ ∀ c ∈ l, inR lo hi c = false := by
  unfold cnt
  rw [List.countP_eq_zero]
  simp

/-- A digit. -/
def isDig (c : UInt8) : Bool := inR 48 57 c

theorem isDig_iff (c : UInt8) : isDig c = true ↔ 48 ≤ c.toNat ∧ c.toNat ≤ 57 := by
  unfold isDig inR
  simp only [Bool.and_eq_true, decide_eq_true_eq]
  omega

theorem inX_iff (c : UInt8) : inR 88 88 c = true ↔ c = 88 := by
  unfold inR
  simp only [Bool.and_eq_true, decide_eq_true_eq]
  constructor
  · intro h
    apply UInt8.toNat_inj.1
    show c.toNat = 88
    omega
  · rintro rfl; decide

theorem in0_iff (c : UInt8) : inR 48 48 c = true ↔ c = 48 := by
  unfold inR
  simp only [Bool.and_eq_true, decide_eq_true_eq]
  constructor
  · intro h
    apply UInt8.toNat_inj.1
    show c.toNat = 48
    omega
  · rintro rfl; decide

/-- Digits and X alone. -/
theorem cnt_sum : ∀ l : List UInt8, cnt 48 57 l + cnt 88 88 l ≤ l.length ∧ (cnt 48 57 l + cnt 88 88 l = l.length ↔ ∀ c ∈ l, isDig c = true ∨ c = 88)
  | [] => by simp [cnt]
  | c :: l => by
    have ih := cnt_sum l
    have e1 : cnt 48 57 (c :: l) = cnt 48 57 l + if inR 48 57 c then 1 else 0 := by simp [cnt, List.countP_cons]
    have e2 : cnt 88 88 (c :: l) = cnt 88 88 l + if inR 88 88 c then 1 else 0 := by simp [cnt, List.countP_cons]
    have hd : ¬ (inR 48 57 c = true ∧ inR 88 88 c = true) := by
      rintro ⟨h1, h2⟩
      have := (isDig_iff c).1 h1
      rw [(inX_iff c).1 h2] at this
      exact absurd this.2 (by decide)
    rw [e1, e2, List.length_cons]
    simp only [List.mem_cons, forall_eq_or_imp]
    have hx := inX_iff c
    have hg : isDig c = inR 48 57 c := rfl
    rw [hg]
    cases h1 : inR 48 57 c <;> cases h2 : inR 88 88 c
    · simp only [h1, h2] at hx ⊢
      have : c ≠ 88 := fun e => by simpa using hx.2 e
      simp [this]; omega
    · simp only [h1, h2] at hx ⊢
      have : c = 88 := hx.1 trivial
      simp only [this, Bool.false_eq_true, if_true, if_false, false_or, true_and]
      rw [← ih.2]
      omega
    · simp only [h1, h2] at hx ⊢
      simp only [Bool.false_eq_true, if_true, if_false, true_or, true_and]
      rw [← ih.2]
      omega
    · exact absurd ⟨h1, h2⟩ hd

/-! ### Only bytes of a set -/

theorem only_loop (n : Nat) (s set : List UInt8) (ha : asc set) (hn : set.length < n) (hl : set.length ≤ 100) (hs : s.length < n) :
    ∃ y, iterL (strings_indexFunc_l0 n) n (true, set, s, 0) = some y ∧ ((y = .inr () ∧ s.all (hasB set) = true) ∨ ∃ i : Nat, y = .inl (i : Int) ∧ s.all (hasB set) = false) := by
  refine iterL_prop (step := strings_indexFunc_l0 n) (fun x => x.1 = true ∧ x.2.1 = set ∧ x.2.2.1 = s ∧ s.all (hasB set) = (s.drop x.2.2.2).all (hasB set)) (fun x => s.length - x.2.2.2) _ ?_ n _ ⟨rfl, rfl, rfl, rfl⟩ (by simp only; omega)
  rintro ⟨b, st, s', p⟩ ⟨hb, hst, hs', hall⟩
  simp only at hb hst hs' hall
  rw [hb, hst, hs']
  clear hb hst hs' b st s'
  rcases Nat.lt_or_ge p s.length with hlt | hge
  · obtain ⟨c, hc⟩ : ∃ c, s[p]? = some c := ⟨s[p], List.getElem?_eq_getElem hlt⟩
    have hbl : Nat.blt p s.length = true := Nat.ble_eq_true_of_le hlt
    rw [drop_get hc, List.all_cons] at hall
    rcases Nat.lt_or_ge c.toNat 128 with h128 | h128
    · have hd := dec_low hc h128
      simp only [strings_indexFunc_l0, hbl, cond_true, yearforms_only_1, hd, containsRune_low n set c h128, ob]
      cases hh : hasB set c with
      | true =>
        rw [hh, Bool.true_and] at hall
        exact .inl ⟨_, rfl, ⟨rfl, rfl, rfl, hall⟩, by simp only; omega⟩
      | false =>
        rw [hh, Bool.false_and] at hall
        exact .inr ⟨_, rfl, .inr ⟨p, rfl, hall⟩⟩
    · have hd := dec_high hc h128
      have hh : hasB set c = false := by
        unfold hasB
        rw [List.any_eq_false]
        intro x hx he
        simp only [beq_iff_eq] at he
        have := ha x hx
        rw [he] at this
        omega
      rw [hh, Bool.false_and] at hall
      have hcr := containsRune_hi n set ha hn hl (((dec s p).1 : Nat) : Int) (by omega)
      simp only [strings_indexFunc_l0, hbl, cond_true, yearforms_only_1, hcr, ob]
      exact .inr ⟨_, rfl, .inr ⟨p, rfl, hall⟩⟩
  · have hbl : Nat.blt p s.length = false := by
      cases hb : Nat.blt p s.length with
      | false => rfl
      | true => exact absurd (Nat.le_of_ble_eq_true hb) (by omega)
    simp only [strings_indexFunc_l0, hbl, cond_false]
    rw [List.drop_eq_nil_of_le hge] at hall
    exact .inr ⟨_, rfl, .inl ⟨rfl, by rw [hall]; rfl⟩⟩

theorem only_eq (n : Nat) (s set : List UInt8) (ha : asc set) (hn : set.length < n) (hl : set.length ≤ 100) (hs : s.length < n) : yearforms_only n s set = some (s.all (hasB set)) := by
  obtain ⟨y, h1, h2⟩ := only_loop n s set ha hn hl hs
  simp only [yearforms_only, strings_IndexFunc, strings_indexFunc, h1, ob]
  rcases h2 with ⟨rfl, h3⟩ | ⟨i, rfl, h3⟩
  · rw [h3]; rfl
  · rw [h3]
    simp only [Option.some.injEq, decide_eq_false_iff_not]
    omega

theorem digs_asc : asc [48, 49, 50, 51, 52, 53, 54, 55, 56, 57] := by unfold asc; decide
theorem digsX_asc : asc [88, 48, 49, 50, 51, 52, 53, 54, 55, 56, 57] := by unfold asc; decide

theorem u8_forall (p : UInt8 → Bool) (h : ∀ i : Fin 256, p (UInt8.ofNat i.val) = true) (c : UInt8) : p c = true := by
  have := h ⟨c.toNat, c.toNat_lt⟩
  simpa using this

theorem hasB_digs (c : UInt8) : hasB [48, 49, 50, 51, 52, 53, 54, 55, 56, 57] c = isDig c := by
  have := u8_forall (fun c => hasB [48, 49, 50, 51, 52, 53, 54, 55, 56, 57] c == isDig c) (by decide +kernel) c
  simpa using this

theorem hasB_digsX (c : UInt8) : hasB [88, 48, 49, 50, 51, 52, 53, 54, 55, 56, 57] c = (isDig c || c == 88) := by
  have := u8_forall (fun c => hasB [88, 48, 49, 50, 51, 52, 53, 54, 55, 56, 57] c == (isDig c || c == 88)) (by decide +kernel) c
  simpa using this

theorem only_digs (n : Nat) (s : List UInt8) (hn : 100 < n) (hs : s.length < n) : yearforms_only n s [48, 49, 50, 51, 52, 53, 54, 55, 56, 57] = some (s.all isDig) := by
  rw [only_eq n s _ digs_asc (by simp; omega) (by simp) hs]
  congr 2
  funext c
  exact hasB_digs c

theorem only_digsX (n : Nat) (s : List UInt8) (hn : 100 < n) (hs : s.length < n) : yearforms_only n s [88, 48, 49, 50, 51, 52, 53, 54, 55, 56, 57] = some (s.all fun c => isDig c || c == 88) := by
  rw [only_eq n s _ digsX_asc (by simp; omega) (by simp) hs]
  congr 2
  funext c
  exact hasB_digsX c

/-! ### Trims -/

def all0 (s : List UInt8) : Bool := s.all fun c => c == 48

theorem trimR (n : Nat) (s : List UInt8) (hs : s.length < n) (hb : s.length < 100000) : ∃ y, strings_trimRightByte n s 48 = some y ∧ all0 s = all0 y ∧ y.length ≤ s.length := by
  obtain ⟨y, h1, h2⟩ := iterL_prop (step := strings_trimRightByte_l0 n) (fun x => x.2 = 48 ∧ all0 s = all0 x.1 ∧ x.1.length ≤ s.length) (fun x => x.1.length) (fun y => all0 s = all0 y ∧ y.length ≤ s.length) (by
    rintro ⟨l, c⟩ ⟨rfl, h, hl⟩
    simp only at h hl
    by_cases h0 : l.length > 0
    · have d0 : decide (((l.length : Nat) : Int) > 0) = true := decide_eq_true (by omega)
      have w1 : IntKind.wrap .i64 (((l.length : Nat) : Int) - 1) = ((l.length - 1 : Nat) : Int) := by rw [wrap_i64 _ (by omega) (by omega)]; omega
      obtain ⟨c, hc⟩ : ∃ c, l[l.length - 1]? = some c := ⟨l[l.length - 1], List.getElem?_eq_getElem (by omega)⟩
      simp only [strings_trimRightByte_l0, d0, cond_true, w1, sx_nat hc, ob]
      by_cases he : c = 48
      · have e1 : (((c.toNat : Nat) : Int) == 48) = true := by rw [he]; rfl
        simp only [e1, cond_true, bx_nat (show l.length - 1 ≤ l.length by omega), List.drop_zero]
        refine .inl ⟨(List.take (l.length - 1) l, 48), rfl, ⟨rfl, ?_, by show (List.take (l.length - 1) l).length ≤ s.length; rw [List.length_take]; omega⟩, by show (List.take (l.length - 1) l).length < l.length; rw [List.length_take]; omega⟩
        rw [h]
        have : l = l.take (l.length - 1) ++ [c] := by
          have h2 := List.take_add_one (l := l) (i := l.length - 1)
          rw [hc, show l.length - 1 + 1 = l.length by omega, List.take_length] at h2
          exact h2
        rw [this]
        simp only [all0, List.all_append, List.all_cons, List.all_nil, he]
        simp
      · have e1 : (((c.toNat : Nat) : Int) == 48) = false := by
          rw [beq_eq_false_iff_ne]
          intro e
          exact he (UInt8.toNat_inj.1 (by show c.toNat = 48; omega))
        simp only [e1, cond_false]
        exact .inr ⟨_, rfl, h, hl⟩
    · have d0 : decide (((l.length : Nat) : Int) > 0) = false := decide_eq_false (by omega)
      simp only [strings_trimRightByte_l0, d0, cond_false]
      exact .inr ⟨_, rfl, h, hl⟩) n (s, 48) ⟨rfl, rfl, Nat.le_refl _⟩ hs
  exact ⟨y, by simp only [strings_trimRightByte, h1, ob], h2⟩

theorem trimL (n : Nat) (s : List UInt8) (hs : s.length < n) (hb : s.length < 100000) : ∃ y, strings_trimLeftByte n s 48 = some y ∧ all0 s = (y == []) := by
  obtain ⟨y, h1, h2⟩ := iterL_prop (step := strings_trimLeftByte_l0 n) (fun x => x.2 = 48 ∧ all0 s = all0 x.1 ∧ x.1.length ≤ s.length) (fun x => x.1.length) (fun y => all0 s = (y == [])) (by
    rintro ⟨l, c⟩ ⟨rfl, h, hl⟩
    simp only at h hl
    cases l with
    | nil => exact .inr ⟨[], rfl, by rw [h]; rfl⟩
    | cons c l =>
      have d0 : decide ((((c :: l).length : Nat) : Int) > 0) = true := decide_eq_true (by simp only [List.length_cons]; omega)
      have hc : sx (c :: l) 0 = some c := by simp [sx]
      simp only [strings_trimLeftByte_l0, d0, cond_true, hc, ob]
      by_cases he : c = 48
      · have e1 : (((c.toNat : Nat) : Int) == 48) = true := by rw [he]; rfl
        have hbx : bx (c :: l).length 1 = some 1 := bx_nat (i := 1) (by simp)
        simp only [e1, cond_true, hbx, List.take_length, List.drop_succ_cons, List.drop_zero]
        refine .inl ⟨_, rfl, ⟨rfl, ?_, by show l.length ≤ s.length; simp only [List.length_cons] at hl; omega⟩, by simp⟩
        rw [h]
        simp [all0, he]
      · have e1 : (((c.toNat : Nat) : Int) == 48) = false := by
          rw [beq_eq_false_iff_ne]
          intro e
          exact he (UInt8.toNat_inj.1 (by show c.toNat = 48; omega))
        simp only [e1, cond_false]
        refine .inr ⟨_, rfl, ?_⟩
        rw [h]
        have e2 : (c == 48) = false := beq_eq_false_iff_ne.2 he
        simp [all0, e2]) n (s, 48) ⟨rfl, rfl, Nat.le_refl _⟩ hs
  exact ⟨y, by simp only [strings_trimLeftByte, h1, ob], h2⟩

theorem trim_eq (n : Nat) (s : List UInt8) (hs : s.length < n) (hb : s.length < 100000) : ∃ y, strings_Trim n s = some y ∧ (y == []) = all0 s := by
  unfold strings_Trim
  by_cases h : s = []
  · subst h; exact ⟨[], rfl, rfl⟩
  · have : (s == ([] : List UInt8)) = false := beq_eq_false_iff_ne.2 h
    obtain ⟨y, h1, h2, h3⟩ := trimR n s hs hb
    obtain ⟨z, h4, h5⟩ := trimL n y (by omega) (by omega)
    exact ⟨z, by simp only [this, cond_false, h1, h4, ob], by rw [h2, h5]⟩

theorem all0_cnt (s : List UInt8) : all0 s = true ↔ cnt 48 48 s = s.length := by
  rw [cnt_all]
  unfold all0
  rw [List.all_eq_true]
  constructor
  · intro h c hc
    have := h c hc
    rw [beq_iff_eq] at this
    exact (in0_iff c).2 this
  · intro h c hc
    rw [beq_iff_eq]
    exact (in0_iff c).1 (h c hc)

/-! ### X -/

def hasX (s : List UInt8) : Bool := s.any fun c => c == 88

theorem hasX_cnt (s : List UInt8) : hasX s = decide (0 < cnt 88 88 s) := by
  have := cnt_zero 88 88 s
  unfold hasX
  cases h : s.any fun c => c == 88 with
  | true =>
    obtain ⟨c, hc, he⟩ := List.any_eq_true.1 h
    rw [beq_iff_eq] at he
    symm
    rw [decide_eq_true_eq]
    rcases Nat.eq_zero_or_pos (cnt 88 88 s) with h0 | h0
    · have := this.1 h0 c hc
      rw [(inX_iff c).2 he] at this
      cases this
    · exact h0
  | false =>
    symm
    rw [decide_eq_false_iff_not]
    intro h0
    have : cnt 88 88 s = 0 := this.2 fun c hc => by
      cases hx : inR 88 88 c with
      | false => rfl
      | true =>
        rw [List.any_eq_false] at h
        exact absurd (beq_iff_eq.2 ((inX_iff c).1 hx)) (h c hc)
    omega

theorem containsX (n : Nat) (s : List UInt8) : strings_Contains n s = some (hasX s) := by
  have e : UInt8.ofNat (Int.toNat 88) = (88 : UInt8) := rfl
  have hi : strings_Index n s = some (Lib.indexByte s 88) := by
    simp only [strings_Index, int_stringslite_Index, int_stringslite_IndexByte, ob, e]
    by_cases h : ([88] : List UInt8) = s
    · subst h; rfl
    · have : (([88] : List UInt8) == s) = false := beq_eq_false_iff_ne.2 h
      simp only [this, cond_false]
  simp only [strings_Contains, hi, ob, indexByte_pos]
  rfl

theorem yf_Masked (n : Nat) (g l : Bool) (d : List UInt8) (x q : Int) : yearforms_Masked n g l d x q = some (hasX d) := by
  simp only [yearforms_Masked, containsX, ob]

theorem ref_Masked (n : Nat) (g l : Bool) (d : List UInt8) (x q : Int) (hs : d.length < n) (hb : d.length < 100000) : circaref14_Masked n g l d x q = some (if hasX d then 1 else 0) := by
  simp only [circaref14_Masked, has_eq n d 88 88 hs hb, ob, hasX_cnt, decide_eq_true_eq]
  by_cases h : 0 < cnt 88 88 d
  · have : decide (((cnt 88 88 d : Nat) : Int) < 1) = false := decide_eq_false (by omega)
    simp [this, h]
  · have : decide (((cnt 88 88 d : Nat) : Int) < 1) = true := decide_eq_true (by omega)
    have h0 : cnt 88 88 d = 0 := by omega
    simp [this, h0]

end Go.Sh
