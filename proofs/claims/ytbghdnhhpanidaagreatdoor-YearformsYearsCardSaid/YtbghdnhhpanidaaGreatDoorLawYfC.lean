/- Chapter 14: which years are right.
   Conditions: none. -/
import Derived.Test.YtbghdnhhpanidaaGreatDoorLawYfB
set_option linter.unusedSimpArgs false
set_option linter.unusedVariables false
namespace Go.Sh
open Go.Abs

/-- Long years, but for Sig. -/
def okM (d : List UInt8) (x : Int) : Prop := (∀ c ∈ d, isDig c = true) ∧ 1 ≤ d.length ∧ d.length ≤ 17 ∧ d.head? ≠ some 48 ∧ 0 ≤ x ∧ x ≤ 16 ∧ ¬ (x = 0 ∧ d.length < 5) ∧ dval 0 d * 10 ^ x.toNat ≤ E16

def okL (d : List UInt8) (x s : Int) : Prop := okM d x ∧ 0 ≤ s ∧ s ≤ (d.length : Int) + x

def okS (g : Bool) (d : List UInt8) (x s : Int) : Prop := d.length = 4 ∧ (∀ c ∈ d, isDig c = true ∨ c = 88) ∧ x = 0 ∧ ¬ (g = true ∧ all0 d = true) ∧ 0 ≤ s ∧ s ≤ 4 ∧ ¬ (0 < s ∧ hasX d = true)

/-- Years that are right. -/
def okY (g l : Bool) (d : List UInt8) (x s : Int) : Prop := if l = true then okL d x s else okS g d x s

instance (d : List UInt8) (x : Int) : Decidable (okM d x) := by unfold okM; infer_instance
instance (d : List UInt8) (x s : Int) : Decidable (okL d x s) := by unfold okL; infer_instance
instance (g : Bool) (d : List UInt8) (x s : Int) : Decidable (okS g d x s) := by unfold okS; infer_instance
instance (g l : Bool) (d : List UInt8) (x s : Int) : Decidable (okY g l d x s) := by unfold okY; infer_instance

theorem all_dig (d : List UInt8) : d.all isDig = true ↔ ∀ c ∈ d, isDig c = true := List.all_eq_true

theorem all_digX (d : List UInt8) : (d.all fun c => isDig c || c == 88) = true ↔ ∀ c ∈ d, isDig c = true ∨ c = 88 := by
  rw [List.all_eq_true]
  constructor
  · intro h c hc
    have := h c hc
    simpa using this
  · intro h c hc
    have := h c hc
    simpa using this

theorem u8_48 (c : UInt8) : (((c.toNat : Nat) : Int) == 48) = (c == 48) := u8_beq c 48

theorem long_eq (n : Nat) (g l : Bool) (d : List UInt8) (x s : Int) (hn : 200 < n) (hd : d.length ≤ 100) : yearforms_checkLong n g l d x s = some (decide (okM d x)) := by
  unfold yearforms_checkLong
  by_cases h1 : d.length < 1
  · have e : decide (((d.length : Nat) : Int) < 1) = true := decide_eq_true (by omega)
    rw [e, decide_eq_false (fun h : okM d x => by have := h.2.1; omega)]; rfl
  · have e : decide (((d.length : Nat) : Int) < 1) = false := decide_eq_false (by omega)
    rw [e, cond_false]
    by_cases h2 : d.length > 17
    · have e : decide (((d.length : Nat) : Int) > 17) = true := decide_eq_true (by omega)
      rw [e, decide_eq_false (fun h : okM d x => by have := h.2.2.1; omega)]; rfl
    · have e : decide (((d.length : Nat) : Int) > 17) = false := decide_eq_false (by omega)
      rw [e, cond_false, only_digs n d (by omega) (by omega)]
      simp only [ob]
      cases h3 : d.all isDig with
      | false =>
        rw [decide_eq_false (fun h : okM d x => by rw [(all_dig d).2 h.1] at h3; cases h3)]; rfl
      | true =>
        have hdig := (all_dig d).1 h3
        obtain ⟨c, r, rfl⟩ : ∃ c r, d = c :: r := by
          cases d with
          | nil => simp at h1
          | cons c r => exact ⟨c, r, rfl⟩
        have hsx : sx (c :: r) 0 = some c := by simp [sx]
        simp only [Bool.not_true, cond_false, hsx, u8_48]
        by_cases h4 : c = 48
        · rw [decide_eq_false (fun h : okM (c :: r) x => h.2.2.2.1 (by rw [h4]; rfl)), h4]; rfl
        · have e : (c == 48) = false := beq_eq_false_iff_ne.2 h4
          rw [e, cond_false]
          by_cases h5 : x < 0
          · rw [decide_eq_true h5, decide_eq_false (fun h : okM (c :: r) x => by have := h.2.2.2.2.1; omega)]; rfl
          · rw [decide_eq_false h5, cond_false]
            by_cases h6 : x > 16
            · rw [decide_eq_true h6, decide_eq_false (fun h : okM (c :: r) x => by have := h.2.2.2.2.2.1; omega)]; rfl
            · rw [decide_eq_false h6, cond_false]
              obtain ⟨k, rfl⟩ : ∃ k : Nat, x = (k : Int) := ⟨x.toNat, by omega⟩
              have hmg := magn_eq n g l (c :: r) k s hdig (by simp) (by omega) (by omega) (by omega)
              rw [hmg]
              have key : ¬ ((k : Int) = 0 ∧ (c :: r).length < 5) → (okM (c :: r) (k : Int) ↔ dval 0 (c :: r) * 10 ^ k ≤ E16) := by
                intro hk
                constructor
                · intro h
                  simpa using h.2.2.2.2.2.2.2
                · intro h
                  exact ⟨hdig, by omega, by omega, by simpa using h4, by omega, by omega, hk, by simpa using h⟩
              have fin : ¬ ((k : Int) = 0 ∧ (c :: r).length < 5) → (ob (some (if dval 0 (c :: r) * 10 ^ k ≤ E16 then (((dval 0 (c :: r) * 10 ^ k : Nat) : Int), (0 : Int)) else (0, 6))) fun q => (some (q.2 == 0))) = some (decide (okM (c :: r) (k : Int))) := by
                intro hk
                by_cases h7 : dval 0 (c :: r) * 10 ^ k ≤ E16
                · rw [if_pos h7, decide_eq_true ((key hk).2 h7)]; rfl
                · rw [if_neg h7, decide_eq_false (fun h => h7 ((key hk).1 h))]; rfl
              by_cases h8 : (k : Int) = 0
              · have e : ((k : Int) == 0) = true := beq_iff_eq.2 h8
                rw [e, cond_true]
                by_cases h9 : (c :: r).length < 5
                · have e : decide ((((c :: r).length : Nat) : Int) < 5) = true := decide_eq_true (by omega)
                  rw [e, decide_eq_false (fun h : okM (c :: r) (k : Int) => h.2.2.2.2.2.2.1 ⟨h8, h9⟩)]; rfl
                · have e : decide ((((c :: r).length : Nat) : Int) < 5) = false := decide_eq_false (by omega)
                  rw [e, cond_false]
                  exact fin (fun h => h9 h.2)
              · have e : ((k : Int) == 0) = false := beq_eq_false_iff_ne.2 h8
                rw [e, cond_false]
                exact fin (fun h => h8 h.1)

theorem sig_tail (n : Nat) (g l : Bool) (d : List UInt8) (x s : Int) (hn : 200 < n) (hd : d.length ≤ 100) :
    (ob (yearforms_checkLong n g l d x s) fun r => (cond (!r) (some (6 : Int)) (cond (decide (s < 0)) (some 6) (cond (decide (s > (IntKind.wrap .i64 (((d.length : Nat) : Int) + x)))) (some 6) (some 0))))) = some (if okL d x s then 0 else 6) := by
  rw [long_eq n g l d x s hn hd]
  simp only [ob]
  by_cases h : okM d x
  · rw [decide_eq_true h]
    have hx := h.2.2.2.2
    have w : IntKind.wrap .i64 (((d.length : Nat) : Int) + x) = ((d.length : Nat) : Int) + x := wrap_i64 _ (by omega) (by omega)
    rw [w]
    simp only [Bool.not_true, cond_false, cond_dec]
    by_cases h1 : s < 0
    · rw [if_pos h1, if_neg (fun q : okL d x s => by have := q.2.1; omega)]
    · rw [if_neg h1]
      by_cases h2 : s > ((d.length : Nat) : Int) + x
      · rw [if_pos h2, if_neg (fun q : okL d x s => by have := q.2.2; omega)]
      · rw [if_neg h2, if_pos ⟨h, by omega, by omega⟩]
  · rw [decide_eq_false h, if_neg (fun q : okL d x s => h q.1)]; rfl

theorem yf_Check (n : Nat) (g l : Bool) (d : List UInt8) (x s : Int) (hn : 200 < n) (hd : d.length ≤ 100) : yearforms_Check n g l d x s = some (if okY g l d x s then 0 else 6) := by
  obtain ⟨y, ht, hy⟩ := trim_eq n d (by omega) (by omega)
  unfold yearforms_Check
  rw [only_digsX n d (by omega) (by omega), ht, yf_Masked]
  cases l with
  | true =>
    have hok : (if okY g true d x s then (0 : Int) else 6) = if okL d x s then 0 else 6 := by simp only [okY, if_true]
    rw [hok]
    have st := sig_tail n g true d x s hn hd
    simp only [cond_true]
    generalize (ob (yearforms_checkLong n g true d x s) fun r => (cond (!r) (some (6 : Int)) (cond (decide (s < 0)) (some 6) (cond (decide (s > (IntKind.wrap .i64 (((d.length : Nat) : Int) + x)))) (some 6) (some 0))))) = T at st ⊢
    simp only [ob]
    rw [st]
    cases (((d.length : Nat) : Int) == 4) <;> cases (d.all fun c => isDig c || c == 88) <;> cases (x == 0) <;> cases g <;> cases (y == []) <;> cases (s != 0) <;> rfl
  | false =>
    have hok : (if okY g false d x s then (0 : Int) else 6) = if okS g d x s then 0 else 6 := by simp only [okY, Bool.false_eq_true, if_false]
    rw [hok]
    simp only [cond_false, ob]
    by_cases h1 : d.length = 4
    · have e1 : (((d.length : Nat) : Int) == 4) = true := beq_iff_eq.2 (by omega)
      rw [e1, cond_true]
      cases h2 : (d.all fun c => isDig c || c == 88) with
      | false =>
        rw [if_neg (fun q : okS g d x s => by rw [(all_digX d).2 q.2.1] at h2; cases h2)]; rfl
      | true =>
        have hdX := (all_digX d).1 h2
        rw [cond_true]
        by_cases h3 : x = 0
        · subst h3
          have w : IntKind.wrap .i64 (((d.length : Nat) : Int) + 0) = 4 := by rw [h1]; decide
          rw [w]
          have tail : ¬ (g = true ∧ all0 d = true) → (cond (s != 0) (cond (!(!hasX d)) (some (6 : Int)) (cond (decide (s < 0)) (some 6) (cond (decide (s > 4)) (some 6) (some 0)))) (cond (decide (s < 0)) (some 6) (cond (decide (s > 4)) (some 6) (some 0)))) = some (if okS g d 0 s then 0 else 6) := by
            intro hg
            simp only [cond_dec, cond_bne, Bool.not_not]
            by_cases s0 : s = 0
            · subst s0
              rw [if_pos rfl, if_neg (by omega), if_neg (by omega), if_pos ⟨h1, hdX, rfl, hg, by omega, by omega, by omega⟩]
            · rw [if_neg s0]
              cases hX : hasX d with
              | true =>
                by_cases s1 : s < 0
                · rw [if_neg (fun q : okS g d 0 s => by have := q.2.2.2.2.1; omega)]; rfl
                · rw [if_neg (fun q : okS g d 0 s => q.2.2.2.2.2.2 ⟨by omega, hX⟩)]; rfl
              | false =>
                rw [cond_false]
                by_cases s1 : s < 0
                · rw [if_pos s1, if_neg (fun q : okS g d 0 s => by have := q.2.2.2.2.1; omega)]
                · rw [if_neg s1]
                  by_cases s2 : s > 4
                  · rw [if_pos s2, if_neg (fun q : okS g d 0 s => by have := q.2.2.2.2.2.1; omega)]
                  · rw [if_neg s2, if_pos ⟨h1, hdX, rfl, hg, by omega, by omega, fun q => by rw [hX] at q; cases q.2⟩]
          have e3 : ((0 : Int) == 0) = true := rfl
          rw [e3, cond_true]
          cases g with
          | false =>
            simp only [cond_false]
            exact tail (by simp)
          | true =>
            simp only [cond_true]
            rw [hy]
            cases h4 : all0 d with
            | true => rw [if_neg (fun q : okS true d 0 s => q.2.2.2.1 ⟨rfl, h4⟩)]; rfl
            | false =>
              simp only [Bool.not_false, cond_true]
              exact tail (by rw [h4]; simp)
        · have e3 : (x == 0) = false := beq_eq_false_iff_ne.2 h3
          rw [e3, if_neg (fun q : okS g d x s => h3 q.2.2.1)]; rfl
    · have e1 : (((d.length : Nat) : Int) == 4) = false := beq_eq_false_iff_ne.2 (by omega)
      rw [e1, if_neg (fun q : okS g d x s => h1 q.1)]; rfl

theorem cnt_dig (d : List UInt8) : cnt 48 57 d = d.length ↔ ∀ c ∈ d, isDig c = true := cnt_all 48 57 d

theorem ref_Check (n : Nat) (g l : Bool) (d : List UInt8) (x s : Int) (hn : 200 < n) (hd : d.length ≤ 100) : circaref14_Check n g l d x s = some (if okY g l d x s then 1 else 0) := by
  have hs := cnt_sum d
  have hXc := hasX_cnt d
  have h0c := all0_cnt d
  have hDc := cnt_dig d
  unfold circaref14_Check
  rw [has_eq n d 48 57 (by omega) (by omega), has_eq n d 88 88 (by omega) (by omega), has_eq n d 48 48 (by omega) (by omega)]
  simp only [ob]
  generalize hA : cnt 48 57 d = A at *
  generalize hB : cnt 88 88 d = B at *
  have w0 : IntKind.wrap .i64 (((A : Nat) : Int) + ((B : Nat) : Int)) = ((A + B : Nat) : Int) := by rw [wrap_i64 _ (by omega) (by omega)]; omega
  rw [w0]
  simp only [cond_bne, cond_dec, cond_neg]
  by_cases h1 : A + B = d.length
  · rw [if_pos (by omega)]
    have hdX := hs.2.1 h1
    by_cases h2 : s < 0
    · rw [if_pos h2, if_neg]
      intro q
      unfold okY at q
      split at q
      · have := q.2.1; omega
      · have := q.2.2.2.2.1; omega
    · rw [if_neg h2]
      cases l with
      | false =>
        have hok : (if okY g false d x s then (1 : Int) else 0) = if okS g d x s then 1 else 0 := by simp only [okY, Bool.false_eq_true, if_false]
        rw [hok, cond_false]
        by_cases h3 : d.length = 4
        · rw [if_pos (by omega)]
          by_cases h4 : x = 0
          · rw [if_pos h4]
            have tail : ¬ (g = true ∧ all0 d = true) → (if s > 4 then some (0 : Int) else if s > 0 then (if ((B : Nat) : Int) > 0 then some 0 else some 1) else some 1) = some (if okS g d x s then 1 else 0) := by
              intro hg
              by_cases s2 : s > 4
              · rw [if_pos s2, if_neg (fun q : okS g d x s => by have := q.2.2.2.2.2.1; omega)]
              · rw [if_neg s2]
                by_cases s3 : s > 0
                · rw [if_pos s3]
                  by_cases hb : ((B : Nat) : Int) > 0
                  · rw [if_pos hb, if_neg (fun q : okS g d x s => q.2.2.2.2.2.2 ⟨by omega, by rw [hXc]; exact decide_eq_true (by omega)⟩)]
                  · rw [if_neg hb, if_pos ⟨h3, hdX, h4, hg, by omega, by omega, fun q => by
                      have := q.2
                      rw [hXc, decide_eq_true_eq] at this
                      omega⟩]
                · rw [if_neg s3, if_pos ⟨h3, hdX, h4, hg, by omega, by omega, fun q => by omega⟩]
            cases g with
            | false => rw [cond_false]; exact tail (by simp)
            | true =>
              rw [cond_true, cond_beq]
              by_cases h5 : all0 d = true
              · rw [if_pos (by have := h0c.1 h5; omega), if_neg (fun q : okS true d x s => q.2.2.2.1 ⟨rfl, h5⟩)]
              · rw [if_neg (fun q => h5 (h0c.2 (by omega)))]
                exact tail (fun q => h5 q.2)
          · rw [if_neg h4, if_neg (fun q : okS g d x s => h4 q.2.2.1)]
        · rw [if_neg (by omega), if_neg (fun q : okS g d x s => h3 q.1)]
      | true =>
        have hok : (if okY g true d x s then (1 : Int) else 0) = if okL d x s then 1 else 0 := by simp only [okY, if_true]
        rw [hok, cond_true]
        by_cases hb : ((B : Nat) : Int) > 0
        · rw [if_pos hb, if_neg]
          intro q
          have := hDc.2 q.1.1
          omega
        · rw [if_neg hb]
          have hdig := hDc.1 (by omega)
          by_cases h3 : ((A : Nat) : Int) < 1
          · rw [if_pos h3, if_neg (fun q : okL d x s => by have := q.1.2.1; omega)]
          · rw [if_neg h3]
            by_cases h4 : ((A : Nat) : Int) > 17
            · rw [if_pos h4, if_neg (fun q : okL d x s => by have := q.1.2.2.1; omega)]
            · rw [if_neg h4]
              obtain ⟨c, r, rfl⟩ : ∃ c r, d = c :: r := by
                cases d with
                | nil => simp at h1; omega
                | cons c r => exact ⟨c, r, rfl⟩
              have hsx : sx (c :: r) 0 = some c := by simp [sx]
              simp only [hsx, u8_48, cond_beq]
              by_cases h5 : c = 48
              · rw [if_pos h5, if_neg (fun q : okL (c :: r) x s => q.1.2.2.2.1 (by rw [h5]; rfl))]
              · rw [if_neg h5]
                by_cases h6 : x < 0
                · rw [if_pos h6, if_neg (fun q : okL (c :: r) x s => by have := q.1.2.2.2.2.1; omega)]
                · rw [if_neg h6]
                  by_cases h7 : x > 16
                  · rw [if_pos h7, if_neg (fun q : okL (c :: r) x s => by have := q.1.2.2.2.2.2.1; omega)]
                  · rw [if_neg h7]
                    obtain ⟨k, rfl⟩ : ∃ k : Nat, x = (k : Int) := ⟨x.toNat, by omega⟩
                    have w1 : IntKind.wrap .i64 (((A : Nat) : Int) + (k : Int)) = ((A + k : Nat) : Int) := by rw [wrap_i64 _ (by omega) (by omega)]; omega
                    rw [w1, refMagn_eq n (c :: r) k hdig hd (by omega) (by omega)]
                    have hlen : (c :: r).length = A := by omega
                    have tail : ¬ ((k : Int) = 0 ∧ (c :: r).length < 5) → (if s > ((A + k : Nat) : Int) then some (0 : Int) else some (if dval 0 (c :: r) * 10 ^ k ≤ E16 then (((dval 0 (c :: r) * 10 ^ k : Nat) : Int), (1 : Int)) else (0, 0)).2) = some (if okL (c :: r) (k : Int) s then 1 else 0) := by
                      intro hk
                      by_cases s2 : s > ((A + k : Nat) : Int)
                      · rw [if_pos s2, if_neg (fun q : okL (c :: r) (k : Int) s => by have := q.2.2; rw [hlen] at this; omega)]
                      · rw [if_neg s2]
                        by_cases h8 : dval 0 (c :: r) * 10 ^ k ≤ E16
                        · rw [if_pos h8, if_pos ⟨⟨hdig, by omega, by omega, by simpa using h5, by omega, by omega, hk, by simpa using h8⟩, by omega, by omega⟩]
                        · rw [if_neg h8, if_neg (fun q : okL (c :: r) (k : Int) s => h8 (by simpa using q.1.2.2.2.2.2.2.2))]
                    by_cases h8 : (k : Int) = 0
                    · rw [if_pos h8]
                      by_cases h9 : ((A : Nat) : Int) < 5
                      · rw [if_pos h9, if_neg (fun q : okL (c :: r) (k : Int) s => q.1.2.2.2.2.2.2.1 ⟨h8, by omega⟩)]
                      · rw [if_neg h9]
                        exact tail (fun q => by omega)
                    · rw [if_neg h8]
                      exact tail (fun q => h8 q.1)
  · rw [if_neg (by omega), if_neg]
    intro q
    apply h1
    rw [hs.2]
    unfold okY at q
    split at q
    · exact fun c hc => .inl (q.1.1 c hc)
    · exact q.2.1

end Go.Sh
