/- Chapter 14: the laws of reading and of texts.
   Conditions: none. -/
import Derived.Test.YtbghdnhhpanidaaGreatDoorLawYfJ
set_option linter.unusedSimpArgs false
set_option linter.unusedVariables false
set_option maxRecDepth 20000
namespace Go.Sh
open Go.Abs

/-- What is parsed. -/
def parseY (S : List UInt8) : Bool × Bool × List UInt8 × Int × Int × Int × Int := match readS S with
  | .inl k => (false, false, [], 0, 0, (k : Int), 5)
  | .inr (g, l, d, x, s, k) => if k < S.length then (false, false, [], 0, 0, (k : Int), 5) else if okY g l d (x : Int) (s : Int) then (g, l, d, (x : Int), (s : Int), 0, 0) else (false, false, [], 0, 0, 0, 6)

theorem yf_Parse (n : Nat) (S : List UInt8) (hS : S.length < 100000) (hn : S.length < n) (h200 : 200 < n) : yearforms_Parse n S = some (parseY S) := by
  have hr := yf_Read n S 0 (by omega) hS hn
  simp only [Nat.zero_add, Int.natCast_zero, List.drop_zero] at hr
  have hr' : yearforms_Read n S 0 = some (yfOut S 0 (readS S)) := hr
  unfold yearforms_Parse cursors_Run yearforms_Parse_1 parseY
  rw [hr']
  cases hq : readS S with
  | inl k =>
    simp only [yfOut, ob, Nat.zero_add]
    rfl
  | inr p =>
    obtain ⟨g, l, d, x, s, k⟩ := p
    obtain ⟨_, hk, _, _, hd⟩ := read_back hq
    simp only [yfOut, ob, Nat.zero_add, nat_dec_lt]
    by_cases hlt : k < S.length
    · rw [decide_eq_true hlt, if_pos hlt]
      rfl
    · rw [decide_eq_false hlt, if_neg hlt]
      simp only [cond_false, BEq.rfl, cond_true]
      rw [yf_Check n g l d x s h200 (by omega)]
      by_cases hok : okY g l d (x : Int) (s : Int)
      · rw [if_pos hok, if_pos hok]
        rfl
      · rw [if_neg hok, if_neg hok]
        rfl

theorem ref_Read0 (n : Nat) (S : List UInt8) (hS : S.length < 100000) (hn : S.length < n) : circaref14_Read n S 0 = some (refOut 0 (readS S)) := by
  have hr := ref_Read n S 0 (by omega) hS hn
  simp only [List.drop_zero] at hr
  exact hr

theorem yearformsParse_ok (m : Nat) (S : List UInt8) : circalaw14_YearformsParse (m + 300) S = some true := by
  unfold circalaw14_YearformsParse
  rw [yf_lives m]
  by_cases hl : S.length > 60
  · have e : decide (((S.length : Nat) : Int) > 60) = true := decide_eq_true (by omega)
    rw [e]; rfl
  · have e : decide (((S.length : Nat) : Int) > 60) = false := decide_eq_false (by omega)
    rw [e, cond_false, yf_Parse _ S (by omega) (by omega) (by omega), ref_Read0 _ S (by omega) (by omega)]
    unfold parseY
    cases hq : readS S with
    | inl k =>
      simp only [refOut, ob, Nat.zero_add, show ((5 : Int) == 0) = false from rfl, show ((5 : Int) != 0) = true from rfl, cond_false, cond_true, BEq.rfl, Bool.and_self, Bool.not_true, bne_self_eq_false]
    | inr p =>
      obtain ⟨g, l, d, x, s, k⟩ := p
      obtain ⟨hb, hk, hx, hs, hd⟩ := read_back hq
      simp only [refOut, Nat.zero_add]
      by_cases hlt : k < S.length
      · have hd1 : decide (((k : Nat) : Int) < ((S.length : Nat) : Int)) = true := decide_eq_true (by omega)
        rw [if_pos hlt]
        simp only [ob, BEq.rfl, cond_true, hd1, Bool.and_self, Bool.not_true, cond_false, bne_self_eq_false, show ((5 : Int) != 0) = true from rfl]
      · have hd1 : decide (((k : Nat) : Int) < ((S.length : Nat) : Int)) = false := decide_eq_false (by omega)
        rw [if_neg hlt]
        have hkS : k = S.length := by omega
        rw [hkS, List.take_length] at hb
        by_cases hok : okY g l d (x : Int) (s : Int)
        · rw [if_pos hok]
          have hc := yf_Check (m + 300) g l d x s (by omega) (by omega)
          have hrc := ref_Check (m + 300) g l d x s (by omega) (by omega)
          rw [if_pos hok] at hc hrc
          have hsm := ok_ysmall hok
          have hbb : (ytextF g l d (x : Int) (s : Int) == S) = true := beq_iff_eq.2 hb.symm
          simp only [ob, BEq.rfl, cond_true, hd1, cond_false, hrc, show ((1 : Int) == 0) = false from rfl, Bool.and_self, Bool.not_true, bne_self_eq_false, hc, hsm, hbb]
        · rw [if_neg hok]
          have hrc := ref_Check (m + 300) g l d x s (by omega) (by omega)
          rw [if_neg hok] at hrc
          simp only [ob, BEq.rfl, cond_true, hd1, cond_false, hrc, Bool.and_self, Bool.not_true, bne_self_eq_false, show ((6 : Int) != 0) = true from rfl]

/-! ### Years as plain data -/

theorem four_eq (n a : Nat) (ha : a < 65536) : ∃ d, circalaw14_four n (a : Int) = some d ∧ d.length = 4 ∧ ∀ c ∈ d, isDig c = true := by
  have hN : Int.tmod (a : Int) 10000 = ((a % 10000 : Nat) : Int) := rfl
  have h10 : a % 10000 < 10000 := Nat.mod_lt _ (by decide)
  generalize a % 10000 = N at *
  have e1 : Int.tdiv (N : Int) 1000 = ((N / 1000 : Nat) : Int) := rfl
  have e2 : Int.tdiv (N : Int) 100 = ((N / 100 : Nat) : Int) := rfl
  have e3 : Int.tdiv (N : Int) 10 = ((N / 10 : Nat) : Int) := rfl
  have w1 : IntKind.wrap .u16 ((N / 1000 : Nat) : Int) = ((N / 1000 : Nat) : Int) := wrap_u16 _ (by omega) (by omega)
  have w2 : IntKind.wrap .u16 ((N / 100 : Nat) : Int) = ((N / 100 : Nat) : Int) := wrap_u16 _ (by omega) (by omega)
  have w3 : IntKind.wrap .u16 ((N / 10 : Nat) : Int) = ((N / 10 : Nat) : Int) := wrap_u16 _ (by omega) (by omega)
  have m2 : Int.tmod ((N / 100 : Nat) : Int) 10 = ((N / 100 % 10 : Nat) : Int) := rfl
  have m3 : Int.tmod ((N / 10 : Nat) : Int) 10 = ((N / 10 % 10 : Nat) : Int) := rfl
  have m4 : Int.tmod (N : Int) 10 = ((N % 10 : Nat) : Int) := rfl
  have s : ∀ r : Nat, r < 10 → IntKind.wrap .u16 ((r : Int) + 1) = ((r + 1 : Nat) : Int) := fun r hr => by rw [wrap_u16 _ (by omega) (by omega)]; omega
  refine ⟨[UInt8.ofNat (48 + N / 1000), UInt8.ofNat (48 + N / 100 % 10), UInt8.ofNat (48 + N / 10 % 10), UInt8.ofNat (48 + N % 10)], ?_, rfl, ?_⟩
  · simp only [circalaw14_four, hN, e1, e2, e3, w1, w2, w3, m2, m3, m4, s (N / 1000) (by omega), s (N / 100 % 10) (by omega), s (N / 10 % 10) (by omega), s (N % 10) (by omega), bx_nat (show N / 1000 + 1 ≤ 10 by omega), bx_nat (show N / 1000 ≤ N / 1000 + 1 by omega), bx_nat (show N / 100 % 10 + 1 ≤ 10 by omega), bx_nat (show N / 100 % 10 ≤ N / 100 % 10 + 1 by omega), bx_nat (show N / 10 % 10 + 1 ≤ 10 by omega), bx_nat (show N / 10 % 10 ≤ N / 10 % 10 + 1 by omega), bx_nat (show N % 10 + 1 ≤ 10 by omega), bx_nat (show N % 10 ≤ N % 10 + 1 by omega), ob, cutD (N / 1000) (by omega), cutD (N / 100 % 10) (by omega), cutD (N / 10 % 10) (by omega), cutD (N % 10) (by omega)]
    rw [cat_ok (by simp)]
    simp only []
    rw [cat_ok (by simp)]
    simp only []
    rw [cat_ok (by simp)]
    rfl
  · have d1 : ∀ r : Nat, r < 10 → isDig (UInt8.ofNat (48 + r)) = true := fun r hr => (isDig_iff _).2 (by rw [ofNat_dig hr]; omega)
    simp only [List.mem_cons, List.not_mem_nil, or_false, forall_eq_or_imp, forall_eq]
    exact ⟨d1 _ (by omega), d1 _ (by omega), d1 _ (by omega), d1 _ (by omega)⟩

/-- The sign is left out of a year that is none with it. -/
theorem fix_neg (n : Nat) (g l : Bool) (d : List UInt8) (x s : Int) (hn : 200 < n) (hd : d.length ≤ 100) (h : okY false l d x s) : ∃ g', (ob (circaref14_Check n g l d x s) fun r => (cond (r == 0) (some (false, l, d, x, s)) (some (g, l, d, x, s)))) = some (g', l, d, x, s) ∧ okY g' l d x s := by
  rw [ref_Check n g l d x s hn hd]
  by_cases hg : okY g l d x s
  · rw [if_pos hg]; exact ⟨g, rfl, hg⟩
  · rw [if_neg hg]; exact ⟨false, rfl, h⟩

theorem okY_short {d : List UInt8} {s : Int} (h1 : d.length = 4) (h2 : ∀ c ∈ d, isDig c = true ∨ c = 88) (h3 : 0 ≤ s) (h4 : s ≤ 4) (h5 : ¬ (0 < s ∧ hasX d = true)) : okY false false d 0 s := by
  have : okS false d 0 s := ⟨h1, h2, rfl, by simp, h3, h4, h5⟩
  simpa [okY] using this

theorem of_loop (n : Nat) (a b : Int) (g : Bool) (d : List UInt8) (hl : d.length = 4) (hd : ∀ c ∈ d, isDig c = true) (hn : 4 < n) :
    ∃ s : List UInt8, iterL (circalaw14_Y_Of_l0 n) n (a, b, [], 0, false, false, [], 0, 0, g, false, d, 0, 0) = some (s, false, false, [], 0, 0, g, false, d, 0, 0) ∧ s.length = 4 ∧ ∀ c ∈ s, isDig c = true ∨ c = 88 := by
  obtain ⟨y, h1, s, h2, h3, h4⟩ := iterL_prop (step := circalaw14_Y_Of_l0 n) (fun x => ∃ (i : Nat) (s : List UInt8), i ≤ 4 ∧ s.length = i ∧ (∀ c ∈ s, isDig c = true ∨ c = 88) ∧ x = (a, b, s, (i : Int), false, false, [], 0, 0, g, false, d, 0, 0)) (fun x => 4 - x.2.2.2.1.toNat) (fun y => ∃ s : List UInt8, y = (s, false, false, [], 0, 0, g, false, d, 0, 0) ∧ s.length = 4 ∧ ∀ c ∈ s, isDig c = true ∨ c = 88) (by
    rintro x ⟨i, s, hi, hs, hc, rfl⟩
    rcases Nat.lt_or_ge i 4 with hlt | hge
    · obtain ⟨c, hgc⟩ : ∃ c, d[i]? = some c := ⟨d[i], List.getElem?_eq_getElem (by omega)⟩
      have d1 : decide ((i : Int) < 4) = true := decide_eq_true (by omega)
      have w1 : IntKind.wrap .i64 ((i : Int) + 1) = ((i + 1 : Nat) : Int) := by rw [wrap_i64 _ (by omega) (by omega)]; omega
      have next : ∀ e : UInt8, (isDig e = true ∨ e = 88) → ∃ x', some (Sum.inl (a, b, s ++ [e], ((i + 1 : Nat) : Int), false, false, ([] : List UInt8), (0 : Int), (0 : Int), g, false, d, (0 : Int), (0 : Int))) = some (Sum.inl (β := List UInt8 × Bool × Bool × List UInt8 × Int × Int × Bool × Bool × List UInt8 × Int × Int) x') ∧ (∃ (i : Nat) (s : List UInt8), i ≤ 4 ∧ s.length = i ∧ (∀ c ∈ s, isDig c = true ∨ c = 88) ∧ x' = (a, b, s, (i : Int), false, false, [], 0, 0, g, false, d, 0, 0)) ∧ 4 - x'.2.2.2.1.toNat < 4 - i := by
        intro e he
        refine ⟨_, rfl, ⟨i + 1, s ++ [e], hlt, by simp [hs], ?_, rfl⟩, by simp only [Int.toNat_natCast]; omega⟩
        intro c' hc'
        rcases List.mem_append.1 hc' with q | q
        · exact hc c' q
        · simp only [List.mem_cons, List.not_mem_nil, or_false] at q
          rw [q]; exact he
      simp only [circalaw14_Y_Of_l0, d1, cond_true, w1, Int.toNat_natCast, bx_nat (show i + 1 ≤ d.length by omega), bx_nat (show i ≤ i + 1 by omega), ob, cut1 hgc]
      rw [cat_ok (a := s) (b := [88]) (by simp; omega), cat_ok (a := s) (b := [c]) (by simp; omega)]
      simp only []
      left
      cases ((i : Int) == a)
      · cases ((i : Int) == b)
        · exact next c (.inl (hd c (List.mem_of_getElem? hgc)))
        · exact next 88 (.inr rfl)
      · exact next 88 (.inr rfl)
    · have : i = 4 := by omega
      subst this
      exact .inr ⟨_, rfl, s, rfl, hs, hc⟩) n (a, b, [], 0, false, false, [], 0, 0, g, false, d, 0, 0) ⟨0, [], by omega, rfl, by simp, rfl⟩ (by simp; omega)
  exact ⟨s, by rw [h1, h2], h3, h4⟩

theorem cut9 (r : Nat) (h : r < 9) : List.drop r (List.take (r + 1) ([49, 50, 51, 52, 53, 54, 55, 56, 57] : List UInt8)) = [UInt8.ofNat (49 + r)] := by
  have : ∀ r, r < 9 → List.drop r (List.take (r + 1) ([49, 50, 51, 52, 53, 54, 55, 56, 57] : List UInt8)) = [UInt8.ofNat (49 + r)] := by decide
  exact this r h

theorem okY_long {d : List UInt8} {x s : Nat} (h1 : ∀ c ∈ d, isDig c = true) (h2 : 1 ≤ d.length) (h3 : d.length ≤ 5) (h4 : d.head? ≠ some 48) (h5 : x ≤ 11) (h6 : x = 0 → d.length = 5) (h7 : s ≤ d.length + x) : okY false true d (x : Int) (s : Int) := by
  have hlt := dval_lt d 0 0 h1 (by simp)
  have hp : (10 : Nat) ^ (d.length + 0) ≤ 10 ^ 5 := Nat.pow_le_pow_right (by decide) (by omega)
  have hq : (10 : Nat) ^ x ≤ 10 ^ 11 := Nat.pow_le_pow_right (by decide) h5
  have hm := Nat.mul_le_mul (Nat.le_of_lt (Nat.lt_of_lt_of_le hlt hp)) hq
  have e : (10 : Nat) ^ 5 * 10 ^ 11 = E16 := by decide
  have : okL d (x : Int) (s : Int) := ⟨⟨h1, h2, by omega, h4, by omega, by omega, by rintro ⟨q1, q2⟩; have := h6 (by omega); omega, by simp only [Int.toNat_natCast]; omega⟩, by omega, by omega⟩
  simpa [okY] using this

theorem of_ok (m : Nat) (a0 a2 a3 a4 : Nat) (g : Bool) (h2 : a2 < 65536) (h3 : a3 < 256) (h4 : a4 < 256) : ∃ g' l d x s, circalaw14_Y_Of (m + 300) (a0 : Int) g (a2 : Int) (a3 : Int) (a4 : Int) = some (g', l, d, x, s) ∧ okY g' l d x s := by
  obtain ⟨d, hd1, hd2, hd3⟩ := four_eq (m + 300) a2 h2
  have hdX : ∀ c ∈ d, isDig c = true ∨ c = 88 := fun c hc => .inl (hd3 c hc)
  have hnX := hasX_dig hd3
  unfold circalaw14_Y_Of
  rw [hd1]
  simp only [ob]
  cases (Int.tmod (a0 : Int) 6 == 3) with
  | true =>
    simp only [cond_true]
    obtain ⟨s, hs1, hs2, hs3⟩ := of_loop (m + 300) (IntKind.wrap .i64 (Int.tmod (a3 : Int) 4)) (IntKind.wrap .i64 (Int.tmod (a4 : Int) 4)) g d hd2 hd3 (by omega)
    rw [hs1]
    obtain ⟨g', q1, q2⟩ := fix_neg (m + 300) g false s 0 0 (by omega) (by omega) (okY_short hs2 hs3 (by omega) (by omega) (by omega))
    exact ⟨g', false, s, 0, 0, q1, q2⟩
  | false =>
    simp only [cond_false]
    cases (Int.tmod (a0 : Int) 6 == 4) with
    | true =>
      simp only [cond_true]
      have e : Int.tmod (a3 : Int) 4 = ((a3 % 4 : Nat) : Int) := rfl
      have w1 : IntKind.wrap .i64 ((a3 % 4 : Nat) : Int) = ((a3 % 4 : Nat) : Int) := wrap_i64 _ (by omega) (by omega)
      have w2 : IntKind.wrap .i64 (1 + ((a3 % 4 : Nat) : Int)) = ((1 + a3 % 4 : Nat) : Int) := by rw [wrap_i64 _ (by omega) (by omega)]; omega
      rw [e, w1, w2]
      obtain ⟨g', q1, q2⟩ := fix_neg (m + 300) g false d 0 ((1 + a3 % 4 : Nat) : Int) (by omega) (by omega) (okY_short hd2 hdX (by omega) (by omega) (by rw [hnX]; simp))
      exact ⟨g', false, d, 0, _, q1, q2⟩
    | false =>
      simp only [cond_false]
      cases (Int.tmod (a0 : Int) 6 == 5) with
      | false =>
        simp only [cond_false]
        obtain ⟨g', q1, q2⟩ := fix_neg (m + 300) g false d 0 0 (by omega) (by omega) (okY_short hd2 hdX (by omega) (by omega) (by omega))
        exact ⟨g', false, d, 0, 0, q1, q2⟩
      | true =>
        simp only [cond_true]
        have e9 : Int.tmod (a3 : Int) 9 = ((a3 % 9 : Nat) : Int) := rfl
        have w9 : IntKind.wrap .u8 (((a3 % 9 : Nat) : Int) + 1) = ((a3 % 9 + 1 : Nat) : Int) := by rw [wrap_u8 _ (by omega) (by omega)]; omega
        have e3 : Int.tmod (a4 : Int) 3 = ((a4 % 3 : Nat) : Int) := rfl
        have e5 : Int.tmod (a4 : Int) 5 = ((a4 % 5 : Nat) : Int) := rfl
        have w5 : IntKind.wrap .u8 (1 + ((a4 % 5 : Nat) : Int)) = ((1 + a4 % 5 : Nat) : Int) := by rw [wrap_u8 _ (by omega) (by omega)]; omega
        have e16 : Int.tdiv (a4 : Int) 16 = ((a4 / 16 : Nat) : Int) := rfl
        have w16 : IntKind.wrap .u8 ((a4 / 16 : Nat) : Int) = ((a4 / 16 : Nat) : Int) := wrap_u8 _ (by omega) (by omega)
        have e11 : Int.tmod ((a4 / 16 : Nat) : Int) 11 = ((a4 / 16 % 11 : Nat) : Int) := rfl
        have w11 : IntKind.wrap .i64 ((a4 / 16 % 11 : Nat) : Int) = ((a4 / 16 % 11 : Nat) : Int) := wrap_i64 _ (by omega) (by omega)
        have w12 : IntKind.wrap .i64 (1 + ((a4 / 16 % 11 : Nat) : Int)) = ((1 + a4 / 16 % 11 : Nat) : Int) := by rw [wrap_i64 _ (by omega) (by omega)]; omega
        have f16 : Int.tdiv (a3 : Int) 16 = ((a3 / 16 : Nat) : Int) := rfl
        have v16 : IntKind.wrap .u8 ((a3 / 16 : Nat) : Int) = ((a3 / 16 : Nat) : Int) := wrap_u8 _ (by omega) (by omega)
        have v17 : IntKind.wrap .i64 ((a3 / 16 : Nat) : Int) = ((a3 / 16 : Nat) : Int) := wrap_i64 _ (by omega) (by omega)
        have h48 : UInt8.ofNat (49 + a3 % 9) ≠ 48 := by
          intro q
          have := congrArg UInt8.toNat q
          rw [show 49 + a3 % 9 = 48 + (1 + a3 % 9) by omega, ofNat_dig (by omega)] at this
          exact absurd this (by show ¬ 48 + (1 + a3 % 9) = 48; omega)
        have hdig1 : isDig (UInt8.ofNat (49 + a3 % 9)) = true := (isDig_iff _).2 (by rw [show 49 + a3 % 9 = 48 + (1 + a3 % 9) by omega, ofNat_dig (by omega)]; omega)
        rw [e9, w9, bx_nat (show a3 % 9 + 1 ≤ 9 by omega)]
        simp only []
        rw [bx_nat (show a3 % 9 ≤ a3 % 9 + 1 by omega)]
        simp only []
        rw [cut9 (a3 % 9) (by omega), cat_ok (by simp; omega)]
        simp only []
        generalize hD : [UInt8.ofNat (49 + a3 % 9)] ++ d = D
        have hDl : D.length = 5 := by rw [← hD]; simp [hd2]
        have hDd : ∀ c ∈ D, isDig c = true := by
          rw [← hD]
          intro c hc
          simp only [List.cons_append, List.nil_append, List.mem_cons] at hc
          rcases hc with rfl | hc
          · exact hdig1
          · exact hd3 c hc
        have hDh : D.head? ≠ some 48 := by rw [← hD]; simpa using h48
        rw [e3, e5, w5, e16, w16, e11, w11, w12, f16, v16, v17]
        by_cases h33 : 0 < a4 % 3
        · have d1 : decide (((a4 % 3 : Nat) : Int) > 0) = true := decide_eq_true (by omega)
          rw [d1, cond_true, bx_nat (show 1 + a4 % 5 ≤ D.length by omega)]
          simp only [List.drop_zero]
          generalize hE : List.take (1 + a4 % 5) D = E
          have hEl : E.length = 1 + a4 % 5 := by rw [← hE, List.length_take]; omega
          have hEd : ∀ c ∈ E, isDig c = true := by rw [← hE]; exact fun c hc => hDd c (List.mem_of_mem_take hc)
          have hEh : E.head? ≠ some 48 := by
            rw [← hE]
            cases D with
            | nil => simp at hDl
            | cons c r => rw [Nat.add_comm, List.take_succ_cons]; simpa using hDh
          generalize hX : 1 + a4 / 16 % 11 = X
          have hX11 : X ≤ 11 := by omega
          have hX1 : 1 ≤ X := by omega
          have wl : IntKind.wrap .i64 (IntKind.wrap .i64 (((E.length : Nat) : Int) + ((X : Nat) : Int)) + 1) = ((E.length + X + 1 : Nat) : Int) := by
            rw [wrap_i64 (((E.length : Nat) : Int) + ((X : Nat) : Int)) (by omega) (by omega), wrap_i64 _ (by omega) (by omega)]; omega
          have ne0 : (((E.length + X + 1 : Nat) : Int) == 0) = false := beq_eq_false_iff_ne.2 (by omega)
          rw [wl, ne0, cond_false]
          have em : Int.tmod ((a3 / 16 : Nat) : Int) ((E.length + X + 1 : Nat) : Int) = ((a3 / 16 % (E.length + X + 1) : Nat) : Int) := rfl
          rw [em]
          have hml : a3 / 16 % (E.length + X + 1) < E.length + X + 1 := Nat.mod_lt _ (by omega)
          generalize a3 / 16 % (E.length + X + 1) = s at hml ⊢
          obtain ⟨g', q1, q2⟩ := fix_neg (m + 300) g true E ((X : Nat) : Int) ((s : Nat) : Int) (by omega) (by omega) (okY_long hEd (by omega) (by omega) hEh hX11 (by omega) (by omega))
          exact ⟨g', true, E, _, _, q1, q2⟩
        · have d1 : decide (((a4 % 3 : Nat) : Int) > 0) = false := decide_eq_false (by omega)
          rw [d1, cond_false, hDl]
          have wl : IntKind.wrap .i64 (IntKind.wrap .i64 (((5 : Nat) : Int) + 0) + 1) = ((6 : Nat) : Int) := by decide
          have ne0 : (((6 : Nat) : Int) == 0) = false := rfl
          rw [wl, ne0, cond_false]
          have em : Int.tmod ((a3 / 16 : Nat) : Int) ((6 : Nat) : Int) = ((a3 / 16 % 6 : Nat) : Int) := rfl
          rw [em]
          have hml : a3 / 16 % 6 < 6 := Nat.mod_lt _ (by omega)
          generalize a3 / 16 % 6 = s at hml ⊢
          obtain ⟨g', q1, q2⟩ := fix_neg (m + 300) g true D ((0 : Nat) : Int) ((s : Nat) : Int) (by omega) (by omega) (okY_long hDd (by omega) (by omega) hDh (by omega) (by omega) (by omega))
          exact ⟨g', true, D, _, _, q1, q2⟩

/-- The text of a right year is read as the year. -/
theorem parse_text {g l : Bool} {d : List UInt8} {x s : Nat} (h : okY g l d (x : Int) (s : Int)) : parseY (ytextF g l d (x : Int) (s : Int)) = (g, l, d, (x : Int), (s : Int), 0, 0) := by
  have hr := read_text h [] (fun c hc => by cases hc)
  rw [List.append_nil] at hr
  unfold parseY
  rw [hr]
  simp only [Nat.lt_irrefl, if_false, if_pos h]

theorem ytext_len {g l : Bool} {d : List UInt8} {x s : Nat} (h : okY g l d (x : Int) (s : Int)) : (ytextF g l d (x : Int) (s : Int)).length ≤ 25 := by
  have hs := ok_small h
  have h1 := textN_len 69 (show x < 100 by omega)
  have h2 := textN_len 83 (show s < 100 by omega)
  rw [ytext_parts]
  simp only [List.length_append]
  have e1 : (if l = true then ([89] : List UInt8) else []).length ≤ 1 := by split <;> simp
  have e2 : (if g = true then ([45] : List UInt8) else []).length ≤ 1 := by split <;> simp
  omega

theorem span_le {d : List UInt8} {k q : Nat} (h : Num d k q) : (spanA d k q).1 ≤ val d k ∧ val d k ≤ (spanA d k q).2 ∧ (spanA d k q).2 ≤ E16 := by
  have hs := h.small
  have hv : dval 0 d * 10 ^ k = val d k := rfl
  rw [hv] at hs
  unfold spanA
  split
  · have hu : 1 ≤ 10 ^ (d.length + k - q) := Nat.one_le_pow _ _ (by decide)
    generalize 10 ^ (d.length + k - q) = u at hu ⊢
    generalize val d k = v at hs ⊢
    have h1 := Nat.div_mul_le_self v u
    have h2 : v < v / u * u + u := by
      have h := Nat.div_add_mod v u
      have := Nat.mod_lt v hu
      rw [Nat.mul_comm] at h
      omega
    refine ⟨h1, ?_, Nat.min_le_right _ _⟩
    rw [Nat.le_min]
    omega
  · exact ⟨Nat.le_refl _, Nat.le_refl _, hs⟩

theorem yearformsText_ok (m : Nat) (a0 a2 a3 a4 : Nat) (g : Bool) (h2 : a2 < 65536) (h3 : a3 < 256) (h4 : a4 < 256) : circalaw14_YearformsText (m + 300) (a0 : Int) g (a2 : Int) (a3 : Int) (a4 : Int) = some true := by
  obtain ⟨g, l, d, x, s, ho, hok⟩ := of_ok m a0 a2 a3 a4 g h2 h3 h4
  have hsm := ok_small hok
  obtain ⟨x, rfl⟩ : ∃ k : Nat, x = (k : Int) := ⟨x.toNat, by omega⟩
  obtain ⟨s, rfl⟩ : ∃ k : Nat, s = (k : Int) := ⟨s.toNat, by omega⟩
  have hd : d.length ≤ 100 := by omega
  have htl := ytext_len hok
  have hc := yf_Check (m + 300) g l d x s (by omega) hd
  have hval := yf_Value (m + 300) g l d x s (by omega) hd
  have hsp := yf_Span m g l d x s hd
  have hP := yf_Parse (m + 300) (ytextF g l d (x : Int) (s : Int)) (by omega) (by omega) (by omega)
  rw [parse_text hok] at hP
  rw [if_pos hok] at hc hsp
  unfold circalaw14_YearformsText
  rw [ho, yf_lives m]
  simp only [ob]
  rw [hc]
  simp only [bne_self_eq_false, cond_false, ok_ysmall hok, cond_true]
  rw [hP, ref_Text (m + 300) g l d x s (by omega) (by omega) (by omega), yf_Masked, ref_Masked (m + 300) g l d x s (by omega) (by omega), hsp, ref_Span m g l d x s hd hok, hval]
  have hme := masked_eq d
  simp only [BEq.rfl, Bool.not_true, cond_false, bne_self_eq_false, Bool.and_self, hme]
  cases hX : hasX d with
  | true =>
    have hno : ¬ (okY g l d (x : Int) (s : Int) ∧ true = false) := by simp
    simp only [if_true, BEq.rfl, cond_true, if_neg hno]
  | false =>
    obtain ⟨k, q, hk, hq, hN⟩ := ok_num hok hX
    have hkx : x = k := by omega
    have hqs : s = q := by omega
    subst hkx hqs
    have hms := refMagn_eq (m + 300) d x hN.dig hd (by have := hN.wide; omega) (by have := hN.wide; omega)
    rw [if_pos hN.small] at hms
    obtain ⟨b1, b2, b3⟩ := span_le hN
    have hv : dval 0 d * 10 ^ x = val d x := rfl
    have z01 : ((if false = true then (1 : Int) else 0) == 1) = false := rfl
    have hyes : okY g l d (x : Int) (s : Int) ∧ False → True := fun _ => trivial
    simp only [z01, cond_false, hms, hv, Int.toNat_natCast]
    rw [if_pos ⟨hok, trivial⟩]
    have hspY : spanY g d (x : Int) (s : Int) = spanA d x s := by unfold spanY; rw [hX]; simp
    rw [hspY]
    unfold E16 at b3
    by_cases h0 : 0 < s
    · have e0 : decide ((s : Int) > 0) = true := decide_eq_true (by omega)
      cases g with
      | true =>
        simp only [sgn, if_true, cond_true, BEq.rfl, e0]
        have w : IntKind.wrap .i64 (0 - ((val d x : Nat) : Int)) = -((val d x : Nat) : Int) := by rw [wrap_i64 _ (by omega) (by omega), Int.zero_sub]
        have c1 : decide (-(((spanA d x s).2 : Nat) : Int) ≤ -((val d x : Nat) : Int)) = true := decide_eq_true (by omega)
        have c2 : decide (-((val d x : Nat) : Int) ≤ -(((spanA d x s).1 : Nat) : Int)) = true := decide_eq_true (by omega)
        simp only [w, BEq.rfl, cond_true, c1, c2]
      | false =>
        have c1 : decide ((((spanA d x s).1 : Nat) : Int) ≤ ((val d x : Nat) : Int)) = true := decide_eq_true (by omega)
        have c2 : decide (((val d x : Nat) : Int) ≤ (((spanA d x s).2 : Nat) : Int)) = true := decide_eq_true (by omega)
        simp only [sgn, Bool.false_eq_true, if_false, cond_false, BEq.rfl, cond_true, c1, c2, e0]
    · have e0 : decide ((s : Int) > 0) = false := decide_eq_false (by omega)
      have hA : spanA d x s = (val d x, val d x) := by unfold spanA; rw [if_neg h0]
      rw [hA]
      cases g with
      | true =>
        have w : IntKind.wrap .i64 (0 - ((val d x : Nat) : Int)) = -((val d x : Nat) : Int) := by
          rw [hA] at b3
          simp only at b3
          rw [wrap_i64 _ (by omega) (by omega), Int.zero_sub]
        have c1 : decide (-((val d x : Nat) : Int) ≤ -((val d x : Nat) : Int)) = true := decide_eq_true (Int.le_refl _)
        simp only [sgn, if_true, cond_true, BEq.rfl, e0, w, c1, cond_false]
      | false =>
        have c1 : decide (((val d x : Nat) : Int) ≤ ((val d x : Nat) : Int)) = true := decide_eq_true (Int.le_refl _)
        simp only [sgn, Bool.false_eq_true, if_false, cond_false, BEq.rfl, cond_true, c1, e0]

end Go.Sh
