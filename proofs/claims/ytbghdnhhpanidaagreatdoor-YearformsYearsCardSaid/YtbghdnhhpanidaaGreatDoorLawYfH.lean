/- Chapter 14: how years are read, by the program and by the definition: the two functions.
   Conditions: none. Printed by program in part. -/
import Derived.Test.YtbghdnhhpanidaaGreatDoorLawYfG
set_option linter.unusedSimpArgs false
set_option linter.unusedVariables false
set_option maxRecDepth 20000
namespace Go.Sh
open Go.Abs


theorem numS_bound {letter : UInt8} {S : List UInt8} {a : Nat} (h : a ≤ S.length) {v k : Nat} (hk : numS letter (S.drop a) = .inr (v, k)) : a + k ≤ S.length := by
  have := numS_le letter (S.drop a)
  rw [hk, List.length_drop] at this
  simp only at this
  omega

theorem yf_long (n : Nat) (S : List UInt8) (at_ o : Nat) (g : Bool) (h : at_ + o ≤ S.length) (hS : S.length < 100000) (hn : S.length < n) :
    (ob (cursors_Cursor_One n [49, 50, 51, 52, 53, 54, 55, 56, 57] S ((at_ + o : Nat) : Int)) fun y336 => (Sum.casesOn (motive := fun _ => Option ((Int × Int × List UInt8 × Int) ⊕ (Bool × Bool × List UInt8 × Int × Int × List UInt8 × Int))) y336 (fun a337 => (some (.inl (a337.1, a337.2.1, a337.2.2.1, a337.2.2.2)))) (fun b338 => (ob (cursors_Cursor_Some n [48, 49, 50, 51, 52, 53, 54, 55, 56, 57] 0 16 b338.2.1 b338.2.2) fun y339 => (Sum.casesOn (motive := fun _ => Option _) y339 (fun a340 => (some (.inl (a340.1, a340.2.1, a340.2.2.1, a340.2.2.2)))) (fun b341 => (ob (cat (Utf8.encode b338.1).data.toList b341.1) fun s342 => (ob (yearforms_Read_1 n [69] b341.2.1 b341.2.2) fun y343 => (Sum.casesOn (motive := fun _ => Option _) y343 (fun a344 => (ob (yearforms_Read_1 n [83] a344.2.1 a344.2.2) fun y346 => (Sum.casesOn (motive := fun _ => Option _) y346 (fun a347 => (some (.inr (g, true, s342, a344.1, a347.1, a347.2.1, a347.2.2)))) (fun b348 => (some (.inl (b348.1, b348.2.1, b348.2.2.1, b348.2.2.2))))))) (fun b345 => (some (.inl (b345.1, b345.2.1, b345.2.2.1, b345.2.2.2))))))))))))) = some (yfOut S at_ (longS g o (S.drop (at_ + o)))) := by
  rw [cur_One n _ S (at_ + o) h (by omega)]
  cases hd : S.drop (at_ + o) with
  | nil => simp [longS, yfOut, ob]
  | cons c r =>
    obtain ⟨hlt, hg, hr⟩ := drop_lt hd
    simp only [hasB_first, decide_eq_true_eq]
    by_cases hc : 49 ≤ c.toNat ∧ c.toNat ≤ 57
    · rw [if_pos hc]
      simp only [ob]
      rw [cur_Some n _ 0 16 S (at_ + o + 1) (by omega) (by omega) hn, hr]
      rw [if_neg (by omega), spanN_congr hasB_digs]
      simp only []
      rw [encode_low c (by omega)]
      have h16 : (16 : Int).toNat = 16 := rfl
      rw [h16]
      have hk := spanN_le isDig 16 r
      have hrl : r.length + (at_ + o + 1) = S.length := by
        have := congrArg List.length hr
        rw [List.length_drop] at this
        omega
      rw [cat_ok (by simp only [List.length_cons, List.length_nil, List.length_take]; omega)]
      simp only [longS]
      rw [if_pos hc]
      generalize hK : spanN isDig 16 r = k at hk ⊢
      have e1 : [c] ++ List.take k r = List.take (1 + k) (c :: r) := by rw [Nat.add_comm]; rfl
      rw [e1]
      have hp1 : at_ + o + 1 + k ≤ S.length := by omega
      have hdr : List.drop (1 + k) (c :: r) = S.drop (at_ + o + 1 + k) := by
        rw [← hd, List.drop_drop]; congr 1; omega
      rw [yf_num n 69 S (at_ + o + 1 + k) hp1 hS hn, ← hdr]
      cases hq : numS 69 (List.drop (1 + k) (c :: r)) with
      | inl j =>
        simp only [yfOut]
        have : at_ + o + 1 + k + j = at_ + (o + (1 + k) + j) := by omega
        rw [this]
      | inr p =>
        obtain ⟨x, j⟩ := p
        have hj := hq
        rw [hdr] at hj
        have hp2 := numS_bound hp1 hj
        have hdr2 : List.drop (1 + k + j) (c :: r) = S.drop (at_ + o + 1 + k + j) := by
          rw [← hd, List.drop_drop]; congr 1; omega
        simp only []
        rw [yf_num n 83 S (at_ + o + 1 + k + j) hp2 hS hn, ← hdr2]
        cases hq2 : numS 83 (List.drop (1 + k + j) (c :: r)) with
        | inl i =>
          simp only [yfOut]
          have : at_ + o + 1 + k + j + i = at_ + (o + (1 + k) + j + i) := by omega
          rw [this]
        | inr p2 =>
          obtain ⟨s, i⟩ := p2
          simp only [yfOut]
          have : at_ + o + 1 + k + j + i = at_ + (o + (1 + k) + j + i) := by omega
          rw [this]
    · rw [if_neg hc]
      simp only [ob, longS]
      rw [if_neg hc]
      rfl

theorem yf_short (n : Nat) (S : List UInt8) (at_ o : Nat) (g : Bool) (h : at_ + o ≤ S.length) (hS : S.length < 100000) (hn : S.length < n) :
    (ob (cursors_Cursor_Some n [88, 48, 49, 50, 51, 52, 53, 54, 55, 56, 57] 4 4 S ((at_ + o : Nat) : Int)) fun y349 => (Sum.casesOn (motive := fun _ => Option ((Int × Int × List UInt8 × Int) ⊕ (Bool × Bool × List UInt8 × Int × Int × List UInt8 × Int))) y349 (fun a350 => (some (.inl (a350.1, a350.2.1, a350.2.2.1, a350.2.2.2)))) (fun b351 => (ob (yearforms_Read_1 n [83] b351.2.1 b351.2.2) fun y352 => (Sum.casesOn (motive := fun _ => Option _) y352 (fun a353 => (some (.inr (g, false, b351.1, 0, a353.1, a353.2.1, a353.2.2)))) (fun b354 => (some (.inl (b354.1, b354.2.1, b354.2.2.1, b354.2.2.2))))))))) = some (yfOut S at_ (shortS g o (S.drop (at_ + o)))) := by
  rw [cur_Some n _ 4 4 S (at_ + o) h (by omega) hn]
  have hcg : ∀ c, hasB [88, 48, 49, 50, 51, 52, 53, 54, 55, 56, 57] c = isDX c := hasB_digsX
  have h4 : (4 : Int).toNat = 4 := rfl
  rw [spanN_congr hcg, h4]
  unfold shortS
  have hk := spanN_le isDX 4 (S.drop (at_ + o))
  rw [List.length_drop] at hk
  by_cases hlt : spanN isDX 4 (S.drop (at_ + o)) < 4
  · rw [if_pos (by omega), if_pos hlt]
    simp only [ob, yfOut]
    rw [Nat.add_assoc]
  · rw [if_neg (by omega), if_neg hlt]
    have hle : ∀ (k : Nat) (l : List UInt8), spanN isDX k l ≤ k := by
      intro k
      induction k with
      | zero => intro l; simp [spanN]
      | succ k ih =>
        intro l
        cases l with
        | nil => simp [spanN]
        | cons c l =>
          have := ih l
          simp only [spanN]
          split <;> omega
    have he : spanN isDX 4 (S.drop (at_ + o)) = 4 := by have := hle 4 (S.drop (at_ + o)); omega
    rw [he] at hk ⊢
    simp only [ob]
    have hp : at_ + o + 4 ≤ S.length := by omega
    rw [yf_num n 83 S (at_ + o + 4) hp hS hn, List.drop_drop]
    cases hq : numS 83 (S.drop (at_ + o + 4)) with
    | inl i =>
      simp only [yfOut]
      have : at_ + o + 4 + i = at_ + (o + 4 + i) := by omega
      rw [this]
    | inr p =>
      obtain ⟨s, i⟩ := p
      simp only [yfOut]
      have : at_ + o + 4 + i = at_ + (o + 4 + i) := by omega
      rw [this]
      rfl

theorem yf_Read (n : Nat) (S : List UInt8) (at_ : Nat) (h : at_ ≤ S.length) (hS : S.length < 100000) (hn : S.length < n) :
    yearforms_Read n S (at_ : Int) = some (yfOut S at_ (readS (S.drop at_))) := by
  unfold yearforms_Read
  rw [cur_takes n 89 S at_ h hS]
  have hle1 := takes_le 89 (S.drop at_)
  rw [List.length_drop] at hle1
  simp only [ob]
  rw [cur_takes n 45 S (at_ + takes 89 (S.drop at_)) (by omega) hS]
  have hle2 := takes_le 45 (S.drop (at_ + takes 89 (S.drop at_)))
  rw [List.length_drop] at hle2
  simp only []
  unfold readS
  rcases takes_cases 89 (S.drop at_) with ht | ht
  · rw [ht] at hle2 ⊢
    simp only [Nat.add_zero, show ((0 : Nat) == 1) = false from rfl, cond_false, show ¬ ((0 : Nat) = 1) from by decide, if_false, List.drop_drop] at hle2 ⊢
    have := yf_short n S at_ (takes 45 (S.drop at_)) (takes 45 (S.drop at_) == 1) (by omega) hS hn
    exact this
  · rw [ht] at hle2 ⊢
    simp only [show ((1 : Nat) == 1) = true from rfl, cond_true, if_true, List.drop_drop] at hle2 ⊢
    have := yf_long n S at_ (1 + takes 45 (S.drop (at_ + 1))) (takes 45 (S.drop (at_ + 1)) == 1) (by omega) hS hn
    rw [← Nat.add_assoc] at this
    rw [← Nat.add_assoc]
    exact this

/-! ### The definition -/

abbrev stR (S : List UInt8) (a b M : Int) (g L : Bool) : List UInt8 × Int × Int × Int × Bool × Bool × List UInt8 × Int × Int × Bool × Bool × List UInt8 × Int × Int := (S, a, b, M, false, false, [], 0, 0, g, L, [], 0, 0)

/-- A byte of a year. -/
def isYB (L : Bool) (c : UInt8) : Bool := isDig c || (c == 88 && !L)

theorem ref_loop0 (n : Nat) (S : List UInt8) (b M : Nat) (g : Bool) (hM : 0 < M) (hS : S.length < 100000) (h48 : S[b]? = some 48) : iterL (circaref14_Read_l0 (n + 1)) (n + 1) (stR S (b : Int) (b : Int) (M : Int) g true) = some (.inl ((b : Int), 5, false, false, [], 0, 0)) := by
  have hlt := lt_of_get h48
  have d1 : decide ((b : Int) < ((S.length : Nat) : Int)) = true := decide_eq_true (by omega)
  have w1 : IntKind.wrap .i64 ((b : Int) - (b : Int)) = 0 := by rw [Int.sub_self]; rfl
  have d2 : decide ((0 : Int) < (M : Int)) = true := decide_eq_true (by omega)
  have e1 : decide ((((48 : UInt8).toNat : Nat) : Int) ≥ 48) = true := rfl
  have e2 : decide ((((48 : UInt8).toNat : Nat) : Int) ≤ 57) = true := rfl
  have e3 : ((((48 : UInt8).toNat : Nat) : Int) == 48) = true := rfl
  simp only [iterL, circaref14_Read_l0, d1, cond_true, w1, d2, sx_nat h48, ob, e1, e2, e3, BEq.rfl]

theorem ref_loop (n : Nat) (S : List UInt8) (b M : Nat) (g L : Bool) (hb : b ≤ S.length) (hS : S.length < 100000) (hn : S.length < n) (h48 : ¬ (L = true ∧ S[b]? = some 48)) :
    iterL (circaref14_Read_l0 n) n (stR S (b : Int) (b : Int) (M : Int) g L) = some (.inr (S, ((b + spanN (isYB L) M (S.drop b) : Nat) : Int), (b : Int), false, false, [], 0, 0, g, L, [], 0, 0)) := by
  have := iterL_inv (step := circaref14_Read_l0 n) (fun x => ∃ j : Nat, b + j ≤ S.length ∧ x = stR S ((b + j : Nat) : Int) (b : Int) (M : Int) g L) (fun x => S.length - x.2.1.toNat)
    (fun x => .inr (S, ((x.2.1.toNat + spanN (isYB L) (M - (x.2.1.toNat - b)) (S.drop x.2.1.toNat) : Nat) : Int), (b : Int), false, false, [], 0, 0, g, L, [], 0, 0)) ?_ n (stR S (b : Int) (b : Int) (M : Int) g L) ⟨0, by omega, rfl⟩ (by simp; omega)
  · rw [this]; simp
  rintro x ⟨j, hj, rfl⟩
  simp only [Int.toNat_natCast]
  rcases Nat.lt_or_ge (b + j) S.length with hlt | hge
  · obtain ⟨c, hc⟩ : ∃ c, S[b + j]? = some c := ⟨S[b + j], List.getElem?_eq_getElem hlt⟩
    have d1 : decide (((b + j : Nat) : Int) < ((S.length : Nat) : Int)) = true := decide_eq_true (by omega)
    have w1 : IntKind.wrap .i64 (((b + j : Nat) : Int) - (b : Int)) = (j : Int) := by rw [wrap_i64 _ (by omega) (by omega)]; omega
    have w2 : IntKind.wrap .i64 (((b + j : Nat) : Int) + 1) = ((b + (j + 1) : Nat) : Int) := by rw [wrap_i64 _ (by omega) (by omega)]; omega
    have hsub : b + j - b = j := by omega
    rw [drop_get hc, hsub]
    by_cases hM : j < M
    · have d2 : decide ((j : Int) < (M : Int)) = true := decide_eq_true (by omega)
      obtain ⟨q, hq⟩ : ∃ q, M - j = q + 1 := ⟨M - j - 1, by omega⟩
      have hq2 : M - (j + 1) = q := by omega
      rw [hq]
      simp only [spanN]
      have go : isYB L c = true → circaref14_Read_l0 n (stR S ((b + j : Nat) : Int) (b : Int) (M : Int) g L) = some (.inl (stR S ((b + (j + 1) : Nat) : Int) (b : Int) (M : Int) g L)) := by
        intro hy
        by_cases hdg : isDig c = true
        · have hcd := (isDig_iff c).1 hdg
          have e1 : decide (((c.toNat : Nat) : Int) ≥ 48) = true := decide_eq_true (by omega)
          have e2 : decide (((c.toNat : Nat) : Int) ≤ 57) = true := decide_eq_true (by omega)
          simp only [circaref14_Read_l0, d1, cond_true, w1, d2, sx_nat hc, ob, e1, e2, w2]
          cases L with
          | false => rfl
          | true =>
            by_cases hj0 : j = 0
            · subst hj0
              have hc48 : c ≠ 48 := by
                intro e
                exact h48 ⟨rfl, by rw [← e]; exact hc⟩
              have e3 : (((c.toNat : Nat) : Int) == 48) = false := by rw [u8_48]; exact beq_eq_false_iff_ne.2 hc48
              simp only [Nat.add_zero, BEq.rfl, cond_true, e3, cond_false]
            · have e4 : (((b + j : Nat) : Int) == (b : Int)) = false := beq_eq_false_iff_ne.2 (by omega)
              simp only [e4, cond_false, cond_true]
        · have hdf : isDig c = false := by cases h : isDig c with | false => rfl | true => exact absurd h hdg
          unfold isYB at hy
          rw [hdf] at hy
          simp only [Bool.false_or, Bool.and_eq_true, beq_iff_eq, Bool.not_eq_true'] at hy
          obtain ⟨rfl, rfl⟩ := hy
          have e1 : decide ((((88 : UInt8).toNat : Nat) : Int) ≥ 48) = true := rfl
          have e2 : decide ((((88 : UInt8).toNat : Nat) : Int) ≤ 57) = false := rfl
          have e3 : ((((88 : UInt8).toNat : Nat) : Int) == 88) = true := rfl
          simp only [circaref14_Read_l0, d1, cond_true, w1, d2, sx_nat hc, ob, e1, e2, e3, w2, cond_false, Bool.not_false]
      have stop : isYB L c = false → circaref14_Read_l0 n (stR S ((b + j : Nat) : Int) (b : Int) (M : Int) g L) = some (.inr (.inr (S, ((b + j : Nat) : Int), (b : Int), false, false, [], 0, 0, g, L, [], 0, 0))) := by
        intro hy
        unfold isYB at hy
        simp only [Bool.or_eq_false_iff, Bool.and_eq_false_iff] at hy
        obtain ⟨hdf, hX⟩ := hy
        have hnd : ¬ (48 ≤ c.toNat ∧ c.toNat ≤ 57) := fun q => by rw [(isDig_iff c).2 q] at hdf; cases hdf
        have hx8 : (((c.toNat : Nat) : Int) == 88) = (c == 88) := u8_beq c 88
        have fin : (cond (c == 88) (cond (!L) (0 : Nat) 1) 1) = 1 := by
          rcases hX with h | h
          · rw [h]; rfl
          · have : L = true := by simpa using h
            rw [this]; cases c == 88 <;> rfl
        by_cases h1 : c.toNat ≥ 48
        · have e1 : decide (((c.toNat : Nat) : Int) ≥ 48) = true := decide_eq_true (by omega)
          have e2 : decide (((c.toNat : Nat) : Int) ≤ 57) = false := decide_eq_false (by omega)
          simp only [circaref14_Read_l0, d1, cond_true, w1, d2, sx_nat hc, ob, e1, e2, cond_false, hx8]
          rcases hX with h | h
          · rw [h]; rfl
          · have : L = true := by simpa using h
            rw [this]; cases c == 88 <;> rfl
        · have e1 : decide (((c.toNat : Nat) : Int) ≥ 48) = false := decide_eq_false (by omega)
          simp only [circaref14_Read_l0, d1, cond_true, w1, d2, sx_nat hc, ob, e1, cond_false, hx8]
          rcases hX with h | h
          · rw [h]; rfl
          · have : L = true := by simpa using h
            rw [this]; cases c == 88 <;> rfl
      cases hy : isYB L c with
      | true =>
        refine .inl ⟨_, go hy, ⟨j + 1, by omega, rfl⟩, by simp only [Int.toNat_natCast]; omega, ?_⟩
        simp only [Int.toNat_natCast, if_true]
        have e5 : b + (j + 1) - b = j + 1 := by omega
        rw [e5, hq2, show b + (j + 1) = b + j + 1 by omega]
        have e6 : b + j + 1 + spanN (isYB L) q (S.drop (b + j + 1)) = b + j + (spanN (isYB L) q (S.drop (b + j + 1)) + 1) := by omega
        rw [e6]
      | false =>
        refine .inr ?_
        rw [stop hy]
        simp
    · have d2 : decide ((j : Int) < (M : Int)) = false := decide_eq_false (by omega)
      have hz : M - j = 0 := by omega
      refine .inr ?_
      rw [hz]
      simp only [circaref14_Read_l0, d1, cond_true, w1, d2, cond_false, spanN, Nat.add_zero]
  · have d1 : decide (((b + j : Nat) : Int) < ((S.length : Nat) : Int)) = false := decide_eq_false (by omega)
    refine .inr ?_
    rw [List.drop_eq_nil_of_le hge]
    have hz : ∀ q, spanN (isYB L) q [] = 0 := fun q => by cases q <;> rfl
    simp only [circaref14_Read_l0, d1, cond_false, hz, Nat.add_zero]

theorem ref_num69 (n : Nat) (S : List UInt8) (at_ : Nat) (h : at_ ≤ S.length) (hS : S.length < 100000) :
    circaref14_number n S (at_ : Int) 69 = some (match numS 69 (S.drop at_) with | .inl k => (-1, ((at_ + k : Nat) : Int)) | .inr (v, k) => ((v : Int), ((at_ + k : Nat) : Int))) := ref_num n 69 S at_ h hS
theorem ref_num83 (n : Nat) (S : List UInt8) (at_ : Nat) (h : at_ ≤ S.length) (hS : S.length < 100000) :
    circaref14_number n S (at_ : Int) 83 = some (match numS 83 (S.drop at_) with | .inl k => (-1, ((at_ + k : Nat) : Int)) | .inr (v, k) => ((v : Int), ((at_ + k : Nat) : Int))) := ref_num n 83 S at_ h hS

end Go.Sh
