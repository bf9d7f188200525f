/- Chapter 14: how years are read, by the definition; and both.
   Conditions: none. Printed by program in part. -/
import Derived.Test.YtbghdnhhpanidaaGreatDoorLawYfH
set_option linter.unusedSimpArgs false
set_option linter.unusedVariables false
set_option maxRecDepth 20000
namespace Go.Sh
open Go.Abs

/-- What the definition does behind Y and sign. -/
noncomputable def tailR (n : Nat) (a0 : List UInt8) (B M : Int) (g L : Bool) : Option (Bool × Bool × List UInt8 × Int × Int × Int × Int) :=
  (ob (iterL (circaref14_Read_l0 n) n (a0, B, B, M, false, false, [], 0, 0, g, L, [], 0, 0)) fun y559 => (Sum.casesOn (motive := fun _ => Option (Bool × Bool × List UInt8 × Int × Int × Int × Int)) y559 (fun a560 => (some (a560.2.2.1, a560.2.2.2.1, a560.2.2.2.2.1, a560.2.2.2.2.2.1, a560.2.2.2.2.2.2, a560.1, a560.2.1))) (fun b561 => (cond (decide ((IntKind.wrap .i64 (b561.2.1 - b561.2.2.1)) < 1)) (some (false, false, [], 0, 0, b561.2.1, 5)) (cond (!b561.2.2.2.2.2.2.2.2.2.1) (cond (decide ((IntKind.wrap .i64 (b561.2.1 - b561.2.2.1)) < 4)) (some (false, false, [], 0, 0, b561.2.1, 5)) (ob (bx (List.length b561.1) b561.2.1) fun j562 => (ob (bx j562 b561.2.2.1) fun j563 => (cond b561.2.2.2.2.2.2.2.2.2.1 (ob (circaref14_number n b561.1 b561.2.1 69) fun r571 => (cond (decide (r571.1 < 0)) (some (false, false, [], 0, 0, r571.2, 5)) (ob (circaref14_number n b561.1 r571.2 83) fun r572 => (cond (decide (r572.1 < 0)) (some (false, false, [], 0, 0, r572.2, 5)) (some (b561.2.2.2.2.2.2.2.2.1, b561.2.2.2.2.2.2.2.2.2.1, (List.drop j563 (List.take j562 b561.1)), r571.1, r572.1, r572.2, 0)))))) (ob (circaref14_number n b561.1 b561.2.1 83) fun r573 => (cond (decide (r573.1 < 0)) (some (false, false, [], 0, 0, r573.2, 5)) (some (b561.2.2.2.2.2.2.2.2.1, b561.2.2.2.2.2.2.2.2.2.1, (List.drop j563 (List.take j562 b561.1)), b561.2.2.2.2.2.2.2.2.2.2.2.1, r573.1, r573.2, 0)))))))) (ob (bx (List.length b561.1) b561.2.1) fun j574 => (ob (bx j574 b561.2.2.1) fun j575 => (cond b561.2.2.2.2.2.2.2.2.2.1 (ob (circaref14_number n b561.1 b561.2.1 69) fun r576 => (cond (decide (r576.1 < 0)) (some (false, false, [], 0, 0, r576.2, 5)) (ob (circaref14_number n b561.1 r576.2 83) fun r577 => (cond (decide (r577.1 < 0)) (some (false, false, [], 0, 0, r577.2, 5)) (some (b561.2.2.2.2.2.2.2.2.1, b561.2.2.2.2.2.2.2.2.2.1, (List.drop j575 (List.take j574 b561.1)), r576.1, r577.1, r577.2, 0)))))) (ob (circaref14_number n b561.1 b561.2.1 83) fun r578 => (cond (decide (r578.1 < 0)) (some (false, false, [], 0, 0, r578.2, 5)) (some (b561.2.2.2.2.2.2.2.2.1, b561.2.2.2.2.2.2.2.2.2.1, (List.drop j575 (List.take j574 b561.1)), b561.2.2.2.2.2.2.2.2.2.2.2.1, r578.1, r578.2, 0))))))))))))

theorem isYB_true (c : UInt8) : isYB true c = isDig c := by unfold isYB; cases isDig c <;> simp
theorem isYB_false (c : UInt8) : isYB false c = isDX c := by unfold isYB isDX; simp

theorem spanN_top (p : UInt8 → Bool) : ∀ (k : Nat) (l : List UInt8), spanN p k l ≤ k
  | 0, l => by simp [spanN]
  | k + 1, [] => by simp [spanN]
  | k + 1, c :: l => by
    have := spanN_top p k l
    simp only [spanN]
    split <;> omega

theorem neg1_lt : decide ((-1 : Int) < 0) = true := rfl
theorem nat_nlt (x : Nat) : decide (((x : Nat) : Int) < 0) = false := decide_eq_false (by omega)

theorem tail_long (n : Nat) (S : List UInt8) (at_ o : Nat) (g : Bool) (h : at_ + o ≤ S.length) (hS : S.length < 100000) (hn : S.length < n) :
    tailR n S ((at_ + o : Nat) : Int) 17 g true = some (refOut at_ (longS g o (S.drop (at_ + o)))) := by
  unfold tailR
  cases hd : S.drop (at_ + o) with
  | nil =>
    have hnone : ¬ (true = true ∧ S[at_ + o]? = some 48) := by
      rintro ⟨_, q⟩
      rw [drop_get q] at hd
      cases hd
    have hl := ref_loop n S (at_ + o) 17 g true h hS hn hnone
    rw [hd] at hl
    have hz : spanN (isYB true) 17 [] = 0 := rfl
    rw [hz, Nat.add_zero] at hl
    have hl' : iterL (circaref14_Read_l0 n) n (S, ((at_ + o : Nat) : Int), ((at_ + o : Nat) : Int), (17 : Int), false, false, [], 0, 0, g, true, [], 0, 0) = _ := hl
    rw [hl']
    have w : IntKind.wrap .i64 (((at_ + o : Nat) : Int) - ((at_ + o : Nat) : Int)) = 0 := by rw [Int.sub_self]; rfl
    simp only [ob, w, longS, refOut]
    rfl
  | cons c r =>
    obtain ⟨hlt, hg, hr⟩ := drop_lt hd
    by_cases hc : c = 48
    · subst hc
      obtain ⟨n', rfl⟩ : ∃ q, n = q + 1 := ⟨n - 1, by omega⟩
      have hl := ref_loop0 n' S (at_ + o) 17 g (by omega) hS hg
      have hl' : iterL (circaref14_Read_l0 (n' + 1)) (n' + 1) (S, ((at_ + o : Nat) : Int), ((at_ + o : Nat) : Int), (17 : Int), false, false, [], 0, 0, g, true, [], 0, 0) = _ := hl
      rw [hl']
      have hno : ¬ (49 ≤ (48 : UInt8).toNat ∧ (48 : UInt8).toNat ≤ 57) := by decide
      simp only [ob, longS, refOut]
      rw [if_neg hno]
    · have hno : ¬ (true = true ∧ S[at_ + o]? = some 48) := by
        rintro ⟨_, q⟩
        rw [hg] at q
        exact hc (by simpa using q)
      have hl := ref_loop n S (at_ + o) 17 g true h hS hn hno
      rw [hd, spanN_congr isYB_true] at hl
      have hk := spanN_le isDig 17 (c :: r)
      have hrl : (c :: r).length + (at_ + o) = S.length := by
        have := congrArg List.length hd
        rw [List.length_drop] at this
        omega
      have hl' : iterL (circaref14_Read_l0 n) n (S, ((at_ + o : Nat) : Int), ((at_ + o : Nat) : Int), (17 : Int), false, false, [], 0, 0, g, true, [], 0, 0) = _ := hl
      rw [hl']
      have w : ∀ k : Nat, k ≤ 17 → IntKind.wrap .i64 (((at_ + o + k : Nat) : Int) - ((at_ + o : Nat) : Int)) = (k : Int) := by
        intro k hk17
        rw [wrap_i64 _ (by omega) (by omega)]; omega
      by_cases hdg : isDig c = true
      · have hcd := (isDig_iff c).1 hdg
        have h49 : 49 ≤ c.toNat ∧ c.toNat ≤ 57 := by
          have : c.toNat ≠ 48 := fun e => hc (UInt8.toNat_inj.1 e)
          omega
        have hs17 : spanN isDig 17 (c :: r) = 1 + spanN isDig 16 r := by
          show spanN isDig (16 + 1) (c :: r) = _
          simp only [spanN, hdg, if_true]
          omega
        rw [hs17] at hk ⊢
        have htop := spanN_top isDig 16 r
        simp only [longS]
        rw [if_pos h49]
        generalize spanN isDig 16 r = k at hk htop ⊢
        have d1 : decide (((1 + k : Nat) : Int) < 1) = false := decide_eq_false (by omega)
        simp only [ob, w (1 + k) (by omega), d1, cond_false, Bool.not_true, cond_true, bx_nat (show at_ + o + (1 + k) ≤ S.length by omega), bx_nat (show at_ + o ≤ at_ + o + (1 + k) by omega)]
        have hp1 : at_ + o + (1 + k) ≤ S.length := by omega
        have hdr : S.drop (at_ + o + (1 + k)) = List.drop (1 + k) (c :: r) := by rw [← hd, List.drop_drop]
        rw [ref_num69 n S (at_ + o + (1 + k)) hp1 hS, hdr, drop_take_sub, hd]
        cases hq : numS 69 (List.drop (1 + k) (c :: r)) with
        | inl j =>
          simp only [neg1_lt, cond_true, refOut]
          have : at_ + o + (1 + k) + j = at_ + (o + (1 + k) + j) := by omega
          rw [this]
        | inr p =>
          obtain ⟨x, j⟩ := p
          have hj := hq
          rw [← hdr] at hj
          have hp2 := numS_bound hp1 hj
          have hdr2 : S.drop (at_ + o + (1 + k) + j) = List.drop (1 + k + j) (c :: r) := by rw [← hd, List.drop_drop]; congr 1; omega
          simp only [nat_nlt, cond_false]
          rw [ref_num83 n S (at_ + o + (1 + k) + j) hp2 hS, hdr2]
          cases hq2 : numS 83 (List.drop (1 + k + j) (c :: r)) with
          | inl i =>
            simp only [neg1_lt, cond_true, refOut]
            have : at_ + o + (1 + k) + j + i = at_ + (o + (1 + k) + j + i) := by omega
            rw [this]
          | inr p2 =>
            obtain ⟨s, i⟩ := p2
            simp only [nat_nlt, cond_false, refOut]
            have : at_ + o + (1 + k) + j + i = at_ + (o + (1 + k) + j + i) := by omega
            rw [this]
      · have hs17 : spanN isDig 17 (c :: r) = 0 := by
          show spanN isDig (16 + 1) (c :: r) = 0
          simp only [spanN]
          rw [if_neg hdg]
        have h49 : ¬ (49 ≤ c.toNat ∧ c.toNat ≤ 57) := fun q => hdg ((isDig_iff c).2 (by omega))
        rw [hs17]
        simp only [longS]
        rw [if_neg h49]
        simp only [ob, w 0 (by omega), refOut]
        rfl

theorem tail_short (n : Nat) (S : List UInt8) (at_ o : Nat) (g : Bool) (h : at_ + o ≤ S.length) (hS : S.length < 100000) (hn : S.length < n) :
    tailR n S ((at_ + o : Nat) : Int) 4 g false = some (refOut at_ (shortS g o (S.drop (at_ + o)))) := by
  unfold tailR
  have hl := ref_loop n S (at_ + o) 4 g false h hS hn (by rintro ⟨q, _⟩; cases q)
  rw [spanN_congr isYB_false] at hl
  have hk := spanN_le isDX 4 (S.drop (at_ + o))
  have htop := spanN_top isDX 4 (S.drop (at_ + o))
  rw [List.length_drop] at hk
  have hl' : iterL (circaref14_Read_l0 n) n (S, ((at_ + o : Nat) : Int), ((at_ + o : Nat) : Int), (4 : Int), false, false, [], 0, 0, g, false, [], 0, 0) = _ := hl
  rw [hl']
  unfold shortS
  generalize hK : spanN isDX 4 (S.drop (at_ + o)) = k at hk htop ⊢
  have w : IntKind.wrap .i64 (((at_ + o + k : Nat) : Int) - ((at_ + o : Nat) : Int)) = (k : Int) := by rw [wrap_i64 _ (by omega) (by omega)]; omega
  simp only [ob, w, Bool.not_false, cond_true, cond_false]
  by_cases h4 : k < 4
  · rw [if_pos h4]
    have e1 : decide ((k : Int) < 4) = true := decide_eq_true (by omega)
    rw [e1]
    have e2 : at_ + o + k = at_ + (o + k) := by omega
    simp only [cond_true, refOut, e2]
    cases decide ((k : Int) < 1) <;> rfl
  · rw [if_neg h4]
    have hk4 : k = 4 := by omega
    subst hk4
    have e1 : decide (((4 : Nat) : Int) < 4) = false := rfl
    have e2 : decide (((4 : Nat) : Int) < 1) = false := rfl
    have hp : at_ + o + 4 ≤ S.length := by omega
    simp only [e1, e2, cond_false, bx_nat hp, bx_nat (show at_ + o ≤ at_ + o + 4 by omega)]
    rw [ref_num83 n S (at_ + o + 4) hp hS, drop_take_sub, List.drop_drop]
    cases hq : numS 83 (S.drop (at_ + o + 4)) with
    | inl i =>
      simp only [neg1_lt, cond_true, refOut]
      have : at_ + o + 4 + i = at_ + (o + 4 + i) := by omega
      rw [this]
    | inr p =>
      obtain ⟨s, i⟩ := p
      simp only [nat_nlt, cond_false, refOut]
      have : at_ + o + 4 + i = at_ + (o + 4 + i) := by omega
      rw [this]
      rfl

theorem takes_cons (c : UInt8) (a : UInt8) (l : List UInt8) : takes c (a :: l) = if a = c then 1 else 0 := by
  unfold takes; simp

theorem takes_nil (c : UInt8) : takes c [] = 0 := by unfold takes; simp

theorem ref_Read (n : Nat) (S : List UInt8) (at_ : Nat) (h : at_ ≤ S.length) (hS : S.length < 100000) (hn : S.length < n) :
    circaref14_Read n S (at_ : Int) = some (refOut at_ (readS (S.drop at_))) := by
  have tl := fun o g q => tail_long n S at_ o g q hS hn
  have ts := fun o g q => tail_short n S at_ o g q hS hn
  unfold tailR at tl ts
  have w1 : IntKind.wrap .i64 ((at_ : Int) + 1) = ((at_ + 1 : Nat) : Int) := by rw [wrap_i64 _ (by omega) (by omega)]; omega
  have w2 : IntKind.wrap .i64 (((at_ + 1 : Nat) : Int) + 1) = ((at_ + 2 : Nat) : Int) := by rw [wrap_i64 _ (by omega) (by omega)]; omega
  unfold circaref14_Read readS
  rw [w1, w2]
  have t0 := ts 0 false (by omega)
  simp only [Nat.add_zero] at t0
  cases hd : S.drop at_ with
  | nil =>
    have hge : ¬ at_ < S.length := by
      intro q
      rw [drop_get (List.getElem?_eq_getElem q)] at hd; cases hd
    rw [nat_dec_lt, decide_eq_false hge, cond_false, cond_false, t0, hd]
    rfl
  | cons c r =>
    obtain ⟨hlt, hg, hr⟩ := drop_lt hd
    have hc89 : (((c.toNat : Nat) : Int) == 89) = (c == 89) := u8_beq c 89
    have hc45 : (((c.toNat : Nat) : Int) == 45) = (c == 45) := u8_beq c 45
    rw [nat_dec_lt, decide_eq_true hlt, cond_true, sx_nat hg]
    simp only [ob]
    rw [hc89, hc45, takes_cons]
    by_cases h89 : c = 89
    · have e : (c == 89) = true := beq_iff_eq.2 h89
      rw [e, cond_true, if_pos h89, if_pos rfl, nat_dec_lt]
      have hdd : List.drop 1 (c :: r) = r := rfl
      rw [hdd]
      have t1 := tl 1 false (by omega)
      cases hr' : r with
      | nil =>
        rw [hr'] at hr
        have hge : ¬ at_ + 1 < S.length := by
          intro q
          rw [drop_get (List.getElem?_eq_getElem q)] at hr; cases hr
        simp only [ob] at t1
        rw [decide_eq_false hge, cond_false, t1, hr, takes_nil]
        rfl
      | cons d r2 =>
        rw [hr'] at hr
        obtain ⟨hlt2, hg2, hr2⟩ := drop_lt hr
        have hd45 : (((d.toNat : Nat) : Int) == 45) = (d == 45) := u8_beq d 45
        rw [decide_eq_true hlt2, cond_true, sx_nat hg2]
        simp only []
        rw [hd45, takes_cons]
        by_cases h45 : d = 45
        · have e2 : (d == 45) = true := beq_iff_eq.2 h45
          have t2 := tl 2 true (by omega)
          simp only [ob] at t2
          rw [e2, cond_true, if_pos h45, t2]
          rw [show at_ + 2 = at_ + 1 + 1 from rfl, hr2]
          rfl
        · have e2 : (d == 45) = false := beq_eq_false_iff_ne.2 h45
          simp only [ob] at t1
          rw [e2, cond_false, if_neg h45, t1, hr]
          rfl
    · have e : (c == 89) = false := beq_eq_false_iff_ne.2 h89
      rw [e, cond_false, if_neg h89, if_neg (by decide), takes_cons]
      by_cases h45 : c = 45
      · have e2 : (c == 45) = true := beq_iff_eq.2 h45
        have t2 := ts 1 true (by omega)
        simp only [ob] at t2
        rw [e2, if_pos h45]
        simp only [cond_true]
        rw [t2, hr]
        rfl
      · have e2 : (c == 45) = false := beq_eq_false_iff_ne.2 h45
        simp only [ob] at t0
        rw [e2, if_neg h45]
        simp only [cond_false]
        rw [t0, hd]
        rfl

end Go.Sh
