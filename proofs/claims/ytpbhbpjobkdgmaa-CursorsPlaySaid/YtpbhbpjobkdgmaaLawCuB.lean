/- Chapter 12: the definition's reader, and the laws.
   Conditions: none. -/
import Derived.Test.YtpbhbpjobkdgmaaLawCuA
import Derived.KernelRfl
set_option linter.unusedSimpArgs false
set_option linter.unusedVariables false
namespace Go.Sh
open Go.Abs

theorem cu_lives (m : Nat) : circalaw12_lives (m + 60) = some true := by kernel_rfl

theorem rf_Same (n : Nat) (S : List UInt8) (at_ : Nat) (b e : Int) (t : List UInt8) (hS : S.length < 4611686018427387904) (ht : t.length < 4611686018427387904) (h : at_ ≤ S.length) (hn : t.length < n) :
    circaref12_Same n S (at_ : Int) b e t = some ((lcp (S.drop at_) t : Nat) : Int) := by
  unfold circaref12_Same
  have := iterL_inv (step := circaref12_Same_l0 n)
    (fun x => ∃ j : Nat, j ≤ t.length ∧ x = (t, (j : Int), S, (at_ : Int), b, e)) (fun x => t.length - x.2.1.toNat)
    (fun x => ((x.2.1.toNat + lcp (S.drop (at_ + x.2.1.toNat)) (t.drop x.2.1.toNat) : Nat) : Int)) ?_ n (t, 0, S, (at_ : Int), b, e) ⟨0, by omega, rfl⟩ (by simp; omega)
  · rw [this]; simp [ob]
  rintro x ⟨j, hj, rfl⟩
  simp only [Int.toNat_natCast, circaref12_Same_l0, nat_dec_lt]
  by_cases h1 : j < t.length
  · obtain ⟨c, hc⟩ : ∃ c, t[j]? = some c := ⟨t[j], List.getElem?_eq_getElem h1⟩
    have hadd : IntKind.wrap .i64 ((at_ : Int) + (j : Int)) = ((at_ + j : Nat) : Int) := by rw [wrap_i64 _ (by omega) (by omega)]; omega
    simp only [h1, decide_true, cond_true, hadd, nat_dec_lt]
    by_cases h2 : at_ + j < S.length
    · obtain ⟨d, hd⟩ : ∃ d, S[at_ + j]? = some d := ⟨S[at_ + j], List.getElem?_eq_getElem h2⟩
      have hw : IntKind.wrap .i64 ((j : Int) + 1) = ((j + 1 : Nat) : Int) := by rw [wrap_i64 _ (by omega) (by omega)]; omega
      simp only [h2, decide_true, cond_true, sx_nat hc, sx_nat hd, ob, u8_beq, drop_get hc, drop_get hd, lcp]
      cases hcd : d == c with
      | true =>
        refine .inl ⟨_, rfl, ⟨j + 1, by omega, by rw [hw]⟩, ?_, ?_⟩
        · simp only [hw, Int.toNat_natCast]; omega
        · simp only [hw, Int.toNat_natCast, if_true]
          rw [show at_ + (j + 1) = at_ + j + 1 by omega]
          omega
      | false => exact .inr (by simp)
    · refine .inr ?_
      have hz : lcp (S.drop (at_ + j)) (t.drop j) = 0 := by rw [List.drop_eq_nil_of_le (show S.length ≤ at_ + j by omega)]; rfl
      simp only [h2, decide_false, cond_false, hz, Nat.add_zero]
  · refine .inr ?_
    have hz : lcp (S.drop (at_ + j)) (t.drop j) = 0 := by rw [List.drop_eq_nil_of_le (show t.length ≤ j by omega)]; cases S.drop (at_ + j) <;> rfl
    simp only [h1, decide_false, cond_false, hz, Nat.add_zero]

theorem lcp_lt (s t : List UInt8) : lcp s t < t.length ↔ ¬ s.take t.length = t := by
  have h1 := lcp_all s t
  have h2 := lcp_le_right s t
  constructor
  · intro h e
    rw [e] at h1
    simp at h1; omega
  · intro h
    have : (s.take t.length == t) = false := by simpa using h
    rw [this] at h1
    have := h1.symm
    simp only [decide_eq_false_iff_not] at this
    omega

theorem rf_Take (n : Nat) (S : List UInt8) (at_ : Nat) (b e : Int) (t : List UInt8) (hS : S.length < 4611686018427387904) (ht : t.length < 4611686018427387904) (h : at_ ≤ S.length) (hn : t.length < n) :
    circaref12_Take n S (at_ : Int) b e t = some (if (S.drop at_).take t.length = t then (S, ((at_ + t.length : Nat) : Int), b, e, 1) else (S, (at_ : Int), b, e, 0)) := by
  simp only [circaref12_Take, rf_Same n S at_ b e t hS ht h hn, ob, nat_dec_lt, cond_dec, lcp_lt]
  by_cases hp : (S.drop at_).take t.length = t
  · have hl : t.length ≤ S.length - at_ := by
      have := congrArg List.length hp
      simp at this; omega
    have hw : IntKind.wrap .i64 ((at_ : Int) + ((t.length : Nat) : Int)) = ((at_ + t.length : Nat) : Int) := by rw [wrap_i64 _ (by omega) (by omega)]; omega
    simp only [hp, not_true_eq_false, if_false, if_true, hw]
  · simp only [hp, not_false_eq_true, if_true, if_false]

theorem rf_fail (n : Nat) (S : List UInt8) (at_ b e a x : Int) : circaref12_fail n S at_ b e a x = some (S, at_, a, if x = 0 then 5 else x) := by
  simp only [circaref12_fail, cond_beq]
  by_cases h : x = 0 <;> simp [h]

theorem rf_Want (n : Nat) (S : List UInt8) (at_ : Nat) (b e : Int) (t : List UInt8) (hS : S.length < 4611686018427387904) (ht : t.length < 4611686018427387904) (h : at_ ≤ S.length) (hn : t.length < n) :
    circaref12_Want n S (at_ : Int) b e t = some (if (S.drop at_).take t.length = t then (S, ((at_ + t.length : Nat) : Int), b, e) else (S, (at_ : Int), ((at_ + lcp (S.drop at_) t : Nat) : Int), 5)) := by
  have hk := lcp_le_left (S.drop at_) t
  rw [List.length_drop] at hk
  simp only [circaref12_Want, rf_Take n S at_ b e t hS ht h hn, rf_Same n S at_ b e t hS ht h hn, ob, rf_fail, cond_beq]
  have hw : IntKind.wrap .i64 ((at_ : Int) + ((lcp (S.drop at_) t : Nat) : Int)) = ((at_ + lcp (S.drop at_) t : Nat) : Int) := by rw [wrap_i64 _ (by omega) (by omega)]; omega
  by_cases hp : (S.drop at_).take t.length = t
  · simp [hp]
  · simp [hp, hw]

theorem rf_of (n : Nat) (c : UInt8) (set : List UInt8) (hs : set.length < 4611686018427387904) (hn : set.length < n) : circaref12_of n ((c.toNat : Nat) : Int) set = some (if hasB set c then 1 else 0) := by
  unfold circaref12_of
  have := iterL_inv (step := circaref12_of_l0 n)
    (fun x => ∃ j : Nat, j ≤ set.length ∧ x = (((c.toNat : Nat) : Int), set, (j : Int))) (fun x => set.length - x.2.2.toNat)
    (fun x => if hasB (set.drop x.2.2.toNat) c then Sum.inl 1 else Sum.inr ()) ?_ n (((c.toNat : Nat) : Int), set, 0) ⟨0, by omega, rfl⟩ (by simp; omega)
  · rw [this]
    simp only [ob, Int.toNat_zero, List.drop_zero]
    cases hasB set c <;> simp
  rintro x ⟨j, hj, rfl⟩
  simp only [Int.toNat_natCast, circaref12_of_l0, nat_dec_lt]
  by_cases h1 : j < set.length
  · obtain ⟨d, hd⟩ : ∃ d, set[j]? = some d := ⟨set[j], List.getElem?_eq_getElem h1⟩
    have hw : IntKind.wrap .i64 ((j : Int) + 1) = ((j + 1 : Nat) : Int) := by rw [wrap_i64 _ (by omega) (by omega)]; omega
    simp only [h1, decide_true, cond_true, sx_nat hd, ob, u8_beq, drop_get hd, hasB, List.any_cons]
    cases hcd : d == c with
    | true => exact .inr (by simp)
    | false =>
      refine .inl ⟨_, rfl, ⟨j + 1, by omega, by rw [hw]⟩, ?_, ?_⟩
      · simp only [hw, Int.toNat_natCast]; omega
      · simp only [hw, Int.toNat_natCast, Bool.false_or]
  · refine .inr ?_
    have hz : set.drop j = [] := List.drop_eq_nil_of_le (by omega)
    simp [h1, hasB, hz]

theorem rf_One (n : Nat) (S : List UInt8) (at_ : Nat) (b e : Int) (set : List UInt8) (hS : S.length < 4611686018427387904) (ht : set.length < 4611686018427387904) (h : at_ ≤ S.length) (hn : set.length < n) :
    circaref12_One n S (at_ : Int) b e set = some (match S.drop at_ with | c :: _ => if hasB set c then (((c.toNat : Nat) : Int), S, ((at_ + 1 : Nat) : Int), b, e) else (0, S, (at_ : Int), (at_ : Int), 5) | [] => (0, S, (at_ : Int), (at_ : Int), 5)) := by
  simp only [circaref12_One, nat_dec_ge, cond_dec, rf_fail, ob]
  rcases Nat.lt_or_ge at_ S.length with hlt | hge
  · obtain ⟨c, hc⟩ : ∃ c, S[at_]? = some c := ⟨S[at_], List.getElem?_eq_getElem hlt⟩
    have hw : IntKind.wrap .i64 ((at_ : Int) + 1) = ((at_ + 1 : Nat) : Int) := by rw [wrap_i64 _ (by omega) (by omega)]; omega
    have hw2 : IntKind.wrap .i64 (((at_ + 1 : Nat) : Int) - 1) = (at_ : Int) := by rw [wrap_i64 _ (by omega) (by omega)]; omega
    rw [drop_get hc]
    have hge : ¬ S.length ≤ at_ := by omega
    simp only [hge, if_false, sx_nat hc, rf_of n c set ht hn, hw, hw2]
    cases hasB set c <;> simp [sx_nat hc]
  · rw [List.drop_eq_nil_of_le hge]
    simp [hge]

theorem rf_Some_loop (n : Nat) (set : List UInt8) (least most : Int) (S : List UInt8) (at_ : Nat) (b e : Int) (q : List UInt8 × Int × Int × Int) (h : at_ ≤ S.length) (hS : S.length < 4611686018427387904) (ht : set.length < 4611686018427387904) (hn : S.length < n) (hn2 : set.length < n) :
    iterL (circaref12_Some_l0 n) n (set, least, most, (at_ : Int), 0, S, (at_ : Int), b, e, q.1, q.2.1, q.2.2.1, q.2.2.2) =
      some (least, (at_ : Int), ((spanN (hasB set) most.toNat (S.drop at_) : Nat) : Int), S, ((at_ + spanN (hasB set) most.toNat (S.drop at_) : Nat) : Int), b, e, q.1, q.2.1, q.2.2.1, q.2.2.2) := by
  have := iterL_inv (step := circaref12_Some_l0 n)
    (fun x => ∃ j : Nat, at_ + j ≤ S.length ∧ x = (set, least, most, (at_ : Int), (j : Int), S, ((at_ + j : Nat) : Int), b, e, q.1, q.2.1, q.2.2.1, q.2.2.2))
    (fun x => S.length - x.2.2.2.2.2.2.1.toNat)
    (fun x => (least, (at_ : Int), ((x.2.2.2.2.1.toNat + spanN (hasB set) (most.toNat - x.2.2.2.2.1.toNat) (S.drop (at_ + x.2.2.2.2.1.toNat)) : Nat) : Int), S, ((at_ + (x.2.2.2.2.1.toNat + spanN (hasB set) (most.toNat - x.2.2.2.2.1.toNat) (S.drop (at_ + x.2.2.2.2.1.toNat))) : Nat) : Int), b, e, q.1, q.2.1, q.2.2.1, q.2.2.2)) ?_ n
    (set, least, most, (at_ : Int), 0, S, (at_ : Int), b, e, q.1, q.2.1, q.2.2.1, q.2.2.2) ⟨0, by omega, by simp⟩ (by simp; omega)
  · simpa using this
  rintro x ⟨j, hj, rfl⟩
  simp only [Int.toNat_natCast, circaref12_Some_l0, nat_dec_lt]
  by_cases hm : (j : Int) < most
  · simp only [hm, decide_true, cond_true]
    rcases Nat.lt_or_ge (at_ + j) S.length with hlt | hge
    · obtain ⟨c, hc⟩ : ∃ c, S[at_ + j]? = some c := ⟨S[at_ + j], List.getElem?_eq_getElem hlt⟩
      have hw : IntKind.wrap .i64 (((at_ + j : Nat) : Int) + 1) = ((at_ + (j + 1) : Nat) : Int) := by rw [wrap_i64 _ (by omega) (by omega)]; omega
      have hw2 : IntKind.wrap .i64 ((j : Int) + 1) = ((j + 1 : Nat) : Int) := by rw [wrap_i64 _ (by omega) (by omega)]; omega
      obtain ⟨k, hk⟩ : ∃ k, most.toNat - j = k + 1 := ⟨most.toNat - j - 1, by omega⟩
      simp only [hlt, decide_true, cond_true, sx_nat hc, ob, rf_of n c set ht hn2, drop_get hc, hk, spanN, hw, hw2]
      cases hb : hasB set c with
      | true =>
        simp only [if_true, BEq.rfl, cond_true]
        refine .inl ⟨_, rfl, ⟨j + 1, by omega, rfl⟩, ?_, ?_⟩
        · simp only [Int.toNat_natCast]; omega
        · have h1 : most.toNat - (j + 1) = k := by omega
          simp only [Int.toNat_natCast, h1, show at_ + (j + 1) = at_ + j + 1 by omega]
          simp only [Prod.mk.injEq, true_and, and_true]
          constructor <;> omega
      | false => exact .inr (by simp)
    · refine .inr ?_
      have h1 : spanN (hasB set) (most.toNat - j) (S.drop (at_ + j)) = 0 := by
        rw [List.drop_eq_nil_of_le hge]; cases most.toNat - j <;> rfl
      have h2 : ¬ at_ + j < S.length := by omega
      simp only [h2, decide_false, cond_false, h1, Nat.add_zero]
  · refine .inr ?_
    have h0 : most.toNat - j = 0 := by omega
    simp only [hm, decide_false, cond_false, h0, spanN, Nat.add_zero]

theorem rf_Some (n : Nat) (S : List UInt8) (at_ : Nat) (b e : Int) (set : List UInt8) (least most : Int) (h : at_ ≤ S.length) (hS : S.length < 4611686018427387904) (ht : set.length < 4611686018427387904) (hn : S.length < n) (hn2 : set.length < n) :
    circaref12_Some n S (at_ : Int) b e set least most = some (if ((spanN (hasB set) most.toNat (S.drop at_) : Nat) : Int) < least
      then ([], S, ((at_ + spanN (hasB set) most.toNat (S.drop at_) : Nat) : Int), ((at_ + spanN (hasB set) most.toNat (S.drop at_) : Nat) : Int), 5)
      else ((S.drop at_).take (spanN (hasB set) most.toNat (S.drop at_)), S, ((at_ + spanN (hasB set) most.toNat (S.drop at_) : Nat) : Int), b, e)) := by
  have hk := spanN_le (hasB set) most.toNat (S.drop at_)
  rw [List.length_drop] at hk
  simp only [circaref12_Some, rf_Some_loop n set least most S at_ b e ([], 0, 0, 0) h hS ht hn hn2, ob]
  generalize spanN (hasB set) most.toNat (S.drop at_) = k at hk ⊢
  simp only [cond_dec, rf_fail]
  by_cases hl : (k : Int) < least
  · simp [hl]
  · simp only [hl, if_false]
    rw [bx_nat (by omega)]
    simp only
    rw [bx_nat (by omega)]
    simp only [drop_take_sub]

end Go.Sh
