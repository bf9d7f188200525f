/- Chapter 12: what the functions of a cursor do.
   Conditions: none. -/
import Derived.Test.YtbghdnhhpanidaaGreatDoorLawCond
import Derived.Test.YtbghdnhhpanidaaGreatDoorShY
import Derived.Lib.IndexLaws
set_option linter.unusedSimpArgs false
set_option linter.unusedVariables false
namespace Go.Sh
open Go.Abs

/-- Is a byte one of a set? -/
def hasB (set : List UInt8) (c : UInt8) : Bool := set.any fun d => d == c

theorem indexByte_neg (set : List UInt8) (c : UInt8) : (decide (Lib.indexByte set c < 0)) = !hasB set c := by
  induction set with
  | nil => simp [Lib.indexByte, hasB]
  | cons d l ih =>
    have hge := Lib.indexByte_ge l c
    simp only [hasB, List.any_cons] at ih ⊢
    unfold Lib.indexByte
    by_cases h : d = c
    · simp [h]
    · have hb : (d == c) = false := by simpa using h
      simp only [hb, Bool.false_eq_true, if_false, Bool.false_or]
      rw [← ih]
      by_cases h1 : Lib.indexByte l c = -1
      · simp [h1]
      · have hb1 : (Lib.indexByte l c == -1) = false := by simpa using h1
        simp only [hb1, Bool.false_eq_true, if_false]
        have : ¬ Lib.indexByte l c + 1 < 0 := by omega
        have : ¬ Lib.indexByte l c < 0 := by omega
        simp [*]

theorem indexByte_pos (set : List UInt8) (c : UInt8) : (decide (Lib.indexByte set c ≥ 0)) = hasB set c := by
  have := indexByte_neg set c
  by_cases h : Lib.indexByte set c < 0
  · have h2 : ¬ Lib.indexByte set c ≥ 0 := by omega
    simp only [h, h2, decide_true, decide_false] at this ⊢
    revert this; cases hasB set c <;> simp
  · have h2 : Lib.indexByte set c ≥ 0 := by omega
    simp only [h, h2, decide_true, decide_false] at this ⊢
    revert this; cases hasB set c <;> simp

/-- How far two texts agree. -/
def lcp : List UInt8 → List UInt8 → Nat
  | c :: s, d :: t => if c == d then lcp s t + 1 else 0
  | _, _ => 0

theorem lcp_le_right : ∀ s t : List UInt8, lcp s t ≤ t.length
  | [], _ => by simp [lcp]
  | _ :: _, [] => by simp [lcp]
  | c :: s, d :: t => by
    have := lcp_le_right s t
    simp only [lcp, List.length_cons]
    split <;> omega

theorem lcp_le_left : ∀ s t : List UInt8, lcp s t ≤ s.length
  | [], _ => by simp [lcp]
  | _ :: _, [] => by simp [lcp]
  | c :: s, d :: t => by
    have := lcp_le_left s t
    simp only [lcp, List.length_cons]
    split <;> omega

theorem lcp_all : ∀ s t : List UInt8, (s.take t.length == t) = decide (lcp s t = t.length)
  | s, [] => by cases s <;> simp [lcp]
  | [], d :: t => by simp [lcp]
  | c :: s, d :: t => by
    have := lcp_all s t
    simp only [List.length_cons, List.take_succ_cons, lcp]
    by_cases h : c = d
    · subst h
      simp only [BEq.rfl, if_true, List.cons_beq_cons, Bool.true_and, this]
      by_cases h2 : lcp s t = t.length <;> simp [h2]
    · have hb : (c == d) = false := by simpa using h
      simp [hb]

/-- How many of the next bytes, at most so many, are of a kind. -/
def spanN (p : UInt8 → Bool) : Nat → List UInt8 → Nat
  | 0, _ => 0
  | _ + 1, [] => 0
  | k + 1, c :: l => if p c then spanN p k l + 1 else 0

theorem spanN_le (p : UInt8 → Bool) : ∀ (k : Nat) (l : List UInt8), spanN p k l ≤ l.length
  | 0, _ => by simp [spanN]
  | _ + 1, [] => by simp [spanN]
  | k + 1, c :: l => by
    have := spanN_le p k l
    simp only [spanN, List.length_cons]
    split <;> omega

theorem cur_Rest (n : Nat) (S : List UInt8) (at_ : Nat) (h : at_ ≤ S.length) : cursors_Cursor_Rest n S (at_ : Int) = some (S.drop at_) := by
  simp [cursors_Cursor_Rest, ob, bx_nat h]

theorem hasPrefix_eq (n : Nat) (s p : List UInt8) : strings_HasPrefix n s p = some (s.take p.length == p) := by
  simp only [strings_HasPrefix, int_stringslite_HasPrefix, nat_dec_ge]
  by_cases h : p.length ≤ s.length
  · simp [h, ob, bx_nat h]
  · have : (s.take p.length == p) = false := by
      rw [beq_eq_false_iff_ne]
      intro e
      have := congrArg List.length e
      rw [List.length_take] at this
      omega
    simp [h, ob, this]

theorem cur_Is (n : Nat) (t S : List UInt8) (at_ : Nat) (h : at_ ≤ S.length) : cursors_Cursor_Is n t S (at_ : Int) = some ((S.drop at_).take t.length == t) := by
  simp [cursors_Cursor_Is, cur_Rest n S at_ h, ob, hasPrefix_eq]

theorem cur_Take (n : Nat) (t S : List UInt8) (at_ : Nat) (h : at_ ≤ S.length) (hS : S.length < 4611686018427387904) :
    cursors_Cursor_Take n t S (at_ : Int) = some (if (S.drop at_).take t.length = t then (true, S, ((at_ + t.length : Nat) : Int)) else (false, S, (at_ : Int))) := by
  simp only [cursors_Cursor_Take, cur_Is n t S at_ h, ob]
  by_cases hp : (S.drop at_).take t.length = t
  · have hl : t.length ≤ S.length - at_ := by
      have := congrArg List.length hp
      simp at this; omega
    have hw : IntKind.wrap .i64 ((at_ : Int) + ((t.length : Nat) : Int)) = ((at_ + t.length : Nat) : Int) := by rw [wrap_i64 _ (by omega) (by omega)]; omega
    simp [hp, hw]
  · simp only [cond_neg, cond_beq, hp, if_false]

theorem cur_At (n : Nat) (S : List UInt8) (i : Int) : cursors_Cursor_At n S i = some i := rfl

/-- The byte at the place, as the program has it. -/
def peek (l : List UInt8) : Int × Bool := match l with | c :: _ => (((c.toNat : Nat) : Int), true) | [] => (0, false)

theorem cur_Peek (n : Nat) (S : List UInt8) (at_ : Nat) (h : at_ ≤ S.length) : cursors_Cursor_Peek n S (at_ : Int) = some (peek (S.drop at_)) := by
  simp only [cursors_Cursor_Peek, cur_Rest n S at_ h, ob]
  rcases Nat.lt_or_ge at_ S.length with hlt | hge
  · obtain ⟨c, hc⟩ : ∃ c, S[at_]? = some c := ⟨S[at_], List.getElem?_eq_getElem hlt⟩
    rw [drop_get hc]
    simp [sx_nat hc, peek]
  · rw [List.drop_eq_nil_of_le hge]
    simp [peek]

theorem cur_Fail (n : Nat) (a e : Int) (S : List UInt8) (i : Int) : cursors_Cursor_Fail n a e S i = some (a, if e = 0 then 5 else e) := by
  simp only [cursors_Cursor_Fail, cond_beq]
  by_cases h : e = 0 <;> simp [h]

theorem strings_IndexByte_eq (n : Nat) (set : List UInt8) (c : UInt8) : strings_IndexByte n set ((c.toNat : Nat) : Int) = some (Lib.indexByte set c) := by
  simp only [strings_IndexByte, int_stringslite_IndexByte, ob, u8_of]

theorem cur_One (n : Nat) (set S : List UInt8) (at_ : Nat) (h : at_ ≤ S.length) (hS : S.length < 4611686018427387904) :
    cursors_Cursor_One n set S (at_ : Int) = some (match S.drop at_ with | c :: _ => if hasB set c then .inr (((c.toNat : Nat) : Int), S, ((at_ + 1 : Nat) : Int)) else .inl ((at_ : Int), 5, S, (at_ : Int)) | [] => .inl ((at_ : Int), 5, S, (at_ : Int))) := by
  simp only [cursors_Cursor_One, cur_Peek n S at_ h, ob]
  rcases Nat.lt_or_ge at_ S.length with hlt | hge
  · obtain ⟨c, hc⟩ : ∃ c, S[at_]? = some c := ⟨S[at_], List.getElem?_eq_getElem hlt⟩
    have hw : IntKind.wrap .i64 ((at_ : Int) + 1) = ((at_ + 1 : Nat) : Int) := by rw [wrap_i64 _ (by omega) (by omega)]; omega
    rw [drop_get hc]
    simp only [peek, Bool.not_true, cond_false, strings_IndexByte_eq, indexByte_neg, cur_At, cur_Fail, ob, hw]
    cases hasB set c <;> simp
  · rw [List.drop_eq_nil_of_le hge]
    simp [peek, cur_At, cur_Fail, ob]

theorem drop_take_sub (S : List UInt8) (a k : Nat) : List.drop a (List.take (a + k) S) = (S.drop a).take k := by
  rw [List.drop_take]; congr 1; omega

theorem cur_Some_loop (n : Nat) (set : List UInt8) (least most : Int) (S : List UInt8) (at_ : Nat) (h : at_ ≤ S.length) (hS : S.length < 4611686018427387904) (hn : S.length < n) :
    iterL (cursors_Cursor_Some_l0 n) n (set, least, most, (at_ : Int), (peek (S.drop at_)).1, (peek (S.drop at_)).2, S, (at_ : Int)) =
      some (least, (at_ : Int), S, ((at_ + spanN (hasB set) most.toNat (S.drop at_) : Nat) : Int)) := by
  have := iterL_inv (step := cursors_Cursor_Some_l0 n)
    (fun x => ∃ j : Nat, at_ + j ≤ S.length ∧ x = (set, least, most, (at_ : Int), (peek (S.drop (at_ + j))).1, (peek (S.drop (at_ + j))).2, S, ((at_ + j : Nat) : Int)))
    (fun x => S.length - x.2.2.2.2.2.2.2.toNat)
    (fun x => (least, (at_ : Int), S, ((x.2.2.2.2.2.2.2.toNat + spanN (hasB set) (most.toNat - (x.2.2.2.2.2.2.2.toNat - at_)) (S.drop x.2.2.2.2.2.2.2.toNat) : Nat) : Int))) ?_ n
    (set, least, most, (at_ : Int), (peek (S.drop at_)).1, (peek (S.drop at_)).2, S, (at_ : Int)) ⟨0, by omega, by simp⟩ (by simp; omega)
  · simpa using this
  rintro x ⟨j, hj, rfl⟩
  simp only [Int.toNat_natCast]
  have hsub : IntKind.wrap .i64 (((at_ + j : Nat) : Int) - (at_ : Int)) = (j : Int) := by rw [wrap_i64 _ (by omega) (by omega)]; omega
  rcases Nat.lt_or_ge (at_ + j) S.length with hlt | hge
  · obtain ⟨c, hc⟩ : ∃ c, S[at_ + j]? = some c := ⟨S[at_ + j], List.getElem?_eq_getElem hlt⟩
    have hw : IntKind.wrap .i64 (((at_ + j : Nat) : Int) + 1) = ((at_ + (j + 1) : Nat) : Int) := by rw [wrap_i64 _ (by omega) (by omega)]; omega
    simp only [cursors_Cursor_Some_l0, drop_get hc, peek, cond_true, hsub]
    by_cases hm : (j : Int) < most
    · obtain ⟨k, hk⟩ : ∃ k, most.toNat - (at_ + j - at_) = k + 1 := ⟨most.toNat - j - 1, by omega⟩
      simp only [hm, decide_true, cond_true, strings_IndexByte_eq, ob, indexByte_pos, hk, spanN]
      cases hb : hasB set c with
      | true =>
        simp only [hw, cur_Peek n S (at_ + (j + 1)) (by omega), cond_true]
        refine .inl ⟨_, rfl, ⟨j + 1, by omega, rfl⟩, ?_, ?_⟩
        · simp only [Int.toNat_natCast]; omega
        · simp only [Int.toNat_natCast, Prod.mk.injEq, true_and, if_true]
          have : most.toNat - (at_ + (j + 1) - at_) = k := by omega
          rw [this, show at_ + (j + 1) = at_ + j + 1 by omega]
          omega
      | false => exact .inr (by simp)
    · refine .inr ?_
      have : most.toNat - (at_ + j - at_) = 0 := by omega
      simp only [hm, decide_false, cond_false, this, spanN, Nat.add_zero]
  · refine .inr ?_
    simp only [cursors_Cursor_Some_l0, List.drop_eq_nil_of_le hge, peek, cond_false]
    have : spanN (hasB set) (most.toNat - (at_ + j - at_)) [] = 0 := by cases most.toNat - (at_ + j - at_) <;> rfl
    simp only [this, Nat.add_zero]

theorem cur_Some (n : Nat) (set : List UInt8) (least most : Int) (S : List UInt8) (at_ : Nat) (h : at_ ≤ S.length) (hS : S.length < 4611686018427387904) (hn : S.length < n) :
    cursors_Cursor_Some n set least most S (at_ : Int) = some (if ((spanN (hasB set) most.toNat (S.drop at_) : Nat) : Int) < least
      then .inl (((at_ + spanN (hasB set) most.toNat (S.drop at_) : Nat) : Int), 5, S, ((at_ + spanN (hasB set) most.toNat (S.drop at_) : Nat) : Int))
      else .inr ((S.drop at_).take (spanN (hasB set) most.toNat (S.drop at_)), S, ((at_ + spanN (hasB set) most.toNat (S.drop at_) : Nat) : Int))) := by
  have hk := spanN_le (hasB set) most.toNat (S.drop at_)
  rw [List.length_drop] at hk
  simp only [cursors_Cursor_Some, cur_At, cur_Peek n S at_ h, ob]
  rw [cur_Some_loop n set least most S at_ h hS hn]
  generalize spanN (hasB set) most.toNat (S.drop at_) = k at hk ⊢
  have hsub : IntKind.wrap .i64 (((at_ + k : Nat) : Int) - (at_ : Int)) = (k : Int) := by rw [wrap_i64 _ (by omega) (by omega)]; omega
  simp only [hsub, cur_Fail]
  by_cases hl : (k : Int) < least
  · simp [hl]
  · simp only [hl, decide_false, cond_false, if_false]
    rw [bx_nat (by omega)]
    simp only
    rw [bx_nat (by omega)]
    simp only [drop_take_sub]

theorem min_nat (a b : Nat) : (cond (decide (((a : Nat) : Int) < ((b : Nat) : Int))) ((a : Nat) : Int) ((b : Nat) : Int)) = ((min a b : Nat) : Int) := by
  by_cases h : a < b
  · simp [h]; omega
  · simp [h]; omega

end Go.Sh
