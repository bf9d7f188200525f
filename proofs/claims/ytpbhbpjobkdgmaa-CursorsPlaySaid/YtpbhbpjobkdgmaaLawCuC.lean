/- Chapter 12: a player's calls, and the laws.
   Conditions: none. -/
import Derived.Test.YtpbhbpjobkdgmaaLawCuB
set_option linter.unusedSimpArgs false
set_option linter.unusedVariables false
namespace Go.Sh
open Go.Abs

abbrev LO := List (Int × List UInt8 × Int × Int)

theorem pl_check (n : Nat) (l : LO) (S : List UInt8) (at_ : Nat) (b e bad : Int) (h : at_ ≤ S.length) : circalaw12_player_check n S (at_ : Int) l S (at_ : Int) b e bad = some (S, (at_ : Int), b, e, bad) := by
  have hb : bx S.length ((S.length : Nat) : Int) = some S.length := bx_nat (Nat.le_refl _)
  simp only [circalaw12_player_check, cur_Peek n S at_ h, cur_At, cur_Rest n S at_ h, ob, bx_nat h, cond_bne, cond_neg, cond_beq, if_true, List.take_length, nat_dec_lt]
  rcases Nat.lt_or_ge at_ S.length with hlt | hge
  · obtain ⟨c, hc⟩ : ∃ c, S[at_]? = some c := ⟨S[at_], List.getElem?_eq_getElem hlt⟩
    rw [drop_get hc]
    simp [peek, hlt, sx_nat hc]
  · have : ¬ at_ < S.length := by omega
    rw [List.drop_eq_nil_of_le hge]
    simp [peek, this]

theorem pl_one (n : Nat) (w x y : Int) (t : List UInt8) (l : LO) (S : List UInt8) (at_ : Nat) (b bad : Int) (h : at_ ≤ S.length) (hS : S.length ≤ 200) (ht : t.length ≤ 40) (hn : 300 < n) :
    (∃ at' : Nat, at' ≤ S.length ∧ circalaw12_player_one n w t x y l S (at_ : Int) b 0 bad S (at_ : Int) = some (.inl (S, (at' : Int), b, 0, bad, S, (at' : Int)))) ∨
      ∃ (pa pe : Int) (at' at'' : Int), pe ≠ 0 ∧ circalaw12_player_one n w t x y l S (at_ : Int) b 0 bad S (at_ : Int) = some (.inr (pa, pe, S, at', pa, pe, bad, S, at'')) := by
  have h1 : S.length < 4611686018427387904 := by omega
  have h2 : t.length < 4611686018427387904 := by omega
  have n1 : S.length < n := by omega
  have n2 : t.length < n := by omega
  have some_ : (∃ at' : Nat, at' ≤ S.length ∧ (ob (circaref12_Some n S (at_ : Int) b 0 t x y) fun r204 => (ob (cursors_Cursor_Some n t x y S (at_ : Int)) fun y205 => (Sum.casesOn (motive := fun _ => Option ((List UInt8 × Int × Int × Int × Int × List UInt8 × Int) ⊕ (Int × Int × List UInt8 × Int × Int × Int × Int × List UInt8 × Int))) y205 (fun a206 => (some (.inr (a206.1, a206.2.1, r204.2.1, r204.2.2.1, r204.2.2.2.1, r204.2.2.2.2, bad, a206.2.2.1, a206.2.2.2)))) (fun b207 => (cond (!(b207.1 == r204.1)) (cond (r204.2.2.2.2 != 0) (some (.inl (r204.2.1, r204.2.2.1, r204.2.2.2.1, r204.2.2.2.2, (IntKind.wrap .i64 ((IntKind.wrap .i64 (bad + 1)) + 1)), b207.2.1, b207.2.2))) (some (.inl (r204.2.1, r204.2.2.1, r204.2.2.2.1, r204.2.2.2.2, (IntKind.wrap .i64 (bad + 1)), b207.2.1, b207.2.2)))) (cond (r204.2.2.2.2 != 0) (some (.inl (r204.2.1, r204.2.2.1, r204.2.2.2.1, r204.2.2.2.2, (IntKind.wrap .i64 (bad + 1)), b207.2.1, b207.2.2))) (some (.inl (r204.2.1, r204.2.2.1, r204.2.2.2.1, r204.2.2.2.2, bad, b207.2.1, b207.2.2)))))))))
      = some (.inl (S, (at' : Int), b, 0, bad, S, (at' : Int)))) ∨
      ∃ (pa pe : Int) (at' at'' : Int), pe ≠ 0 ∧ (ob (circaref12_Some n S (at_ : Int) b 0 t x y) fun r204 => (ob (cursors_Cursor_Some n t x y S (at_ : Int)) fun y205 => (Sum.casesOn (motive := fun _ => Option ((List UInt8 × Int × Int × Int × Int × List UInt8 × Int) ⊕ (Int × Int × List UInt8 × Int × Int × Int × Int × List UInt8 × Int))) y205 (fun a206 => (some (.inr (a206.1, a206.2.1, r204.2.1, r204.2.2.1, r204.2.2.2.1, r204.2.2.2.2, bad, a206.2.2.1, a206.2.2.2)))) (fun b207 => (cond (!(b207.1 == r204.1)) (cond (r204.2.2.2.2 != 0) (some (.inl (r204.2.1, r204.2.2.1, r204.2.2.2.1, r204.2.2.2.2, (IntKind.wrap .i64 ((IntKind.wrap .i64 (bad + 1)) + 1)), b207.2.1, b207.2.2))) (some (.inl (r204.2.1, r204.2.2.1, r204.2.2.2.1, r204.2.2.2.2, (IntKind.wrap .i64 (bad + 1)), b207.2.1, b207.2.2)))) (cond (r204.2.2.2.2 != 0) (some (.inl (r204.2.1, r204.2.2.1, r204.2.2.2.1, r204.2.2.2.2, (IntKind.wrap .i64 (bad + 1)), b207.2.1, b207.2.2))) (some (.inl (r204.2.1, r204.2.2.1, r204.2.2.2.1, r204.2.2.2.2, bad, b207.2.1, b207.2.2)))))))))
      = some (.inr (pa, pe, S, at', pa, pe, bad, S, at'')) := by
    have hk := spanN_le (hasB t) y.toNat (S.drop at_)
    rw [List.length_drop] at hk
    simp only [rf_Some n S at_ b 0 t x y h h1 h2 n1 n2, cur_Some n t x y S at_ h h1 n1, ob]
    by_cases hl : ((spanN (hasB t) y.toNat (S.drop at_) : Nat) : Int) < x
    · exact .inr ⟨_, 5, _, _, by decide, by simp only [hl, if_true]; rfl⟩
    · exact .inl ⟨at_ + spanN (hasB t) y.toNat (S.drop at_), by omega, by simp [hl]⟩
  unfold circalaw12_player_one
  generalize Int.tmod w 8 = m
  by_cases m0 : m = 0
  · subst m0
    simp only [BEq.rfl, cond_true, rf_Take n S at_ b 0 t h1 h2 h n2, cur_Take n t S at_ h h1, ob]
    by_cases hp : (S.drop at_).take t.length = t
    · have hl : t.length ≤ S.length - at_ := by
        have := congrArg List.length hp
        simp at this; omega
      exact .inl ⟨at_ + t.length, by omega, by simp [hp]⟩
    · exact .inl ⟨at_, h, by simp [hp]⟩
  have e0 : (m == 0) = false := by simpa using m0
  by_cases m1 : m = 1
  · subst m1
    simp only [e0, cond_false, BEq.rfl, cond_true, rf_Want n S at_ b 0 t h1 h2 h n2, cur_Want n t S at_ h h1 h2 n2, ob]
    by_cases hp : (S.drop at_).take t.length = t
    · have hl : t.length ≤ S.length - at_ := by
        have := congrArg List.length hp
        simp at this; omega
      exact .inl ⟨at_ + t.length, by omega, by simp [hp]⟩
    · exact .inr ⟨_, 5, _, _, by decide, by simp only [hp, if_false]; rfl⟩
  have e1 : (m == 1) = false := by simpa using m1
  by_cases m2 : m = 2
  · subst m2
    simp only [e0, e1, cond_false, BEq.rfl, cond_true, rf_One n S at_ b 0 t h1 h2 h n2, cur_One n t S at_ h h1, ob]
    rcases Nat.lt_or_ge at_ S.length with hlt | hge
    · obtain ⟨c, hc⟩ : ∃ c, S[at_]? = some c := ⟨S[at_], List.getElem?_eq_getElem hlt⟩
      rw [drop_get hc]
      simp only
      cases hb : hasB t c with
      | true => exact .inl ⟨at_ + 1, by omega, by simp⟩
      | false => exact .inr ⟨_, 5, _, _, by decide, by simp only [Bool.false_eq_true, if_false]; rfl⟩
    · rw [List.drop_eq_nil_of_le hge]
      exact .inr ⟨_, 5, _, _, by decide, rfl⟩
  have e2 : (m == 2) = false := by simpa using m2
  by_cases m3 : m = 3
  · subst m3
    simp only [e0, e1, e2, cond_false, BEq.rfl, cond_true]
    exact some_
  have e3 : (m == 3) = false := by simpa using m3
  by_cases m4 : m = 4
  · subst m4
    simp only [e0, e1, e2, e3, cond_false, BEq.rfl, cond_true]
    exact some_
  have e4 : (m == 4) = false := by simpa using m4
  by_cases m5 : m = 5
  · subst m5
    simp only [e0, e1, e2, e3, e4, cond_false, BEq.rfl, cond_true, pl_check n l S at_ b 0 bad h, ob]
    exact .inl ⟨at_, h, by simp⟩
  have e5 : (m == 5) = false := by simpa using m5
  by_cases m6 : m = 6
  · subst m6
    simp only [e0, e1, e2, e3, e4, e5, cond_false, BEq.rfl, cond_true, cur_Is n t S at_ h, rf_Same n S at_ b 0 t h1 h2 h n2, ob, lcp_all]
    have : (((lcp (S.drop at_) t : Nat) : Int) == ((t.length : Nat) : Int)) = decide (lcp (S.drop at_) t = t.length) := by
      by_cases hh : lcp (S.drop at_) t = t.length
      · simp [hh]
      · rw [beq_eq_false_iff_ne.2 (by omega)]; simp [hh]
    rw [this]
    exact .inl ⟨at_, h, by simp⟩
  have e6 : (m == 6) = false := by simpa using m6
  simp only [e0, e1, e2, e3, e4, e5, e6, cond_false, circaref12_Fail, rf_fail, cur_Fail, ob]
  refine .inr ⟨x, if y = 0 then 5 else y, _, _, ?_, rfl⟩
  by_cases hy : y = 0
  · simp [hy]
  · simp [hy]

theorem pl_play (n : Nat) (l : LO) (S : List UInt8) (b : Int) (hS : S.length ≤ 200) (hl : ∀ o ∈ l, o.2.1.length ≤ 40) (hll : l.length ≤ 9223372036854775807) (hn : 300 < n) :
    (∃ at' : Nat, at' ≤ S.length ∧ circalaw12_player_play n l S 0 b 0 0 S 0 = some (.inr (S, (at' : Int), b, 0, 0, S, (at' : Int)))) ∨
      ∃ (pa pe : Int) (at' at'' : Int), pe ≠ 0 ∧ circalaw12_player_play n l S 0 b 0 0 S 0 = some (.inl (pa, pe, S, at', pa, pe, 0, S, at'')) := by
  have := iterL_prop (step := circalaw12_player_play_l0 n)
    (fun x => ∃ (i at_ : Nat), i ≤ l.length ∧ i ≤ 30 ∧ at_ ≤ S.length ∧ x = ((i : Int), l, S, (at_ : Int), b, 0, 0, S, (at_ : Int))) (fun x => 30 - x.1.toNat)
    (fun y => (∃ at' : Nat, at' ≤ S.length ∧ y = .inr (l, S, (at' : Int), b, 0, 0, S, (at' : Int))) ∨ ∃ (pa pe : Int) (at' at'' : Int), pe ≠ 0 ∧ y = .inl (pa, pe, l, S, at', pa, pe, 0, S, at'')) ?_ n
    (0, l, S, 0, b, 0, 0, S, 0) ⟨0, 0, by omega, by omega, by omega, rfl⟩ (by simp; omega)
  · obtain ⟨y, h1, h2⟩ := this
    unfold circalaw12_player_play
    rw [h1]
    rcases h2 with ⟨at', h3, rfl⟩ | ⟨pa, pe, at', at'', h3, rfl⟩
    · exact .inl ⟨at', h3, rfl⟩
    · exact .inr ⟨pa, pe, at', at'', h3, rfl⟩
  rintro x ⟨i, at_, hi, hi2, hat, rfl⟩
  simp only [circalaw12_player_play_l0, nat_dec_lt]
  by_cases h1 : i < l.length
  · by_cases h2 : i < 30
    · have h2' : (i : Int) < 30 := by omega
      have hw : IntKind.wrap .i64 ((i : Int) + 1) = ((i + 1 : Nat) : Int) := by rw [wrap_i64 _ (by omega) (by omega)]; omega
      obtain ⟨o, ho⟩ : ∃ o, l[i]? = some o := ⟨l[i], List.getElem?_eq_getElem h1⟩
      have hmem : o ∈ l := List.mem_of_getElem? ho
      simp only [h1, decide_true, cond_true, h2', ix_nat h1, ob, ho, hw]
      rcases pl_one n o.1 o.2.2.1 o.2.2.2 o.2.1 l S at_ b 0 hat hS (hl o hmem) hn with ⟨at', h3, h4⟩ | ⟨pa, pe, at', at'', h3, h4⟩
      · rw [h4]
        simp only [pl_check n l S at' b 0 0 h3]
        exact .inl ⟨_, rfl, ⟨i + 1, at', by omega, by omega, h3, rfl⟩, by simp only [Int.toNat_natCast]; omega⟩
      · rw [h4]
        exact .inr ⟨_, rfl, .inr ⟨pa, pe, at', at'', h3, rfl⟩⟩
    · have h2' : ¬ (i : Int) < 30 := by omega
      simp only [h1, decide_true, cond_true, h2', decide_false, cond_false]
      exact .inr ⟨_, rfl, .inl ⟨at_, hat, rfl⟩⟩
  · simp only [h1, decide_false, cond_false]
    exact .inr ⟨_, rfl, .inl ⟨at_, hat, rfl⟩⟩

theorem play_scan (n : Nat) (S : List UInt8) (l : LO) (hl : l.length < n) (hl2 : l.length ≤ 9223372036854775807) (hv : circalaw12_lives n = some true) :
    ∃ y, iterL (circalaw12_CursorsPlay_l0 n) n (S, 0, l) = some y ∧ (y = .inl true ∨ y = .inr (S, l) ∧ ∀ o ∈ l, o.2.1.length ≤ 40) := by
  refine iterL_prop (step := circalaw12_CursorsPlay_l0 n)
    (fun x => ∃ i : Nat, i ≤ l.length ∧ x = (S, (i : Int), l) ∧ ∀ (j : Nat) o, j < i → l[j]? = some o → o.2.1.length ≤ 40) (fun x => l.length - x.2.1.toNat)
    (fun y => y = .inl true ∨ y = .inr (S, l) ∧ ∀ o ∈ l, o.2.1.length ≤ 40) ?_ n (S, 0, l) ⟨0, by omega, rfl, fun j o h => by omega⟩ (by simp; omega)
  rintro x ⟨i, hi, rfl, hall⟩
  simp only [circalaw12_CursorsPlay_l0, nat_dec_lt]
  by_cases h1 : i < l.length
  · have hw : IntKind.wrap .i64 ((i : Int) + 1) = ((i + 1 : Nat) : Int) := by rw [wrap_i64 _ (by omega) (by omega)]; omega
    obtain ⟨o, ho⟩ : ∃ o, l[i]? = some o := ⟨l[i], List.getElem?_eq_getElem h1⟩
    simp only [h1, decide_true, cond_true, ix_nat h1, ob, ho, hw, hv, cond_dec]
    by_cases h2 : 40 < o.2.1.length
    · exact .inr ⟨_, by rw [if_pos (by omega)], .inl rfl⟩
    · refine .inl ⟨_, by rw [if_neg (by omega)], ⟨i + 1, by omega, rfl, fun j q hj hq => ?_⟩, by simp only [Int.toNat_natCast]; omega⟩
      by_cases hji : j = i
      · subst hji; rw [ho] at hq; cases hq; omega
      · exact hall j q (by omega) hq
  · simp only [h1, decide_false, cond_false]
    refine .inr ⟨_, rfl, .inr ⟨rfl, fun o ho => ?_⟩⟩
    obtain ⟨j, hj, rfl⟩ := List.mem_iff_getElem.1 ho
    exact hall j _ (by omega) (List.getElem?_eq_getElem hj)

theorem cursorsPlay_ok (m : Nat) (S : List UInt8) (l : LO) (hl : l.length < m) (hl2 : l.length ≤ 9223372036854775807) : circalaw12_CursorsPlay (m + 400) S l = some true := by
  have hv : circalaw12_lives (m + 400) = some true := cu_lives (m + 340)
  simp only [circalaw12_CursorsPlay, hv, ob, cond_dec]
  by_cases hS : 200 < S.length
  · rw [if_pos (by omega)]
  · rw [if_neg (by omega)]
    obtain ⟨y, h1, h2⟩ := play_scan (m + 400) S l (by omega) hl2 hv
    rw [h1]
    rcases h2 with rfl | ⟨rfl, h3⟩
    · rfl
    · simp only [cursors_Run_v7]
      rcases pl_play (m + 400) l S 0 (by omega) h3 hl2 (by omega) with ⟨at', h4, h5⟩ | ⟨pa, pe, at', at'', h4, h5⟩
      · simp only [h5, ob, nat_dec_lt, cond_dec]
        by_cases h6 : at' < S.length
        · simp [h6, circaref12_End]
        · simp [h6, circaref12_End]
      · simp only [h5, ob]
        have : (pe != 0) = true := by simpa using h4
        simp [circaref12_End, this]

theorem cursorsNil_ok (m : Nat) (S : List UInt8) (w : Int) (t : List UInt8) (x y : Int) : circalaw12_CursorsNil (m + 400) S w t x y = some true := by
  have hv : circalaw12_lives (m + 400) = some true := cu_lives (m + 340)
  simp only [circalaw12_CursorsNil, hv, ob, cond_dec]
  by_cases hS : 40 < S.length
  · rw [if_pos (by omega)]
  rw [if_neg (by omega)]
  by_cases ht : 40 < t.length
  · rw [if_pos (by omega)]
  rw [if_neg (by omega)]
  have hT : cursors_Cursor_Take_v2 (m + 400) t = some false := rfl
  have hP : cursors_Cursor_Peek_v2 (m + 400) = some (0, false) := rfl
  have hW : cursors_Cursor_Want_v2 (m + 400) t = some () := by
    have hl : iterL (cursors_Cursor_Want_v2_l0 (m + 400)) (m + 400) (t, 0, []) = some 0 := by
      show iterL _ ((m + 399) + 1) _ = _
      have h0 : ¬ (0 : Int) < ((min 0 t.length : Nat) : Int) := by omega
      have hm := min_nat 0 t.length
      have hm2 := min_nat t.length 0
      simp only [iterL, cursors_Cursor_Want_v2_l0, List.length_nil, hm, hm2, Nat.min_comm t.length 0, h0, decide_false, cond_false]
    simp only [cursors_Cursor_Want_v2, hT, ob, cond_false, cursors_Cursor_Rest_v2, hl]
    rfl
  have hO : cursors_Cursor_One_v2 (m + 400) t = some 0 := rfl
  have hSo : cursors_Cursor_Some_v2 (m + 400) t x y = some [] := by
    have hl : iterL (cursors_Cursor_Some_v2_l0 (m + 400)) (m + 400) (t, x, y, 0, 0, false) = some (x, 0) := rfl
    simp only [cursors_Cursor_Some_v2, cursors_Cursor_At_v2, hP, ob, hl]
    by_cases h : IntKind.wrap .i64 (0 - 0) < x
    · simp [h, cursors_Cursor_Fail_v2]
    · simp only [h, decide_false, cond_false]
  simp only [cursors_Run_v8, hP, hW, cursors_Cursor_Fail_v2, cursors_Cursor_At_v2, cursors_Cursor_Rest_v2, cursors_Cursor_Is_v2, hT, hO, hSo]
  rfl

end Go.Sh
