/- Chapter 3: the code's search for the nearest number.
   Conditions: none. -/
import Derived.Test.YtpbhbpjobkdgmaaLawMkI
set_option linter.unusedSimpArgs false
set_option linter.unusedVariables false
namespace Go.Sh
open Go.Abs

/-- How far bytes and digits agree. -/
def ap : List UInt8 → List Int → Nat
  | c :: m, y :: l => if c = 88 ∨ ((c.toNat : Nat) : Int) = y then ap m l + 1 else 0
  | _, _ => 0

theorem ap_le : ∀ (m : List UInt8) (l : List Int), ap m l ≤ m.length
  | [], _ => by simp [ap]
  | c :: m, [] => by simp [ap]
  | c :: m, y :: l => by
    have := ap_le m l
    simp only [ap, List.length_cons]
    split <;> omega

theorem ap_take : ∀ (m : List UInt8) (l : List Int), agree (m.take (ap m l)) (l.take (ap m l)) = true
  | [], _ => by simp [ap, agree]
  | c :: m, [] => by simp [ap, agree]
  | c :: m, y :: l => by
    have := ap_take m l
    simp only [ap]
    split
    · rename_i h
      simp only [List.take_succ_cons, agree, this, Bool.and_true, Bool.or_eq_true, beq_iff_eq, decide_eq_true_eq]
      exact h
    · rfl

theorem ap_stop : ∀ {m : List UInt8} {l : List Int} {c : UInt8} {y : Int}, m[ap m l]? = some c → l[ap m l]? = some y → ¬ c = 88 ∧ ¬ ((c.toNat : Nat) : Int) = y
  | [], _, c, y, h, _ => by simp at h
  | x :: m, [], c, y, _, h => by simp at h
  | x :: m, z :: l, c, y, h1, h2 => by
    by_cases h : x = 88 ∨ ((x.toNat : Nat) : Int) = z
    · simp only [ap, if_pos h, List.getElem?_cons_succ] at h1 h2
      exact ap_stop h1 h2
    · simp only [ap, if_neg h, List.getElem?_cons_zero, Option.some.injEq] at h1 h2
      subst h1 h2
      exact ⟨fun e => h (.inl e), fun e => h (.inr e)⟩

/-- The last place ahead that can move. -/
def bkn (up : Bool) : List UInt8 → List Int → List UInt8 → Option (List Int)
  | c :: m, y :: d, m' =>
    match bkn up m d m' with
    | some r => some (y :: r)
    | none => if c = 88 ∧ y ≠ lst up then some (stp up y :: fil up (m ++ m')) else none
  | _, _, _ => none

theorem nx_append (up : Bool) : ∀ {m m' : List UInt8} {d d' : List Int}, m.length = d.length → agree m d = true →
    nx up (m ++ m') (d ++ d') = match nx up m' d' with | some r => some (d ++ r) | none => bkn up m d m'
  | [], m', [], d', _, _ => by
    simp only [List.nil_append]
    cases nx up m' d' <;> rfl
  | c :: m, m', y :: d, d', hl, ha => by
    simp only [List.length_cons, Nat.add_right_cancel_iff] at hl
    simp only [agree, Bool.and_eq_true, Bool.or_eq_true, beq_iff_eq, decide_eq_true_eq] at ha
    have ih := nx_append up (m' := m') (d' := d') hl ha.2
    simp only [List.cons_append, nx, ih, bkn]
    by_cases h88 : c = 88
    · simp only [if_pos h88]
      cases nx up m' d' with
      | some r => rfl
      | none =>
        cases bkn up m d m' with
        | some r => rfl
        | none =>
          by_cases hy : y = lst up
          · simp [hy]
          · simp [hy, h88]
    · simp only [if_neg h88, if_pos (ha.1.resolve_left h88)]
      cases nx up m' d' with
      | some r => rfl
      | none =>
        cases bkn up m d m' with
        | some r => rfl
        | none => simp [h88]
  | [], _, _ :: _, _, h, _ => by simp at h
  | _ :: _, _, [], _, h, _ => by simp at h

theorem bkn_snoc (up : Bool) (c : UInt8) (y : Int) : ∀ {m m' : List UInt8} {d : List Int}, m.length = d.length →
    bkn up (m ++ [c]) (d ++ [y]) m' = if c = 88 ∧ y ≠ lst up then some (d ++ stp up y :: fil up m') else bkn up m d (c :: m')
  | [], m', [], _ => by simp [bkn]
  | x :: m, m', z :: d, hl => by
    simp only [List.length_cons, Nat.add_right_cancel_iff] at hl
    have ih := bkn_snoc up c y (m' := m') hl
    simp only [List.cons_append, bkn, ih]
    by_cases h : c = 88 ∧ y ≠ lst up
    · simp only [if_pos h]
    · simp only [if_neg h, List.append_assoc, List.cons_append, List.nil_append]
  | [], _, _ :: _, h => by simp at h
  | _ :: _, _, [], h => by simp at h

def bki (up : Bool) (m : List UInt8) (l : List Int) : Nat → Option Nat
  | 0 => none
  | j + 1 => if m[j]? = some 88 ∧ l[j]? ≠ some (lst up) then some j else bki up m l j

theorem bki_lt (up : Bool) (m : List UInt8) (l : List Int) : ∀ {j a : Nat}, bki up m l j = some a → a < j
  | 0, a, h => by simp [bki] at h
  | j + 1, a, h => by
    simp only [bki] at h
    split at h
    · simp only [Option.some.injEq] at h; omega
    · have := bki_lt up m l h; omega

theorem bkn_take (up : Bool) (m : List UInt8) (l : List Int) (hl : m.length = l.length) : ∀ j, j ≤ m.length →
    bkn up (m.take j) (l.take j) (m.drop j) = (bki up m l j).map fun a => l.take a ++ stp up (l.getD a 0) :: fil up (m.drop (a + 1))
  | 0, _ => by simp [bkn, bki]
  | j + 1, h => by
    obtain ⟨c, hc⟩ : ∃ c, m[j]? = some c := ⟨m[j]'(by omega), List.getElem?_eq_getElem (by omega)⟩
    obtain ⟨y, hy⟩ : ∃ c, l[j]? = some c := ⟨l[j]'(by omega), List.getElem?_eq_getElem (by omega)⟩
    have ih := bkn_take up m l hl j (by omega)
    rw [drop_get hc] at ih
    rw [List.take_add_one, List.take_add_one, hc, hy]
    simp only [Option.toList_some]
    rw [bkn_snoc up c y (by simp; omega), ih]
    have hg : l.getD j 0 = y := by rw [List.getD_eq_getElem?_getD, hy]; rfl
    simp only [bki, hc, hy, ne_eq, Option.some.injEq]
    by_cases hh : c = 88 ∧ ¬ y = lst up
    · rw [if_pos hh, if_pos hh, Option.map_some, hg]
    · rw [if_neg hh, if_neg hh]

/-! ### The loops -/

section
variable {m : List UInt8} {l z : List Int}

theorem beyond_l0 (hl : m.length = l.length) (h18 : m.length ≤ 18) (k f g : Int) (up : Bool) :
    iterL (masks_beyond_l0 20000) 20000 (m, k, up, f, g, 0, over z 0 l, over z 0 l) = some (m, k, up, f, g, ((ap m l : Nat) : Int), over z 0 l, over z 0 l) := by
  have := iterL_inv (step := masks_beyond_l0 20000) (fun x => x.1 = m ∧ (0 ≤ x.2.2.2.2.2.1 ∧ x.2.2.2.2.2.1 ≤ m.length) ∧ x.2.2.2.2.2.2.1 = over z 0 l) (fun x => m.length - x.2.2.2.2.2.1.toNat)
    (fun x => (x.1, x.2.1, x.2.2.1, x.2.2.2.1, x.2.2.2.2.1, x.2.2.2.2.2.1 + ((ap (m.drop x.2.2.2.2.2.1.toNat) (l.drop x.2.2.2.2.2.1.toNat) : Nat) : Int), x.2.2.2.2.2.2.1, x.2.2.2.2.2.2.2)) ?_ 20000 (m, k, up, f, g, 0, over z 0 l, over z 0 l) ⟨rfl, ⟨by simp, by simp⟩, rfl⟩ (by simp; omega)
  · simpa using this
  rintro ⟨m', k, up, f, g, i, d, o⟩ ⟨q1, ⟨h0, hi⟩, q2⟩
  simp only at q1 h0 hi q2 ⊢
  subst q1 q2
  obtain ⟨j, rfl⟩ : ∃ j : Nat, i = j := ⟨i.toNat, by omega⟩
  simp only [Int.toNat_natCast]
  rcases Nat.lt_or_ge j m'.length with hlt | hge
  · obtain ⟨c, hc⟩ : ∃ c, m'[j]? = some c := ⟨m'[j], List.getElem?_eq_getElem hlt⟩
    obtain ⟨y, hy⟩ : ∃ c, l[j]? = some c := ⟨l[j]'(by omega), List.getElem?_eq_getElem (by omega)⟩
    have hg : (over z 0 l)[j]? = some y := by rw [over_get (by omega)]; exact hy
    have hb : (decide ((j : Int) < ((List.length m' : Nat) : Int))) = true := by simp; omega
    have hw : IntKind.wrap .i64 ((j : Int) + 1) = ((j + 1 : Nat) : Int) := by rw [wrap_i64 _ (by omega) (by omega)]; omega
    rw [drop_get hc, drop_get hy]
    simp only [masks_beyond_l0, hb, cond_true, sx_nat hc, ob, toNat_88, hw, ix_nat (show j < 18 by omega), hg, ap]
    by_cases h88 : c = 88
    · refine .inl ⟨(m', k, up, f, g, ((j + 1 : Nat) : Int), over z 0 l, o), by simp only [decide_eq_true h88, cond_true], ⟨rfl, ⟨by simp only; omega, by simp only; omega⟩, rfl⟩, by simp only [Int.toNat_natCast]; omega, ?_⟩
      simp only [Int.toNat_natCast, if_pos (show c = 88 ∨ ((c.toNat : Nat) : Int) = y from .inl h88)]
      congr 6; omega
    · simp only [decide_eq_false h88, cond_false]
      by_cases hcy : ((c.toNat : Nat) : Int) = y
      · have e : (((c.toNat : Nat) : Int) == y) = true := by simpa using hcy
        refine .inl ⟨(m', k, up, f, g, ((j + 1 : Nat) : Int), over z 0 l, o), by simp only [e, cond_true], ⟨rfl, ⟨by simp only; omega, by simp only; omega⟩, rfl⟩, by simp only [Int.toNat_natCast]; omega, ?_⟩
        simp only [Int.toNat_natCast, if_pos (show c = 88 ∨ ((c.toNat : Nat) : Int) = y from .inr hcy)]
        congr 6; omega
      · have e : (((c.toNat : Nat) : Int) == y) = false := by simpa using hcy
        refine .inr ?_
        simp only [e, cond_false, if_neg (show ¬ (c = 88 ∨ ((c.toNat : Nat) : Int) = y) from fun h => h.elim h88 hcy), Int.ofNat_zero, Int.add_zero, Int.natCast_zero]
  · have hb : (decide ((j : Int) < ((List.length m' : Nat) : Int))) = false := by simp; omega
    refine .inr ?_
    simp only [masks_beyond_l0, hb, cond_false]
    rw [List.drop_eq_nil_of_le hge]
    simp [ap]

theorem beyond_l1 (hl : m.length = l.length) (h18 : m.length ≤ 18) (f : Int) (up : Bool) (o : List Int) (i : Nat) (hi : i ≤ m.length) :
    iterL (masks_beyond_l1 20000) 20000 (m, up, f, lst up, (i : Int), over z 0 l, o) =
      some (match bki up m l i with | none => .inl (0, 16) | some a => .inr (m, up, f, ((a : Nat) : Int), o)) := by
  have := iterL_inv (step := masks_beyond_l1 20000) (fun x => x.1 = m ∧ x.2.2.2.1 = lst up ∧ (0 ≤ x.2.2.2.2.1 ∧ x.2.2.2.2.1 ≤ m.length) ∧ x.2.2.2.2.2.1 = over z 0 l) (fun x => x.2.2.2.2.1.toNat)
    (fun x => match bki up m l x.2.2.2.2.1.toNat with | none => .inl (0, 16) | some a => .inr (x.1, x.2.1, x.2.2.1, ((a : Nat) : Int), x.2.2.2.2.2.2)) ?_ 20000 (m, up, f, lst up, (i : Int), over z 0 l, o) ⟨rfl, rfl, ⟨by simp only; omega, by simp only; omega⟩, rfl⟩ (by simp; omega)
  · simpa using this
  rintro ⟨m', up', f, g, i, d, o⟩ ⟨q1, q3, ⟨h0, hi⟩, q2⟩
  simp only at q1 q3 h0 hi q2 ⊢
  subst q1 q2 q3
  obtain ⟨j, rfl⟩ : ∃ j : Nat, i = j := ⟨i.toNat, by omega⟩
  simp only [Int.toNat_natCast]
  rcases j with _ | j
  · refine .inr ?_
    have w : IntKind.wrap .i64 (((0 : Nat) : Int) - 1) = -1 := wrap_i64 _ (by omega) (by omega)
    simp only [masks_beyond_l1, w, show decide ((-1 : Int) < 0) = true from rfl, cond_true, bki]
  · have w : IntKind.wrap .i64 (((j + 1 : Nat) : Int) - 1) = (j : Int) := by rw [wrap_i64 _ (by omega) (by omega)]; omega
    have e0 : decide ((j : Int) < 0) = false := by simp
    obtain ⟨c, hc⟩ : ∃ c, m'[j]? = some c := ⟨m'[j]'(by omega), List.getElem?_eq_getElem (by omega)⟩
    obtain ⟨y, hy⟩ : ∃ c, l[j]? = some c := ⟨l[j]'(by omega), List.getElem?_eq_getElem (by omega)⟩
    have hg : (over z 0 l)[j]? = some y := by rw [over_get (by omega)]; exact hy
    simp only [masks_beyond_l1, w, e0, cond_false, sx_nat hc, ob, toNat_88, ix_nat (show j < 18 by omega), hg, bki, hc, hy, Option.some.injEq, ne_eq]
    by_cases h88 : c = 88
    · by_cases hy9 : y = lst up
      · have e : (y != lst up) = false := by simpa using hy9
        refine .inl ⟨(m', up', f, lst up, (j : Int), over z 0 l, o), by simp only [decide_eq_true h88, cond_true, e, cond_false], ⟨rfl, rfl, ⟨by simp only; omega, by simp only; omega⟩, rfl⟩, by simp only [Int.toNat_natCast]; omega, ?_⟩
        simp only [Int.toNat_natCast, if_neg (show ¬ (c = 88 ∧ ¬ y = lst up) from fun h => h.2 hy9)]
      · have e : (y != lst up) = true := by simpa using hy9
        refine .inr ?_
        simp only [decide_eq_true h88, cond_true, e, if_pos (show c = 88 ∧ ¬ y = lst up from ⟨h88, hy9⟩)]
    · refine .inl ⟨(m', up', f, lst up, (j : Int), over z 0 l, o), by simp only [decide_eq_false h88, cond_false], ⟨rfl, rfl, ⟨by simp only; omega, by simp only; omega⟩, rfl⟩, by simp only [Int.toNat_natCast]; omega, ?_⟩
      simp only [Int.toNat_natCast, if_neg (show ¬ (c = 88 ∧ ¬ y = lst up) from fun h => h88 h.1)]

theorem beyond_l2 (h18 : m.length ≤ 18) (up : Bool) (d : List Int) (hd : d.length = 18) (i : Nat) (hi : i ≤ m.length) :
    iterL (masks_beyond_l2 20000) 20000 (m, fst up, (i : Int), d) = some (m, over d i (fil up (m.drop i))) := by
  have := iterL_inv (step := masks_beyond_l2 20000) (fun x => x.1 = m ∧ x.2.1 = fst up ∧ (0 ≤ x.2.2.1 ∧ x.2.2.1 ≤ m.length) ∧ x.2.2.2.length = 18) (fun x => m.length - x.2.2.1.toNat)
    (fun x => (m, over x.2.2.2 x.2.2.1.toNat (fil up (m.drop x.2.2.1.toNat)))) ?_ 20000 (m, fst up, (i : Int), d) ⟨rfl, rfl, ⟨by simp only; omega, by simp only; omega⟩, hd⟩ (by simp; omega)
  · simpa using this
  rintro ⟨m', f, i, d⟩ ⟨q1, q3, ⟨h0, hi⟩, hd⟩
  simp only at q1 q3 h0 hi hd ⊢
  subst q1 q3
  obtain ⟨j, rfl⟩ : ∃ j : Nat, i = j := ⟨i.toNat, by omega⟩
  simp only [Int.toNat_natCast]
  rcases Nat.lt_or_ge j m'.length with hlt | hge
  · obtain ⟨c, hc⟩ : ∃ c, m'[j]? = some c := ⟨m'[j], List.getElem?_eq_getElem hlt⟩
    have hj : j < 18 := by omega
    have hb : (decide ((j : Int) < ((List.length m' : Nat) : Int))) = true := by simp; omega
    have hw : IntKind.wrap .i64 ((j : Int) + 1) = ((j + 1 : Nat) : Int) := by rw [wrap_i64 _ (by omega) (by omega)]; omega
    have e2 : Nat.blt j 18 = true := Nat.ble_eq_true_of_le hj
    have hcons : ∀ c : UInt8, fil up (c :: m'.drop (j + 1)) = (cond (decide (c = 88)) (fst up) ((c.toNat : Nat) : Int)) :: fil up (m'.drop (j + 1)) := fun _ => rfl
    rw [drop_get hc, hcons]
    simp only [masks_beyond_l2, hb, cond_true, sx_nat hc, ob, toNat_88, ix_nat hj, e2, hw]
    by_cases h88 : c = 88
    · refine .inl ⟨(m', fst up, ((j + 1 : Nat) : Int), (d.set j ((c.toNat : Nat) : Int)).set j (fst up)), by simp only [decide_eq_true h88, cond_true], ⟨rfl, rfl, ⟨by simp only; omega, by simp only; omega⟩, by simpa using hd⟩, by simp only [Int.toNat_natCast]; omega, ?_⟩
      simp only [Int.toNat_natCast, decide_eq_true h88, cond_true]
      rw [List.set_set, over_set _ _ _ _ (by omega)]
    · refine .inl ⟨(m', fst up, ((j + 1 : Nat) : Int), d.set j ((c.toNat : Nat) : Int)), by simp only [decide_eq_false h88, cond_false], ⟨rfl, rfl, ⟨by simp only; omega, by simp only; omega⟩, by simpa using hd⟩, by simp only [Int.toNat_natCast]; omega, ?_⟩
      simp only [Int.toNat_natCast, decide_eq_false h88, cond_false]
      rw [over_set _ _ _ _ (by omega)]
  · have hb : (decide ((j : Int) < ((List.length m' : Nat) : Int))) = false := by simp; omega
    refine .inr ?_
    simp only [masks_beyond_l2, hb, cond_false]
    rw [List.drop_eq_nil_of_le hge]
    simp [fil, over_nil]

theorem over_over (z l F : List Int) (i : Nat) (h : i + F.length = l.length) : over (over z 0 l) i F = over z 0 (l.take i ++ F) := by
  unfold over
  simp only [List.take_zero, List.nil_append, Nat.zero_add, List.length_append, List.length_take, Nat.min_eq_left (show i ≤ l.length by omega), h]
  rw [List.take_append_of_le_length (by omega), List.drop_append_of_le_length (by omega), List.drop_of_length_le (Nat.le_refl l.length)]
  simp

end

theorem beyond_eq {m : List UInt8} (hm : chk m = 0) (up : Bool) (k : Int) (h0 : 0 ≤ k) (h1 : k < 10 ^ m.length) :
    masks_beyond 20000 m k up = some (match nx up m (dg m.length k) with | some r => (vl r, 0) | none => (0, 16)) := by
  obtain ⟨h18, _, hok⟩ := chk_len hm
  have hp := pow_bound m.length h18
  have hlen := dg_len m.length k
  have hrng := dg_range m.length k
  have hv := vl_dg m.length k h0 h1
  have hn := nx_ok up hok hlen.symm hrng
  have hsplit := split_eq m k h18 h0 (by omega)
  generalize dg m.length k = l at hlen hrng hv hn hsplit ⊢
  have hout : (over [0, 0, 0, 0, 0, 0, 0, 0, 0, 0, 0, 0, 0, 0, 0, 0, 0, 0] 0 l).length = 18 := by rw [over_len _ _ _ (by simp; omega)]; rfl
  -- after the loops
  have fin : ∀ r : List Int, nx up m l = some r → masks_value 20000 m (over [0, 0, 0, 0, 0, 0, 0, 0, 0, 0, 0, 0, 0, 0, 0, 0, 0, 0] 0 r) = some (vl r) := by
    intro r hr
    rw [hr] at hn
    obtain ⟨i1, i2, _⟩ := hn
    rw [value_eq _ h18 i1 i2, vl_fval i2]
  have hap := ap_le m l
  have hagr := ap_take m l
  have happ := nx_append up (m := m.take (ap m l)) (m' := m.drop (ap m l)) (d := l.take (ap m l)) (d' := l.drop (ap m l)) (by simp; omega) hagr
  rw [List.take_append_drop, List.take_append_drop] at happ
  have hz0 : masks_split 20000 m k = some (over [0, 0, 0, 0, 0, 0, 0, 0, 0, 0, 0, 0, 0, 0, 0, 0, 0, 0] 0 l) := hsplit
  generalize hzz : ([0, 0, 0, 0, 0, 0, 0, 0, 0, 0, 0, 0, 0, 0, 0, 0, 0, 0] : List Int) = z at hout fin hz0
  rcases Nat.lt_or_ge (ap m l) m.length with hlt | hge
  · obtain ⟨c, hc⟩ : ∃ c, m[ap m l]? = some c := ⟨m[ap m l], List.getElem?_eq_getElem hlt⟩
    obtain ⟨y, hy⟩ : ∃ c, l[ap m l]? = some c := ⟨l[ap m l]'(by omega), List.getElem?_eq_getElem (by omega)⟩
    obtain ⟨h88, hcy⟩ := ap_stop hc hy
    have hg : (over z 0 l)[ap m l]? = some y := by rw [over_get (by omega)]; exact hy
    have eL : (((ap m l : Nat) : Int) == ((List.length m : Nat) : Int)) = false := by simp; omega
    have hj : ap m l < 18 := by omega
    have hfc : fil up (m.drop (ap m l)) = ((c.toNat : Nat) : Int) :: fil up (m.drop (ap m l + 1)) := by
      rw [drop_get hc]; simp [fil, h88]
    have hbk := bkn_take up m l hlen.symm (ap m l) hap
    have hnx : nx up (m.drop (ap m l)) (l.drop (ap m l)) = if decide (((c.toNat : Nat) : Int) > y) = up then some (fil up (m.drop (ap m l))) else none := by
      rw [hfc, drop_get hc, drop_get hy]
      simp only [nx, if_neg h88, if_neg hcy]
    rw [hnx] at happ
    by_cases hup : decide (((c.toNat : Nat) : Int) > y) = up
    · rw [if_pos hup] at happ
      simp only at happ
      have f2 := fin _ happ
      rw [happ]
      simp only []
      rw [← over_over z l _ _ (by rw [fil_len, List.length_drop]; omega)] at f2
      have l2 := beyond_l2 h18 up _ hout (ap m l) hap
      cases up
      · have l0 := beyond_l0 (z := z) hlen.symm h18 k 57 48 false
        have l2' : iterL (masks_beyond_l2 20000) 20000 (m, 57, ((ap m l : Nat) : Int), over z 0 l) = _ := l2
        simp only [masks_beyond, Bool.not_false, cond_true, hz0, ob, l0, eL, cond_false, sx_nat hc, ix_nat hj, hg, hup, beq_self_eq_true, Bool.not_true, l2', f2]
      · have l0 := beyond_l0 (z := z) hlen.symm h18 k 48 57 true
        have l2' : iterL (masks_beyond_l2 20000) 20000 (m, 48, ((ap m l : Nat) : Int), over z 0 l) = _ := l2
        simp only [masks_beyond, Bool.not_true, cond_true, hz0, ob, l0, eL, cond_false, sx_nat hc, ix_nat hj, hg, hup, beq_self_eq_true, l2', f2]
    · rw [if_neg hup] at happ
      simp only [hbk] at happ
      have hne : (!(decide (((c.toNat : Nat) : Int) > y) == up)) = true := by
        cases up <;> cases hh : decide (((c.toNat : Nat) : Int) > y) <;> simp_all
      have l1 := beyond_l1 (z := z) hlen.symm h18 (fst up) up (over z 0 l) (ap m l) hap
      cases hb : bki up m l (ap m l) with
      | none =>
        rw [hb] at happ l1
        simp only [Option.map_none] at happ
        rw [happ]
        simp only [] at l1 ⊢
        cases up
        · have l0 := beyond_l0 (z := z) hlen.symm h18 k 57 48 false
          have l1' : iterL (masks_beyond_l1 20000) 20000 (m, false, 57, 48, ((ap m l : Nat) : Int), over z 0 l, over z 0 l) = _ := l1
          simp only [masks_beyond, Bool.not_false, cond_true, hz0, ob, l0, eL, cond_false, sx_nat hc, ix_nat hj, hg, hne, l1']
        · have l0 := beyond_l0 (z := z) hlen.symm h18 k 48 57 true
          have l1' : iterL (masks_beyond_l1 20000) 20000 (m, true, 48, 57, ((ap m l : Nat) : Int), over z 0 l, over z 0 l) = _ := l1
          simp only [masks_beyond, Bool.not_true, cond_true, hz0, ob, l0, eL, cond_false, sx_nat hc, ix_nat hj, hg, hne, l1']
      | some a =>
        have ha := bki_lt up m l hb
        obtain ⟨w, hw⟩ : ∃ c, l[a]? = some c := ⟨l[a]'(by omega), List.getElem?_eq_getElem (by omega)⟩
        have hga : (over z 0 l)[a]? = some w := by rw [over_get (by omega)]; exact hw
        have hgd : l.getD a 0 = w := by rw [List.getD_eq_getElem?_getD, hw]; rfl
        have hwr := hrng w (List.mem_of_getElem? hw)
        have haj : a < 18 := by omega
        have e2 : Nat.blt a 18 = true := Nat.ble_eq_true_of_le haj
        have w1 : IntKind.wrap .i64 ((a : Int) + 1) = ((a + 1 : Nat) : Int) := by rw [wrap_i64 _ (by omega) (by omega)]; omega
        rw [hb] at happ l1
        simp only [Option.map_some, hgd] at happ
        have f2 := fin _ happ
        rw [happ]
        simp only [] at l1 ⊢
        rw [← over_over z l _ _ (by rw [List.length_cons, fil_len, List.length_drop]; omega), ← over_set _ _ _ _ (by omega)] at f2
        have l2 := beyond_l2 h18 up ((over z 0 l).set a (stp up w)) (by simpa using hout) (a + 1) (by omega)
        cases up
        · have l0 := beyond_l0 (z := z) hlen.symm h18 k 57 48 false
          have l1' : iterL (masks_beyond_l1 20000) 20000 (m, false, 57, 48, ((ap m l : Nat) : Int), over z 0 l, over z 0 l) = some (.inr (m, false, 57, ((a : Nat) : Int), over z 0 l)) := l1
          have l2' : iterL (masks_beyond_l2 20000) 20000 (m, 57, ((a + 1 : Nat) : Int), (over z 0 l).set a (w - 1)) = _ := l2
          have w2 : IntKind.wrap .u8 (w - 1) = w - 1 := wrap_u8 _ (by omega) (by omega)
          simp only [masks_beyond, Bool.not_false, cond_true, hz0, ob, l0, eL, cond_false, sx_nat hc, ix_nat hj, hg, hne, l1', ix_nat haj, hga, e2, w1, w2, l2', f2]
        · have l0 := beyond_l0 (z := z) hlen.symm h18 k 48 57 true
          have l1' : iterL (masks_beyond_l1 20000) 20000 (m, true, 48, 57, ((ap m l : Nat) : Int), over z 0 l, over z 0 l) = some (.inr (m, true, 48, ((a : Nat) : Int), over z 0 l)) := l1
          have l2' : iterL (masks_beyond_l2 20000) 20000 (m, 48, ((a + 1 : Nat) : Int), (over z 0 l).set a (w + 1)) = _ := l2
          have w2 : IntKind.wrap .u8 (w + 1) = w + 1 := wrap_u8 _ (by omega) (by omega)
          simp only [masks_beyond, Bool.not_true, cond_true, hz0, ob, l0, eL, cond_false, sx_nat hc, ix_nat hj, hg, hne, l1', ix_nat haj, hga, e2, w1, w2, l2', f2]
  · have e : ap m l = m.length := by omega
    rw [e, List.drop_length, ← hlen, List.drop_length, List.take_length] at happ
    simp only [nx, List.append_nil] at happ
    have eL : (((ap m l : Nat) : Int) == ((List.length m : Nat) : Int)) = true := by rw [e]; simp
    rw [happ]
    simp only [hv]
    cases up
    · have l0 := beyond_l0 (z := z) hlen.symm h18 k 57 48 false
      simp only [masks_beyond, Bool.not_false, cond_true, hz0, ob, l0, eL]
    · have l0 := beyond_l0 (z := z) hlen.symm h18 k 48 57 true
      simp only [masks_beyond, Bool.not_true, cond_false, hz0, ob, l0, eL, cond_true]

end Go.Sh
