/- Chapter 3: the numbers of a common mask.
   Conditions: none. -/
import Derived.Test.YtpbhbpjobkdgmaaLawMkC
set_option linter.unusedSimpArgs false
set_option linter.unusedVariables false
namespace Go.Sh
open Go.Abs

/-! ### Masks as plain data -/

def dig (x : Int) : UInt8 := ([48, 49, 50, 51, 52, 53, 54, 55, 56, 57, 88, 88] : List UInt8).getD (x % 12).toNat 88

def mk (l : List Int) : List UInt8 := if (l.take 18).map dig = [] then [88] else (l.take 18).map dig

theorem dig_cut (r : Nat) (h : r < 12) : List.drop r (List.take (r + 1) ([48, 49, 50, 51, 52, 53, 54, 55, 56, 57, 88, 88] : List UInt8)) = [([48, 49, 50, 51, 52, 53, 54, 55, 56, 57, 88, 88] : List UInt8).getD r 88] := by
  have : ∀ r, r < 12 → List.drop r (List.take (r + 1) ([48, 49, 50, 51, 52, 53, 54, 55, 56, 57, 88, 88] : List UInt8)) = [([48, 49, 50, 51, 52, 53, 54, 55, 56, 57, 88, 88] : List UInt8).getD r 88] := by decide
  exact this r h

theorem dig_ok (x : Int) : okB (dig x) = true := by
  have : ∀ r, r < 12 → okB (([48, 49, 50, 51, 52, 53, 54, 55, 56, 57, 88, 88] : List UInt8).getD r 88) = true := by decide
  exact this _ (by omega)

theorem cat_small {a b : List UInt8} (h : a.length + b.length < 1000000) : cat a b = some (a ++ b) := by
  unfold cat
  rw [if_pos (by omega)]

theorem M_Of_eq (l : List Int) (hl : ∀ x ∈ l, 0 ≤ x ∧ x < 256) : circalaw03_M_Of 20000 l = some (mk l) := by
  have := iterL_inv (step := circalaw03_M_Of_l0 20000) (fun x => x.2.2 = l ∧ (0 ≤ x.2.1 ∧ x.2.1 ≤ 18) ∧ x.1.length = x.2.1.toNat) (fun x => 18 - x.2.1.toNat)
    (fun x => x.1 ++ ((l.take 18).drop x.2.1.toNat).map dig) ?_ 20000 ([], 0, l) ⟨rfl, ⟨by simp, by simp⟩, by simp⟩ (by simp)
  · simp only [circalaw03_M_Of, this, ob, Int.toNat_zero, List.drop_zero, List.nil_append]
    unfold mk
    by_cases h : (l.take 18).map dig = []
    · rw [if_pos h, h]; simp
    · have : ((l.take 18).map dig == ([] : List UInt8)) = false := by simpa using h
      rw [if_neg h, this]; simp
  rintro ⟨out, i, l'⟩ ⟨q1, ⟨h0, h1⟩, ho⟩
  simp only at q1 h0 h1 ho ⊢
  subst q1
  obtain ⟨j, rfl⟩ : ∃ j : Nat, i = j := ⟨i.toNat, by omega⟩
  simp only [Int.toNat_natCast] at ho ⊢
  by_cases hlt : j < l'.length
  · have e1 : decide ((j : Int) < ((List.length l' : Nat) : Int)) = true := by simp; omega
    by_cases h18 : j < 18
    · have e2 : decide ((j : Int) < 18) = true := by simp; omega
      obtain ⟨x, hx⟩ : ∃ c, l'[j]? = some c := ⟨l'[j], List.getElem?_eq_getElem hlt⟩
      obtain ⟨x0, x1⟩ := hl x (List.mem_of_getElem? hx)
      have t1 : Int.tmod x 12 = ((x % 12).toNat : Int) := by rw [Int.tmod_eq_emod_of_nonneg x0]; omega
      have w1 : IntKind.wrap .u8 (((x % 12).toNat : Int) + 1) = (((x % 12).toNat + 1 : Nat) : Int) := by rw [wrap_u8 _ (by omega) (by omega)]; omega
      have w2 : IntKind.wrap .i64 ((j : Int) + 1) = ((j + 1 : Nat) : Int) := by rw [wrap_i64 _ (by omega) (by omega)]; omega
      have hx18 : (l'.take 18)[j]? = some x := by rw [List.getElem?_take_of_lt h18]; exact hx
      refine .inl ⟨(out ++ [dig x], ((j + 1 : Nat) : Int), l'), ?_, ⟨rfl, ⟨by simp only; omega, by simp only; omega⟩, by simp [ho]⟩, by simp only [Int.toNat_natCast]; omega, ?_⟩
      · simp only [circalaw03_M_Of_l0, e1, e2, cond_true, ix_nat hlt, ob, hx, w1, bx_nat (show (x % 12).toNat + 1 ≤ 12 by omega), t1, bx_nat (show (x % 12).toNat ≤ (x % 12).toNat + 1 by omega), dig_cut _ (show (x % 12).toNat < 12 by omega), w2]
        rw [cat_small (by simp [ho]; omega)]
        rfl
      · simp only [Int.toNat_natCast]
        rw [drop_get hx18, List.map_cons, List.append_assoc]; rfl
    · have e2 : decide ((j : Int) < 18) = false := by simp; omega
      refine .inr ?_
      simp only [circalaw03_M_Of_l0, e1, e2, cond_true, cond_false]
      rw [List.drop_eq_nil_of_le (by rw [List.length_take]; omega)]; simp
  · have e1 : decide ((j : Int) < ((List.length l' : Nat) : Int)) = false := by simp; omega
    refine .inr ?_
    simp only [circalaw03_M_Of_l0, e1, cond_false]
    rw [List.drop_eq_nil_of_le (by rw [List.length_take]; omega)]; simp

theorem mk_chk (l : List Int) : chk (mk l) = 0 := by
  unfold mk
  split
  · decide
  · rename_i h
    refine chk_of (by simp; omega) h fun c hc => ?_
    obtain ⟨x, _, rfl⟩ := List.mem_map.1 hc
    exact dig_ok x

/-! ### The reference's common mask -/

theorem refCommon_loop (a b : List UInt8) (out : List Int) (hl : a.length = b.length) (h18 : a.length ≤ 18) (ho : out = []) :
    iterL (circaref03_Common_l0 20000) 20000 (a, b, 0, out) = some (match comm a b with | some l => .inr (nums l) | none => .inl ([], false)) := by
  have := iterL_inv (step := circaref03_Common_l0 20000) (fun x => x.1 = a ∧ x.2.1 = b ∧ (0 ≤ x.2.2.1 ∧ x.2.2.1 ≤ a.length) ∧ x.2.2.2.length = x.2.2.1.toNat) (fun x => a.length - x.2.2.1.toNat)
    (fun x => match comm (a.drop x.2.2.1.toNat) (b.drop x.2.2.1.toNat) with | some l => .inr (x.2.2.2 ++ nums l) | none => .inl ([], false)) ?_ 20000 (a, b, 0, out)
    ⟨rfl, rfl, ⟨by simp, by simp⟩, by simp [ho]⟩ (by simp; omega)
  · simpa [ho] using this
  rintro ⟨a', b', i, e⟩ ⟨q1, q2, ⟨h0, hi⟩, he⟩
  simp only at q1 q2 h0 hi he ⊢
  subst q1 q2
  obtain ⟨j, rfl⟩ : ∃ j : Nat, i = j := ⟨i.toNat, by omega⟩
  simp only [Int.toNat_natCast] at he ⊢
  rcases Nat.lt_or_ge j a'.length with hlt | hge
  · obtain ⟨x, hx⟩ : ∃ c, a'[j]? = some c := ⟨a'[j], List.getElem?_eq_getElem hlt⟩
    obtain ⟨y, hy⟩ : ∃ c, b'[j]? = some c := ⟨b'[j]'(by omega), List.getElem?_eq_getElem (by omega)⟩
    have hb : (decide ((j : Int) < ((List.length a' : Nat) : Int))) = true := by simp; omega
    have hw : IntKind.wrap .i64 ((j : Int) + 1) = ((j + 1 : Nat) : Int) := by rw [wrap_i64 _ (by omega) (by omega)]; omega
    have hr : Nat.ble (e.length + 1) mostRows = true := Nat.ble_eq_true_of_le (by rw [he]; show j + 1 ≤ 67108864; omega)
    have n88 : ∀ z : UInt8, (((z.toNat : Nat) : Int) != 88) = !decide (z = 88) := fun z => by rw [bne, toNat_88]
    have nxy : ∀ z y : UInt8, (((z.toNat : Nat) : Int) != ((y.toNat : Nat) : Int)) = !decide (z = y) := fun z y => by rw [bne, toNat_eq]
    simp only [drop_get hx, drop_get hy, comm]
    simp only [circaref03_Common_l0, hb, cond_true, sx_nat hx, sx_nat hy, ob, hw, hr, toNat_88, n88, nxy]
    have put : ∀ z : UInt8, (match Option.map (fun l => z :: l) (comm (a'.drop (j + 1)) (b'.drop (j + 1))) with | some l => (.inr (e ++ nums l) : (List UInt8 × Bool) ⊕ List Int) | none => .inl ([], false)) =
        (match comm (a'.drop (j + 1)) (b'.drop (j + 1)) with | some l => .inr ((e ++ [((z.toNat : Nat) : Int)]) ++ nums l) | none => .inl ([], false)) := by
      intro z
      cases comm (a'.drop (j + 1)) (b'.drop (j + 1)) with
      | none => rfl
      | some l => simp [nums]
    have next : ∀ z : UInt8, z = x ∨ z = y → (fun (x : List UInt8 × List UInt8 × Int × List Int) => x.1 = a' ∧ x.2.1 = b' ∧ (0 ≤ x.2.2.1 ∧ x.2.2.1 ≤ a'.length) ∧ x.2.2.2.length = x.2.2.1.toNat) (a', b', ((j + 1 : Nat) : Int), e ++ [((z.toNat : Nat) : Int)]) :=
      fun z _ => ⟨rfl, rfl, ⟨by simp only; omega, by simp only; omega⟩, by simp only [Int.toNat_natCast]; simp [he]⟩
    by_cases hx8 : x = 88
    · by_cases hy8 : y = 88
      · refine .inl ⟨(a', b', ((j + 1 : Nat) : Int), e ++ [((y.toNat : Nat) : Int)]), by simp only [decide_eq_true hx8, decide_eq_true hy8, cond_true, cond_false, Bool.not_true], next y (.inr rfl), by simp only [Int.toNat_natCast]; omega, ?_⟩
        simp only [Int.toNat_natCast]
        rw [if_pos (.inr hy8), show x = y by rw [hx8, hy8], put]
      · refine .inl ⟨(a', b', ((j + 1 : Nat) : Int), e ++ [((y.toNat : Nat) : Int)]), by simp only [decide_eq_true hx8, decide_eq_false hy8, cond_true, cond_false, Bool.not_true, Bool.not_false, decide_true], next y (.inr rfl), by simp only [Int.toNat_natCast]; omega, ?_⟩
        simp only [Int.toNat_natCast]
        by_cases hxy : x = y
        · rw [if_pos (.inl hxy), hxy, put]
        · rw [if_neg (by simp [hxy, hy8]), if_pos hx8, put]
    · by_cases hy8 : y = 88
      · refine .inl ⟨(a', b', ((j + 1 : Nat) : Int), e ++ [((x.toNat : Nat) : Int)]), by simp only [decide_eq_false hx8, decide_eq_true hy8, cond_true, cond_false, Bool.not_true], next x (.inl rfl), by simp only [Int.toNat_natCast]; omega, ?_⟩
        simp only [Int.toNat_natCast]
        rw [if_pos (.inr hy8), put]
      · by_cases hxy : y = x
        · refine .inl ⟨(a', b', ((j + 1 : Nat) : Int), e ++ [((x.toNat : Nat) : Int)]), by simp only [decide_eq_false hx8, decide_eq_false hy8, decide_eq_true hxy, cond_true, cond_false, Bool.not_true, Bool.not_false], next x (.inl rfl), by simp only [Int.toNat_natCast]; omega, ?_⟩
          simp only [Int.toNat_natCast]
          rw [if_pos (.inl hxy.symm), put]
        · refine .inr ?_
          simp only [decide_eq_false hx8, decide_eq_false hy8, decide_eq_false hxy, cond_true, cond_false, Bool.not_true, Bool.not_false]
          rw [if_neg (by simp [Ne.symm hxy, hy8]), if_neg hx8]
  · have hb : (decide ((j : Int) < ((List.length a' : Nat) : Int))) = false := by simp; omega
    refine .inr ?_
    simp only [circaref03_Common_l0, hb, cond_false]
    rw [List.drop_eq_nil_of_le hge, List.drop_eq_nil_of_le (by omega)]
    simp [comm, nums]

theorem refCommon_eq {a b : List UInt8} (hl : a.length = b.length) (h18 : a.length ≤ 18) : circaref03_Common 20000 a b = some (match comm a b with | some l => (l, true) | none => ([], false)) := by
  simp only [circaref03_Common, refCommon_loop a b [] hl h18 rfl, ob]
  cases comm a b with
  | none => rfl
  | some l => simp only [bytesOf_nums]

/-! ### Numbers as text -/

/-- The digits of a number, the least one first. -/
def digs : Nat → Nat → List Int
  | 0, _ => []
  | f + 1, n => if n = 0 then [] else ((n % 10 : Nat) : Int) :: digs f (n / 10)

theorem digs_succ : ∀ (f n : Nat), n < 10 ^ f → digs (f + 1) n = digs f n
  | 0, n, h => by simp only [Nat.pow_zero, Nat.lt_one_iff] at h; simp [digs, h]
  | f + 1, n, h => by
    have ih := digs_succ f (n / 10) (by rw [Nat.pow_succ] at h; omega)
    show (if n = 0 then [] else ((n % 10 : Nat) : Int) :: digs (f + 1) (n / 10)) = (if n = 0 then [] else ((n % 10 : Nat) : Int) :: digs f (n / 10))
    rw [ih]

theorem digs_len : ∀ (f n : Nat), (digs f n).length ≤ f
  | 0, _ => by simp [digs]
  | f + 1, n => by
    simp only [digs]
    split
    · simp
    · have := digs_len f (n / 10); simp; omega

theorem digs_range : ∀ (f n : Nat), ∀ x ∈ digs f n, 0 ≤ x ∧ x < 10
  | 0, _, x, h => by simp [digs] at h
  | f + 1, n, x, h => by
    simp only [digs] at h
    split at h
    · simp at h
    · rcases List.mem_cons.1 h with rfl | h
      · omega
      · exact digs_range f _ x h

theorem wrap_neg {x : Int} (h0 : -9223372036854775808 ≤ x) (h1 : x < 9223372036854775808) : IntKind.wrap .i64 x = x := wrap_i64 x h0 h1

theorem Of_loop (x : Int) (p q : Bool) (h0 : -9223372036854775808 ≤ x) (h1 : x < 9223372036854775808) :
    iterL (circaref01_Of_l0 20000) 20000 (x, p, q, []) = some (p, q, digs 20 x.natAbs) := by
  have := iterL_inv (step := circaref01_Of_l0 20000) (fun s => (-9223372036854775808 ≤ s.1 ∧ s.1 < 9223372036854775808) ∧ s.2.1 = p ∧ s.2.2.1 = q ∧ s.2.2.2.length + (digs 20 s.1.natAbs).length ≤ 20) (fun s => (digs 20 s.1.natAbs).length)
    (fun s => (p, q, s.2.2.2 ++ digs 20 s.1.natAbs)) ?_ 20000 (x, p, q, []) ⟨⟨h0, h1⟩, rfl, rfl, by have := digs_len 20 x.natAbs; simp; omega⟩ (by have := digs_len 20 x.natAbs; simp only; omega)
  · simpa using this
  rintro ⟨x, p', q', D⟩ ⟨⟨h0, h1⟩, q1, q2, hD⟩
  simp only at h0 h1 q1 q2 hD ⊢
  subst q1 q2
  by_cases hx : x = 0
  · subst hx
    refine .inr ?_
    simp [circaref01_Of_l0, digs]
  · have e0 : (x != 0) = true := by simpa using hx
    have hn : x.natAbs ≠ 0 := by omega
    have hd : digs 20 x.natAbs = ((x.natAbs % 10 : Nat) : Int) :: digs 20 (x.natAbs / 10) := by
      rw [digs_succ 19 (x.natAbs / 10) (by omega)]
      show (if x.natAbs = 0 then [] else _) = _
      rw [if_neg hn]
    have hr : Nat.ble (D.length + 1) mostRows = true := Nat.ble_eq_true_of_le (by show D.length + 1 ≤ 67108864; rw [hd] at hD; simp at hD; omega)
    have fin : ∀ v : Int, v = ((x.natAbs % 10 : Nat) : Int) → ∀ x' : Int, x'.natAbs = x.natAbs / 10 → -9223372036854775808 ≤ x' → x' < 9223372036854775808 → circaref01_Of_l0 20000 (x, p', q', D) = some (.inl (x', p', q', D ++ [v])) →
        (∃ s', circaref01_Of_l0 20000 (x, p', q', D) = some (.inl s') ∧ ((-9223372036854775808 ≤ s'.1 ∧ s'.1 < 9223372036854775808) ∧ s'.2.1 = p' ∧ s'.2.2.1 = q' ∧ s'.2.2.2.length + (digs 20 s'.1.natAbs).length ≤ 20) ∧ (digs 20 s'.1.natAbs).length < (digs 20 x.natAbs).length ∧
          (p', q', s'.2.2.2 ++ digs 20 s'.1.natAbs) = (p', q', D ++ digs 20 x.natAbs)) := by
      intro v hv x' hx' b0 b1 hs
      rw [hd] at hD ⊢
      simp only [List.length_cons] at hD ⊢
      refine ⟨_, hs, ⟨⟨b0, b1⟩, rfl, rfl, ?_⟩, ?_, ?_⟩
      · simp only [hx', List.length_append, List.length_cons, List.length_nil]; omega
      · simp only [hx']; omega
      · simp only [hx', hv, List.append_assoc, List.cons_append, List.nil_append]
    refine .inl ?_
    by_cases hneg : x < 0
    · obtain ⟨m, rfl⟩ : ∃ m : Nat, x = -(m : Int) := ⟨x.natAbs, by omega⟩
      have t1 : Int.tmod (-(m : Int)) 10 = -((m % 10 : Nat) : Int) := by rw [Int.neg_tmod, Int.tmod_eq_emod_of_nonneg (by omega)]; omega
      have t2 : Int.tdiv (-(m : Int)) 10 = -((m / 10 : Nat) : Int) := by rw [Int.neg_tdiv, Int.tdiv_eq_ediv_of_nonneg (by omega)]; omega
      have hm : (-(m : Int)).natAbs = m := by omega
      by_cases hz : m % 10 = 0
      · refine fin 0 (by omega) (-((m / 10 : Nat) : Int)) (by omega) (by omega) (by omega) ?_
        have e1 : decide (-((m % 10 : Nat) : Int) < 0) = false := by simp; omega
        simp only [circaref01_Of_l0, e0, e1, hr, cond_true, cond_false, t2, t1, wrap_i64 _ (show (-9223372036854775808 : Int) ≤ -((m / 10 : Nat) : Int) by omega) (by omega), hz]
        rfl
      · refine fin ((m % 10 : Nat) : Int) (by omega) (-((m / 10 : Nat) : Int)) (by omega) (by omega) (by omega) ?_
        have e1 : decide (-((m % 10 : Nat) : Int) < 0) = true := by simp; omega
        have w1 : IntKind.wrap .u8 (IntKind.wrap .i64 (0 - -((m % 10 : Nat) : Int))) = ((m % 10 : Nat) : Int) := by
          rw [wrap_i64 _ (by omega) (by omega), wrap_u8 _ (by omega) (by omega)]; omega
        simp only [circaref01_Of_l0, e0, e1, hr, cond_true, cond_false, t2, t1, wrap_i64 _ (show (-9223372036854775808 : Int) ≤ -((m / 10 : Nat) : Int) by omega) (by omega), w1]
    · have hx0 : 0 ≤ x := by omega
      have t1 : Int.tmod x 10 = ((x.natAbs % 10 : Nat) : Int) := by rw [Int.tmod_eq_emod_of_nonneg hx0]; omega
      have t2 : Int.tdiv x 10 = ((x.natAbs / 10 : Nat) : Int) := by rw [Int.tdiv_eq_ediv_of_nonneg hx0]; omega
      refine fin ((x.natAbs % 10 : Nat) : Int) rfl ((x.natAbs / 10 : Nat) : Int) (by omega) (by omega) (by omega) ?_
      have e1 : decide (((x.natAbs % 10 : Nat) : Int) < 0) = false := by simp; omega
      have w1 : IntKind.wrap .u8 ((x.natAbs % 10 : Nat) : Int) = ((x.natAbs % 10 : Nat) : Int) := wrap_u8 _ (by omega) (by omega)
      have w2 : IntKind.wrap .i64 ((x.natAbs / 10 : Nat) : Int) = ((x.natAbs / 10 : Nat) : Int) := wrap_i64 _ (by omega) (by omega)
      simp only [circaref01_Of_l0, e0, e1, hr, cond_true, cond_false, t2, t1, w1, w2]

theorem Of_eq (x : Int) (h0 : -9223372036854775808 ≤ x) (h1 : x < 9223372036854775808) : circaref01_Of 20000 x = some (decide (x < 0), digs 20 x.natAbs) := by
  simp only [circaref01_Of, Of_loop x false (decide (x < 0)) h0 h1, ob]

theorem Text_loop (step : Int × List Int × Bool × List Int → Option ((Int × List Int × Bool × List Int) ⊕ List Int)) (hs : step = circaref01_Text_l0 20000 ∨ step = circaref01_Text_l0a 20000) (D : List Int) (b : Bool) (out : List Int) (hD : D.length ≤ 20) (hr : ∀ x ∈ D, 0 ≤ x ∧ x < 10) (ho : out.length ≤ 1) :
    iterL step 20000 ((D.length : Int) - 1, D, b, out) = some (out ++ D.reverse.map fun x => 48 + x) := by
  have := iterL_inv (step := step) (fun s => s.2.1 = D ∧ (-1 ≤ s.1 ∧ s.1 < D.length) ∧ s.2.2.2.length + (s.1 + 1).toNat ≤ 21) (fun s => (s.1 + 1).toNat)
    (fun s => s.2.2.2 ++ ((D.take (s.1 + 1).toNat).reverse.map fun x => 48 + x)) ?_ 20000 ((D.length : Int) - 1, D, b, out) ⟨rfl, ⟨by simp only; omega, by simp only; omega⟩, by simp only; omega⟩ (by simp only; omega)
  · have e : ((D.length : Int) - 1 + 1).toNat = D.length := by omega
    simpa only [e, List.take_length] using this
  rintro ⟨i, D', b', out⟩ ⟨q1, ⟨h0, h1⟩, ho⟩
  simp only at q1 h0 h1 ho ⊢
  subst q1
  by_cases hi : 0 ≤ i
  · obtain ⟨j, rfl⟩ : ∃ j : Nat, i = j := ⟨i.toNat, by omega⟩
    have hj : j < D'.length := by omega
    obtain ⟨y, hy⟩ : ∃ c, D'[j]? = some c := ⟨D'[j], List.getElem?_eq_getElem hj⟩
    obtain ⟨y0, y1⟩ := hr y (List.mem_of_getElem? hy)
    have e1 : decide ((j : Int) ≥ 0) = true := by simp
    have e2 : Nat.ble (out.length + 1) mostRows = true := Nat.ble_eq_true_of_le (by show out.length + 1 ≤ 67108864; omega)
    have w1 : IntKind.wrap .i64 ((j : Int) - 1) = (j : Int) - 1 := wrap_i64 _ (by omega) (by omega)
    have w2 : IntKind.wrap .u8 (48 + y) = 48 + y := wrap_u8 _ (by omega) (by omega)
    have s1 : ((j : Int) - 1 + 1).toNat = j := by omega
    have s2 : ((j : Int) + 1).toNat = j + 1 := by omega
    refine .inl ⟨((j : Int) - 1, D', b', out ++ [48 + y]), ?_, ⟨rfl, ⟨by simp only; omega, by simp only; omega⟩, by simp only [s1, List.length_append, List.length_cons, List.length_nil]; omega⟩, by simp only; omega, ?_⟩
    · rcases hs with rfl | rfl
      · simp only [circaref01_Text_l0, e1, cond_true, ix_nat hj, ob, hy, e2, w1, w2]
      · simp only [circaref01_Text_l0a, e1, cond_true, ix_nat hj, ob, hy, e2, w1, w2]
    · simp only [s1, s2]
      rw [List.take_add_one, hy]
      simp
  · have e1 : decide (i ≥ 0) = false := by simp; omega
    have s : (i + 1).toNat = 0 := by omega
    refine .inr ?_
    rcases hs with rfl | rfl
    · simp only [circaref01_Text_l0, e1, cond_false, s, List.take_zero, List.reverse_nil, List.map_nil, List.append_nil]
    · simp only [circaref01_Text_l0a, e1, cond_false, s, List.take_zero, List.reverse_nil, List.map_nil, List.append_nil]

/-- The text of a number. -/
def txt (b : Bool) (D : List Int) : List UInt8 := if D = [] then [48] else bytesOf ((if b then [45] else []) ++ D.reverse.map fun x => 48 + x)

theorem Text_eq (b : Bool) (D : List Int) (hD : D.length ≤ 20) (hr : ∀ x ∈ D, 0 ≤ x ∧ x < 10) : circaref01_Text 20000 b D = some (txt b D) := by
  unfold circaref01_Text txt
  by_cases h : D = []
  · subst h; simp
  · have e1 : ((((List.length D) : Nat) : Int) == 0) = false := by
      have : D.length ≠ 0 := fun e => h (List.eq_nil_of_length_eq_zero e)
      simp; omega
    have w : IntKind.wrap .i64 ((((List.length D) : Nat) : Int) - 1) = (D.length : Int) - 1 := wrap_i64 _ (by omega) (by omega)
    rw [if_neg h]
    simp only [e1, cond_false, w]
    cases b
    · simp only [cond_false, Text_loop _ (.inr rfl) D false [] hD hr (by simp), ob]; rfl
    · simp only [cond_true, Text_loop _ (.inl rfl) D true [45] hD hr (by simp), ob]; rfl

theorem dg_digs : ∀ (L : Nat) (f n : Nat), (digs f n).length ≤ L → n < 10 ^ f → dg L ((n : Nat) : Int) = List.replicate (L - (digs f n).length) 48 ++ (digs f n).reverse.map fun x => 48 + x
  | 0, f, n, h, _ => by
    have : digs f n = [] := List.eq_nil_of_length_eq_zero (by omega)
    simp [dg, this]
  | L + 1, f, n, h, hn => by
    by_cases h0 : n = 0
    · subst h0
      have hd : ∀ f, digs f 0 = [] := fun f => by cases f <;> simp [digs]
      have ih := dg_digs L f 0 (by rw [hd]; simp) hn
      rw [hd] at ih ⊢
      simp only [dg]
      rw [show ((0 : Nat) : Int) / 10 = ((0 : Nat) : Int) by omega, ih]
      simp [List.replicate_succ']
    · cases f with
      | zero => simp at hn; omega
      | succ f =>
        have hd : digs (f + 1) n = ((n % 10 : Nat) : Int) :: digs f (n / 10) := by
          show (if n = 0 then [] else _) = _
          rw [if_neg h0]
        rw [hd] at h ⊢
        simp only [List.length_cons] at h
        have ih := dg_digs L f (n / 10) (by omega) (by rw [Nat.pow_succ] at hn; omega)
        simp only [dg]
        rw [show ((n : Nat) : Int) / 10 = ((n / 10 : Nat) : Int) by omega, ih]
        simp

theorem comm_digits : ∀ {a d : List UInt8}, a.length = d.length → (∀ c ∈ d, 48 ≤ c.toNat ∧ c.toNat < 58) → comm a d = if agree a (nums d) then some d else none
  | [], [], _, _ => by simp [comm, agree, nums]
  | x :: a, y :: d, hl, hd => by
    simp only [List.length_cons, Nat.add_right_cancel_iff] at hl
    have ih := comm_digits hl fun c hc => hd c (List.mem_cons_of_mem _ hc)
    obtain ⟨y0, y1⟩ := hd y (by simp)
    have hy8 : y ≠ 88 := by rintro rfl; simp at y1
    simp only [comm, nums, List.map_cons, agree]
    have ih' : comm a d = if agree a (List.map (fun b => ((b.toNat : Nat) : Int)) d) = true then some d else none := ih
    rw [ih']
    by_cases hxy : x = y
    · subst hxy
      rw [if_pos (.inl rfl)]
      have : (x == 88 || decide (((x.toNat : Nat) : Int) = ((x.toNat : Nat) : Int))) = true := by simp
      rw [this, Bool.true_and]
      split <;> simp
    · rw [if_neg (by simp [hxy, hy8])]
      by_cases hx8 : x = 88
      · rw [if_pos hx8]
        have : (x == 88 || decide (((x.toNat : Nat) : Int) = ((y.toNat : Nat) : Int))) = true := by simp [hx8]
        rw [this, Bool.true_and]
        split <;> simp
      · rw [if_neg hx8]
        have : (x == 88 || decide (((x.toNat : Nat) : Int) = ((y.toNat : Nat) : Int))) = false := by
          have e1 : (x == 88) = false := by simpa using hx8
          rw [e1, Bool.false_or]
          exact decide_eq_false fun e => hxy (UInt8.toNat_inj.1 (by omega))
        rw [this]
        simp
  | [], _ :: _, h, _ => by simp at h
  | _ :: _, [], h, _ => by simp at h

theorem pad_loop (k : Int) (a d : List UInt8) (h : d.length ≤ a.length) (h18 : a.length ≤ 18) : iterL (circalaw03_MasksCommon_l0 20000) 20000 (k, a, d) = some (k, a, List.replicate (a.length - d.length) 48 ++ d) := by
  have := iterL_inv (step := circalaw03_MasksCommon_l0 20000) (fun s => s.1 = k ∧ s.2.1 = a ∧ s.2.2.length ≤ a.length) (fun s => a.length - s.2.2.length)
    (fun s => (k, a, List.replicate (a.length - s.2.2.length) 48 ++ s.2.2)) ?_ 20000 (k, a, d) ⟨rfl, rfl, h⟩ (by simp only; omega)
  · simpa using this
  rintro ⟨k', a', d⟩ ⟨q1, q2, hd⟩
  simp only at q1 q2 hd ⊢
  subst q1 q2
  by_cases hlt : d.length < a'.length
  · have e1 : decide (((List.length d : Nat) : Int) < ((List.length a' : Nat) : Int)) = true := by simp; omega
    refine .inl ⟨(k', a', 48 :: d), ?_, ⟨rfl, rfl, by simp only [List.length_cons]; omega⟩, by simp only [List.length_cons]; omega, ?_⟩
    · simp only [circalaw03_MasksCommon_l0, e1, cond_true, cat_small (show ([48] : List UInt8).length + d.length < 1000000 by simp; omega), ob]
      rfl
    · simp only [List.length_cons]
      obtain ⟨m, hm⟩ : ∃ m, a'.length - d.length = m + 1 := ⟨a'.length - d.length - 1, by omega⟩
      rw [hm, show a'.length - (d.length + 1) = m by omega, List.replicate_succ']
      simp
  · have e1 : decide (((List.length d : Nat) : Int) < ((List.length a' : Nat) : Int)) = false := by simp; omega
    refine .inr ?_
    simp only [circalaw03_MasksCommon_l0, e1, cond_false]
    rw [show a'.length - d.length = 0 by omega]; rfl

end Go.Sh
