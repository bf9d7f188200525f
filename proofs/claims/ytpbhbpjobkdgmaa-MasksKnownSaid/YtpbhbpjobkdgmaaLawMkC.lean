/- Chapter 3: masks as data; which numbers a mask has.
   Conditions: none. -/
import Derived.Test.YtpbhbpjobkdgmaaLawMkB
set_option linter.unusedSimpArgs false
set_option linter.unusedVariables false
namespace Go.Sh
open Go.Abs

/-! ### Digits -/

/-- The last L digits of a number, as bytes, the first one ahead. -/
def dg : Nat → Int → List Int
  | 0, _ => []
  | L + 1, k => dg L (k / 10) ++ [48 + k % 10]

theorem dg_len : ∀ (L : Nat) (k : Int), (dg L k).length = L
  | 0, _ => rfl
  | L + 1, k => by simp [dg, dg_len L]

theorem dg_range : ∀ (L : Nat) (k : Int), ∀ x ∈ dg L k, 48 ≤ x ∧ x < 58
  | 0, _, x, h => by simp [dg] at h
  | L + 1, k, x, h => by
    simp only [dg, List.mem_append, List.mem_singleton] at h
    rcases h with h | rfl
    · exact dg_range L _ x h
    · omega

/-- Bytes and digits agree. -/
def agree : List UInt8 → List Int → Bool
  | c :: m, d :: l => (c == 88 || decide (((c.toNat : Nat) : Int) = d)) && agree m l
  | _, _ => true

theorem agree_append : ∀ {a c : List UInt8} {b d : List Int}, a.length = b.length → agree (a ++ c) (b ++ d) = (agree a b && agree c d)
  | [], c, [], d, _ => by simp [agree]
  | x :: a, c, y :: b, d, h => by
    simp only [List.length_cons, Nat.add_right_cancel_iff] at h
    simp only [List.cons_append, agree, agree_append h, Bool.and_assoc]

/-- The number is one of the mask. -/
def hasM (m : List UInt8) (k : Int) : Bool := decide (0 ≤ k) && (decide (k < 10 ^ m.length) && agree m (dg m.length k))

/-! ### Powers of ten, split -/

theorem power_eq (L : Nat) (h : L ≤ 18) : masks_power 20000 ((L : Nat) : Int) = some (10 ^ L) := by
  have hk : allN (fun i => match masks_power 20000 ((i : Nat) : Int) with | some r => decide (r = 10 ^ i) | none => false) 19 = true := by kernel_rfl
  have := allN_ok hk L (by omega)
  split at this
  · rename_i r hr
    rw [hr]; simpa using this
  · cases this

theorem pow_bound (L : Nat) (h : L ≤ 18) : (10 : Int) ^ L ≤ 1000000000000000000 := by
  have hk : allN (fun i => decide ((10 : Int) ^ i ≤ 1000000000000000000)) 19 = true := by kernel_rfl
  simpa using allN_ok hk L (by omega)

theorem tmod10 {k : Int} (h : 0 ≤ k) : Int.tmod k 10 = k % 10 := Int.tmod_eq_emod_of_nonneg h
theorem tdiv10 {k : Int} (h : 0 ≤ k) : Int.tdiv k 10 = k / 10 := Int.tdiv_eq_ediv_of_nonneg h

theorem split_loop (k : Int) (i : Nat) (d : List Int) (h0 : 0 ≤ k) (h1 : k < 9223372036854775808) (hi : i ≤ 18) (hd : d.length = 18) :
    iterL (masks_split_l0 20000) 20000 (k, (i : Int) - 1, d) = some (over d 0 (dg i k)) := by
  have := iterL_inv (step := masks_split_l0 20000) (fun x => (0 ≤ x.1 ∧ x.1 < 9223372036854775808) ∧ (-1 ≤ x.2.1 ∧ x.2.1 ≤ 17) ∧ x.2.2.length = 18) (fun x => (x.2.1 + 1).toNat)
    (fun x => over x.2.2 0 (dg (x.2.1 + 1).toNat x.1)) ?_ 20000 (k, (i : Int) - 1, d) ⟨⟨h0, h1⟩, ⟨by simp only; omega, by simp only; omega⟩, hd⟩ (by simp only; omega)
  · simpa using this
  rintro ⟨k, i, d⟩ ⟨⟨h0, h1⟩, ⟨h2, h3⟩, hd⟩
  simp only at h0 h1 h2 h3 hd ⊢
  by_cases hi : 0 ≤ i
  · obtain ⟨j, rfl⟩ : ∃ j : Nat, i = j := ⟨i.toNat, by omega⟩
    have hj : j < 18 := by omega
    have e1 : decide ((j : Int) ≥ 0) = true := by simp
    have e2 : Nat.blt j 18 = true := Nat.ble_eq_true_of_le hj
    have w1 : IntKind.wrap .i64 ((j : Int) - 1) = (j : Int) - 1 := wrap_i64 _ (by omega) (by omega)
    have w2 : IntKind.wrap .i64 (Int.tdiv k 10) = k / 10 := by rw [tdiv10 h0]; exact wrap_i64 _ (by omega) (by omega)
    have w3 : IntKind.wrap .u8 (IntKind.wrap .i64 (48 + Int.tmod k 10)) = 48 + k % 10 := by rw [tmod10 h0, wrap_i64 _ (by omega) (by omega), wrap_u8 _ (by omega) (by omega)]
    refine .inl ⟨(k / 10, (j : Int) - 1, d.set j (48 + k % 10)), by simp only [masks_split_l0, e1, cond_true, ix_nat hj, ob, e2, w1, w2, w3], ⟨⟨by simp only; omega, by simp only; omega⟩, ⟨by simp only; omega, by simp only; omega⟩, by simpa using hd⟩, by simp only; omega, ?_⟩
    have s1 : ((j : Int) - 1 + 1).toNat = j := by omega
    have s2 : ((j : Int) + 1).toNat = j + 1 := by omega
    simp only [s1, s2, over, List.take_zero, List.nil_append, dg_len, Nat.zero_add, dg, List.append_assoc]
    congr 1
    rw [List.drop_set, if_neg (by omega), Nat.sub_self, List.drop_eq_getElem_cons (by omega)]
    simp only [List.set_cons_zero, List.length_append, dg_len, List.length_cons, List.length_nil, List.cons_append, List.nil_append, Nat.zero_add]
  · have e1 : decide (i ≥ 0) = false := by simp; omega
    have s : (i + 1).toNat = 0 := by omega
    refine .inr ?_
    simp only [masks_split_l0, e1, cond_false, s, dg, over_nil]

theorem split_eq (m : List UInt8) (k : Int) (hm : m.length ≤ 18) (h0 : 0 ≤ k) (h1 : k < 9223372036854775808) :
    masks_split 20000 m k = some (over [0, 0, 0, 0, 0, 0, 0, 0, 0, 0, 0, 0, 0, 0, 0, 0, 0, 0] 0 (dg m.length k)) := by
  have w : IntKind.wrap .i64 (((List.length m : Nat) : Int) - 1) = (m.length : Int) - 1 := wrap_i64 _ (by omega) (by omega)
  simp only [masks_split, w, split_loop k m.length [0, 0, 0, 0, 0, 0, 0, 0, 0, 0, 0, 0, 0, 0, 0, 0, 0, 0] h0 h1 hm (by rfl), ob]

theorem over_get {d l : List Int} {i : Nat} (h : i < l.length) : (over d 0 l)[i]? = l[i]? := by
  unfold over
  simp only [List.take_zero, List.nil_append]
  rw [List.getElem?_append_left h]

theorem u8_byte (c : UInt8) : IntKind.wrap .u8 ((c.toNat : Nat) : Int) = ((c.toNat : Nat) : Int) := wrap_u8 _ (by omega) (by have := c.toNat_lt; omega)

theorem Has_loop (m : List UInt8) (l : List Int) (hl : l.length = m.length) (h18 : m.length ≤ 18) (hm : ∀ c ∈ m, okB c = true) (z : List Int) :
    iterL (masks_Has_l0 20000) 20000 (over z 0 l, m, 0) = some (cond (agree m l) (.inr ()) (.inl false)) := by
  have := iterL_inv (step := masks_Has_l0 20000) (fun x => x.1 = over z 0 l ∧ x.2.1 = m ∧ x.2.2 ≤ m.length) (fun x => m.length - x.2.2)
    (fun x => cond (agree (m.drop x.2.2) (l.drop x.2.2)) (.inr ()) (.inl false)) ?_ 20000 (over z 0 l, m, 0) ⟨rfl, rfl, Nat.zero_le _⟩ (by simp only; omega)
  · simpa using this
  rintro ⟨d, b, i⟩ ⟨q1, q2, hi⟩
  simp only at q1 q2 hi ⊢
  subst q2 q1
  rcases Nat.lt_or_ge i b.length with hlt | hge
  · obtain ⟨c, hc⟩ : ∃ c, b[i]? = some c := ⟨b[i], List.getElem?_eq_getElem hlt⟩
    obtain ⟨y, hy⟩ : ∃ c, l[i]? = some c := ⟨l[i]'(by omega), List.getElem?_eq_getElem (by omega)⟩
    have hok := hm c (List.mem_of_getElem? hc)
    have hb : Nat.blt i b.length = true := Nat.ble_eq_true_of_le hlt
    have h128 : c.toNat < 128 := by
      simp only [okB, Bool.or_eq_true, beq_iff_eq, Bool.and_eq_true, decide_eq_true_eq] at hok
      omega
    rw [drop_get hc, drop_get hy]
    simp only [agree, masks_Has_l0, hb, cond_true, dec_low hc h128]
    by_cases h88 : c = 88
    · refine .inl ⟨(over z 0 l, b, i + 1), by simp [h88], ⟨rfl, rfl, by simp only; omega⟩, by simp only; omega, ?_⟩
      simp [h88]
    · have e1 : (((c.toNat : Nat) : Int) != 88) = true := by
        rw [bne, toNat_88, decide_eq_false h88]; rfl
      have e2 : (c == 88) = false := by simpa using h88
      have hg : (over z 0 l)[i]? = some y := by rw [over_get (by omega)]; exact hy
      simp only [e1, e2, cond_true, ix_nat (show i < 18 by omega), ob, hg, u8_byte, Bool.false_or]
      by_cases hcy : ((c.toNat : Nat) : Int) = y
      · refine .inl ⟨(over z 0 l, b, i + 1), by simp [hcy], ⟨rfl, rfl, by simp only; omega⟩, by simp only; omega, ?_⟩
        simp [hcy]
      · have e5 : (((c.toNat : Nat) : Int) != y) = true := by simpa using hcy
        refine .inr ?_
        simp only [e5, cond_true, decide_eq_false hcy, Bool.false_and, cond_false]
  · have hb : Nat.blt i b.length = false := by
      cases h : Nat.blt i b.length with
      | false => rfl
      | true => have : i < b.length := Nat.le_of_ble_eq_true h; omega
    refine .inr ?_
    simp only [masks_Has_l0, hb, cond_false]
    rw [List.drop_eq_nil_of_le hge]
    rfl

theorem Has_eq {m : List UInt8} (hm : chk m = 0) (k : Int) (h1 : k < 9223372036854775808) : masks_Has 20000 m k = some (hasM m k) := by
  obtain ⟨h18, hne, hok⟩ := chk_len hm
  have e0 : ((0 : Int) != 0) = false := by simp
  simp only [masks_Has, masks_Check_eq 20000 m (by omega), hm, ob, e0, cond_false, masks_within, power_eq m.length h18]
  unfold hasM
  by_cases h0 : 0 ≤ k
  · have e1 : decide (k ≥ 0) = true := by simpa using h0
    have e2 : decide (0 ≤ k) = true := by simpa using h0
    simp only [e1, e2, cond_true, Bool.true_and]
    by_cases h2 : k < 10 ^ m.length
    · simp only [decide_eq_true h2, Bool.not_true, cond_false, Bool.true_and, split_eq m k h18 h0 h1]
      rw [Has_loop m (dg m.length k) (dg_len _ _) h18 hok]
      cases agree m (dg m.length k) <;> simp
    · simp [decide_eq_false h2]
  · have e1 : decide (k ≥ 0) = false := by simpa using h0
    have e2 : decide (0 ≤ k) = false := by simpa using h0
    simp [e1, e2]

/-! ### Common masks have common numbers -/

theorem comm_agree : ∀ {a b s : List UInt8} {d : List Int}, a.length = b.length → a.length = d.length → (∀ x ∈ d, 48 ≤ x ∧ x < 58) → comm a b = some s → agree s d = (agree a d && agree b d)
  | [], [], s, [], _, _, _, h => by simp only [comm, Option.some.injEq] at h; subst h; rfl
  | x :: a, y :: b, s, z :: d, hl, hd, hr, h => by
    simp only [List.length_cons, Nat.add_right_cancel_iff] at hl hd
    have ih : ∀ {t}, comm a b = some t → agree t d = (agree a d && agree b d) := fun h => comm_agree hl hd (fun q hq => hr q (List.mem_cons_of_mem _ hq)) h
    obtain ⟨z1, z2⟩ := hr z (by simp)
    simp only [comm] at h
    split at h
    · rename_i hxy
      cases hc : comm a b with
      | none => simp [hc] at h
      | some t =>
        simp only [hc, Option.map_some, Option.some.injEq] at h; subst h
        simp only [agree, ih hc]
        rcases hxy with rfl | rfl
        · cases (x == 88 || decide (((x.toNat : Nat) : Int) = z)) <;> simp
        · have : ((88 : UInt8) == 88 || decide ((((88 : UInt8).toNat : Nat) : Int) = z)) = true := by simp
          rw [this, Bool.true_and, Bool.and_assoc]
    · split at h
      · rename_i hx8
        cases hc : comm a b with
        | none => simp [hc] at h
        | some t =>
          simp only [hc, Option.map_some, Option.some.injEq] at h; subst h
          simp only [agree, ih hc]
          have : (x == 88 || decide (((x.toNat : Nat) : Int) = z)) = true := by simp [hx8]
          rw [this, Bool.true_and]
          cases (y == 88 || decide (((y.toNat : Nat) : Int) = z)) <;> simp
      · cases h
  | [], _ :: _, _, _, h, _, _, _ => by simp at h
  | _ :: _, [], _, _, h, _, _, _ => by simp at h
  | [], [], _, _ :: _, _, h, _, _ => by simp at h
  | _ :: _, _ :: _, _, [], _, h, _, _ => by simp at h

theorem comm_none : ∀ {a b : List UInt8} {d : List Int}, a.length = b.length → a.length = d.length → comm a b = none → (agree a d && agree b d) = false
  | [], [], [], _, _, h => by simp [comm] at h
  | x :: a, y :: b, z :: d, hl, hd, h => by
    simp only [List.length_cons, Nat.add_right_cancel_iff] at hl hd
    simp only [comm] at h
    have ih : comm a b = none → (agree a d && agree b d) = false := comm_none hl hd
    simp only [agree]
    split at h
    · have h := ih (by simpa using h)
      cases h1 : agree a d <;> cases h2 : agree b d <;> simp_all
    · rename_i hxy
      split at h
      · have h := ih (by simpa using h)
        cases h1 : agree a d <;> cases h2 : agree b d <;> simp_all
      · rename_i hx8
        simp only [not_or] at hxy
        by_cases hxz : ((x.toNat : Nat) : Int) = z
        · have : ¬ ((y.toNat : Nat) : Int) = z := by
            intro hyz
            exact hxy.1 (UInt8.toNat_inj.1 (by omega))
          have e1 : (y == 88) = false := by simpa using hxy.2
          simp [e1, this]
        · have e1 : (x == 88) = false := by simpa using hx8
          simp [e1, hxz]
  | [], _ :: _, _, h, _, _ => by simp at h
  | _ :: _, [], _, h, _, _ => by simp at h
  | [], [], _ :: _, _, h, _ => by simp at h
  | _ :: _, _ :: _, [], _, h, _ => by simp at h

theorem comm_ok : ∀ {a b s : List UInt8}, (∀ c ∈ a, okB c = true) → (∀ c ∈ b, okB c = true) → comm a b = some s → ∀ c ∈ s, okB c = true
  | [], _, s, _, _, h, c, hc => by simp only [comm, Option.some.injEq] at h; subst h; simp at hc
  | _ :: _, [], s, _, _, h, c, hc => by simp only [comm, Option.some.injEq] at h; subst h; simp at hc
  | x :: a, y :: b, s, ha, hb, h, c, hc => by
    have ih : ∀ {t}, comm a b = some t → ∀ c ∈ t, okB c = true := fun h => comm_ok (fun q hq => ha q (List.mem_cons_of_mem _ hq)) (fun q hq => hb q (List.mem_cons_of_mem _ hq)) h
    simp only [comm] at h
    split at h
    · cases hm : comm a b with
      | none => simp [hm] at h
      | some t =>
        simp only [hm, Option.map_some, Option.some.injEq] at h; subst h
        rcases List.mem_cons.1 hc with rfl | hc
        · exact ha _ (by simp)
        · exact ih hm c hc
    · split at h
      · cases hm : comm a b with
        | none => simp [hm] at h
        | some t =>
          simp only [hm, Option.map_some, Option.some.injEq] at h; subst h
          rcases List.mem_cons.1 hc with rfl | hc
          · exact hb _ (by simp)
          · exact ih hm c hc
      · cases h

theorem chk_of {s : List UInt8} (h1 : s.length ≤ 18) (h2 : s ≠ []) (h3 : ∀ c ∈ s, okB c = true) : chk s = 0 := by
  unfold chk
  rw [if_neg (by omega), if_pos (by simpa using h3), if_neg h2]

theorem comm_chk {a b s : List UInt8} (ha : chk a = 0) (hb : chk b = 0) (hl : a.length = b.length) (h : comm a b = some s) : chk s = 0 := by
  obtain ⟨a1, a2, a3⟩ := chk_len ha
  obtain ⟨b1, b2, b3⟩ := chk_len hb
  have hs := comm_len hl h
  exact chk_of (by omega) (fun e => a2 (List.eq_nil_of_length_eq_zero (by rw [← hs, e]; rfl))) (comm_ok a3 b3 h)

theorem hasM_comm {a b s : List UInt8} (hl : a.length = b.length) (h : comm a b = some s) (k : Int) : hasM s k = (hasM a k && hasM b k) := by
  have hs := comm_len hl h
  unfold hasM
  rw [hs, ← hl, comm_agree hl (dg_len _ _).symm (dg_range _ _) h]
  cases decide (0 ≤ k) <;> cases decide (k < 10 ^ a.length) <;> simp

theorem hasM_none {a b : List UInt8} (hl : a.length = b.length) (h : comm a b = none) (k : Int) : (hasM a k && hasM b k) = false := by
  unfold hasM
  have := comm_none (d := dg a.length k) hl (dg_len _ _).symm h
  rw [← hl]
  cases h1 : agree a (dg a.length k) <;> cases h2 : agree b (dg a.length k) <;> simp_all

end Go.Sh
