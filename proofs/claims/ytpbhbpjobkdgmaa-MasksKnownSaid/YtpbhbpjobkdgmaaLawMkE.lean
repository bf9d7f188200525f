/- Chapter 3: the law on common masks.
   Conditions: none. -/
import Derived.Test.YtpbhbpjobkdgmaaLawMkD
set_option linter.unusedSimpArgs false
set_option linter.unusedVariables false
namespace Go.Sh
open Go.Abs

theorem comm_symm : ∀ {a b : List UInt8}, a.length = b.length → comm a b = comm b a
  | [], [], _ => rfl
  | x :: a, y :: b, h => by
    simp only [List.length_cons, Nat.add_right_cancel_iff] at h
    simp only [comm, comm_symm h]
    by_cases hxy : x = y
    · subst hxy; simp
    · have hyx : ¬ y = x := fun e => hxy e.symm
      by_cases hy : y = 88
      · by_cases hx : x = 88
        · exact absurd (hx.trans hy.symm) hxy
        · rw [if_pos (.inr hy), if_neg (by simp [hyx, hx]), if_pos hy]
      · by_cases hx : x = 88
        · rw [if_neg (by simp [hxy, hy]), if_pos hx, if_pos (.inr hx)]
        · rw [if_neg (by simp [hxy, hy]), if_neg hx, if_neg (by simp [hyx, hx]), if_neg hy]
  | [], _ :: _, h => by simp at h
  | _ :: _, [], h => by simp at h

theorem digs_lt : ∀ (f n : Nat), n < 10 ^ f → n < 10 ^ (digs f n).length
  | 0, n, h => h
  | f + 1, n, h => by
    simp only [digs]
    split
    · rename_i h0; subst h0; simp
    · have := digs_lt f (n / 10) (by rw [Nat.pow_succ] at h; omega)
      simp only [List.length_cons, Nat.pow_succ]
      omega

theorem nums_bytes : ∀ (l : List Int), (∀ x ∈ l, 0 ≤ x ∧ x < 256) → nums (bytesOf l) = l
  | [], _ => rfl
  | x :: l, h => by
    have ih := nums_bytes l fun y hy => h y (List.mem_cons_of_mem _ hy)
    obtain ⟨h0, h1⟩ := h x (by simp)
    have e : (((UInt8.ofNat x.toNat).toNat : Nat) : Int) = x := by
      rw [UInt8.toNat_ofNat', Nat.mod_eq_of_lt (by omega)]; omega
    simp only [nums, bytesOf, List.map_map] at ih ⊢
    simp only [List.map_cons, Function.comp, e]
    rw [show List.map ((fun b : UInt8 => ((b.toNat : Nat) : Int)) ∘ fun n : Int => UInt8.ofNat n.toNat) l = l from ih]

/-- The digits of a number, padded. -/
theorem padded (L n : Nat) (h : n < 10 ^ 20) (hL : 1 ≤ L) (ht : (txt false (digs 20 n)).length ≤ L) :
    nums (List.replicate (L - (txt false (digs 20 n)).length) 48 ++ txt false (digs 20 n)) = dg L (n : Int) ∧ n < 10 ^ L := by
  unfold txt at ht ⊢
  by_cases hd : digs 20 n = []
  · rw [if_pos hd] at ht ⊢
    have hn : n = 0 := by
      have := digs_lt 20 n h
      rw [hd] at this; simpa using this
    have := dg_digs L 20 n (by rw [hd]; simp) h
    rw [hd] at this
    rw [this]
    obtain ⟨m, rfl⟩ : ∃ m, L = m + 1 := ⟨L - 1, by omega⟩
    refine ⟨?_, by rw [hn]; exact Nat.pow_pos (by omega)⟩
    simp [nums, List.replicate_succ']
  · rw [if_neg hd] at ht ⊢
    have e0 : ((if false = true then [45] else []) ++ List.map (fun x => 48 + x) (digs 20 n).reverse : List Int) = List.map (fun x => 48 + x) (digs 20 n).reverse := by simp
    rw [e0] at ht ⊢
    have hlen : (bytesOf (List.map (fun x => 48 + x) (digs 20 n).reverse)).length = (digs 20 n).length := by simp [bytesOf]
    rw [hlen] at ht ⊢
    have hdg := dg_digs L 20 n ht h
    refine ⟨?_, Nat.lt_of_lt_of_le (digs_lt 20 n h) (Nat.pow_le_pow_right (by omega) ht)⟩
    rw [hdg]
    have hb := nums_bytes (List.map (fun x => 48 + x) (digs 20 n).reverse) (by
      intro x hx
      obtain ⟨y, hy, rfl⟩ := List.mem_map.1 hx
      have := digs_range 20 n y (List.mem_reverse.1 hy)
      omega)
    have : ∀ (p q : List UInt8), nums (p ++ q) = nums p ++ nums q := fun p q => by simp [nums]
    rw [this, hb]
    congr 1
    simp [nums]

theorem nums_len (l : List UInt8) : (nums l).length = l.length := by simp [nums]

theorem digit_of_nums {d : List UInt8} {L : Nat} {k : Int} (h : nums d = dg L k) : ∀ c ∈ d, 48 ≤ c.toNat ∧ c.toNat < 58 := by
  intro c hc
  have : ((c.toNat : Nat) : Int) ∈ dg L k := by
    rw [← h]
    exact List.mem_map.2 ⟨c, hc, rfl⟩
  have := dg_range L k _ this
  omega

/-- A number's digits against a mask. -/
theorem text_part {a : List UInt8} (ha : chk a = 0) (k : Int) (h0 : -9223372036854775808 ≤ k) (h1 : k < 9223372036854775808) :
    (ob (circaref01_Of 20000 k) fun y475 => (ob (circaref01_Text 20000 y475.1 y475.2) fun y476 => (cond (decide (k < 0)) (ob (circalaw03_lives 20000) fun r477 => (some r477)) (cond (decide (((List.length y476 : Nat) : Int) > ((List.length a : Nat) : Int))) (ob (circalaw03_lives 20000) fun r478 => (some r478)) (ob (iterL (circalaw03_MasksCommon_l0 20000) 20000 (k, a, y476)) fun y480 => (ob (masks_Common 20000 y480.2.1 y480.2.2) fun r481 => (ob (masks_Has 20000 y480.2.1 y480.1) fun r482 => (cond (r481.1 == y480.2.2) (cond (r482 == (r481.2 == 0)) (ob (circalaw03_lives 20000) fun r483 => (some r483)) (some false)) (cond (r482 == false) (ob (circalaw03_lives 20000) fun r484 => (some r484)) (some false)))))))))) = some true := by
  obtain ⟨a1, a2, a3⟩ := chk_len ha
  simp only [Of_eq k h0 h1, ob, Text_eq _ _ (digs_len 20 _) (digs_range 20 _), lives03]
  by_cases hk : k < 0
  · simp [hk]
  · have e1 : decide (k < 0) = false := by simpa using hk
    simp only [e1, cond_false]
    by_cases hT : a.length < (txt false (digs 20 k.natAbs)).length
    · have e2 : decide (((List.length (txt false (digs 20 k.natAbs)) : Nat) : Int) > ((List.length a : Nat) : Int)) = true := by simp; omega
      simp only [e2, cond_true]
    · have e2 : decide (((List.length (txt false (digs 20 k.natAbs)) : Nat) : Int) > ((List.length a : Nat) : Int)) = false := by simp; omega
      have hL : 1 ≤ a.length := by
        rcases Nat.eq_zero_or_pos a.length with h | h
        · exact absurd (List.eq_nil_of_length_eq_zero h) a2
        · exact h
      simp only [e2, cond_false, pad_loop k a _ (Nat.le_of_not_lt hT) a1]
      obtain ⟨p1, p2⟩ := padded a.length k.natAbs (by omega) hL (Nat.le_of_not_lt hT)
      generalize hd : List.replicate (a.length - (txt false (digs 20 k.natAbs)).length) 48 ++ txt false (digs 20 k.natAbs) = d at p1 ⊢
      have hkk : (k.natAbs : Int) = k := by omega
      rw [hkk] at p1
      have hlen : a.length = d.length := by rw [← nums_len d, p1, dg_len]
      have hdig := digit_of_nums p1
      have hcd : chk d = 0 := chk_of (by omega) (fun e => by rw [e] at hlen; exact a2 (List.eq_nil_of_length_eq_zero hlen)) fun c hc => by
        have := hdig c hc
        simp [okB]; omega
      have hpow : k < 10 ^ a.length := by
        have h3 := Int.ofNat_lt.2 p2
        rw [Int.natCast_pow] at h3
        rw [← hkk]
        exact h3
      have hhas : hasM a k = agree a (nums d) := by
        unfold hasM
        rw [p1, decide_eq_true hpow, decide_eq_true (show 0 ≤ k by omega)]
        simp
      have hne : (([] : List UInt8) == d) = false := by
        have : d ≠ [] := fun e => by rw [e] at hlen; exact a2 (List.eq_nil_of_length_eq_zero hlen)
        cases d with
        | nil => exact absurd rfl this
        | cons x d => rfl
      simp only [Common_eq 20000 (by omega) ha hcd hlen, Has_eq ha k h1, hhas, comm_digits hlen hdig]
      cases hag : agree a (nums d) with
      | true => simp
      | false => simp only [Bool.false_eq_true, if_false, hne, cond_false]; rfl

/-- MasksCommon. -/
theorem masksCommon_ok (k : Int) (l1 l2 : List Int) (h0 : -9223372036854775808 ≤ k) (h1 : k < 9223372036854775808) (r1 : ∀ x ∈ l1, 0 ≤ x ∧ x < 256) (r2 : ∀ x ∈ l2, 0 ≤ x ∧ x < 256) :
    circalaw03_MasksCommon 20000 k l1 l2 = some true := by
  have ha := mk_chk l1
  have hb := mk_chk l2
  unfold circalaw03_MasksCommon
  rw [M_Of_eq l1 r1, ob_ret, M_Of_eq l2 r2, ob_ret]
  generalize mk l1 = a at ha ⊢
  generalize mk l2 = b at hb ⊢
  by_cases hl : a.length = b.length
  · have e1 : (((List.length a : Nat) : Int) != ((List.length b : Nat) : Int)) = false := by simp; omega
    obtain ⟨a1, a2, a3⟩ := chk_len ha
    rw [Common_eq 20000 (by omega) ha hb hl, ob_ret, Common_eq 20000 (by omega) hb ha hl.symm, ob_ret, comm_symm hl.symm, refCommon_eq hl a1]
    have e2 : ∀ x : List UInt8, (!(x == x)) = false := by simp
    have e3 : ∀ x : Int, (x != x) = false := by simp
    cases hc : comm a b with
    | none =>
      simp only [e1, e2, e3, cond_false, ob_ret, Bool.not_false, cond_true, Has_eq ha k h1, Has_eq hb k h1, lives03]
      have := hasM_none hl hc k
      cases hA : hasM a k <;> cases hB : hasM b k <;> simp_all
    | some s =>
      have hs := comm_chk ha hb hl hc
      have hh := hasM_comm hl hc k
      have e0 : ((0 : Int) != 0) = false := by simp
      simp only [e1, e2, e3, e0, cond_false, ob_ret, Bool.not_true, Has_eq hs k h1, Has_eq ha k h1, Has_eq hb k h1, hh]
      cases hA : hasM a k with
      | true =>
        have e4 : ∀ x : Bool, (!(x == x)) = false := by simp
        simp only [Bool.true_and, e4, cond_false, cond_true]
        exact text_part ha k h0 h1
      | false =>
        have e4 : (!(false == false)) = false := by simp
        simp only [Bool.false_and, e4, cond_false]
        exact text_part ha k h0 h1
  · have e1 : (((List.length a : Nat) : Int) != ((List.length b : Nat) : Int)) = true := by simp; omega
    rw [Common_len 20000 (by omega) ha hb hl, ob_ret, Common_len 20000 (by omega) hb ha (fun e => hl e.symm), ob_ret]
    simp [e1, lives03]

end Go.Sh
