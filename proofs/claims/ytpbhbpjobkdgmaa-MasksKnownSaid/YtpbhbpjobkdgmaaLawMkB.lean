/- Chapter 3: the common mask of two masks; strings that are no masks.
   Conditions: none. -/
import Derived.Test.YtpbhbpjobkdgmaaLawMkA
import Derived.KernelRfl
set_option linter.unusedSimpArgs false
set_option linter.unusedVariables false
namespace Go.Sh
open Go.Abs

/-- The common mask. -/
def comm : List UInt8 → List UInt8 → Option (List UInt8)
  | x :: a, y :: b => if x = y ∨ y = 88 then (comm a b).map (x :: ·) else if x = 88 then (comm a b).map (y :: ·) else none
  | _, _ => some []

def nums (l : List UInt8) : List Int := l.map fun b => ((b.toNat : Nat) : Int)

theorem bytesOf_nums (l : List UInt8) : bytesOf (nums l) = l := by
  unfold bytesOf nums
  rw [List.map_map]
  have : ((fun n : Int => UInt8.ofNat n.toNat) ∘ fun b : UInt8 => ((b.toNat : Nat) : Int)) = id := by
    funext b; simp
  rw [this, List.map_id]

/-- Numbers are laid over a list from a place on. -/
def over (d : List Int) (i : Nat) (l : List Int) : List Int := d.take i ++ (l ++ d.drop (i + l.length))

theorem over_set (d : List Int) (i : Nat) (x : Int) (l : List Int) (h : i < d.length) : over (d.set i x) (i + 1) l = over d i (x :: l) := by
  unfold over
  rw [show (d.set i x).take (i + 1) = d.take i ++ [x] from by
    rw [List.take_succ_eq_append_getElem (by simpa using h)]
    simp [List.take_set_of_le]]
  rw [List.drop_set_of_lt (by omega)]
  simp [Nat.add_assoc, Nat.add_comm 1]

theorem over_nil (d : List Int) (i : Nat) : over d i [] = d := by simp [over]

theorem over_len (d : List Int) (i : Nat) (l : List Int) (h : i + l.length ≤ d.length) : (over d i l).length = d.length := by
  unfold over; simp; omega

theorem toNat_eq {x y : UInt8} : (((x.toNat : Nat) : Int) == ((y.toNat : Nat) : Int)) = decide (x = y) := by
  by_cases h : x = y
  · simp [h]
  · have : x.toNat ≠ y.toNat := fun e => h (UInt8.toNat_inj.1 e)
    simp [h]; omega

theorem toNat_88 {x : UInt8} : (((x.toNat : Nat) : Int) == 88) = decide (x = 88) := by
  have := toNat_eq (x := x) (y := 88)
  simpa using this

theorem comm_len : ∀ {a b l : List UInt8}, a.length = b.length → comm a b = some l → l.length = a.length
  | [], [], l, _, h => by simp only [comm, Option.some.injEq] at h; subst h; rfl
  | x :: a, y :: b, l, hl, h => by
    simp only [List.length_cons, Nat.add_right_cancel_iff] at hl
    simp only [comm] at h
    split at h
    · cases hc : comm a b with
      | none => simp [hc] at h
      | some m =>
        simp only [hc, Option.map_some, Option.some.injEq] at h; subst h
        simp [comm_len hl hc]
    · split at h
      · cases hc : comm a b with
        | none => simp [hc] at h
        | some m =>
          simp only [hc, Option.map_some, Option.some.injEq] at h; subst h
          simp [comm_len hl hc]
      · cases h

theorem Common_loop (n : Nat) (a b : List UInt8) (d : List Int) (hl : a.length = b.length) (h18 : a.length ≤ 18) (hd : d.length = 18) (hn : a.length + 1 < n) :
    iterL (masks_Common_l0 n) n (a, b, ((a.length : Nat) : Int), 0, d) = some (match comm a b with | some l => .inr (a, over d 0 (nums l)) | none => .inl ([], 16)) := by
  have := iterL_inv (step := masks_Common_l0 n) (fun x => x.1 = a ∧ x.2.1 = b ∧ x.2.2.1 = ((a.length : Nat) : Int) ∧ (0 ≤ x.2.2.2.1 ∧ x.2.2.2.1 ≤ a.length) ∧ x.2.2.2.2.length = 18) (fun x => a.length - x.2.2.2.1.toNat)
    (fun x => match comm (a.drop x.2.2.2.1.toNat) (b.drop x.2.2.2.1.toNat) with | some l => .inr (a, over x.2.2.2.2 x.2.2.2.1.toNat (nums l)) | none => .inl ([], 16)) ?_ n (a, b, ((a.length : Nat) : Int), 0, d)
    ⟨rfl, rfl, rfl, ⟨by simp, by simp⟩, hd⟩ (by simp; omega)
  · simpa using this
  rintro ⟨a', b', m, i, e⟩ ⟨q1, q2, q3, ⟨h0, hi⟩, he⟩
  simp only at q1 q2 q3 h0 hi he ⊢
  subst q1 q2 q3
  obtain ⟨j, rfl⟩ : ∃ j : Nat, i = j := ⟨i.toNat, by omega⟩
  simp only [Int.toNat_natCast]
  rcases Nat.lt_or_ge j a'.length with hlt | hge
  · obtain ⟨x, hx⟩ : ∃ c, a'[j]? = some c := ⟨a'[j], List.getElem?_eq_getElem hlt⟩
    obtain ⟨y, hy⟩ : ∃ c, b'[j]? = some c := ⟨b'[j]'(by omega), List.getElem?_eq_getElem (by omega)⟩
    have hb : (decide ((j : Int) < ((List.length a' : Nat) : Int))) = true := by simp; omega
    have hw : IntKind.wrap .i64 ((j : Int) + 1) = ((j + 1 : Nat) : Int) := by rw [wrap_i64 _ (by omega) (by omega)]; omega
    have hj : Nat.blt j 18 = true := Nat.ble_eq_true_of_le (show j + 1 ≤ 18 by omega)
    simp only [drop_get hx, drop_get hy, comm]
    simp only [masks_Common_l0, hb, cond_true, sx_nat hx, sx_nat hy, ob, hw, ix_nat (show j < 18 by omega), hj, toNat_eq, toNat_88]
    have put : ∀ z : UInt8, (match Option.map (fun l => z :: l) (comm (a'.drop (j + 1)) (b'.drop (j + 1))) with | some l => (.inr (a', over e j (nums l)) : (List UInt8 × Int) ⊕ (List UInt8 × List Int)) | none => .inl ([], 16)) =
        (match comm (a'.drop (j + 1)) (b'.drop (j + 1)) with | some l => .inr (a', over (e.set j ((z.toNat : Nat) : Int)) (j + 1) (nums l)) | none => .inl ([], 16)) := by
      intro z
      cases comm (a'.drop (j + 1)) (b'.drop (j + 1)) with
      | none => rfl
      | some l => simp only [Option.map_some]; rw [over_set _ _ _ _ (by omega)]; rfl
    by_cases hxy : x = y
    · refine .inl ⟨(a', b', ((a'.length : Nat) : Int), ((j + 1 : Nat) : Int), e.set j ((x.toNat : Nat) : Int)), by simp [hxy], ⟨rfl, rfl, rfl, ⟨by simp only; omega, by simp only; omega⟩, by simpa using he⟩, by simp only [Int.toNat_natCast]; omega, ?_⟩
      simp only [Int.toNat_natCast, hxy, true_or, if_true]
      rw [put]
    · by_cases hy8 : y = 88
      · refine .inl ⟨(a', b', ((a'.length : Nat) : Int), ((j + 1 : Nat) : Int), e.set j ((x.toNat : Nat) : Int)), by simp [hxy, hy8]; (try (rw [hy8] at hxy; simp [hxy])), ⟨rfl, rfl, rfl, ⟨by simp only; omega, by simp only; omega⟩, by simpa using he⟩, by simp only [Int.toNat_natCast]; omega, ?_⟩
        simp only [Int.toNat_natCast, hy8, or_true, if_true]
        rw [put]
      · by_cases hx8 : x = 88
        · refine .inl ⟨(a', b', ((a'.length : Nat) : Int), ((j + 1 : Nat) : Int), e.set j ((y.toNat : Nat) : Int)), by simp only [decide_eq_false hxy, decide_eq_false hy8, decide_eq_true hx8, cond_true, cond_false], ⟨rfl, rfl, rfl, ⟨by simp only; omega, by simp only; omega⟩, by simpa using he⟩, by simp only [Int.toNat_natCast]; omega, ?_⟩
          simp only [Int.toNat_natCast, hxy, hy8, hx8, or_false, if_false, if_true]
          rw [← hx8, if_neg hxy, put]
        · refine .inr ?_
          simp [hxy, hy8, hx8]
  · have hb : (decide ((j : Int) < ((List.length a' : Nat) : Int))) = false := by simp; omega
    refine .inr ?_
    simp only [masks_Common_l0, hb, cond_false]
    rw [List.drop_eq_nil_of_le hge, List.drop_eq_nil_of_le (by omega)]
    simp only [comm, nums, List.map_nil, over_nil]

/-- Two masks of one length. -/
theorem Common_eq (n : Nat) (hn : 30 ≤ n) {a b : List UInt8} (ha : chk a = 0) (hb : chk b = 0) (hl : a.length = b.length) :
    masks_Common n a b = some (match comm a b with | some l => (l, 0) | none => ([], 16)) := by
  obtain ⟨h18, _, _⟩ := chk_len ha
  have e0 : ((0 : Int) != 0) = false := by simp
  have e1 : (((List.length a : Nat) : Int) != ((List.length b : Nat) : Int)) = false := by simp; omega
  simp only [masks_Common, masks_Check_eq n a hn, masks_Check_eq n b hn, ha, hb, ob, e0, cond_false, e1]
  rw [Common_loop n a b _ hl h18 rfl (by omega)]
  cases hc : comm a b with
  | none => simp
  | some l =>
    have hlen := comm_len hl hc
    simp only [bx_nat h18, Nat.zero_add, show Nat.ble a.length 18 = true from Nat.ble_eq_true_of_le h18, cond_true, List.drop_zero]
    congr 2
    unfold over
    rw [List.take_zero, List.nil_append, List.take_append_of_le_length (by simp [nums, hlen]), List.take_of_length_le (by simp [nums, hlen])]
    exact bytesOf_nums l

theorem Common_len (n : Nat) (hn : 30 ≤ n) {a b : List UInt8} (ha : chk a = 0) (hb : chk b = 0) (hl : a.length ≠ b.length) : masks_Common n a b = some ([], 1) := by
  have e0 : ((0 : Int) != 0) = false := by simp
  have e1 : (((List.length a : Nat) : Int) != ((List.length b : Nat) : Int)) = true := by simp; omega
  simp only [masks_Common, masks_Check_eq n a hn, masks_Check_eq n b hn, ha, hb, ob, e0, cond_false, e1, cond_true]

theorem Common_some (n : Nat) (hn : 30 ≤ n) {a b : List UInt8} (ha : chk a = 0) (hb : chk b = 0) : ∃ r, masks_Common n a b = some r := by
  by_cases hl : a.length = b.length
  · exact ⟨_, Common_eq n hn ha hb hl⟩
  · exact ⟨_, Common_len n hn ha hb hl⟩

theorem lives03 : circalaw03_lives 20000 = some true := by kernel_rfl

theorem bad_eq (n : Nat) (x : Int) : circalaw03_bad n 0 x x = some true := by simp [circalaw03_bad]

/-- MasksErrors. -/
theorem masksErrors_ok (s t : List UInt8) (k : Int) : circalaw03_MasksErrors 20000 s t k = some true := by
  have hn : 30 ≤ 20000 := by omega
  unfold circalaw03_MasksErrors
  by_cases h1 : (decide (((List.length s : Nat) : Int) > 40)) = true
  · simp [h1, lives03, ob]
  by_cases h2 : (decide (((List.length t : Nat) : Int) > 40)) = true
  · simp [h1, h2, lives03, ob]
  have h1 : (decide (((List.length s : Nat) : Int) > 40)) = false := by simpa using h1
  have h2 : (decide (((List.length t : Nat) : Int) > 40)) = false := by simpa using h2
  have e0 : ∀ x : Int, (x != x) = false := by simp
  simp only [h1, h2, cond_false, ref_Check_eq _ s hn, ref_Check_eq _ t hn, masks_Check_eq _ s hn, masks_Check_eq _ t hn, ob, e0]
  by_cases hs : chk s = 0
  · have b1 : (chk s == 0) = true := by simp [hs]
    simp only [b1, cond_true]
    by_cases ht : chk t = 0
    · obtain ⟨r, hr⟩ := Common_some 20000 hn hs ht
      simp [hr, ht, hs, lives03]
    · simp [Common_bad2 hn hs ht, bne_of ht, hs, lives03]
  · have b1 : (chk s == 0) = false := by simpa using hs
    simp only [b1, cond_false, Common_bad1 hn hs, bne_of hs, cond_true]
    simp [Count_bad hn hs, Least_bad hn hs, Greatest_bad hn hs, Next_bad hn hs, Prev_bad hn hs, Nth_bad hn hs, Index_bad hn hs, Has_bad hn hs, bad_eq, lives03]

end Go.Sh
