/- Plain proofs, kept as far as they are needed here (printed by prune.py).
   Conditions: none. -/
import Derived.Test.YtbeeikpnlojpgaaGreatDoorLawWa
set_option linter.unusedVariables false
set_option linter.unusedSimpArgs false
set_option maxRecDepth 100000
namespace Go.Sh
open Go.Abs
def mkS (l : List UInt8) : Nat := match l with | [] => 0 | c :: _ => mkOf c

def mkN (l : List UInt8) : Nat := if mkS l = 0 then 0 else 1

def twoN (l : List UInt8) : Nat := spanN isDX 2 l

theorem mkOf_lt (c : UInt8) : mkOf c < 4 := by
  unfold mkOf
  split
  · omega
  · split
    · omega
    · split <;> omega

theorem mkS_lt (l : List UInt8) : mkS l < 4 := by
  cases l with
  | nil => show 0 < 4; omega
  | cons c r => exact mkOf_lt c

theorem mkN_le (l : List UInt8) : mkN l ≤ l.length := by
  cases l with
  | nil => exact Nat.le_refl 0
  | cons c r =>
    unfold mkN
    split <;> simp

theorem mk_hasB (c : UInt8) : hasB [63, 126, 37] c = decide (0 < mkOf c) := by
  have := u8_forall (fun c => hasB [63, 126, 37] c == decide (0 < mkOf c)) (by decide +kernel) c
  simpa using this

theorem df_mark (m : Nat) (S : List UInt8) (a : Nat) (h : a ≤ S.length) (hS : S.length < 100000) :
    dateforms_Read_1 (m + 300) S (a : Int) = some (.inr (((mkS (S.drop a) : Nat) : Int), S, ((a + mkN (S.drop a) : Nat) : Int))) := by
  unfold dateforms_Read_1
  rw [cur_Peek (m + 300) S a h]
  cases hd : S.drop a with
  | nil =>
    have h0 : marks_Of (m + 300) 0 = some (0, false) := by kernel_rfl
    show ob (marks_Of (m + 300) 0) _ = _
    rw [h0]
    rfl
  | cons c r =>
    show ob (marks_Of (m + 300) ((c.toNat : Nat) : Int)) _ = _
    rw [(mkOf_eq m c).1]
    show cond (decide (0 < mkOf c)) _ _ = _
    have e1 : mkS (c :: r) = mkOf c := rfl
    by_cases hc : 0 < mkOf c
    · rw [decide_eq_true hc]
      show ob (cursors_Cursor_One (m + 300) [63, 126, 37] S (a : Int)) _ = _
      rw [cur_One (m + 300) _ S a h (by omega), hd]
      have hb : hasB [63, 126, 37] c = true := by rw [mk_hasB, decide_eq_true hc]
      have e2 : mkN (c :: r) = 1 := by unfold mkN; rw [e1, if_neg (by omega)]
      rw [e1, e2]
      simp only [hb, if_true, ob]
    · rw [decide_eq_false hc]
      have e2 : mkN (c :: r) = 0 := by unfold mkN; rw [e1, if_pos (by omega)]
      rw [e1, e2]
      rfl

theorem ref_mark (m : Nat) (S : List UInt8) (a : Nat) (h : a ≤ S.length) (hS : S.length < 100000) (e : Int) :
    circaref15_mark (m + 300) S (a : Int) e = some (((mkS (S.drop a) : Nat) : Int), S, ((a + mkN (S.drop a) : Nat) : Int), e) := by
  unfold circaref15_mark
  rw [nat_dec_ge]
  rcases Nat.lt_or_ge a S.length with hlt | hge
  · have : decide (S.length ≤ a) = false := by simp; omega
    rw [this]
    obtain ⟨c, hc⟩ : ∃ c, S[a]? = some c := ⟨S[a], List.getElem?_eq_getElem hlt⟩
    rw [sx_nat hc, drop_get hc]
    show ob (circaref13_Of (m + 300) ((c.toNat : Nat) : Int)) _ = _
    rw [(mkOf_eq m c).2]
    have e1 : mkS (c :: S.drop (a + 1)) = mkOf c := rfl
    show cond (decide (((mkOf c : Nat) : Int) > 0)) _ _ = _
    by_cases h0 : 0 < mkOf c
    · have e2 : mkN (c :: S.drop (a + 1)) = 1 := by unfold mkN; rw [e1, if_neg (by omega)]
      have : decide (((mkOf c : Nat) : Int) > 0) = true := by simp; omega
      rw [this, e1, e2, cond_true]
      have w : IntKind.wrap .i64 ((a : Int) + 1) = ((a + 1 : Nat) : Int) := by rw [wrap_i64 _ (by omega) (by omega)]; omega
      rw [w]
    · have e2 : mkN (c :: S.drop (a + 1)) = 0 := by unfold mkN; rw [e1, if_pos (by omega)]
      have : decide (((mkOf c : Nat) : Int) > 0) = false := by simp; omega
      rw [this, e1, e2, cond_false]
      rfl
  · have : decide (S.length ≤ a) = true := by simp; omega
    rw [this, List.drop_eq_nil_of_le hge]
    rfl

theorem df_two (n : Nat) (S : List UInt8) (a : Nat) (h : a ≤ S.length) (hS : S.length < 100000) (hn : S.length < n) :
    dateforms_Read_2 n S (a : Int) = some (if twoN (S.drop a) < 2 then .inl (((a + twoN (S.drop a) : Nat) : Int), 5, S, ((a + twoN (S.drop a) : Nat) : Int)) else .inr ((S.drop a).take 2, S, ((a + 2 : Nat) : Int))) := by
  unfold dateforms_Read_2
  rw [cur_Some n _ 2 2 S a h (by omega) hn]
  have e : spanN (hasB [88, 48, 49, 50, 51, 52, 53, 54, 55, 56, 57]) (2 : Int).toNat (S.drop a) = twoN (S.drop a) := by
    unfold twoN
    have e2 : (2 : Int).toNat = 2 := rfl
    rw [e2]
    exact spanN_congr (fun c => by rw [hasB_digsX]; rfl) _ _
  rw [e]
  by_cases h2 : twoN (S.drop a) < 2
  · rw [if_pos h2, if_pos (by omega)]
    rfl
  · have h3 : twoN (S.drop a) = 2 := by
      have := spanN_top isDX 2 (S.drop a)
      unfold twoN at h2 ⊢
      omega
    rw [if_neg h2, if_neg (by omega), h3]
    rfl

theorem dx_int (c : UInt8) : isDX c = ((decide (48 ≤ c.toNat) && decide (c.toNat ≤ 57)) || c == 88) := by
  unfold isDX
  congr 1
  rw [Bool.eq_iff_iff, isDig_iff]
  simp

theorem two_step (n : Nat) (S : List UInt8) (a b i e : Int) (j : Nat) (hS : S.length < 100000) (hi : i < 2) (hj : j ≤ S.length) (i0 : 0 ≤ i) :
    circaref15_two_l0 n (b, i, S, (j : Int), e, [], 0, 0) = some (match S.drop j with
      | [] => .inr (.inl ([], S, (j : Int), 5))
      | c :: _ => if isDX c then .inl (b, i + 1, S, ((j + 1 : Nat) : Int), e, [], 0, 0) else .inr (.inl ([], S, (j : Int), 5))) := by
  unfold circaref15_two_l0
  have d1 : decide (i < 2) = true := decide_eq_true hi
  show cond (decide (i < 2)) (cond (decide ((j : Int) ≥ ((S.length : Nat) : Int))) _ _) _ = _
  rw [d1, nat_dec_ge]
  rcases Nat.lt_or_ge j S.length with hlt | hge
  · have : decide (S.length ≤ j) = false := by simp; omega
    rw [this]
    obtain ⟨c, hc⟩ : ∃ c, S[j]? = some c := ⟨S[j], List.getElem?_eq_getElem hlt⟩
    have w1 : IntKind.wrap .i64 (i + 1) = i + 1 := wrap_i64 _ (by omega) (by omega)
    have w2 : IntKind.wrap .i64 ((j : Int) + 1) = ((j + 1 : Nat) : Int) := by rw [wrap_i64 _ (by omega) (by omega)]; omega
    rw [drop_get hc]
    simp only [sx_nat hc, ob, cond_true, cond_false, w1, w2]
    rw [dx_int]
    have e88 : (((c.toNat : Nat) : Int) != 88) = !(c == 88) := by rw [bne]; congr 1; exact u8_beq c 88
    rw [e88]
    by_cases h1 : c.toNat < 48
    · have q1 : decide (((c.toNat : Nat) : Int) < 48) = true := by simp; omega
      have q2 : decide (48 ≤ c.toNat) = false := by simp; omega
      rw [q1, q2]
      cases (c == 88) <;> rfl
    · have q1 : decide (((c.toNat : Nat) : Int) < 48) = false := by simp; omega
      have q2 : decide (48 ≤ c.toNat) = true := by simp; omega
      rw [q1, q2]
      by_cases h2 : c.toNat ≤ 57
      · have q3 : decide (((c.toNat : Nat) : Int) > 57) = false := by simp; omega
        have q4 : decide (c.toNat ≤ 57) = true := by simp; omega
        rw [q3, q4]
        rfl
      · have q3 : decide (((c.toNat : Nat) : Int) > 57) = true := by simp; omega
        have q4 : decide (c.toNat ≤ 57) = false := by simp; omega
        rw [q3, q4]
        cases (c == 88) <;> rfl
  · have : decide (S.length ≤ j) = true := by simp; omega
    rw [this, List.drop_eq_nil_of_le hge]
    rfl

theorem ref_two (n : Nat) (hn : 10 < n) (S : List UInt8) (a : Nat) (h : a ≤ S.length) (hS : S.length < 100000) (e : Int) :
    circaref15_two n S (a : Int) e = some (if twoN (S.drop a) < 2 then ([], S, ((a + twoN (S.drop a) : Nat) : Int), 5) else ((S.drop a).take 2, S, ((a + 2 : Nat) : Int), e)) := by
  obtain ⟨n, rfl⟩ : ∃ j, n = j + 3 := ⟨n - 3, by omega⟩
  unfold circaref15_two
  rw [iterL, two_step (n + 3) S 0 (a : Int) 0 e a hS (by omega) h (by omega)]
  cases hd : S.drop a with
  | nil => rfl
  | cons c r =>
    obtain ⟨hlt, hg, hr⟩ := drop_lt hd
    cases hc : isDX c with
    | false =>
      have : twoN (c :: r) = 0 := by unfold twoN; simp [spanN, hc]
      rw [this]
      simp [hc, ob]
    | true =>
      simp only [hc, if_true]
      rw [iterL, two_step (n + 3) S 0 (a : Int) (0 + 1) e (a + 1) hS (by omega) (by omega) (by omega), hr]
      cases r with
      | nil =>
        have : twoN [c] = 1 := by unfold twoN; simp [spanN, hc]
        rw [this]
        rfl
      | cons d r2 =>
        obtain ⟨hlt2, hg2, hr2⟩ := drop_lt hr
        cases hd2 : isDX d with
        | false =>
          have : twoN (c :: d :: r2) = 1 := by unfold twoN; simp [spanN, hc, hd2]
          rw [this]
          simp [hd2, ob]
        | true =>
          have : twoN (c :: d :: r2) = 2 := by unfold twoN; simp [spanN, hc, hd2]
          rw [this]
          simp only [hd2, if_true]
          have s3 : circaref15_two_l0 (n + 3) ((a : Int), 0 + 1 + 1, S, ((a + 1 + 1 : Nat) : Int), e, [], 0, 0) = some (.inr (.inr ((a : Int), S, ((a + 1 + 1 : Nat) : Int), e, [], 0, 0))) := rfl
          rw [iterL, s3]
          show ob (bx S.length ((a + 1 + 1 : Nat) : Int)) _ = _
          rw [bx_nat (show a + 1 + 1 ≤ S.length by omega)]
          show ob (bx (a + 1 + 1) (a : Int)) _ = _
          rw [bx_nat (show a ≤ a + 1 + 1 by omega)]
          have : List.drop a (List.take (a + 1 + 1) S) = [c, d] := by
            rw [List.drop_take, hd]
            have : a + 1 + 1 - a = 2 := by omega
            rw [this]
            rfl
          show some (List.drop a (List.take (a + 1 + 1) S), S, ((a + 1 + 1 : Nat) : Int), e) = _
          rw [this]
          rfl

theorem cutD (r : Nat) (h : r < 10) : List.drop r (List.take (r + 1) ([48, 49, 50, 51, 52, 53, 54, 55, 56, 57] : List UInt8)) = [UInt8.ofNat (48 + r)] := by
  have : ∀ r, r < 10 → List.drop r (List.take (r + 1) ([48, 49, 50, 51, 52, 53, 54, 55, 56, 57] : List UInt8)) = [UInt8.ofNat (48 + r)] := by decide
  exact this r h

theorem dd_low {k : Nat} (h : k < 10) : Lib.decDigits k = [UInt8.ofNat (48 + k)] := by
  rw [Lib.decDigits, dif_pos h]

theorem dd_high {k : Nat} (h : ¬ k < 10) (h2 : k < 100) : Lib.decDigits k = [UInt8.ofNat (48 + k / 10), UInt8.ofNat (48 + k % 10)] := by
  rw [Lib.decDigits, dif_neg h, dd_low (by omega)]; rfl

theorem dec_eq (n k : Nat) (h : k < 100) : circaref14_Decimal n (k : Int) = some (Lib.decDigits k) := by
  have hm : Int.tmod (k : Int) 10 = ((k % 10 : Nat) : Int) := rfl
  have hq : Int.tdiv (k : Int) 10 = ((k / 10 : Nat) : Int) := rfl
  have w1 : IntKind.wrap .i64 (((k % 10 : Nat) : Int) + 1) = ((k % 10 + 1 : Nat) : Int) := by rw [wrap_i64 _ (by omega) (by omega)]; omega
  have w2 : IntKind.wrap .i64 ((k / 10 : Nat) : Int) = ((k / 10 : Nat) : Int) := wrap_i64 _ (by omega) (by omega)
  have w3 : IntKind.wrap .i64 (((k / 10 : Nat) : Int) + 1) = ((k / 10 + 1 : Nat) : Int) := by rw [wrap_i64 _ (by omega) (by omega)]; omega
  simp only [circaref14_Decimal, hm, hq, w1, w2, w3, bx_nat (show k % 10 + 1 ≤ 10 by omega), bx_nat (show k % 10 ≤ k % 10 + 1 by omega), ob, cutD (k % 10) (by omega)]
  by_cases h1 : k < 10
  · have e : decide ((k : Int) ≥ 10) = false := decide_eq_false (by omega)
    rw [e, cond_false, dd_low h1, Nat.mod_eq_of_lt h1]
  · have e : decide ((k : Int) ≥ 10) = true := decide_eq_true (by omega)
    rw [e, cond_true, bx_nat (show k / 10 + 1 ≤ 10 by omega)]
    simp only []
    rw [bx_nat (show k / 10 ≤ k / 10 + 1 by omega)]
    simp only [cutD (k / 10) (by omega)]
    rw [cat_ok (by simp), dd_high h1 h]
    rfl

def textN (letter : UInt8) (v : Nat) : List UInt8 := if 0 < v then letter :: Lib.decDigits v else []

theorem dd_len {k : Nat} (h : k < 100) : 1 ≤ (Lib.decDigits k).length ∧ (Lib.decDigits k).length ≤ 2 := by
  by_cases h1 : k < 10
  · rw [dd_low h1]; simp
  · rw [dd_high h1 h]; simp

theorem textN_len (letter : UInt8) {k : Nat} (h : k < 100) : (textN letter k).length ≤ 3 := by
  unfold textN
  split
  · have := dd_len h; simp only [List.length_cons]; omega
  · simp

theorem ytext_parts (g l : Bool) (d : List UInt8) (x s : Nat) : ytextF g l d (x : Int) (s : Int) = (if l then [89] else []) ++ (if g then [45] else []) ++ d ++ textN 69 x ++ textN 83 s := by
  unfold ytextF textN
  simp only [Int.toNat_natCast]
  have e1 : (0 < (x : Int)) = (0 < x) := by simp
  have e2 : (0 < (s : Int)) = (0 < s) := by simp
  simp only [e1, e2]

theorem ref_Text (n : Nat) (g l : Bool) (d : List UInt8) (x s : Nat) (hx : x < 100) (hs : s < 100) (hd : d.length ≤ 1000) : circaref14_Text n g l d (x : Int) (s : Int) = some (ytextF g l d (x : Int) (s : Int)) := by
  have l1 := dd_len hx
  have l2 := dd_len hs
  have ex : decide ((x : Int) > 0) = decide (0 < x) := by simp
  have es : decide ((s : Int) > 0) = decide (0 < s) := by simp
  have tx : ∀ a : List UInt8, a.length ≤ 1100 → (cond (decide (0 < x)) (ob (circaref14_Decimal n (x : Int)) fun r => (ob (cat ([69] : List UInt8) r) fun p => (cat a p))) (some a)) = some (a ++ textN 69 x) := by
    intro a ha
    unfold textN
    by_cases h : 0 < x
    · rw [decide_eq_true h, cond_true, if_pos h, dec_eq n x hx]
      simp only [ob]
      rw [cat_ok (by simp; omega)]
      simp only []
      rw [cat_ok (by simp; omega)]
      rfl
    · rw [decide_eq_false h, if_neg h]; simp
  have ts : ∀ a : List UInt8, a.length ≤ 1200 → (cond (decide (0 < s)) (ob (circaref14_Decimal n (s : Int)) fun r => (ob (cat ([83] : List UInt8) r) fun p => (ob (cat a p) fun q => (some q)))) (some a)) = some (a ++ textN 83 s) := by
    intro a ha
    unfold textN
    by_cases h : 0 < s
    · rw [decide_eq_true h, cond_true, if_pos h, dec_eq n s hs]
      simp only [ob]
      rw [cat_ok (by simp; omega)]
      simp only []
      rw [cat_ok (by simp; omega)]
      rfl
    · rw [decide_eq_false h, if_neg h]; simp
  have both : ∀ a : List UInt8, a.length ≤ 1100 → (cond (decide (0 < x)) (ob (circaref14_Decimal n (x : Int)) fun r => (ob (cat ([69] : List UInt8) r) fun p => (ob (cat a p) fun z => (cond (decide (0 < s)) (ob (circaref14_Decimal n (s : Int)) fun r => (ob (cat ([83] : List UInt8) r) fun p => (ob (cat z p) fun q => (some q)))) (some z))))) (cond (decide (0 < s)) (ob (circaref14_Decimal n (s : Int)) fun r => (ob (cat ([83] : List UInt8) r) fun p => (ob (cat a p) fun q => (some q)))) (some a))) = some (a ++ textN 69 x ++ textN 83 s) := by
    intro a ha
    have htx := tx a ha
    by_cases h : 0 < x
    · rw [decide_eq_true h, cond_true] at htx ⊢
      rw [dec_eq n x hx] at htx ⊢
      simp only [ob] at htx ⊢
      rw [cat_ok (a := [69]) (by simp; omega)] at htx ⊢
      simp only [] at htx ⊢
      rw [htx]
      simp only []
      have := ts (a ++ textN 69 x) (by have := textN_len 69 hx; simp only [List.length_append]; omega)
      simp only [ob] at this
      exact this
    · rw [decide_eq_false h, cond_false]
      have hz : textN 69 x = [] := by unfold textN; rw [if_neg h]
      rw [hz, List.append_nil]
      exact ts a (by omega)
  rw [ytext_parts]
  unfold circaref14_Text
  rw [ex, es]
  cases l <;> cases g
  · rw [cond_false, cond_false, cat_ok (by simp; omega)]
    exact both d (by omega)
  · rw [cond_false, cond_true, cat_ok (by simp; omega)]
    exact both ([45] ++ d) (by simp; omega)
  · rw [cond_true, cond_false, cat_ok (by simp; omega)]
    exact both ([89] ++ d) (by simp; omega)
  · rw [cond_true, cond_true, cat_ok (by simp; omega)]
    exact both ([89, 45] ++ d) (by simp; omega)

def noHead (p : UInt8 → Bool) (l : List UInt8) : Prop := ∀ c, l.head? = some c → p c = false

theorem ofNat_dig {k : Nat} (h : k < 10) : (UInt8.ofNat (48 + k)).toNat = 48 + k := by
  rw [UInt8.toNat_ofNat']
  exact Nat.mod_eq_of_lt (by omega)

theorem numS_text (letter : UInt8) (v : Nat) (post : List UInt8) (hv : v < 100) (h1 : noHead isDig post) (h2 : noHead (fun c => c == letter) post) : numS letter (textN letter v ++ post) = .inr (v, (textN letter v).length) := by
  unfold textN
  by_cases h0 : 0 < v
  · rw [if_pos h0]
    by_cases h9 : v < 10
    · rw [dd_low h9]
      have hd := ofNat_dig h9
      simp only [List.cons_append, List.nil_append]
      rw [numS_cons, if_pos rfl, numT_cons, if_pos (by omega)]
      have e48 : 48 + v - 48 = v := by omega
      cases post with
      | nil =>
        rw [numU_nil, hd, e48]
        rfl
      | cons e r =>
        have he : ¬ isDig e = true := by rw [h1 e rfl]; simp
        rw [numU_cons, if_neg he, hd, e48]
        rfl
    · rw [dd_high h9 hv]
      have hd := ofNat_dig (show v / 10 < 10 by omega)
      have he := ofNat_dig (show v % 10 < 10 by omega)
      simp only [List.cons_append, List.nil_append]
      rw [numS_cons, if_pos rfl, numT_cons, if_pos (by omega), numU_cons, if_pos ((isDig_iff _).2 (by omega)), hd, he]
      rw [show 10 * (48 + v / 10 - 48) + (48 + v % 10 - 48) = v by omega]
      rfl
  · rw [if_neg h0]
    have hv0 : v = 0 := by omega
    subst hv0
    cases post with
    | nil => rfl
    | cons c r =>
      have hc : c ≠ letter := by
        have := h2 c rfl
        simpa using this
      rw [List.nil_append, numS_cons, if_neg hc]
      rfl

theorem numS_back (letter : UInt8) (l : List UInt8) (v k : Nat) (h : numS letter l = .inr (v, k)) : v < 100 ∧ l.take k = textN letter v ∧ k ≤ l.length := by
  cases l with
  | nil =>
    simp only [numS_nil, Sum.inr.injEq, Prod.mk.injEq] at h
    obtain ⟨rfl, rfl⟩ := h
    exact ⟨by omega, rfl, by simp⟩
  | cons c r =>
    rw [numS_cons] at h
    by_cases hc : c = letter
    · rw [if_pos hc] at h
      cases r with
      | nil => simp [numT_nil] at h
      | cons d r2 =>
        rw [numT_cons] at h
        by_cases hd : 49 ≤ d.toNat ∧ d.toNat ≤ 57
        · rw [if_pos hd] at h
          have e9 : d.toNat - 48 < 10 := by omega
          have hdd : UInt8.ofNat (48 + (d.toNat - 48)) = d := by
            apply UInt8.toNat_inj.1
            rw [ofNat_dig e9]; omega
          have one : (c :: d :: r2).take 2 = textN letter (d.toNat - 48) := by
            unfold textN
            rw [if_pos (by omega), dd_low e9, hdd, hc]; rfl
          cases r2 with
          | nil =>
            simp only [numU_nil, Sum.inr.injEq, Prod.mk.injEq] at h
            obtain ⟨rfl, rfl⟩ := h
            exact ⟨by omega, one, by simp⟩
          | cons e r3 =>
            rw [numU_cons] at h
            by_cases he : isDig e = true
            · rw [if_pos he] at h
              simp only [Sum.inr.injEq, Prod.mk.injEq] at h
              obtain ⟨rfl, rfl⟩ := h
              have hei := (isDig_iff e).1 he
              refine ⟨by omega, ?_, by simp⟩
              unfold textN
              have h1 : (10 * (d.toNat - 48) + (e.toNat - 48)) / 10 = d.toNat - 48 := by omega
              have h2 : (10 * (d.toNat - 48) + (e.toNat - 48)) % 10 = e.toNat - 48 := by omega
              have hee : UInt8.ofNat (48 + (e.toNat - 48)) = e := by
                apply UInt8.toNat_inj.1
                rw [ofNat_dig (by omega)]; omega
              rw [if_pos (by omega), dd_high (by omega) (by omega), h1, h2, hdd, hee, hc]; rfl
            · rw [if_neg he] at h
              simp only [Sum.inr.injEq, Prod.mk.injEq] at h
              obtain ⟨rfl, rfl⟩ := h
              exact ⟨by omega, one, by simp⟩
        · rw [if_neg hd] at h; cases h
    · rw [if_neg hc] at h
      simp only [Sum.inr.injEq, Prod.mk.injEq] at h
      obtain ⟨rfl, rfl⟩ := h
      exact ⟨by omega, rfl, by simp⟩

theorem spanN_app {p : UInt8 → Bool} : ∀ (r : List UInt8) (k : Nat) (post : List UInt8), (∀ c ∈ r, p c = true) → r.length ≤ k → (noHead p post ∨ r.length = k) → spanN p k (r ++ post) = r.length
  | [], 0, post, _, _, _ => by simp [spanN]
  | [], k + 1, post, _, _, h => by
    cases post with
    | nil => simp [spanN]
    | cons c q =>
      rcases h with h | h
      · have := h c rfl
        simp [spanN, this]
      · simp at h
  | c :: r, 0, post, _, h, _ => by simp at h
  | c :: r, k + 1, post, hp, hk, h => by
    have ih := spanN_app r k post (fun d hd => hp d (by simp [hd])) (by simpa using hk) (by
      rcases h with h | h
      · exact .inl h
      · exact .inr (by simpa using h))
    simp only [List.cons_append, spanN, hp c (by simp), if_true, ih, List.length_cons]

theorem textN_head {letter : UInt8} {v : Nat} {post : List UInt8} {p : UInt8 → Bool} (h1 : p letter = false) (h2 : noHead p post) : noHead p (textN letter v ++ post) := by
  unfold textN
  intro c hc
  by_cases h : 0 < v
  · rw [if_pos h] at hc
    simp only [List.cons_append, List.head?_cons, Option.some.injEq] at hc
    rw [← hc]; exact h1
  · rw [if_neg h] at hc
    exact h2 c hc

def isYC (c : UInt8) : Bool := isDX c || c == 69 || c == 83

theorem yc_dig {l : List UInt8} (h : noHead isYC l) : noHead isDig l := fun c hc => by
  have := h c hc
  unfold isYC isDX at this
  simp only [Bool.or_eq_false_iff] at this
  exact this.1.1.1

theorem yc_dx {l : List UInt8} (h : noHead isYC l) : noHead isDX l := fun c hc => by
  have := h c hc
  unfold isYC at this
  simp only [Bool.or_eq_false_iff] at this
  exact this.1.1

theorem yc_69 {l : List UInt8} (h : noHead isYC l) : noHead (fun c => c == 69) l := fun c hc => by
  have := h c hc
  unfold isYC at this
  simp only [Bool.or_eq_false_iff] at this
  exact this.1.2

theorem yc_83 {l : List UInt8} (h : noHead isYC l) : noHead (fun c => c == 83) l := fun c hc => by
  have := h c hc
  unfold isYC at this
  simp only [Bool.or_eq_false_iff] at this
  exact this.2

theorem takes_hit (c : UInt8) (l : List UInt8) : takes c (c :: l) = 1 := by rw [takes_cons, if_pos rfl]

theorem takes_miss {c a : UInt8} (h : a ≠ c) (l : List UInt8) : takes c (a :: l) = 0 := by rw [takes_cons, if_neg h]

theorem read_text {g l : Bool} {d : List UInt8} {x s : Nat} (h : okY g l d (x : Int) (s : Int)) (post : List UInt8) (hp : noHead isYC post) : readS (ytextF g l d (x : Int) (s : Int) ++ post) = .inr (g, l, d, x, s, (ytextF g l d (x : Int) (s : Int)).length) := by
  have hsm := ok_small h
  have n83 : numS 83 (textN 83 s ++ post) = .inr (s, (textN 83 s).length) := numS_text 83 s post (by omega) (yc_dig hp) (yc_83 hp)
  have hR2 : noHead isDig (textN 83 s ++ post) := textN_head (by decide) (yc_dig hp)
  have hR3 : noHead isDX (textN 83 s ++ post) := textN_head (by decide) (yc_dx hp)
  rw [ytext_parts]
  cases l with
  | true =>
    have hL : okL d (x : Int) (s : Int) := by simpa [okY] using h
    obtain ⟨⟨h1, h2, h3, h4, h5, h6, h7, h8⟩, h9, h10⟩ := hL
    obtain ⟨c, r, rfl⟩ : ∃ c r, d = c :: r := by
      cases d with
      | nil => simp at h2
      | cons c r => exact ⟨c, r, rfl⟩
    have hcd := (isDig_iff c).1 (h1 c (by simp))
    have hc49 : 49 ≤ c.toNat ∧ c.toNat ≤ 57 := by
      have : c.toNat ≠ 48 := fun e => h4 (by rw [show c = 48 from UInt8.toNat_inj.1 e]; rfl)
      omega
    have hc45 : c ≠ 45 := by rintro rfl; exact absurd hcd.1 (by decide)
    have n69 : numS 69 (textN 69 x ++ (textN 83 s ++ post)) = .inr (x, (textN 69 x).length) := numS_text 69 x _ (by omega) hR2 (textN_head (by decide) (yc_69 hp))
    have hsp : spanN isDig 16 (r ++ (textN 69 x ++ (textN 83 s ++ post))) = r.length := by
      refine spanN_app r 16 _ (fun e he => h1 e (by simp [he])) (by simp only [List.length_cons] at h3; omega) (.inl ?_)
      exact textN_head (by decide) hR2
    have body : ∀ o : Nat, longS g o ((c :: r) ++ (textN 69 x ++ (textN 83 s ++ post))) = .inr (g, true, c :: r, x, s, o + (1 + r.length) + (textN 69 x).length + (textN 83 s).length) := by
      intro o
      simp only [List.cons_append, longS]
      rw [if_pos hc49, hsp]
      have e1 : List.drop (1 + r.length) (c :: (r ++ (textN 69 x ++ (textN 83 s ++ post)))) = textN 69 x ++ (textN 83 s ++ post) := by
        rw [Nat.add_comm, List.drop_succ_cons, List.drop_left' rfl]
      have e2 : List.drop (1 + r.length + (textN 69 x).length) (c :: (r ++ (textN 69 x ++ (textN 83 s ++ post)))) = textN 83 s ++ post := by
        rw [show 1 + r.length + (textN 69 x).length = (r.length + (textN 69 x).length) + 1 by omega, List.drop_succ_cons, ← List.append_assoc, List.drop_left' (by simp)]
      have e3 : List.take (1 + r.length) (c :: (r ++ (textN 69 x ++ (textN 83 s ++ post)))) = c :: r := by
        rw [Nat.add_comm, List.take_succ_cons, List.take_left' rfl]
      rw [e1, n69]
      simp only []
      rw [e2, n83, e3]
    unfold readS
    cases g with
    | true =>
      simp only [if_true, List.cons_append, List.nil_append, List.append_assoc]
      rw [takes_hit, if_pos rfl, List.drop_succ_cons, List.drop_zero, takes_hit]
      have := body 2
      simp only [List.cons_append] at this
      simp only [List.drop_succ_cons, List.drop_zero, show ((1 : Nat) == 1) = true from rfl, show 1 + 1 = 2 from rfl]
      rw [this]
      simp only [List.length_cons, List.length_append]
      congr 6
      omega
    | false =>
      simp only [if_true, Bool.false_eq_true, if_false, List.cons_append, List.nil_append, List.append_assoc]
      rw [takes_hit, if_pos rfl, List.drop_succ_cons, List.drop_zero, takes_miss hc45]
      have := body 1
      simp only [List.cons_append] at this
      simp only [List.drop_succ_cons, List.drop_zero, show ((0 : Nat) == 1) = false from rfl, Nat.add_zero]
      rw [this]
      simp only [List.length_cons, List.length_append]
      congr 6
      omega
  | false =>
    have hS : okS g d (x : Int) (s : Int) := by simpa [okY] using h
    obtain ⟨h1, h2, h3, h4, h5, h6, h7⟩ := hS
    have hx0 : x = 0 := by omega
    subst hx0
    have ht0 : textN 69 0 = [] := rfl
    have hdx : ∀ c ∈ d, isDX c = true := fun c hc => by
      unfold isDX
      rcases h2 c hc with q | q
      · rw [q]; rfl
      · rw [q]; simp
    have hsp : spanN isDX 4 (d ++ (textN 83 s ++ post)) = d.length := spanN_app d 4 _ hdx (by omega) (.inr h1)
    have body : ∀ o : Nat, shortS g o (d ++ (textN 83 s ++ post)) = .inr (g, false, d, 0, s, o + 4 + (textN 83 s).length) := by
      intro o
      unfold shortS
      rw [hsp, h1, if_neg (by omega), List.drop_left' h1, n83, List.take_left' h1]
    obtain ⟨c, r, rfl⟩ : ∃ c r, d = c :: r := by
      cases d with
      | nil => simp at h1
      | cons c r => exact ⟨c, r, rfl⟩
    have hc45 : c ≠ 45 := by
      rintro rfl
      rcases h2 45 (by simp) with q | q
      · exact absurd ((isDig_iff _).1 q).1 (by decide)
      · exact absurd q (by decide)
    have hc89 : c ≠ 89 := by
      rintro rfl
      rcases h2 89 (by simp) with q | q
      · exact absurd ((isDig_iff _).1 q).2 (by decide)
      · exact absurd q (by decide)
    have h4589 : (45 : UInt8) ≠ 89 := by decide
    unfold readS
    rw [ht0]
    cases g with
    | true =>
      simp only [if_true, Bool.false_eq_true, if_false, List.cons_append, List.nil_append, List.append_assoc]
      rw [takes_miss h4589, if_neg (by decide), takes_hit, List.drop_succ_cons, List.drop_zero]
      have := body 1
      simp only [List.cons_append] at this
      rw [show ((1 : Nat) == 1) = true from rfl, this]
      simp only [List.length_cons, List.length_append] at h1 ⊢
      congr 6
      omega
    | false =>
      simp only [Bool.false_eq_true, if_false, List.cons_append, List.nil_append, List.append_assoc]
      rw [takes_miss hc89, if_neg (by decide), takes_miss hc45, List.drop_zero]
      have := body 0
      simp only [List.cons_append] at this
      rw [show ((0 : Nat) == 1) = false from rfl, this]
      simp only [List.length_cons, List.length_append] at h1 ⊢
      congr 6
      omega

theorem takes_text (c : UInt8) (l : List UInt8) : l.take (takes c l) = if takes c l = 1 then [c] else [] := by
  rcases takes_cases c l with h | h
  · rw [h]; simp
  · rw [h, if_pos rfl]
    unfold takes at h
    split at h
    · assumption
    · cases h

theorem take_add' (l : List UInt8) (i j : Nat) : l.take (i + j) = l.take i ++ (l.drop i).take j := by
  rw [List.take_add]

theorem read_back {l : List UInt8} {g lng : Bool} {d : List UInt8} {x s k : Nat} (h : readS l = .inr (g, lng, d, x, s, k)) : l.take k = ytextF g lng d (x : Int) (s : Int) ∧ k ≤ l.length ∧ x < 100 ∧ s < 100 ∧ d.length ≤ 17 := by
  rw [ytext_parts]
  unfold readS at h
  by_cases h89 : takes 89 l = 1
  · rw [if_pos h89] at h
    have t89 := takes_text 89 l
    rw [h89, if_pos rfl] at t89
    have t45 := takes_text 45 (l.drop 1)
    have c45 := takes_cases 45 (l.drop 1)
    generalize hu : takes 45 (l.drop 1) = u at *
    have hpre : l.take (1 + u) = [89] ++ (if (u == 1) = true then [45] else []) := by
      rw [take_add', t89, t45]
      rcases c45 with rfl | rfl <;> rfl
    cases hd : l.drop (1 + u) with
    | nil => rw [hd] at h; simp [longS] at h
    | cons c r =>
      rw [hd] at h
      simp only [longS] at h
      by_cases hc : 49 ≤ c.toNat ∧ c.toNat ≤ 57
      · rw [if_pos hc] at h
        have htop := spanN_top isDig 16 r
        have hKl : 1 + spanN isDig 16 r ≤ (c :: r).length := by have := spanN_le isDig 16 r; simp only [List.length_cons]; omega
        generalize hK : 1 + spanN isDig 16 r = K at *
        cases hq : numS 69 (List.drop K (c :: r)) with
        | inl j => rw [hq] at h; simp at h
        | inr p =>
          obtain ⟨x', j⟩ := p
          rw [hq] at h
          simp only at h
          cases hq2 : numS 83 (List.drop (K + j) (c :: r)) with
          | inl i => rw [hq2] at h; simp at h
          | inr p2 =>
            obtain ⟨s', i⟩ := p2
            rw [hq2] at h
            simp only [Sum.inr.injEq, Prod.mk.injEq] at h
            obtain ⟨rfl, rfl, rfl, rfl, rfl, rfl⟩ := h
            obtain ⟨a1, a2, a3⟩ := numS_back _ _ _ _ hq
            obtain ⟨b1, b2, b3⟩ := numS_back _ _ _ _ hq2
            rw [List.length_drop] at a3 b3
            have hll : l.length = 1 + u + (c :: r).length := by
              have := congrArg List.length hd
              rw [List.length_drop] at this
              simp only [List.length_cons] at this ⊢
              omega
            refine ⟨?_, by simp only [List.length_cons] at *; omega, a1, b1, by rw [List.length_take]; omega⟩
            rw [show 1 + u + K + j + i = (1 + u) + (K + (j + i)) by omega, take_add', hpre, hd, take_add' _ K, take_add' _ j, a2, List.drop_drop, b2]
            simp
      · rw [if_neg hc] at h; simp at h
  · rw [if_neg h89] at h
    have t45 := takes_text 45 l
    have c45 := takes_cases 45 l
    generalize hu : takes 45 l = u at *
    have hpre : l.take u = (if (u == 1) = true then [45] else []) := by
      rw [t45]
      rcases c45 with rfl | rfl <;> rfl
    unfold shortS at h
    by_cases h4 : spanN isDX 4 (l.drop u) < 4
    · rw [if_pos h4] at h; simp at h
    · rw [if_neg h4] at h
      have hle := spanN_le isDX 4 (l.drop u)
      rw [List.length_drop] at hle
      cases hq : numS 83 (List.drop 4 (l.drop u)) with
      | inl i => rw [hq] at h; simp at h
      | inr p2 =>
        obtain ⟨s', i⟩ := p2
        rw [hq] at h
        simp only [Sum.inr.injEq, Prod.mk.injEq] at h
        obtain ⟨rfl, rfl, rfl, rfl, rfl, rfl⟩ := h
        obtain ⟨b1, b2, b3⟩ := numS_back _ _ _ _ hq
        rw [List.length_drop, List.length_drop] at b3
        refine ⟨?_, by omega, by omega, b1, by rw [List.length_take]; omega⟩
        rw [show u + 4 + i = u + (4 + i) by omega, take_add', hpre, take_add' _ 4, b2]
        have ht0 : textN 69 0 = [] := rfl
        rw [ht0]
        simp

abbrev DR := Bool × Bool × List UInt8 × Nat × Nat × List UInt8 × List UInt8 × (Nat × Nat × Nat) × (Nat × Nat × Nat) × Nat

def mkE (S : List UInt8) (p : Nat) : Nat := p + mkN (S.drop p)

def rd3 (S : List UInt8) (y : YR) (A0 B0 A1 B1 p0 c1 q2 : Nat) (mm : List UInt8) : Nat ⊕ DR :=
  if twoN (S.drop (mkE S (q2 + 1))) < 2 then .inl (mkE S (q2 + 1) + twoN (S.drop (mkE S (q2 + 1))))
  else .inr (y.1, y.2.1, y.2.2.1, y.2.2.2.1, y.2.2.2.2.1, mm, (S.drop (mkE S (q2 + 1))).take 2, spM (A0, A1, mkS (S.drop (q2 + 1))) (B0, B1, mkS (S.drop (mkE S (q2 + 1) + 2))), (p0, c1, mkE S (q2 + 1)), mkE S (mkE S (q2 + 1) + 2))

def rd2 (S : List UInt8) (y : YR) (A0 B0 p0 q1 : Nat) : Nat ⊕ DR :=
  if twoN (S.drop (mkE S (q1 + 1))) < 2 then .inl (mkE S (q1 + 1) + twoN (S.drop (mkE S (q1 + 1))))
  else if takes 45 (S.drop (mkE S (mkE S (q1 + 1) + 2))) = 0 then .inr (y.1, y.2.1, y.2.2.1, y.2.2.2.1, y.2.2.2.2.1, (S.drop (mkE S (q1 + 1))).take 2, [], spM (A0, mkS (S.drop (q1 + 1)), 0) (B0, mkS (S.drop (mkE S (q1 + 1) + 2)), 0), (p0, mkE S (q1 + 1), 0), mkE S (mkE S (q1 + 1) + 2))
  else rd3 S y A0 B0 (mkS (S.drop (q1 + 1))) (mkS (S.drop (mkE S (q1 + 1) + 2))) p0 (mkE S (q1 + 1)) (mkE S (mkE S (q1 + 1) + 2)) ((S.drop (mkE S (q1 + 1))).take 2)

def readD (S : List UInt8) (a : Nat) : Nat ⊕ DR := match readS (S.drop (mkE S a)) with
  | .inl k => .inl (mkE S a + k)
  | .inr y => if 0 < y.2.2.2.2.1 ∨ takes 45 (S.drop (mkE S (mkE S a + y.2.2.2.2.2))) = 0
    then .inr (y.1, y.2.1, y.2.2.1, y.2.2.2.1, y.2.2.2.2.1, [], [], spM (mkS (S.drop a), 0, 0) (mkS (S.drop (mkE S a + y.2.2.2.2.2)), 0, 0), (mkE S a, 0, 0), mkE S (mkE S a + y.2.2.2.2.2))
    else rd2 S y (mkS (S.drop a)) (mkS (S.drop (mkE S a + y.2.2.2.2.2))) (mkE S a) (mkE S (mkE S a + y.2.2.2.2.2))

def dfOut (S : List UInt8) : Nat ⊕ DR → (Int × Int × List UInt8 × Int) ⊕ (Bool × Bool × List UInt8 × Int × Int × List UInt8 × List UInt8 × Int × Int × Int × List Int × List UInt8 × Int)
  | .inl k => .inl ((k : Int), 5, S, (k : Int))
  | .inr (g, l, dg, x, s, m, d, M, P, e) => .inr (g, l, dg, (x : Int), (s : Int), m, d, (M.1 : Int), (M.2.1 : Int), (M.2.2 : Int), l3 P, S, (e : Int))

theorem mkE_le {S : List UInt8} {p : Nat} (h : p ≤ S.length) : mkE S p ≤ S.length := by
  have := mkN_le (S.drop p)
  rw [List.length_drop] at this
  unfold mkE
  omega

theorem two_le {S : List UInt8} {p : Nat} (h2 : ¬ twoN (S.drop p) < 2) : p + 2 ≤ S.length := by
  have := spanN_le isDX 2 (S.drop p)
  unfold twoN at h2
  rw [List.length_drop] at this
  omega

theorem take1_le {S : List UInt8} {p : Nat} (h : ¬ takes 45 (S.drop p) = 0) : p + 1 ≤ S.length := by
  have := takes_le 45 (S.drop p)
  rw [List.length_drop] at this
  omega

theorem df_Read3 (n : Nat) (g l : Bool) (d : List UInt8) (x s : Int) (mm dd : List UInt8) (k0 k1 k2 : Int) (S : List UInt8) (p : Nat) (h : p ≤ S.length) (hS : S.length < 100000) (hn : S.length < n) :
    dateforms_Read_3 n g l d x s mm dd k0 k1 k2 S (p : Int) = some (match readS (S.drop p) with
      | .inl k => .inl (((p + k : Nat) : Int), 5, g, l, d, x, s, mm, dd, k0, k1, k2, S, ((p + k : Nat) : Int))
      | .inr y => .inr (y.1, y.2.1, y.2.2.1, (y.2.2.2.1 : Int), (y.2.2.2.2.1 : Int), mm, dd, k0, k1, k2, S, ((p + y.2.2.2.2.2 : Nat) : Int))) := by
  unfold dateforms_Read_3
  rw [yf_Read n S p h hS hn]
  cases readS (S.drop p) with
  | inl k => rfl
  | inr y => rfl

theorem df_Read4 (n : Nat) (g l : Bool) (d : List UInt8) (x s : Int) (mm dd : List UInt8) (k0 k1 k2 : Int) (S : List UInt8) (p : Nat) (h : p ≤ S.length) (hS : S.length < 100000) (hn : S.length < n) :
    dateforms_Read_4 n g l d x s mm dd k0 k1 k2 S (p : Int) = some (if twoN (S.drop p) < 2
      then .inl (((p + twoN (S.drop p) : Nat) : Int), 5, g, l, d, x, s, mm, dd, k0, k1, k2, S, ((p + twoN (S.drop p) : Nat) : Int))
      else .inr (g, l, d, x, s, (S.drop p).take 2, dd, k0, k1, k2, S, ((p + 2 : Nat) : Int))) := by
  unfold dateforms_Read_4
  rw [df_two n S p h hS hn]
  by_cases h2 : twoN (S.drop p) < 2
  · rw [if_pos h2, if_pos h2]; rfl
  · rw [if_neg h2, if_neg h2]; rfl

theorem df_Read5 (n : Nat) (g l : Bool) (d : List UInt8) (x s : Int) (mm dd : List UInt8) (k0 k1 k2 : Int) (S : List UInt8) (p : Nat) (h : p ≤ S.length) (hS : S.length < 100000) (hn : S.length < n) :
    dateforms_Read_5 n g l d x s mm dd k0 k1 k2 S (p : Int) = some (if twoN (S.drop p) < 2
      then .inl (((p + twoN (S.drop p) : Nat) : Int), 5, g, l, d, x, s, mm, dd, k0, k1, k2, S, ((p + twoN (S.drop p) : Nat) : Int))
      else .inr (g, l, d, x, s, mm, (S.drop p).take 2, k0, k1, k2, S, ((p + 2 : Nat) : Int))) := by
  unfold dateforms_Read_5
  rw [df_two n S p h hS hn]
  by_cases h2 : twoN (S.drop p) < 2
  · rw [if_pos h2, if_pos h2]; rfl
  · rw [if_neg h2, if_neg h2]; rfl

theorem df_Read (m : Nat) (S : List UInt8) (a : Nat) (h : a ≤ S.length) (hS : S.length < 100000) (hn : S.length < m + 300) :
    dateforms_Read (m + 300) S (a : Int) = some (dfOut S (readD S a)) := by
  have hm : ∀ p, p ≤ S.length → dateforms_Read_1 (m + 300) S (p : Int) = some (.inr (((mkS (S.drop p) : Nat) : Int), S, ((mkE S p : Nat) : Int))) := fun p hp => df_mark m S p hp hS
  have z4 : ∀ p, mkS (S.drop p) < 4 := fun p => mkS_lt _
  have sp1 : ∀ p q, marks_Spread (m + 300) [((mkS (S.drop p) : Nat) : Int), 0, 0] [((mkS (S.drop q) : Nat) : Int), 0, 0] 1 = some (l3 (spM (mkS (S.drop p), 0, 0) (mkS (S.drop q), 0, 0)), 0) := fun p q =>
    df_Spread (m + 300) (by omega) 1 (mkS (S.drop p), 0, 0) (mkS (S.drop q), 0, 0) (by omega) ⟨z4 p, by simp, by simp, by simp, by simp⟩ ⟨z4 q, by simp, by simp, by simp, by simp⟩
  have sp2 : ∀ p q p' q', marks_Spread (m + 300) [((mkS (S.drop p) : Nat) : Int), ((mkS (S.drop p') : Nat) : Int), 0] [((mkS (S.drop q) : Nat) : Int), ((mkS (S.drop q') : Nat) : Int), 0] 2 = some (l3 (spM (mkS (S.drop p), mkS (S.drop p'), 0) (mkS (S.drop q), mkS (S.drop q'), 0)), 0) := fun p q p' q' =>
    df_Spread (m + 300) (by omega) 2 (mkS (S.drop p), mkS (S.drop p'), 0) (mkS (S.drop q), mkS (S.drop q'), 0) (by omega) ⟨z4 p, z4 p', by simp, by simp, by simp⟩ ⟨z4 q, z4 q', by simp, by simp, by simp⟩
  have sp3 : ∀ p q p' q' p'' q'', marks_Spread (m + 300) [((mkS (S.drop p) : Nat) : Int), ((mkS (S.drop p') : Nat) : Int), ((mkS (S.drop p'') : Nat) : Int)] [((mkS (S.drop q) : Nat) : Int), ((mkS (S.drop q') : Nat) : Int), ((mkS (S.drop q'') : Nat) : Int)] 3 = some (l3 (spM (mkS (S.drop p), mkS (S.drop p'), mkS (S.drop p'')) (mkS (S.drop q), mkS (S.drop q'), mkS (S.drop q''))), 0) := fun p q p' q' p'' q'' =>
    df_Spread (m + 300) (by omega) 3 (mkS (S.drop p), mkS (S.drop p'), mkS (S.drop p'')) (mkS (S.drop q), mkS (S.drop q'), mkS (S.drop q'')) (by omega) ⟨z4 p, z4 p', z4 p'', by simp, by simp⟩ ⟨z4 q, z4 q', z4 q'', by simp, by simp⟩
  have b0 := mkE_le h
  unfold dateforms_Read readD
  rw [hm a h]
  simp only [ob, cur_At]
  rw [df_Read3 _ _ _ _ _ _ _ _ _ _ _ S (mkE S a) b0 hS hn]
  cases hr : readS (S.drop (mkE S a)) with
  | inl k => rfl
  | inr y =>
    obtain ⟨g, l, dg, x, s, k⟩ := y
    have bk : mkE S a + k ≤ S.length := by
      have := (read_back hr).2.1
      rw [List.length_drop] at this
      omega
    have b1 := mkE_le bk
    simp only [ob, d4, d8]
    rw [hm (mkE S a + k) bk]
    simp only [ob]
    by_cases hs : 0 < s
    · have : decide (((s : Nat) : Int) > 0) = true := by simp; omega
      rw [this, if_pos (.inl hs)]
      simp only [cond_true]
      rw [sp1]
      rfl
    · have : decide (((s : Nat) : Int) > 0) = false := by simp; omega
      rw [this]
      simp only [cond_false]
      rw [cur_takes (m + 300) 45 S _ b1 hS]
      simp only [ob]
      by_cases ht : takes 45 (S.drop (mkE S (mkE S a + k))) = 0
      · rw [if_pos (.inr ht), ht]
        simp only [show ((0 : Nat) == 1) = false from rfl, Bool.not_false, cond_true, Nat.add_zero]
        rw [sp1]
        rfl
      · have ht1 : takes 45 (S.drop (mkE S (mkE S a + k))) = 1 := (takes_cases 45 _).resolve_left ht
        have bt1 := take1_le ht
        rw [if_neg (fun z => z.elim hs ht), ht1]
        simp only [show ((1 : Nat) == 1) = true from rfl, Bool.not_true, cond_false]
        unfold rd2
        rw [hm _ bt1]
        simp only [ob]
        have bc := mkE_le bt1
        rw [df_Read4 _ _ _ _ _ _ _ _ _ _ _ S _ bc hS hn]
        by_cases h2 : twoN (S.drop (mkE S (mkE S (mkE S a + k) + 1))) < 2
        · rw [if_pos h2, if_pos h2]; rfl
        · rw [if_neg h2, if_neg h2]
          have b2 := two_le h2
          simp only [ob, d4, d8]
          rw [hm _ b2]
          simp only [ob]
          rw [this]
          simp only [cond_false]
          have b3 := mkE_le b2
          rw [cur_takes (m + 300) 45 S _ b3 hS]
          simp only [ob]
          by_cases ht2 : takes 45 (S.drop (mkE S (mkE S (mkE S (mkE S a + k) + 1) + 2))) = 0
          · rw [if_pos ht2, ht2]
            simp only [show ((0 : Nat) == 1) = false from rfl, Bool.not_false, cond_true, Nat.add_zero]
            rw [sp2]
            rfl
          · have ht21 := (takes_cases 45 (S.drop (mkE S (mkE S (mkE S (mkE S a + k) + 1) + 2)))).resolve_left ht2
            have bt2 := take1_le ht2
            rw [if_neg ht2, ht21]
            simp only [show ((1 : Nat) == 1) = true from rfl, Bool.not_true, cond_false]
            unfold rd3
            rw [hm _ bt2]
            simp only [ob]
            have bc2 := mkE_le bt2
            rw [df_Read5 _ _ _ _ _ _ _ _ _ _ _ S _ bc2 hS hn]
            by_cases h3 : twoN (S.drop (mkE S (mkE S (mkE S (mkE S (mkE S a + k) + 1) + 2) + 1))) < 2
            · rw [if_pos h3, if_pos h3]; rfl
            · rw [if_neg h3, if_neg h3]
              have b4 := two_le h3
              simp only [ob, d4, d8]
              rw [hm _ b4]
              simp only [ob]
              rw [sp3]
              rfl

def rfOut (S : List UInt8) (P : List Int) : Nat ⊕ DR → Bool × Bool × List UInt8 × Int × Int × List UInt8 × List UInt8 × Int × Int × Int × List Int × List UInt8 × Int × Int
  | .inl k => (false, false, [], 0, 0, [], [], 0, 0, 0, P, S, (k : Int), 5)
  | .inr (g, l, dg, x, s, m, d, M, Q, e) => (g, l, dg, (x : Int), (s : Int), m, d, (M.1 : Int), (M.2.1 : Int), (M.2.2 : Int), l3 Q, S, (e : Int), 0)

abbrev RdSt := List UInt8 × Int × Int × List Int × Bool × Bool × List UInt8 × Int × Int × List UInt8 × List UInt8 × List Int × List Int × List Int × List UInt8 × Int × Int

def rdSt (S : List UInt8) (i : Int) (g l : Bool) (dg : List UInt8) (x s : Int) (mm dd : List UInt8) (P A B : List Int) (p : Nat) : RdSt :=
  (S, i, i, [0, 0, 0], g, l, dg, x, s, mm, dd, P, A, B, S, (p : Int), 0)

theorem rd_s0 (m : Nat) (S : List UInt8) (a : Nat) (h : a ≤ S.length) (hS : S.length < 100000) (hn : S.length < m + 300) :
    circaref15_Read_l0 (m + 300) (rdSt S 0 false false [] 0 0 [] [] [0, 0, 0] [0, 0, 0] [0, 0, 0] a) = some (match readS (S.drop (mkE S a)) with
      | .inl k => .inr (.inr (false, false, [], 0, 0, [], [], 0, 0, 0, [((mkE S a : Nat) : Int), 0, 0], S, ((mkE S a + k : Nat) : Int), 5))
      | .inr y => .inl (rdSt S 1 y.1 y.2.1 y.2.2.1 (y.2.2.2.1 : Int) (y.2.2.2.2.1 : Int) [] [] [((mkE S a : Nat) : Int), 0, 0] [((mkS (S.drop a) : Nat) : Int), 0, 0] [((mkS (S.drop (mkE S a + y.2.2.2.2.2)) : Nat) : Int), 0, 0] (mkE S (mkE S a + y.2.2.2.2.2)))) := by
  have hm : ∀ p, p ≤ S.length → circaref15_mark (m + 300) S (p : Int) 0 = some (((mkS (S.drop p) : Nat) : Int), S, ((mkE S p : Nat) : Int), 0) := fun p hp => ref_mark m S p hp hS 0
  have b0 := mkE_le h
  unfold circaref15_Read_l0 rdSt
  simp only [d4, d8, d16, circaref15_Read_j12, show (decide ((0 : Int) < 3)) = true from rfl, show (decide ((0 : Int) > 0)) = false from rfl, cond_true, cond_false, ob]
  rw [hm a h]
  simp only [ob, show ix 3 0 = some 0 from rfl, show Nat.blt 0 3 = true from rfl, cond_true, circaref15_Read_j21, show ((0 : Int) == 0) = true from rfl]
  rw [ref_Read (m + 300) S (mkE S a) b0 hS hn]
  cases hr : readS (S.drop (mkE S a)) with
  | inl k => rfl
  | inr y =>
    obtain ⟨g, l, dg, x, s, k⟩ := y
    have bk : mkE S a + k ≤ S.length := by
      have := (read_back hr).2.1
      rw [List.length_drop] at this
      omega
    simp only [refOut, ob, d4, d8, d16, show ((0 : Int) != 0) = false from rfl, cond_false]
    rw [hm _ bk]
    rfl

theorem rd_s1 (m : Nat) (S : List UInt8) (g l : Bool) (dg : List UInt8) (x s : Nat) (P0 A0 B0 : Int) (q : Nat) (h : q ≤ S.length) (hS : S.length < 100000) (hn : S.length < m + 300) :
    circaref15_Read_l0 (m + 300) (rdSt S 1 g l dg (x : Int) (s : Int) [] [] [P0, 0, 0] [A0, 0, 0] [B0, 0, 0] q) = some (
      if 0 < s ∨ takes 45 (S.drop q) = 0 then .inr (.inl (1, false, false, [], 0, 0, [], [], 0, 0, 0, [0, 0, 0], [], 0, 0, g, l, dg, (x : Int), (s : Int), [], [], 0, 0, 0, [P0, 0, 0], [A0, 0, 0], [B0, 0, 0], S, (q : Int), 0))
      else if twoN (S.drop (mkE S (q + 1))) < 2 then .inr (.inr (false, false, [], 0, 0, [], [], 0, 0, 0, [P0, ((mkE S (q + 1) : Nat) : Int), 0], S, ((mkE S (q + 1) + twoN (S.drop (mkE S (q + 1))) : Nat) : Int), 5))
      else .inl (rdSt S 2 g l dg (x : Int) (s : Int) ((S.drop (mkE S (q + 1))).take 2) [] [P0, ((mkE S (q + 1) : Nat) : Int), 0] [A0, ((mkS (S.drop (q + 1)) : Nat) : Int), 0] [B0, ((mkS (S.drop (mkE S (q + 1) + 2)) : Nat) : Int), 0] (mkE S (mkE S (q + 1) + 2)))) := by
  have hm : ∀ p, p ≤ S.length → circaref15_mark (m + 300) S (p : Int) 0 = some (((mkS (S.drop p) : Nat) : Int), S, ((mkE S p : Nat) : Int), 0) := fun p hp => ref_mark m S p hp hS 0
  unfold circaref15_Read_l0 rdSt
  simp only [d4, d8, d16, circaref15_Read_j12, circaref15_Read_j13, show (decide ((1 : Int) < 3)) = true from rfl, show (decide ((1 : Int) > 0)) = true from rfl, cond_true, cond_false, ob, nat_dec_ge]
  by_cases hs : 0 < s
  · have : decide (((s : Nat) : Int) > 0) = true := by simp; omega
    rw [this, if_pos (.inl hs)]
    rfl
  · have : decide (((s : Nat) : Int) > 0) = false := by simp; omega
    rw [this]
    simp only [cond_false]
    rcases Nat.lt_or_ge q S.length with hlt | hge
    · obtain ⟨c, hc⟩ : ∃ c, S[q]? = some c := ⟨S[q], List.getElem?_eq_getElem hlt⟩
      have hle : decide (S.length ≤ q) = false := by simp; omega
      rw [hle]
      simp only [cond_false, sx_nat hc, ob]
      have e45 : (((c.toNat : Nat) : Int) != 45) = !(c == 45) := by rw [bne]; congr 1; exact u8_beq c 45
      rw [e45, drop_get hc, takes_cons]
      by_cases h45 : c = 45
      · have w : IntKind.wrap .i64 ((q : Int) + 1) = ((q + 1 : Nat) : Int) := by rw [wrap_i64 _ (by omega) (by omega)]; omega
        rw [if_pos h45, if_neg (show ¬ (0 < s ∨ (1 : Nat) = 0) from fun z => z.elim hs (by omega)), h45]
        simp only [BEq.rfl, Bool.not_true, cond_false, ob, w]
        rw [hm _ (by omega)]
        simp only [ob, show ix 3 1 = some 1 from rfl, show Nat.blt 1 3 = true from rfl, cond_true, circaref15_Read_j21, circaref15_Read_j24, show ((1 : Int) == 0) = false from rfl, show ((1 : Int) == 1) = true from rfl, cond_false]
        have b1 := mkE_le (show q + 1 ≤ S.length by omega)
        rw [ref_two (m + 300) (by omega) S _ b1 hS 0]
        by_cases h2 : twoN (S.drop (mkE S (q + 1))) < 2
        · rw [if_pos h2, if_pos h2]; rfl
        · rw [if_neg h2, if_neg h2]
          simp only [ob, d4, d8, d16, show ((0 : Int) != 0) = false from rfl, cond_false]
          rw [hm _ (two_le h2)]
          rfl
      · have : (c == 45) = false := beq_eq_false_iff_ne.2 h45
        rw [if_neg h45, if_pos (.inr rfl), this]
        rfl
    · have hle : decide (S.length ≤ q) = true := by simp; omega
      rw [hle, List.drop_eq_nil_of_le hge, takes_nil, if_pos (.inr rfl)]
      rfl

theorem rd_s2 (m : Nat) (S : List UInt8) (g l : Bool) (dg : List UInt8) (x s : Nat) (mm : List UInt8) (P0 A0 B0 P1 A1 B1 : Int) (q : Nat) (h : q ≤ S.length) (hS : S.length < 100000) (hn : S.length < m + 300) (hs : ¬ 0 < s) :
    circaref15_Read_l0 (m + 300) (rdSt S 2 g l dg (x : Int) (s : Int) mm [] [P0, P1, 0] [A0, A1, 0] [B0, B1, 0] q) = some (
      if takes 45 (S.drop q) = 0 then .inr (.inl (2, false, false, [], 0, 0, [], [], 0, 0, 0, [0, 0, 0], [], 0, 0, g, l, dg, (x : Int), (s : Int), mm, [], 0, 0, 0, [P0, P1, 0], [A0, A1, 0], [B0, B1, 0], S, (q : Int), 0))
      else if twoN (S.drop (mkE S (q + 1))) < 2 then .inr (.inr (false, false, [], 0, 0, [], [], 0, 0, 0, [P0, P1, ((mkE S (q + 1) : Nat) : Int)], S, ((mkE S (q + 1) + twoN (S.drop (mkE S (q + 1))) : Nat) : Int), 5))
      else .inl (rdSt S 3 g l dg (x : Int) (s : Int) mm ((S.drop (mkE S (q + 1))).take 2) [P0, P1, ((mkE S (q + 1) : Nat) : Int)] [A0, A1, ((mkS (S.drop (q + 1)) : Nat) : Int)] [B0, B1, ((mkS (S.drop (mkE S (q + 1) + 2)) : Nat) : Int)] (mkE S (mkE S (q + 1) + 2)))) := by
  have hm : ∀ p, p ≤ S.length → circaref15_mark (m + 300) S (p : Int) 0 = some (((mkS (S.drop p) : Nat) : Int), S, ((mkE S p : Nat) : Int), 0) := fun p hp => ref_mark m S p hp hS 0
  unfold circaref15_Read_l0 rdSt
  simp only [d4, d8, d16, circaref15_Read_j12, circaref15_Read_j13, show (decide ((2 : Int) < 3)) = true from rfl, show (decide ((2 : Int) > 0)) = true from rfl, cond_true, cond_false, ob, nat_dec_ge]
  have : decide (((s : Nat) : Int) > 0) = false := by simp; omega
  rw [this]
  simp only [cond_false]
  rcases Nat.lt_or_ge q S.length with hlt | hge
  · obtain ⟨c, hc⟩ : ∃ c, S[q]? = some c := ⟨S[q], List.getElem?_eq_getElem hlt⟩
    have hle : decide (S.length ≤ q) = false := by simp; omega
    rw [hle]
    simp only [cond_false, sx_nat hc, ob]
    have e45 : (((c.toNat : Nat) : Int) != 45) = !(c == 45) := by rw [bne]; congr 1; exact u8_beq c 45
    rw [e45, drop_get hc, takes_cons]
    by_cases h45 : c = 45
    · have w : IntKind.wrap .i64 ((q : Int) + 1) = ((q + 1 : Nat) : Int) := by rw [wrap_i64 _ (by omega) (by omega)]; omega
      rw [if_pos h45, if_neg (show ¬ ((1 : Nat) = 0) by omega), h45]
      simp only [BEq.rfl, Bool.not_true, cond_false, ob, w]
      rw [hm _ (by omega)]
      simp only [ob, show ix 3 2 = some 2 from rfl, show Nat.blt 2 3 = true from rfl, cond_true, circaref15_Read_j21, circaref15_Read_j24, show ((2 : Int) == 0) = false from rfl, show ((2 : Int) == 1) = false from rfl, cond_false]
      have b1 := mkE_le (show q + 1 ≤ S.length by omega)
      rw [ref_two (m + 300) (by omega) S _ b1 hS 0]
      by_cases h2 : twoN (S.drop (mkE S (q + 1))) < 2
      · rw [if_pos h2, if_pos h2]; rfl
      · rw [if_neg h2, if_neg h2]
        simp only [ob, d4, d8, d16, show ((0 : Int) != 0) = false from rfl, cond_false]
        rw [hm _ (two_le h2)]
        rfl
    · have : (c == 45) = false := beq_eq_false_iff_ne.2 h45
      rw [if_neg h45, if_pos rfl, this]
      rfl
  · have hle : decide (S.length ≤ q) = true := by simp; omega
    rw [hle, List.drop_eq_nil_of_le hge, takes_nil, if_pos rfl]
    rfl

theorem ref_Read15 (m : Nat) (S : List UInt8) (a : Nat) (h : a ≤ S.length) (hS : S.length < 100000) (hn : S.length < m + 300) :
    ∃ P, circaref15_Read (m + 300) S (a : Int) = some (rfOut S P (readD S a)) := by
  have z4 : ∀ p, mkS (S.drop p) < 4 := fun p => mkS_lt _
  have sp1 : ∀ p q, circaref13_Spread (m + 300) [((mkS (S.drop p) : Nat) : Int), 0, 0] [((mkS (S.drop q) : Nat) : Int), 0, 0] 1 = some (l3 (spM (mkS (S.drop p), 0, 0) (mkS (S.drop q), 0, 0))) := fun p q =>
    ref_Spread (m + 300) (by omega) 1 (mkS (S.drop p), 0, 0) (mkS (S.drop q), 0, 0) (by omega) ⟨z4 p, by simp, by simp, by simp, by simp⟩ ⟨z4 q, by simp, by simp, by simp, by simp⟩
  have sp2 : ∀ p q p' q', circaref13_Spread (m + 300) [((mkS (S.drop p) : Nat) : Int), ((mkS (S.drop p') : Nat) : Int), 0] [((mkS (S.drop q) : Nat) : Int), ((mkS (S.drop q') : Nat) : Int), 0] 2 = some (l3 (spM (mkS (S.drop p), mkS (S.drop p'), 0) (mkS (S.drop q), mkS (S.drop q'), 0))) := fun p q p' q' =>
    ref_Spread (m + 300) (by omega) 2 (mkS (S.drop p), mkS (S.drop p'), 0) (mkS (S.drop q), mkS (S.drop q'), 0) (by omega) ⟨z4 p, z4 p', by simp, by simp, by simp⟩ ⟨z4 q, z4 q', by simp, by simp, by simp⟩
  have sp3 : ∀ p q p' q' p'' q'', circaref13_Spread (m + 300) [((mkS (S.drop p) : Nat) : Int), ((mkS (S.drop p') : Nat) : Int), ((mkS (S.drop p'') : Nat) : Int)] [((mkS (S.drop q) : Nat) : Int), ((mkS (S.drop q') : Nat) : Int), ((mkS (S.drop q'') : Nat) : Int)] 3 = some (l3 (spM (mkS (S.drop p), mkS (S.drop p'), mkS (S.drop p'')) (mkS (S.drop q), mkS (S.drop q'), mkS (S.drop q'')))) := fun p q p' q' p'' q'' =>
    ref_Spread (m + 300) (by omega) 3 (mkS (S.drop p), mkS (S.drop p'), mkS (S.drop p'')) (mkS (S.drop q), mkS (S.drop q'), mkS (S.drop q'')) (by omega) ⟨z4 p, z4 p', z4 p'', by simp, by simp⟩ ⟨z4 q, z4 q', z4 q'', by simp, by simp⟩
  have b0 := mkE_le h
  unfold circaref15_Read readD
  show ∃ P, ob (iterL (circaref15_Read_l0 (m + 300)) (m + 299 + 1) (rdSt S 0 false false [] 0 0 [] [] [0, 0, 0] [0, 0, 0] [0, 0, 0] a)) _ = _
  rw [iterL, rd_s0 m S a h hS hn]
  cases hr : readS (S.drop (mkE S a)) with
  | inl k => exact ⟨_, rfl⟩
  | inr y =>
    obtain ⟨g, l, dg, x, s, k⟩ := y
    have bk : mkE S a + k ≤ S.length := by
      have := (read_back hr).2.1
      rw [List.length_drop] at this
      omega
    have b1 := mkE_le bk
    show ∃ P, ob (iterL (circaref15_Read_l0 (m + 300)) (m + 298 + 1) (rdSt S 1 g l dg (x : Int) (s : Int) [] [] [((mkE S a : Nat) : Int), 0, 0] [((mkS (S.drop a) : Nat) : Int), 0, 0] [((mkS (S.drop (mkE S a + k)) : Nat) : Int), 0, 0] (mkE S (mkE S a + k)))) _ = _
    rw [iterL, rd_s1 m S g l dg x s _ _ _ _ b1 hS hn]
    simp only []
    by_cases hc : 0 < s ∨ takes 45 (S.drop (mkE S (mkE S a + k))) = 0
    · rw [if_pos hc, if_pos hc]
      refine ⟨[0, 0, 0], ?_⟩
      simp only [ob, d4, d8, d16]
      rw [sp1]
      rfl
    · rw [if_neg hc, if_neg hc]
      have hs : ¬ 0 < s := fun z => hc (.inl z)
      have bt1 := take1_le (fun z => hc (.inr z))
      have bc := mkE_le bt1
      unfold rd2
      by_cases h2 : twoN (S.drop (mkE S (mkE S (mkE S a + k) + 1))) < 2
      · rw [if_pos h2, if_pos h2]; exact ⟨_, rfl⟩
      · rw [if_neg h2, if_neg h2]
        have b2 := two_le h2
        have b3 := mkE_le b2
        show ∃ P, ob (iterL (circaref15_Read_l0 (m + 300)) (m + 297 + 1) (rdSt S 2 g l dg (x : Int) (s : Int) _ [] [_, _, 0] [_, _, 0] [_, _, 0] (mkE S (mkE S (mkE S (mkE S a + k) + 1) + 2)))) _ = _
        rw [iterL, rd_s2 m S g l dg x s _ _ _ _ _ _ _ _ b3 hS hn hs]
        by_cases ht2 : takes 45 (S.drop (mkE S (mkE S (mkE S (mkE S a + k) + 1) + 2))) = 0
        · rw [if_pos ht2, if_pos ht2]
          refine ⟨[0, 0, 0], ?_⟩
          simp only [ob, d4, d8, d16]
          rw [sp2]
          rfl
        · rw [if_neg ht2, if_neg ht2]
          have bt2 := take1_le ht2
          have bc2 := mkE_le bt2
          unfold rd3
          by_cases h3 : twoN (S.drop (mkE S (mkE S (mkE S (mkE S (mkE S a + k) + 1) + 2) + 1))) < 2
          · rw [if_pos h3, if_pos h3]; exact ⟨_, rfl⟩
          · rw [if_neg h3, if_neg h3]
            have s3 : ∀ (mm dd : List UInt8) (P A B : List Int) (p : Nat), circaref15_Read_l0 (m + 300) (rdSt S 3 g l dg (x : Int) (s : Int) mm dd P A B p) = some (.inr (.inl (3, false, false, [], 0, 0, [], [], 0, 0, 0, [0, 0, 0], [], 0, 0, g, l, dg, (x : Int), (s : Int), mm, dd, 0, 0, 0, P, A, B, S, (p : Int), 0))) := fun _ _ _ _ _ _ => rfl
            show ∃ P, ob (iterL (circaref15_Read_l0 (m + 300)) (m + 296 + 1) (rdSt S 3 g l dg (x : Int) (s : Int) _ _ _ _ _ _)) _ = _
            rw [iterL, s3]
            refine ⟨[0, 0, 0], ?_⟩
            simp only [ob, d4, d8, d16]
            rw [sp3]
            rfl

theorem four_eq (n a : Nat) (ha : a < 65536) : ∃ d, circalaw14_four n (a : Int) = some d ∧ d.length = 4 ∧ ∀ c ∈ d, isDig c = true := by
  have hN : Int.tmod (a : Int) 10000 = ((a % 10000 : Nat) : Int) := rfl
  have h10 : a % 10000 < 10000 := Nat.mod_lt _ (by decide)
  generalize a % 10000 = N at *
  have e1 : Int.tdiv (N : Int) 1000 = ((N / 1000 : Nat) : Int) := rfl
  have e2 : Int.tdiv (N : Int) 100 = ((N / 100 : Nat) : Int) := rfl
  have e3 : Int.tdiv (N : Int) 10 = ((N / 10 : Nat) : Int) := rfl
  have w1 : IntKind.wrap .u16 ((N / 1000 : Nat) : Int) = ((N / 1000 : Nat) : Int) := wrap_u16 _ (by omega) (by omega)
  have w2 : IntKind.wrap .u16 ((N / 100 : Nat) : Int) = ((N / 100 : Nat) : Int) := wrap_u16 _ (by omega) (by omega)
  have w3 : IntKind.wrap .u16 ((N / 10 : Nat) : Int) = ((N / 10 : Nat) : Int) := wrap_u16 _ (by omega) (by omega)
  have m2 : Int.tmod ((N / 100 : Nat) : Int) 10 = ((N / 100 % 10 : Nat) : Int) := rfl
  have m3 : Int.tmod ((N / 10 : Nat) : Int) 10 = ((N / 10 % 10 : Nat) : Int) := rfl
  have m4 : Int.tmod (N : Int) 10 = ((N % 10 : Nat) : Int) := rfl
  have s : ∀ r : Nat, r < 10 → IntKind.wrap .u16 ((r : Int) + 1) = ((r + 1 : Nat) : Int) := fun r hr => by rw [wrap_u16 _ (by omega) (by omega)]; omega
  refine ⟨[UInt8.ofNat (48 + N / 1000), UInt8.ofNat (48 + N / 100 % 10), UInt8.ofNat (48 + N / 10 % 10), UInt8.ofNat (48 + N % 10)], ?_, rfl, ?_⟩
  · simp only [circalaw14_four, hN, e1, e2, e3, w1, w2, w3, m2, m3, m4, s (N / 1000) (by omega), s (N / 100 % 10) (by omega), s (N / 10 % 10) (by omega), s (N % 10) (by omega), bx_nat (show N / 1000 + 1 ≤ 10 by omega), bx_nat (show N / 1000 ≤ N / 1000 + 1 by omega), bx_nat (show N / 100 % 10 + 1 ≤ 10 by omega), bx_nat (show N / 100 % 10 ≤ N / 100 % 10 + 1 by omega), bx_nat (show N / 10 % 10 + 1 ≤ 10 by omega), bx_nat (show N / 10 % 10 ≤ N / 10 % 10 + 1 by omega), bx_nat (show N % 10 + 1 ≤ 10 by omega), bx_nat (show N % 10 ≤ N % 10 + 1 by omega), ob, cutD (N / 1000) (by omega), cutD (N / 100 % 10) (by omega), cutD (N / 10 % 10) (by omega), cutD (N % 10) (by omega)]
    rw [cat_ok (by simp)]
    simp only []
    rw [cat_ok (by simp)]
    simp only []
    rw [cat_ok (by simp)]
    rfl
  · have d1 : ∀ r : Nat, r < 10 → isDig (UInt8.ofNat (48 + r)) = true := fun r hr => (isDig_iff _).2 (by rw [ofNat_dig hr]; omega)
    simp only [List.mem_cons, List.not_mem_nil, or_false, forall_eq_or_imp, forall_eq]
    exact ⟨d1 _ (by omega), d1 _ (by omega), d1 _ (by omega), d1 _ (by omega)⟩

theorem fix_neg (n : Nat) (g l : Bool) (d : List UInt8) (x s : Int) (hn : 200 < n) (hd : d.length ≤ 100) (h : okY false l d x s) : ∃ g', (ob (circaref14_Check n g l d x s) fun r => (cond (r == 0) (some (false, l, d, x, s)) (some (g, l, d, x, s)))) = some (g', l, d, x, s) ∧ okY g' l d x s := by
  rw [ref_Check n g l d x s hn hd]
  by_cases hg : okY g l d x s
  · rw [if_pos hg]; exact ⟨g, rfl, hg⟩
  · rw [if_neg hg]; exact ⟨false, rfl, h⟩

theorem okY_short {d : List UInt8} {s : Int} (h1 : d.length = 4) (h2 : ∀ c ∈ d, isDig c = true ∨ c = 88) (h3 : 0 ≤ s) (h4 : s ≤ 4) (h5 : ¬ (0 < s ∧ hasX d = true)) : okY false false d 0 s := by
  have : okS false d 0 s := ⟨h1, h2, rfl, by simp, h3, h4, h5⟩
  simpa [okY] using this

theorem of_loop (n : Nat) (a b : Int) (g : Bool) (d : List UInt8) (hl : d.length = 4) (hd : ∀ c ∈ d, isDig c = true) (hn : 4 < n) :
    ∃ s : List UInt8, iterL (circalaw14_Y_Of_l0 n) n (a, b, [], 0, false, false, [], 0, 0, g, false, d, 0, 0) = some (s, false, false, [], 0, 0, g, false, d, 0, 0) ∧ s.length = 4 ∧ ∀ c ∈ s, isDig c = true ∨ c = 88 := by
  obtain ⟨y, h1, s, h2, h3, h4⟩ := iterL_prop (step := circalaw14_Y_Of_l0 n) (fun x => ∃ (i : Nat) (s : List UInt8), i ≤ 4 ∧ s.length = i ∧ (∀ c ∈ s, isDig c = true ∨ c = 88) ∧ x = (a, b, s, (i : Int), false, false, [], 0, 0, g, false, d, 0, 0)) (fun x => 4 - x.2.2.2.1.toNat) (fun y => ∃ s : List UInt8, y = (s, false, false, [], 0, 0, g, false, d, 0, 0) ∧ s.length = 4 ∧ ∀ c ∈ s, isDig c = true ∨ c = 88) (by
    rintro x ⟨i, s, hi, hs, hc, rfl⟩
    rcases Nat.lt_or_ge i 4 with hlt | hge
    · obtain ⟨c, hgc⟩ : ∃ c, d[i]? = some c := ⟨d[i], List.getElem?_eq_getElem (by omega)⟩
      have d1 : decide ((i : Int) < 4) = true := decide_eq_true (by omega)
      have w1 : IntKind.wrap .i64 ((i : Int) + 1) = ((i + 1 : Nat) : Int) := by rw [wrap_i64 _ (by omega) (by omega)]; omega
      have next : ∀ e : UInt8, (isDig e = true ∨ e = 88) → ∃ x', some (Sum.inl (a, b, s ++ [e], ((i + 1 : Nat) : Int), false, false, ([] : List UInt8), (0 : Int), (0 : Int), g, false, d, (0 : Int), (0 : Int))) = some (Sum.inl (β := List UInt8 × Bool × Bool × List UInt8 × Int × Int × Bool × Bool × List UInt8 × Int × Int) x') ∧ (∃ (i : Nat) (s : List UInt8), i ≤ 4 ∧ s.length = i ∧ (∀ c ∈ s, isDig c = true ∨ c = 88) ∧ x' = (a, b, s, (i : Int), false, false, [], 0, 0, g, false, d, 0, 0)) ∧ 4 - x'.2.2.2.1.toNat < 4 - i := by
        intro e he
        refine ⟨_, rfl, ⟨i + 1, s ++ [e], hlt, by simp [hs], ?_, rfl⟩, by simp only [Int.toNat_natCast]; omega⟩
        intro c' hc'
        rcases List.mem_append.1 hc' with q | q
        · exact hc c' q
        · simp only [List.mem_cons, List.not_mem_nil, or_false] at q
          rw [q]; exact he
      simp only [circalaw14_Y_Of_l0, d1, cond_true, w1, Int.toNat_natCast, bx_nat (show i + 1 ≤ d.length by omega), bx_nat (show i ≤ i + 1 by omega), ob, cut1 hgc]
      rw [cat_ok (a := s) (b := [88]) (by simp; omega), cat_ok (a := s) (b := [c]) (by simp; omega)]
      simp only []
      left
      cases ((i : Int) == a)
      · cases ((i : Int) == b)
        · exact next c (.inl (hd c (List.mem_of_getElem? hgc)))
        · exact next 88 (.inr rfl)
      · exact next 88 (.inr rfl)
    · have : i = 4 := by omega
      subst this
      exact .inr ⟨_, rfl, s, rfl, hs, hc⟩) n (a, b, [], 0, false, false, [], 0, 0, g, false, d, 0, 0) ⟨0, [], by omega, rfl, by simp, rfl⟩ (by simp; omega)
  exact ⟨s, by rw [h1, h2], h3, h4⟩

theorem cut9 (r : Nat) (h : r < 9) : List.drop r (List.take (r + 1) ([49, 50, 51, 52, 53, 54, 55, 56, 57] : List UInt8)) = [UInt8.ofNat (49 + r)] := by
  have : ∀ r, r < 9 → List.drop r (List.take (r + 1) ([49, 50, 51, 52, 53, 54, 55, 56, 57] : List UInt8)) = [UInt8.ofNat (49 + r)] := by decide
  exact this r h

theorem okY_long {d : List UInt8} {x s : Nat} (h1 : ∀ c ∈ d, isDig c = true) (h2 : 1 ≤ d.length) (h3 : d.length ≤ 5) (h4 : d.head? ≠ some 48) (h5 : x ≤ 11) (h6 : x = 0 → d.length = 5) (h7 : s ≤ d.length + x) : okY false true d (x : Int) (s : Int) := by
  have hlt := dval_lt d 0 0 h1 (by simp)
  have hp : (10 : Nat) ^ (d.length + 0) ≤ 10 ^ 5 := Nat.pow_le_pow_right (by decide) (by omega)
  have hq : (10 : Nat) ^ x ≤ 10 ^ 11 := Nat.pow_le_pow_right (by decide) h5
  have hm := Nat.mul_le_mul (Nat.le_of_lt (Nat.lt_of_lt_of_le hlt hp)) hq
  have e : (10 : Nat) ^ 5 * 10 ^ 11 = E16 := by decide
  have : okL d (x : Int) (s : Int) := ⟨⟨h1, h2, by omega, h4, by omega, by omega, by rintro ⟨q1, q2⟩; have := h6 (by omega); omega, by simp only [Int.toNat_natCast]; omega⟩, by omega, by omega⟩
  simpa [okY] using this

theorem of_ok5 (m : Nat) (a0 a2 a3 a4 : Nat) (g : Bool) (h2 : a2 < 65536) (h3 : a3 < 256) (h4 : a4 < 256) : ∃ g' l d x s, circalaw14_Y_Of (m + 300) (a0 : Int) g (a2 : Int) (a3 : Int) (a4 : Int) = some (g', l, d, x, s) ∧ okY g' l d x s ∧ d.length ≤ 5 ∧ x ≤ 11 := by
  obtain ⟨d, hd1, hd2, hd3⟩ := four_eq (m + 300) a2 h2
  have hdX : ∀ c ∈ d, isDig c = true ∨ c = 88 := fun c hc => .inl (hd3 c hc)
  have hnX := hasX_dig hd3
  unfold circalaw14_Y_Of
  rw [hd1]
  simp only [ob]
  cases (Int.tmod (a0 : Int) 6 == 3) with
  | true =>
    simp only [cond_true]
    obtain ⟨s, hs1, hs2, hs3⟩ := of_loop (m + 300) (IntKind.wrap .i64 (Int.tmod (a3 : Int) 4)) (IntKind.wrap .i64 (Int.tmod (a4 : Int) 4)) g d hd2 hd3 (by omega)
    rw [hs1]
    obtain ⟨g', q1, q2⟩ := fix_neg (m + 300) g false s 0 0 (by omega) (by omega) (okY_short hs2 hs3 (by omega) (by omega) (by omega))
    exact ⟨g', false, s, 0, 0, q1, q2, by omega, by omega⟩
  | false =>
    simp only [cond_false]
    cases (Int.tmod (a0 : Int) 6 == 4) with
    | true =>
      simp only [cond_true]
      have e : Int.tmod (a3 : Int) 4 = ((a3 % 4 : Nat) : Int) := rfl
      have w1 : IntKind.wrap .i64 ((a3 % 4 : Nat) : Int) = ((a3 % 4 : Nat) : Int) := wrap_i64 _ (by omega) (by omega)
      have w2 : IntKind.wrap .i64 (1 + ((a3 % 4 : Nat) : Int)) = ((1 + a3 % 4 : Nat) : Int) := by rw [wrap_i64 _ (by omega) (by omega)]; omega
      rw [e, w1, w2]
      obtain ⟨g', q1, q2⟩ := fix_neg (m + 300) g false d 0 ((1 + a3 % 4 : Nat) : Int) (by omega) (by omega) (okY_short hd2 hdX (by omega) (by omega) (by rw [hnX]; simp))
      exact ⟨g', false, d, 0, _, q1, q2, by omega, by omega⟩
    | false =>
      simp only [cond_false]
      cases (Int.tmod (a0 : Int) 6 == 5) with
      | false =>
        simp only [cond_false]
        obtain ⟨g', q1, q2⟩ := fix_neg (m + 300) g false d 0 0 (by omega) (by omega) (okY_short hd2 hdX (by omega) (by omega) (by omega))
        exact ⟨g', false, d, 0, 0, q1, q2, by omega, by omega⟩
      | true =>
        simp only [cond_true]
        have e9 : Int.tmod (a3 : Int) 9 = ((a3 % 9 : Nat) : Int) := rfl
        have w9 : IntKind.wrap .u8 (((a3 % 9 : Nat) : Int) + 1) = ((a3 % 9 + 1 : Nat) : Int) := by rw [wrap_u8 _ (by omega) (by omega)]; omega
        have e3 : Int.tmod (a4 : Int) 3 = ((a4 % 3 : Nat) : Int) := rfl
        have e5 : Int.tmod (a4 : Int) 5 = ((a4 % 5 : Nat) : Int) := rfl
        have w5 : IntKind.wrap .u8 (1 + ((a4 % 5 : Nat) : Int)) = ((1 + a4 % 5 : Nat) : Int) := by rw [wrap_u8 _ (by omega) (by omega)]; omega
        have e16 : Int.tdiv (a4 : Int) 16 = ((a4 / 16 : Nat) : Int) := rfl
        have w16 : IntKind.wrap .u8 ((a4 / 16 : Nat) : Int) = ((a4 / 16 : Nat) : Int) := wrap_u8 _ (by omega) (by omega)
        have e11 : Int.tmod ((a4 / 16 : Nat) : Int) 11 = ((a4 / 16 % 11 : Nat) : Int) := rfl
        have w11 : IntKind.wrap .i64 ((a4 / 16 % 11 : Nat) : Int) = ((a4 / 16 % 11 : Nat) : Int) := wrap_i64 _ (by omega) (by omega)
        have w12 : IntKind.wrap .i64 (1 + ((a4 / 16 % 11 : Nat) : Int)) = ((1 + a4 / 16 % 11 : Nat) : Int) := by rw [wrap_i64 _ (by omega) (by omega)]; omega
        have f16 : Int.tdiv (a3 : Int) 16 = ((a3 / 16 : Nat) : Int) := rfl
        have v16 : IntKind.wrap .u8 ((a3 / 16 : Nat) : Int) = ((a3 / 16 : Nat) : Int) := wrap_u8 _ (by omega) (by omega)
        have v17 : IntKind.wrap .i64 ((a3 / 16 : Nat) : Int) = ((a3 / 16 : Nat) : Int) := wrap_i64 _ (by omega) (by omega)
        have h48 : UInt8.ofNat (49 + a3 % 9) ≠ 48 := by
          intro q
          have := congrArg UInt8.toNat q
          rw [show 49 + a3 % 9 = 48 + (1 + a3 % 9) by omega, ofNat_dig (by omega)] at this
          exact absurd this (by show ¬ 48 + (1 + a3 % 9) = 48; omega)
        have hdig1 : isDig (UInt8.ofNat (49 + a3 % 9)) = true := (isDig_iff _).2 (by rw [show 49 + a3 % 9 = 48 + (1 + a3 % 9) by omega, ofNat_dig (by omega)]; omega)
        rw [e9, w9, bx_nat (show a3 % 9 + 1 ≤ 9 by omega)]
        simp only []
        rw [bx_nat (show a3 % 9 ≤ a3 % 9 + 1 by omega)]
        simp only []
        rw [cut9 (a3 % 9) (by omega), cat_ok (by simp; omega)]
        simp only []
        generalize hD : [UInt8.ofNat (49 + a3 % 9)] ++ d = D
        have hDl : D.length = 5 := by rw [← hD]; simp [hd2]
        have hDd : ∀ c ∈ D, isDig c = true := by
          rw [← hD]
          intro c hc
          simp only [List.cons_append, List.nil_append, List.mem_cons] at hc
          rcases hc with rfl | hc
          · exact hdig1
          · exact hd3 c hc
        have hDh : D.head? ≠ some 48 := by rw [← hD]; simpa using h48
        rw [e3, e5, w5, e16, w16, e11, w11, w12, f16, v16, v17]
        by_cases h33 : 0 < a4 % 3
        · have d1 : decide (((a4 % 3 : Nat) : Int) > 0) = true := decide_eq_true (by omega)
          rw [d1, cond_true, bx_nat (show 1 + a4 % 5 ≤ D.length by omega)]
          simp only [List.drop_zero]
          generalize hE : List.take (1 + a4 % 5) D = E
          have hEl : E.length = 1 + a4 % 5 := by rw [← hE, List.length_take]; omega
          have hEd : ∀ c ∈ E, isDig c = true := by rw [← hE]; exact fun c hc => hDd c (List.mem_of_mem_take hc)
          have hEh : E.head? ≠ some 48 := by
            rw [← hE]
            cases D with
            | nil => simp at hDl
            | cons c r => rw [Nat.add_comm, List.take_succ_cons]; simpa using hDh
          generalize hX : 1 + a4 / 16 % 11 = X
          have hX11 : X ≤ 11 := by omega
          have hX1 : 1 ≤ X := by omega
          have wl : IntKind.wrap .i64 (IntKind.wrap .i64 (((E.length : Nat) : Int) + ((X : Nat) : Int)) + 1) = ((E.length + X + 1 : Nat) : Int) := by
            rw [wrap_i64 (((E.length : Nat) : Int) + ((X : Nat) : Int)) (by omega) (by omega), wrap_i64 _ (by omega) (by omega)]; omega
          have ne0 : (((E.length + X + 1 : Nat) : Int) == 0) = false := beq_eq_false_iff_ne.2 (by omega)
          rw [wl, ne0, cond_false]
          have em : Int.tmod ((a3 / 16 : Nat) : Int) ((E.length + X + 1 : Nat) : Int) = ((a3 / 16 % (E.length + X + 1) : Nat) : Int) := rfl
          rw [em]
          have hml : a3 / 16 % (E.length + X + 1) < E.length + X + 1 := Nat.mod_lt _ (by omega)
          generalize a3 / 16 % (E.length + X + 1) = s at hml ⊢
          obtain ⟨g', q1, q2⟩ := fix_neg (m + 300) g true E ((X : Nat) : Int) ((s : Nat) : Int) (by omega) (by omega) (okY_long hEd (by omega) (by omega) hEh hX11 (by omega) (by omega))
          exact ⟨g', true, E, _, _, q1, q2, by omega, by omega⟩
        · have d1 : decide (((a4 % 3 : Nat) : Int) > 0) = false := decide_eq_false (by omega)
          rw [d1, cond_false, hDl]
          have wl : IntKind.wrap .i64 (IntKind.wrap .i64 (((5 : Nat) : Int) + 0) + 1) = ((6 : Nat) : Int) := by decide
          have ne0 : (((6 : Nat) : Int) == 0) = false := rfl
          rw [wl, ne0, cond_false]
          have em : Int.tmod ((a3 / 16 : Nat) : Int) ((6 : Nat) : Int) = ((a3 / 16 % 6 : Nat) : Int) := rfl
          rw [em]
          have hml : a3 / 16 % 6 < 6 := Nat.mod_lt _ (by omega)
          generalize a3 / 16 % 6 = s at hml ⊢
          obtain ⟨g', q1, q2⟩ := fix_neg (m + 300) g true D ((0 : Nat) : Int) ((s : Nat) : Int) (by omega) (by omega) (okY_long hDd (by omega) (by omega) hDh (by omega) (by omega) (by omega))
          exact ⟨g', true, D, _, _, q1, q2, by omega, by omega⟩

theorem ytext_len {g l : Bool} {d : List UInt8} {x s : Nat} (h : okY g l d (x : Int) (s : Int)) : (ytextF g l d (x : Int) (s : Int)).length ≤ 25 := by
  have hs := ok_small h
  have h1 := textN_len 69 (show x < 100 by omega)
  have h2 := textN_len 83 (show s < 100 by omega)
  rw [ytext_parts]
  simp only [List.length_append]
  have e1 : (if l = true then ([89] : List UInt8) else []).length ≤ 1 := by split <;> simp
  have e2 : (if g = true then ([45] : List UInt8) else []).length ≤ 1 := by split <;> simp
  omega

def wordD (A B : Nat) (w : List UInt8) : List UInt8 := mt A ++ w ++ mt B

def textD (g l : Bool) (dg : List UInt8) (x q : Int) (m d : List UInt8) (k0 k1 k2 : Nat) : List UInt8 :=
  wordD (plA (comps m d) k0 k1 k2).1 (plB (comps m d) k0 k1 k2).1 (ytextF g l dg x q)
    ++ ((if m = [] then [] else 45 :: wordD (plA (comps m d) k0 k1 k2).2.1 (plB (comps m d) k0 k1 k2).2.1 m)
    ++ (if d = [] then [] else 45 :: wordD (plA (comps m d) k0 k1 k2).2.2 (plB (comps m d) k0 k1 k2).2.2 d))

structure OkD (g l : Bool) (dg : List UInt8) (x q : Nat) (m d : List UInt8) (k0 k1 k2 : Nat) : Prop where
  yr : okY g l dg (x : Int) (q : Int)
  x16 : x ≤ 16
  q17 : q ≤ 17
  dg17 : dg.length ≤ 17
  noM : 0 < q → m = []
  mon : m = [] ∨ (m.length = 2 ∧ ∀ c ∈ m, isDX c = true)
  day : d = [] ∨ (m ≠ [] ∧ d.length = 2 ∧ ∀ c ∈ d, isDX c = true)
  m0 : k0 < 4
  m1 : k1 < 4
  m2 : k2 < 4
  z1 : comps m d < 2 → k1 = 0
  z2 : comps m d < 3 → k2 = 0

theorem okD_of {g l : Bool} {dg : List UInt8} {x q : Int} {m d : List UInt8} {k0 k1 k2 : Int} (p0 : 0 ≤ k0) (p1 : 0 ≤ k1) (p2 : 0 ≤ k2) (h : chkD g l dg x q m d k0 k1 k2 = 0) :
    ∃ x' q' a b c : Nat, x = (x' : Int) ∧ q = (q' : Int) ∧ k0 = (a : Int) ∧ k1 = (b : Int) ∧ k2 = (c : Int) ∧ OkD g l dg x' q' m d a b c := by
  obtain ⟨hy, hm, hd, hk⟩ := chk_yr h
  unfold yrD at hy
  by_cases hok : okY g l dg x q
  rotate_left
  · rw [if_neg hok] at hy; cases hy
  rw [if_pos hok] at hy
  obtain ⟨s1, s2, s3, s4, s5, s6⟩ := ok_small hok
  have hk' : ¬ (3 < k0 ∨ 3 < k1 ∨ 3 < k2 ∨ (comps m d < 2 ∧ k1 ≠ 0) ∨ (comps m d < 3 ∧ k2 ≠ 0)) := by
    intro z
    unfold allM at hk
    rw [if_pos z] at hk
    exact absurd hk (by decide)
  refine ⟨x.toNat, q.toNat, k0.toNat, k1.toNat, k2.toNat, by omega, by omega, by omega, by omega, by omega, ?_⟩
  rw [← Int.toNat_of_nonneg s1, ← Int.toNat_of_nonneg s3] at hok
  refine ⟨hok, by omega, by omega, s6, ?_, ?_, ?_, by omega, by omega, by omega, by omega, by omega⟩
  · intro hq
    unfold yrB at hy
    have hq' : decide (0 < q) = true := by simp; omega
    rw [hq'] at hy
    by_cases hm0 : m = []
    · exact hm0
    · have : (m == []) = false := beq_eq_false_iff_ne.2 hm0
      rw [this] at hy
      simp at hy
  · rcases hm with hm | hm | hm
    · exact .inl hm
    · exact .inr (sea_len hm)
    · exact .inr (agrees_len (by omega) hm)
  · rcases hd with hd | ⟨hd, _, h31⟩
    · exact .inl hd
    · have := agrees_len (show 31 ≤ 31 by omega) h31
      exact .inr ⟨hd, this.1, this.2⟩

theorem txt_step (n k : Nat) (i : Nat) (hi : i < k) (hk : k ≤ 3) (A B : List Nat) (a b : Nat) (ha : A[i]? = some a) (hb : B[i]? = some b) (a4 : a < 4) (b4 : b < 4) (ws : List (List UInt8)) (hl : ws.length = k) (w : List UInt8) (w0 w1 w2 : List UInt8) (hw : [w0, w1, w2][i]? = some w) (hwl : w.length ≤ 1000) :
    dateforms_Text_l0 n (k, (k : Int), (i : Int), A.map cI, B.map cI, ws, [w0, w1, w2]) = some (.inl (k, (k : Int), ((i + 1 : Nat) : Int), A.map cI, B.map cI, ws.set i (wordD a b w), [w0, w1, w2])) := by
  have w2' : IntKind.wrap .i64 ((i : Int) + 1) = ((i + 1 : Nat) : Int) := by rw [wrap_i64 _ (by omega) (by omega)]; omega
  have hA : (A.map cI)[i]? = some (a : Int) := by rw [List.getElem?_map, ha]; rfl
  have hB : (B.map cI)[i]? = some (b : Int) := by rw [List.getElem?_map, hb]; rfl
  have hmt : ∀ z : Nat, z < 4 → (mt z).length ≤ 1 := fun z hz => by
    unfold mt
    split
    · simp
    · split
      · simp
      · split <;> simp
  unfold dateforms_Text_l0
  rw [cond_dec, if_pos (show (i : Int) < (k : Int) by omega)]
  simp only [ix_nat hi, ix_nat (show i < 3 by omega), ob, hw, d4, hA, hB, (mt_eq n a a4).1, (mt_eq n b b4).1]
  have c1 := hmt a a4
  have c2 := hmt b b4
  have q1 : cat (mt a) w = some (mt a ++ w) := cat_ok (by omega)
  have q2 : cat (mt a ++ w) (mt b) = some (mt a ++ w ++ mt b) := cat_ok (by rw [List.length_append]; omega)
  rw [q1]
  simp only [ob]
  rw [q2]
  simp only [ob]
  have hi' : i < ws.length := by omega
  obtain ⟨v, hv⟩ : ∃ v, ws[i]? = some v := ⟨ws[i], List.getElem?_eq_getElem hi'⟩
  rw [ix_nat hi']
  simp only [ob, hv, w2']
  rfl

theorem txt_end (n k : Nat) (A B : List Int) (ws V : List (List UInt8)) : dateforms_Text_l0 n (k, (k : Int), (k : Int), A, B, ws, V) = some (.inr ws) := by
  unfold dateforms_Text_l0
  rw [cond_dec, if_neg (show ¬ ((k : Int) < (k : Int)) by omega)]

theorem word_len (a b : Nat) (w : List UInt8) : (wordD a b w).length ≤ w.length + 2 := by
  have hmt : ∀ z : Nat, (mt z).length ≤ 1 := fun z => by
    unfold mt
    split
    · simp
    · split
      · simp
      · split <;> simp
  have := hmt a
  have := hmt b
  unfold wordD
  simp only [List.length_append]
  omega

theorem comps1 : comps [] [] = 1 := rfl

theorem comps2 {m : List UInt8} (h : m ≠ []) : comps m [] = 2 := by unfold comps; rw [beq_eq_false_iff_ne.2 h]; rfl

theorem comps3 {m d : List UInt8} (h : m ≠ []) (h2 : d ≠ []) : comps m d = 3 := by unfold comps; rw [beq_eq_false_iff_ne.2 h, beq_eq_false_iff_ne.2 h2]; rfl

theorem ne_of_len2 {d : List UInt8} (h : d.length = 2) : d ≠ [] := by rintro rfl; simp at h

theorem df_Text (n : Nat) (g l : Bool) (dg : List UInt8) (x q : Nat) (m d : List UInt8) (k0 k1 k2 : Nat) (hm : m.length ≤ 18) (hd : dg.length ≤ 100) :
    dateforms_Text (n + 300) g l dg (x : Int) (q : Int) m d (k0 : Int) (k1 : Int) (k2 : Int) = some (if chkD g l dg (x : Int) (q : Int) m d (k0 : Int) (k1 : Int) (k2 : Int) = 0 then (textD g l dg (x : Int) (q : Int) m d k0 k1 k2, 0) else ([], chkD g l dg (x : Int) (q : Int) m d (k0 : Int) (k1 : Int) (k2 : Int))) := by
  unfold dateforms_Text
  rw [df_Check (n + 300) (by omega) g l dg _ _ m d _ _ _ hm hd (by omega) (by omega) (by omega)]
  show cond (chkD g l dg (x : Int) (q : Int) m d (k0 : Int) (k1 : Int) (k2 : Int) != 0) _ _ = _
  rw [cond_bne]
  by_cases h0 : chkD g l dg (x : Int) (q : Int) m d (k0 : Int) (k1 : Int) (k2 : Int) = 0
  rotate_left
  · rw [if_neg h0, if_neg h0]
  rw [if_pos h0, if_pos h0]
  obtain ⟨x', q', a, b, c, e1, e2, e3, e4, e5, hok⟩ := okD_of (by omega) (by omega) (by omega) h0
  obtain rfl : x = x' := by omega
  obtain rfl : q = q' := by omega
  obtain rfl : k0 = a := by omega
  obtain rfl : k1 = b := by omega
  obtain rfl : k2 = c := by omega
  have hc := comps_pos m d
  have hpl := (pl_eq n (comps m d) k0 k1 k2 hc hok.m0 hok.m1 hok.m2 hok.z1 hok.z2).1
  obtain ⟨l0, l1, l2, l3', l4, l5⟩ := pl_lt (k := comps m d) hok.m0 hok.m1 hok.m2
  rw [df_Components (n + 300) (by omega)]
  simp only [ob]
  rw [hpl, yf_Check (n + 300) g l dg _ _ (by omega) hd, if_pos hok.yr]
  simp only [ob, bne_self_eq_false, cond_false, ok_ysmall hok.yr, cond_true]
  have hcnd : (decide ((0 : Int) ≤ ((comps m d : Nat) : Int)) && (decide (((comps m d : Nat) : Int) ≤ ((comps m d : Nat) : Int)) && decide (((comps m d : Nat) : Int) ≤ (67108864 : Int)))) = true := by
    rw [decide_eq_true (by omega), decide_eq_true (by omega), decide_eq_true (by omega)]; rfl
  rw [hcnd, bx_nat (show comps m d ≤ 3 by omega)]
  simp only [ob, cond_true, Int.toNat_natCast]
  have hyl := ytext_len hok.yr
  have q1 : Nat.ble 1 140737488355328 = true := rfl
  have q2 : Nat.ble 2 140737488355328 = true := rfl
  have q3 : Nat.ble 3 140737488355328 = true := rfl
  unfold textD
  generalize ytextF g l dg (x : Int) (q : Int) = Y at hyl
  generalize hpA : plA (comps m d) k0 k1 k2 = PA at *
  generalize hpB : plB (comps m d) k0 k1 k2 = PB at *
  obtain ⟨A0, A1, A2⟩ := PA
  obtain ⟨B0, B1, B2⟩ := PB
  simp only at l0 l1 l2 l3' l4 l5
  have st := fun (k i : Nat) (hi : i < k) (hk : k ≤ 3) (a b : Nat) (ha : [A0, A1, A2][i]? = some a) (hb : [B0, B1, B2][i]? = some b) (a4 : a < 4) (b4 : b < 4) (ws : List (List UInt8)) (hl : ws.length = k) (w : List UInt8) (w0 w1 w2 : List UInt8) (hw : [w0, w1, w2][i]? = some w) (hwl : w.length ≤ 1000) => txt_step (n + 300) k i hi hk [A0, A1, A2] [B0, B1, B2] a b ha hb a4 b4 ws hl w w0 w1 w2 hw hwl
  have big : ∀ L : List UInt8, L.length ≤ 1000 → Nat.ble L.length 140737488355328 = true := fun L h => Nat.ble_eq_true_of_le (by omega)
  by_cases hm0 : m = []
  · have hd0 : d = [] := hok.day.resolve_right (fun z => z.1 hm0)
    subst hm0 hd0
    show ob (iterL (dateforms_Text_l0 (n + 300)) (n + 299 + 1) (1, ((1 : Nat) : Int), ((0 : Nat) : Int), [A0, A1, A2].map cI, [B0, B1, B2].map cI, [[]], [Y, [], []])) _ = _
    rw [iterL, st 1 0 (by omega) (by omega) A0 B0 rfl rfl l0 l3' [[]] rfl Y Y [] [] rfl (by omega)]
    show ob (iterL (dateforms_Text_l0 (n + 300)) (n + 298 + 1) (1, ((1 : Nat) : Int), ((1 : Nat) : Int), [A0, A1, A2].map cI, [B0, B1, B2].map cI, [wordD A0 B0 Y], [Y, [], []])) _ = _
    rw [iterL, txt_end]
    simp only [ob]
    have e : Lib.join [wordD A0 B0 Y] [45] = wordD A0 B0 Y := Lib.join_one _ _
    have hw := word_len A0 B0 Y
    rw [e, big _ (by omega)]
    simp [q1]
  · have hml : m.length = 2 := (hok.mon.resolve_left hm0).1
    by_cases hd0 : d = []
    · subst hd0
      rw [comps2 hm0] at hpA hpB ⊢
      show ob (iterL (dateforms_Text_l0 (n + 300)) (n + 299 + 1) (2, ((2 : Nat) : Int), ((0 : Nat) : Int), [A0, A1, A2].map cI, [B0, B1, B2].map cI, [[], []], [Y, m, []])) _ = _
      rw [iterL, st 2 0 (by omega) (by omega) A0 B0 rfl rfl l0 l3' [[], []] rfl Y Y m [] rfl (by omega)]
      show ob (iterL (dateforms_Text_l0 (n + 300)) (n + 298 + 1) (2, ((2 : Nat) : Int), ((1 : Nat) : Int), [A0, A1, A2].map cI, [B0, B1, B2].map cI, [wordD A0 B0 Y, []], [Y, m, []])) _ = _
      rw [iterL, st 2 1 (by omega) (by omega) A1 B1 rfl rfl l1 l4 [wordD A0 B0 Y, []] rfl m Y m [] rfl (by omega)]
      show ob (iterL (dateforms_Text_l0 (n + 300)) (n + 297 + 1) (2, ((2 : Nat) : Int), ((2 : Nat) : Int), [A0, A1, A2].map cI, [B0, B1, B2].map cI, [wordD A0 B0 Y, wordD A1 B1 m], [Y, m, []])) _ = _
      rw [iterL, txt_end]
      simp only [ob]
      have e : Lib.join [wordD A0 B0 Y, wordD A1 B1 m] [45] = wordD A0 B0 Y ++ (45 :: wordD A1 B1 m) := by rw [Lib.join_cons]; simp [Lib.joinTail]
      have hw := word_len A0 B0 Y
      have hw1 := word_len A1 B1 m
      rw [e, big _ (by simp only [List.length_append, List.length_cons]; omega)]
      rw [if_neg hm0]
      simp [q2]
    · have hdl : d.length = 2 := (hok.day.resolve_left hd0).2.1
      rw [comps3 hm0 hd0] at hpA hpB ⊢
      show ob (iterL (dateforms_Text_l0 (n + 300)) (n + 299 + 1) (3, ((3 : Nat) : Int), ((0 : Nat) : Int), [A0, A1, A2].map cI, [B0, B1, B2].map cI, [[], [], []], [Y, m, d])) _ = _
      rw [iterL, st 3 0 (by omega) (by omega) A0 B0 rfl rfl l0 l3' [[], [], []] rfl Y Y m d rfl (by omega)]
      show ob (iterL (dateforms_Text_l0 (n + 300)) (n + 298 + 1) (3, ((3 : Nat) : Int), ((1 : Nat) : Int), [A0, A1, A2].map cI, [B0, B1, B2].map cI, [wordD A0 B0 Y, [], []], [Y, m, d])) _ = _
      rw [iterL, st 3 1 (by omega) (by omega) A1 B1 rfl rfl l1 l4 [wordD A0 B0 Y, [], []] rfl m Y m d rfl (by omega)]
      show ob (iterL (dateforms_Text_l0 (n + 300)) (n + 297 + 1) (3, ((3 : Nat) : Int), ((2 : Nat) : Int), [A0, A1, A2].map cI, [B0, B1, B2].map cI, [wordD A0 B0 Y, wordD A1 B1 m, []], [Y, m, d])) _ = _
      rw [iterL, st 3 2 (by omega) (by omega) A2 B2 rfl rfl l2 l5 [wordD A0 B0 Y, wordD A1 B1 m, []] rfl d Y m d rfl (by omega)]
      show ob (iterL (dateforms_Text_l0 (n + 300)) (n + 296 + 1) (3, ((3 : Nat) : Int), ((3 : Nat) : Int), [A0, A1, A2].map cI, [B0, B1, B2].map cI, [wordD A0 B0 Y, wordD A1 B1 m, wordD A2 B2 d], [Y, m, d])) _ = _
      rw [iterL, txt_end]
      simp only [ob]
      have e : Lib.join [wordD A0 B0 Y, wordD A1 B1 m, wordD A2 B2 d] [45] = wordD A0 B0 Y ++ (45 :: wordD A1 B1 m ++ (45 :: wordD A2 B2 d)) := by rw [Lib.join_cons]; simp [Lib.joinTail]
      have hw := word_len A0 B0 Y
      have hw1 := word_len A1 B1 m
      have hw2 := word_len A2 B2 d
      rw [e, big _ (by simp only [List.length_append, List.length_cons]; omega)]
      rw [if_neg hm0, if_neg hd0]
      simp [q3]

theorem ref_Text15 (n : Nat) {g l : Bool} {dg : List UInt8} {x q : Nat} {m d : List UInt8} {k0 k1 k2 : Nat} (hok : OkD g l dg x q m d k0 k1 k2) :
    circaref15_Text (n + 300) g l dg (x : Int) (q : Int) m d (k0 : Int) (k1 : Int) (k2 : Int) = some (textD g l dg (x : Int) (q : Int) m d k0 k1 k2) := by
  have hc := comps_pos m d
  have hpl := (pl_eq n (comps m d) k0 k1 k2 hc hok.m0 hok.m1 hok.m2 hok.z1 hok.z2).2
  obtain ⟨l0, l1, l2, l3', l4, l5⟩ := pl_lt (k := comps m d) hok.m0 hok.m1 hok.m2
  have hyl := ytext_len hok.yr
  have hx := hok.x16
  have hq := hok.q17
  have hdg := hok.dg17
  unfold circaref15_Text
  rw [ref_Components (n + 300)]
  simp only [ob]
  rw [hpl, ref_Text (n + 300) g l dg x q (by omega) (by omega) (by omega)]
  unfold textD
  generalize ytextF g l dg (x : Int) (q : Int) = Y at hyl ⊢
  generalize hpA : plA (comps m d) k0 k1 k2 = PA at *
  generalize hpB : plB (comps m d) k0 k1 k2 = PB at *
  obtain ⟨A0, A1, A2⟩ := PA
  obtain ⟨B0, B1, B2⟩ := PB
  simp only at l0 l1 l2 l3' l4 l5
  have hmt : ∀ z : Nat, (mt z).length ≤ 1 := fun z => by
    unfold mt
    split
    · simp
    · split
      · simp
      · split <;> simp
  have hA0 := hmt A0
  have hA1 := hmt A1
  have hA2 := hmt A2
  have hB0 := hmt B0
  have hB1 := hmt B1
  have hB2 := hmt B2
  have hml : m.length ≤ 2 := by
    rcases hok.mon with h | h
    · rw [h]; simp
    · omega
  have hdl : d.length ≤ 2 := by
    rcases hok.day with h | h
    · rw [h]; simp
    · omega
  have i0 : ∀ a b c : Nat, (l3 (a, b, c))[0]? = some (a : Int) := fun _ _ _ => rfl
  have i1 : ∀ a b c : Nat, (l3 (a, b, c))[1]? = some (b : Int) := fun _ _ _ => rfl
  have i2 : ∀ a b c : Nat, (l3 (a, b, c))[2]? = some (c : Int) := fun _ _ _ => rfl
  have cc : ∀ a b : List UInt8, a.length + b.length ≤ 1000000 → cat a b = some (a ++ b) := fun a b h => cat_ok h
  simp only [ob, i0, i1, i2, (mt_eq (n + 300) A0 l0).2, (mt_eq (n + 300) A1 l1).2, (mt_eq (n + 300) A2 l2).2, (mt_eq (n + 300) B0 l3').2, (mt_eq (n + 300) B1 l4).2, (mt_eq (n + 300) B2 l5).2]
  rw [cc (mt A0) Y (by omega)]
  simp only [ob]
  rw [cc _ (mt B0) (by simp only [List.length_append]; omega)]
  simp only [ob]
  have k1' : decide (((comps m d : Nat) : Int) > 1) = decide (1 < comps m d) := by rw [decide_eq_decide]; omega
  have k2' : decide (((comps m d : Nat) : Int) > 2) = decide (2 < comps m d) := by rw [decide_eq_decide]; omega
  rw [k1', k2']
  by_cases hm0 : m = []
  · have hd0 : d = [] := hok.day.resolve_right (fun z => z.1 hm0)
    subst hm0 hd0
    rw [comps1]
    simp [wordD]
  · by_cases hd0 : d = []
    · subst hd0
      rw [comps2 hm0, if_neg hm0]
      simp only [show decide (1 < 2) = true from rfl, show decide (2 < 2) = false from rfl, cond_true, cond_false]
      rw [cc [45] (mt A1) (by simp; omega)]
      simp only [ob]
      rw [cc _ m (by simp only [List.length_append, List.length_cons, List.length_nil]; omega)]
      simp only [ob]
      rw [cc _ (mt B1) (by simp only [List.length_append, List.length_cons, List.length_nil]; omega)]
      simp only [ob]
      rw [cc _ _ (by simp only [List.length_append, List.length_cons, List.length_nil]; omega)]
      simp [wordD]
    · rw [comps3 hm0 hd0, if_neg hm0, if_neg hd0]
      simp only [show decide (1 < 3) = true from rfl, show decide (2 < 3) = true from rfl, cond_true, cond_false]
      rw [cc [45] (mt A1) (by simp; omega)]
      simp only [ob]
      rw [cc _ m (by simp only [List.length_append, List.length_cons, List.length_nil]; omega)]
      simp only [ob]
      rw [cc _ (mt B1) (by simp only [List.length_append, List.length_cons, List.length_nil]; omega)]
      simp only [ob]
      rw [cc _ _ (by simp only [List.length_append, List.length_cons, List.length_nil]; omega)]
      simp only [ob]
      rw [cc [45] (mt A2) (by simp; omega)]
      simp only [ob]
      rw [cc _ d (by simp only [List.length_append, List.length_cons, List.length_nil]; omega)]
      simp only [ob]
      rw [cc _ (mt B2) (by simp only [List.length_append, List.length_cons, List.length_nil]; omega)]
      simp only [ob]
      rw [cc _ _ (by simp only [List.length_append, List.length_cons, List.length_nil]; omega)]
      simp [wordD]

def isMk (c : UInt8) : Bool := decide (0 < mkOf c)

theorem drop_app {S u v : List UInt8} {a : Nat} (h : S.drop a = u ++ v) : S.drop (a + u.length) = v := by
  rw [← List.drop_drop, h, List.drop_left']
  rfl

theorem mk_app {A : Nat} (hA : A < 4) {r : List UInt8} (hr : noHead isMk r) : mkS (mt A ++ r) = A ∧ mkN (mt A ++ r) = (mt A).length := by
  have h0 : mkS r = 0 := by
    cases r with
    | nil => rfl
    | cons c r =>
      have := hr c rfl
      unfold isMk at this
      have := of_decide_eq_false this
      show mkOf c = 0
      omega
  have h : A = 0 ∨ A = 1 ∨ A = 2 ∨ A = 3 := by omega
  rcases h with rfl | rfl | rfl | rfl
  · refine ⟨h0, ?_⟩
    show mkN r = 0
    unfold mkN
    rw [if_pos h0]
  · exact ⟨rfl, rfl⟩
  · exact ⟨rfl, rfl⟩
  · exact ⟨rfl, rfl⟩

theorem noHead_cons {p : UInt8 → Bool} {c : UInt8} {r : List UInt8} (h : p c = false) : noHead p (c :: r) := fun c' hc => by
  simp only [List.head?_cons, Option.some.injEq] at hc
  rw [← hc]; exact h

theorem mt_head {p : UInt8 → Bool} (B : Nat) {r : List UInt8} (h1 : p 63 = false) (h2 : p 126 = false) (h3 : p 37 = false) (hr : noHead p r) : noHead p (mt B ++ r) := by
  unfold mt
  split
  · exact noHead_cons h1
  · split
    · exact noHead_cons h2
    · split
      · exact noHead_cons h3
      · exact hr

theorem dx_mk {c : UInt8} (h : isDX c = true) : isMk c = false := by
  have := u8_forall (fun c => !(isDX c) || !(isMk c)) (by decide +kernel) c
  rw [h] at this
  simpa using this

theorem all_head {p q : UInt8 → Bool} {w r : List UInt8} (h0 : w ≠ []) (h : ∀ c ∈ w, p c = true) (hpq : ∀ c, p c = true → q c = false) : noHead q (w ++ r) := by
  cases w with
  | nil => exact absurd rfl h0
  | cons c w => exact noHead_cons (hpq c (h c List.mem_cons_self))

theorem okY_dx {g l : Bool} {d : List UInt8} {x s : Int} (h : okY g l d x s) : ∀ c ∈ d, isDX c = true := by
  intro c hc
  unfold okY at h
  have : isDig c = true ∨ c = 88 := by
    split at h
    · exact .inl (h.1.1 c hc)
    · exact h.2.1 c hc
  unfold isDX
  rcases this with h1 | h1
  · rw [h1]; rfl
  · rw [h1]; decide

theorem ytext_head {g l : Bool} {d : List UInt8} {x s : Nat} (h : okY g l d (x : Int) (s : Int)) (r : List UInt8) : noHead isMk (ytextF g l d (x : Int) (s : Int) ++ r) := by
  have hl : d ≠ [] := by
    have := (ok_small h).2.2.2.2.1
    rintro rfl
    simp at this
  rw [ytext_parts]
  cases l with
  | true => exact noHead_cons (by decide)
  | false =>
    cases g with
    | true => exact noHead_cons (by decide)
    | false =>
      simp only [Bool.false_eq_true, if_false, List.nil_append, List.append_assoc]
      exact all_head hl (okY_dx h) (fun c => dx_mk)

theorem word_read {S : List UInt8} {p A B : Nat} {w R : List UInt8} (h : S.drop p = wordD A B w ++ R) (hA : A < 4) (hB : B < 4) (hw : noHead isMk (w ++ (mt B ++ R))) (hR : noHead isMk R) :
    mkS (S.drop p) = A ∧ S.drop (mkE S p) = w ++ (mt B ++ R) ∧ mkS (S.drop (mkE S p + w.length)) = B ∧ S.drop (mkE S (mkE S p + w.length)) = R ∧ mkE S (mkE S p + w.length) = p + (wordD A B w).length := by
  have h' : S.drop p = mt A ++ (w ++ (mt B ++ R)) := by rw [h]; unfold wordD; simp
  obtain ⟨e1, e2⟩ := mk_app hA hw
  obtain ⟨e3, e4⟩ := mk_app hB hR
  have hE : mkE S p = p + (mt A).length := by unfold mkE; rw [h', e2]
  have h1 : S.drop (mkE S p) = w ++ (mt B ++ R) := by rw [hE]; exact drop_app h'
  have h2 : S.drop (mkE S p + w.length) = mt B ++ R := drop_app h1
  have hE2 : mkE S (mkE S p + w.length) = mkE S p + w.length + (mt B).length := by
    show mkE S p + w.length + mkN (S.drop (mkE S p + w.length)) = _
    rw [h2, e4]
  refine ⟨by rw [h', e1], h1, by rw [h2, e3], by rw [hE2]; exact drop_app h2, ?_⟩
  rw [hE2, hE]
  unfold wordD
  simp only [List.length_append]
  omega

theorem two_word {m r : List UInt8} (hl : m.length = 2) (h : ∀ c ∈ m, isDX c = true) : twoN (m ++ r) = 2 ∧ (m ++ r).take 2 = m := by
  match m, hl with
  | [a, b], _ =>
    have ha := h a (by simp)
    have hb := h b (by simp)
    refine ⟨?_, rfl⟩
    unfold twoN
    show spanN isDX 2 (a :: b :: r) = 2
    simp [spanN, ha, hb]

theorem pl_zero {k a b c : Nat} (h1 : k < 2 → b = 0) (h2 : k < 3 → c = 0) (hk : 1 ≤ k) : (k < 2 → (plA k a b c).2.1 = 0 ∧ (plB k a b c).2.1 = 0) ∧ (k < 3 → (plA k a b c).2.2 = 0 ∧ (plB k a b c).2.2 = 0) := by
  unfold plA plB
  constructor
  · intro h
    have : k = 1 := by omega
    subst this
    have := h1 h
    split
    · simp
    · simp [this]
  · intro h
    have := h2 h
    split
    · split
      · simp
      · have : k = 2 := by omega
        simp [this]
    · simp [this]

theorem read_textD {g l : Bool} {dg : List UInt8} {x q : Nat} {m d : List UInt8} {k0 k1 k2 : Nat} (hok : OkD g l dg x q m d k0 k1 k2) {S : List UInt8} {a : Nat} {post : List UInt8} (h : S.drop a = textD g l dg (x : Int) (q : Int) m d k0 k1 k2 ++ post)
    (hp1 : noHead isYC post) (hp2 : noHead isMk post) (hp3 : noHead (fun c => c == 45) post) :
    ∃ P, readD S a = .inr (g, l, dg, x, q, m, d, (k0, k1, k2), P, a + (textD g l dg (x : Int) (q : Int) m d k0 k1 k2).length) := by
  have hc := comps_pos m d
  have hps := pl_sp (comps m d) k0 k1 k2 hc hok.m0 hok.m1 hok.m2 hok.z1 hok.z2
  obtain ⟨l0, l1, l2, l3', l4, l5⟩ := pl_lt (k := comps m d) hok.m0 hok.m1 hok.m2
  obtain ⟨hz1, hz2⟩ := pl_zero (a := k0) hok.z1 hok.z2 hc.1
  unfold textD at h ⊢
  generalize hpA : plA (comps m d) k0 k1 k2 = PA at *
  generalize hpB : plB (comps m d) k0 k1 k2 = PB at *
  obtain ⟨A0, A1, A2⟩ := PA
  obtain ⟨B0, B1, B2⟩ := PB
  simp only at l0 l1 l2 l3' l4 l5 hz1 hz2 h
  clear hpA hpB
  have h45 : isMk 45 = false := by decide
  have y45 : isYC 45 = false := by decide
  have t45 : ∀ r : List UInt8, noHead (fun c => c == 45) r → takes 45 r = 0 := fun r hr => by
    cases r with
    | nil => rfl
    | cons c r =>
      have := hr c rfl
      exact takes_miss (fun e => by rw [e] at this; exact absurd this (by decide)) r
  have hyx := read_text hok.yr
  have hyh := ytext_head hok.yr
  generalize hY : ytextF g l dg (x : Int) (q : Int) = Y at *
  -- the year
  have hRs : ∀ R : List UInt8, S.drop a = wordD A0 B0 Y ++ R → noHead isYC R → noHead isMk R →
      mkS (S.drop a) = A0 ∧ readS (S.drop (mkE S a)) = .inr (g, l, dg, x, q, Y.length) ∧ mkS (S.drop (mkE S a + Y.length)) = B0 ∧ S.drop (mkE S (mkE S a + Y.length)) = R ∧ mkE S (mkE S a + Y.length) = a + (wordD A0 B0 Y).length := by
    intro R hR h1 h2
    obtain ⟨w1, w2, w3, w4, w5⟩ := word_read hR l0 l3' (hyh _) h2
    refine ⟨w1, ?_, w3, w4, w5⟩
    rw [w2]
    exact hyx _ (mt_head B0 (by decide) (by decide) (by decide) h1)
  unfold readD
  by_cases hm0 : m = []
  · have hd0 : d = [] := hok.day.resolve_right (fun z => z.1 hm0)
    subst hm0 hd0
    simp only [if_true, List.append_nil] at h ⊢
    obtain ⟨w1, w2, w3, w4, w5⟩ := hRs post h hp1 hp2
    rw [w2]
    simp only []
    rw [w4, if_pos (.inr (t45 post hp3)), w1, w3, w5]
    obtain ⟨e1, e2⟩ := hz1 (by rw [comps1]; omega)
    obtain ⟨e3, e4⟩ := hz2 (by rw [comps1]; omega)
    rw [e1, e2, e3, e4] at hps
    rw [hps]
    exact ⟨_, rfl⟩
  · have hq0 : ¬ 0 < q := fun z => hm0 (hok.noM z)
    obtain ⟨hml, hmx⟩ := hok.mon.resolve_left hm0
    rw [if_neg hm0] at h ⊢
    have hmk : ∀ r, noHead isMk (m ++ r) := fun r => all_head hm0 hmx (fun c => dx_mk)
    by_cases hd0 : d = []
    · subst hd0
      rw [if_pos rfl, List.append_nil] at h ⊢
      have h' : S.drop a = wordD A0 B0 Y ++ (45 :: (wordD A1 B1 m ++ post)) := by rw [h]; simp
      obtain ⟨w1, w2, w3, w4, w5⟩ := hRs _ h' (noHead_cons y45) (noHead_cons h45)
      rw [w2]
      simp only []
      rw [w4, takes_hit, if_neg (fun z => z.elim hq0 (by omega)), w1, w3]
      unfold rd2
      have h2 : S.drop (mkE S (mkE S a + Y.length) + 1) = wordD A1 B1 m ++ post := drop_app (u := [45]) w4
      obtain ⟨v1, v2, v3, v4, v5⟩ := word_read h2 l1 l4 (hmk _) hp2
      obtain ⟨u1, u2⟩ := two_word (r := mt B1 ++ post) hml hmx
      rw [← v2] at u1 u2
      rw [hml] at v3 v4 v5
      rw [u1, if_neg (by omega), v4, t45 post hp3, if_pos rfl, u2, v1, v3, v5, w5]
      obtain ⟨e3, e4⟩ := hz2 (by rw [comps2 hm0]; omega)
      rw [e3, e4] at hps
      simp only []
      rw [hps]
      have : a + (wordD A0 B0 Y).length + 1 + (wordD A1 B1 m).length = a + (wordD A0 B0 Y ++ 45 :: wordD A1 B1 m).length := by simp only [List.length_append, List.length_cons]; omega
      rw [this]
      exact ⟨_, rfl⟩
    · obtain ⟨_, hdl, hdx⟩ := hok.day.resolve_left hd0
      rw [if_neg hd0] at h ⊢
      have hdk : ∀ r, noHead isMk (d ++ r) := fun r => all_head hd0 hdx (fun c => dx_mk)
      have h' : S.drop a = wordD A0 B0 Y ++ (45 :: (wordD A1 B1 m ++ (45 :: (wordD A2 B2 d ++ post)))) := by rw [h]; simp
      obtain ⟨w1, w2, w3, w4, w5⟩ := hRs _ h' (noHead_cons y45) (noHead_cons h45)
      rw [w2]
      simp only []
      rw [w4, takes_hit, if_neg (fun z => z.elim hq0 (by omega)), w1, w3]
      unfold rd2
      have h2 : S.drop (mkE S (mkE S a + Y.length) + 1) = wordD A1 B1 m ++ (45 :: (wordD A2 B2 d ++ post)) := drop_app (u := [45]) w4
      obtain ⟨v1, v2, v3, v4, v5⟩ := word_read h2 l1 l4 (hmk _) (noHead_cons h45)
      obtain ⟨u1, u2⟩ := two_word (r := mt B1 ++ (45 :: (wordD A2 B2 d ++ post))) hml hmx
      rw [← v2] at u1 u2
      rw [hml] at v3 v4 v5
      rw [u1, if_neg (by omega), v4, takes_hit, if_neg (by omega), u2, v1, v3]
      unfold rd3
      have h3 : S.drop (mkE S (mkE S (mkE S (mkE S a + Y.length) + 1) + 2) + 1) = wordD A2 B2 d ++ post := drop_app (u := [45]) v4
      obtain ⟨x1, x2, x3, x4, x5⟩ := word_read h3 l2 l5 (hdk _) hp2
      obtain ⟨s1, s2⟩ := two_word (r := mt B2 ++ post) hdl hdx
      rw [← x2] at s1 s2
      rw [hdl] at x3 x4 x5
      rw [s1, if_neg (by omega), s2, x1, x3, x5, v5, w5, hps]
      have : a + (wordD A0 B0 Y).length + 1 + (wordD A1 B1 m).length + 1 + (wordD A2 B2 d).length = a + (wordD A0 B0 Y ++ (45 :: wordD A1 B1 m ++ 45 :: wordD A2 B2 d)).length := by simp only [List.length_append, List.length_cons]; omega
      rw [this]
      exact ⟨_, rfl⟩

theorem textD_len {g l : Bool} {dg : List UInt8} {x q : Nat} {m d : List UInt8} {k0 k1 k2 : Nat} (hok : OkD g l dg x q m d k0 k1 k2) : (textD g l dg (x : Int) (q : Int) m d k0 k1 k2).length ≤ 37 := by
  have hy := ytext_len hok.yr
  have h0 := word_len (plA (comps m d) k0 k1 k2).1 (plB (comps m d) k0 k1 k2).1 (ytextF g l dg (x : Int) (q : Int))
  have h1 := word_len (plA (comps m d) k0 k1 k2).2.1 (plB (comps m d) k0 k1 k2).2.1 m
  have h2 := word_len (plA (comps m d) k0 k1 k2).2.2 (plB (comps m d) k0 k1 k2).2.2 d
  have hml : m.length ≤ 2 := by
    rcases hok.mon with h | h
    · rw [h]; simp
    · omega
  have hdl : d.length ≤ 2 := by
    rcases hok.day with h | h
    · rw [h]; simp
    · omega
  unfold textD
  simp only [List.length_append]
  have a1 : (if m = [] then [] else 45 :: wordD (plA (comps m d) k0 k1 k2).2.1 (plB (comps m d) k0 k1 k2).2.1 m).length ≤ 5 := by
    split
    · simp
    · simp only [List.length_cons]; omega
  have a2 : (if d = [] then [] else 45 :: wordD (plA (comps m d) k0 k1 k2).2.2 (plB (comps m d) k0 k1 k2).2.2 d).length ≤ 5 := by
    split
    · simp
    · simp only [List.length_cons]; omega
  omega

abbrev PD := Bool × Bool × List UInt8 × Int × Int × List UInt8 × List UInt8 × Int × Int × Int × Int × Int

def pz (a e : Int) : PD := (false, false, [], 0, 0, [], [], 0, 0, 0, a, e)

def parseR (S : List UInt8) : Nat ⊕ DR → PD
  | .inl k => pz (k : Int) 5
  | .inr (g, l, dg, x, s, m, d, M, P, e) => if e < S.length then pz (e : Int) 5 else
      if chkD g l dg (x : Int) (s : Int) m d (M.1 : Int) (M.2.1 : Int) (M.2.2 : Int) = 0 then (g, l, dg, (x : Int), (s : Int), m, d, (M.1 : Int), (M.2.1 : Int), (M.2.2 : Int), 0, 0)
      else pz ((l3 P).getD (chkD g l dg (x : Int) (s : Int) m d (M.1 : Int) (M.2.1 : Int) (M.2.2 : Int) - 6).toNat 0) (chkD g l dg (x : Int) (s : Int) m d (M.1 : Int) (M.2.1 : Int) (M.2.2 : Int))

def parseD (S : List UInt8) : PD := parseR S (readD S 0)

theorem sp_lt {A B : Nat × Nat × Nat} (h0 : A.1 < 4) (h1 : A.2.1 < 4) (h2 : A.2.2 < 4) (g0 : B.1 < 4) (g1 : B.2.1 < 4) (g2 : B.2.2 < 4) : (spM A B).1 < 4 ∧ (spM A B).2.1 < 4 ∧ (spM A B).2.2 < 4 := by
  have ol : ∀ x y : Nat, x < 4 → y < 4 → x ||| y < 4 := fun x y hx hy => (or4 hx hy).2
  exact ⟨ol _ _ (ol _ _ (ol _ _ h0 g0) g1) g2, ol _ _ (ol _ _ h1 g1) g2, ol _ _ h2 g2⟩

structure RdOK (S : List UInt8) (a : Nat) (dg m d : List UInt8) (M : Nat × Nat × Nat) (e : Nat) : Prop where
  dg17 : dg.length ≤ 17
  m2 : m.length ≤ 2
  d2 : d.length ≤ 2
  all : inM (comps m d) M
  le : a ≤ e
  end_ : e ≤ S.length

theorem readD_ok {S : List UInt8} {a : Nat} (h : a ≤ S.length) {g l : Bool} {dg : List UInt8} {x s : Nat} {m d : List UInt8} {M P : Nat × Nat × Nat} {e : Nat} (hr : readD S a = .inr (g, l, dg, x, s, m, d, M, P, e)) : RdOK S a dg m d M e := by
  have z4 : ∀ p, mkS (S.drop p) < 4 := fun p => mkS_lt _
  have z0 : 0 < 4 := by omega
  have b0 := mkE_le h
  have g0 : a ≤ mkE S a := Nat.le_add_right _ _
  have gE : ∀ p, p ≤ mkE S p := fun p => Nat.le_add_right _ _
  unfold readD at hr
  cases hy : readS (S.drop (mkE S a)) with
  | inl k => rw [hy] at hr; cases hr
  | inr y =>
    obtain ⟨g', l', dg', x', s', k⟩ := y
    obtain ⟨_, bk, _, _, hdg⟩ := read_back hy
    have bk : mkE S a + k ≤ S.length := by
      rw [List.length_drop] at bk
      omega
    have b1 := mkE_le bk
    rw [hy] at hr
    simp only [] at hr
    by_cases hc : 0 < s' ∨ takes 45 (S.drop (mkE S (mkE S a + k))) = 0
    · rw [if_pos hc] at hr
      cases hr
      have := sp_lt (A := (mkS (S.drop a), 0, 0)) (B := (mkS (S.drop (mkE S a + k)), 0, 0)) (z4 _) z0 z0 (z4 _) z0 z0
      refine ⟨hdg, by simp, by simp, ⟨this.1, this.2.1, this.2.2, fun _ => by simp [spM], fun _ => by simp [spM]⟩, ?_, b1⟩
      have := gE (mkE S a + k)
      omega
    · rw [if_neg hc] at hr
      have bt1 := take1_le (fun z => hc (.inr z))
      have bc := mkE_le bt1
      unfold rd2 at hr
      by_cases h2 : twoN (S.drop (mkE S (mkE S (mkE S a + k) + 1))) < 2
      · rw [if_pos h2] at hr; cases hr
      · rw [if_neg h2] at hr
        have b2 := two_le h2
        have b3 := mkE_le b2
        have hml : (List.take 2 (S.drop (mkE S (mkE S (mkE S a + k) + 1)))).length = 2 := by rw [List.length_take, List.length_drop]; omega
        have g1 := gE (mkE S a + k)
        have g2 := gE (mkE S (mkE S a + k) + 1)
        have g3 := gE (mkE S (mkE S (mkE S a + k) + 1) + 2)
        by_cases ht2 : takes 45 (S.drop (mkE S (mkE S (mkE S (mkE S a + k) + 1) + 2))) = 0
        · rw [if_pos ht2] at hr
          cases hr
          have := sp_lt (A := (mkS (S.drop a), mkS (S.drop (mkE S (mkE S a + k) + 1)), 0)) (B := (mkS (S.drop (mkE S a + k)), mkS (S.drop (mkE S (mkE S (mkE S a + k) + 1) + 2)), 0)) (z4 _) (z4 _) z0 (z4 _) (z4 _) z0
          refine ⟨hdg, by omega, by simp, ⟨this.1, this.2.1, this.2.2, fun z => ?_, fun _ => by simp [spM]⟩, by omega, b3⟩
          rw [comps2 (ne_of_len2 hml)] at z
          omega
        · rw [if_neg ht2] at hr
          have bt2 := take1_le ht2
          have bc2 := mkE_le bt2
          unfold rd3 at hr
          by_cases h3 : twoN (S.drop (mkE S (mkE S (mkE S (mkE S (mkE S a + k) + 1) + 2) + 1))) < 2
          · rw [if_pos h3] at hr; cases hr
          · rw [if_neg h3] at hr
            have b4 := two_le h3
            have b5 := mkE_le b4
            have hdl : (List.take 2 (S.drop (mkE S (mkE S (mkE S (mkE S (mkE S a + k) + 1) + 2) + 1)))).length = 2 := by rw [List.length_take, List.length_drop]; omega
            cases hr
            have g4 := gE (mkE S (mkE S (mkE S (mkE S a + k) + 1) + 2) + 1)
            have g5 := gE (mkE S (mkE S (mkE S (mkE S (mkE S a + k) + 1) + 2) + 1) + 2)
            have := sp_lt (A := (mkS (S.drop a), mkS (S.drop (mkE S (mkE S a + k) + 1)), mkS (S.drop (mkE S (mkE S (mkE S (mkE S a + k) + 1) + 2) + 1)))) (B := (mkS (S.drop (mkE S a + k)), mkS (S.drop (mkE S (mkE S (mkE S a + k) + 1) + 2)), mkS (S.drop (mkE S (mkE S (mkE S (mkE S (mkE S a + k) + 1) + 2) + 1) + 2)))) (z4 _) (z4 _) (z4 _) (z4 _) (z4 _) (z4 _)
            refine ⟨hdg, by omega, by omega, ⟨this.1, this.2.1, this.2.2, fun z => ?_, fun z => ?_⟩, by omega, b5⟩
            · rw [comps3 (ne_of_len2 hml) (ne_of_len2 hdl)] at z
              omega
            · rw [comps3 (ne_of_len2 hml) (ne_of_len2 hdl)] at z
              omega

theorem chk_cases {g l : Bool} {dg : List UInt8} {x q : Int} {m d : List UInt8} {k0 k1 k2 : Int} (hk : allM k0 k1 k2 (comps m d) = 0) : chkD g l dg x q m d k0 k1 k2 = 0 ∨ chkD g l dg x q m d k0 k1 k2 = 6 ∨ chkD g l dg x q m d k0 k1 k2 = 7 ∨ chkD g l dg x q m d k0 k1 k2 = 8 := by
  unfold chkD
  rw [hk]
  generalize yrD g l dg x q m = b1
  generalize (!(m == []) && (!(decide (0 < sea m)) && !(agrees m 12))) = b2
  generalize (!(d == []) && ((m == []) || (decide (0 < sea m) || !(agrees d 31)))) = b3
  cases b1 <;> cases b2 <;> cases b3 <;> simp

theorem df_Parse (m : Nat) (S : List UInt8) (hS : S.length < 100000) (hn : S.length < m + 300) : dateforms_Parse (m + 300) S = some (parseD S) := by
  have hr := df_Read m S 0 (by omega) hS hn
  rw [show ((0 : Nat) : Int) = 0 from rfl] at hr
  unfold dateforms_Parse cursors_Run_dateforms_Parse_1 dateforms_Parse_1 parseD
  rw [hr]
  cases hd : readD S 0 with
  | inl k => rfl
  | inr r =>
    obtain ⟨g, l, dg, x, s, mm, d, M, P, e⟩ := r
    have hok := readD_ok (by omega) hd
    have hM := hok.all
    simp only [ob, dfOut, d4, d8, parseR, nat_dec_lt]
    by_cases he : e < S.length
    · rw [decide_eq_true he, if_pos he]
      rfl
    · rw [decide_eq_false he, if_neg he]
      simp only [cond_false, show ((0 : Int) == 0) = true from rfl, cond_true]
      have h2 := hok.m2
      have h17 := hok.dg17
      rw [df_Check (m + 300) (by omega) g l dg _ _ mm d _ _ _ (by omega) (by omega) (by omega) (by omega) (by omega)]
      simp only [ob]
      have hcs := chk_cases (g := g) (l := l) (dg := dg) (x := (x : Int)) (q := (s : Int)) (m := mm) (d := d) (k0 := (M.1 : Int)) (k1 := (M.2.1 : Int)) (k2 := (M.2.2 : Int)) (allM_of hM)
      rcases hcs with hc | hc | hc | hc <;> rw [hc] <;> rfl

theorem ref_Parse15 (m : Nat) (S : List UInt8) (hS : S.length < 100000) (hn : S.length < m + 300) : circaref15_Parse (m + 300) S = some (parseD S) := by
  obtain ⟨Q, hr⟩ := ref_Read15 m S 0 (by omega) hS hn
  rw [show ((0 : Nat) : Int) = 0 from rfl] at hr
  unfold circaref15_Parse parseD
  rw [hr]
  cases hd : readD S 0 with
  | inl k => rfl
  | inr r =>
    obtain ⟨g, l, dg, x, s, mm, d, M, P, e⟩ := r
    have hok := readD_ok (by omega) hd
    have hM := hok.all
    simp only [ob, rfOut, d4, d8, parseR, nat_dec_lt, show ((0 : Int) != 0) = false from rfl, cond_false]
    show cond (decide (((e : Nat) : Int) < ((S.length : Nat) : Int))) _ _ = _
    by_cases he : e < S.length
    · have hlt : decide (((e : Nat) : Int) < ((S.length : Nat) : Int)) = true := by simp; omega
      rw [hlt, if_pos he]
      rfl
    · have hlt : decide (((e : Nat) : Int) < ((S.length : Nat) : Int)) = false := by simp; omega
      rw [hlt, if_neg he]
      simp only [cond_false]
      have h17 := hok.dg17
      rw [ref_Check15 (m + 300) (by omega) g l dg _ _ mm d _ _ _ (by omega) (by omega) (by omega) (by omega)]
      simp only [ob]
      have hcs := chk_cases (g := g) (l := l) (dg := dg) (x := (x : Int)) (q := (s : Int)) (m := mm) (d := d) (k0 := (M.1 : Int)) (k1 := (M.2.1 : Int)) (k2 := (M.2.2 : Int)) (allM_of hM)
      rcases hcs with hc | hc | hc | hc <;> rw [hc] <;> rfl

theorem noHead_nil {p : UInt8 → Bool} : noHead p [] := fun c hc => by cases hc

theorem parse_textD {g l : Bool} {dg : List UInt8} {x q : Nat} {m d : List UInt8} {k0 k1 k2 : Nat} (hok : OkD g l dg x q m d k0 k1 k2) (h0 : chkD g l dg (x : Int) (q : Int) m d (k0 : Int) (k1 : Int) (k2 : Int) = 0) :
    parseD (textD g l dg (x : Int) (q : Int) m d k0 k1 k2) = (g, l, dg, (x : Int), (q : Int), m, d, (k0 : Int), (k1 : Int), (k2 : Int), 0, 0) := by
  obtain ⟨P, hr⟩ := read_textD hok (S := textD g l dg (x : Int) (q : Int) m d k0 k1 k2) (a := 0) (post := []) (by simp) noHead_nil noHead_nil noHead_nil
  unfold parseD
  rw [hr]
  simp only [parseR, Nat.zero_add, Nat.lt_irrefl, if_false, h0, if_true]

theorem df_lives (m : Nat) : circalaw15_lives (m + 300) = some true := by kernel_rfl

theorem dateformsParse_ok (m : Nat) (S : List UInt8) : circalaw15_DateformsParse (m + 300) S = some true := by
  unfold circalaw15_DateformsParse
  rw [df_lives, cond_dec]
  by_cases hl : ((S.length : Nat) : Int) > 60
  · rw [if_pos hl]; rfl
  rw [if_neg hl, df_Parse m S (by omega) (by omega), ref_Parse15 m S (by omega) (by omega)]
  simp only [ob, BEq.rfl, Bool.and_self, Bool.not_true, cond_false, bne_self_eq_false]
  have key : (d8 (parseD S)).2.2.2 ≠ 0 ∨ ∃ g l dg x q mm d k0 k1 k2, parseD S = (g, l, dg, ((x : Nat) : Int), ((q : Nat) : Int), mm, d, ((k0 : Nat) : Int), ((k1 : Nat) : Int), ((k2 : Nat) : Int), 0, 0) ∧ OkD g l dg x q mm d k0 k1 k2 ∧ chkD g l dg (x : Int) (q : Int) mm d (k0 : Int) (k1 : Int) (k2 : Int) = 0 := by
    unfold parseD
    cases hd : readD S 0 with
    | inl k => left; show (5 : Int) ≠ 0; omega
    | inr r =>
      obtain ⟨g, l, dg, x, s, mm, d, M, P, e⟩ := r
      simp only [parseR]
      by_cases he : e < S.length
      · rw [if_pos he]; left; show (5 : Int) ≠ 0; omega
      · rw [if_neg he]
        by_cases h0 : chkD g l dg (x : Int) (s : Int) mm d (M.1 : Int) (M.2.1 : Int) (M.2.2 : Int) = 0
        · rw [if_pos h0]
          obtain ⟨x', q', a, b, c, e1, e2, e3, e4, e5, hok⟩ := okD_of (by omega) (by omega) (by omega) h0
          obtain rfl : x = x' := by omega
          obtain rfl : s = q' := by omega
          obtain rfl : M.1 = a := by omega
          obtain rfl : M.2.1 = b := by omega
          obtain rfl : M.2.2 = c := by omega
          exact .inr ⟨g, l, dg, x, s, mm, d, M.1, M.2.1, M.2.2, rfl, hok, h0⟩
        · rw [if_neg h0]
          left
          exact h0
  rcases key with hne | ⟨g, l, dg, x, q, mm, d, k0, k1, k2, hp, hok, h0⟩
  · have : ((d8 (parseD S)).2.2.2 != 0) = true := by simp [hne]
    rw [this]
    rfl
  · rw [hp]
    have hml : mm.length ≤ 18 := by
      rcases hok.mon with h | h
      · rw [h]; simp
      · omega
    have hdl := hok.dg17
    have htl := textD_len hok
    simp only [d4, d8, bne_self_eq_false, cond_false]
    rw [df_Text m g l dg x q mm d k0 k1 k2 hml (by omega), if_pos h0]
    simp only [ob]
    rw [df_Parse m _ (by omega) (by omega), parse_textD hok h0, df_Check (m + 300) (by omega) g l dg _ _ mm d _ _ _ hml (by omega) (by omega) (by omega) (by omega), h0, ref_Text15 m hok]
    simp only [ob, BEq.rfl, cond_true, Bool.and_self, d4, d8]

def monT (j : Nat) : List UInt8 := if j = 0 then [] else if j ≤ 12 then two j else if j ≤ 33 then two (j + 8) else ([[48, 88], [49, 88], [88, 50], [88, 88], [88, 48], [88, 57]] : List (List UInt8)).getD (j - 34) []

def mostT (m : List UInt8) : Nat := if m = [48, 50] then 28 else if m = [48, 52] ∨ m = [48, 54] ∨ m = [48, 57] ∨ m = [49, 49] ∨ m = [88, 57] then 30 else 31

def dayT (j : Nat) (m : List UInt8) : List UInt8 := if j = 0 then [] else if j ≤ 31 then two (min j (mostT m)) else if m = [48, 50] ∧ j = 35 then [50, 88] else ([[48, 88], [49, 88], [50, 88], [51, 88], [88, 48], [88, 49], [88, 88], [88, 56]] : List (List UInt8)).getD (j - 32) []

theorem r40 {p : Nat → Bool} (h : (List.range 40).all p = true) {a : Nat} (ha : a < 40) : p a = true := (List.all_eq_true.1 h) a (List.mem_range.2 ha)

noncomputable def chkMon (m : Nat) (a0 : Int) (a1 : Bool) (a2 a3 a4 a6 a7 a8 a9 : Int) (j : Nat) : Bool := circalaw15_D_month (m + 300) a0 a1 a2 a3 a4 (j : Int) a6 a7 a8 a9 == some (monT j)

theorem chkMon_ok (m : Nat) (a0 : Int) (a1 : Bool) (a2 a3 a4 a6 a7 a8 a9 : Int) : ((List.range 40).all fun j => chkMon m a0 a1 a2 a3 a4 a6 a7 a8 a9 j) = true := by kernel_rfl

theorem mod40 (a : Nat) (h : a < 256) : IntKind.wrap .i64 (Int.tmod (a : Int) 40) = ((a % 40 : Nat) : Int) := by
  have : Int.tmod (a : Int) 40 = ((a % 40 : Nat) : Int) := rfl
  rw [this, wrap_i64 _ (by omega) (by omega)]

theorem mod40' (j : Nat) (h : j < 40) : IntKind.wrap .i64 (Int.tmod (j : Int) 40) = ((j : Nat) : Int) := by
  rw [mod40 j (by omega)]
  have : j % 40 = j := by omega
  rw [this]

theorem D_month_eq (m : Nat) (a0 : Int) (a1 : Bool) (a2 a3 a4 : Int) (a5 : Nat) (a6 a7 a8 a9 : Int) (h : a5 < 256) : circalaw15_D_month (m + 300) a0 a1 a2 a3 a4 (a5 : Int) a6 a7 a8 a9 = some (monT (a5 % 40)) := by
  have hj : a5 % 40 < 40 := by omega
  have h1 := r40 (chkMon_ok m a0 a1 a2 a3 a4 a6 a7 a8 a9) hj
  unfold chkMon at h1
  have h1 := beq_iff_eq.1 h1
  unfold circalaw15_D_month at h1 ⊢
  rw [mod40' _ hj] at h1
  rw [mod40 _ h]
  exact h1

theorem monT_ok {j : Nat} (h : j < 40) : monT j = [] ∨ 0 < sea (monT j) ∨ (sea (monT j) = 0 ∧ agrees (monT j) 12 = true) := by
  have : ((List.range 40).all fun j => decide (monT j = []) || (decide (0 < sea (monT j)) || (decide (sea (monT j) = 0) && agrees (monT j) 12))) = true := by decide +kernel
  have := r40 this h
  simpa using this

theorem monT_list {j : Nat} (h : j < 40) (hs : sea (monT j) = 0) (h0 : monT j ≠ []) : monT j ∈ ((List.range 12).map fun i => two (i + 1)) ++ [[48, 88], [49, 88], [88, 50], [88, 88], [88, 48], [88, 57]] := by
  have : ((List.range 40).all fun j => !decide (sea (monT j) = 0) || (decide (monT j = []) || decide (monT j ∈ ((List.range 12).map fun i => two (i + 1)) ++ [[48, 88], [49, 88], [88, 50], [88, 88], [88, 48], [88, 57]]))) = true := by decide +kernel
  have := r40 this h
  rw [decide_eq_true hs, decide_eq_false h0] at this
  simpa using this

noncomputable def chkDay (m : Nat) (a0 : Int) (a1 : Bool) (a2 a3 a4 a5 a7 a8 a9 : Int) (mo : List UInt8) (j : Nat) : Bool := circalaw15_D_day (m + 300) a0 a1 a2 a3 a4 a5 (j : Int) a7 a8 a9 mo == some (dayT j mo)

theorem chkDay_ok (m : Nat) (a0 : Int) (a1 : Bool) (a2 a3 a4 a5 a7 a8 a9 : Int) : ((((List.range 12).map fun i => two (i + 1)) ++ [[48, 88], [49, 88], [88, 50], [88, 88], [88, 48], [88, 57]]).all fun mo => (List.range 40).all fun j => chkDay m a0 a1 a2 a3 a4 a5 a7 a8 a9 mo j) = true := by kernel_rfl

theorem D_day_eq (m : Nat) (a0 : Int) (a1 : Bool) (a2 a3 a4 a5 : Int) (a6 : Nat) (a7 a8 a9 : Int) (mo : List UInt8) (hm : mo ∈ ((List.range 12).map fun i => two (i + 1)) ++ [[48, 88], [49, 88], [88, 50], [88, 88], [88, 48], [88, 57]]) (h : a6 < 256) : circalaw15_D_day (m + 300) a0 a1 a2 a3 a4 a5 (a6 : Int) a7 a8 a9 mo = some (dayT (a6 % 40) mo) := by
  have hj : a6 % 40 < 40 := by omega
  have h1 := r40 ((List.all_eq_true.1 (chkDay_ok m a0 a1 a2 a3 a4 a5 a7 a8 a9)) mo hm) hj
  unfold chkDay at h1
  have h1 := beq_iff_eq.1 h1
  unfold circalaw15_D_day at h1 ⊢
  rw [mod40' _ hj] at h1
  rw [mod40 _ h]
  exact h1

theorem dayT_ok {j : Nat} (h : j < 40) {mo : List UInt8} (hm : mo ∈ ((List.range 12).map fun i => two (i + 1)) ++ [[48, 88], [49, 88], [88, 50], [88, 88], [88, 48], [88, 57]]) : dayT j mo = [] ∨ agrees (dayT j mo) 31 = true := by
  have : ((((List.range 12).map fun i => two (i + 1)) ++ [[48, 88], [49, 88], [88, 50], [88, 88], [88, 48], [88, 57]]).all fun mo => (List.range 40).all fun j => decide (dayT j mo = []) || agrees (dayT j mo) 31) = true := by decide +kernel
  have := r40 ((List.all_eq_true.1 this) mo hm) h
  simpa using this

def mksT (k a b c : Nat) : Nat × Nat × Nat := (a % 4, if 1 < k then b % 4 else 0, if 2 < k then c % 4 else 0)

theorem mks_all (k a b c : Nat) : allM ((mksT k a b c).1 : Int) ((mksT k a b c).2.1 : Int) ((mksT k a b c).2.2 : Int) k = 0 := by
  apply allM_of
  refine ⟨by simp only [mksT]; omega, ?_, ?_, ?_, ?_⟩
  · simp only [mksT]; split <;> omega
  · simp only [mksT]; split <;> omega
  · intro h; simp only [mksT]; rw [if_neg (by omega)]
  · intro h; simp only [mksT]; rw [if_neg (by omega)]

theorem not_last {g l : Bool} {d : List UInt8} {x s : Int} (h : okY g l d x s) (h5 : d.length ≤ 5) (h11 : x ≤ 11) : lastY g d x = false := by
  unfold lastY
  cases hX : hasX d with
  | true => rfl
  | false =>
    obtain ⟨k, q, rfl, rfl, hN⟩ := ok_num h hX
    have h1 := dval_lt d 0 0 hN.dig (by decide)
    rw [Nat.add_zero] at h1
    have h2 : dval 0 d < 10 ^ 5 := Nat.lt_of_lt_of_le h1 (Nat.pow_le_pow_right (by omega) h5)
    have h3 : 10 ^ k ≤ 10 ^ 11 := Nat.pow_le_pow_right (by omega) (by omega)
    have h4 : val d k ≠ E16 := by
      unfold val E16
      have : dval 0 d * 10 ^ k ≤ 99999 * 10 ^ 11 := Nat.mul_le_mul (by omega) h3
      omega
    rw [Int.toNat_natCast, decide_eq_false h4]
    simp

theorem chk_of {g l : Bool} {dg : List UInt8} {x q : Int} {m d : List UInt8} {k0 k1 k2 : Int} (h : okY g l dg x q) (hl : lastY g dg x = false) (hq : 0 < q → m = []) (hm : m = [] ∨ 0 < sea m ∨ (sea m = 0 ∧ agrees m 12 = true)) (hd : d = [] ∨ (m ≠ [] ∧ sea m = 0 ∧ agrees d 31 = true)) (hk : allM k0 k1 k2 (comps m d) = 0) : chkD g l dg x q m d k0 k1 k2 = 0 := by
  have hy : yrD g l dg x q m = true := by
    unfold yrD yrB
    rw [if_pos h, hl]
    by_cases h0 : 0 < q
    · rw [hq h0]; simp
    · simp [h0]
  unfold chkD
  rw [hy, hk]
  have c1 : (!(m == []) && (!(decide (0 < sea m)) && !(agrees m 12))) = false := by
    rcases hm with h | h | ⟨_, h⟩
    · rw [h]; rfl
    · rw [decide_eq_true h]; simp
    · rw [h]; simp
  have c2 : (!(d == []) && ((m == []) || (decide (0 < sea m) || !(agrees d 31)))) = false := by
    rcases hd with h | ⟨h1, h2, h3⟩
    · rw [h]; rfl
    · rw [beq_eq_false_iff_ne.2 h1, h2, h3]; simp
  rw [c1, c2]
  rfl

theorem D_of (m : Nat) (a0 a2 a3 a4 a5 a6 a7 a8 a9 : Nat) (g : Bool) (h2 : a2 < 65536) (h3 : a3 < 256) (h4 : a4 < 256) (h5 : a5 < 256) (h6 : a6 < 256) (h7 : a7 < 256) (h8 : a8 < 256) (h9 : a9 < 256) :
    ∃ g' l dg x q mo d k0 k1 k2, circalaw15_D_Of (m + 300) (a0 : Int) g (a2 : Int) (a3 : Int) (a4 : Int) (a5 : Int) (a6 : Int) (a7 : Int) (a8 : Int) (a9 : Int) = some (g', l, dg, ((x : Nat) : Int), ((q : Nat) : Int), mo, d, ((k0 : Nat) : Int), ((k1 : Nat) : Int), ((k2 : Nat) : Int)) ∧ chkD g' l dg (x : Int) (q : Int) mo d (k0 : Int) (k1 : Int) (k2 : Int) = 0 ∧ OkD g' l dg x q mo d k0 k1 k2 := by
  obtain ⟨g', l, dg, x, q, e, hY, hd5, hx11⟩ := of_ok5 m a0 a2 a3 a4 g h2 h3 h4
  have hL := not_last hY hd5 hx11
  obtain ⟨s1, s2, s3, s4, s5, s6⟩ := ok_small hY
  suffices H : ∃ mo d, circalaw15_D_Of (m + 300) (a0 : Int) g (a2 : Int) (a3 : Int) (a4 : Int) (a5 : Int) (a6 : Int) (a7 : Int) (a8 : Int) (a9 : Int) = some (g', l, dg, x, q, mo, d, ((mksT (comps mo d) a7 a8 a9).1 : Int), ((mksT (comps mo d) a7 a8 a9).2.1 : Int), ((mksT (comps mo d) a7 a8 a9).2.2 : Int)) ∧ chkD g' l dg x q mo d ((mksT (comps mo d) a7 a8 a9).1 : Int) ((mksT (comps mo d) a7 a8 a9).2.1 : Int) ((mksT (comps mo d) a7 a8 a9).2.2 : Int) = 0 by
    obtain ⟨mo, d, h1, h2⟩ := H
    obtain ⟨x', q', a, b, c, e1, e2, e3, e4, e5, hok⟩ := okD_of (by omega) (by omega) (by omega) h2
    subst e1 e2
    refine ⟨g', l, dg, x', q', mo, d, a, b, c, ?_, ?_, hok⟩
    · rw [h1, e3, e4, e5]
    · rw [← e3, ← e4, ← e5]; exact h2
  have t7 : Int.tmod (a7 : Int) 4 = ((a7 % 4 : Nat) : Int) := rfl
  have t8 : Int.tmod (a8 : Int) 4 = ((a8 % 4 : Nat) : Int) := rfl
  have t9 : Int.tmod (a9 : Int) 4 = ((a9 % 4 : Nat) : Int) := rfl
  have tail : ∀ (mo d : List UInt8) (o : Option (Bool × Bool × List UInt8 × Int × Int × List UInt8 × List UInt8 × Int × Int × Int)),
      (ob (circaref15_Components (m + 300) g' l dg x q mo d 0 0 0) fun r => (cond (decide ((0 : Int) < r)) (ob (circaref15_Components (m + 300) g' l dg x q mo d (Int.tmod (a7 : Int) 4) 0 0) fun r => (cond (decide ((1 : Int) < r)) (ob (circaref15_Components (m + 300) g' l dg x q mo d (Int.tmod (a7 : Int) 4) (Int.tmod (a8 : Int) 4) 0) fun r => (cond (decide ((2 : Int) < r)) (ob (circaref15_Components (m + 300) g' l dg x q mo d (Int.tmod (a7 : Int) 4) (Int.tmod (a8 : Int) 4) (Int.tmod (a9 : Int) 4)) fun r => (cond (decide ((3 : Int) < r)) none (some (g', l, dg, x, q, mo, d, (Int.tmod (a7 : Int) 4), (Int.tmod (a8 : Int) 4), (Int.tmod (a9 : Int) 4))))) (some (g', l, dg, x, q, mo, d, (Int.tmod (a7 : Int) 4), (Int.tmod (a8 : Int) 4), 0)))) (some (g', l, dg, x, q, mo, d, (Int.tmod (a7 : Int) 4), 0, 0)))) (some (g', l, dg, x, q, mo, d, 0, 0, 0)))) = some (g', l, dg, x, q, mo, d, ((mksT (comps mo d) a7 a8 a9).1 : Int), ((mksT (comps mo d) a7 a8 a9).2.1 : Int), ((mksT (comps mo d) a7 a8 a9).2.2 : Int)) := by
    intro mo d _
    have hc := comps_pos mo d
    have : comps mo d = 1 ∨ comps mo d = 2 ∨ comps mo d = 3 := by omega
    rw [ref_Components, ref_Components, ref_Components, ref_Components]
    rcases this with h | h | h <;> rw [h] <;> rfl
  unfold circalaw15_D_Of
  rw [e]
  simp only [ob, d4]
  rw [cond_beq]
  by_cases hq : q = 0
  · rw [if_pos hq]
    rw [D_month_eq m _ _ _ _ _ a5 _ _ _ _ h5]
    have h40 : a5 % 40 < 40 := by omega
    have hmo := monT_ok h40
    have hml := monT_list h40
    generalize monT (a5 % 40) = mo at hmo hml ⊢
    show ∃ mo_1 d, cond (!(mo == [])) _ _ = _ ∧ _
    by_cases hm0 : mo = []
    · subst hm0
      refine ⟨[], [], tail [] [] none, ?_⟩
      exact chk_of hY hL (fun _ => rfl) (.inl rfl) (.inl rfl) (mks_all _ _ _ _)
    · rw [beq_eq_false_iff_ne.2 hm0]
      show ∃ mo_1 d, ob (circaref15_Season (m + 300) g' l dg x q mo [] 0 0 0) _ = _ ∧ _
      rw [ref_Season (m + 300) (by omega)]
      show ∃ mo_1 d, cond (sea mo == 0) _ _ = _ ∧ _
      rw [cond_beq]
      by_cases hs : sea mo = 0
      · rw [if_pos hs]
        have hin := hml hs hm0
        rw [D_day_eq m _ _ _ _ _ _ a6 _ _ _ mo hin h6]
        have hd := dayT_ok (show a6 % 40 < 40 by omega) hin
        generalize dayT (a6 % 40) mo = d at hd ⊢
        refine ⟨mo, d, tail mo d none, ?_⟩
        refine chk_of hY hL (fun z => by omega) hmo ?_ (mks_all _ _ _ _)
        rcases hd with hd | hd
        · exact .inl hd
        · exact .inr ⟨hm0, hs, hd⟩
      · rw [if_neg hs]
        refine ⟨mo, [], tail mo [] none, ?_⟩
        exact chk_of hY hL (fun z => by omega) hmo (.inl rfl) (mks_all _ _ _ _)
  · rw [if_neg hq]
    refine ⟨[], [], tail [] [] none, ?_⟩
    exact chk_of hY hL (fun _ => rfl) (.inl rfl) (.inl rfl) (mks_all _ _ _ _)

theorem ref_Prec (n : Nat) (hn : 100 < n) (g l : Bool) (dg : List UInt8) (x q : Int) (m d : List UInt8) (k0 k1 k2 : Int) : circaref15_Precision n g l dg x q m d k0 k1 k2 = some (if d = [] then (if 0 < sea m then 0 else if m = [] then 1 else 2) else 3) := by
  unfold circaref15_Precision
  rw [ref_Season n hn]
  by_cases hd : d = []
  · rw [if_pos hd, hd]
    show cond (decide (sea m > 0)) _ _ = _
    rw [cond_dec]
    by_cases hs : 0 < sea m
    · rw [if_pos hs, if_pos hs]
    · rw [if_neg hs, if_neg hs]
      by_cases hm : m = []
      · rw [if_pos hm, hm]; rfl
      · rw [if_neg hm, beq_eq_false_iff_ne.2 hm]; rfl
  · rw [if_neg hd, beq_eq_false_iff_ne.2 hd]; rfl

theorem df_Prec (n : Nat) (g l : Bool) (dg : List UInt8) (x q : Int) (m d : List UInt8) (k0 k1 k2 : Int) (hm : m.length ≤ 18) : dateforms_Precision n g l dg x q m d k0 k1 k2 = some (if d = [] then (if 0 < sea m then 0 else if m = [] then 1 else 2) else 3) := by
  unfold dateforms_Precision
  rw [df_Season n g l dg x q m d k0 k1 k2 hm]
  by_cases hd : d = []
  · rw [if_pos hd, hd]
    show cond (decide (0 < sea m)) _ _ = _
    rw [cond_dec]
    by_cases hs : 0 < sea m
    · rw [if_pos hs, if_pos hs]
    · rw [if_neg hs, if_neg hs]
      by_cases hm : m = []
      · rw [if_pos hm, hm]; rfl
      · rw [if_neg hm, beq_eq_false_iff_ne.2 hm]; rfl
  · rw [if_neg hd, beq_eq_false_iff_ne.2 hd]; rfl

theorem dateformsText_ok (m : Nat) (a0 a2 a3 a4 a5 a6 a7 a8 a9 : Nat) (g : Bool) (h2 : a2 < 65536) (h3 : a3 < 256) (h4 : a4 < 256) (h5 : a5 < 256) (h6 : a6 < 256) (h7 : a7 < 256) (h8 : a8 < 256) (h9 : a9 < 256) :
    circalaw15_DateformsText (m + 300) (a0 : Int) g (a2 : Int) (a3 : Int) (a4 : Int) (a5 : Int) (a6 : Int) (a7 : Int) (a8 : Int) (a9 : Int) = some true := by
  obtain ⟨g', l, dg, x, q, mo, d, k0, k1, k2, e, hc, hok⟩ := D_of m a0 a2 a3 a4 a5 a6 a7 a8 a9 g h2 h3 h4 h5 h6 h7 h8 h9
  have hml : mo.length ≤ 18 := by
    rcases hok.mon with h | h
    · rw [h]; simp
    · omega
  have hdl := hok.dg17
  have htl := textD_len hok
  unfold circalaw15_DateformsText
  rw [e, df_lives]
  simp only [ob, d4, d8]
  rw [df_Text m g' l dg x q mo d k0 k1 k2 hml (by omega), if_pos hc]
  simp only [ob]
  rw [df_Parse m _ (by omega) (by omega), parse_textD hok hc, df_Season _ _ _ _ _ _ _ _ _ _ _ hml, ref_Season _ (by omega), ref_Text15 m hok, df_Components _ (by omega), ref_Components, df_Prec _ _ _ _ _ _ _ _ _ _ _ hml, ref_Prec _ (by omega)]
  simp only [ob, BEq.rfl, cond_true, Bool.and_self, d4, d8]

theorem df_TextI (n : Nat) (g l : Bool) (dg : List UInt8) (x q : Int) (m d : List UInt8) (k0 k1 k2 : Int) (hm : m.length ≤ 18) (hd : dg.length ≤ 100) (h0 : 0 ≤ k0) (h1 : 0 ≤ k1) (h2 : 0 ≤ k2) :
    dateforms_Text (n + 300) g l dg x q m d k0 k1 k2 = some (if chkD g l dg x q m d k0 k1 k2 = 0 then (textD g l dg x q m d k0.toNat k1.toNat k2.toNat, 0) else ([], chkD g l dg x q m d k0 k1 k2)) := by
  by_cases hc : chkD g l dg x q m d k0 k1 k2 = 0
  · obtain ⟨x', q', a, b, c, e1, e2, e3, e4, e5, hok⟩ := okD_of h0 h1 h2 hc
    subst e1 e2 e3 e4 e5
    exact df_Text n g l dg x' q' m d a b c hm hd
  · rw [if_neg hc]
    unfold dateforms_Text
    rw [df_Check (n + 300) (by omega) g l dg _ _ m d _ _ _ hm hd h0 h1 h2]
    show cond (chkD g l dg x q m d k0 k1 k2 != 0) _ _ = _
    rw [cond_bne, if_neg hc]

theorem ref_TextI (n : Nat) {g l : Bool} {dg : List UInt8} {x q : Int} {m d : List UInt8} {k0 k1 k2 : Int} (h0 : 0 ≤ k0) (h1 : 0 ≤ k1) (h2 : 0 ≤ k2) (hc : chkD g l dg x q m d k0 k1 k2 = 0) :
    circaref15_Text (n + 300) g l dg x q m d k0 k1 k2 = some (textD g l dg x q m d k0.toNat k1.toNat k2.toNat) := by
  obtain ⟨x', q', a, b, c, e1, e2, e3, e4, e5, hok⟩ := okD_of h0 h1 h2 hc
  subst e1 e2 e3 e4 e5
  exact ref_Text15 n hok

theorem hasX_app (a b : List UInt8) : hasX (a ++ b) = (hasX a || hasX b) := by unfold hasX; rw [List.any_append]

theorem df_Masked (n : Nat) (g l : Bool) (dg : List UInt8) (x q : Int) (m d : List UInt8) (k0 k1 k2 : Int) (hm : m.length ≤ 1000) (hd : dg.length ≤ 1000) (h : d.length ≤ 1000) :
    dateforms_Masked n g l dg x q m d k0 k1 k2 = some (hasX dg || (hasX m || hasX d)) := by
  unfold dateforms_Masked
  rw [cat_ok (by omega)]
  simp only [ob]
  rw [cat_ok (by simp only [List.length_append]; omega)]
  simp only [ob]
  rw [containsX, hasX_app, hasX_app, Bool.or_assoc]

theorem ck_inner (n : Nat) (c : Int) (is xb : Bool) (i : Nat) (g l : Bool) (dg : List UInt8) (x q : Int) (m d : List UInt8) (k0 k1 k2 : Int) (L : List (List UInt8)) (w : List UInt8) (hw : L[i]? = some w) (hl : w.length ≤ 100) (hn : 200 < n) :
    iterL (circalaw15_DateformsCheck_l1 n) n (c, is, xb, (i : Int), 0, g, l, dg, x, q, m, d, k0, k1, k2, L) = some (c, is, (xb || hasX w), (i : Int), g, l, dg, x, q, m, d, k0, k1, k2, L) := by
  have hi : i < L.length := lt_of_get hw
  refine iterL_inv (step := circalaw15_DateformsCheck_l1 n) (fun s => ∃ j : Nat, j ≤ w.length ∧ s = (c, is, (xb || hasX (w.take j)), (i : Int), (j : Int), g, l, dg, x, q, m, d, k0, k1, k2, L)) (fun s => w.length - s.2.2.2.2.1.toNat) (fun _ => (c, is, (xb || hasX w), (i : Int), g, l, dg, x, q, m, d, k0, k1, k2, L)) ?_ n _ ⟨0, by omega, by simp [hasX]⟩ (by simp; omega)
  rintro s ⟨j, hj, rfl⟩
  unfold circalaw15_DateformsCheck_l1
  show (∃ s', ob (ix L.length (i : Int)) _ = _ ∧ _) ∨ ob (ix L.length (i : Int)) _ = _
  rw [ix_nat hi]
  show (∃ s', ob (L[i]?) _ = _ ∧ _) ∨ ob (L[i]?) _ = _
  rw [hw]
  show (∃ s', cond (decide ((j : Int) < ((w.length : Nat) : Int))) _ _ = _ ∧ _) ∨ cond (decide ((j : Int) < ((w.length : Nat) : Int))) _ _ = _
  rw [nat_dec_lt]
  by_cases hlt : j < w.length
  · rw [decide_eq_true hlt]
    obtain ⟨b, hb⟩ : ∃ b, w[j]? = some b := ⟨w[j], List.getElem?_eq_getElem hlt⟩
    have w1 : IntKind.wrap .i64 ((j : Int) + 1) = ((j + 1 : Nat) : Int) := by rw [wrap_i64 _ (by omega) (by omega)]; omega
    have hX : hasX (w.take (j + 1)) = (hasX (w.take j) || b == 88) := by
      rw [take1 hb, hasX_app]
      congr 1
      simp [hasX]
    left
    refine ⟨(c, is, (xb || hasX (w.take (j + 1))), (i : Int), ((j + 1 : Nat) : Int), g, l, dg, x, q, m, d, k0, k1, k2, L), ?_, ⟨j + 1, hlt, rfl⟩, by simp only [Int.toNat_natCast]; omega, rfl⟩
    rw [hX]
    cases hxb : (xb || hasX (w.take j)) with
    | true =>
      have : (xb || (hasX (w.take j) || b == 88)) = true := by rw [← Bool.or_assoc, hxb]; rfl
      rw [this]
      show some (Sum.inl (c, is, true, (i : Int), IntKind.wrap .i64 ((j : Int) + 1), g, l, dg, x, q, m, d, k0, k1, k2, L)) = _
      rw [w1]
    | false =>
      have : (xb || (hasX (w.take j) || b == 88)) = (b == 88) := by rw [← Bool.or_assoc, hxb]; rfl
      rw [this]
      show ob (ob (ix L.length (i : Int)) fun j1389 => ob (L[j1389]?) fun r => ob (sx r (j : Int)) fun cc => some (c, is, (((cc.toNat : Nat) : Int) == 88), (i : Int), (j : Int), g, l, dg, x, q, m, d, k0, k1, k2, L)) _ = _
      rw [ix_nat hi]
      simp only [ob, hw, sx_nat hb]
      have e88 : (((b.toNat : Nat) : Int) == 88) = (b == 88) := u8_beq b 88
      rw [e88]
      show some (Sum.inl (c, is, (b == 88), (i : Int), IntKind.wrap .i64 ((j : Int) + 1), g, l, dg, x, q, m, d, k0, k1, k2, L)) = _
      rw [w1]
  · right
    have : j = w.length := by omega
    subst this
    rw [decide_eq_false (by omega), List.take_length]
    rfl

theorem dateformsCheck_ok (n : Nat) (g l : Bool) (dg : List UInt8) (x q : Int) (m d : List UInt8) (k0 k1 k2 : Int) (h0 : 0 ≤ k0) (h1 : 0 ≤ k1) (h2 : 0 ≤ k2) :
    circalaw15_DateformsCheck (n + 300) g l dg x q m d k0 k1 k2 = some true := by
  have hj1 : circalaw15_DateformsCheck_j1 (n + 300) g l dg x q m d k0 k1 k2 = some (decide (dg.length > 30) || (decide (m.length > 10) || decide (d.length > 10)), g, l, dg, x, q, m, d, k0, k1, k2) := by
    unfold circalaw15_DateformsCheck_j1
    have e : ∀ L : List UInt8, ∀ k : Nat, decide (((L.length : Nat) : Int) > (k : Int)) = decide (L.length > k) := fun L k => by rw [decide_eq_decide]; omega
    have e1 := e dg 30
    have e2 := e m 10
    have e3 := e d 10
    rw [show ((30 : Nat) : Int) = 30 from rfl] at e1
    rw [show ((10 : Nat) : Int) = 10 from rfl] at e2 e3
    rw [e1, e2, e3]
    cases decide (dg.length > 30) <;> cases decide (m.length > 10) <;> rfl
  unfold circalaw15_DateformsCheck
  rw [hj1, df_lives]
  simp only [ob, d4, d8]
  by_cases hb : (decide (dg.length > 30) || (decide (m.length > 10) || decide (d.length > 10))) = true
  · rw [hb]; rfl
  · simp only [Bool.or_eq_true, decide_eq_true_eq, not_or] at hb
    have hbf : (decide (dg.length > 30) || (decide (m.length > 10) || decide (d.length > 10))) = false := by simp; omega
    rw [hbf, cond_false, ref_Check15 (n + 300) (by omega) g l dg x q m d k0 k1 k2 (by omega) h0 h1 h2, df_TextI n g l dg x q m d k0 k1 k2 (by omega) (by omega) h0 h1 h2]
    simp only [ob]
    have hj6 : ∃ T : List UInt8 × Int, (if chkD g l dg x q m d k0 k1 k2 = 0 then (textD g l dg x q m d k0.toNat k1.toNat k2.toNat, (0 : Int)) else ([], chkD g l dg x q m d k0 k1 k2)) = T ∧ circalaw15_DateformsCheck_j6 (n + 300) (chkD g l dg x q m d k0 k1 k2) T.1 T.2 g l dg x q m d k0 k1 k2 = some (false, g, l, dg, x, q, m, d, k0, k1, k2) := by
      refine ⟨_, rfl, ?_⟩
      unfold circalaw15_DateformsCheck_j6
      rw [df_Check (n + 300) (by omega) g l dg x q m d k0 k1 k2 (by omega) (by omega) h0 h1 h2]
      simp only [ob, bne_self_eq_false, cond_false]
      by_cases hc : chkD g l dg x q m d k0 k1 k2 = 0
      · rw [if_pos hc, hc, ref_TextI n h0 h1 h2 hc]
        simp
      · have hb1 : (chkD g l dg x q m d k0 k1 k2 != 0) = true := by simp [hc]
        have hb2 : (chkD g l dg x q m d k0 k1 k2 == 0) = false := by simp [hc]
        rw [if_neg hc]
        simp only [bne_self_eq_false, cond_false, hb1, hb2, cond_true]
        rfl
    obtain ⟨T, hT, hT6⟩ := hj6
    rw [hT, hT6]
    simp only []
    rw [cond_false, df_Season _ _ _ _ _ _ _ _ _ _ _ (by omega)]
    simp only []
    have inn := fun (xb : Bool) (i : Nat) (w : List UInt8) (hw : [dg, m, d][i]? = some w) (hl : w.length ≤ 100) => ck_inner (n + 300) (sea m) (decide (0 < sea m)) xb i g l dg x q m d k0 k1 k2 [dg, m, d] w hw hl (by omega)
    have s0 : ∀ (xb : Bool) (i : Nat) (w : List UInt8), [dg, m, d][i]? = some w → w.length ≤ 100 → i < 3 → circalaw15_DateformsCheck_l0 (n + 300) (sea m, decide (0 < sea m), xb, (i : Int), g, l, dg, x, q, m, d, k0, k1, k2, [dg, m, d]) = some (.inl (sea m, decide (0 < sea m), (xb || hasX w), ((i + 1 : Nat) : Int), g, l, dg, x, q, m, d, k0, k1, k2, [dg, m, d])) := by
      intro xb i w hw hl hi
      have w1 : IntKind.wrap .i64 ((i : Int) + 1) = ((i + 1 : Nat) : Int) := by rw [wrap_i64 _ (by omega) (by omega)]; omega
      unfold circalaw15_DateformsCheck_l0
      show cond (decide ((i : Int) < 3)) (ob (iterL (circalaw15_DateformsCheck_l1 (n + 300)) (n + 300) (sea m, decide (0 < sea m), xb, (i : Int), 0, g, l, dg, x, q, m, d, k0, k1, k2, [dg, m, d])) _) _ = _
      rw [decide_eq_true (by omega), inn xb i w hw hl]
      show some (Sum.inl (sea m, decide (0 < sea m), (xb || hasX w), IntKind.wrap .i64 ((i : Int) + 1), g, l, dg, x, q, m, d, k0, k1, k2, [dg, m, d])) = _
      rw [w1]
    have run : iterL (circalaw15_DateformsCheck_l0 (n + 300)) (n + 300) (sea m, decide (0 < sea m), false, 0, g, l, dg, x, q, m, d, k0, k1, k2, [dg, m, d]) = some (sea m, decide (0 < sea m), (false || hasX dg || hasX m || hasX d), g, l, dg, x, q, m, d, k0, k1, k2) := by
      show iterL _ (n + 299 + 1) (sea m, decide (0 < sea m), false, ((0 : Nat) : Int), g, l, dg, x, q, m, d, k0, k1, k2, [dg, m, d]) = _
      rw [iterL, s0 false 0 dg rfl (by omega) (by omega)]
      show iterL _ (n + 298 + 1) _ = _
      rw [iterL, s0 _ 1 m rfl (by omega) (by omega)]
      show iterL _ (n + 297 + 1) _ = _
      rw [iterL, s0 _ 2 d rfl (by omega) (by omega)]
      show iterL _ (n + 296 + 1) _ = _
      rw [iterL]
      rfl
    rw [run]
    simp only []
    unfold circalaw15_DateformsCheck_j25
    rw [ref_Season _ (by omega), df_Masked _ _ _ _ _ _ _ _ _ _ _ (by omega) (by omega) (by omega), df_Components _ (by omega), ref_Components, df_Prec _ _ _ _ _ _ _ _ _ _ _ (by omega), ref_Prec _ (by omega), df_lives]
    have eX : ((hasX dg || (hasX m || hasX d)) == (false || hasX dg || hasX m || hasX d)) = true := by
      rw [Bool.false_or, Bool.or_assoc]; simp
    have eS : (decide (0 < sea m) == decide (sea m > 0)) = true := beq_iff_eq.2 rfl
    simp only [ob, BEq.rfl, cond_true, eX, eS]

def DR.at (r : DR) : Nat := r.2.2.2.2.2.2.2.2.2

abbrev TDate := Bool × Bool × List UInt8 × Int × Int × List UInt8 × List UInt8 × Int × Int × Int

def DR.date (r : DR) : TDate := (r.1, r.2.1, r.2.2.1, (r.2.2.2.1 : Int), (r.2.2.2.2.1 : Int), r.2.2.2.2.2.1, r.2.2.2.2.2.2.1, (r.2.2.2.2.2.2.2.1.1 : Int), (r.2.2.2.2.2.2.2.1.2.1 : Int), (r.2.2.2.2.2.2.2.1.2.2 : Int))

def DR.pl (r : DR) : Int × Int × Int := ((r.2.2.2.2.2.2.2.2.1.1 : Int), (r.2.2.2.2.2.2.2.2.1.2.1 : Int), (r.2.2.2.2.2.2.2.2.1.2.2 : Int))

def DR.en (r : DR) : Int := (DR.at r : Int)

def rdAll : Nat → List UInt8 → Nat → List DR × (Nat ⊕ (Nat ⊕ Nat))
  | 0, S, p => ([], .inr (.inr p))
  | r + 1, S, p => match readD S p with
    | .inl k => ([], .inl k)
    | .inr R => if takes 44 (S.drop (DR.at R)) = 1 then (R :: (rdAll r S (DR.at R + 1)).1, (rdAll r S (DR.at R + 1)).2) else ([R], .inr (.inl (DR.at R)))

abbrev RdL := List TDate × List (Int × Int × Int) × List Int

def outL (D : RdL) (l : List DR) : RdL := (D.1 ++ l.map DR.date, D.2.1 ++ l.map DR.pl, D.2.2 ++ l.map DR.en)

theorem outL_cons (D : RdL) (R : DR) (l : List DR) : outL (outL D [R]) l = outL D (R :: l) := by simp [outL]

theorem outL_nil (D : RdL) : outL D [] = D := by simp [outL]

def rdRes (S : List UInt8) (D : RdL) : List DR × (Nat ⊕ (Nat ⊕ Nat)) → (Int × Int × List UInt8 × Int × List TDate × List (Int × Int × Int) × List Int) ⊕ (List UInt8 × Int × List TDate × List (Int × Int × Int) × List Int) ⊕ (List UInt8 × Int × List TDate × List (Int × Int × Int) × List Int)
  | (l, .inl k) => .inl ((k : Int), 5, S, (k : Int), outL D l)
  | (l, .inr (.inl e)) => .inr (.inl (S, (e : Int), outL D l))
  | (l, .inr (.inr e)) => .inr (.inr (S, (e : Int), outL D l))

theorem rd_step (m : Nat) (S : List UInt8) (hS : S.length < 100000) (hn : S.length < m + 300) (i p : Nat) (D : RdL) (hi : i < 20) (hp : p ≤ S.length) (h1 : D.1.length = i) (h2 : D.2.1.length = i) (h3 : D.2.2.length = i) :
    circalaw15_reader_read_l0 (m + 300) ((i : Int), S, (p : Int), D) = some (match readD S p with
      | .inl k => .inr (.inl ((k : Int), 5, S, (k : Int), D))
      | .inr R => if takes 44 (S.drop (DR.at R)) = 1 then .inl (((i + 1 : Nat) : Int), S, ((DR.at R + 1 : Nat) : Int), outL D [R]) else .inr (.inr (.inl (S, (DR.at R : Int), outL D [R])))) := by
  have bR : ∀ k : Nat, k ≤ 20 → Nat.ble (k + 1) mostRows = true := fun k hk => Nat.ble_eq_true_of_le (by unfold mostRows; omega)
  have w1 : IntKind.wrap .i64 ((i : Int) + 1) = ((i + 1 : Nat) : Int) := by rw [wrap_i64 _ (by omega) (by omega)]; omega
  unfold circalaw15_reader_read_l0
  simp only [d4]
  rw [decide_eq_true (show (i : Int) < 20 by omega), df_Read m S p hp hS hn]
  cases hd : readD S p with
  | inl k => rfl
  | inr R =>
    have hok := readD_ok hp (g := R.1) (l := R.2.1) (dg := R.2.2.1) (x := R.2.2.2.1) (s := R.2.2.2.2.1) (m := R.2.2.2.2.2.1) (d := R.2.2.2.2.2.2.1) (M := R.2.2.2.2.2.2.2.1) (P := R.2.2.2.2.2.2.2.2.1) (e := R.2.2.2.2.2.2.2.2.2) hd
    have he : DR.at R ≤ S.length := hok.end_
    obtain ⟨g, l, dg, x, s, mm, d, M, P, e⟩ := R
    obtain ⟨D1, D2, D3⟩ := D
    simp only at h1 h2 h3
    have he : e ≤ S.length := he
    have hat : DR.at (g, l, dg, x, s, mm, d, M, P, e) = e := rfl
    simp only [dfOut, ob, cond_true, d8, d4, h1, h2, h3]
    rw [bR i (by omega)]
    simp only [cond_true, ob, cur_At, hat]
    rw [cur_takes (m + 300) 44 S e he hS]
    simp only [ob, w1]
    rcases takes_cases 44 (S.drop e) with ht | ht
    · rw [ht, if_neg (by omega)]
      rfl
    · rw [ht, if_pos rfl]
      rfl

theorem rd_loop (m : Nat) (S : List UInt8) (hS : S.length < 100000) (hn : S.length < m + 300) : ∀ (r i p : Nat) (D : RdL), i + r = 20 → p ≤ S.length → D.1.length = i → D.2.1.length = i → D.2.2.length = i → ∀ N, r < N →
    iterL (circalaw15_reader_read_l0 (m + 300)) N ((i : Int), S, (p : Int), D) = some (rdRes S D (rdAll r S p)) := by
  intro r
  induction r with
  | zero =>
    intro i p D hi hp h1 h2 h3 N hN
    obtain ⟨N, rfl⟩ : ∃ k, N = k + 1 := ⟨N - 1, by omega⟩
    have s : circalaw15_reader_read_l0 (m + 300) ((i : Int), S, (p : Int), D) = some (.inr (.inr (.inr (S, (p : Int), D)))) := by
      unfold circalaw15_reader_read_l0
      show cond (decide ((i : Int) < 20)) _ _ = _
      rw [decide_eq_false (by omega)]
      rfl
    rw [iterL, s]
    show some (Sum.inr (Sum.inr (S, (p : Int), D))) = some (Sum.inr (Sum.inr (S, (p : Int), outL D [])))
    rw [outL_nil]
  | succ r ih =>
    intro i p D hi hp h1 h2 h3 N hN
    obtain ⟨N, rfl⟩ : ∃ k, N = k + 1 := ⟨N - 1, by omega⟩
    rw [iterL, rd_step m S hS hn i p D (by omega) hp h1 h2 h3]
    unfold rdAll
    cases hd : readD S p with
    | inl k =>
      show some (Sum.inl ((k : Int), 5, S, (k : Int), D)) = some (Sum.inl ((k : Int), 5, S, (k : Int), outL D []))
      rw [outL_nil]
    | inr R =>
      simp only []
      rcases takes_cases 44 (S.drop (DR.at R)) with ht | ht
      · rw [if_neg (by omega), if_neg (by omega)]
        rfl
      · have hlt : DR.at R + 1 ≤ S.length := by
          have := takes_le 44 (S.drop (DR.at R))
          rw [List.length_drop] at this
          omega
        rw [if_pos ht, if_pos ht]
        simp only []
        rw [ih (i + 1) (DR.at R + 1) _ (by omega) hlt (by simp [outL, h1]) (by simp [outL, h2]) (by simp [outL, h3]) N (by omega)]
        congr 1
        cases hq : rdAll r S (DR.at R + 1) with
        | mk t o =>
          rcases o with k | k | k
          · simp only [rdRes, outL_cons]
          · simp only [rdRes, outL_cons]
          · simp only [rdRes, outL_cons]

def runRes (S : List UInt8) : List DR × (Nat ⊕ (Nat ⊕ Nat)) → Int × Int
  | (_, .inl k) => ((k : Int), 5)
  | (_, .inr (.inl e)) => if e < S.length then ((e : Int), 5) else (0, 0)
  | (_, .inr (.inr e)) => if e < S.length then ((e : Int), 5) else (0, 0)

theorem run_v2 (m : Nat) (S : List UInt8) (hS : S.length < 100000) (hn : S.length < m + 300) :
    cursors_Run_circalaw15_reader_read (m + 300) S = some ((runRes S (rdAll 20 S 0)).1, (runRes S (rdAll 20 S 0)).2, outL ([], [], []) (rdAll 20 S 0).1) := by
  have h := rd_loop m S hS hn 20 0 0 ([], [], []) rfl (by omega) rfl rfl rfl (m + 300) (by omega)
  unfold cursors_Run_circalaw15_reader_read circalaw15_reader_read
  show ob (ob (iterL (circalaw15_reader_read_l0 (m + 300)) (m + 300) (((0 : Nat) : Int), S, ((0 : Nat) : Int), ([], [], []))) _) _ = _
  rw [h]
  cases rdAll 20 S 0 with
  | mk t o =>
    rcases o with k | k | k
    · rfl
    · show cond (decide ((k : Int) < ((S.length : Nat) : Int))) _ _ = _
      rw [nat_dec_lt, cond_dec]
      by_cases hk : k < S.length
      · rw [if_pos hk]
        simp only [runRes, if_pos hk]
      · rw [if_neg hk]
        simp only [runRes, if_neg hk]
    · show cond (decide ((k : Int) < ((S.length : Nat) : Int))) _ _ = _
      rw [nat_dec_lt, cond_dec]
      by_cases hk : k < S.length
      · rw [if_pos hk]
        simp only [runRes, if_pos hk]
      · rw [if_neg hk]
        simp only [runRes, if_neg hk]

theorem iter_done {X Y : Type} {step : X → Option (X ⊕ Y)} {x : X} {y : Y} {N : Nat} (h : step x = some (.inr y)) : iterL step (N + 1) x = some y := by rw [iterL, h]

theorem iter_next {X Y : Type} {step : X → Option (X ⊕ Y)} {x x' : X} {N : Nat} (h : step x = some (.inl x')) : iterL step (N + 1) x = iterL step N x' := by rw [iterL, h]

theorem law_loop (m : Nat) (S : List UInt8) (hS : S.length < 100000) (hn : S.length < m + 300) (A E : Int) (L : RdL) : ∀ (r i p : Nat) (D : RdL), i + r = 20 → p ≤ S.length → D.1.length = i → D.2.1.length = i → D.2.2.length = i → L = outL D (rdAll r S p).1 → (A, E) = runRes S (rdAll r S p) → ∀ N, r < N →
    iterL (circalaw15_DateformsRead_l0 (m + 300)) N (S, A, E, (p : Int), (i : Int), L) = some (.inl true) ∨ iterL (circalaw15_DateformsRead_l0 (m + 300)) N (S, A, E, (p : Int), (i : Int), L) = some (.inr ()) := by
  intro r
  induction r with
  | zero =>
    intro i p D hi hp h1 h2 h3 hL hA N hN
    obtain ⟨N, rfl⟩ : ∃ k, N = k + 1 := ⟨N - 1, by omega⟩
    have s : circalaw15_DateformsRead_l0 (m + 300) (S, A, E, (p : Int), (i : Int), L) = some (.inr (.inr ())) := by
      unfold circalaw15_DateformsRead_l0
      show cond (decide ((i : Int) < 20)) _ _ = _
      rw [decide_eq_false (by omega)]
      rfl
    rw [iterL, s]
    exact .inr rfl
  | succ r ih =>
    intro i p D hi hp h1 h2 h3 hL hA N hN
    obtain ⟨N, rfl⟩ : ∃ k, N = k + 1 := ⟨N - 1, by omega⟩
    obtain ⟨Q, hr⟩ := ref_Read15 m S p hp hS hn
    have w1 : IntKind.wrap .i64 ((i : Int) + 1) = ((i + 1 : Nat) : Int) := by rw [wrap_i64 _ (by omega) (by omega)]; omega
    unfold rdAll at hL hA
    cases hd : readD S p with
    | inl k =>
      rw [hd] at hL hA hr
      simp only [outL_nil, runRes, Prod.mk.injEq] at hL hA
      obtain ⟨rfl, rfl⟩ := hA
      subst hL
      refine .inl (iter_done ?_)
      unfold circalaw15_DateformsRead_l0
      simp only [d4]
      rw [decide_eq_true (show (i : Int) < 20 by omega), hr]
      simp only [rfOut, ob, d4, d8, cond_true, show ((5 : Int) != 0) = true from rfl, BEq.rfl, h1, df_lives]
    | inr R =>
      have hok := readD_ok hp (g := R.1) (l := R.2.1) (dg := R.2.2.1) (x := R.2.2.2.1) (s := R.2.2.2.2.1) (m := R.2.2.2.2.2.1) (d := R.2.2.2.2.2.2.1) (M := R.2.2.2.2.2.2.2.1) (P := R.2.2.2.2.2.2.2.2.1) (e := R.2.2.2.2.2.2.2.2.2) hd
      have he : DR.at R ≤ S.length := hok.end_
      rw [hd] at hL hA hr
      obtain ⟨t, ht⟩ : ∃ t, (match (Sum.inr R : Nat ⊕ DR) with
        | .inl k => (([] : List DR), (Sum.inl k : Nat ⊕ (Nat ⊕ Nat)))
        | .inr R => if takes 44 (S.drop (DR.at R)) = 1 then (R :: (rdAll r S (DR.at R + 1)).1, (rdAll r S (DR.at R + 1)).2) else ([R], .inr (.inl (DR.at R)))).1 = R :: t := by
        simp only []
        split
        · exact ⟨_, rfl⟩
        · exact ⟨_, rfl⟩
      have hL' : L = outL D (R :: t) := by rw [hL, ht]
      obtain ⟨g, l, dg, x, s, mm, d, M, P, e⟩ := R
      have he : e ≤ S.length := he
      obtain ⟨D1, D2, D3⟩ := D
      simp only at h1 h2 h3
      obtain ⟨L1, L2, L3⟩ := L
      simp only [outL, Prod.mk.injEq, List.map_cons] at hL'
      obtain ⟨q1, q2, q3⟩ := hL'
      have n1 : i < L1.length := by rw [q1]; simp [h1]
      have n2 : i < L2.length := by rw [q2]; simp [h2]
      have n3 : i < L3.length := by rw [q3]; simp [h3]
      have g1 : L1[i]? = some (g, l, dg, (x : Int), (s : Int), mm, d, (M.1 : Int), (M.2.1 : Int), (M.2.2 : Int)) := by rw [q1, ← h1]; simp [DR.date]
      have g2 : L2[i]? = some ((P.1 : Int), (P.2.1 : Int), (P.2.2 : Int)) := by rw [q2, ← h2]; simp [DR.pl]
      have g3 : L3[i]? = some (e : Int) := by rw [q3, ← h3]; simp [DR.en, DR.at]
      have f1 : decide (((L1.length : Nat) : Int) ≤ (i : Int)) = false := decide_eq_false (by omega)
      have f2 : decide (((L2.length : Nat) : Int) ≤ (i : Int)) = false := decide_eq_false (by omega)
      have f3 : decide (((L3.length : Nat) : Int) ≤ (i : Int)) = false := decide_eq_false (by omega)
      have hcore : circalaw15_DateformsRead_l0 (m + 300) (S, A, E, (p : Int), (i : Int), L1, L2, L3) =
          (cond (decide (S.length ≤ e)) (cond (((L1.length : Nat) : Int) != ((i + 1 : Nat) : Int)) (some (.inr (.inl false))) (cond (decide (e < S.length)) (cond (A == (e : Int)) (cond (E == 5) (some (.inr (.inl true))) (some (.inr (.inl false)))) (some (.inr (.inl false)))) (cond (A == 0) (cond (E == 0) (some (.inr (.inl true))) (some (.inr (.inl false)))) (some (.inr (.inl false))))))
            (ob (sx S (e : Int)) fun c => (cond (((c.toNat : Nat) : Int) != 44) (cond (((L1.length : Nat) : Int) != ((i + 1 : Nat) : Int)) (some (.inr (.inl false))) (cond (decide (e < S.length)) (cond (A == (e : Int)) (cond (E == 5) (some (.inr (.inl true))) (some (.inr (.inl false)))) (some (.inr (.inl false)))) (cond (A == 0) (cond (E == 0) (some (.inr (.inl true))) (some (.inr (.inl false)))) (some (.inr (.inl false)))))) (some (.inl (S, A, E, IntKind.wrap .i64 ((e : Int) + 1), ((i + 1 : Nat) : Int), L1, L2, L3)))))) := by
        unfold circalaw15_DateformsRead_l0
        simp only [d4]
        rw [decide_eq_true (show (i : Int) < 20 by omega), hr]
        simp only [rfOut, ob, d4, d8, cond_true, cond_false, show ((0 : Int) != 0) = false from rfl, f1, f2, f3, ix_nat n1, ix_nat n2, ix_nat n3, g1, g2, g3, BEq.rfl, Bool.and_self, Bool.not_true, l3, bne_self_eq_false, w1, df_lives]
        rw [← nat_dec_ge, ← nat_dec_lt]
        rfl
      have hlast : takes 44 (S.drop e) = 0 → ((L1.length : Nat) : Int) = ((i + 1 : Nat) : Int) ∧ (A, E) = (if e < S.length then ((e : Int), (5 : Int)) else (0, 0)) := by
        intro h0
        have hne : ¬ takes 44 (S.drop (DR.at (g, l, dg, x, s, mm, d, M, P, e))) = 1 := by
          show ¬ takes 44 (S.drop e) = 1
          omega
        simp only [if_neg hne] at hL hA ht
        simp only [List.cons.injEq, true_and] at ht
        refine ⟨?_, hA⟩
        rw [q1, ← ht]
        simp [h1]
      rcases Nat.lt_or_ge e S.length with hlt | hge
      · obtain ⟨c, hc⟩ : ∃ c, S[e]? = some c := ⟨S[e], List.getElem?_eq_getElem hlt⟩
        have hdr := drop_get hc
        have e44 : (((c.toNat : Nat) : Int) != 44) = !(c == 44) := by rw [bne]; congr 1; exact u8_beq c 44
        by_cases h44 : c = 44
        · have ht1 : takes 44 (S.drop e) = 1 := by rw [hdr, h44, takes_hit]
          have hne : takes 44 (S.drop (DR.at (g, l, dg, x, s, mm, d, M, P, e))) = 1 := ht1
          simp only [if_pos hne] at hL hA
          have w2 : IntKind.wrap .i64 ((e : Int) + 1) = ((e + 1 : Nat) : Int) := by rw [wrap_i64 _ (by omega) (by omega)]; omega
          have hs : circalaw15_DateformsRead_l0 (m + 300) (S, A, E, (p : Int), (i : Int), L1, L2, L3) = some (.inl (S, A, E, ((e + 1 : Nat) : Int), ((i + 1 : Nat) : Int), L1, L2, L3)) := by
            rw [hcore, decide_eq_false (by omega), sx_nat hc]
            have hbt : (c == 44) = true := beq_iff_eq.2 h44
            simp only [cond_false, ob, e44, hbt, Bool.not_true, w2]
          · rw [iter_next hs]
            refine ih (i + 1) (e + 1) (outL (D1, D2, D3) [(g, l, dg, x, s, mm, d, M, P, e)]) (by omega) (by omega) (by simp [outL, h1]) (by simp [outL, h2]) (by simp [outL, h3]) ?_ ?_ N (by omega)
            · rw [outL_cons]; exact hL
            · rw [hA]
              cases hq : rdAll r S (e + 1) with
              | mk t o =>
                have hq' : rdAll r S (DR.at (g, l, dg, x, s, mm, d, M, P, e) + 1) = (t, o) := hq
                rw [hq']
                rcases o with k | k | k <;> rfl
        · have ht0 : takes 44 (S.drop e) = 0 := by rw [hdr, takes_miss h44]
          obtain ⟨hl1, hae⟩ := hlast ht0
          rw [if_pos hlt] at hae
          simp only [Prod.mk.injEq] at hae
          obtain ⟨rfl, rfl⟩ := hae
          refine .inl (iter_done ?_)
          rw [hcore, decide_eq_false (by omega), decide_eq_true hlt, sx_nat hc]
          have : (c == 44) = false := beq_eq_false_iff_ne.2 h44
          simp only [cond_false, cond_true, ob, e44, this, Bool.not_false, hl1, bne_self_eq_false, BEq.rfl]
      · have ht0 : takes 44 (S.drop e) = 0 := by rw [List.drop_eq_nil_of_le hge]; rfl
        obtain ⟨hl1, hae⟩ := hlast ht0
        rw [if_neg (by omega)] at hae
        simp only [Prod.mk.injEq] at hae
        obtain ⟨rfl, rfl⟩ := hae
        refine .inl (iter_done ?_)
        rw [hcore, decide_eq_true hge, decide_eq_false (by omega)]
        simp only [cond_false, cond_true, hl1, bne_self_eq_false, BEq.rfl]

theorem dateformsRead_ok (m : Nat) (S : List UInt8) : circalaw15_DateformsRead (m + 300) S = some true := by
  unfold circalaw15_DateformsRead
  rw [df_lives, cond_dec]
  by_cases hl : ((S.length : Nat) : Int) > 100
  · rw [if_pos hl]; rfl
  rw [if_neg hl, run_v2 m S (by omega) (by omega)]
  have h := law_loop m S (by omega) (by omega) (runRes S (rdAll 20 S 0)).1 (runRes S (rdAll 20 S 0)).2 (outL ([], [], []) (rdAll 20 S 0).1) 20 0 0 ([], [], []) rfl (by omega) rfl rfl rfl rfl rfl (m + 300) (by omega)
  show ob (iterL (circalaw15_DateformsRead_l0 (m + 300)) (m + 300) (S, (runRes S (rdAll 20 S 0)).1, (runRes S (rdAll 20 S 0)).2, ((0 : Nat) : Int), ((0 : Nat) : Int), outL ([], [], []) (rdAll 20 S 0).1)) _ = _
  rcases h with h | h <;> rw [h] <;> rfl

end Go.Sh
