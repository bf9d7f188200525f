/- Chapter 14: the texts of years, and how they are read again.
   Conditions: none. -/
import Derived.Test.YtbghdnhhpanidaaGreatDoorLawYfI
set_option linter.unusedSimpArgs false
set_option linter.unusedVariables false
set_option maxRecDepth 20000
namespace Go.Sh
open Go.Abs

/-! ### Decimal numbers below 100 -/

theorem cutD (r : Nat) (h : r < 10) : List.drop r (List.take (r + 1) ([48, 49, 50, 51, 52, 53, 54, 55, 56, 57] : List UInt8)) = [UInt8.ofNat (48 + r)] := by
  have : ∀ r, r < 10 → List.drop r (List.take (r + 1) ([48, 49, 50, 51, 52, 53, 54, 55, 56, 57] : List UInt8)) = [UInt8.ofNat (48 + r)] := by decide
  exact this r h

theorem dd_low {k : Nat} (h : k < 10) : Lib.decDigits k = [UInt8.ofNat (48 + k)] := by
  rw [Lib.decDigits, dif_pos h]

theorem dd_high {k : Nat} (h : ¬ k < 10) (h2 : k < 100) : Lib.decDigits k = [UInt8.ofNat (48 + k / 10), UInt8.ofNat (48 + k % 10)] := by
  rw [Lib.decDigits, dif_neg h, dd_low (by omega)]; rfl

theorem dec_eq (n k : Nat) (h : k < 100) : circaref14_Decimal n (k : Int) = some (Lib.decDigits k) := by
  have hm : Int.tmod (k : Int) 10 = ((k % 10 : Nat) : Int) := rfl
  have hq : Int.tdiv (k : Int) 10 = ((k / 10 : Nat) : Int) := rfl
  have w1 : IntKind.wrap .i64 (((k % 10 : Nat) : Int) + 1) = ((k % 10 + 1 : Nat) : Int) := by rw [wrap_i64 _ (by omega) (by omega)]; omega
  have w2 : IntKind.wrap .i64 ((k / 10 : Nat) : Int) = ((k / 10 : Nat) : Int) := wrap_i64 _ (by omega) (by omega)
  have w3 : IntKind.wrap .i64 (((k / 10 : Nat) : Int) + 1) = ((k / 10 + 1 : Nat) : Int) := by rw [wrap_i64 _ (by omega) (by omega)]; omega
  simp only [circaref14_Decimal, hm, hq, w1, w2, w3, bx_nat (show k % 10 + 1 ≤ 10 by omega), bx_nat (show k % 10 ≤ k % 10 + 1 by omega), ob, cutD (k % 10) (by omega)]
  by_cases h1 : k < 10
  · have e : decide ((k : Int) ≥ 10) = false := decide_eq_false (by omega)
    rw [e, cond_false, dd_low h1, Nat.mod_eq_of_lt h1]
  · have e : decide ((k : Int) ≥ 10) = true := decide_eq_true (by omega)
    rw [e, cond_true, bx_nat (show k / 10 + 1 ≤ 10 by omega)]
    simp only []
    rw [bx_nat (show k / 10 ≤ k / 10 + 1 by omega)]
    simp only [cutD (k / 10) (by omega)]
    rw [cat_ok (by simp), dd_high h1 h]
    rfl

/-- A number behind a letter, as it is written. -/
def textN (letter : UInt8) (v : Nat) : List UInt8 := if 0 < v then letter :: Lib.decDigits v else []

theorem dd_len {k : Nat} (h : k < 100) : 1 ≤ (Lib.decDigits k).length ∧ (Lib.decDigits k).length ≤ 2 := by
  by_cases h1 : k < 10
  · rw [dd_low h1]; simp
  · rw [dd_high h1 h]; simp

theorem textN_len (letter : UInt8) {k : Nat} (h : k < 100) : (textN letter k).length ≤ 3 := by
  unfold textN
  split
  · have := dd_len h; simp only [List.length_cons]; omega
  · simp

theorem ytext_parts (g l : Bool) (d : List UInt8) (x s : Nat) : ytextF g l d (x : Int) (s : Int) = (if l then [89] else []) ++ (if g then [45] else []) ++ d ++ textN 69 x ++ textN 83 s := by
  unfold ytextF textN
  simp only [Int.toNat_natCast]
  have e1 : (0 < (x : Int)) = (0 < x) := by simp
  have e2 : (0 < (s : Int)) = (0 < s) := by simp
  simp only [e1, e2]

theorem ref_Text (n : Nat) (g l : Bool) (d : List UInt8) (x s : Nat) (hx : x < 100) (hs : s < 100) (hd : d.length ≤ 1000) : circaref14_Text n g l d (x : Int) (s : Int) = some (ytextF g l d (x : Int) (s : Int)) := by
  have l1 := dd_len hx
  have l2 := dd_len hs
  have ex : decide ((x : Int) > 0) = decide (0 < x) := by simp
  have es : decide ((s : Int) > 0) = decide (0 < s) := by simp
  have tx : ∀ a : List UInt8, a.length ≤ 1100 → (cond (decide (0 < x)) (ob (circaref14_Decimal n (x : Int)) fun r => (ob (cat ([69] : List UInt8) r) fun p => (cat a p))) (some a)) = some (a ++ textN 69 x) := by
    intro a ha
    unfold textN
    by_cases h : 0 < x
    · rw [decide_eq_true h, cond_true, if_pos h, dec_eq n x hx]
      simp only [ob]
      rw [cat_ok (by simp; omega)]
      simp only []
      rw [cat_ok (by simp; omega)]
      rfl
    · rw [decide_eq_false h, if_neg h]; simp
  have ts : ∀ a : List UInt8, a.length ≤ 1200 → (cond (decide (0 < s)) (ob (circaref14_Decimal n (s : Int)) fun r => (ob (cat ([83] : List UInt8) r) fun p => (ob (cat a p) fun q => (some q)))) (some a)) = some (a ++ textN 83 s) := by
    intro a ha
    unfold textN
    by_cases h : 0 < s
    · rw [decide_eq_true h, cond_true, if_pos h, dec_eq n s hs]
      simp only [ob]
      rw [cat_ok (by simp; omega)]
      simp only []
      rw [cat_ok (by simp; omega)]
      rfl
    · rw [decide_eq_false h, if_neg h]; simp
  have both : ∀ a : List UInt8, a.length ≤ 1100 → (cond (decide (0 < x)) (ob (circaref14_Decimal n (x : Int)) fun r => (ob (cat ([69] : List UInt8) r) fun p => (ob (cat a p) fun z => (cond (decide (0 < s)) (ob (circaref14_Decimal n (s : Int)) fun r => (ob (cat ([83] : List UInt8) r) fun p => (ob (cat z p) fun q => (some q)))) (some z))))) (cond (decide (0 < s)) (ob (circaref14_Decimal n (s : Int)) fun r => (ob (cat ([83] : List UInt8) r) fun p => (ob (cat a p) fun q => (some q)))) (some a))) = some (a ++ textN 69 x ++ textN 83 s) := by
    intro a ha
    have htx := tx a ha
    by_cases h : 0 < x
    · rw [decide_eq_true h, cond_true] at htx ⊢
      rw [dec_eq n x hx] at htx ⊢
      simp only [ob] at htx ⊢
      rw [cat_ok (a := [69]) (by simp; omega)] at htx ⊢
      simp only [] at htx ⊢
      rw [htx]
      simp only []
      have := ts (a ++ textN 69 x) (by have := textN_len 69 hx; simp only [List.length_append]; omega)
      simp only [ob] at this
      exact this
    · rw [decide_eq_false h, cond_false]
      have hz : textN 69 x = [] := by unfold textN; rw [if_neg h]
      rw [hz, List.append_nil]
      exact ts a (by omega)
  rw [ytext_parts]
  unfold circaref14_Text
  rw [ex, es]
  cases l <;> cases g
  · rw [cond_false, cond_false, cat_ok (by simp; omega)]
    exact both d (by omega)
  · rw [cond_false, cond_true, cat_ok (by simp; omega)]
    exact both ([45] ++ d) (by simp; omega)
  · rw [cond_true, cond_false, cat_ok (by simp; omega)]
    exact both ([89] ++ d) (by simp; omega)
  · rw [cond_true, cond_true, cat_ok (by simp; omega)]
    exact both ([89, 45] ++ d) (by simp; omega)

/-! ### Texts are read again -/

/-- What a text begins with is none of these. -/
def noHead (p : UInt8 → Bool) (l : List UInt8) : Prop := ∀ c, l.head? = some c → p c = false

theorem ofNat_dig {k : Nat} (h : k < 10) : (UInt8.ofNat (48 + k)).toNat = 48 + k := by
  rw [UInt8.toNat_ofNat']
  exact Nat.mod_eq_of_lt (by omega)

theorem numS_text (letter : UInt8) (v : Nat) (post : List UInt8) (hv : v < 100) (h1 : noHead isDig post) (h2 : noHead (fun c => c == letter) post) : numS letter (textN letter v ++ post) = .inr (v, (textN letter v).length) := by
  unfold textN
  by_cases h0 : 0 < v
  · rw [if_pos h0]
    by_cases h9 : v < 10
    · rw [dd_low h9]
      have hd := ofNat_dig h9
      simp only [List.cons_append, List.nil_append]
      rw [numS_cons, if_pos rfl, numT_cons, if_pos (by omega)]
      have e48 : 48 + v - 48 = v := by omega
      cases post with
      | nil =>
        rw [numU_nil, hd, e48]
        rfl
      | cons e r =>
        have he : ¬ isDig e = true := by rw [h1 e rfl]; simp
        rw [numU_cons, if_neg he, hd, e48]
        rfl
    · rw [dd_high h9 hv]
      have hd := ofNat_dig (show v / 10 < 10 by omega)
      have he := ofNat_dig (show v % 10 < 10 by omega)
      simp only [List.cons_append, List.nil_append]
      rw [numS_cons, if_pos rfl, numT_cons, if_pos (by omega), numU_cons, if_pos ((isDig_iff _).2 (by omega)), hd, he]
      rw [show 10 * (48 + v / 10 - 48) + (48 + v % 10 - 48) = v by omega]
      rfl
  · rw [if_neg h0]
    have hv0 : v = 0 := by omega
    subst hv0
    cases post with
    | nil => rfl
    | cons c r =>
      have hc : c ≠ letter := by
        have := h2 c rfl
        simpa using this
      rw [List.nil_append, numS_cons, if_neg hc]
      rfl

theorem numS_back (letter : UInt8) (l : List UInt8) (v k : Nat) (h : numS letter l = .inr (v, k)) : v < 100 ∧ l.take k = textN letter v ∧ k ≤ l.length := by
  cases l with
  | nil =>
    simp only [numS_nil, Sum.inr.injEq, Prod.mk.injEq] at h
    obtain ⟨rfl, rfl⟩ := h
    exact ⟨by omega, rfl, by simp⟩
  | cons c r =>
    rw [numS_cons] at h
    by_cases hc : c = letter
    · rw [if_pos hc] at h
      cases r with
      | nil => simp [numT_nil] at h
      | cons d r2 =>
        rw [numT_cons] at h
        by_cases hd : 49 ≤ d.toNat ∧ d.toNat ≤ 57
        · rw [if_pos hd] at h
          have e9 : d.toNat - 48 < 10 := by omega
          have hdd : UInt8.ofNat (48 + (d.toNat - 48)) = d := by
            apply UInt8.toNat_inj.1
            rw [ofNat_dig e9]; omega
          have one : (c :: d :: r2).take 2 = textN letter (d.toNat - 48) := by
            unfold textN
            rw [if_pos (by omega), dd_low e9, hdd, hc]; rfl
          cases r2 with
          | nil =>
            simp only [numU_nil, Sum.inr.injEq, Prod.mk.injEq] at h
            obtain ⟨rfl, rfl⟩ := h
            exact ⟨by omega, one, by simp⟩
          | cons e r3 =>
            rw [numU_cons] at h
            by_cases he : isDig e = true
            · rw [if_pos he] at h
              simp only [Sum.inr.injEq, Prod.mk.injEq] at h
              obtain ⟨rfl, rfl⟩ := h
              have hei := (isDig_iff e).1 he
              refine ⟨by omega, ?_, by simp⟩
              unfold textN
              have h1 : (10 * (d.toNat - 48) + (e.toNat - 48)) / 10 = d.toNat - 48 := by omega
              have h2 : (10 * (d.toNat - 48) + (e.toNat - 48)) % 10 = e.toNat - 48 := by omega
              have hee : UInt8.ofNat (48 + (e.toNat - 48)) = e := by
                apply UInt8.toNat_inj.1
                rw [ofNat_dig (by omega)]; omega
              rw [if_pos (by omega), dd_high (by omega) (by omega), h1, h2, hdd, hee, hc]; rfl
            · rw [if_neg he] at h
              simp only [Sum.inr.injEq, Prod.mk.injEq] at h
              obtain ⟨rfl, rfl⟩ := h
              exact ⟨by omega, one, by simp⟩
        · rw [if_neg hd] at h; cases h
    · rw [if_neg hc] at h
      simp only [Sum.inr.injEq, Prod.mk.injEq] at h
      obtain ⟨rfl, rfl⟩ := h
      exact ⟨by omega, rfl, by simp⟩

theorem spanN_app {p : UInt8 → Bool} : ∀ (r : List UInt8) (k : Nat) (post : List UInt8), (∀ c ∈ r, p c = true) → r.length ≤ k → (noHead p post ∨ r.length = k) → spanN p k (r ++ post) = r.length
  | [], 0, post, _, _, _ => by simp [spanN]
  | [], k + 1, post, _, _, h => by
    cases post with
    | nil => simp [spanN]
    | cons c q =>
      rcases h with h | h
      · have := h c rfl
        simp [spanN, this]
      · simp at h
  | c :: r, 0, post, _, h, _ => by simp at h
  | c :: r, k + 1, post, hp, hk, h => by
    have ih := spanN_app r k post (fun d hd => hp d (by simp [hd])) (by simpa using hk) (by
      rcases h with h | h
      · exact .inl h
      · exact .inr (by simpa using h))
    simp only [List.cons_append, spanN, hp c (by simp), if_true, ih, List.length_cons]

theorem spanN_take {p : UInt8 → Bool} : ∀ (k : Nat) (l : List UInt8), ∀ c ∈ l.take (spanN p k l), p c = true
  | 0, l => by simp [spanN]
  | k + 1, [] => by simp [spanN]
  | k + 1, c :: l => by
    simp only [spanN]
    by_cases h : p c = true
    · rw [if_pos h]
      intro d hd
      rw [List.take_succ_cons, List.mem_cons] at hd
      rcases hd with rfl | hd
      · exact h
      · exact spanN_take k l d hd
    · rw [if_neg h]; simp

theorem textN_head {letter : UInt8} {v : Nat} {post : List UInt8} {p : UInt8 → Bool} (h1 : p letter = false) (h2 : noHead p post) : noHead p (textN letter v ++ post) := by
  unfold textN
  intro c hc
  by_cases h : 0 < v
  · rw [if_pos h] at hc
    simp only [List.cons_append, List.head?_cons, Option.some.injEq] at hc
    rw [← hc]; exact h1
  · rw [if_neg h] at hc
    exact h2 c hc

/-- What may stand behind a year. -/
def isYC (c : UInt8) : Bool := isDX c || c == 69 || c == 83

theorem yc_dig {l : List UInt8} (h : noHead isYC l) : noHead isDig l := fun c hc => by
  have := h c hc
  unfold isYC isDX at this
  simp only [Bool.or_eq_false_iff] at this
  exact this.1.1.1
theorem yc_dx {l : List UInt8} (h : noHead isYC l) : noHead isDX l := fun c hc => by
  have := h c hc
  unfold isYC at this
  simp only [Bool.or_eq_false_iff] at this
  exact this.1.1
theorem yc_69 {l : List UInt8} (h : noHead isYC l) : noHead (fun c => c == 69) l := fun c hc => by
  have := h c hc
  unfold isYC at this
  simp only [Bool.or_eq_false_iff] at this
  exact this.1.2
theorem yc_83 {l : List UInt8} (h : noHead isYC l) : noHead (fun c => c == 83) l := fun c hc => by
  have := h c hc
  unfold isYC at this
  simp only [Bool.or_eq_false_iff] at this
  exact this.2

theorem takes_hit (c : UInt8) (l : List UInt8) : takes c (c :: l) = 1 := by rw [takes_cons, if_pos rfl]
theorem takes_miss {c a : UInt8} (h : a ≠ c) (l : List UInt8) : takes c (a :: l) = 0 := by rw [takes_cons, if_neg h]

theorem read_text {g l : Bool} {d : List UInt8} {x s : Nat} (h : okY g l d (x : Int) (s : Int)) (post : List UInt8) (hp : noHead isYC post) : readS (ytextF g l d (x : Int) (s : Int) ++ post) = .inr (g, l, d, x, s, (ytextF g l d (x : Int) (s : Int)).length) := by
  have hsm := ok_small h
  have n83 : numS 83 (textN 83 s ++ post) = .inr (s, (textN 83 s).length) := numS_text 83 s post (by omega) (yc_dig hp) (yc_83 hp)
  have hR2 : noHead isDig (textN 83 s ++ post) := textN_head (by decide) (yc_dig hp)
  have hR3 : noHead isDX (textN 83 s ++ post) := textN_head (by decide) (yc_dx hp)
  rw [ytext_parts]
  cases l with
  | true =>
    have hL : okL d (x : Int) (s : Int) := by simpa [okY] using h
    obtain ⟨⟨h1, h2, h3, h4, h5, h6, h7, h8⟩, h9, h10⟩ := hL
    obtain ⟨c, r, rfl⟩ : ∃ c r, d = c :: r := by
      cases d with
      | nil => simp at h2
      | cons c r => exact ⟨c, r, rfl⟩
    have hcd := (isDig_iff c).1 (h1 c (by simp))
    have hc49 : 49 ≤ c.toNat ∧ c.toNat ≤ 57 := by
      have : c.toNat ≠ 48 := fun e => h4 (by rw [show c = 48 from UInt8.toNat_inj.1 e]; rfl)
      omega
    have hc45 : c ≠ 45 := by rintro rfl; exact absurd hcd.1 (by decide)
    have n69 : numS 69 (textN 69 x ++ (textN 83 s ++ post)) = .inr (x, (textN 69 x).length) := numS_text 69 x _ (by omega) hR2 (textN_head (by decide) (yc_69 hp))
    have hsp : spanN isDig 16 (r ++ (textN 69 x ++ (textN 83 s ++ post))) = r.length := by
      refine spanN_app r 16 _ (fun e he => h1 e (by simp [he])) (by simp only [List.length_cons] at h3; omega) (.inl ?_)
      exact textN_head (by decide) hR2
    have body : ∀ o : Nat, longS g o ((c :: r) ++ (textN 69 x ++ (textN 83 s ++ post))) = .inr (g, true, c :: r, x, s, o + (1 + r.length) + (textN 69 x).length + (textN 83 s).length) := by
      intro o
      simp only [List.cons_append, longS]
      rw [if_pos hc49, hsp]
      have e1 : List.drop (1 + r.length) (c :: (r ++ (textN 69 x ++ (textN 83 s ++ post)))) = textN 69 x ++ (textN 83 s ++ post) := by
        rw [Nat.add_comm, List.drop_succ_cons, List.drop_left' rfl]
      have e2 : List.drop (1 + r.length + (textN 69 x).length) (c :: (r ++ (textN 69 x ++ (textN 83 s ++ post)))) = textN 83 s ++ post := by
        rw [show 1 + r.length + (textN 69 x).length = (r.length + (textN 69 x).length) + 1 by omega, List.drop_succ_cons, ← List.append_assoc, List.drop_left' (by simp)]
      have e3 : List.take (1 + r.length) (c :: (r ++ (textN 69 x ++ (textN 83 s ++ post)))) = c :: r := by
        rw [Nat.add_comm, List.take_succ_cons, List.take_left' rfl]
      rw [e1, n69]
      simp only []
      rw [e2, n83, e3]
    unfold readS
    cases g with
    | true =>
      simp only [if_true, List.cons_append, List.nil_append, List.append_assoc]
      rw [takes_hit, if_pos rfl, List.drop_succ_cons, List.drop_zero, takes_hit]
      have := body 2
      simp only [List.cons_append] at this
      simp only [List.drop_succ_cons, List.drop_zero, show ((1 : Nat) == 1) = true from rfl, show 1 + 1 = 2 from rfl]
      rw [this]
      simp only [List.length_cons, List.length_append]
      congr 6
      omega
    | false =>
      simp only [if_true, Bool.false_eq_true, if_false, List.cons_append, List.nil_append, List.append_assoc]
      rw [takes_hit, if_pos rfl, List.drop_succ_cons, List.drop_zero, takes_miss hc45]
      have := body 1
      simp only [List.cons_append] at this
      simp only [List.drop_succ_cons, List.drop_zero, show ((0 : Nat) == 1) = false from rfl, Nat.add_zero]
      rw [this]
      simp only [List.length_cons, List.length_append]
      congr 6
      omega
  | false =>
    have hS : okS g d (x : Int) (s : Int) := by simpa [okY] using h
    obtain ⟨h1, h2, h3, h4, h5, h6, h7⟩ := hS
    have hx0 : x = 0 := by omega
    subst hx0
    have ht0 : textN 69 0 = [] := rfl
    have hdx : ∀ c ∈ d, isDX c = true := fun c hc => by
      unfold isDX
      rcases h2 c hc with q | q
      · rw [q]; rfl
      · rw [q]; simp
    have hsp : spanN isDX 4 (d ++ (textN 83 s ++ post)) = d.length := spanN_app d 4 _ hdx (by omega) (.inr h1)
    have body : ∀ o : Nat, shortS g o (d ++ (textN 83 s ++ post)) = .inr (g, false, d, 0, s, o + 4 + (textN 83 s).length) := by
      intro o
      unfold shortS
      rw [hsp, h1, if_neg (by omega), List.drop_left' h1, n83, List.take_left' h1]
    obtain ⟨c, r, rfl⟩ : ∃ c r, d = c :: r := by
      cases d with
      | nil => simp at h1
      | cons c r => exact ⟨c, r, rfl⟩
    have hc45 : c ≠ 45 := by
      rintro rfl
      rcases h2 45 (by simp) with q | q
      · exact absurd ((isDig_iff _).1 q).1 (by decide)
      · exact absurd q (by decide)
    have hc89 : c ≠ 89 := by
      rintro rfl
      rcases h2 89 (by simp) with q | q
      · exact absurd ((isDig_iff _).1 q).2 (by decide)
      · exact absurd q (by decide)
    have h4589 : (45 : UInt8) ≠ 89 := by decide
    unfold readS
    rw [ht0]
    cases g with
    | true =>
      simp only [if_true, Bool.false_eq_true, if_false, List.cons_append, List.nil_append, List.append_assoc]
      rw [takes_miss h4589, if_neg (by decide), takes_hit, List.drop_succ_cons, List.drop_zero]
      have := body 1
      simp only [List.cons_append] at this
      rw [show ((1 : Nat) == 1) = true from rfl, this]
      simp only [List.length_cons, List.length_append] at h1 ⊢
      congr 6
      omega
    | false =>
      simp only [Bool.false_eq_true, if_false, List.cons_append, List.nil_append, List.append_assoc]
      rw [takes_miss hc89, if_neg (by decide), takes_miss hc45, List.drop_zero]
      have := body 0
      simp only [List.cons_append] at this
      rw [show ((0 : Nat) == 1) = false from rfl, this]
      simp only [List.length_cons, List.length_append] at h1 ⊢
      congr 6
      omega

theorem takes_text (c : UInt8) (l : List UInt8) : l.take (takes c l) = if takes c l = 1 then [c] else [] := by
  rcases takes_cases c l with h | h
  · rw [h]; simp
  · rw [h, if_pos rfl]
    unfold takes at h
    split at h
    · assumption
    · cases h

theorem take_add' (l : List UInt8) (i j : Nat) : l.take (i + j) = l.take i ++ (l.drop i).take j := by
  rw [List.take_add]

theorem read_back {l : List UInt8} {g lng : Bool} {d : List UInt8} {x s k : Nat} (h : readS l = .inr (g, lng, d, x, s, k)) : l.take k = ytextF g lng d (x : Int) (s : Int) ∧ k ≤ l.length ∧ x < 100 ∧ s < 100 ∧ d.length ≤ 17 := by
  rw [ytext_parts]
  unfold readS at h
  by_cases h89 : takes 89 l = 1
  · rw [if_pos h89] at h
    have t89 := takes_text 89 l
    rw [h89, if_pos rfl] at t89
    have t45 := takes_text 45 (l.drop 1)
    have c45 := takes_cases 45 (l.drop 1)
    generalize hu : takes 45 (l.drop 1) = u at *
    have hpre : l.take (1 + u) = [89] ++ (if (u == 1) = true then [45] else []) := by
      rw [take_add', t89, t45]
      rcases c45 with rfl | rfl <;> rfl
    cases hd : l.drop (1 + u) with
    | nil => rw [hd] at h; simp [longS] at h
    | cons c r =>
      rw [hd] at h
      simp only [longS] at h
      by_cases hc : 49 ≤ c.toNat ∧ c.toNat ≤ 57
      · rw [if_pos hc] at h
        have htop := spanN_top isDig 16 r
        have hKl : 1 + spanN isDig 16 r ≤ (c :: r).length := by have := spanN_le isDig 16 r; simp only [List.length_cons]; omega
        generalize hK : 1 + spanN isDig 16 r = K at *
        cases hq : numS 69 (List.drop K (c :: r)) with
        | inl j => rw [hq] at h; simp at h
        | inr p =>
          obtain ⟨x', j⟩ := p
          rw [hq] at h
          simp only at h
          cases hq2 : numS 83 (List.drop (K + j) (c :: r)) with
          | inl i => rw [hq2] at h; simp at h
          | inr p2 =>
            obtain ⟨s', i⟩ := p2
            rw [hq2] at h
            simp only [Sum.inr.injEq, Prod.mk.injEq] at h
            obtain ⟨rfl, rfl, rfl, rfl, rfl, rfl⟩ := h
            obtain ⟨a1, a2, a3⟩ := numS_back _ _ _ _ hq
            obtain ⟨b1, b2, b3⟩ := numS_back _ _ _ _ hq2
            rw [List.length_drop] at a3 b3
            have hll : l.length = 1 + u + (c :: r).length := by
              have := congrArg List.length hd
              rw [List.length_drop] at this
              simp only [List.length_cons] at this ⊢
              omega
            refine ⟨?_, by simp only [List.length_cons] at *; omega, a1, b1, by rw [List.length_take]; omega⟩
            rw [show 1 + u + K + j + i = (1 + u) + (K + (j + i)) by omega, take_add', hpre, hd, take_add' _ K, take_add' _ j, a2, List.drop_drop, b2]
            simp
      · rw [if_neg hc] at h; simp at h
  · rw [if_neg h89] at h
    have t45 := takes_text 45 l
    have c45 := takes_cases 45 l
    generalize hu : takes 45 l = u at *
    have hpre : l.take u = (if (u == 1) = true then [45] else []) := by
      rw [t45]
      rcases c45 with rfl | rfl <;> rfl
    unfold shortS at h
    by_cases h4 : spanN isDX 4 (l.drop u) < 4
    · rw [if_pos h4] at h; simp at h
    · rw [if_neg h4] at h
      have hle := spanN_le isDX 4 (l.drop u)
      rw [List.length_drop] at hle
      cases hq : numS 83 (List.drop 4 (l.drop u)) with
      | inl i => rw [hq] at h; simp at h
      | inr p2 =>
        obtain ⟨s', i⟩ := p2
        rw [hq] at h
        simp only [Sum.inr.injEq, Prod.mk.injEq] at h
        obtain ⟨rfl, rfl, rfl, rfl, rfl, rfl⟩ := h
        obtain ⟨b1, b2, b3⟩ := numS_back _ _ _ _ hq
        rw [List.length_drop, List.length_drop] at b3
        refine ⟨?_, by omega, by omega, b1, by rw [List.length_take]; omega⟩
        rw [show u + 4 + i = u + (4 + i) by omega, take_add', hpre, take_add' _ 4, b2]
        have ht0 : textN 69 0 = [] := rfl
        rw [ht0]
        simp

end Go.Sh
