/- Chapter 14: how years are read, by the program and by the definition.
   Conditions: none. -/
import Derived.Test.YtbghdnhhpanidaaGreatDoorLawYfE
set_option linter.unusedSimpArgs false
set_option linter.unusedVariables false
set_option maxRecDepth 20000
namespace Go.Sh
open Go.Abs

/-- Behind the first digit of a number. -/
def numU (d : UInt8) : List UInt8 → Nat ⊕ (Nat × Nat)
  | [] => .inr (d.toNat - 48, 2)
  | e :: _ => if isDig e = true then .inr (10 * (d.toNat - 48) + (e.toNat - 48), 3) else .inr (d.toNat - 48, 2)

/-- Behind the letter of a number. -/
def numT : List UInt8 → Nat ⊕ (Nat × Nat)
  | [] => .inl 1
  | d :: r => if 49 ≤ d.toNat ∧ d.toNat ≤ 57 then numU d r else .inl 1

/-- A number of one or two digits behind a letter: a fault behind so many bytes, or the number, and how many bytes it has. -/
def numS (letter : UInt8) : List UInt8 → Nat ⊕ (Nat × Nat)
  | [] => .inr (0, 0)
  | c :: r => if c = letter then numT r else .inr (0, 0)

theorem numS_nil (letter : UInt8) : numS letter [] = .inr (0, 0) := rfl
theorem numS_cons (letter c : UInt8) (r : List UInt8) : numS letter (c :: r) = if c = letter then numT r else .inr (0, 0) := rfl
theorem numT_nil : numT [] = .inl 1 := rfl
theorem numT_cons (d : UInt8) (r : List UInt8) : numT (d :: r) = if 49 ≤ d.toNat ∧ d.toNat ≤ 57 then numU d r else .inl 1 := rfl
theorem numU_nil (d : UInt8) : numU d [] = .inr (d.toNat - 48, 2) := rfl
theorem numU_cons (d e : UInt8) (r : List UInt8) : numU d (e :: r) = if isDig e = true then .inr (10 * (d.toNat - 48) + (e.toNat - 48), 3) else .inr (d.toNat - 48, 2) := rfl

theorem encode_low (c : UInt8) (h : c.toNat < 128) : (Utf8.encode ((c.toNat : Nat) : Int)).data.toList = [c] := by
  have := u8_forall (fun c => (decide (128 ≤ c.toNat)) || (Utf8.encode ((c.toNat : Nat) : Int)).data.toList == [c]) (by decide +kernel) c
  simp only [Bool.or_eq_true, decide_eq_true_eq, beq_iff_eq] at this
  rcases this with h2 | h2
  · omega
  · exact h2

theorem digitVal_dig {c : UInt8} (h : 48 ≤ c.toNat ∧ c.toNat ≤ 57) : Lib.digitVal c = some (c.toNat - 48) := by
  unfold Lib.digitVal; rw [if_pos h]

theorem atoi_plain {c : UInt8} (h : 48 ≤ c.toNat ∧ c.toNat ≤ 57) (r : List UInt8) : Lib.atoi (c :: r) = (Lib.decNat (c :: r)).map fun (m : Nat) => (m : Int) := by
  have e1 : (c == 45) = false := by
    rw [beq_eq_false_iff_ne]; rintro rfl; exact absurd h.1 (by decide)
  have e2 : (c == 43) = false := by
    rw [beq_eq_false_iff_ne]; rintro rfl; exact absurd h.1 (by decide)
  simp only [Lib.atoi, e1, e2, Bool.false_eq_true, if_false]

theorem atoi_one {c : UInt8} (h : 48 ≤ c.toNat ∧ c.toNat ≤ 57) : Lib.atoi [c] = some ((c.toNat - 48 : Nat) : Int) := by
  rw [atoi_plain h]
  simp only [Lib.decNat, List.isEmpty_cons, Bool.false_eq_true, if_false, Lib.decFrom, digitVal_dig h, Option.map_some, Nat.zero_mul, Nat.zero_add]

theorem atoi_two {c e : UInt8} (h : 48 ≤ c.toNat ∧ c.toNat ≤ 57) (he : 48 ≤ e.toNat ∧ e.toNat ≤ 57) : Lib.atoi [c, e] = some ((10 * (c.toNat - 48) + (e.toNat - 48) : Nat) : Int) := by
  rw [atoi_plain h]
  simp only [Lib.decNat, List.isEmpty_cons, Bool.false_eq_true, if_false, Lib.decFrom, digitVal_dig h, digitVal_dig he, Option.map_some, Nat.zero_mul, Nat.zero_add]
  rw [Nat.mul_comm]

theorem hasB_first (c : UInt8) : hasB [49, 50, 51, 52, 53, 54, 55, 56, 57] c = decide (49 ≤ c.toNat ∧ c.toNat ≤ 57) := by
  have := u8_forall (fun c => hasB [49, 50, 51, 52, 53, 54, 55, 56, 57] c == decide (49 ≤ c.toNat ∧ c.toNat ≤ 57)) (by decide +kernel) c
  simpa using this

theorem spanN_congr {p q : UInt8 → Bool} (h : ∀ c, p c = q c) : ∀ (k : Nat) (l : List UInt8), spanN p k l = spanN q k l
  | 0, _ => by simp [spanN]
  | _ + 1, [] => by simp [spanN]
  | k + 1, c :: l => by simp only [spanN, h c, spanN_congr h k l]

theorem drop_lt {S : List UInt8} {a : Nat} {c : UInt8} {r : List UInt8} (h : S.drop a = c :: r) : a < S.length ∧ S[a]? = some c ∧ S.drop (a + 1) = r := by
  have hlt : a < S.length := by
    rcases Nat.lt_or_ge a S.length with q | q
    · exact q
    · rw [List.drop_eq_nil_of_le q] at h; cases h
  have hg : S[a]? = some S[a] := List.getElem?_eq_getElem hlt
  have hd := drop_get hg
  rw [h] at hd
  injection hd with h1 h2
  exact ⟨hlt, by rw [hg, h1], h2.symm⟩

theorem yf_num (n : Nat) (letter : UInt8) (S : List UInt8) (at_ : Nat) (h : at_ ≤ S.length) (hS : S.length < 100000) (hn : S.length < n) :
    yearforms_Read_1 n [letter] S (at_ : Int) = some (match numS letter (S.drop at_) with | .inl k => .inr (((at_ + k : Nat) : Int), 5, S, ((at_ + k : Nat) : Int)) | .inr (v, k) => .inl ((v : Int), S, ((at_ + k : Nat) : Int))) := by
  unfold yearforms_Read_1
  rw [cur_Take n [letter] S at_ h (by omega)]
  cases hd : S.drop at_ with
  | nil => simp [numS_nil]
  | cons c r =>
    obtain ⟨hlt, hg, hr⟩ := drop_lt hd
    rw [numS_cons]
    by_cases hc : c = letter
    · have htk : List.take [letter].length (c :: r) = [letter] := by simp [hc]
      have hl1 : at_ + [letter].length = at_ + 1 := rfl
      rw [if_pos htk, hl1, if_pos hc]
      clear htk
      simp only [ob, Bool.not_true, cond_false]
      rw [cur_One n _ S (at_ + 1) (by omega) (by omega), hr]
      cases r with
      | nil => simp [numT_nil]
      | cons d r2 =>
        obtain ⟨hlt2, hg2, hr2⟩ := drop_lt hr
        rw [numT_cons]
        simp only [hasB_first, decide_eq_true_eq]
        by_cases hd1 : 49 ≤ d.toNat ∧ d.toNat ≤ 57
        · rw [if_pos hd1, if_pos hd1]
          simp only []
          rw [cur_Some n _ 0 1 S (at_ + 1 + 1) (by omega) (by omega) hn, hr2]
          have hk := spanN_le (hasB [48, 49, 50, 51, 52, 53, 54, 55, 56, 57]) (1 : Int).toNat r2
          rw [if_neg (by omega)]
          rw [spanN_congr hasB_digs]
          simp only []
          rw [encode_low d (by omega)]
          have hb1 : Nat.ble ([d] : List UInt8).length 18 = true := rfl
          have hb2 : ∀ e : UInt8, Nat.ble ([d, e] : List UInt8).length 18 = true := fun _ => rfl
          have p2 : at_ + 1 + 1 = at_ + 2 := rfl
          have p3 : at_ + 2 + 1 = at_ + 3 := rfl
          have ad := atoi_one (show 48 ≤ d.toNat ∧ d.toNat ≤ 57 by omega)
          cases r2 with
          | nil =>
            have hs : spanN isDig (1 : Int).toNat [] = 0 := rfl
            rw [hs, numU_nil]
            rw [cat_ok (by simp)]
            simp only [List.take_nil, List.append_nil, Nat.add_zero, hb1, cond_true, ad, p2]
          | cons e r3 =>
            by_cases he : isDig e = true
            · have hs : spanN isDig (1 : Int).toNat (e :: r3) = 1 := by
                show spanN isDig (0 + 1) (e :: r3) = 1
                simp [spanN, he]
              have ade := atoi_two (show 48 ≤ d.toNat ∧ d.toNat ≤ 57 by omega) ((isDig_iff e).1 he)
              rw [hs, numU_cons, if_pos he]
              have ht : List.take 1 (e :: r3) = [e] := rfl
              rw [ht, cat_ok (by simp)]
              simp only [List.cons_append, List.nil_append, hb2, cond_true, ade, p2, p3]
            · have hs : spanN isDig (1 : Int).toNat (e :: r3) = 0 := by
                show spanN isDig (0 + 1) (e :: r3) = 0
                simp [spanN, he]
              rw [hs, numU_cons, if_neg he]
              have ht : List.take 0 (e :: r3) = [] := rfl
              rw [ht, cat_ok (by simp)]
              simp only [List.append_nil, hb1, cond_true, ad, Nat.add_zero, p2]
        · rw [if_neg hd1, if_neg hd1]
    · have e : ¬ List.take [letter].length (c :: r) = [letter] := by simp [hc]
      rw [if_neg e, if_neg hc]
      simp

theorem ref_num (n : Nat) (letter : UInt8) (S : List UInt8) (at_ : Nat) (h : at_ ≤ S.length) (hS : S.length < 100000) :
    circaref14_number n S (at_ : Int) ((letter.toNat : Nat) : Int) = some (match numS letter (S.drop at_) with | .inl k => (-1, ((at_ + k : Nat) : Int)) | .inr (v, k) => ((v : Int), ((at_ + k : Nat) : Int))) := by
  unfold circaref14_number
  rw [nat_dec_ge]
  cases hd : S.drop at_ with
  | nil =>
    have : S.length ≤ at_ := by
      rcases Nat.lt_or_ge at_ S.length with q | q
      · rw [drop_get (List.getElem?_eq_getElem q)] at hd; cases hd
      · exact q
    rw [decide_eq_true this]
    simp [numS_nil]
  | cons c r =>
    obtain ⟨hlt, hg, hr⟩ := drop_lt hd
    have w1 : IntKind.wrap .i64 ((at_ : Int) + 1) = ((at_ + 1 : Nat) : Int) := by rw [wrap_i64 _ (by omega) (by omega)]; omega
    have w2 : IntKind.wrap .i64 (((at_ + 1 : Nat) : Int) + 1) = ((at_ + 2 : Nat) : Int) := by rw [wrap_i64 _ (by omega) (by omega)]; omega
    have w3 : IntKind.wrap .i64 (((at_ + 2 : Nat) : Int) + 1) = ((at_ + 3 : Nat) : Int) := by rw [wrap_i64 _ (by omega) (by omega)]; omega
    rw [decide_eq_false (show ¬ S.length ≤ at_ by omega), cond_false, sx_nat hg]
    simp only [ob, w1, w2, w3, nat_dec_ge, nat_dec_lt]
    have hcl : (((c.toNat : Nat) : Int) != ((letter.toNat : Nat) : Int)) = !(c == letter) := by rw [bne, u8_beq]
    rw [hcl, numS_cons]
    by_cases hc : c = letter
    · have e : (!(c == letter)) = false := by rw [hc]; simp
      rw [e, cond_false, if_pos hc]
      cases r with
      | nil =>
        have : S.length ≤ at_ + 1 := by
          rcases Nat.lt_or_ge (at_ + 1) S.length with q | q
          · rw [drop_get (List.getElem?_eq_getElem q)] at hr; cases hr
          · exact q
        rw [decide_eq_true this]; rfl
      | cons d r2 =>
        obtain ⟨hlt2, hg2, hr2⟩ := drop_lt hr
        rw [numT_cons]
        rw [decide_eq_false (show ¬ S.length ≤ at_ + 1 by omega), cond_false, sx_nat hg2]
        simp only []
        by_cases h1 : d.toNat < 49
        · have e1 : decide (((d.toNat : Nat) : Int) < 49) = true := decide_eq_true (by omega)
          rw [e1, cond_true, if_neg (by omega)]
        · have e1 : decide (((d.toNat : Nat) : Int) < 49) = false := decide_eq_false (by omega)
          rw [e1, cond_false]
          by_cases h2 : d.toNat > 57
          · have e2 : decide (((d.toNat : Nat) : Int) > 57) = true := decide_eq_true (by omega)
            rw [e2, cond_true, if_neg (by omega)]
          · have e2 : decide (((d.toNat : Nat) : Int) > 57) = false := decide_eq_false (by omega)
            rw [e2, cond_false, if_pos (by omega)]
            have wd : IntKind.wrap .i64 (IntKind.wrap .u8 (((d.toNat : Nat) : Int) - 48)) = ((d.toNat - 48 : Nat) : Int) := by
              rw [wrap_u8 _ (by omega) (by omega), wrap_i64 _ (by omega) (by omega)]; omega
            rw [wd]
            cases r2 with
            | nil =>
              have : ¬ at_ + 2 < S.length := by
                intro q
                rw [drop_get (List.getElem?_eq_getElem (show at_ + 1 + 1 < S.length from q))] at hr2; cases hr2
              rw [decide_eq_false this, numU_nil]; rfl
            | cons e r3 =>
              obtain ⟨hlt3, hg3, _⟩ := drop_lt hr2
              rw [numU_cons]
              rw [decide_eq_true (show at_ + 2 < S.length from hlt3), cond_true, sx_nat hg3]
              simp only []
              by_cases h3 : e.toNat ≥ 48
              · have e3 : decide (((e.toNat : Nat) : Int) ≥ 48) = true := decide_eq_true (by omega)
                rw [e3, cond_true]
                by_cases h4 : e.toNat ≤ 57
                · have e4 : decide (((e.toNat : Nat) : Int) ≤ 57) = true := decide_eq_true (by omega)
                  have we : IntKind.wrap .i64 (IntKind.wrap .u8 (((e.toNat : Nat) : Int) - 48)) = ((e.toNat - 48 : Nat) : Int) := by
                    rw [wrap_u8 _ (by omega) (by omega), wrap_i64 _ (by omega) (by omega)]; omega
                  have wt : IntKind.wrap .i64 (10 * ((d.toNat - 48 : Nat) : Int)) = ((10 * (d.toNat - 48) : Nat) : Int) := by rw [wrap_i64 _ (by omega) (by omega)]; omega
                  have ws : IntKind.wrap .i64 (((10 * (d.toNat - 48) : Nat) : Int) + ((e.toNat - 48 : Nat) : Int)) = ((10 * (d.toNat - 48) + (e.toNat - 48) : Nat) : Int) := by rw [wrap_i64 _ (by omega) (by omega)]; omega
                  rw [e4, cond_true, if_pos ((isDig_iff e).2 ⟨h3, h4⟩), we, wt, ws]
                · have e4 : decide (((e.toNat : Nat) : Int) ≤ 57) = false := decide_eq_false (by omega)
                  rw [e4, cond_false, if_neg (fun q => h4 ((isDig_iff e).1 q).2)]
              · have e3 : decide (((e.toNat : Nat) : Int) ≥ 48) = false := decide_eq_false (by omega)
                rw [e3, cond_false, if_neg (fun q => h3 ((isDig_iff e).1 q).1)]
    · have e : (!(c == letter)) = true := by rw [beq_eq_false_iff_ne.2 hc]; rfl
      rw [e, cond_true, if_neg hc]
      rfl

/-! ### Years -/

/-- A byte of a year that is not long. -/
def isDX (c : UInt8) : Bool := isDig c || c == 88

abbrev YR := Bool × Bool × List UInt8 × Nat × Nat × Nat

/-- A long year behind Y and sign, of which so many bytes were read. -/
def longS (g : Bool) (o : Nat) : List UInt8 → Nat ⊕ YR
  | [] => .inl o
  | c :: r => if 49 ≤ c.toNat ∧ c.toNat ≤ 57 then
      (match numS 69 ((c :: r).drop (1 + spanN isDig 16 r)) with
      | .inl j => .inl (o + (1 + spanN isDig 16 r) + j)
      | .inr (x, j) => (match numS 83 ((c :: r).drop (1 + spanN isDig 16 r + j)) with
        | .inl i => .inl (o + (1 + spanN isDig 16 r) + j + i)
        | .inr (s, i) => .inr (g, true, (c :: r).take (1 + spanN isDig 16 r), x, s, o + (1 + spanN isDig 16 r) + j + i)))
    else .inl o

def shortS (g : Bool) (o : Nat) (l : List UInt8) : Nat ⊕ YR :=
  if spanN isDX 4 l < 4 then .inl (o + spanN isDX 4 l) else
    (match numS 83 (l.drop 4) with
    | .inl i => .inl (o + 4 + i)
    | .inr (s, i) => .inr (g, false, l.take 4, 0, s, o + 4 + i))

def takes (c : UInt8) (l : List UInt8) : Nat := if l.take 1 = [c] then 1 else 0

/-- The year that a text begins with, right or not, and how many bytes it has; or after how many bytes there is a fault. -/
def readS (l : List UInt8) : Nat ⊕ YR :=
  if takes 89 l = 1 then longS (takes 45 (l.drop 1) == 1) (1 + takes 45 (l.drop 1)) (l.drop (1 + takes 45 (l.drop 1)))
  else shortS (takes 45 l == 1) (takes 45 l) (l.drop (takes 45 l))

theorem takes_cases (c : UInt8) (l : List UInt8) : takes c l = 0 ∨ takes c l = 1 := by
  unfold takes; split
  · exact .inr rfl
  · exact .inl rfl

theorem takes_le (c : UInt8) (l : List UInt8) : takes c l ≤ l.length := by
  unfold takes; split
  · rename_i h
    cases l with
    | nil => simp at h
    | cons a l => simp
  · omega

theorem cur_takes (n : Nat) (c : UInt8) (S : List UInt8) (at_ : Nat) (h : at_ ≤ S.length) (hS : S.length < 100000) :
    cursors_Cursor_Take n [c] S (at_ : Int) = some (takes c (S.drop at_) == 1, S, ((at_ + takes c (S.drop at_) : Nat) : Int)) := by
  rw [cur_Take n [c] S at_ h (by omega)]
  unfold takes
  have e : [c].length = 1 := rfl
  rw [e]
  split <;> rfl

/-- What the program answers. -/
def yfOut (S : List UInt8) (at_ : Nat) : Nat ⊕ YR → (Int × Int × List UInt8 × Int) ⊕ (Bool × Bool × List UInt8 × Int × Int × List UInt8 × Int)
  | .inl k => .inl (((at_ + k : Nat) : Int), 5, S, ((at_ + k : Nat) : Int))
  | .inr (g, l, d, x, s, k) => .inr (g, l, d, (x : Int), (s : Int), S, ((at_ + k : Nat) : Int))

/-- What the definition answers. -/
def refOut (at_ : Nat) : Nat ⊕ YR → Bool × Bool × List UInt8 × Int × Int × Int × Int
  | .inl k => (false, false, [], 0, 0, ((at_ + k : Nat) : Int), 5)
  | .inr (g, l, d, x, s, k) => (g, l, d, (x : Int), (s : Int), ((at_ + k : Nat) : Int), 0)

theorem numS_le (letter : UInt8) (l : List UInt8) : (match numS letter l with | .inl k => k ≤ l.length | .inr (_, k) => k ≤ l.length) := by
  cases l with
  | nil => simp [numS_nil]
  | cons c r =>
    rw [numS_cons]
    by_cases hc : c = letter
    · rw [if_pos hc]
      cases r with
      | nil => simp [numT_nil]
      | cons d r2 =>
        rw [numT_cons]
        by_cases hd : 49 ≤ d.toNat ∧ d.toNat ≤ 57
        · rw [if_pos hd]
          cases r2 with
          | nil => simp [numU_nil]
          | cons e r3 =>
            rw [numU_cons]
            by_cases he : isDig e = true
            · rw [if_pos he]; simp
            · rw [if_neg he]; simp
        · rw [if_neg hd]; simp
    · rw [if_neg hc]; simp

end Go.Sh
