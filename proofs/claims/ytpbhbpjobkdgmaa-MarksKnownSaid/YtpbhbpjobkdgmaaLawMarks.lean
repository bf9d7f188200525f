/- Chapter 13: what the plain functions of the laws on marks answer.
   Conditions: none. -/
import Derived.Test.YtpbhbpjobkdgmaaShM
import Derived.Test.YtpbhbpjobkdgmaaAbsR
set_option linter.unusedSimpArgs false
set_option linter.unusedVariables false
set_option maxRecDepth 100000
namespace Go.Sh
open Go.Abs

theorem bits_or (x y : BitVec 8) : (y &&& ~~~x = 0#8) ↔ (x ||| y = x) := by
  constructor
  · intro h
    apply BitVec.eq_of_getLsbD_eq
    intro i hi
    have := congrArg (fun v : BitVec 8 => v.getLsbD i) h
    simp [hi] at this ⊢
    cases hx : x.getLsbD i <;> cases hy : y.getLsbD i <;> simp_all
  · intro h
    apply BitVec.eq_of_getLsbD_eq
    intro i hi
    have := congrArg (fun v : BitVec 8 => v.getLsbD i) h
    simp [hi] at this ⊢
    cases hx : x.getLsbD i <;> cases hy : y.getLsbD i <;> simp_all

theorem has_or (a b : Int) (h0 : 0 ≤ a) (h1 : a < 256) : (bits .andNot .u8 b a == 0) = (bits .or .u8 a b == a) := by
  have e1 : (bits .andNot .u8 b a = 0) ↔ (BitVec.ofInt 8 b &&& ~~~(BitVec.ofInt 8 a) = 0#8) := by
    constructor
    · intro h
      apply BitVec.eq_of_toNat_eq
      have : ((BitVec.ofInt 8 b &&& ~~~(BitVec.ofInt 8 a)).toNat : Int) % 256 = 0 := h
      have := (BitVec.ofInt 8 b &&& ~~~(BitVec.ofInt 8 a)).isLt
      simp only [BitVec.toNat_ofNat]
      omega
    · intro h
      show ((BitVec.ofInt 8 b &&& ~~~(BitVec.ofInt 8 a)).toNat : Int) % 256 = 0
      rw [h]; rfl
  have ha : ((BitVec.ofInt 8 a).toNat : Int) = a := by
    rw [BitVec.toNat_ofInt]
    omega
  have e2 : (bits .or .u8 a b = a) ↔ (BitVec.ofInt 8 a ||| BitVec.ofInt 8 b = BitVec.ofInt 8 a) := by
    have hl := (BitVec.ofInt 8 a ||| BitVec.ofInt 8 b).isLt
    constructor
    · intro h
      apply BitVec.eq_of_toNat_eq
      have : ((BitVec.ofInt 8 a ||| BitVec.ofInt 8 b).toNat : Int) % 256 = a := h
      omega
    · intro h
      show ((BitVec.ofInt 8 a ||| BitVec.ofInt 8 b).toNat : Int) % 256 = a
      rw [h, ha]; omega
  rw [Bool.eq_iff_iff, beq_iff_eq, beq_iff_eq, e1, e2]
  exact bits_or _ _

theorem lives13 : circalaw13_lives 5000 = some true := by kernel_rfl

noncomputable def chkText (a : Int) : Bool := match marks_Text 5000 a, circaref13_Text 5000 a, marks_Check 5000 a with
  | some r, some q, some c => ((r.2 == 0) == decide (a < 4)) && ((r.2 == 0 || r.2 == 9) && ((r.1 == q) && (c == r.2)))
  | _, _, _ => false

noncomputable def chkOf (a : Int) : Bool := match marks_Of 5000 a, circaref13_Of 5000 a with
  | some r, some q => (r.1 == q) && (r.2 == decide (r.1 > 0))
  | _, _ => false

theorem text_ok (a : Int) (h0 : 0 ≤ a) (h1 : a < 256) : chkText a = true := allI (n := 256) (by kernel_rfl) a h0 h1
theorem of_ok (a : Int) (h0 : 0 ≤ a) (h1 : a < 256) : chkOf a = true := allI (n := 256) (by kernel_rfl) a h0 h1

noncomputable def chkAdd (a b : Int) : Bool := match marks_Add 5000 a b with
  | some r => (r.2 == 0) && ((r.1 == bits .or .u8 a b) && ((match marks_Has 5000 r.1 a, marks_Has 5000 r.1 b, marks_Has 5000 a b with | some x, some y, some z => x && (y && (z == (r.1 == a))) | _, _, _ => false)))
  | none => false
theorem add_ok (a b : Int) (h0 : 0 ≤ a) (h1 : a < 4) (h2 : 0 ≤ b) (h3 : b < 4) : chkAdd a b = true := by
  have h : allN (fun i => allN (fun j => chkAdd i j) 4) 4 = true := by kernel_rfl
  have := allN_ok (allN_ok h a.toNat (by omega)) b.toNat (by omega)
  rwa [Int.toNat_of_nonneg h0, Int.toNat_of_nonneg h2] at this

theorem add_bad (a b : Int) (h : a > 3 ∨ b > 3) : marks_Add 5000 a b = some (0, 9) := by
  unfold marks_Add marks_Check
  by_cases ha : a > 3
  · simp [ha, ob]
  · have hb : b > 3 := by omega
    simp [ha, hb, ob]

theorem marksBytes_ok (a b c : Int) (a0 : 0 ≤ a) (a1 : a < 256) (b0 : 0 ≤ b) (b1 : b < 256) (c0 : 0 ≤ c) (c1 : c < 256) : circalaw13_MarksBytes 5000 a b c = some true := by
  have ht := text_ok a a0 a1
  have ho := of_ok c c0 c1
  unfold chkText at ht
  split at ht
  case h_2 => cases ht
  rename_i r q k hr hq hk
  simp only [Bool.and_eq_true, Bool.or_eq_true, beq_iff_eq] at ht
  obtain ⟨t1, t2, t3, t4⟩ := ht
  subst t3 t4
  unfold chkOf at ho
  split at ho
  case h_2 => cases ho
  rename_i s u hs hu
  simp only [Bool.and_eq_true, beq_iff_eq] at ho
  obtain ⟨o1, o2⟩ := ho
  subst o1
  have hh : marks_Has 5000 a b = some (bits .or .u8 a b == a) := by unfold marks_Has; rw [has_or a b a0 a1]
  unfold circalaw13_MarksBytes
  by_cases ha : a > 3
  · have e := add_bad a b (.inl ha)
    have t5 : r.2 = 9 := by
      rcases t2 with h | h
      · rw [h] at t1; simp at t1; omega
      · exact h
    simp only [hr, hq, hk, hs, hu, e, hh, lives13, ob, o2, t5]
    simp [ha, show ¬ a < 4 by omega]
  · have t5 : r.2 = 0 := by
      rcases t2 with h | h
      · exact h
      · rw [h] at t1; simp at t1; omega
    by_cases hb : b > 3
    · have e := add_bad a b (.inr hb)
      simp only [hr, hq, hk, hs, hu, e, hh, lives13, ob, o2, t5]
      simp [ha, hb, show a < 4 by omega]
    · have g := add_ok a b a0 (by omega) b0 (by omega)
      unfold chkAdd at g
      split at g
      case h_2 => cases g
      rename_i p hp
      simp only [Bool.and_eq_true, beq_iff_eq] at g
      obtain ⟨g1, g2, g3⟩ := g
      split at g3
      case h_2 => cases g3
      rename_i x y z hx hy hz
      simp only [Bool.and_eq_true, beq_iff_eq] at g3
      obtain ⟨rfl, rfl, g4⟩ := g3
      simp only [hr, hq, hk, hs, hu, hp, hx, hy, hz, lives13, ob, o2, t5, g1, g4]
      simp [ha, hb, g2, show a < 4 by omega]

theorem all_eq (x y z k : Int) (hx : 0 ≤ x) (hy : 0 ≤ y) (hz : 0 ≤ z) :
    ∃ e, circaref13_All 5000 [x, y, z] k = some e ∧ marks_All 5000 [x, y, z] k = some e ∧ (e = 0 → (1 ≤ k ∧ k < 4) ∧ x < 4 ∧ y < 4 ∧ z < 4 ∧ (k = 1 → y = 0) ∧ (k < 3 → z = 0)) := by
  have w1 : IntKind.wrap .i64 1 = 1 := rfl
  have w2 : IntKind.wrap .i64 2 = 2 := rfl
  have w3 : IntKind.wrap .i64 3 = 3 := rfl
  have i0 : ix 3 0 = some 0 := rfl
  have i1 : ix 3 1 = some 1 := rfl
  have i2 : ix 3 2 = some 2 := rfl
  by_cases h1 : k < 1
  · exact ⟨4, by simp [circaref13_All, h1], by simp [marks_All, h1], by simp⟩
  by_cases h3 : k > 3
  · exact ⟨4, by simp [circaref13_All, h1, h3], by simp [marks_All, h1, h3], by simp⟩
  have hk : k = 1 ∨ k = 2 ∨ k = 3 := by omega
  by_cases cx : x > 3
  · refine ⟨9, ?_, ?_, by simp⟩ <;> rcases hk with rfl | rfl | rfl <;> simp [circaref13_All, marks_All, iterL, circaref13_All_l0, marks_All_l0, marks_Check, ob, w1, w2, w3, i0, i1, i2, cx]
  by_cases cy : y > 3
  · refine ⟨9, ?_, ?_, by simp⟩ <;> rcases hk with rfl | rfl | rfl <;> simp [circaref13_All, marks_All, iterL, circaref13_All_l0, marks_All_l0, marks_Check, ob, w1, w2, w3, i0, i1, i2, cx, cy]
  by_cases dy : k = 1 ∧ y ≠ 0
  · have : y > 0 := by omega
    have eb : (y != 0) = true := by simp [dy.2]
    refine ⟨9, ?_, ?_, by simp⟩ <;> obtain ⟨rfl, dy⟩ := dy <;> simp [circaref13_All, marks_All, iterL, circaref13_All_l0, marks_All_l0, marks_Check, ob, w1, w2, w3, i0, i1, i2, cx, cy, this, dy, eb]
  by_cases cz : z > 3
  · refine ⟨9, ?_, ?_, by simp⟩ <;> rcases hk with rfl | rfl | rfl <;> (try (simp at dy; subst dy)) <;> simp [circaref13_All, marks_All, iterL, circaref13_All_l0, marks_All_l0, marks_Check, ob, w1, w2, w3, i0, i1, i2, cx, cy, cz]
  by_cases dz : k < 3 ∧ z ≠ 0
  · have : z > 0 := by omega
    have eb : (z != 0) = true := by simp [dz.2]
    refine ⟨9, ?_, ?_, by simp⟩ <;> rcases hk with rfl | rfl | rfl <;> (try (simp at dy; subst dy)) <;> simp at dz <;> simp [circaref13_All, marks_All, iterL, circaref13_All_l0, marks_All_l0, marks_Check, ob, w1, w2, w3, i0, i1, i2, cx, cy, cz, this, dz, eb]
  refine ⟨0, ?_, ?_, by omega⟩ <;> rcases hk with rfl | rfl | rfl <;> (try (simp at dy; subst dy)) <;> (try (simp at dz; subst dz)) <;> simp [circaref13_All, marks_All, iterL, circaref13_All_l0, marks_All_l0, marks_Check, ob, w1, w2, w3, i0, i1, i2, cx, cy, cz]

noncomputable def coreMarksPlain (L : Option Bool) (n : Nat) (a0 : List Int) (a1 : Int) : Option (Bool) :=
  (ob (circaref13_All n a0 a1) fun r139 => (ob (marks_Plain n a0 a1) fun r140 => (cond (r140.2.2 != r139) (some false) (cond (r139 != 0) (cond (r140.1 == ([0, 0, 0] : List Int)) (cond (r140.2.1 == ([0, 0, 0] : List Int)) (ob L fun r141 => (some r141)) (some false)) (some false)) (ob (circaref13_Plain n a0 a1) fun r152 => (ob (marks_Spread n r140.1 r140.2.1 a1) fun r153 => (cond (r140.1 == r152.1) (cond (r140.2.1 == r152.2) (cond (r153.2 == 0) (cond (r153.1 == a0) (ob L fun r154 => (some r154)) (some false)) (some false)) (some false)) (some false))))))))

theorem core_plain (n : Nat) (a : List Int) (k : Int) : circalaw13_MarksPlain n a k = coreMarksPlain (circalaw13_lives n) n a k := rfl

noncomputable def isT : Option Bool → Bool | some b => b | none => false
theorem isT_ok {o : Option Bool} (h : isT o = true) : o = some true := by
  cases o with
  | none => cases h
  | some b => simp only [isT] at h; rw [h]

theorem pl1 : allN (fun x => isT (coreMarksPlain (some true) 5000 [x, 0, 0] 1)) 4 = true := by kernel_rfl
theorem pl2 : allN (fun x => allN (fun y => isT (coreMarksPlain (some true) 5000 [x, y, 0] 2)) 4) 4 = true := by kernel_rfl
theorem pl3 : allN (fun x => allN (fun y => allN (fun z => isT (coreMarksPlain (some true) 5000 [x, y, z] 3)) 4) 4) 4 = true := by kernel_rfl

theorem plain_good (x y z k : Int) (hk : 1 ≤ k ∧ k < 4) (x0 : 0 ≤ x) (y0 : 0 ≤ y) (z0 : 0 ≤ z) (x1 : x < 4) (y1 : y < 4) (z1 : z < 4)
    (c1 : k = 1 → y = 0) (c2 : k < 3 → z = 0) : coreMarksPlain (some true) 5000 [x, y, z] k = some true := by
  have hk : k = 1 ∨ k = 2 ∨ k = 3 := by omega
  rcases hk with rfl | rfl | rfl
  · obtain rfl := c1 rfl
    obtain rfl := c2 (by omega)
    have h := allN_ok pl1 x.toNat (by omega)
    rw [Int.toNat_of_nonneg x0] at h
    exact isT_ok h
  · obtain rfl := c2 (by omega)
    have h := allN_ok (allN_ok pl2 x.toNat (by omega)) y.toNat (by omega)
    rw [Int.toNat_of_nonneg x0, Int.toNat_of_nonneg y0] at h
    exact isT_ok h
  · have h := allN_ok (allN_ok (allN_ok pl3 x.toNat (by omega)) y.toNat (by omega)) z.toNat (by omega)
    rw [Int.toNat_of_nonneg x0, Int.toNat_of_nonneg y0, Int.toNat_of_nonneg z0] at h
    exact isT_ok h

theorem three {l : List Int} (h : l.length = 3) : ∃ x y z, l = [x, y, z] := by
  match l, h with
  | [x, y, z], _ => exact ⟨x, y, z, rfl⟩

theorem marksPlain_ok (a : List Int) (k : Int) (la : a.length = 3) (ha : ∀ x ∈ a, 0 ≤ x) : circalaw13_MarksPlain 5000 a k = some true := by
  obtain ⟨x, y, z, rfl⟩ := three la
  have hx := ha x (by simp)
  have hy := ha y (by simp)
  have hz := ha z (by simp)
  obtain ⟨e, e1, e2, e3⟩ := all_eq x y z k hx hy hz
  rw [core_plain, lives13]
  by_cases he : e = 0
  · obtain ⟨g1, g2, g3, g4, g5, g6⟩ := e3 he
    exact plain_good x y z k g1 hx hy hz g2 g3 g4 g5 g6
  · have q : (e != 0) = true := by simp [he]
    have s : marks_Plain 5000 [x, y, z] k = some ([0, 0, 0], [0, 0, 0], e) := by
      show ob (marks_All 5000 [x, y, z] k) _ = _
      rw [e2]
      show cond (e != 0) _ _ = _
      rw [q]; rfl
    simp [coreMarksPlain, e1, s, ob, he, q]

end Go.Sh
