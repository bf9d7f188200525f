/- Chapter 31: RelationsKnown.
   Conditions: none. -/
import Derived.Test.YtpeccjabfkaicaaDoorLawRkB
import Derived.Test.YtpeccjabfkaicaaDoorLawReF
import Derived.Test.YtpeccjabfkaicaaDoorLawReV
set_option linter.unusedVariables false
set_option linter.unusedSimpArgs false
set_option maxRecDepth 100000
namespace Go.Sh
open Go.Abs

/-- How many relations may come out of two. -/
def Cn (i j : Nat) : Nat := (Lr (tabN i j) 14).length
def Gn (i k : Nat) : Nat := (List.range k).foldl (fun s b => s + Cn i (b + 1)) 0
def Bn (a : Nat) : Nat := (List.range a).foldl (fun s c => s + Gn (c + 1) 13) 0

theorem Gn_succ (i k : Nat) : Gn i (k + 1) = Gn i k + Cn i (k + 1) := by
  unfold Gn
  rw [List.range_succ, List.foldl_append]; rfl
theorem Bn_succ (a : Nat) : Bn (a + 1) = Bn a + Gn (a + 1) 13 := by
  unfold Bn
  rw [List.range_succ, List.foldl_append]; rfl

theorem cells : ((List.range 13).all fun a => (List.range 13).all fun b =>
    Nat.blt (tabN (a + 1) (b + 1)) 16384 && !(tabN (a + 1) (b + 1)).testBit 0 && (tbl[14 * (a + 1) + (b + 1)]? == some (tabN (a + 1) (b + 1)))
      && (imgS cv (tabN (a + 1) (b + 1)) == tabN (cv (b + 1)) (cv (a + 1))) && Nat.blt (Bn a + Gn (a + 1) (b + 1)) 100000) = true := by decide +kernel

theorem cell {a b : Nat} (ha : a < 13) (hb : b < 13) : okS (tabN (a + 1) (b + 1)) ∧ tbl[14 * (a + 1) + (b + 1)]? = some (tabN (a + 1) (b + 1))
    ∧ imgS cv (tabN (a + 1) (b + 1)) = tabN (cv (b + 1)) (cv (a + 1)) ∧ Bn a + Gn (a + 1) (b + 1) < 100000 := by
  have h := (List.all_eq_true.1 ((List.all_eq_true.1 cells) a (List.mem_range.2 ha))) b (List.mem_range.2 hb)
  simp only [Bool.and_eq_true, Nat.blt_eq, beq_iff_eq, Bool.not_eq_true'] at h
  obtain ⟨⟨⟨⟨h1, h2⟩, h3⟩, h4⟩, h5⟩ := h
  exact ⟨⟨h1, h2⟩, h3, h4, h5⟩

def sevens : Bool := (List.range 13).all fun a =>
  (IntKind.wrap .u16 ((1 : Int) * 2 ^ (min (Int.toNat ((a + 1 : Nat) : Int)) (IntKind.bits .u16))) == ((tabN 7 (a + 1) : Nat) : Int)) && (tabN (a + 1) 7 == tabN 7 (a + 1))
theorem sevens_ok : sevens = true := by decide +kernel
theorem seven {a : Nat} (ha : a < 13) : IntKind.wrap .u16 ((1 : Int) * 2 ^ (min (Int.toNat ((a + 1 : Nat) : Int)) (IntKind.bits .u16))) = ((tabN 7 (a + 1) : Nat) : Int) ∧ tabN (a + 1) 7 = tabN 7 (a + 1) := by
  have h := (List.all_eq_true.1 sevens_ok) a (List.mem_range.2 ha)
  simp only [Bool.and_eq_true, beq_iff_eq] at h
  exact h

theorem comp_eq {r s : Nat} (h1 : 1 ≤ r) (h2 : r < 14) (h3 : 1 ≤ s) (h4 : s < 14) : relations_Compose 300 (r : Int) (s : Int) = some (((tabN r s : Nat) : Int), 0) := by
  have h := rel_Compose 100 (r : Int) (s : Int)
  rw [if_pos (by omega), (tabN_ok h1 h2 h3 h4).1] at h
  exact h

/-- The table, as the program holds it. -/
def Tb : List Int := tbl.map fun x : Nat => (x : Int)
theorem Tb_len : Tb.length = 196 := by unfold Tb; rw [List.length_map, tbl_len]

theorem k1_step {a : Nat} (ha : a < 13) (b : Nat) (hb : b < 13) : circalaw31_RelationsKnown_l1 300 (((Bn a + Gn (a + 1) b : Nat) : Int), ((a + 1 : Nat) : Int), ((b + 1 : Nat) : Int), Tb)
    = some (.inl (((Bn a + Gn (a + 1) (b + 1) : Nat) : Int), ((a + 1 : Nat) : Int), ((b + 1 + 1 : Nat) : Int), Tb)) := by
  obtain ⟨hs, ht, hc, hn⟩ := cell ha hb
  have w1 : IntKind.wrap .u8 ((a + 1 : Nat) : Int) = ((a + 1 : Nat) : Int) := wrap_u8 _ (by omega) (by omega)
  have w2 : IntKind.wrap .u8 ((b + 1 : Nat) : Int) = ((b + 1 : Nat) : Int) := wrap_u8 _ (by omega) (by omega)
  have w3 : IntKind.wrap .u8 (IntKind.wrap .i64 (14 - ((b + 1 : Nat) : Int))) = ((cv (b + 1) : Nat) : Int) := by
    rw [wrap_i64 _ (by omega) (by omega), wrap_u8 _ (by omega) (by omega)]; unfold cv; omega
  have w4 : IntKind.wrap .u8 (IntKind.wrap .i64 (14 - ((a + 1 : Nat) : Int))) = ((cv (a + 1) : Nat) : Int) := by
    rw [wrap_i64 _ (by omega) (by omega), wrap_u8 _ (by omega) (by omega)]; unfold cv; omega
  have c1 := comp_eq (r := a + 1) (s := b + 1) (by omega) (by omega) (by omega) (by omega)
  have c2 := comp_eq (r := cv (b + 1)) (s := cv (a + 1)) (by unfold cv; omega) (by unfold cv; omega) (by unfold cv; omega) (by unfold cv; omega)
  have h16 : tabN (a + 1) (b + 1) < 65536 := by have := hs.1; omega
  have c3 := set_conv 0 h16
  rw [if_pos hs, hc, Nat.zero_add] at c3
  have c4 := set_count 0 h16
  rw [Nat.zero_add] at c4
  have w5 : IntKind.wrap .i64 (IntKind.wrap .i64 (14 * ((a + 1 : Nat) : Int)) + ((b + 1 : Nat) : Int)) = ((14 * (a + 1) + (b + 1) : Nat) : Int) := by
    rw [wrap_i64 (14 * _) (by omega) (by omega), wrap_i64 _ (by omega) (by omega)]; omega
  have x1 : ix Tb.length ((14 * (a + 1) + (b + 1) : Nat) : Int) = some (14 * (a + 1) + (b + 1)) := ix_nat (by rw [Tb_len]; omega)
  have x2 : Tb[14 * (a + 1) + (b + 1)]? = some ((tabN (a + 1) (b + 1) : Nat) : Int) := by
    unfold Tb; rw [List.getElem?_map, ht]; rfl
  have w6 : IntKind.wrap .i64 ((tabN (a + 1) (b + 1) : Nat) : Int) = ((tabN (a + 1) (b + 1) : Nat) : Int) := wrap_i64 _ (by omega) (by omega)
  have hg := Gn_succ (a + 1) b
  have w7 : IntKind.wrap .i64 (((Bn a + Gn (a + 1) b : Nat) : Int) + (((Lr (tabN (a + 1) (b + 1)) 14).length : Nat) : Int)) = ((Bn a + Gn (a + 1) (b + 1) : Nat) : Int) := by
    have e : Cn (a + 1) (b + 1) = (Lr (tabN (a + 1) (b + 1)) 14).length := rfl
    rw [hg, ← e, wrap_i64 _ (by omega) (by omega)]; omega
  have w8 : IntKind.wrap .i64 (((b + 1 : Nat) : Int) + 1) = ((b + 1 + 1 : Nat) : Int) := by rw [wrap_i64 _ (by omega) (by omega)]; omega
  have d1 : decide (((b + 1 : Nat) : Int) < 14) = true := decide_eq_true (by omega)
  have z0 : ((0 : Int) != 0) = false := rfl
  generalize hT : Tb = T at *
  unfold circalaw31_RelationsKnown_l1
  simp only [] 
  simp only [d1, cond_true, w1, w2, w3, w4, c1, c2, ob_go]
  simp only [c3, c4, z0, cond_false, w5, x1, x2, ob_go, w6, bne_self_eq_false, w7, w8]

theorem k1_loop {a : Nat} (ha : a < 13) : iterL (circalaw31_RelationsKnown_l1 300) 300 (((Bn a : Nat) : Int), ((a + 1 : Nat) : Int), 1, Tb) = some (.inr (((Bn (a + 1) : Nat) : Int), ((a + 1 : Nat) : Int), Tb)) := by
  have hb := Bn_succ a
  have := fold_loop (step := circalaw31_RelationsKnown_l1 300) (f := fun k (_ : Unit) => (((Bn a + Gn (a + 1) k : Nat) : Int), ((a + 1 : Nat) : Int), ((k + 1 : Nat) : Int), Tb))
    (y := fun _ => (Sum.inr (((Bn (a + 1) : Nat) : Int), ((a + 1 : Nat) : Int), Tb) : Bool ⊕ (Int × Int × List Int))) (u := fun _ _ => ()) (n := 13)
    (fun k _ hk => k1_step ha k hk)
    (fun _ => by
      rw [hb]
      generalize Tb = T
      unfold circalaw31_RelationsKnown_l1
      simp only []
      rw [decide_eq_false (show ¬ ((13 + 1 : Nat) : Int) < 14 by omega)]; rfl)
    (N := 300) (by omega) ()
  exact this

theorem k0_step (a : Nat) (ha : a < 13) : circalaw31_RelationsKnown_l0 300 (((Bn a : Nat) : Int), ((a + 1 : Nat) : Int), Tb)
    = some (.inl (((Bn (a + 1) : Nat) : Int), ((a + 1 + 1 : Nat) : Int), Tb)) := by
  have hl := k1_loop ha
  have w1 : IntKind.wrap .u8 ((a + 1 : Nat) : Int) = ((a + 1 : Nat) : Int) := wrap_u8 _ (by omega) (by omega)
  have w4 : IntKind.wrap .u8 (IntKind.wrap .i64 (14 - ((a + 1 : Nat) : Int))) = ((cv (a + 1) : Nat) : Int) := by
    rw [wrap_i64 _ (by omega) (by omega), wrap_u8 _ (by omega) (by omega)]; unfold cv; omega
  have c1 := comp_eq (r := 7) (s := a + 1) (by omega) (by omega) (by omega) (by omega)
  have c2 := comp_eq (r := a + 1) (s := 7) (by omega) (by omega) (by omega) (by omega)
  obtain ⟨s1, s2⟩ := seven ha
  rw [s2] at c2
  have hnm := relationsNames_ok 0 ((a + 1 : Nat) : Int) ((cv (a + 1) : Nat) : Int) (by omega) (by omega) (by omega) (by unfold cv; omega)
  rw [Nat.zero_add] at hnm
  have w8 : IntKind.wrap .i64 (((a + 1 : Nat) : Int) + 1) = ((a + 1 + 1 : Nat) : Int) := by rw [wrap_i64 _ (by omega) (by omega)]; omega
  have d1 : decide (((a + 1 : Nat) : Int) < 14) = true := decide_eq_true (by omega)
  have d2 : decide (((a + 1 : Nat) : Int) < 0) = false := decide_eq_false (by omega)
  have z0 : ((0 : Int) != 0) = false := rfl
  rw [show ((7 : Nat) : Int) = 7 from rfl] at c1 c2
  generalize Tb = T at *
  unfold circalaw31_RelationsKnown_l0
  simp only []
  generalize iterL (circalaw31_RelationsKnown_l1 300) 300 = F at *
  simp only [d1, cond_true, hl, ob_go, w1, c1, c2, z0, cond_false, d2, s1, bne_self_eq_false, w4]
  simp only [hnm, ob_go, Bool.not_true, cond_false, w8]

theorem known_l0 : iterL (circalaw31_RelationsKnown_l0 300) 300 (0, 1, Tb) = some (Sum.inr 409) := by
  have := fold_loop (step := circalaw31_RelationsKnown_l0 300) (f := fun k (_ : Unit) => (((Bn k : Nat) : Int), ((k + 1 : Nat) : Int), Tb))
    (y := fun _ => (Sum.inr ((Bn 13 : Nat) : Int) : Bool ⊕ Int)) (u := fun _ _ => ()) (n := 13)
    (fun k _ hk => k0_step k hk)
    (fun _ => by
      generalize Tb = T
      generalize Bn 13 = B
      unfold circalaw31_RelationsKnown_l0
      simp only []
      rw [decide_eq_false (show ¬ ((13 + 1 : Nat) : Int) < 14 by omega)]; rfl)
    (N := 300) (by omega) ()
  rw [show Bn 13 = 409 by decide +kernel] at this
  exact this

end Go.Sh
