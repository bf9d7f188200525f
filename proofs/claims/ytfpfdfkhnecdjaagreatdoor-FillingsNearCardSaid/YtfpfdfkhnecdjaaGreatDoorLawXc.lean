/- Plain proofs, kept as far as they are needed here (printed by prune.py).
   Conditions: none. -/
import Derived.Test.YtfpfdfkhnecdjaaGreatDoorLawXb
set_option linter.unusedVariables false
set_option linter.unusedSimpArgs false
set_option maxRecDepth 100000
namespace Go.Sh
open Go.Abs
theorem wrap_i64_range (x : Int) : -9223372036854775808 ≤ IntKind.wrap .i64 x ∧ IntKind.wrap .i64 x < 9223372036854775808 := by
  simp only [IntKind.wrap, IntKind.signed, IntKind.bits]
  simp
  omega
theorem near_j3 {g l : Bool} {dg : List UInt8} {x q : Int} (hok : okY g l dg x q) (near : Bool) (cy cm cd : Int) (hcy : -9223372036854775808 ≤ cy ∧ cy < 9223372036854775808) (m d : List UInt8) (k0 k1 k2 : Int) :
    ∃ cy', (-9223372036854775808 ≤ cy' ∧ cy' < 9223372036854775808) ∧ circalaw16_FillingsNear_j3 20000000 near cy cm cd g l dg x q m d k0 k1 k2 = some (cy', cm, cd, g, l, dg, x, q, m, d, k0, k1, k2) := by
  unfold circalaw16_FillingsNear_j3
  cases near with
  | false => exact ⟨cy, hcy, rfl⟩
  | true =>
    have hsm := ok_small hok
    have hsp : circaref14_Span 20000000 g l dg x q = _ := ref_Span 19999700 g l dg x q (by omega) hok
    obtain ⟨s1, s2, s3⟩ := in_span hok
    have h3 := s3 _ s2
    have b1 := inP_cal s1
    have b2 := inP_cal s2
    unfold inCal at b1 b2
    rw [hsp]
    simp only [ob, cond_true]
    generalize (sgn g (spanY g dg x q)).1 = a at *
    generalize (sgn g (spanY g dg x q)).2 = b at *
    have hn : IntKind.wrap .i64 (IntKind.wrap .i64 (b - a) + 3) = b - a + 3 := by
      rw [wrap_i64 (b - a) (by omega) (by omega), wrap_i64 _ (by omega) (by omega)]
    rw [hn, beq_eq_false_iff_ne.2 (show b - a + 3 ≠ 0 by omega)]
    exact ⟨_, wrap_i64_range _, rfl⟩
theorem near_l0 (g l : Bool) (dg : List UInt8) (x q : Int) (m d : List UInt8) (k0 k1 k2 : Int) (L : List (Int × Int × Int)) (hL : L.length ≤ 10001000) (x0 x2 : Bool) (x1 x3 cy cm cd f1 f2 f3 p1 p2 p3 : Int) :
    iterL (circalaw16_FillingsNear_l0 20000000) 20000000 (x0, x1, x2, x3, 0, cy, cm, cd, g, l, dg, x, q, m, d, k0, k1, k2, f1, f2, f3, p1, p2, p3, L) =
      some (x0, x1, x2, x3, ((L.findIdx (seen true (comps m d) (cy, cm, cd)) : Nat) : Int), cy, cm, cd, g, l, dg, x, q, m, d, k0, k1, k2, f1, f2, f3, p1, p2, p3, L) := by
  have := idx_loop (step := circalaw16_FillingsNear_l0 20000000) (f := fun i => (x0, x1, x2, x3, (i : Int), cy, cm, cd, g, l, dg, x, q, m, d, k0, k1, k2, f1, f2, f3, p1, p2, p3, L)) (y := fun i => (x0, x1, x2, x3, (i : Int), cy, cm, cd, g, l, dg, x, q, m, d, k0, k1, k2, f1, f2, f3, p1, p2, p3, L)) (L := L) (p := seen true (comps m d) (cy, cm, cd))
    (fun i hi => by
      have w1 : IntKind.wrap .i64 ((i : Int) + 1) = ((i + 1 : Nat) : Int) := by rw [wrap_i64 _ (by omega) (by omega)]; omega
      have hcmp := ref_Compare g l dg x q m d k0 k1 k2 L[i] (cy, cm, cd)
      simp only [] at hcmp
      unfold circalaw16_FillingsNear_l0 circalaw16_FillingsNear_j15
      simp only [d4, d8, d16]
      rw [decide_eq_true (show (i : Int) < ((L.length : Nat) : Int) by omega), ix_nat hi]
      simp only [cond_true, ob, List.getElem?_eq_getElem hi, hcmp]
      unfold seen
      by_cases h : cmpC (comps m d) L[i] (cy, cm, cd) < 0
      · have e1 : decide (cmpC (comps m d) L[i] (cy, cm, cd) < 0) = true := decide_eq_true h
        have e2 : decide (¬ cmpC (comps m d) L[i] (cy, cm, cd) < 0) = false := decide_eq_false (fun hn => hn h)
        simp only [e1, e2, cond_true, w1, Bool.false_eq_true, if_false]
      · have e1 : decide (cmpC (comps m d) L[i] (cy, cm, cd) < 0) = false := decide_eq_false h
        have e2 : decide (¬ cmpC (comps m d) L[i] (cy, cm, cd) < 0) = true := decide_eq_true h
        simp only [e1, e2, cond_true, cond_false, if_true])
    (by
      unfold circalaw16_FillingsNear_l0 circalaw16_FillingsNear_j15
      simp only [d4, d8, d16]
      rw [decide_eq_false (show ¬ ((L.length : Nat) : Int) < ((L.length : Nat) : Int) by omega)]
      rfl)
    (N := 20000000) (by omega)
  exact this
theorem near_j24 {g l : Bool} {dg : List UInt8} {x q : Int} {m d : List UInt8} {k0 k1 k2 : Int} {cy cm cd : Int} {L : List (Int × Int × Int)} (x0 x2 is : Bool) (a back f1 f2 f3 p1 p2 p3 : Int)
    (h0 : x0 = decide (a < ((L.length : Nat) : Int))) (h2 : x2 = decide (back ≥ 0)) (hH : fillings_Has 20000000 g l dg x q m d k0 k1 k2 cy cm cd = some is) :
    circalaw16_FillingsNear_j24 20000000 x0 0 x2 0 a is back cy cm cd g l dg x q m d k0 k1 k2 f1 f2 f3 p1 p2 p3 L = some (x0, x2, a, back, false, f1, f2, f3, p1, p2, p3, L) := by
  unfold circalaw16_FillingsNear_j24
  rw [← h0, ← h2, hH]
  simp only [bne_self_eq_false, cond_false, BEq.rfl, Bool.not_true, ob]
theorem near_j27 {L : List (Int × Int × Int)} (x0 x1 : Bool) (a back f1 f2 f3 p1 p2 p3 : Int)
    (h0 : x0 = true → ∃ i : Nat, a = (i : Int) ∧ L[i]? = some (f1, f2, f3)) (h0' : x0 = false → f1 = 0 ∧ f2 = 0 ∧ f3 = 0)
    (h1 : x1 = true → ∃ i : Nat, back = (i : Int) ∧ L[i]? = some (p1, p2, p3)) (h1' : x1 = false → p1 = 0 ∧ p2 = 0 ∧ p3 = 0) :
    circalaw16_FillingsNear_j27 20000000 x0 x1 a back f1 f2 f3 p1 p2 p3 L = some true := by
  unfold circalaw16_FillingsNear_j27
  rw [fi_lives]
  cases x0
  · obtain ⟨rfl, rfl, rfl⟩ := h0' rfl
    cases x1
    · obtain ⟨rfl, rfl, rfl⟩ := h1' rfl
      rfl
    · obtain ⟨i, rfl, hi⟩ := h1 rfl
      have hl := (List.getElem?_eq_some_iff.1 hi).1
      simp only [Bool.not_false, Bool.not_true, cond_true, cond_false, ix_nat hl, ob, hi, BEq.rfl, Bool.and_self]
  · obtain ⟨i, rfl, hi⟩ := h0 rfl
    have hl := (List.getElem?_eq_some_iff.1 hi).1
    cases x1
    · obtain ⟨rfl, rfl, rfl⟩ := h1' rfl
      simp only [Bool.not_false, Bool.not_true, cond_true, cond_false, ix_nat hl, ob, hi, BEq.rfl, Bool.and_self]
    · obtain ⟨j, rfl, hj⟩ := h1 rfl
      have hl' := (List.getElem?_eq_some_iff.1 hj).1
      simp only [Bool.not_false, Bool.not_true, cond_true, cond_false, ix_nat hl, ix_nat hl', ob, hi, hj, BEq.rfl, Bool.and_self]
theorem fillingsNear_ok (a0 a2 a3 a4 a5 a6 a7 a8 a9 : Nat) (g : Bool) (cy cm cd : Int) (near : Bool) (h2 : a2 < 65536) (h3 : a3 < 256) (h4 : a4 < 256) (h5 : a5 < 256) (h6 : a6 < 256) (h7 : a7 < 256) (h8 : a8 < 256) (h9 : a9 < 256) (hcy : -9223372036854775808 ≤ cy ∧ cy < 9223372036854775808) :
    circalaw16_FillingsNear 20000000 (a0 : Int) g (a2 : Int) (a3 : Int) (a4 : Int) (a5 : Int) (a6 : Int) (a7 : Int) (a8 : Int) (a9 : Int) cy cm cd near = some true := by
  obtain ⟨g', l, dg, x, q, mo, d, k0, k1, k2, e, hc, hok, hf⟩ := D_of16 19999700 a0 a2 a3 a4 a5 a6 a7 a8 a9 g h2 h3 h4 h5 h6 h7 h8 h9
  rw [show 19999700 + 300 = 20000000 from rfl] at e
  have hml : mo.length ≤ 18 := by
    rcases hok.mon with h | h
    · rw [h]; simp
    · omega
  have hdl : dg.length ≤ 100 := by have := hok.dg17; omega
  have hY := (chk_parts hc).1
  have n0 : (0 : Int) ≤ ((k0 : Nat) : Int) := by omega
  have n1 : (0 : Int) ≤ ((k1 : Nat) : Int) := by omega
  have n2 : (0 : Int) ≤ ((k2 : Nat) : Int) := by omega
  obtain ⟨c1, hc1, ej⟩ := near_j3 hY near cy cm cd hcy mo d k0 k1 k2
  have hE := fit_errF hc hf
  unfold circalaw16_FillingsNear
  rw [e]
  simp only [ob, d4, d8]
  rw [ej]
  simp only [ob, d4, d8]
  by_cases hq : 0 < ((q : Nat) : Int)
  · rw [if_pos hq] at hE
    have he : errF g' l dg (x : Int) (q : Int) mo d (k0 : Int) (k1 : Int) (k2 : Int) ≠ 0 := by omega
    rw [Next_err hml hdl n0 n1 n2 he c1 cm cd hc1, Prev_err hml hdl n0 n1 n2 he c1 cm cd hc1, hE]
    simp only [ob, outN, Option.elim, d4]
    rw [decide_eq_true (show ((q : Nat) : Int) > 0 from hq)]
    unfold circalaw16_FillingsNear_j11
    rw [Has_err hml hdl n0 n1 n2 he c1 cm cd hc1, fi_lives]
    rfl
  · rw [if_neg hq] at hE
    rw [Next_all hml hdl n0 n1 n2 hE c1 cm cd hc1, Prev_all hml hdl n0 n1 n2 hE c1 cm cd hc1]
    have hH := Has_all hml hdl n0 n1 n2 hE c1 cm cd hc1
    obtain ⟨hq0, R⟩ := errF_zero hE
    simp only [ob, hq0]
    rw [hq0] at hH
    rw [decide_eq_false (show ¬ (0 : Int) > 0 by omega), ref_All R.ok]
    simp only [cond_false]
    rw [near_l0 _ _ _ _ _ _ _ _ _ _ _ (allD_len R.ok mo d)]
    simp only [d4, d8, d16]
    have P := place_of (all_sorted (g := g') (dg := dg) (x := (x : Int)) R.dm) (c1, cm, cd)
    rw [place_next P]
    have hal := allD_len R.ok mo d
    generalize allD g' dg (x : Int) mo d = L at *
    generalize L.findIdx (seen true (comps mo d) (c1, cm, cd)) = a at *
    have hle := P.le
    have w1 : IntKind.wrap .i64 ((a : Int) - 1) = (a : Int) - 1 := wrap_i64 _ (by omega) (by omega)
    -- whether the civil is a filling, and what lies ahead of it
    have key : ∀ (is : Bool) (back : Int) (o : Option (Int × Int × Int)),
        circalaw16_FillingsNear_j19 20000000 (outN L[a]? 0).2.2.2.1 (outN L[a]? 0).2.2.2.2 (outN o 0).2.2.2.1 (outN o 0).2.2.2.2 (a : Int) c1 cm cd g' l dg (x : Int) 0 mo d (k0 : Int) (k1 : Int) (k2 : Int) (outN L[a]? 0).1 (outN L[a]? 0).2.1 (outN L[a]? 0).2.2.1 (outN o 0).1 (outN o 0).2.1 (outN o 0).2.2.1 L =
          some ((outN L[a]? 0).2.2.2.1, (outN L[a]? 0).2.2.2.2, (outN o 0).2.2.2.1, (outN o 0).2.2.2.2, (a : Int), is, c1, cm, cd, g', l, dg, (x : Int), 0, mo, d, (k0 : Int), (k1 : Int), (k2 : Int), (outN L[a]? 0).1, (outN L[a]? 0).2.1, (outN L[a]? 0).2.2.1, (outN o 0).1, (outN o 0).2.1, (outN o 0).2.2.1, L) →
        back = (cond is (a : Int) ((a : Int) - 1)) → (L.any fun z => decide (cmpC (comps mo d) z (c1, cm, cd) = 0)) = is → L.reverse.find? (seen false (comps mo d) (c1, cm, cd)) = o → (o = if back ≥ 0 then L[back.toNat]? else none) → (o = none → ¬ back ≥ 0) →
        (ob (circalaw16_FillingsNear_j19 20000000 (outN L[a]? 0).2.2.2.1 (outN L[a]? 0).2.2.2.2 (outN (L.reverse.find? (seen false (comps mo d) (c1, cm, cd))) 0).2.2.2.1 (outN (L.reverse.find? (seen false (comps mo d) (c1, cm, cd))) 0).2.2.2.2 (a : Int) c1 cm cd g' l dg (x : Int) 0 mo d (k0 : Int) (k1 : Int) (k2 : Int) (outN L[a]? 0).1 (outN L[a]? 0).2.1 (outN L[a]? 0).2.2.1 (outN (L.reverse.find? (seen false (comps mo d) (c1, cm, cd))) 0).1 (outN (L.reverse.find? (seen false (comps mo d) (c1, cm, cd))) 0).2.1 (outN (L.reverse.find? (seen false (comps mo d) (c1, cm, cd))) 0).2.2.1 L) fun y4480 => (ob (circalaw16_FillingsNear_j22 20000000 y4480.1 y4480.2.1 y4480.2.2.1 y4480.2.2.2.1 (d4 y4480).1 (d4 y4480).2.1 (IntKind.wrap .i64 ((d4 y4480).1 - 1)) (d4 y4480).2.1 (d4 y4480).2.2.1 (d4 y4480).2.2.2.1 (d8 y4480).1 (d8 y4480).2.1 (d8 y4480).2.2.1 (d8 y4480).2.2.2.1 (d4 (d8 y4480)).1 (d4 (d8 y4480)).2.1 (d4 (d8 y4480)).2.2.1 (d4 (d8 y4480)).2.2.2.1 (d16 y4480).1 (d16 y4480).2.1 (d16 y4480).2.2.1 (d16 y4480).2.2.2.1 (d4 (d16 y4480)).1 (d4 (d16 y4480)).2.1 (d4 (d16 y4480)).2.2.1 (d4 (d16 y4480)).2.2.2.1 (d8 (d16 y4480)).1 (d8 (d16 y4480)).2) fun y4481 => (ob (circalaw16_FillingsNear_j24 20000000 y4481.1 y4481.2.1 y4481.2.2.1 y4481.2.2.2.1 (d4 y4481).1 (d4 y4481).2.1 (d4 y4481).2.2.1 (d4 y4481).2.2.2.1 (d8 y4481).1 (d8 y4481).2.1 (d8 y4481).2.2.1 (d8 y4481).2.2.2.1 (d4 (d8 y4481)).1 (d4 (d8 y4481)).2.1 (d4 (d8 y4481)).2.2.1 (d4 (d8 y4481)).2.2.2.1 (d16 y4481).1 (d16 y4481).2.1 (d16 y4481).2.2.1 (d16 y4481).2.2.2.1 (d4 (d16 y4481)).1 (d4 (d16 y4481)).2.1 (d4 (d16 y4481)).2.2.1 (d4 (d16 y4481)).2.2.2.1 (d8 (d16 y4481)).1 (d8 (d16 y4481)).2.1 (d8 (d16 y4481)).2.2) fun y4483 => (cond (d4 y4483).1 (some false) (ob (circalaw16_FillingsNear_j27 20000000 y4483.1 y4483.2.1 y4483.2.2.1 y4483.2.2.2.1 (d4 y4483).2.1 (d4 y4483).2.2.1 (d4 y4483).2.2.2.1 (d8 y4483).1 (d8 y4483).2.1 (d8 y4483).2.2.1 (d8 y4483).2.2.2) fun y4510 => (some y4510)))))) = some true := by
      intro is back o j19 hback hany ho hob hon
      rw [ho, j19]
      rw [hany] at hH
      simp only [ob, d4, d8, d16]
      have j22 : circalaw16_FillingsNear_j22 20000000 (outN L[a]? 0).2.2.2.1 (outN L[a]? 0).2.2.2.2 (outN o 0).2.2.2.1 (outN o 0).2.2.2.2 (a : Int) is (IntKind.wrap .i64 ((a : Int) - 1)) is c1 cm cd g' l dg (x : Int) 0 mo d (k0 : Int) (k1 : Int) (k2 : Int) (outN L[a]? 0).1 (outN L[a]? 0).2.1 (outN L[a]? 0).2.2.1 (outN o 0).1 (outN o 0).2.1 (outN o 0).2.2.1 L = some ((outN L[a]? 0).2.2.2.1, (outN L[a]? 0).2.2.2.2, (outN o 0).2.2.2.1, (outN o 0).2.2.2.2, (a : Int), is, back, c1, cm, cd, g', l, dg, (x : Int), 0, mo, d, (k0 : Int), (k1 : Int), (k2 : Int), (outN L[a]? 0).1, (outN L[a]? 0).2.1, (outN L[a]? 0).2.2.1, (outN o 0).1, (outN o 0).2.1, (outN o 0).2.2.1, L) := by
        unfold circalaw16_FillingsNear_j22
        rw [w1, hback]
        cases is <;> rfl
      rw [j22]
      simp only [d4, d8, d16]
      have z4 : ∀ o' : Option (Int × Int × Int), (outN o' 0).2.2.2.2 = 0 := fun o' => by cases o' <;> rfl
      have f4 : ∀ o' : Option (Int × Int × Int), (outN o' 0).2.2.2.1 = o'.isSome := fun o' => by cases o' <;> rfl
      rw [z4, z4, near_j24 _ _ _ _ _ _ _ _ _ _ _ (by
        rw [f4]
        by_cases h : a < L.length
        · rw [List.getElem?_eq_getElem h, decide_eq_true (by omega)]; rfl
        · rw [List.getElem?_eq_none (by omega), decide_eq_false (by omega)]; rfl) (by
        rw [f4]
        cases ho' : o with
        | none => rw [decide_eq_false (hon ho')]; rfl
        | some z =>
          by_cases hb : back ≥ 0
          · rw [decide_eq_true hb]; rfl
          · rw [if_neg hb] at hob; rw [hob] at ho'; cases ho') hH]
      simp only [cond_false, ob, d4, d8, d16]
      have J : circalaw16_FillingsNear_j27 20000000 (outN L[a]? 0).2.2.2.1 (outN o 0).2.2.2.1 (a : Int) back (outN L[a]? 0).1 (outN L[a]? 0).2.1 (outN L[a]? 0).2.2.1 (outN o 0).1 (outN o 0).2.1 (outN o 0).2.2.1 L = some true := by
        apply near_j27
        · intro hs
          cases hz : L[a]? with
          | none => rw [hz] at hs; cases hs
          | some z => exact ⟨a, rfl, hz⟩
        · intro hs
          cases hz : L[a]? with
          | none => exact ⟨rfl, rfl, rfl⟩
          | some z => rw [hz] at hs; cases hs
        · intro hs
          cases ho' : o with
          | none => rw [ho'] at hs; cases hs
          | some z =>
            by_cases hb : back ≥ 0
            · rw [if_pos hb] at hob
              exact ⟨back.toNat, by omega, by rw [← hob, ho']; rfl⟩
            · rw [if_neg hb] at hob; rw [hob] at ho'; cases ho'
        · intro hs
          cases ho' : o with
          | none => exact ⟨rfl, rfl, rfl⟩
          | some z => rw [ho'] at hs; cases hs
      rw [J]
    have hcmp : ∀ z : Int × Int × Int, circaref16_Compare 20000000 g' l dg (x : Int) 0 mo d (k0 : Int) (k1 : Int) (k2 : Int) z.1 z.2.1 z.2.2 c1 cm cd = some (cmpC (comps mo d) z (c1, cm, cd)) := fun z => ref_Compare g' l dg (x : Int) 0 mo d (k0 : Int) (k1 : Int) (k2 : Int) z (c1, cm, cd)
    by_cases hal' : a < L.length
    · by_cases h0 : cmpC (comps mo d) L[a] (c1, cm, cd) = 0
      · refine key true (a : Int) (some L[a]) ?_ rfl ((place_any P).2 ⟨hal', h0⟩) (place_prev_is P hal' h0) ?_ (fun h => by cases h)
        · unfold circalaw16_FillingsNear_j19
          rw [decide_eq_true (by omega), ix_nat hal']
          simp only [cond_true, ob, List.getElem?_eq_getElem hal', hcmp, h0, BEq.rfl]
        · rw [if_pos (by omega), Int.toNat_natCast, List.getElem?_eq_getElem hal']
      · refine key false ((a : Int) - 1) _ ?_ rfl ?_ (place_prev_no P (fun _ => h0)) ?_ ?_
        · unfold circalaw16_FillingsNear_j19
          rw [decide_eq_true (by omega), ix_nat hal']
          simp only [cond_true, ob, List.getElem?_eq_getElem hal', hcmp, beq_eq_false_iff_ne.2 h0]
        · rw [← Bool.not_eq_true, place_any P]
          rintro ⟨_, h⟩
          exact h0 h
        · by_cases ha : a = 0
          · rw [if_pos ha, if_neg (by omega)]
          · rw [if_neg ha, if_pos (by omega), show ((a : Int) - 1).toNat = a - 1 by omega]
        · by_cases ha : a = 0
          · intro _; omega
          · rw [if_neg ha, List.getElem?_eq_getElem (show a - 1 < L.length by omega)]
            intro h; cases h
    · refine key false ((a : Int) - 1) _ ?_ rfl ?_ (place_prev_no P (fun h => absurd h hal')) ?_ ?_
      · unfold circalaw16_FillingsNear_j19
        rw [decide_eq_false (by omega)]
        rfl
      · rw [← Bool.not_eq_true, place_any P]
        rintro ⟨h, _⟩
        exact hal' h
      · by_cases ha : a = 0
        · rw [if_pos ha, if_neg (by omega)]
        · rw [if_neg ha, if_pos (by omega), show ((a : Int) - 1).toNat = a - 1 by omega]
      · by_cases ha : a = 0
        · intro _; omega
        · rw [if_neg ha, List.getElem?_eq_getElem (show a - 1 < L.length by omega)]
          intro h; cases h
theorem ob_some {A B : Type} (a : A) (f : A → Option B) : ob (some a) f = f a := rfl
end Go.Sh
