/- Plain proofs, kept as far as they are needed here (printed by prune.py).
   Conditions: none. -/
import Derived.Test.YtfchdhhkohmedaaGreatDoorLawBzb
set_option linter.unusedVariables false
set_option linter.unusedSimpArgs false
set_option maxRecDepth 100000
namespace Go.Sh
open Go.Abs
theorem C8 {g l : Bool} {d : List UInt8} {x s : Int} (h : okY g l d x s) : okY g l d x 0 := by
  unfold okY at h ⊢
  cases l with
  | true =>
    rw [if_pos rfl] at h ⊢
    unfold okL at h ⊢
    refine ⟨h.1, Int.le_refl _, ?_⟩
    omega
  | false =>
    rw [if_neg (by simp)] at h ⊢
    unfold okS at h ⊢
    obtain ⟨h1, h2, h3, h4, h5, h6, h7⟩ := h
    exact ⟨h1, h2, h3, h4, Int.le_refl _, by omega, fun h => absurd h.1 (by omega)⟩
theorem AH (m a0 a2 a3 a4 a5 a6 a7 a8 a9 : Nat) (g : Bool) (h2 : a2 < 65536) (h3 : a3 < 256) (h4 : a4 < 256) (h5 : a5 < 256) (h6 : a6 < 256) :
    ∃ g' l dg x q mo d, aj (m + 300) (a0 : Int) g (a2 : Int) (a3 : Int) (a4 : Int) (a5 : Int) (a6 : Int) (a7 : Int) (a8 : Int) (a9 : Int) = some (g', l, dg, x, q, mo, d, ((mksT (cV mo d) a7 a8 a9).1 : Int), ((mksT (cV mo d) a7 a8 a9).2.1 : Int), ((mksT (cV mo d) a7 a8 a9).2.2 : Int)) ∧
      okY g' l dg x q ∧ nU g' dg x = false ∧ (a0 % 6 ≠ 3 → hasX dg = false) ∧ dg.length ≤ 5 ∧ (q ≠ 0 → mo = [] ∧ d = []) ∧ (q = 0 → mo = monT (a5 % 40)) ∧
      (d = [] ∨ (mo ∈ ((List.range 12).map fun i => two (i + 1)) ++ [[48, 88], [49, 88], [88, 50], [88, 88], [88, 48], [88, 57]] ∧ mo ≠ [] ∧ sea mo = 0 ∧ d = dayT (a6 % 40) mo)) := by
  obtain ⟨g', l, dg, x, q, e, hY, hd5, hx11, hnX⟩ := xn m a0 a2 a3 a4 g h2 h3 h4
  have hL := ue hY hd5 hx11
  have t7 : Int.tmod (a7 : Int) 4 = ((a7 % 4 : Nat) : Int) := rfl
  have t8 : Int.tmod (a8 : Int) 4 = ((a8 % 4 : Nat) : Int) := rfl
  have t9 : Int.tmod (a9 : Int) 4 = ((a9 % 4 : Nat) : Int) := rfl
  obtain ⟨s1, s2, s3, s4, s5, s6⟩ := iS hY
  have tail : ∀ (mo d : List UInt8) (o : Option (Bool × Bool × List UInt8 × Int × Int × List UInt8 × List UInt8 × Int × Int × Int)),
      (ob (ad (m + 300) g' l dg x q mo d 0 0 0) fun r => (cond (decide ((0 : Int) < r)) (ob (ad (m + 300) g' l dg x q mo d (Int.tmod (a7 : Int) 4) 0 0) fun r => (cond (decide ((1 : Int) < r)) (ob (ad (m + 300) g' l dg x q mo d (Int.tmod (a7 : Int) 4) (Int.tmod (a8 : Int) 4) 0) fun r => (cond (decide ((2 : Int) < r)) (ob (ad (m + 300) g' l dg x q mo d (Int.tmod (a7 : Int) 4) (Int.tmod (a8 : Int) 4) (Int.tmod (a9 : Int) 4)) fun r => (cond (decide ((3 : Int) < r)) none (some (g', l, dg, x, q, mo, d, (Int.tmod (a7 : Int) 4), (Int.tmod (a8 : Int) 4), (Int.tmod (a9 : Int) 4))))) (some (g', l, dg, x, q, mo, d, (Int.tmod (a7 : Int) 4), (Int.tmod (a8 : Int) 4), 0)))) (some (g', l, dg, x, q, mo, d, (Int.tmod (a7 : Int) 4), 0, 0)))) (some (g', l, dg, x, q, mo, d, 0, 0, 0)))) = some (g', l, dg, x, q, mo, d, ((mksT (cV mo d) a7 a8 a9).1 : Int), ((mksT (cV mo d) a7 a8 a9).2.1 : Int), ((mksT (cV mo d) a7 a8 a9).2.2 : Int)) := by
    intro mo d _
    have hc := ng mo d
    have : cV mo d = 1 ∨ cV mo d = 2 ∨ cV mo d = 3 := by omega
    rw [cg, cg, cg, cg]
    rcases this with h | h | h <;> rw [h] <;> rfl
  unfold aj
  rw [e]
  simp only [ob, d4]
  rw [dL]
  by_cases hq : q = 0
  · rw [if_pos hq]
    rw [oJ m _ _ _ _ _ a5 _ _ _ _ h5]
    have hml := rq (show a5 % 40 < 40 by omega)
    show ∃ g'_1 l_1 dg_1 x_1 q_1 mo_1 d, cond (!(monT (a5 % 40) == [])) _ _ = _ ∧ _
    by_cases hm0 : monT (a5 % 40) = []
    · refine ⟨g', l, dg, x, q, [], [], ?_, hY, hL, hnX, hd5, fun h => absurd hq h, fun _ => hm0.symm, .inl rfl⟩
      rw [hm0]
      exact tail [] [] none
    · rw [beq_eq_false_iff_ne.2 hm0]
      show ∃ g'_1 l_1 dg_1 x_1 q_1 mo_1 d, ob (ak (m + 300) g' l dg x q (monT (a5 % 40)) [] 0 0 0) _ = _ ∧ _
      rw [jU (m + 300) (by omega)]
      show ∃ g'_1 l_1 dg_1 x_1 q_1 mo_1 d, cond (sea (monT (a5 % 40)) == 0) _ _ = _ ∧ _
      rw [dL]
      by_cases hs : sea (monT (a5 % 40)) = 0
      · rw [if_pos hs]
        have hin := hml hs hm0
        rw [tn m _ _ _ _ _ _ a6 _ _ _ (monT (a5 % 40)) hin h6]
        exact ⟨g', l, dg, x, q, monT (a5 % 40), dayT (a6 % 40) (monT (a5 % 40)), tail _ _ none, hY, hL, hnX, hd5, fun h => absurd hq h, fun _ => rfl, .inr ⟨hin, hm0, hs, rfl⟩⟩
      · rw [if_neg hs]
        exact ⟨g', l, dg, x, q, monT (a5 % 40), [], tail _ [] none, hY, hL, hnX, hd5, fun h => absurd hq h, fun _ => rfl, .inl rfl⟩
  · rw [if_neg hq]
    exact ⟨g', l, dg, x, q, [], [], tail [] [] none, hY, hL, hnX, hd5, fun _ => ⟨rfl, rfl⟩, fun h => absurd h hq, .inl rfl⟩
theorem uU : ((List.range 34).all fun j => !hasX (monT j)) = true := by decide +kernel
theorem uw : (((List.range 12).map fun i => two (i + 1)).all fun mo => (List.range 32).all fun j => !hasX (dayT j mo)) = true := by decide +kernel
theorem zW : ((((List.range 12).map fun i => two (i + 1)) ++ [[48, 88], [49, 88], [88, 50], [88, 88], [88, 48], [88, 57]]).all fun mo => hasX mo || decide (mo ∈ (List.range 12).map fun i => two (i + 1))) = true := by decide +kernel
theorem Af (m a0 a2 a3 a4 a5 a6 a7 a8 a9 : Nat) (g : Bool) (h2 : a2 < 65536) (h3 : a3 < 256) (h4 : a4 < 256) (h5 : a5 < 256) (h6 : a6 < 256) (hf : a0 % 6 ≠ 3) (hm : a5 % 40 ≤ 33) (hd : a6 % 40 ≤ 31) :
    ∃ g' l dg x q mo d k0 k1 k2, aj (m + 300) (a0 : Int) g (a2 : Int) (a3 : Int) (a4 : Int) (a5 : Int) (a6 : Int) (a7 : Int) (a8 : Int) (a9 : Int) = some (g', l, dg, x, q, mo, d, ((k0 : Nat) : Int), ((k1 : Nat) : Int), ((k2 : Nat) : Int)) ∧
      0 ≤ q ∧ chkF g' l dg x 0 mo d (k0 : Int) (k1 : Int) (k2 : Int) = 0 ∧ exD dg mo d 0 = true ∧ mo.length ≤ 18 ∧ d.length ≤ 18 ∧ dg.length ≤ 100 := by
  obtain ⟨g', l, dg, x, q, mo, d, e, hY, hL, hnX, hd5, hq1, hq0, hday⟩ := AH m a0 a2 a3 a4 a5 a6 a7 a8 a9 g h2 h3 h4 h5 h6
  have hX := hnX hf
  have hmoX : hasX mo = false := by
    by_cases h : q = 0
    · rw [hq0 h]
      have := (List.all_eq_true.1 uU) (a5 % 40) (List.mem_range.2 (by omega))
      simpa using this
    · rw [(hq1 h).1]; rfl
  have hmo3 : mo = [] ∨ 0 < sea mo ∨ (sea mo = 0 ∧ cn mo 12 = true) := by
    by_cases h : q = 0
    · rw [hq0 h]; exact wE (by omega)
    · exact .inl (hq1 h).1
  have hdd : d = [] ∨ (mo ≠ [] ∧ sea mo = 0 ∧ cn d 31 = true ∧ fitD mo d = true ∧ hasX d = false) := by
    rcases hday with h | ⟨hin, hm0, hs, hde⟩
    · exact .inl h
    · have a1 := xl (show a6 % 40 < 40 by omega) hin
      have a2 := sB (show a6 % 40 < 40 by omega) hin
      rw [← hde] at a1 a2
      by_cases h0 : d = []
      · exact .inl h0
      · right
        refine ⟨hm0, hs, a1.resolve_left h0, a2.resolve_left h0, ?_⟩
        have b1 := (List.all_eq_true.1 zW) mo hin
        rw [hmoX, Bool.false_or, decide_eq_true_eq] at b1
        have b2 := (List.all_eq_true.1 ((List.all_eq_true.1 uw) mo b1)) (a6 % 40) (List.mem_range.2 (by omega))
        rw [hde]
        simpa using b2
  have hc : chkD g' l dg x 0 mo d ((mksT (cV mo d) a7 a8 a9).1 : Int) ((mksT (cV mo d) a7 a8 a9).2.1 : Int) ((mksT (cV mo d) a7 a8 a9).2.2 : Int) = 0 :=
    qu (C8 hY) hL (fun h => absurd h (by omega)) hmo3 (by
      rcases hdd with h | ⟨h1, h2, h3, _⟩
      · exact .inl h
      · exact .inr ⟨h1, h2, h3⟩) (n9 _ _ _ _)
  refine ⟨g', l, dg, x, q, mo, d, _, _, _, e, AP hY, tQ hc ?_, ?_, ?_, ?_, by omega⟩
  · rcases hdd with h | ⟨_, _, _, h, _⟩
    · exact .inl h
    · exact .inr h
  · unfold exD
    have : hasX d = false := by
      rcases hdd with h | ⟨_, _, _, _, h⟩
      · rw [h]; rfl
      · exact h
    rw [hX, hmoX, this]; rfl
  · rcases hmo3 with h | h | ⟨_, h⟩
    · rw [h]; simp
    · have := (rI h).1; omega
    · have := (gt (by omega) h).1; omega
  · rcases hdd with h | ⟨_, _, h, _⟩
    · rw [h]; simp
    · have := (gt (by omega) h).1; omega
theorem yX (m a0 a2 a3 a4 a5 a6 a7 a8 a9 : Nat) (g : Bool) (h0 : a0 < 256) (h2 : a2 < 65536) (h3 : a3 < 256) (h4 : a4 < 256) (h5 : a5 < 256) (h6 : a6 < 256) :
    ∃ g' l dg x mo d k0 k1 k2, d6 (m + 300) (a0 : Int) g (a2 : Int) (a3 : Int) (a4 : Int) (a5 : Int) (a6 : Int) (a7 : Int) (a8 : Int) (a9 : Int) = some (g', l, dg, x, 0, mo, d, ((k0 : Nat) : Int), ((k1 : Nat) : Int), ((k2 : Nat) : Int)) ∧
      chkF g' l dg x 0 mo d (k0 : Int) (k1 : Int) (k2 : Int) = 0 ∧ exD dg mo d 0 = true ∧ mo.length ≤ 18 ∧ d.length ≤ 18 ∧ dg.length ≤ 100 := by
  have t5 : Int.tmod (a5 : Int) 40 = ((a5 % 40 : Nat) : Int) := rfl
  have t6 : Int.tmod (a6 : Int) 40 = ((a6 % 40 : Nat) : Int) := rfl
  have t0 : Int.tmod (a0 : Int) 6 = ((a0 % 6 : Nat) : Int) := rfl
  have td : Int.tdiv ((a6 % 40 : Nat) : Int) 2 = ((a6 % 40 / 2 : Nat) : Int) := rfl
  have fin : ∀ (b0 b5 b6 : Nat), b5 < 256 → b6 < 256 → b0 % 6 ≠ 3 → b5 % 40 ≤ 33 → b6 % 40 ≤ 31 →
      ∃ g' l dg x mo d k0 k1 k2, (ob (aj (m + 300) (b0 : Int) g (a2 : Int) (a3 : Int) (a4 : Int) (b5 : Int) (b6 : Int) (a7 : Int) (a8 : Int) (a9 : Int)) fun r4606 => (cond (decide ((d4 r4606).1 > 0)) (some (r4606.1, r4606.2.1, r4606.2.2.1, r4606.2.2.2.1, (0 : Int), (d4 r4606).2.1, (d4 r4606).2.2.1, (d4 r4606).2.2.2.1, (d8 r4606).1, (d8 r4606).2)) (some (r4606.1, r4606.2.1, r4606.2.2.1, r4606.2.2.2.1, (d4 r4606).1, (d4 r4606).2.1, (d4 r4606).2.2.1, (d4 r4606).2.2.2.1, (d8 r4606).1, (d8 r4606).2)))) = some (g', l, dg, x, 0, mo, d, ((k0 : Nat) : Int), ((k1 : Nat) : Int), ((k2 : Nat) : Int)) ∧
      chkF g' l dg x 0 mo d (k0 : Int) (k1 : Int) (k2 : Int) = 0 ∧ exD dg mo d 0 = true ∧ mo.length ≤ 18 ∧ d.length ≤ 18 ∧ dg.length ≤ 100 := by
    intro b0 b5 b6 c5 c6 c0 cm cd
    obtain ⟨g', l, dg, x, q, mo, d, k0, k1, k2, e, hq, r1, r2, r3, r4, r5⟩ := Af m b0 a2 a3 a4 b5 b6 a7 a8 a9 g h2 h3 h4 c5 c6 c0 cm cd
    refine ⟨g', l, dg, x, mo, d, k0, k1, k2, ?_, r1, r2, r3, r4, r5⟩
    rw [e]
    simp only [ob, d4, d8]
    by_cases h : q > 0
    · rw [decide_eq_true h]; rfl
    · obtain rfl : q = 0 := by omega
      rw [decide_eq_false h]; rfl
  have w5 : 33 < a5 % 40 → IntKind.wrap .u8 (((a5 % 40 : Nat) : Int) - 33) = ((a5 % 40 - 33 : Nat) : Int) := fun h => by rw [cY _ (by omega) (by omega)]; omega
  have w6 : IntKind.wrap .u8 ((a6 % 40 / 2 : Nat) : Int) = ((a6 % 40 / 2 : Nat) : Int) := cY _ (by omega) (by omega)
  unfold d6
  rw [t0, t5, t6, td, w6]
  have four : ∀ b0 : Nat, b0 % 6 ≠ 3 → ∀ K : Nat → Nat → Option (Bool × Bool × List UInt8 × Int × Int × List UInt8 × List UInt8 × Int × Int × Int),
      (∀ b5 b6 : Nat, b5 < 256 → b6 < 256 → b5 % 40 ≤ 33 → b6 % 40 ≤ 31 → ∃ g' l dg x mo d k0 k1 k2, K b5 b6 = some (g', l, dg, x, 0, mo, d, ((k0 : Nat) : Int), ((k1 : Nat) : Int), ((k2 : Nat) : Int)) ∧ chkF g' l dg x 0 mo d (k0 : Int) (k1 : Int) (k2 : Int) = 0 ∧ exD dg mo d 0 = true ∧ mo.length ≤ 18 ∧ d.length ≤ 18 ∧ dg.length ≤ 100) →
      ∃ g' l dg x mo d k0 k1 k2, (cond (decide (((a5 % 40 : Nat) : Int) > 33)) (cond (decide (((a6 % 40 : Nat) : Int) > 31)) (K (a5 % 40 - 33) (a6 % 40 / 2)) (K (a5 % 40 - 33) a6)) (cond (decide (((a6 % 40 : Nat) : Int) > 31)) (K a5 (a6 % 40 / 2)) (K a5 a6))) = some (g', l, dg, x, 0, mo, d, ((k0 : Nat) : Int), ((k1 : Nat) : Int), ((k2 : Nat) : Int)) ∧ chkF g' l dg x 0 mo d (k0 : Int) (k1 : Int) (k2 : Int) = 0 ∧ exD dg mo d 0 = true ∧ mo.length ≤ 18 ∧ d.length ≤ 18 ∧ dg.length ≤ 100 := by
    intro b0 hb0 K hK
    by_cases h5' : 33 < a5 % 40
    · rw [decide_eq_true (show ((a5 % 40 : Nat) : Int) > 33 by omega)]
      by_cases h6' : 31 < a6 % 40
      · rw [decide_eq_true (show ((a6 % 40 : Nat) : Int) > 31 by omega)]
        exact hK _ _ (by omega) (by omega) (by omega) (by omega)
      · rw [decide_eq_false (show ¬ ((a6 % 40 : Nat) : Int) > 31 by omega)]
        exact hK _ _ (by omega) (by omega) (by omega) (by omega)
    · rw [decide_eq_false (show ¬ ((a5 % 40 : Nat) : Int) > 33 by omega)]
      by_cases h6' : 31 < a6 % 40
      · rw [decide_eq_true (show ((a6 % 40 : Nat) : Int) > 31 by omega)]
        exact hK _ _ (by omega) (by omega) (by omega) (by omega)
      · rw [decide_eq_false (show ¬ ((a6 % 40 : Nat) : Int) > 31 by omega)]
        exact hK _ _ (by omega) (by omega) (by omega) (by omega)
  have w5' : ∀ {A : Type} (F : Int → Int → Option A) (b6 : Nat), (cond (decide (((a5 % 40 : Nat) : Int) > 33)) (F (IntKind.wrap .u8 (((a5 % 40 : Nat) : Int) - 33)) (b6 : Int)) (F (a5 : Int) (b6 : Int))) = (cond (decide (((a5 % 40 : Nat) : Int) > 33)) (F ((a5 % 40 - 33 : Nat) : Int) (b6 : Int)) (F (a5 : Int) (b6 : Int))) := by
    intro A F b6
    by_cases h : 33 < a5 % 40
    · rw [w5 h]
    · rw [decide_eq_false (show ¬ ((a5 % 40 : Nat) : Int) > 33 by omega)]; rfl
  have w5c : 33 < a5 % 40 ∨ ¬ 33 < a5 % 40 := by omega
  by_cases c3 : a0 % 6 = 3
  · rw [show (((a0 % 6 : Nat) : Int) == 3) = true by rw [c3]; rfl]
    simp only [cond_true]
    rcases w5c with h | h
    · rw [w5 h]; exact four 0 (by omega) (fun b5 b6 => _) (fun b5 b6 c5 c6 cm cd => fin 0 b5 b6 c5 c6 (by omega) cm cd)
    · have hx := four 0 (by omega) (fun b5 b6 => _) (fun b5 b6 c5 c6 cm cd => fin 0 b5 b6 c5 c6 (by omega) cm cd)
      rw [decide_eq_false (show ¬ ((a5 % 40 : Nat) : Int) > 33 by omega)] at hx ⊢
      exact hx
  · rw [show (((a0 % 6 : Nat) : Int) == 3) = false from beq_eq_false_iff_ne.2 (by omega)]
    simp only [cond_false]
    by_cases c4 : a0 % 6 = 4
    · rw [show (((a0 % 6 : Nat) : Int) == 4) = true by rw [c4]; rfl]
      simp only [cond_true]
      rcases w5c with h | h
      · rw [w5 h]; exact four 0 (by omega) (fun b5 b6 => _) (fun b5 b6 c5 c6 cm cd => fin 0 b5 b6 c5 c6 (by omega) cm cd)
      · have hx := four 0 (by omega) (fun b5 b6 => _) (fun b5 b6 c5 c6 cm cd => fin 0 b5 b6 c5 c6 (by omega) cm cd)
        rw [decide_eq_false (show ¬ ((a5 % 40 : Nat) : Int) > 33 by omega)] at hx ⊢
        exact hx
    · rw [show (((a0 % 6 : Nat) : Int) == 4) = false from beq_eq_false_iff_ne.2 (by omega)]
      simp only [cond_false]
      rcases w5c with h | h
      · rw [w5 h]; exact four a0 c3 (fun b5 b6 => _) (fun b5 b6 c5 c6 cm cd => fin a0 b5 b6 c5 c6 c3 cm cd)
      · have hx := four a0 c3 (fun b5 b6 => _) (fun b5 b6 c5 c6 cm cd => fin a0 b5 b6 c5 c6 c3 cm cd)
        rw [decide_eq_false (show ¬ ((a5 % 40 : Nat) : Int) > 33 by omega)] at hx ⊢
        exact hx
theorem yj : bA 20000000 = some true := by kernel_rfl
theorem tJ (y : Int) {a : Nat} : ∀ {b : Nat}, a ≤ b → cumM y a ≤ cumM y b
  | 0, h => by obtain rfl : a = 0 := by omega
               exact Int.le_refl _
  | b + 1, h => by
    by_cases e : a = b + 1
    · subst e; exact Int.le_refl _
    · have := tJ y (a := a) (b := b) (by omega)
      have hl := gx y ((b + 1 : Nat) : Int)
      show cumM y a ≤ cumM y b + lenI y ((b + 1 : Nat) : Int)
      omega
theorem Ad (y : Int) {m : Nat} (h1 : 1 ≤ m) (h2 : m ≤ 12) : dayY y ≤ dayM y m ∧ dayM y (m + 1) ≤ dayY (y + 1) := by
  have e1 : dayM y m = dayY y + cumM y (m - 1) := by unfold dayM; rw [if_pos h2]
  have c1 := iI y (m - 1)
  refine ⟨by omega, ?_⟩
  by_cases h : m = 12
  · subst h; rw [wK]; exact Int.le_refl _
  · have e2 : dayM y (m + 1) = dayY y + cumM y m := by unfold dayM; rw [if_pos (by omega)]; rfl
    have c2 := tJ y (a := m) (b := 12) h2
    have c3 := Cp y
    have c4 := nJ y
    omega
theorem xM {g l : Bool} {dg : List UInt8} {x : Int} {m d : List UInt8} {k0 k1 k2 : Int} (h : chkD g l dg x 0 m d k0 k1 k2 = 0) : chkD g l dg x 0 m [] 0 0 0 = 0 ∧ chkD g l dg x 0 [] [] 0 0 0 = 0 := by
  obtain ⟨c1, c2, c3, c4⟩ := sX h
  have hy : yrD g l dg x 0 [] = true := by
    unfold yrD at c1 ⊢
    by_cases hok : okY g l dg x 0
    · rw [if_pos hok]
      unfold yrB
      rfl
    · rw [if_neg hok] at c1; cases c1
  have a0 : ∀ k, allM 0 0 0 k = 0 := fun k => by
    have := wJ (A := (0, 0, 0)) (k := k) ⟨by decide, by decide, by decide, fun _ => rfl, fun _ => rfl⟩
    exact this
  constructor
  · unfold chkD
    rw [c1, a0]
    have : (!(m == []) && (!(decide (0 < sea m)) && !(cn m 12))) = false := by
      rcases c2 with h | h | h
      · rw [h]; rfl
      · rw [decide_eq_true h]; simp
      · rw [h]; simp
    rw [this]
    rfl
  · unfold chkD
    rw [hy, a0]
    rfl
theorem sO {g l : Bool} {dg : List UInt8} {x : Int} {m : List UInt8} (h : chkD g l dg x 0 m [] 0 0 0 = 0) : chkF g l dg x 0 m [] 0 0 0 = 0 := by
  unfold chkF
  rw [if_neg (fun h => h.2.1 rfl)]
  exact h
theorem AA {dg m d : List UInt8} (h : exD dg m d 0 = true) : exD dg m [] 0 = true ∧ exD dg [] [] 0 = true := by
  unfold exD at h ⊢
  simp only [Bool.and_eq_true, Bool.not_eq_true', Bool.or_eq_false_iff] at h
  obtain ⟨⟨h1, h2, h3⟩, _⟩ := h
  rw [h1, h2]
  exact ⟨rfl, rfl⟩
theorem p8 (a0 a2 a3 a4 a5 a6 a7 a8 a9 : Nat) (g : Bool) (h0 : a0 < 256) (h2 : a2 < 65536) (h3 : a3 < 256) (h4 : a4 < 256) (h5 : a5 < 256) (h6 : a6 < 256) (h7 : a7 < 256) (h8 : a8 < 256) (h9 : a9 < 256) :
    bM 20000000 (a0 : Int) g (a2 : Int) (a3 : Int) (a4 : Int) (a5 : Int) (a6 : Int) (a7 : Int) (a8 : Int) (a9 : Int) = some true := by
  obtain ⟨g', l, dg, x, mo, d, k0, k1, k2, e, hc, he, hml, hd18, hdl⟩ := yX 19999700 a0 a2 a3 a4 a5 a6 a7 a8 a9 g h0 h2 h3 h4 h5 h6
  obtain ⟨G, L, DG, X, Q, MO, D, K0, K1, K2, E2, HC, HOK, HF⟩ := Co 19999700 a0 a2 a3 a4 a5 a6 a7 a8 a9 g h2 h3 h4 h5 h6 h7 h8 h9
  rw [show 19999700 + 300 = 20000000 from rfl] at e E2
  have n0 : ∀ k : Nat, (0 : Int) ≤ (k : Int) := fun k => by omega
  obtain ⟨_, E⟩ := sD hc he
  obtain ⟨hcm, hcy⟩ := xM (rr hc)
  obtain ⟨hem, hey⟩ := AA he
  -- the days
  have d1 : aR 20000000 g' l dg x 0 mo d (k0 : Int) (k1 : Int) (k2 : Int) = some (0, (dU g' dg x mo d).1, 0, (dU g' dg x mo d).2, 0) := by
    rw [pU hml hdl hd18 (n0 _) (n0 _) (n0 _), if_pos hc, if_pos he]
  have d2 : aR 20000000 g' l dg x 0 mo [] 0 0 0 = some (0, (dU g' dg x mo []).1, 0, (dU g' dg x mo []).2, 0) := by
    rw [pU hml hdl (by simp) (by omega) (by omega) (by omega), if_pos (sO hcm), if_pos hem]
  have d3 : aR 20000000 g' l dg x 0 [] [] 0 0 0 = some (0, (dU g' dg x [] []).1, 0, (dU g' dg x [] []).2, 0) := by
    rw [pU (by simp) hdl (by simp) (by omega) (by omega) (by omega), if_pos (sO hcy), if_pos hey]
  have c1 : (dU g' dg x mo []).1 ≤ (dU g' dg x mo d).1 ∧ (dU g' dg x mo d).2 ≤ (dU g' dg x mo []).2 := by
    unfold dU
    by_cases hm : mo = []
    · rw [if_pos hm, if_pos hm]; exact ⟨Int.le_refl _, Int.le_refl _⟩
    · rw [if_neg hm, if_neg hm]
      by_cases hs : 0 < sea mo
      · rw [if_pos hs, if_pos hs]; exact ⟨Int.le_refl _, Int.le_refl _⟩
      · rw [if_neg hs, if_neg hs]
        by_cases hd : d = []
        · rw [if_pos hd, if_pos rfl]; exact ⟨Int.le_refl _, Int.le_refl _⟩
        · rw [if_neg hd, if_pos rfl]
          rcases E.day with h | ⟨_, _, b1, b2, b3, b4⟩
          · exact absurd h hd
          · rcases E.mon with h | ⟨j, hj, ee, _⟩ | ⟨_, f1, f2, _⟩
            · exact absurd h hm
            · rw [ee, ef hj] at hs; omega
            · have := qz (yOf g' dg x) f1 f2
              simp only []
              omega
  have c2 : sea mo = 0 → (dU g' dg x [] []).1 ≤ (dU g' dg x mo []).1 ∧ (dU g' dg x mo []).2 ≤ (dU g' dg x [] []).2 := by
    intro hs
    unfold dU
    rw [if_pos rfl]
    by_cases hm : mo = []
    · rw [if_pos hm]; exact ⟨Int.le_refl _, Int.le_refl _⟩
    · rw [if_neg hm, if_neg (by omega), if_pos rfl]
      rcases E.mon with h | ⟨j, hj, ee, _⟩ | ⟨_, f1, f2, _⟩
      · exact absurd h hm
      · rw [ee, ef hj] at hs; omega
      · have := Ad (yOf g' dg x) f1 f2
        simp only []
        omega
  -- the date with X
  have HML : MO.length ≤ 18 := by
    rcases HOK.mon with h | h
    · rw [h]; simp
    · omega
  have HDL : D.length ≤ 18 := by
    rcases HOK.day with h | h
    · rw [h]; simp
    · omega
  have HDG : DG.length ≤ 100 := by have := HOK.dg17; omega
  have last : (ob (aR 20000000 G L DG (X : Int) (Q : Int) MO D (K0 : Int) (K1 : Int) (K2 : Int)) fun r5029 => (ob (cq 20000000 G L DG (X : Int) (Q : Int) MO D (K0 : Int) (K1 : Int) (K2 : Int)) fun r5036 => (cond (((d4 r5029) == 0) == (r5036 == 1)) (cond ((d4 r5029) == 0) (ob (bA 20000000) fun r5134 => (some r5134)) (cond ((d4 r5029) == 1) (ob (bA 20000000) fun r5135 => (some r5135)) (some false))) (some false)))) = some true := by
    rw [pU HML HDG HDL (n0 _) (n0 _) (n0 _), if_pos (tQ HC HF), xi 20000000 G L DG (X : Int) (Q : Int) MO D (K0 : Int) (K1 : Int) (K2 : Int) (by omega) (by omega) (by omega) (by omega), yj]
    by_cases h : exD DG MO D (Q : Int) = true
    · rw [if_pos h, if_pos h]; rfl
    · rw [if_neg h, if_neg h]; rfl
  have run : ∀ a b : Int, cK 20000000 a b = some (0, a, 0, b) := fun _ _ => rfl
  unfold bM
  rw [e]
  simp only [ob, d4, d8]
  rw [d1, d2, d3, uM E hdl, jU 20000000 (by omega)]
  simp only [ob, d4, bne_self_eq_false, cond_false]
  rw [run]
  simp only [ob, BEq.rfl, Bool.and_self, Bool.not_true, cond_false]
  rw [show (IntKind.wrap .i64 ((0 : Int) + 0) != 0) = false from rfl, decide_eq_false (show ¬ (dU g' dg x mo []).1 > (dU g' dg x mo d).1 by omega), decide_eq_false (show ¬ (dU g' dg x mo []).2 < (dU g' dg x mo d).2 by omega)]
  simp only [cond_false]
  by_cases hs : sea mo = 0
  · have := c2 hs
    rw [hs, decide_eq_false (show ¬ (dU g' dg x [] []).1 > (dU g' dg x mo []).1 by omega), decide_eq_false (show ¬ (dU g' dg x [] []).2 < (dU g' dg x mo []).2 by omega)]
    simp only [BEq.rfl, cond_true, cond_false]
    rw [E2]
    simp only [ob, d4, d8] at last ⊢
    exact last
  · rw [beq_eq_false_iff_ne.2 hs]
    simp only [cond_false]
    rw [E2]
    simp only [ob, d4, d8] at last ⊢
    exact last
end Go.Sh
