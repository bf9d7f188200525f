/- Plain proofs, kept as far as they are needed here (printed by prune.py).
   Conditions: none. -/
import Derived.Test.YtfchdhhkohmedaaGreatDoorLawBzb
set_option linter.unusedVariables false
set_option linter.unusedSimpArgs false
set_option maxRecDepth 100000
namespace Go.Sh
open Go.Abs
theorem Dz {g l : Bool} {d : List UInt8} {x s : Int} (h : okY g l d x s) : okY g l d x 0 := by
  unfold okY at h ⊢
  cases l with
  | true =>
    rw [if_pos rfl] at h ⊢
    unfold okL at h ⊢
    refine ⟨h.1, Int.le_refl _, ?_⟩
    omega
  | false =>
    rw [if_neg (by simp)] at h ⊢
    unfold okS at h ⊢
    obtain ⟨h1, h2, h3, h4, h5, h6, h7⟩ := h
    exact ⟨h1, h2, h3, h4, Int.le_refl _, by omega, fun h => absurd h.1 (by omega)⟩
theorem AM (m a0 a2 a3 a4 a5 a6 a7 a8 a9 : Nat) (g : Bool) (h2 : a2 < 65536) (h3 : a3 < 256) (h4 : a4 < 256) (h5 : a5 < 256) (h6 : a6 < 256) :
    ∃ g' l dg x q mo d, aw (m + 300) (a0 : Int) g (a2 : Int) (a3 : Int) (a4 : Int) (a5 : Int) (a6 : Int) (a7 : Int) (a8 : Int) (a9 : Int) = some (g', l, dg, x, q, mo, d, ((mksT (ft mo d) a7 a8 a9).1 : Int), ((mksT (ft mo d) a7 a8 a9).2.1 : Int), ((mksT (ft mo d) a7 a8 a9).2.2 : Int)) ∧
      okY g' l dg x q ∧ jM g' dg x = false ∧ (a0 % 6 ≠ 3 → hasX dg = false) ∧ dg.length ≤ 5 ∧ (q ≠ 0 → mo = [] ∧ d = []) ∧ (q = 0 → mo = monT (a5 % 40)) ∧
      (d = [] ∨ (mo ∈ ((List.range 12).map fun i => two (i + 1)) ++ [[48, 88], [49, 88], [88, 50], [88, 88], [88, 48], [88, 57]] ∧ mo ≠ [] ∧ sea mo = 0 ∧ d = dayT (a6 % 40) mo)) := by
  obtain ⟨g', l, dg, x, q, e, hY, hd5, hx11, hnX⟩ := A5 m a0 a2 a3 a4 g h2 h3 h4
  have hL := xZ hY hd5 hx11
  have t7 : Int.tmod (a7 : Int) 4 = ((a7 % 4 : Nat) : Int) := rfl
  have t8 : Int.tmod (a8 : Int) 4 = ((a8 % 4 : Nat) : Int) := rfl
  have t9 : Int.tmod (a9 : Int) 4 = ((a9 % 4 : Nat) : Int) := rfl
  obtain ⟨s1, s2, s3, s4, s5, s6⟩ := iy hY
  have tail : ∀ (mo d : List UInt8) (o : Option (Bool × Bool × List UInt8 × Int × Int × List UInt8 × List UInt8 × Int × Int × Int)),
      (ob (ad (m + 300) g' l dg x q mo d 0 0 0) fun r => (cond (decide ((0 : Int) < r)) (ob (ad (m + 300) g' l dg x q mo d (Int.tmod (a7 : Int) 4) 0 0) fun r => (cond (decide ((1 : Int) < r)) (ob (ad (m + 300) g' l dg x q mo d (Int.tmod (a7 : Int) 4) (Int.tmod (a8 : Int) 4) 0) fun r => (cond (decide ((2 : Int) < r)) (ob (ad (m + 300) g' l dg x q mo d (Int.tmod (a7 : Int) 4) (Int.tmod (a8 : Int) 4) (Int.tmod (a9 : Int) 4)) fun r => (cond (decide ((3 : Int) < r)) none (some (g', l, dg, x, q, mo, d, (Int.tmod (a7 : Int) 4), (Int.tmod (a8 : Int) 4), (Int.tmod (a9 : Int) 4))))) (some (g', l, dg, x, q, mo, d, (Int.tmod (a7 : Int) 4), (Int.tmod (a8 : Int) 4), 0)))) (some (g', l, dg, x, q, mo, d, (Int.tmod (a7 : Int) 4), 0, 0)))) (some (g', l, dg, x, q, mo, d, 0, 0, 0)))) = some (g', l, dg, x, q, mo, d, ((mksT (ft mo d) a7 a8 a9).1 : Int), ((mksT (ft mo d) a7 a8 a9).2.1 : Int), ((mksT (ft mo d) a7 a8 a9).2.2 : Int)) := by
    intro mo d _
    have hc := oa mo d
    have : ft mo d = 1 ∨ ft mo d = 2 ∨ ft mo d = 3 := by omega
    rw [eh, eh, eh, eh]
    rcases this with h | h | h <;> rw [h] <;> rfl
  unfold aw
  rw [e]
  simp only [ob, d4]
  rw [fm]
  by_cases hq : q = 0
  · rw [if_pos hq]
    rw [uZ m _ _ _ _ _ a5 _ _ _ _ h5]
    have hml := xa (show a5 % 40 < 40 by omega)
    show ∃ g'_1 l_1 dg_1 x_1 q_1 mo_1 d, cond (!(monT (a5 % 40) == [])) _ _ = _ ∧ _
    by_cases hm0 : monT (a5 % 40) = []
    · refine ⟨g', l, dg, x, q, [], [], ?_, hY, hL, hnX, hd5, fun h => absurd hq h, fun _ => hm0.symm, .inl rfl⟩
      rw [hm0]
      exact tail [] [] none
    · rw [beq_eq_false_iff_ne.2 hm0]
      show ∃ g'_1 l_1 dg_1 x_1 q_1 mo_1 d, ob (aq (m + 300) g' l dg x q (monT (a5 % 40)) [] 0 0 0) _ = _ ∧ _
      rw [iN (m + 300) (by omega)]
      show ∃ g'_1 l_1 dg_1 x_1 q_1 mo_1 d, cond (sea (monT (a5 % 40)) == 0) _ _ = _ ∧ _
      rw [fm]
      by_cases hs : sea (monT (a5 % 40)) = 0
      · rw [if_pos hs]
        have hin := hml hs hm0
        rw [xY m _ _ _ _ _ _ a6 _ _ _ (monT (a5 % 40)) hin h6]
        exact ⟨g', l, dg, x, q, monT (a5 % 40), dayT (a6 % 40) (monT (a5 % 40)), tail _ _ none, hY, hL, hnX, hd5, fun h => absurd hq h, fun _ => rfl, .inr ⟨hin, hm0, hs, rfl⟩⟩
      · rw [if_neg hs]
        exact ⟨g', l, dg, x, q, monT (a5 % 40), [], tail _ [] none, hY, hL, hnX, hd5, fun h => absurd hq h, fun _ => rfl, .inl rfl⟩
  · rw [if_neg hq]
    exact ⟨g', l, dg, x, q, [], [], tail [] [] none, hY, hL, hnX, hd5, fun _ => ⟨rfl, rfl⟩, fun h => absurd h hq, .inl rfl⟩
theorem uM : ((List.range 34).all fun j => !hasX (monT j)) = true := by decide +kernel
theorem va : (((List.range 12).map fun i => two (i + 1)).all fun mo => (List.range 32).all fun j => !hasX (dayT j mo)) = true := by decide +kernel
theorem A0 : ((((List.range 12).map fun i => two (i + 1)) ++ [[48, 88], [49, 88], [88, 50], [88, 88], [88, 48], [88, 57]]).all fun mo => hasX mo || decide (mo ∈ (List.range 12).map fun i => two (i + 1))) = true := by decide +kernel
theorem Aw (m a0 a2 a3 a4 a5 a6 a7 a8 a9 : Nat) (g : Bool) (h2 : a2 < 65536) (h3 : a3 < 256) (h4 : a4 < 256) (h5 : a5 < 256) (h6 : a6 < 256) (hf : a0 % 6 ≠ 3) (hm : a5 % 40 ≤ 33) (hd : a6 % 40 ≤ 31) :
    ∃ g' l dg x q mo d k0 k1 k2, aw (m + 300) (a0 : Int) g (a2 : Int) (a3 : Int) (a4 : Int) (a5 : Int) (a6 : Int) (a7 : Int) (a8 : Int) (a9 : Int) = some (g', l, dg, x, q, mo, d, ((k0 : Nat) : Int), ((k1 : Nat) : Int), ((k2 : Nat) : Int)) ∧
      0 ≤ q ∧ chkF g' l dg x 0 mo d (k0 : Int) (k1 : Int) (k2 : Int) = 0 ∧ exD dg mo d 0 = true ∧ mo.length ≤ 18 ∧ d.length ≤ 18 ∧ dg.length ≤ 100 := by
  obtain ⟨g', l, dg, x, q, mo, d, e, hY, hL, hnX, hd5, hq1, hq0, hday⟩ := AM m a0 a2 a3 a4 a5 a6 a7 a8 a9 g h2 h3 h4 h5 h6
  have hX := hnX hf
  have hmoX : hasX mo = false := by
    by_cases h : q = 0
    · rw [hq0 h]
      have := (List.all_eq_true.1 uM) (a5 % 40) (List.mem_range.2 (by omega))
      simpa using this
    · rw [(hq1 h).1]; rfl
  have hmo3 : mo = [] ∨ 0 < sea mo ∨ (sea mo = 0 ∧ bT mo 12 = true) := by
    by_cases h : q = 0
    · rw [hq0 h]; exact A1 (by omega)
    · exact .inl (hq1 h).1
  have hdd : d = [] ∨ (mo ≠ [] ∧ sea mo = 0 ∧ bT d 31 = true ∧ fitD mo d = true ∧ hasX d = false) := by
    rcases hday with h | ⟨hin, hm0, hs, hde⟩
    · exact .inl h
    · have a1 := Bv (show a6 % 40 < 40 by omega) hin
      have a2 := yH (show a6 % 40 < 40 by omega) hin
      rw [← hde] at a1 a2
      by_cases h0 : d = []
      · exact .inl h0
      · right
        refine ⟨hm0, hs, a1.resolve_left h0, a2.resolve_left h0, ?_⟩
        have b1 := (List.all_eq_true.1 A0) mo hin
        rw [hmoX, Bool.false_or, decide_eq_true_eq] at b1
        have b2 := (List.all_eq_true.1 ((List.all_eq_true.1 va) mo b1)) (a6 % 40) (List.mem_range.2 (by omega))
        rw [hde]
        simpa using b2
  have hc : chkD g' l dg x 0 mo d ((mksT (ft mo d) a7 a8 a9).1 : Int) ((mksT (ft mo d) a7 a8 a9).2.1 : Int) ((mksT (ft mo d) a7 a8 a9).2.2 : Int) = 0 :=
    Cs (Dz hY) hL (fun h => absurd h (by omega)) hmo3 (by
      rcases hdd with h | ⟨h1, h2, h3, _⟩
      · exact .inl h
      · exact .inr ⟨h1, h2, h3⟩) (Aq _ _ _ _)
  refine ⟨g', l, dg, x, q, mo, d, _, _, _, e, zn hY, ze hc ?_, ?_, ?_, ?_, by omega⟩
  · rcases hdd with h | ⟨_, _, _, h, _⟩
    · exact .inl h
    · exact .inr h
  · unfold exD
    have : hasX d = false := by
      rcases hdd with h | ⟨_, _, _, _, h⟩
      · rw [h]; rfl
      · exact h
    rw [hX, hmoX, this]; rfl
  · rcases hmo3 with h | h | ⟨_, h⟩
    · rw [h]; simp
    · have := (sG h).1; omega
    · have := (gR (by omega) h).1; omega
  · rcases hdd with h | ⟨_, _, h, _⟩
    · rw [h]; simp
    · have := (gR (by omega) h).1; omega
theorem xT (m a0 a2 a3 a4 a5 a6 a7 a8 a9 : Nat) (g : Bool) (h0 : a0 < 256) (h2 : a2 < 65536) (h3 : a3 < 256) (h4 : a4 < 256) (h5 : a5 < 256) (h6 : a6 < 256) :
    ∃ g' l dg x mo d k0 k1 k2, eq (m + 300) (a0 : Int) g (a2 : Int) (a3 : Int) (a4 : Int) (a5 : Int) (a6 : Int) (a7 : Int) (a8 : Int) (a9 : Int) = some (g', l, dg, x, 0, mo, d, ((k0 : Nat) : Int), ((k1 : Nat) : Int), ((k2 : Nat) : Int)) ∧
      chkF g' l dg x 0 mo d (k0 : Int) (k1 : Int) (k2 : Int) = 0 ∧ exD dg mo d 0 = true ∧ mo.length ≤ 18 ∧ d.length ≤ 18 ∧ dg.length ≤ 100 := by
  have t5 : Int.tmod (a5 : Int) 40 = ((a5 % 40 : Nat) : Int) := rfl
  have t6 : Int.tmod (a6 : Int) 40 = ((a6 % 40 : Nat) : Int) := rfl
  have t0 : Int.tmod (a0 : Int) 6 = ((a0 % 6 : Nat) : Int) := rfl
  have td : Int.tdiv ((a6 % 40 : Nat) : Int) 2 = ((a6 % 40 / 2 : Nat) : Int) := rfl
  have fin : ∀ (b0 b5 b6 : Nat), b5 < 256 → b6 < 256 → b0 % 6 ≠ 3 → b5 % 40 ≤ 33 → b6 % 40 ≤ 31 →
      ∃ g' l dg x mo d k0 k1 k2, (ob (aw (m + 300) (b0 : Int) g (a2 : Int) (a3 : Int) (a4 : Int) (b5 : Int) (b6 : Int) (a7 : Int) (a8 : Int) (a9 : Int)) fun r4606 => (cond (decide ((d4 r4606).1 > 0)) (some (r4606.1, r4606.2.1, r4606.2.2.1, r4606.2.2.2.1, (0 : Int), (d4 r4606).2.1, (d4 r4606).2.2.1, (d4 r4606).2.2.2.1, (d8 r4606).1, (d8 r4606).2)) (some (r4606.1, r4606.2.1, r4606.2.2.1, r4606.2.2.2.1, (d4 r4606).1, (d4 r4606).2.1, (d4 r4606).2.2.1, (d4 r4606).2.2.2.1, (d8 r4606).1, (d8 r4606).2)))) = some (g', l, dg, x, 0, mo, d, ((k0 : Nat) : Int), ((k1 : Nat) : Int), ((k2 : Nat) : Int)) ∧
      chkF g' l dg x 0 mo d (k0 : Int) (k1 : Int) (k2 : Int) = 0 ∧ exD dg mo d 0 = true ∧ mo.length ≤ 18 ∧ d.length ≤ 18 ∧ dg.length ≤ 100 := by
    intro b0 b5 b6 c5 c6 c0 cm cd
    obtain ⟨g', l, dg, x, q, mo, d, k0, k1, k2, e, hq, r1, r2, r3, r4, r5⟩ := Aw m b0 a2 a3 a4 b5 b6 a7 a8 a9 g h2 h3 h4 c5 c6 c0 cm cd
    refine ⟨g', l, dg, x, mo, d, k0, k1, k2, ?_, r1, r2, r3, r4, r5⟩
    rw [e]
    simp only [ob, d4, d8]
    by_cases h : q > 0
    · rw [decide_eq_true h]; rfl
    · obtain rfl : q = 0 := by omega
      rw [decide_eq_false h]; rfl
  have w5 : 33 < a5 % 40 → IntKind.wrap .u8 (((a5 % 40 : Nat) : Int) - 33) = ((a5 % 40 - 33 : Nat) : Int) := fun h => by rw [dh _ (by omega) (by omega)]; omega
  have w6 : IntKind.wrap .u8 ((a6 % 40 / 2 : Nat) : Int) = ((a6 % 40 / 2 : Nat) : Int) := dh _ (by omega) (by omega)
  unfold eq
  rw [t0, t5, t6, td, w6]
  have four : ∀ b0 : Nat, b0 % 6 ≠ 3 → ∀ K : Nat → Nat → Option (Bool × Bool × List UInt8 × Int × Int × List UInt8 × List UInt8 × Int × Int × Int),
      (∀ b5 b6 : Nat, b5 < 256 → b6 < 256 → b5 % 40 ≤ 33 → b6 % 40 ≤ 31 → ∃ g' l dg x mo d k0 k1 k2, K b5 b6 = some (g', l, dg, x, 0, mo, d, ((k0 : Nat) : Int), ((k1 : Nat) : Int), ((k2 : Nat) : Int)) ∧ chkF g' l dg x 0 mo d (k0 : Int) (k1 : Int) (k2 : Int) = 0 ∧ exD dg mo d 0 = true ∧ mo.length ≤ 18 ∧ d.length ≤ 18 ∧ dg.length ≤ 100) →
      ∃ g' l dg x mo d k0 k1 k2, (cond (decide (((a5 % 40 : Nat) : Int) > 33)) (cond (decide (((a6 % 40 : Nat) : Int) > 31)) (K (a5 % 40 - 33) (a6 % 40 / 2)) (K (a5 % 40 - 33) a6)) (cond (decide (((a6 % 40 : Nat) : Int) > 31)) (K a5 (a6 % 40 / 2)) (K a5 a6))) = some (g', l, dg, x, 0, mo, d, ((k0 : Nat) : Int), ((k1 : Nat) : Int), ((k2 : Nat) : Int)) ∧ chkF g' l dg x 0 mo d (k0 : Int) (k1 : Int) (k2 : Int) = 0 ∧ exD dg mo d 0 = true ∧ mo.length ≤ 18 ∧ d.length ≤ 18 ∧ dg.length ≤ 100 := by
    intro b0 hb0 K hK
    by_cases h5' : 33 < a5 % 40
    · rw [decide_eq_true (show ((a5 % 40 : Nat) : Int) > 33 by omega)]
      by_cases h6' : 31 < a6 % 40
      · rw [decide_eq_true (show ((a6 % 40 : Nat) : Int) > 31 by omega)]
        exact hK _ _ (by omega) (by omega) (by omega) (by omega)
      · rw [decide_eq_false (show ¬ ((a6 % 40 : Nat) : Int) > 31 by omega)]
        exact hK _ _ (by omega) (by omega) (by omega) (by omega)
    · rw [decide_eq_false (show ¬ ((a5 % 40 : Nat) : Int) > 33 by omega)]
      by_cases h6' : 31 < a6 % 40
      · rw [decide_eq_true (show ((a6 % 40 : Nat) : Int) > 31 by omega)]
        exact hK _ _ (by omega) (by omega) (by omega) (by omega)
      · rw [decide_eq_false (show ¬ ((a6 % 40 : Nat) : Int) > 31 by omega)]
        exact hK _ _ (by omega) (by omega) (by omega) (by omega)
  have w5' : ∀ {A : Type} (F : Int → Int → Option A) (b6 : Nat), (cond (decide (((a5 % 40 : Nat) : Int) > 33)) (F (IntKind.wrap .u8 (((a5 % 40 : Nat) : Int) - 33)) (b6 : Int)) (F (a5 : Int) (b6 : Int))) = (cond (decide (((a5 % 40 : Nat) : Int) > 33)) (F ((a5 % 40 - 33 : Nat) : Int) (b6 : Int)) (F (a5 : Int) (b6 : Int))) := by
    intro A F b6
    by_cases h : 33 < a5 % 40
    · rw [w5 h]
    · rw [decide_eq_false (show ¬ ((a5 % 40 : Nat) : Int) > 33 by omega)]; rfl
  have w5c : 33 < a5 % 40 ∨ ¬ 33 < a5 % 40 := by omega
  by_cases c3 : a0 % 6 = 3
  · rw [show (((a0 % 6 : Nat) : Int) == 3) = true by rw [c3]; rfl]
    simp only [cond_true]
    rcases w5c with h | h
    · rw [w5 h]; exact four 0 (by omega) (fun b5 b6 => _) (fun b5 b6 c5 c6 cm cd => fin 0 b5 b6 c5 c6 (by omega) cm cd)
    · have hx := four 0 (by omega) (fun b5 b6 => _) (fun b5 b6 c5 c6 cm cd => fin 0 b5 b6 c5 c6 (by omega) cm cd)
      rw [decide_eq_false (show ¬ ((a5 % 40 : Nat) : Int) > 33 by omega)] at hx ⊢
      exact hx
  · rw [show (((a0 % 6 : Nat) : Int) == 3) = false from beq_eq_false_iff_ne.2 (by omega)]
    simp only [cond_false]
    by_cases c4 : a0 % 6 = 4
    · rw [show (((a0 % 6 : Nat) : Int) == 4) = true by rw [c4]; rfl]
      simp only [cond_true]
      rcases w5c with h | h
      · rw [w5 h]; exact four 0 (by omega) (fun b5 b6 => _) (fun b5 b6 c5 c6 cm cd => fin 0 b5 b6 c5 c6 (by omega) cm cd)
      · have hx := four 0 (by omega) (fun b5 b6 => _) (fun b5 b6 c5 c6 cm cd => fin 0 b5 b6 c5 c6 (by omega) cm cd)
        rw [decide_eq_false (show ¬ ((a5 % 40 : Nat) : Int) > 33 by omega)] at hx ⊢
        exact hx
    · rw [show (((a0 % 6 : Nat) : Int) == 4) = false from beq_eq_false_iff_ne.2 (by omega)]
      simp only [cond_false]
      rcases w5c with h | h
      · rw [w5 h]; exact four a0 c3 (fun b5 b6 => _) (fun b5 b6 c5 c6 cm cd => fin a0 b5 b6 c5 c6 c3 cm cd)
      · have hx := four a0 c3 (fun b5 b6 => _) (fun b5 b6 c5 c6 cm cd => fin a0 b5 b6 c5 c6 c3 cm cd)
        rw [decide_eq_false (show ¬ ((a5 % 40 : Nat) : Int) > 33 by omega)] at hx ⊢
        exact hx
theorem zD : ep 20000000 = some true := by kernel_rfl
def sg (g l : Bool) (dg : List UInt8) (x q : Int) (m d : List UInt8) (k0 k1 k2 : Int) : Bool :=
  (((g == false) && ((l == false) && ((dg == ([] : List UInt8)) && ((x == 0) && ((q == 0) && true))))) && ((m == ([] : List UInt8)) && ((d == ([] : List UInt8)) && (((k0 == 0) && ((k1 == 0) && ((k2 == 0) && true))) && true))))
noncomputable def chkB (K : Int) (g l : Bool) (dg : List UInt8) (x q : Int) (m d : List UInt8) (k0 k1 k2 : Int) : Int :=
  if K = 1 then (if chkF g l dg x q m d k0 k1 k2 = 0 then (if exD dg m d q = true then 0 else 11) else chkF g l dg x q m d k0 k1 k2) else if K = 2 ∨ K = 3 then (if sg g l dg x q m d k0 k1 k2 = true then 0 else 5) else 18
def wV (e1 e2 K1 K2 lo hi : Int) : Int := if e1 ≠ 0 then e1 else if e2 ≠ 0 then e2 else if K1 ≠ 1 ∧ K2 ≠ 1 then 11 else if K1 ≠ 1 ∨ K2 ≠ 1 then 0 else if lo > hi then 11 else 0
section
variable {K : Int} {g l : Bool} {dg : List UInt8} {x q : Int} {m d : List UInt8} {k0 k1 k2 : Int} (hml : m.length ≤ 18) (hdl : dg.length ≤ 100) (hd18 : d.length ≤ 18) (h0 : 0 ≤ k0) (h1 : 0 ≤ k1) (h2 : 0 ≤ k2)
include hml hdl hd18 h0 h1 h2
theorem tq : gf 20000000 K g l dg x q m d k0 k1 k2 = some (chkB K g l dg x q m d k0 k1 k2) := by
  unfold gf chkB
  rw [tF hml hdl h0 h1 h2, ta 20000000 g l dg x q m d k0 k1 k2 (by omega) (by omega) (by omega)]
  simp only [ob]
  by_cases k1' : K = 1
  · subst k1'
    rw [if_pos rfl]
    simp only [BEq.rfl, cond_true]
    by_cases hc : chkF g l dg x q m d k0 k1 k2 = 0
    · rw [if_pos hc, hc]
      by_cases he : exD dg m d q = true
      · rw [if_pos he, he]; rfl
      · rw [if_neg he]
        rw [Bool.not_eq_true] at he
        rw [he]; rfl
    · rw [if_neg hc, bne0 hc]; rfl
  · rw [if_neg k1', beq_eq_false_iff_ne.2 k1']
    simp only [cond_false]
    have hn : (!(((g == false) && ((l == false) && ((dg == ([] : List UInt8)) && ((x == 0) && ((q == 0) && true))))) && ((m == ([] : List UInt8)) && ((d == ([] : List UInt8)) && (((k0 == 0) && ((k1 == 0) && ((k2 == 0) && true))) && true))))) = !(sg g l dg x q m d k0 k1 k2) := rfl
    rw [hn]
    by_cases k2' : K = 2
    · subst k2'
      rw [if_pos (.inl rfl)]
      cases sg g l dg x q m d k0 k1 k2 <;> rfl
    · rw [beq_eq_false_iff_ne.2 k2']
      by_cases k3' : K = 3
      · subst k3'
        rw [if_pos (.inr rfl)]
        cases sg g l dg x q m d k0 k1 k2 <;> rfl
      · rw [beq_eq_false_iff_ne.2 k3', if_neg (by omega)]; rfl
theorem nF : bV 20000000 K g l dg x q m d k0 k1 k2 = some (chkB K g l dg x q m d k0 k1 k2) := by
  unfold bV chkB
  rw [rZ hdl h0 h1 h2, xw 20000000 g l dg x q m d k0 k1 k2 (by omega) (by omega) (by omega) (by omega)]
  simp only [ob]
  by_cases k1' : K = 1
  · subst k1'
    rw [if_pos rfl]
    simp only [BEq.rfl, cond_true]
    by_cases hc : chkF g l dg x q m d k0 k1 k2 = 0
    · rw [if_pos hc, hc]
      by_cases he : exD dg m d q = true
      · rw [if_pos he, if_pos he]; rfl
      · rw [if_neg he, if_neg he]; rfl
    · rw [if_neg hc, beq_eq_false_iff_ne.2 hc]; rfl
  · rw [if_neg k1', beq_eq_false_iff_ne.2 k1']
    simp only [cond_false]
    have hn : (!(((g == false) && ((l == false) && ((dg == ([] : List UInt8)) && ((x == 0) && ((q == 0) && true))))) && ((m == ([] : List UInt8)) && ((d == ([] : List UInt8)) && (((k0 == 0) && ((k1 == 0) && ((k2 == 0) && true))) && true))))) = !(sg g l dg x q m d k0 k1 k2) := rfl
    rw [hn]
    by_cases k2' : K = 2
    · subst k2'
      rw [if_pos (.inl rfl)]
      cases sg g l dg x q m d k0 k1 k2 <;> rfl
    · rw [beq_eq_false_iff_ne.2 k2']
      by_cases k3' : K = 3
      · subst k3'
        rw [if_pos (.inr rfl)]
        cases sg g l dg x q m d k0 k1 k2 <;> rfl
      · rw [beq_eq_false_iff_ne.2 k3', if_neg (by omega)]; rfl
theorem ln (hc : chkB K g l dg x q m d k0 k1 k2 = 0) (hk : K = 1) : chkF g l dg x q m d k0 k1 k2 = 0 ∧ exD dg m d q = true := by
  have _u := And.intro hml (And.intro hdl (And.intro hd18 (And.intro h0 (And.intro h1 h2))))
  unfold chkB at hc
  rw [if_pos hk] at hc
  by_cases h : chkF g l dg x q m d k0 k1 k2 = 0
  · rw [if_pos h] at hc
    by_cases he : exD dg m d q = true
    · exact ⟨h, he⟩
    · rw [if_neg he] at hc; cases hc
  · rw [if_neg h] at hc; exact absurd hc h
end
theorem Do (n : Nat) (a b : Int) : dU n a b = some (if a < b then -1 else if a > b then 1 else 0) := by
  unfold dU fq
  simp only [ob, bne_self_eq_false, cond_false]
  by_cases h : a < b
  · rw [decide_eq_true h, if_pos h]; rfl
  · rw [decide_eq_false h, if_neg h]
    by_cases h2 : a > b
    · rw [decide_eq_true h2, if_pos h2]; rfl
    · rw [decide_eq_false h2, if_neg h2]; rfl
theorem yg (a b : Int) : ∃ r, fX 20000000 0 a 0 b = some r ∧ decide (r > 0) = decide (a > b) := by
  have e8 : gu 20000000 0 0 = some 0 := rfl
  have o1 : iK 20000000 [0, -1] = some (-1) := by kernel_rfl
  have o2 : iK 20000000 [0, 1] = some 1 := by kernel_rfl
  have o3 : iK 20000000 [0, 0] = some 0 := by kernel_rfl
  unfold fX
  rw [e8, Do]
  simp only [ob]
  by_cases h : a < b
  · rw [if_pos h, o1]
    exact ⟨_, rfl, by rw [decide_eq_false (show ¬ a > b by omega)]; rfl⟩
  · rw [if_neg h]
    by_cases h2 : a > b
    · rw [if_pos h2, o2]
      exact ⟨_, rfl, by rw [decide_eq_true h2]; rfl⟩
    · rw [if_neg h2, o3]
      exact ⟨_, rfl, by rw [decide_eq_false h2]; rfl⟩
theorem bne1 {K : Int} (h : K ≠ 1) : (K != 1) = true := by simp [h]
section
variable {K : Int} {g l : Bool} {dg : List UInt8} {x q : Int} {m d : List UInt8} {k0 k1 k2 : Int} {K' : Int} {g' l' : Bool} {dg' : List UInt8} {x' q' : Int} {m' d' : List UInt8} {p0 p1 p2 : Int} (hml : m.length ≤ 18) (hdl : dg.length ≤ 100) (hd18 : d.length ≤ 18) (h0 : 0 ≤ k0) (h1 : 0 ≤ k1) (h2 : 0 ≤ k2) (hml' : m'.length ≤ 18) (hdl' : dg'.length ≤ 100) (hd18' : d'.length ≤ 18) (h0' : 0 ≤ p0) (h1' : 0 ≤ p1) (h2' : 0 ≤ p2)
include hml hdl hd18 h0 h1 h2 hml' hdl' hd18' h0' h1' h2'
theorem r9 : df 20000000 K g l dg x q m d k0 k1 k2 K' g' l' dg' x' q' m' d' p0 p1 p2 = some (wV (chkB K g l dg x q m d k0 k1 k2) (chkB K' g' l' dg' x' q' m' d' p0 p1 p2) K K' (iA g dg x m d).1 (iA g' dg' x' m' d').2) := by
  unfold df wV
  rw [tq hml hdl hd18 h0 h1 h2, tq hml' hdl' hd18' h0' h1' h2']
  simp only [ob]
  by_cases c1 : chkB K g l dg x q m d k0 k1 k2 = 0
  · rw [if_neg (by omega), c1]
    by_cases c2 : chkB K' g' l' dg' x' q' m' d' p0 p1 p2 = 0
    · rw [if_neg (by omega), c2]
      simp only [bne_self_eq_false, cond_false]
      by_cases e1 : K = 1
      · rw [show (K != 1) = false by rw [e1]; rfl]
        simp only [cond_false]
        by_cases e2 : K' = 1
        · rw [show (K' != 1) = false by rw [e2]; rfl, if_neg (by omega), if_neg (by omega)]
          simp only [cond_false]
          obtain ⟨f1, g1⟩ := ln hml hdl hd18 h0 h1 h2 c1 e1
          obtain ⟨f2, g2⟩ := ln hml' hdl' hd18' h0' h1' h2' c2 e2
          rw [xe hml hdl hd18 h0 h1 h2, xe hml' hdl' hd18' h0' h1' h2', if_pos f1, if_pos g1, if_pos f2, if_pos g2]
          simp only [ob]
          obtain ⟨r, r1, r2⟩ := yg (iA g dg x m d).1 (iA g' dg' x' m' d').2
          rw [r1]
          simp only [r2]
          by_cases h : (iA g dg x m d).1 > (iA g' dg' x' m' d').2
          · rw [decide_eq_true h, if_pos h]; rfl
          · rw [decide_eq_false h, if_neg h]; rfl
        · rw [bne1 e2, if_neg (by omega), if_pos (by omega)]; rfl
      · rw [bne1 e1]
        by_cases e2 : K' = 1
        · rw [show (K' != 1) = false by rw [e2]; rfl, if_neg (by omega), if_pos (by omega)]; rfl
        · rw [bne1 e2, if_pos (by omega)]; rfl
    · rw [if_pos c2, bne0 c2]; rfl
  · rw [if_pos c1, bne0 c1]; rfl
theorem sT : dP 20000000 K g l dg x q m d k0 k1 k2 K' g' l' dg' x' q' m' d' p0 p1 p2 = some (wV (chkB K g l dg x q m d k0 k1 k2) (chkB K' g' l' dg' x' q' m' d' p0 p1 p2) K K' (iA g dg x m d).1 (iA g' dg' x' m' d').2) := by
  unfold dP wV
  rw [nF hml hdl hd18 h0 h1 h2, nF hml' hdl' hd18' h0' h1' h2']
  simp only [ob]
  by_cases c1 : chkB K g l dg x q m d k0 k1 k2 = 0
  · rw [if_neg (by omega), c1]
    by_cases c2 : chkB K' g' l' dg' x' q' m' d' p0 p1 p2 = 0
    · rw [if_neg (by omega), c2]
      simp only [bne_self_eq_false, cond_false]
      by_cases e1 : K = 1
      · rw [show (K != 1) = false by rw [e1]; rfl, show (K == 1) = true by rw [e1]; rfl]
        simp only [cond_false, cond_true]
        by_cases e2 : K' = 1
        · rw [show (K' == 1) = true by rw [e2]; rfl, if_neg (by omega), if_neg (by omega)]
          simp only [cond_true]
          obtain ⟨f1, g1⟩ := ln hml hdl hd18 h0 h1 h2 c1 e1
          obtain ⟨f2, g2⟩ := ln hml' hdl' hd18' h0' h1' h2' c2 e2
          obtain ⟨rfl, E1⟩ := mL f1 g1
          obtain ⟨rfl, E2⟩ := mL f2 g2
          rw [o6 E1 hdl, o6 E2 hdl']
          simp only [ob]
          by_cases h : (iA g dg x m d).1 > (iA g' dg' x' m' d').2
          · rw [decide_eq_true h, if_pos h]; rfl
          · rw [decide_eq_false h, if_neg h]; rfl
        · rw [beq_eq_false_iff_ne.2 e2, if_neg (by omega), if_pos (by omega)]; rfl
      · rw [bne1 e1, beq_eq_false_iff_ne.2 e1]
        by_cases e2 : K' = 1
        · rw [show (K' != 1) = false by rw [e2]; rfl, if_neg (by omega), if_pos (by omega)]; rfl
        · rw [bne1 e2, if_pos (by omega)]; rfl
    · rw [if_pos c2, bne0 c2]; rfl
  · rw [if_pos c1, bne0 c1]; rfl
end
theorem re (y : Int) {m : Nat} (h1 : 1 ≤ m) (h2 : m ≤ 23) : dayM y m < dayM y (m + 1) := by
  by_cases h : m ≤ 12
  · have := n7 y h1 h
    have := dW y (m : Int)
    omega
  · have e1 := li y (m := m - 12) (by omega) (by omega)
    have e2 := li y (m := m - 12 + 1) (by omega) (by omega)
    have e3 := n7 (y + 1) (m := m - 12) (by omega) (by omega)
    have := dW (y + 1) ((m - 12 : Nat) : Int)
    rw [show m - 12 + 12 = m by omega] at e1
    rw [show m - 12 + 1 + 12 = m + 1 by omega] at e2
    omega
theorem wq (y : Int) {a : Nat} (h1 : 1 ≤ a) : ∀ c, 1 ≤ c → a + c ≤ 24 → dayM y a < dayM y (a + c)
  | 0, h, _ => absurd h (by omega)
  | c + 1, _, h2 => by
    have hs := re y (m := a + c) (by omega) (by omega)
    by_cases h : c = 0
    · subst h; exact hs
    · have := wq y h1 c (by omega) (by omega)
      rw [show a + (c + 1) = a + c + 1 by omega]
      omega
theorem AV {g l : Bool} {dg : List UInt8} {x : Int} {m d : List UInt8} (E : Exact g l dg x m d) : (iA g dg x m d).1 ≤ (iA g dg x m d).2 := by
  unfold iA
  by_cases hm : m = []
  · rw [if_pos hm]
    have := nN (yOf g dg x)
    simp only []
    split at this <;> omega
  · rw [if_neg hm]
    by_cases hs : 0 < sea m
    · rw [if_pos hs]
      rcases E.mon with h | ⟨j, hj, e, _⟩ | ⟨h, _⟩
      · exact absurd h hm
      · obtain ⟨f, c, _, a1, a2, a3, a4, _, a6, a7⟩ := sD hj
        rw [e, a6, a7]
        have := wq (yOf g dg x) a1 c (by omega) (by omega)
        simp only []
        omega
      · omega
    · rw [if_neg hs]
      rcases E.mon with h | ⟨j, hj, e, _⟩ | ⟨_, a1, a2, _⟩
      · exact absurd h hm
      · rw [e, eV hj] at hs; omega
      · by_cases hd : d = []
        · rw [if_pos hd]
          have := re (yOf g dg x) a1 (by omega)
          simp only []
          omega
        · rw [if_neg hd]
          exact Int.le_refl _
theorem B_of (m a0 a1 a3 a4 a5 a6 a7 a8 a9 a10 : Nat) (g : Bool) (h1 : a1 < 256) (h3 : a3 < 65536) (h4 : a4 < 256) (h5 : a5 < 256) (h6 : a6 < 256) (h7 : a7 < 256) :
    ∃ K g' l dg x mo d k0 k1 k2, dO (m + 300) (a0 : Int) (a1 : Int) g (a3 : Int) (a4 : Int) (a5 : Int) (a6 : Int) (a7 : Int) (a8 : Int) (a9 : Int) (a10 : Int) = some (K, g', l, dg, x, 0, mo, d, ((k0 : Nat) : Int), ((k1 : Nat) : Int), ((k2 : Nat) : Int)) ∧
      chkB K g' l dg x 0 mo d (k0 : Int) (k1 : Int) (k2 : Int) = 0 ∧ mo.length ≤ 18 ∧ d.length ≤ 18 ∧ dg.length ≤ 100 ∧ (K = 1 ∨ ((K = 2 ∨ K = 3) ∧ g' = false ∧ l = false ∧ dg = [] ∧ x = 0 ∧ mo = [] ∧ d = [] ∧ k0 = 0 ∧ k1 = 0 ∧ k2 = 0)) := by
  have t0 : Int.tmod (a0 : Int) 6 = ((a0 % 6 : Nat) : Int) := rfl
  unfold dO
  rw [t0]
  by_cases c0 : a0 % 6 = 0
  · rw [c0]
    exact ⟨2, false, false, [], 0, [], [], 0, 0, 0, rfl, rfl, by simp, by simp, by simp, .inr ⟨.inl rfl, rfl, rfl, rfl, rfl, rfl, rfl, rfl, rfl, rfl⟩⟩
  · rw [show (((a0 % 6 : Nat) : Int) == 0) = false from beq_eq_false_iff_ne.2 (by omega)]
    by_cases c1 : a0 % 6 = 1
    · rw [c1]
      exact ⟨3, false, false, [], 0, [], [], 0, 0, 0, rfl, rfl, by simp, by simp, by simp, .inr ⟨.inr rfl, rfl, rfl, rfl, rfl, rfl, rfl, rfl, rfl, rfl⟩⟩
    · rw [show (((a0 % 6 : Nat) : Int) == 1) = false from beq_eq_false_iff_ne.2 (by omega)]
      obtain ⟨g', l, dg, x, mo, d, k0, k1, k2, e, hc, he, hml, hd18, hdl⟩ := xT m a1 a3 a4 a5 a6 a7 a8 a9 a10 g h1 h3 h4 h5 h6 h7
      refine ⟨1, g', l, dg, x, mo, d, k0, k1, k2, ?_, ?_, hml, hd18, hdl, .inl rfl⟩
      · simp only [cond_false]
        rw [e]; rfl
      · unfold chkB
        rw [if_pos rfl, if_pos hc, if_pos he]
theorem qm (a0 a1 a3 a4 a5 a6 a7 a8 a9 a10 : Nat) (g : Bool) (b0 b1 b3 b4 b5 b6 b7 b8 b9 b10 : Nat) (g2 : Bool) (h1 : a1 < 256) (h3 : a3 < 65536) (h4 : a4 < 256) (h5 : a5 < 256) (h6 : a6 < 256) (h7 : a7 < 256)
    (i1 : b1 < 256) (i3 : b3 < 65536) (i4 : b4 < 256) (i5 : b5 < 256) (i6 : b6 < 256) (i7 : b7 < 256) :
    bN 20000000 (a0 : Int) (a1 : Int) g (a3 : Int) (a4 : Int) (a5 : Int) (a6 : Int) (a7 : Int) (a8 : Int) (a9 : Int) (a10 : Int) (b0 : Int) (b1 : Int) g2 (b3 : Int) (b4 : Int) (b5 : Int) (b6 : Int) (b7 : Int) (b8 : Int) (b9 : Int) (b10 : Int) = some true := by
  obtain ⟨K, g', l, dg, x, mo, d, k0, k1, k2, e, hc, hml, hd18, hdl, _⟩ := B_of 19999700 a0 a1 a3 a4 a5 a6 a7 a8 a9 a10 g h1 h3 h4 h5 h6 h7
  obtain ⟨K', G', L, DG, X, MO, D, K0, K1, K2, e', hc', hml', hd18', hdl', _⟩ := B_of 19999700 b0 b1 b3 b4 b5 b6 b7 b8 b9 b10 g2 i1 i3 i4 i5 i6 i7
  rw [show 19999700 + 300 = 20000000 from rfl] at e e'
  have n0 : ∀ k : Nat, (0 : Int) ≤ (k : Int) := fun k => by omega
  unfold bN
  rw [e, e']
  simp only [ob, d4, d8]
  rw [r9 hml hdl hd18 (n0 _) (n0 _) (n0 _) hml' hdl' hd18' (n0 _) (n0 _) (n0 _), sT hml hdl hd18 (n0 _) (n0 _) (n0 _) hml' hdl' hd18' (n0 _) (n0 _) (n0 _),
    r9 hml' hdl' hd18' (n0 _) (n0 _) (n0 _) hml hdl hd18 (n0 _) (n0 _) (n0 _), sT hml' hdl' hd18' (n0 _) (n0 _) (n0 _) hml hdl hd18 (n0 _) (n0 _) (n0 _), zD]
  simp only [ob, bne_self_eq_false, cond_false]
  by_cases hk : K = 1
  · rw [show (K != 1) = false by rw [hk]; rfl]
    simp only [cond_false]
    rw [r9 hml hdl hd18 (n0 _) (n0 _) (n0 _) hml hdl hd18 (n0 _) (n0 _) (n0 _), hc]
    obtain ⟨f1, g1⟩ := ln hml hdl hd18 (n0 _) (n0 _) (n0 _) hc hk
    obtain ⟨_, E⟩ := mL f1 g1
    have := AV E
    unfold wV
    rw [if_neg (by omega), if_neg (by omega), if_neg (by omega), if_neg (by omega), if_neg (by omega)]
    rfl
  · rw [bne1 hk]; rfl
end Go.Sh
