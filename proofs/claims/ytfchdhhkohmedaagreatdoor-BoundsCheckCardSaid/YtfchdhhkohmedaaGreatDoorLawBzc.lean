/- Plain proofs, kept as far as they are needed here (printed by prune.py).
   Conditions: none. -/
import Derived.Test.YtfchdhhkohmedaaGreatDoorLawBzb
set_option linter.unusedVariables false
set_option linter.unusedSimpArgs false
set_option maxRecDepth 100000
namespace Go.Sh
open Go.Abs
theorem uD : cJ 20000000 = some true := by kernel_rfl
def s8 (g l : Bool) (dg : List UInt8) (x q : Int) (m d : List UInt8) (k0 k1 k2 : Int) : Bool :=
  (((g == false) && ((l == false) && ((dg == ([] : List UInt8)) && ((x == 0) && ((q == 0) && true))))) && ((m == ([] : List UInt8)) && ((d == ([] : List UInt8)) && (((k0 == 0) && ((k1 == 0) && ((k2 == 0) && true))) && true))))
noncomputable def chkB (K : Int) (g l : Bool) (dg : List UInt8) (x q : Int) (m d : List UInt8) (k0 k1 k2 : Int) : Int :=
  if K = 1 then (if chkF g l dg x q m d k0 k1 k2 = 0 then (if exD dg m d q = true then 0 else 11) else chkF g l dg x q m d k0 k1 k2) else if K = 2 ∨ K = 3 then (if s8 g l dg x q m d k0 k1 k2 = true then 0 else 5) else 18
def zJ (e1 e2 K1 K2 lo hi : Int) : Int := if e1 ≠ 0 then e1 else if e2 ≠ 0 then e2 else if K1 ≠ 1 ∧ K2 ≠ 1 then 11 else if K1 ≠ 1 ∨ K2 ≠ 1 then 0 else if lo > hi then 11 else 0
section
variable {K : Int} {g l : Bool} {dg : List UInt8} {x q : Int} {m d : List UInt8} {k0 k1 k2 : Int} (hml : m.length ≤ 18) (hdl : dg.length ≤ 100) (hd18 : d.length ≤ 18) (h0 : 0 ≤ k0) (h1 : 0 ≤ k1) (h2 : 0 ≤ k2)
include hml hdl hd18 h0 h1 h2
theorem nu : dV 20000000 K g l dg x q m d k0 k1 k2 = some (chkB K g l dg x q m d k0 k1 k2) := by
  unfold dV chkB
  rw [tW hml hdl h0 h1 h2, uY 20000000 g l dg x q m d k0 k1 k2 (by omega) (by omega) (by omega)]
  simp only [ob]
  by_cases k1' : K = 1
  · subst k1'
    rw [if_pos rfl]
    simp only [BEq.rfl, cond_true]
    by_cases hc : chkF g l dg x q m d k0 k1 k2 = 0
    · rw [if_pos hc, hc]
      by_cases he : exD dg m d q = true
      · rw [if_pos he, he]; rfl
      · rw [if_neg he]
        rw [Bool.not_eq_true] at he
        rw [he]; rfl
    · rw [if_neg hc, bne0 hc]; rfl
  · rw [if_neg k1', beq_eq_false_iff_ne.2 k1']
    simp only [cond_false]
    have hn : (!(((g == false) && ((l == false) && ((dg == ([] : List UInt8)) && ((x == 0) && ((q == 0) && true))))) && ((m == ([] : List UInt8)) && ((d == ([] : List UInt8)) && (((k0 == 0) && ((k1 == 0) && ((k2 == 0) && true))) && true))))) = !(s8 g l dg x q m d k0 k1 k2) := rfl
    rw [hn]
    by_cases k2' : K = 2
    · subst k2'
      rw [if_pos (.inl rfl)]
      cases s8 g l dg x q m d k0 k1 k2 <;> rfl
    · rw [beq_eq_false_iff_ne.2 k2']
      by_cases k3' : K = 3
      · subst k3'
        rw [if_pos (.inr rfl)]
        cases s8 g l dg x q m d k0 k1 k2 <;> rfl
      · rw [beq_eq_false_iff_ne.2 k3', if_neg (by omega)]; rfl
theorem lk : bE 20000000 K g l dg x q m d k0 k1 k2 = some (chkB K g l dg x q m d k0 k1 k2) := by
  unfold bE chkB
  rw [nE hdl h0 h1 h2, sB 20000000 g l dg x q m d k0 k1 k2 (by omega) (by omega) (by omega) (by omega)]
  simp only [ob]
  by_cases k1' : K = 1
  · subst k1'
    rw [if_pos rfl]
    simp only [BEq.rfl, cond_true]
    by_cases hc : chkF g l dg x q m d k0 k1 k2 = 0
    · rw [if_pos hc, hc]
      by_cases he : exD dg m d q = true
      · rw [if_pos he, if_pos he]; rfl
      · rw [if_neg he, if_neg he]; rfl
    · rw [if_neg hc, beq_eq_false_iff_ne.2 hc]; rfl
  · rw [if_neg k1', beq_eq_false_iff_ne.2 k1']
    simp only [cond_false]
    have hn : (!(((g == false) && ((l == false) && ((dg == ([] : List UInt8)) && ((x == 0) && ((q == 0) && true))))) && ((m == ([] : List UInt8)) && ((d == ([] : List UInt8)) && (((k0 == 0) && ((k1 == 0) && ((k2 == 0) && true))) && true))))) = !(s8 g l dg x q m d k0 k1 k2) := rfl
    rw [hn]
    by_cases k2' : K = 2
    · subst k2'
      rw [if_pos (.inl rfl)]
      cases s8 g l dg x q m d k0 k1 k2 <;> rfl
    · rw [beq_eq_false_iff_ne.2 k2']
      by_cases k3' : K = 3
      · subst k3'
        rw [if_pos (.inr rfl)]
        cases s8 g l dg x q m d k0 k1 k2 <;> rfl
      · rw [beq_eq_false_iff_ne.2 k3', if_neg (by omega)]; rfl
theorem Ba : jD 20000000 K g l dg x q m d k0 k1 k2 = some (if chkB K g l dg x q m d k0 k1 k2 = 0 then (if K = 2 then [46, 46] else if K = 3 then [] else o6 g l dg x q m d k0.toNat k1.toNat k2.toNat, 0) else ([], chkB K g l dg x q m d k0 k1 k2)) := by
  unfold jD
  rw [nu hml hdl hd18 h0 h1 h2]
  simp only [ob]
  by_cases hc : chkB K g l dg x q m d k0 k1 k2 = 0
  · rw [if_pos hc, hc]
    simp only [bne_self_eq_false, cond_false]
    by_cases k2' : K = 2
    · subst k2'; rfl
    · rw [beq_eq_false_iff_ne.2 k2', if_neg k2']
      by_cases k3' : K = 3
      · subst k3'; rfl
      · rw [beq_eq_false_iff_ne.2 k3', if_neg k3']
        have k1' : K = 1 := by
          unfold chkB at hc
          by_cases h : K = 1
          · exact h
          · rw [if_neg h, if_neg (by omega)] at hc; cases hc
        have hF : chkF g l dg x q m d k0 k1 k2 = 0 := by
          unfold chkB at hc
          rw [if_pos k1'] at hc
          by_cases h : chkF g l dg x q m d k0 k1 k2 = 0
          · exact h
          · rw [if_neg h] at hc; exact absurd hc h
        have ht : cW 20000000 g l dg x q m d k0 k1 k2 = _ := zh 19999700 g l dg x q m d k0 k1 k2 hml hdl h0 h1 h2
        rw [ht, if_pos (nH hF)]
        rfl
  · rw [if_neg hc, bne0 hc]; rfl
theorem u9 (hc : chkB K g l dg x q m d k0 k1 k2 = 0) : dT 20000000 K g l dg x q m d k0 k1 k2 = some (if K = 2 then [46, 46] else if K = 3 then [] else o6 g l dg x q m d k0.toNat k1.toNat k2.toNat) := by
  have _u := And.intro hml (And.intro hdl hd18)
  unfold dT
  by_cases k2' : K = 2
  · subst k2'; rfl
  · rw [beq_eq_false_iff_ne.2 k2', if_neg k2']
    by_cases k3' : K = 3
    · subst k3'; rfl
    · rw [beq_eq_false_iff_ne.2 k3', if_neg k3']
      have k1' : K = 1 := by
        unfold chkB at hc
        by_cases h : K = 1
        · exact h
        · rw [if_neg h, if_neg (by omega)] at hc; cases hc
      have hF : chkF g l dg x q m d k0 k1 k2 = 0 := by
        unfold chkB at hc
        rw [if_pos k1'] at hc
        by_cases h : chkF g l dg x q m d k0 k1 k2 = 0
        · exact h
        · rw [if_neg h] at hc; exact absurd hc h
      have ht : dk 20000000 g l dg x q m d k0 k1 k2 = _ := xT 19999700 h0 h1 h2 (nH hF)
      rw [ht]
      rfl
theorem nc (hc : chkB K g l dg x q m d k0 k1 k2 = 0) (hk : K = 1) : chkF g l dg x q m d k0 k1 k2 = 0 ∧ exD dg m d q = true := by
  have _u := And.intro hml (And.intro hdl (And.intro hd18 (And.intro h0 (And.intro h1 h2))))
  unfold chkB at hc
  rw [if_pos hk] at hc
  by_cases h : chkF g l dg x q m d k0 k1 k2 = 0
  · rw [if_pos h] at hc
    by_cases he : exD dg m d q = true
    · exact ⟨h, he⟩
    · rw [if_neg he] at hc; cases hc
  · rw [if_neg h] at hc; exact absurd hc h
end
theorem DW (n : Nat) (a b : Int) : ef n a b = some (if a < b then -1 else if a > b then 1 else 0) := by
  unfold ef fv
  simp only [ob, bne_self_eq_false, cond_false]
  by_cases h : a < b
  · rw [decide_eq_true h, if_pos h]; rfl
  · rw [decide_eq_false h, if_neg h]
    by_cases h2 : a > b
    · rw [decide_eq_true h2, if_pos h2]; rfl
    · rw [decide_eq_false h2, if_neg h2]; rfl
theorem Af (a b : Int) : ∃ r, gj 20000000 0 a 0 b = some r ∧ decide (r > 0) = decide (a > b) := by
  have e8 : gJ 20000000 0 0 = some 0 := rfl
  have o1 : i6 20000000 [0, -1] = some (-1) := by kernel_rfl
  have o2 : i6 20000000 [0, 1] = some 1 := by kernel_rfl
  have o3 : i6 20000000 [0, 0] = some 0 := by kernel_rfl
  unfold gj
  rw [e8, DW]
  simp only [ob]
  by_cases h : a < b
  · rw [if_pos h, o1]
    exact ⟨_, rfl, by rw [decide_eq_false (show ¬ a > b by omega)]; rfl⟩
  · rw [if_neg h]
    by_cases h2 : a > b
    · rw [if_pos h2, o2]
      exact ⟨_, rfl, by rw [decide_eq_true h2]; rfl⟩
    · rw [if_neg h2, o3]
      exact ⟨_, rfl, by rw [decide_eq_false h2]; rfl⟩
theorem bne1 {K : Int} (h : K ≠ 1) : (K != 1) = true := by simp [h]
section
variable {K : Int} {g l : Bool} {dg : List UInt8} {x q : Int} {m d : List UInt8} {k0 k1 k2 : Int} {K' : Int} {g' l' : Bool} {dg' : List UInt8} {x' q' : Int} {m' d' : List UInt8} {p0 p1 p2 : Int} (hml : m.length ≤ 18) (hdl : dg.length ≤ 100) (hd18 : d.length ≤ 18) (h0 : 0 ≤ k0) (h1 : 0 ≤ k1) (h2 : 0 ≤ k2) (hml' : m'.length ≤ 18) (hdl' : dg'.length ≤ 100) (hd18' : d'.length ≤ 18) (h0' : 0 ≤ p0) (h1' : 0 ≤ p1) (h2' : 0 ≤ p2)
include hml hdl hd18 h0 h1 h2 hml' hdl' hd18' h0' h1' h2'
theorem Bl : dA 20000000 K g l dg x q m d k0 k1 k2 K' g' l' dg' x' q' m' d' p0 p1 p2 = some (zJ (chkB K g l dg x q m d k0 k1 k2) (chkB K' g' l' dg' x' q' m' d' p0 p1 p2) K K' (jc g dg x m d).1 (jc g' dg' x' m' d').2) := by
  unfold dA zJ
  rw [nu hml hdl hd18 h0 h1 h2, nu hml' hdl' hd18' h0' h1' h2']
  simp only [ob]
  by_cases c1 : chkB K g l dg x q m d k0 k1 k2 = 0
  · rw [if_neg (by omega), c1]
    by_cases c2 : chkB K' g' l' dg' x' q' m' d' p0 p1 p2 = 0
    · rw [if_neg (by omega), c2]
      simp only [bne_self_eq_false, cond_false]
      by_cases e1 : K = 1
      · rw [show (K != 1) = false by rw [e1]; rfl]
        simp only [cond_false]
        by_cases e2 : K' = 1
        · rw [show (K' != 1) = false by rw [e2]; rfl, if_neg (by omega), if_neg (by omega)]
          simp only [cond_false]
          obtain ⟨f1, g1⟩ := nc hml hdl hd18 h0 h1 h2 c1 e1
          obtain ⟨f2, g2⟩ := nc hml' hdl' hd18' h0' h1' h2' c2 e2
          rw [tz hml hdl hd18 h0 h1 h2, tz hml' hdl' hd18' h0' h1' h2', if_pos f1, if_pos g1, if_pos f2, if_pos g2]
          simp only [ob]
          obtain ⟨r, r1, r2⟩ := Af (jc g dg x m d).1 (jc g' dg' x' m' d').2
          rw [r1]
          simp only [r2]
          by_cases h : (jc g dg x m d).1 > (jc g' dg' x' m' d').2
          · rw [decide_eq_true h, if_pos h]; rfl
          · rw [decide_eq_false h, if_neg h]; rfl
        · rw [bne1 e2, if_neg (by omega), if_pos (by omega)]; rfl
      · rw [bne1 e1]
        by_cases e2 : K' = 1
        · rw [show (K' != 1) = false by rw [e2]; rfl, if_neg (by omega), if_pos (by omega)]; rfl
        · rw [bne1 e2, if_pos (by omega)]; rfl
    · rw [if_pos c2, bne0 c2]; rfl
  · rw [if_pos c1, bne0 c1]; rfl
theorem zd : df 20000000 K g l dg x q m d k0 k1 k2 K' g' l' dg' x' q' m' d' p0 p1 p2 = some (zJ (chkB K g l dg x q m d k0 k1 k2) (chkB K' g' l' dg' x' q' m' d' p0 p1 p2) K K' (jc g dg x m d).1 (jc g' dg' x' m' d').2) := by
  unfold df zJ
  rw [lk hml hdl hd18 h0 h1 h2, lk hml' hdl' hd18' h0' h1' h2']
  simp only [ob]
  by_cases c1 : chkB K g l dg x q m d k0 k1 k2 = 0
  · rw [if_neg (by omega), c1]
    by_cases c2 : chkB K' g' l' dg' x' q' m' d' p0 p1 p2 = 0
    · rw [if_neg (by omega), c2]
      simp only [bne_self_eq_false, cond_false]
      by_cases e1 : K = 1
      · rw [show (K != 1) = false by rw [e1]; rfl, show (K == 1) = true by rw [e1]; rfl]
        simp only [cond_false, cond_true]
        by_cases e2 : K' = 1
        · rw [show (K' == 1) = true by rw [e2]; rfl, if_neg (by omega), if_neg (by omega)]
          simp only [cond_true]
          obtain ⟨f1, g1⟩ := nc hml hdl hd18 h0 h1 h2 c1 e1
          obtain ⟨f2, g2⟩ := nc hml' hdl' hd18' h0' h1' h2' c2 e2
          obtain ⟨rfl, E1⟩ := qF f1 g1
          obtain ⟨rfl, E2⟩ := qF f2 g2
          rw [pT E1 hdl, pT E2 hdl']
          simp only [ob]
          by_cases h : (jc g dg x m d).1 > (jc g' dg' x' m' d').2
          · rw [decide_eq_true h, if_pos h]; rfl
          · rw [decide_eq_false h, if_neg h]; rfl
        · rw [beq_eq_false_iff_ne.2 e2, if_neg (by omega), if_pos (by omega)]; rfl
      · rw [bne1 e1, beq_eq_false_iff_ne.2 e1]
        by_cases e2 : K' = 1
        · rw [show (K' != 1) = false by rw [e2]; rfl, if_neg (by omega), if_pos (by omega)]; rfl
        · rw [bne1 e2, if_pos (by omega)]; rfl
    · rw [if_pos c2, bne0 c2]; rfl
  · rw [if_pos c1, bne0 c1]; rfl
end
theorem BO (n : Nat) (K : Int) (g l : Bool) (dg : List UInt8) (x q : Int) (m d : List UInt8) (k0 k1 k2 K' : Int) (g' l' : Bool) (dg' : List UInt8) (x' q' : Int) (m' d' : List UInt8) (p0 p1 p2 : Int) (L : List TR7) {i : Nat} {b : TR7} (hi : i < 2) (hb : L[i]? = some b) (hn : n = 20000000) :
    ay n ((i : Int), K, g, l, dg, x, q, m, d, k0, k1, k2, K', g', l', dg', x', q', m', d', p0, p1, p2, L) =
      some (if 30 < b.2.2.2.1.length ∨ 10 < b.2.2.2.2.2.2.1.length ∨ 10 < b.2.2.2.2.2.2.2.1.length then .inr (.inl true) else .inl (((i + 1 : Nat) : Int), K, g, l, dg, x, q, m, d, k0, k1, k2, K', g', l', dg', x', q', m', d', p0, p1, p2, L)) := by
  have hl := (List.getElem?_eq_some_iff.1 hb).1
  have w1 : IntKind.wrap .i64 ((i : Int) + 1) = ((i + 1 : Nat) : Int) := by rw [wrap_i64 _ (by omega) (by omega)]; omega
  unfold ay cV
  rw [hn, uD]
  simp only [d4, d8, d16]
  rw [decide_eq_true (show (i : Int) < 2 by omega)]
  simp only [cond_true, dl hl, ob, hb, w1]
  by_cases c1 : 30 < b.2.2.2.1.length
  · rw [decide_eq_true (show ((b.2.2.2.1.length : Nat) : Int) > 30 by omega), if_pos (.inl c1)]; rfl
  · rw [decide_eq_false (show ¬ ((b.2.2.2.1.length : Nat) : Int) > 30 by omega)]
    simp only [cond_false]
    by_cases c2 : 10 < b.2.2.2.2.2.2.1.length
    · rw [decide_eq_true (show ((b.2.2.2.2.2.2.1.length : Nat) : Int) > 10 by omega), if_pos (.inr (.inl c2))]; rfl
    · rw [decide_eq_false (show ¬ ((b.2.2.2.2.2.2.1.length : Nat) : Int) > 10 by omega)]
      simp only [cond_false]
      by_cases c3 : 10 < b.2.2.2.2.2.2.2.1.length
      · rw [decide_eq_true (show ((b.2.2.2.2.2.2.2.1.length : Nat) : Int) > 10 by omega), if_pos (.inr (.inr c3))]; rfl
      · rw [decide_eq_false (show ¬ ((b.2.2.2.2.2.2.2.1.length : Nat) : Int) > 10 by omega), if_neg (by omega), cond_false, w1]
theorem o5 (K : Int) (g l : Bool) (dg : List UInt8) (x q : Int) (m d : List UInt8) (k0 k1 k2 K' : Int) (g' l' : Bool) (dg' : List UInt8) (x' q' : Int) (m' d' : List UInt8) (p0 p1 p2 : Int)
    (h0 : 0 ≤ k0) (h1 : 0 ≤ k1) (h2 : 0 ≤ k2) (i0 : 0 ≤ p0) (i1 : 0 ≤ p1) (i2 : 0 ≤ p2) :
    bK 20000000 K g l dg x q m d k0 k1 k2 K' g' l' dg' x' q' m' d' p0 p1 p2 = some true := by
  have st := fun (i : Nat) (b : TR7) (hi : i < 2) (hb : ([(K, g, l, dg, x, q, m, d, k0, k1, k2), (K', g', l', dg', x', q', m', d', p0, p1, p2)] : List TR7)[i]? = some b) => BO 20000000 K g l dg x q m d k0 k1 k2 K' g' l' dg' x' q' m' d' p0 p1 p2 [(K, g, l, dg, x, q, m, d, k0, k1, k2), (K', g', l', dg', x', q', m', d', p0, p1, p2)] hi hb rfl
  have s0 := st 0 _ (by omega) rfl
  have s1 := st 1 _ (by omega) rfl
  have s2 : ay 20000000 (((2 : Nat) : Int), K, g, l, dg, x, q, m, d, k0, k1, k2, K', g', l', dg', x', q', m', d', p0, p1, p2, [(K, g, l, dg, x, q, m, d, k0, k1, k2), (K', g', l', dg', x', q', m', d', p0, p1, p2)]) = some (.inr (.inr (K, g, l, dg, x, q, m, d, k0, k1, k2, K', g', l', dg', x', q', m', d', p0, p1, p2))) := rfl
  unfold bK
  show ob (ae (ay 20000000) (19999999 + 1) (((0 : Nat) : Int), K, g, l, dg, x, q, m, d, k0, k1, k2, K', g', l', dg', x', q', m', d', p0, p1, p2, [(K, g, l, dg, x, q, m, d, k0, k1, k2), (K', g', l', dg', x', q', m', d', p0, p1, p2)])) _ = _
  rw [ae, s0]
  simp only []
  by_cases c0 : 30 < dg.length ∨ 10 < m.length ∨ 10 < d.length
  · rw [if_pos c0]; rfl
  · rw [if_neg c0]
    show ob (ae (ay 20000000) (19999998 + 1) (((1 : Nat) : Int), K, g, l, dg, x, q, m, d, k0, k1, k2, K', g', l', dg', x', q', m', d', p0, p1, p2, [(K, g, l, dg, x, q, m, d, k0, k1, k2), (K', g', l', dg', x', q', m', d', p0, p1, p2)])) _ = _
    rw [ae, s1]
    simp only []
    by_cases c1 : 30 < dg'.length ∨ 10 < m'.length ∨ 10 < d'.length
    · rw [if_pos c1]; rfl
    · rw [if_neg c1]
      show ob (ae (ay 20000000) (19999997 + 1) (((2 : Nat) : Int), K, g, l, dg, x, q, m, d, k0, k1, k2, K', g', l', dg', x', q', m', d', p0, p1, p2, [(K, g, l, dg, x, q, m, d, k0, k1, k2), (K', g', l', dg', x', q', m', d', p0, p1, p2)])) _ = _
      rw [ae, s2]
      simp only [ob, d4, d8, d16]
      have hml : m.length ≤ 18 := by omega
      have hdl : dg.length ≤ 100 := by omega
      have hd18 : d.length ≤ 18 := by omega
      have hml' : m'.length ≤ 18 := by omega
      have hdl' : dg'.length ≤ 100 := by omega
      have hd18' : d'.length ≤ 18 := by omega
      rw [lk hml hdl hd18 h0 h1 h2, Ba hml hdl hd18 h0 h1 h2, tz hml hdl hd18 h0 h1 h2, nE hdl h0 h1 h2]
      simp only [ob]
      have fin : ∀ (T : List UInt8 × Int) (W : Int), (if chkB K g l dg x q m d k0 k1 k2 = 0 then ((if K = 2 then [46, 46] else if K = 3 then [] else o6 g l dg x q m d k0.toNat k1.toNat k2.toNat), (0 : Int)) else ([], chkB K g l dg x q m d k0 k1 k2)) = T → bH 20000000 (chkB K g l dg x q m d k0 k1 k2) T.1 T.2 W W K g l dg x q m d k0 k1 k2 K' g' l' dg' x' q' m' d' p0 p1 p2 = some true := by
        intro T W hT
        unfold bH
        rw [nu hml hdl hd18 h0 h1 h2, Bl hml hdl hd18 h0 h1 h2 hml' hdl' hd18' i0 i1 i2, zd hml hdl hd18 h0 h1 h2 hml' hdl' hd18' i0 i1 i2, uD]
        by_cases hc : chkB K g l dg x q m d k0 k1 k2 = 0
        · rw [u9 hml hdl hd18 h0 h1 h2 hc]
          rw [if_pos hc] at hT
          subst hT
          rw [hc]
          simp only [ob, BEq.rfl, cond_true, bne_self_eq_false, cond_false]
        · rw [if_neg hc] at hT
          subst hT
          rw [bne0 hc]
          simp only [ob, BEq.rfl, cond_true]
      have j15 : ∀ (T : List UInt8) (e W : Int), ∃ fl : Bool, bF 20000000 (chkB K g l dg x q m d k0 k1 k2) T e W (chkF g l dg x q m d k0 k1 k2) K g l dg x q m d k0 k1 k2 K' g' l' dg' x' q' m' d' p0 p1 p2 = some (chkB K g l dg x q m d k0 k1 k2, T, e, W, chkF g l dg x q m d k0 k1 k2, fl, K, g, l, dg, x, q, m, d, k0, k1, k2, K', g', l', dg', x', q', m', d', p0, p1, p2) ∧ fl = decide (chkF g l dg x q m d k0 k1 k2 = 0 ∧ ¬ exD dg m d q = true) := by
        intro T e W
        unfold bF
        rw [sB 20000000 g l dg x q m d k0 k1 k2 (by omega) (by omega) (by omega) (by omega)]
        by_cases hc : chkF g l dg x q m d k0 k1 k2 = 0
        · rw [hc]
          by_cases he : exD dg m d q = true
          · rw [if_pos he]
            exact ⟨false, rfl, by rw [decide_eq_false (by rintro ⟨_, h⟩; exact h he)]⟩
          · rw [if_neg he]
            exact ⟨true, rfl, by rw [decide_eq_true ⟨rfl, he⟩]⟩
        · rw [beq_eq_false_iff_ne.2 hc]
          exact ⟨false, rfl, by rw [decide_eq_false (fun h => hc h.1)]⟩
      generalize hT : (if chkB K g l dg x q m d k0 k1 k2 = 0 then ((if K = 2 then [46, 46] else if K = 3 then [] else o6 g l dg x q m d k0.toNat k1.toNat k2.toNat), (0 : Int)) else ([], chkB K g l dg x q m d k0 k1 k2)) = T
      obtain ⟨fl, e15, hfl⟩ := j15 T.1 T.2 (d4 (if chkF g l dg x q m d k0 k1 k2 = 0 then (if exD dg m d q = true then ((0 : Int), (jc g dg x m d).1, (0 : Int), (jc g dg x m d).2, (0 : Int)) else (0, 0, 0, 0, 1)) else (0, 0, 0, 0, chkF g l dg x q m d k0 k1 k2)))
      simp only [d4] at e15
      rw [e15]
      simp only [d4, d8, d16]
      unfold cF
      by_cases hc : chkF g l dg x q m d k0 k1 k2 = 0
      · by_cases he : exD dg m d q = true
        · have : fl = false := by rw [hfl, decide_eq_false (by rintro ⟨_, h⟩; exact h he)]
          rw [this, if_pos hc, if_pos he, hc]
          simp only [cond_false, d4, d8, d16]
          rw [fin T 0 hT]
        · have : fl = true := by rw [hfl, decide_eq_true ⟨hc, he⟩]
          rw [this, if_pos hc, if_neg he]
          simp only [cond_true, d4, d8, d16]
          rw [fin T 1 hT]
      · have : fl = false := by rw [hfl, decide_eq_false (fun h => hc h.1)]
        rw [this, if_neg hc]
        simp only [cond_false, d4, d8, d16]
        rw [fin T _ hT]
end Go.Sh
