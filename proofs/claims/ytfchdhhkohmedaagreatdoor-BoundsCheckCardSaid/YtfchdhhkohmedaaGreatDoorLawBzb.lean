/- Plain proofs, kept as far as they are needed here (printed by prune.py).
   Conditions: none. -/
import Derived.Test.YtfchdhhkohmedaaGreatDoorLawBza
set_option linter.unusedVariables false
set_option linter.unusedSimpArgs false
set_option maxRecDepth 100000
namespace Go.Sh
open Go.Abs
def ec (A B : Nat) (w : List UInt8) : List UInt8 := mt A ++ w ++ mt B
def o6 (g l : Bool) (dg : List UInt8) (x q : Int) (m d : List UInt8) (k0 k1 k2 : Nat) : List UInt8 :=
  ec (plA (cU m d) k0 k1 k2).1 (plB (cU m d) k0 k1 k2).1 (gC g l dg x q)
    ++ ((if m = [] then [] else 45 :: ec (plA (cU m d) k0 k1 k2).2.1 (plB (cU m d) k0 k1 k2).2.1 m)
    ++ (if d = [] then [] else 45 :: ec (plA (cU m d) k0 k1 k2).2.2 (plB (cU m d) k0 k1 k2).2.2 d))
structure OkD (g l : Bool) (dg : List UInt8) (x q : Nat) (m d : List UInt8) (k0 k1 k2 : Nat) : Prop where
  yr : okY g l dg (x : Int) (q : Int)
  x16 : x ≤ 16
  q17 : q ≤ 17
  dg17 : dg.length ≤ 17
  noM : 0 < q → m = []
  mon : m = [] ∨ (m.length = 2 ∧ ∀ c ∈ m, isDX c = true)
  day : d = [] ∨ (m ≠ [] ∧ d.length = 2 ∧ ∀ c ∈ d, isDX c = true)
  m0 : k0 < 4
  m1 : k1 < 4
  m2 : k2 < 4
  z1 : cU m d < 2 → k1 = 0
  z2 : cU m d < 3 → k2 = 0
theorem xw {g l : Bool} {dg : List UInt8} {x q : Int} {m d : List UInt8} {k0 k1 k2 : Int} (p0 : 0 ≤ k0) (p1 : 0 ≤ k1) (p2 : 0 ≤ k2) (h : chkD g l dg x q m d k0 k1 k2 = 0) :
    ∃ x' q' a b c : Nat, x = (x' : Int) ∧ q = (q' : Int) ∧ k0 = (a : Int) ∧ k1 = (b : Int) ∧ k2 = (c : Int) ∧ OkD g l dg x' q' m d a b c := by
  obtain ⟨hy, hm, hd, hk⟩ := wQ h
  unfold yrD at hy
  by_cases hok : okY g l dg x q
  rotate_left
  · rw [if_neg hok] at hy; cases hy
  rw [if_pos hok] at hy
  obtain ⟨s1, s2, s3, s4, s5, s6⟩ := gY hok
  have hk' : ¬ (3 < k0 ∨ 3 < k1 ∨ 3 < k2 ∨ (cU m d < 2 ∧ k1 ≠ 0) ∨ (cU m d < 3 ∧ k2 ≠ 0)) := by
    intro z
    unfold allM at hk
    rw [if_pos z] at hk
    exact absurd hk (by decide)
  refine ⟨x.toNat, q.toNat, k0.toNat, k1.toNat, k2.toNat, by omega, by omega, by omega, by omega, by omega, ?_⟩
  rw [← Int.toNat_of_nonneg s1, ← Int.toNat_of_nonneg s3] at hok
  refine ⟨hok, by omega, by omega, s6, ?_, ?_, ?_, by omega, by omega, by omega, by omega, by omega⟩
  · intro hq
    unfold yrB at hy
    have hq' : decide (0 < q) = true := by simp; omega
    rw [hq'] at hy
    by_cases hm0 : m = []
    · exact hm0
    · have : (m == []) = false := beq_eq_false_iff_ne.2 hm0
      rw [this] at hy
      simp at hy
  · rcases hm with hm | hm | hm
    · exact .inl hm
    · exact .inr (vN hm)
    · exact .inr (kO (by omega) hm)
  · rcases hd with hd | ⟨hd, _, h31⟩
    · exact .inl hd
    · have := kO (show 31 ≤ 31 by omega) h31
      exact .inr ⟨hd, this.1, this.2⟩
theorem zC (n k i : Nat) (hi : i < k) (hk : k ≤ 3) (A B : List Nat) (a b : Nat) (ha : A[i]? = some a) (hb : B[i]? = some b) (a4 : a < 4) (b4 : b < 4) (ws : List (List UInt8)) (hl : ws.length = k) (w : List UInt8) (w0 w1 w2 : List UInt8) (hw : [w0, w1, w2][i]? = some w) (hwl : w.length ≤ 1000) :
    aq n (k, (k : Int), (i : Int), A.map cI, B.map cI, ws, [w0, w1, w2]) = some (.inl (k, (k : Int), ((i + 1 : Nat) : Int), A.map cI, B.map cI, ws.set i (ec a b w), [w0, w1, w2])) := by
  have w2' : IntKind.wrap .i64 ((i : Int) + 1) = ((i + 1 : Nat) : Int) := by rw [wrap_i64 _ (by omega) (by omega)]; omega
  have hA : (A.map cI)[i]? = some (a : Int) := by rw [List.getElem?_map, ha]; rfl
  have hB : (B.map cI)[i]? = some (b : Int) := by rw [List.getElem?_map, hb]; rfl
  have hmt : ∀ z : Nat, z < 4 → (mt z).length ≤ 1 := fun z hz => by
    unfold mt
    split
    · simp
    · split
      · simp
      · split <;> simp
  unfold aq
  rw [aN, if_pos (show (i : Int) < (k : Int) by omega)]
  simp only [dl hi, dl (show i < 3 by omega), ob, hw, d4, hA, hB, (r6 n a a4).1, (r6 n b b4).1]
  have c1 := hmt a a4
  have c2 := hmt b b4
  have q1 : cat (mt a) w = some (mt a ++ w) := eB (by omega)
  have q2 : cat (mt a ++ w) (mt b) = some (mt a ++ w ++ mt b) := eB (by rw [List.length_append]; omega)
  rw [q1]
  simp only [ob]
  rw [q2]
  simp only [ob]
  have hi' : i < ws.length := by omega
  obtain ⟨v, hv⟩ : ∃ v, ws[i]? = some v := ⟨ws[i], List.getElem?_eq_getElem hi'⟩
  rw [dl hi']
  simp only [ob, hv, w2']
  rfl
theorem tc (n k : Nat) (A B : List Int) (ws V : List (List UInt8)) : aq n (k, (k : Int), (k : Int), A, B, ws, V) = some (.inr ws) := by
  unfold aq
  rw [aN, if_neg (show ¬ ((k : Int) < (k : Int)) by omega)]
theorem kw (a b : Nat) (w : List UInt8) : (ec a b w).length ≤ w.length + 2 := by
  have hmt : ∀ z : Nat, (mt z).length ≤ 1 := fun z => by
    unfold mt
    split
    · simp
    · split
      · simp
      · split <;> simp
  have := hmt a
  have := hmt b
  unfold ec
  simp only [List.length_append]
  omega
theorem C8 : cU [] [] = 1 := rfl
theorem Ap {m : List UInt8} (h : m ≠ []) : cU m [] = 2 := by unfold cU; rw [beq_eq_false_iff_ne.2 h]; rfl
theorem Au {m d : List UInt8} (h : m ≠ []) (h2 : d ≠ []) : cU m d = 3 := by unfold cU; rw [beq_eq_false_iff_ne.2 h, beq_eq_false_iff_ne.2 h2]; rfl
theorem Bf (n : Nat) (g l : Bool) (dg : List UInt8) (x q : Nat) (m d : List UInt8) (k0 k1 k2 : Nat) (hm : m.length ≤ 18) (hd : dg.length ≤ 100) :
    cW (n + 300) g l dg (x : Int) (q : Int) m d (k0 : Int) (k1 : Int) (k2 : Int) = some (if chkD g l dg (x : Int) (q : Int) m d (k0 : Int) (k1 : Int) (k2 : Int) = 0 then (o6 g l dg (x : Int) (q : Int) m d k0 k1 k2, 0) else ([], chkD g l dg (x : Int) (q : Int) m d (k0 : Int) (k1 : Int) (k2 : Int))) := by
  unfold cW
  rw [qM (n + 300) (by omega) g l dg _ _ m d _ _ _ hm hd (by omega) (by omega) (by omega)]
  show cond (chkD g l dg (x : Int) (q : Int) m d (k0 : Int) (k1 : Int) (k2 : Int) != 0) _ _ = _
  rw [nd]
  by_cases h0 : chkD g l dg (x : Int) (q : Int) m d (k0 : Int) (k1 : Int) (k2 : Int) = 0
  rotate_left
  · rw [if_neg h0, if_neg h0]
  rw [if_pos h0, if_pos h0]
  obtain ⟨x', q', a, b, c, e1, e2, e3, e4, e5, hok⟩ := xw (by omega) (by omega) (by omega) h0
  obtain rfl : x = x' := by omega
  obtain rfl : q = q' := by omega
  obtain rfl : k0 = a := by omega
  obtain rfl : k1 = b := by omega
  obtain rfl : k2 = c := by omega
  have hc := lJ m d
  have hpl := (Dp n (cU m d) k0 k1 k2 hc hok.m0 hok.m1 hok.m2 hok.z1 hok.z2).1
  obtain ⟨l0, l1, l2, l3', l4, l5⟩ := Ct (k := cU m d) hok.m0 hok.m1 hok.m2
  rw [lI (n + 300) (by omega)]
  simp only [ob]
  rw [hpl, qE (n + 300) g l dg _ _ (by omega) hd, if_pos hok.yr]
  simp only [ob, bne_self_eq_false, cond_false, wE hok.yr, cond_true]
  have hcnd : (decide ((0 : Int) ≤ ((cU m d : Nat) : Int)) && (decide (((cU m d : Nat) : Int) ≤ ((cU m d : Nat) : Int)) && decide (((cU m d : Nat) : Int) ≤ (67108864 : Int)))) = true := by
    rw [decide_eq_true (by omega), decide_eq_true (by omega), decide_eq_true (by omega)]; rfl
  rw [hcnd, ii (show cU m d ≤ 3 by omega)]
  simp only [ob, cond_true, Int.toNat_natCast]
  have hyl := rq hok.yr
  have q1 : Nat.ble 1 140737488355328 = true := rfl
  have q2 : Nat.ble 2 140737488355328 = true := rfl
  have q3 : Nat.ble 3 140737488355328 = true := rfl
  unfold o6
  generalize gC g l dg (x : Int) (q : Int) = Y at hyl
  generalize hpA : plA (cU m d) k0 k1 k2 = PA at *
  generalize hpB : plB (cU m d) k0 k1 k2 = PB at *
  obtain ⟨A0, A1, A2⟩ := PA
  obtain ⟨B0, B1, B2⟩ := PB
  simp only at l0 l1 l2 l3' l4 l5
  have st := fun (k i : Nat) (hi : i < k) (hk : k ≤ 3) (a b : Nat) (ha : [A0, A1, A2][i]? = some a) (hb : [B0, B1, B2][i]? = some b) (a4 : a < 4) (b4 : b < 4) (ws : List (List UInt8)) (hl : ws.length = k) (w : List UInt8) (w0 w1 w2 : List UInt8) (hw : [w0, w1, w2][i]? = some w) (hwl : w.length ≤ 1000) => zC (n + 300) k i hi hk [A0, A1, A2] [B0, B1, B2] a b ha hb a4 b4 ws hl w w0 w1 w2 hw hwl
  have big : ∀ L : List UInt8, L.length ≤ 1000 → Nat.ble L.length 140737488355328 = true := fun L h => Nat.ble_eq_true_of_le (by omega)
  by_cases hm0 : m = []
  · have hd0 : d = [] := hok.day.resolve_right (fun z => z.1 hm0)
    subst hm0 hd0
    show ob (ae (aq (n + 300)) (n + 299 + 1) (1, ((1 : Nat) : Int), ((0 : Nat) : Int), [A0, A1, A2].map cI, [B0, B1, B2].map cI, [[]], [Y, [], []])) _ = _
    rw [ae, st 1 0 (by omega) (by omega) A0 B0 rfl rfl l0 l3' [[]] rfl Y Y [] [] rfl (by omega)]
    show ob (ae (aq (n + 300)) (n + 298 + 1) (1, ((1 : Nat) : Int), ((1 : Nat) : Int), [A0, A1, A2].map cI, [B0, B1, B2].map cI, [ec A0 B0 Y], [Y, [], []])) _ = _
    rw [ae, tc]
    simp only [ob]
    have e : Lib.join [ec A0 B0 Y] [45] = ec A0 B0 Y := Lib.join_one _ _
    have hw := kw A0 B0 Y
    rw [e, big _ (by omega)]
    simp [q1]
  · have hml : m.length = 2 := (hok.mon.resolve_left hm0).1
    by_cases hd0 : d = []
    · subst hd0
      rw [Ap hm0] at hpA hpB ⊢
      show ob (ae (aq (n + 300)) (n + 299 + 1) (2, ((2 : Nat) : Int), ((0 : Nat) : Int), [A0, A1, A2].map cI, [B0, B1, B2].map cI, [[], []], [Y, m, []])) _ = _
      rw [ae, st 2 0 (by omega) (by omega) A0 B0 rfl rfl l0 l3' [[], []] rfl Y Y m [] rfl (by omega)]
      show ob (ae (aq (n + 300)) (n + 298 + 1) (2, ((2 : Nat) : Int), ((1 : Nat) : Int), [A0, A1, A2].map cI, [B0, B1, B2].map cI, [ec A0 B0 Y, []], [Y, m, []])) _ = _
      rw [ae, st 2 1 (by omega) (by omega) A1 B1 rfl rfl l1 l4 [ec A0 B0 Y, []] rfl m Y m [] rfl (by omega)]
      show ob (ae (aq (n + 300)) (n + 297 + 1) (2, ((2 : Nat) : Int), ((2 : Nat) : Int), [A0, A1, A2].map cI, [B0, B1, B2].map cI, [ec A0 B0 Y, ec A1 B1 m], [Y, m, []])) _ = _
      rw [ae, tc]
      simp only [ob]
      have e : Lib.join [ec A0 B0 Y, ec A1 B1 m] [45] = ec A0 B0 Y ++ (45 :: ec A1 B1 m) := by rw [Lib.join_cons]; simp [Lib.joinTail]
      have hw := kw A0 B0 Y
      have hw1 := kw A1 B1 m
      rw [e, big _ (by simp only [List.length_append, List.length_cons]; omega)]
      rw [if_neg hm0]
      simp [q2]
    · have hdl : d.length = 2 := (hok.day.resolve_left hd0).2.1
      rw [Au hm0 hd0] at hpA hpB ⊢
      show ob (ae (aq (n + 300)) (n + 299 + 1) (3, ((3 : Nat) : Int), ((0 : Nat) : Int), [A0, A1, A2].map cI, [B0, B1, B2].map cI, [[], [], []], [Y, m, d])) _ = _
      rw [ae, st 3 0 (by omega) (by omega) A0 B0 rfl rfl l0 l3' [[], [], []] rfl Y Y m d rfl (by omega)]
      show ob (ae (aq (n + 300)) (n + 298 + 1) (3, ((3 : Nat) : Int), ((1 : Nat) : Int), [A0, A1, A2].map cI, [B0, B1, B2].map cI, [ec A0 B0 Y, [], []], [Y, m, d])) _ = _
      rw [ae, st 3 1 (by omega) (by omega) A1 B1 rfl rfl l1 l4 [ec A0 B0 Y, [], []] rfl m Y m d rfl (by omega)]
      show ob (ae (aq (n + 300)) (n + 297 + 1) (3, ((3 : Nat) : Int), ((2 : Nat) : Int), [A0, A1, A2].map cI, [B0, B1, B2].map cI, [ec A0 B0 Y, ec A1 B1 m, []], [Y, m, d])) _ = _
      rw [ae, st 3 2 (by omega) (by omega) A2 B2 rfl rfl l2 l5 [ec A0 B0 Y, ec A1 B1 m, []] rfl d Y m d rfl (by omega)]
      show ob (ae (aq (n + 300)) (n + 296 + 1) (3, ((3 : Nat) : Int), ((3 : Nat) : Int), [A0, A1, A2].map cI, [B0, B1, B2].map cI, [ec A0 B0 Y, ec A1 B1 m, ec A2 B2 d], [Y, m, d])) _ = _
      rw [ae, tc]
      simp only [ob]
      have e : Lib.join [ec A0 B0 Y, ec A1 B1 m, ec A2 B2 d] [45] = ec A0 B0 Y ++ (45 :: ec A1 B1 m ++ (45 :: ec A2 B2 d)) := by rw [Lib.join_cons]; simp [Lib.joinTail]
      have hw := kw A0 B0 Y
      have hw1 := kw A1 B1 m
      have hw2 := kw A2 B2 d
      rw [e, big _ (by simp only [List.length_append, List.length_cons]; omega)]
      rw [if_neg hm0, if_neg hd0]
      simp [q3]
theorem vg (n : Nat) {g l : Bool} {dg : List UInt8} {x q : Nat} {m d : List UInt8} {k0 k1 k2 : Nat} (hok : OkD g l dg x q m d k0 k1 k2) :
    dk (n + 300) g l dg (x : Int) (q : Int) m d (k0 : Int) (k1 : Int) (k2 : Int) = some (o6 g l dg (x : Int) (q : Int) m d k0 k1 k2) := by
  have hc := lJ m d
  have hpl := (Dp n (cU m d) k0 k1 k2 hc hok.m0 hok.m1 hok.m2 hok.z1 hok.z2).2
  obtain ⟨l0, l1, l2, l3', l4, l5⟩ := Ct (k := cU m d) hok.m0 hok.m1 hok.m2
  have hyl := rq hok.yr
  have hx := hok.x16
  have hq := hok.q17
  have hdg := hok.dg17
  unfold dk
  rw [kX (n + 300)]
  simp only [ob]
  rw [hpl, yM (n + 300) g l dg x q (by omega) (by omega) (by omega)]
  unfold o6
  generalize gC g l dg (x : Int) (q : Int) = Y at hyl ⊢
  generalize hpA : plA (cU m d) k0 k1 k2 = PA at *
  generalize hpB : plB (cU m d) k0 k1 k2 = PB at *
  obtain ⟨A0, A1, A2⟩ := PA
  obtain ⟨B0, B1, B2⟩ := PB
  simp only at l0 l1 l2 l3' l4 l5
  have hmt : ∀ z : Nat, (mt z).length ≤ 1 := fun z => by
    unfold mt
    split
    · simp
    · split
      · simp
      · split <;> simp
  have hA0 := hmt A0
  have hA1 := hmt A1
  have hA2 := hmt A2
  have hB0 := hmt B0
  have hB1 := hmt B1
  have hB2 := hmt B2
  have hml : m.length ≤ 2 := by
    rcases hok.mon with h | h
    · rw [h]; simp
    · omega
  have hdl : d.length ≤ 2 := by
    rcases hok.day with h | h
    · rw [h]; simp
    · omega
  have i0 : ∀ a b c : Nat, (l3 (a, b, c))[0]? = some (a : Int) := fun _ _ _ => rfl
  have i1 : ∀ a b c : Nat, (l3 (a, b, c))[1]? = some (b : Int) := fun _ _ _ => rfl
  have i2 : ∀ a b c : Nat, (l3 (a, b, c))[2]? = some (c : Int) := fun _ _ _ => rfl
  have cc : ∀ a b : List UInt8, a.length + b.length ≤ 1000000 → cat a b = some (a ++ b) := fun a b h => eB h
  simp only [ob, i0, i1, i2, (r6 (n + 300) A0 l0).2, (r6 (n + 300) A1 l1).2, (r6 (n + 300) A2 l2).2, (r6 (n + 300) B0 l3').2, (r6 (n + 300) B1 l4).2, (r6 (n + 300) B2 l5).2]
  rw [cc (mt A0) Y (by omega)]
  simp only [ob]
  rw [cc _ (mt B0) (by simp only [List.length_append]; omega)]
  simp only [ob]
  have k1' : decide (((cU m d : Nat) : Int) > 1) = decide (1 < cU m d) := by rw [decide_eq_decide]; omega
  have k2' : decide (((cU m d : Nat) : Int) > 2) = decide (2 < cU m d) := by rw [decide_eq_decide]; omega
  rw [k1', k2']
  by_cases hm0 : m = []
  · have hd0 : d = [] := hok.day.resolve_right (fun z => z.1 hm0)
    subst hm0 hd0
    rw [C8]
    simp [ec]
  · by_cases hd0 : d = []
    · subst hd0
      rw [Ap hm0, if_neg hm0]
      simp only [show decide (1 < 2) = true from rfl, show decide (2 < 2) = false from rfl, cond_true, cond_false]
      rw [cc [45] (mt A1) (by simp; omega)]
      simp only [ob]
      rw [cc _ m (by simp only [List.length_append, List.length_cons, List.length_nil]; omega)]
      simp only [ob]
      rw [cc _ (mt B1) (by simp only [List.length_append, List.length_cons, List.length_nil]; omega)]
      simp only [ob]
      rw [cc _ _ (by simp only [List.length_append, List.length_cons, List.length_nil]; omega)]
      simp [ec]
    · rw [Au hm0 hd0, if_neg hm0, if_neg hd0]
      simp only [show decide (1 < 3) = true from rfl, show decide (2 < 3) = true from rfl, cond_true, cond_false]
      rw [cc [45] (mt A1) (by simp; omega)]
      simp only [ob]
      rw [cc _ m (by simp only [List.length_append, List.length_cons, List.length_nil]; omega)]
      simp only [ob]
      rw [cc _ (mt B1) (by simp only [List.length_append, List.length_cons, List.length_nil]; omega)]
      simp only [ob]
      rw [cc _ _ (by simp only [List.length_append, List.length_cons, List.length_nil]; omega)]
      simp only [ob]
      rw [cc [45] (mt A2) (by simp; omega)]
      simp only [ob]
      rw [cc _ d (by simp only [List.length_append, List.length_cons, List.length_nil]; omega)]
      simp only [ob]
      rw [cc _ (mt B2) (by simp only [List.length_append, List.length_cons, List.length_nil]; omega)]
      simp only [ob]
      rw [cc _ _ (by simp only [List.length_append, List.length_cons, List.length_nil]; omega)]
      simp [ec]
def Eq (m : List UInt8) : Nat := if m = [48, 50] then 28 else if m = [48, 52] ∨ m = [48, 54] ∨ m = [48, 57] ∨ m = [49, 49] ∨ m = [88, 57] then 30 else 31
def dayT (j : Nat) (m : List UInt8) : List UInt8 := if j = 0 then [] else if j ≤ 31 then two (min j (Eq m)) else if m = [48, 50] ∧ j = 35 then [50, 88] else ([[48, 88], [49, 88], [50, 88], [51, 88], [88, 48], [88, 49], [88, 88], [88, 56]] : List (List UInt8)).getD (j - 32) []
theorem r40 {p : Nat → Bool} (h : (List.range 40).all p = true) {a : Nat} (ha : a < 40) : p a = true := (List.all_eq_true.1 h) a (List.mem_range.2 ha)
def minL (mo : Nat) : Nat := if mo = 2 then 28 else if mo = 4 ∨ mo = 6 ∨ mo = 9 ∨ mo = 11 then 30 else 31
def fitD (mo d : List UInt8) : Bool := (List.range' 1 12).any fun i => agr mo i && (List.range' 1 (minL i)).any (agr d)
theorem Bc : ((((List.range 12).map fun i => two (i + 1)) ++ [[48, 88], [49, 88], [88, 50], [88, 88], [88, 48], [88, 57]]).all fun mo => (List.range 40).all fun j => (dayT j mo == []) || fitD mo (dayT j mo)) = true := by decide +kernel
theorem DJ {j : Nat} (h : j < 40) {mo : List UInt8} (hm : mo ∈ ((List.range 12).map fun i => two (i + 1)) ++ [[48, 88], [49, 88], [88, 50], [88, 88], [88, 48], [88, 57]]) : dayT j mo = [] ∨ fitD mo (dayT j mo) = true := by
  have := r40 ((List.all_eq_true.1 Bc) mo hm) h
  simp only [Bool.or_eq_true, beq_iff_eq] at this
  exact this
theorem BV (n : Nat) (g l : Bool) (dg : List UInt8) (x q : Int) (m d : List UInt8) (k0 k1 k2 : Int) (hm : m.length ≤ 18) : aT n g l dg x q m d k0 k1 k2 = some (if d = [] then (if 0 < sea m then 0 else if m = [] then 1 else 2) else 3) := by
  unfold aT
  rw [lX n g l dg x q m d k0 k1 k2 hm]
  by_cases hd : d = []
  · rw [if_pos hd, hd]
    show cond (decide (0 < sea m)) _ _ = _
    rw [aN]
    by_cases hs : 0 < sea m
    · rw [if_pos hs, if_pos hs]
    · rw [if_neg hs, if_neg hs]
      by_cases hm : m = []
      · rw [if_pos hm, hm]; rfl
      · rw [if_neg hm, beq_eq_false_iff_ne.2 hm]; rfl
  · rw [if_neg hd, beq_eq_false_iff_ne.2 hd]; rfl
theorem zh (n : Nat) (g l : Bool) (dg : List UInt8) (x q : Int) (m d : List UInt8) (k0 k1 k2 : Int) (hm : m.length ≤ 18) (hd : dg.length ≤ 100) (h0 : 0 ≤ k0) (h1 : 0 ≤ k1) (h2 : 0 ≤ k2) :
    cW (n + 300) g l dg x q m d k0 k1 k2 = some (if chkD g l dg x q m d k0 k1 k2 = 0 then (o6 g l dg x q m d k0.toNat k1.toNat k2.toNat, 0) else ([], chkD g l dg x q m d k0 k1 k2)) := by
  by_cases hc : chkD g l dg x q m d k0 k1 k2 = 0
  · obtain ⟨x', q', a, b, c, e1, e2, e3, e4, e5, hok⟩ := xw h0 h1 h2 hc
    subst e1 e2 e3 e4 e5
    exact Bf n g l dg x' q' m d a b c hm hd
  · rw [if_neg hc]
    unfold cW
    rw [qM (n + 300) (by omega) g l dg _ _ m d _ _ _ hm hd h0 h1 h2]
    show cond (chkD g l dg x q m d k0 k1 k2 != 0) _ _ = _
    rw [nd, if_neg hc]
theorem xT (n : Nat) {g l : Bool} {dg : List UInt8} {x q : Int} {m d : List UInt8} {k0 k1 k2 : Int} (h0 : 0 ≤ k0) (h1 : 0 ≤ k1) (h2 : 0 ≤ k2) (hc : chkD g l dg x q m d k0 k1 k2 = 0) :
    dk (n + 300) g l dg x q m d k0 k1 k2 = some (o6 g l dg x q m d k0.toNat k1.toNat k2.toNat) := by
  obtain ⟨x', q', a, b, c, e1, e2, e3, e4, e5, hok⟩ := xw h0 h1 h2 hc
  subst e1 e2 e3 e4 e5
  exact vg n hok
theorem nz (a b : List UInt8) : hasX (a ++ b) = (hasX a || hasX b) := by unfold hasX; rw [List.any_append]
theorem yn (n : Nat) (g l : Bool) (dg : List UInt8) (x q : Int) (m d : List UInt8) (k0 k1 k2 : Int) (hm : m.length ≤ 1000) (hd : dg.length ≤ 1000) (h : d.length ≤ 1000) :
    eN n g l dg x q m d k0 k1 k2 = some (hasX dg || (hasX m || hasX d)) := by
  unfold eN
  rw [eB (by omega)]
  simp only [ob]
  rw [eB (by simp only [List.length_append]; omega)]
  simp only [ob]
  rw [sK, nz, nz, Bool.or_assoc]
def qU (d : List UInt8) (k q : Nat) : Nat × Nat := if 0 < q then (val d k / 10 ^ (d.length + k - q) * 10 ^ (d.length + k - q), min (val d k / 10 ^ (d.length + k - q) * 10 ^ (d.length + k - q) + 10 ^ (d.length + k - q) - 1) E16) else (val d k, val d k)
def sgn (g : Bool) (p : Nat × Nat) : Int × Int := if g then (-(p.2 : Int), -(p.1 : Int)) else ((p.1 : Int), (p.2 : Int))
theorem ri (n : Nat) (g l : Bool) (d : List UInt8) (k q : Nat) (hn : 200 < n) (hd : d.length ≤ 100) (hN : Num d k q) :
    aj n g l d (k : Int) (q : Int) = some (sgn g (qU d k q)) := by
  have hw := hN.wide
  have hs := hN.small
  have hq := hN.sig
  unfold aj
  rw [jd n g l d k q (by omega) (by omega), tL hN.dig, ek n d k hN.dig hd (by omega) (by omega), if_pos hs]
  have hv : dval 0 d * 10 ^ k = val d k := rfl
  rw [hv] at hs ⊢
  unfold E16 at hs
  have z01 : ((if false = true then (1 : Int) else 0) == 1) = false := rfl
  simp only [ob, z01, cond_false]
  by_cases h0 : 0 < q
  · have e0 : decide ((q : Int) > 0) = true := decide_eq_true (by omega)
    have w0 : IntKind.wrap .i64 (IntKind.wrap .i64 (((d.length : Nat) : Int) + (k : Int)) - (q : Int)) = ((d.length + k - q : Nat) : Int) := by
      rw [wrap_i64 (((d.length : Nat) : Int) + (k : Int)) (by omega) (by omega), wrap_i64 _ (by omega) (by omega)]
      omega
    have hu2 : 10 ^ (d.length + k - q) ≤ 10 ^ 16 := Nat.pow_le_pow_right (by decide) (by omega)
    have h16 : (10 : Nat) ^ 16 = 10000000000000000 := by decide
    have one : dval 0 [49] = 1 := by decide
    have hone : dval 0 [49] * 10 ^ (d.length + k - q) ≤ E16 := by rw [one]; unfold E16; omega
    rw [e0, w0, ek n [49] (d.length + k - q) (by decide) (by decide) (by omega) (by simp; omega), if_pos hone, one, Nat.one_mul]
    simp only [cond_true]
    have hu : 1 ≤ 10 ^ (d.length + k - q) := Nat.one_le_pow _ _ (by decide)
    unfold sgn qU
    rw [if_pos h0]
    clear hone
    generalize 10 ^ (d.length + k - q) = u at *
    generalize val d k = v at *
    have d2 : (((u : Nat) : Int) == 0) = false := beq_eq_false_iff_ne.2 (by omega)
    have hdiv : Int.tdiv ((v : Nat) : Int) ((u : Nat) : Int) = ((v / u : Nat) : Int) := rfl
    have hle : v / u * u ≤ v := Nat.div_mul_le_self v u
    have hle2 : v / u ≤ v := Nat.div_le_self v u
    have w1 : IntKind.wrap .i64 ((v / u : Nat) : Int) = ((v / u : Nat) : Int) := by
      generalize v / u = t at *
      exact wrap_i64 _ (by omega) (by omega)
    have w2 : IntKind.wrap .i64 (((v / u : Nat) : Int) * ((u : Nat) : Int)) = ((v / u * u : Nat) : Int) := by
      rw [← Int.natCast_mul]; exact wrap_i64 _ (by omega) (by omega)
    rw [d2, cond_false, hdiv, w1, w2]
    generalize v / u * u = lo at *
    have w3 : IntKind.wrap .i64 (IntKind.wrap .i64 (((lo : Nat) : Int) + ((u : Nat) : Int)) - 1) = ((lo + u - 1 : Nat) : Int) := by
      rw [wrap_i64 (((lo : Nat) : Int) + ((u : Nat) : Int)) (by omega) (by omega), wrap_i64 _ (by omega) (by omega)]
      omega
    rw [w3]
    have hmin : (cond (decide ((10000000000000000 : Int) < ((lo + u - 1 : Nat) : Int))) (10000000000000000 : Int) ((lo + u - 1 : Nat) : Int)) = ((min (lo + u - 1) E16 : Nat) : Int) := by
      unfold E16
      by_cases hm : (10000000000000000 : Int) < ((lo + u - 1 : Nat) : Int)
      · rw [decide_eq_true hm, cond_true]; omega
      · rw [decide_eq_false hm, cond_false]; omega
    rw [hmin]
    have hmE : min (lo + u - 1) E16 ≤ 10000000000000000 := Nat.min_le_right _ _
    generalize min (lo + u - 1) E16 = hi at *
    cases g with
    | true =>
      simp only [cond_true, if_true]
      rw [wrap_i64 _ (by omega) (by omega), wrap_i64 _ (by omega) (by omega), Int.zero_sub, Int.zero_sub]
    | false => simp
  · have e0 : decide ((q : Int) > 0) = false := decide_eq_false (by omega)
    rw [e0, cond_false]
    unfold sgn qU
    rw [if_neg h0]
    cases g with
    | true =>
      simp only [cond_true, if_true]
      rw [wrap_i64 _ (by omega) (by omega), Int.zero_sub]
    | false => simp
def bV (z : UInt8) (d : List UInt8) : List UInt8 := d.map fun c => if c = 88 then z else c
theorem dW (z : UInt8) (d : List UInt8) : (bV z d).length = d.length := by simp [bV]
theorem kg {z : UInt8} (hz : bq z = true) {d : List UInt8} (h : ∀ c ∈ d, bq c = true ∨ c = 88) : ∀ c ∈ bV z d, bq c = true := by
  intro c hc
  obtain ⟨b, hb, rfl⟩ := List.mem_map.1 hc
  by_cases hx : b = 88
  · rw [if_pos hx]; exact hz
  · rw [if_neg hx]
    exact (h b hb).resolve_right hx
theorem n6 {z : UInt8} {d : List UInt8} {i : Nat} {c : UInt8} (h : d[i]? = some c) : (bV z d)[i]? = some (if c = 88 then z else c) := by
  simp [bV, h]
def md (d : List UInt8) : Nat := 10 ^ (d.reverse.takeWhile (fun c => c != 88)).length
def fk (g : Bool) (d : List UInt8) : Nat × Nat := (if g = true ∧ dval 0 (bV 48 d) = 0 then md d else dval 0 (bV 48 d), dval 0 (bV 57 d))
theorem A8 (m : Nat) : aj (m + 300) true false [48, 48, 48, 88] 0 0 = some (sgn true (fk true [48, 48, 48, 88])) := by kernel_rfl
theorem A6 (m : Nat) : aj (m + 300) true false [48, 48, 88, 48] 0 0 = some (sgn true (fk true [48, 48, 88, 48])) := by kernel_rfl
theorem Bu (m : Nat) : aj (m + 300) true false [48, 48, 88, 88] 0 0 = some (sgn true (fk true [48, 48, 88, 88])) := by kernel_rfl
theorem Bp (m : Nat) : aj (m + 300) true false [48, 88, 48, 48] 0 0 = some (sgn true (fk true [48, 88, 48, 48])) := by kernel_rfl
theorem Bw (m : Nat) : aj (m + 300) true false [48, 88, 48, 88] 0 0 = some (sgn true (fk true [48, 88, 48, 88])) := by kernel_rfl
theorem Bd (m : Nat) : aj (m + 300) true false [48, 88, 88, 48] 0 0 = some (sgn true (fk true [48, 88, 88, 48])) := by kernel_rfl
theorem Bo (m : Nat) : aj (m + 300) true false [48, 88, 88, 88] 0 0 = some (sgn true (fk true [48, 88, 88, 88])) := by kernel_rfl
theorem BB (m : Nat) : aj (m + 300) true false [88, 48, 48, 48] 0 0 = some (sgn true (fk true [88, 48, 48, 48])) := by kernel_rfl
theorem BF (m : Nat) : aj (m + 300) true false [88, 48, 48, 88] 0 0 = some (sgn true (fk true [88, 48, 48, 88])) := by kernel_rfl
theorem AS (m : Nat) : aj (m + 300) true false [88, 48, 88, 48] 0 0 = some (sgn true (fk true [88, 48, 88, 48])) := by kernel_rfl
theorem za (m : Nat) : aj (m + 300) true false [88, 48, 88, 88] 0 0 = some (sgn true (fk true [88, 48, 88, 88])) := by kernel_rfl
theorem Ad (m : Nat) : aj (m + 300) true false [88, 88, 48, 48] 0 0 = some (sgn true (fk true [88, 88, 48, 48])) := by kernel_rfl
theorem zB (m : Nat) : aj (m + 300) true false [88, 88, 48, 88] 0 0 = some (sgn true (fk true [88, 88, 48, 88])) := by kernel_rfl
theorem Ai (m : Nat) : aj (m + 300) true false [88, 88, 88, 48] 0 0 = some (sgn true (fk true [88, 88, 88, 48])) := by kernel_rfl
theorem zi (m : Nat) : aj (m + 300) true false [88, 88, 88, 88] 0 0 = some (sgn true (fk true [88, 88, 88, 88])) := by kernel_rfl
theorem ru {d : List UInt8} (hl : d.length = 4) (h : ∀ c ∈ d, bq c = true ∨ c = 88) (hz : dval 0 (bV 48 d) = 0) : ∀ c ∈ d, c = 48 ∨ c = 88 := by
  match d, hl with
  | [a, b, c, e], _ =>
    have hd := kg (z := 48) (by decide) h
    have h2 : dval 0 (bV 48 [a, b, c, e]) = ((((0 * 10 + ((if a = 88 then (48 : UInt8) else a).toNat - 48)) * 10 + ((if b = 88 then (48 : UInt8) else b).toNat - 48)) * 10 + ((if c = 88 then (48 : UInt8) else c).toNat - 48)) * 10 + ((if e = 88 then (48 : UInt8) else e).toNat - 48)) := by
      simp only [bV, List.map_cons, List.map_nil, jg, ju, m5]
    rw [h2] at hz
    have key : ∀ x : UInt8, bq (if x = 88 then (48 : UInt8) else x) = true → (if x = 88 then (48 : UInt8) else x).toNat - 48 = 0 → x = 48 ∨ x = 88 := by
      intro x hx h0
      by_cases hx8 : x = 88
      · exact .inr hx8
      · rw [if_neg hx8] at hx h0
        have := (cN x).1 hx
        exact .inl (UInt8.toNat_inj.1 (by show x.toNat = 48; omega))
    simp only [bV, List.map_cons, List.map_nil, List.mem_cons, List.not_mem_nil, or_false, forall_eq_or_imp, forall_eq] at hd ⊢
    exact ⟨key a hd.1 (by omega), key b hd.2.1 (by omega), key c hd.2.2.1 (by omega), key e hd.2.2.2 (by omega)⟩
theorem py {d : List UInt8} (hl : d.length = 4) (h : ∀ c ∈ d, c = 48 ∨ c = 88) (hX : hasX d = true) (P : List UInt8 → Prop) (h0 : P [48, 48, 48, 88]) (h1 : P [48, 48, 88, 48]) (h2 : P [48, 48, 88, 88]) (h3 : P [48, 88, 48, 48]) (h4 : P [48, 88, 48, 88]) (h5 : P [48, 88, 88, 48]) (h6 : P [48, 88, 88, 88]) (h7 : P [88, 48, 48, 48]) (h8 : P [88, 48, 48, 88]) (h9 : P [88, 48, 88, 48]) (h10 : P [88, 48, 88, 88]) (h11 : P [88, 88, 48, 48]) (h12 : P [88, 88, 48, 88]) (h13 : P [88, 88, 88, 48]) (h14 : P [88, 88, 88, 88]) : P d := by
  match d, hl with
  | [a, b, c, e], _ =>
    simp only [List.mem_cons, List.not_mem_nil, or_false, forall_eq_or_imp, forall_eq] at h
    obtain ⟨ha, hb, hc, he⟩ := h
    rcases ha with rfl | rfl <;> rcases hb with rfl | rfl <;> rcases hc with rfl | rfl <;> rcases he with rfl | rfl
    · exact absurd hX (by decide)
    · exact h0
    · exact h1
    · exact h2
    · exact h3
    · exact h4
    · exact h5
    · exact h6
    · exact h7
    · exact h8
    · exact h9
    · exact h10
    · exact h11
    · exact h12
    · exact h13
    · exact h14
theorem to (n : Nat) (g l : Bool) (d : List UInt8) (x s : Int) (hl : d.length = 4) (hn : 4 < n) : ae (cM n) n ([], [], 0, g, l, d, x, s) = some (bV 48 d, bV 57 d, g, l, d, x, s) := by
  refine dH (step := cM n) (fun q => ∃ i : Nat, i ≤ 4 ∧ q = ((bV 48 d).take i, (bV 57 d).take i, (i : Int), g, l, d, x, s)) (fun q => 4 - q.2.2.1.toNat) (fun _ => (bV 48 d, bV 57 d, g, l, d, x, s)) ?_ n _ ⟨0, by omega, by simp⟩ (by simp; omega)
  rintro q ⟨i, hi, rfl⟩
  rcases Nat.lt_or_ge i 4 with hlt | hge
  · obtain ⟨c, hc⟩ : ∃ c, d[i]? = some c := ⟨d[i], List.getElem?_eq_getElem (by omega)⟩
    have hf1 := BZ (n6 (z := 48) hc)
    have hf2 := BZ (n6 (z := 57) hc)
    have d1 : decide ((i : Int) < 4) = true := decide_eq_true (by omega)
    have w1 : IntKind.wrap .i64 ((i : Int) + 1) = ((i + 1 : Nat) : Int) := by rw [wrap_i64 _ (by omega) (by omega)]; omega
    refine .inl ⟨((bV 48 d).take (i + 1), (bV 57 d).take (i + 1), ((i + 1 : Nat) : Int), g, l, d, x, s), ?_, ⟨i + 1, by omega, rfl⟩, by simp only [Int.toNat_natCast]; omega, rfl⟩
    simp only [cM, d1, cond_true, w1, ii (show i + 1 ≤ d.length by omega), ii (show i ≤ i + 1 by omega), ob, cut1 hc]
    have ht : ∀ z : UInt8, ((bV z d).take i).length ≤ 4 := fun z => by rw [List.length_take]; omega
    rw [hf1, hf2]
    by_cases hx : c = 88
    · have e : (([c] : List UInt8) == [88]) = true := by rw [hx]; rfl
      rw [e, cond_true, if_pos hx, if_pos hx, eB (by have := ht 48; simp; omega), eB (by have := ht 57; simp; omega)]
    · have e : (([c] : List UInt8) == [88]) = false := by
        rw [beq_eq_false_iff_ne]; intro e; exact hx (by simpa using e)
      rw [e, cond_false, if_neg hx, if_neg hx, eB (by have := ht 48; simp; omega), eB (by have := ht 57; simp; omega)]
  · have : i = 4 := by omega
    subst this
    refine .inr ?_
    rw [List.take_of_length_le (by rw [dW]; omega), List.take_of_length_le (by rw [dW]; omega)]
    rfl
theorem vB {d : List UInt8} (h : d = [48, 48, 48, 48]) : dval 0 d = 0 := by rw [h]; decide
theorem qL (m : Nat) (g : Bool) (d : List UInt8) (h : okY g false d 0 0) (hX : hasX d = true) : aj (m + 300) g false d 0 0 = some (sgn g (fk g d)) := by
  obtain ⟨_, _, _, hl, hd⟩ := jV h hX
  by_cases hz : g = true ∧ dval 0 (bV 48 d) = 0
  · obtain ⟨rfl, hz⟩ := hz
    exact py hl (ru hl hd hz) hX (fun d => aj (m + 300) true false d 0 0 = some (sgn true (fk true d))) (A8 m) (A6 m) (Bu m) (Bp m) (Bw m) (Bd m) (Bo m) (BB m) (BF m) (AS m) (za m) (Ad m) (zB m) (Ai m) (zi m)
  · have hs : fk g d = (dval 0 (bV 48 d), dval 0 (bV 57 d)) := by unfold fk; rw [if_neg hz]
    have d48 := kg (z := 48) (by decide) hd
    have d57 := kg (z := 57) (by decide) hd
    have h1 := mM (bV 48 d) 0 0 d48 (by simp)
    have h2 := mM (bV 57 d) 0 0 d57 (by simp)
    rw [dW, hl] at h1 h2
    have h4 : (10 : Nat) ^ (4 + 0) = 10000 := by decide
    have m1 : aa (m + 300) (bV 48 d) 0 = some (((dval 0 (bV 48 d) : Nat) : Int), 1) := by
      have := ek (m + 300) (bV 48 d) 0 d48 (by rw [dW]; omega) (by omega) (by rw [dW]; omega)
      rw [if_pos (by unfold E16; simp only [Nat.pow_zero, Nat.mul_one]; omega)] at this
      simpa using this
    have m2 : aa (m + 300) (bV 57 d) 0 = some (((dval 0 (bV 57 d) : Nat) : Int), 1) := by
      have := ek (m + 300) (bV 57 d) 0 d57 (by rw [dW]; omega) (by omega) (by rw [dW]; omega)
      rw [if_pos (by unfold E16; simp only [Nat.pow_zero, Nat.mul_one]; omega)] at this
      simpa using this
    have z11 : ((if true = true then (1 : Int) else 0) == 1) = true := rfl
    have z0 : decide ((0 : Int) > 0) = false := rfl
    unfold aj
    rw [jd _ g false d 0 0 (by omega) (by omega), hX, to _ g false d 0 0 hl (by omega), hs]
    simp only [ob, if_true, BEq.rfl, cond_true]
    cases g with
    | true =>
      have e : (bV 48 d == ([48, 48, 48, 48] : List UInt8)) = false := by
        rw [beq_eq_false_iff_ne]
        intro e
        exact hz ⟨rfl, vB e⟩
      simp only [cond_true, e, cond_false, m1, m2, z0, sgn, if_true]
      generalize dval 0 (bV 48 d) = a at *
      generalize dval 0 (bV 57 d) = b at *
      rw [wrap_i64 _ (by omega) (by omega), wrap_i64 _ (by omega) (by omega), Int.zero_sub, Int.zero_sub]
    | false => simp only [cond_false, m1, m2, z0, sgn, Bool.false_eq_true, if_false]
def jz (g : Bool) (d : List UInt8) (x s : Int) : Nat × Nat := if hasX d then fk g d else qU d x.toNat s.toNat
theorem zM (m : Nat) (g l : Bool) (d : List UInt8) (x s : Int) (hd : d.length ≤ 100) (h : okY g l d x s) : aj (m + 300) g l d x s = some (sgn g (jz g d x s)) := by
  unfold jz
  cases hX : hasX d with
  | true =>
    obtain ⟨rfl, rfl, rfl, hl, hdd⟩ := jV h hX
    exact qL m g d h hX
  | false =>
    obtain ⟨k, q, rfl, rfl, hN⟩ := lR h hX
    exact ri _ g l d k q (by omega) hd hN
theorem Bt {d : List UInt8} {k q : Nat} (h : Num d k q) : (qU d k q).1 ≤ val d k ∧ val d k ≤ (qU d k q).2 ∧ (qU d k q).2 ≤ E16 := by
  have hs := h.small
  have hv : dval 0 d * 10 ^ k = val d k := rfl
  rw [hv] at hs
  unfold qU
  split
  · have hu : 1 ≤ 10 ^ (d.length + k - q) := Nat.one_le_pow _ _ (by decide)
    generalize 10 ^ (d.length + k - q) = u at hu ⊢
    generalize val d k = v at hs ⊢
    have h1 := Nat.div_mul_le_self v u
    have h2 : v < v / u * u + u := by
      have h := Nat.div_add_mod v u
      have := Nat.mod_lt v hu
      rw [Nat.mul_comm] at h
      omega
    refine ⟨h1, ?_, Nat.min_le_right _ _⟩
    rw [Nat.le_min]
    omega
  · exact ⟨Nat.le_refl _, Nat.le_refl _, hs⟩
def mtk (d : List UInt8) : Nat → Nat → Bool
  | 0, _ => true
  | k + 1, w => (decide (d.getD k 0 = 88) || decide ((d.getD k 0).toNat = 48 + w % 10)) && mtk d k (w / 10)
theorem qu (d : List UInt8) (k w : Nat) : mtk d (k + 1) w = ((decide (d.getD k 0 = 88) || decide ((d.getD k 0).toNat = 48 + w % 10)) && mtk d k (w / 10)) := rfl
theorem pZ {d : List UInt8} {k : Nat} {c : UInt8} (h : d[k]? = some c) : d.getD k 0 = c := by
  rw [List.getD_eq_getElem?_getD, h]; rfl
theorem wY (n : Nat) (g l : Bool) (d : List UInt8) (x s : Int) (hl : d.length = 4) : ∀ (k w : Nat), k ≤ 4 → w < 100000000000000000 → ∀ q, k < q →
    ae (aH n) q ((w : Int), (k : Int) - 1, g, l, d, x, s) = some (if mtk d k w = true then .inr ((w / 10 ^ k : Nat) : Int) else .inl 0)
  | 0, w, hk, hw, q, hq => by
    obtain ⟨q, rfl⟩ : ∃ p, q = p + 1 := ⟨q - 1, by omega⟩
    have d1 : decide (((0 : Nat) : Int) - 1 ≥ 0) = false := rfl
    have hm0 : mtk d 0 w = true := rfl
    simp only [ae, aH, d1, cond_false]
    rw [if_pos hm0]
    simp
  | k + 1, w, hk, hw, q, hq => by
    obtain ⟨q, rfl⟩ : ∃ p, q = p + 1 := ⟨q - 1, by omega⟩
    have ih := wY n g l d x s hl k (w / 10) (by omega) (by omega) q (by omega)
    obtain ⟨c, hc⟩ : ∃ c, d[k]? = some c := ⟨d[k], List.getElem?_eq_getElem (by omega)⟩
    have e0 : ((k + 1 : Nat) : Int) - 1 = (k : Int) := by omega
    have d1 : decide ((k : Int) ≥ 0) = true := decide_eq_true (by omega)
    have em : Int.tmod (w : Int) 10 = ((w % 10 : Nat) : Int) := rfl
    have eq' : Int.tdiv (w : Int) 10 = ((w / 10 : Nat) : Int) := rfl
    have w1 : IntKind.wrap .i64 (48 + ((w % 10 : Nat) : Int)) = ((48 + w % 10 : Nat) : Int) := by rw [wrap_i64 _ (by omega) (by omega)]; omega
    have w2 : IntKind.wrap .u8 ((48 + w % 10 : Nat) : Int) = ((48 + w % 10 : Nat) : Int) := fY _ (by omega) (by omega)
    have w3 : IntKind.wrap .i64 ((w / 10 : Nat) : Int) = ((w / 10 : Nat) : Int) := wrap_i64 _ (by omega) (by omega)
    have w4 : IntKind.wrap .i64 ((k : Int) - 1) = (k : Int) - 1 := wrap_i64 _ (by omega) (by omega)
    have hdiv : w / 10 ^ (k + 1) = w / 10 / 10 ^ k := by rw [Nat.pow_succ, Nat.mul_comm, Nat.div_div_eq_div_mul]
    rw [qu, pZ hc, hdiv, e0]
    simp only [ae, aH, d1, cond_true, gT hc, ob, em, eq', w1, w2, w3, w4]
    by_cases hx : c = 88
    · have e1 : (((c.toNat : Nat) : Int) != 88) = false := by rw [hx]; rfl
      rw [e1, decide_eq_true hx]
      simp only [cond_false, Bool.true_or, Bool.true_and]
      exact ih
    · have e1 : (((c.toNat : Nat) : Int) != 88) = true := by
        simp only [bne, Bool.not_eq_true', beq_eq_false_iff_ne]
        intro e
        exact hx (UInt8.toNat_inj.1 (by show c.toNat = 88; omega))
      rw [e1, decide_eq_false hx]
      simp only [cond_true, Bool.false_or]
      by_cases hm : c.toNat = 48 + w % 10
      · have e2 : (((c.toNat : Nat) : Int) != ((48 + w % 10 : Nat) : Int)) = false := by rw [hm]; simp
        rw [e2, decide_eq_true hm]
        simp only [cond_false, Bool.true_and]
        exact ih
      · have e2 : (((c.toNat : Nat) : Int) != ((48 + w % 10 : Nat) : Int)) = true := by
          simp only [bne, Bool.not_eq_true', beq_eq_false_iff_ne]
          omega
        rw [e2, decide_eq_false hm]
        simp only [cond_true, Bool.false_and]
        rfl
def tq (d : List UInt8) (k q : Nat) : Nat := if 0 < q then 10 ^ (d.length + k - q) else 1
def memP (d : List UInt8) (x s : Int) (w : Nat) : Prop := if hasX d = true then mtk d 4 w = true ∧ w / 10 ^ 4 = 0 else val d x.toNat / tq d x.toNat s.toNat = w / tq d x.toNat s.toNat
instance (d : List UInt8) (x s : Int) (w : Nat) : Decidable (memP d x s w) := by unfold memP; infer_instance
def wOf (g : Bool) (v : Int) : Int := if g then -v else v
def inP (g : Bool) (d : List UInt8) (x s v : Int) : Prop := -10000000000000000 ≤ v ∧ v ≤ 10000000000000000 ∧ 0 ≤ wOf g v ∧ ¬ (hasX d = true ∧ g = true ∧ wOf g v = 0) ∧ memP d x s (wOf g v).toNat
instance (g : Bool) (d : List UInt8) (x s v : Int) : Decidable (inP g d x s v) := by unfold inP; infer_instance
noncomputable def inT (n : Nat) (a0 a1 : Bool) (a2 : List UInt8) (a3 a4 W : Int) : Option Int :=
  (ob (af n a0 a1 a2 a3 a4) fun r221 => (cond (r221 == 1) (ob (ae (aH n) n (W, 3, a0, a1, a2, a3, a4)) fun y222 => (Sum.casesOn (motive := fun _ => Option _) y222 (fun a223 => (some a223)) (fun b224 => (cond (decide (b224 > 0)) (some 0) (some 1))))) (ob (aa n a2 a3) fun r225 => (cond (decide (a4 > 0)) (ob (aa n [49] (IntKind.wrap .i64 ((IntKind.wrap .i64 (((List.length a2 : Nat) : Int) + a3)) - a4))) fun r226 => (cond (r226.1 == 0) none (cond (r226.1 == 0) none (cond ((IntKind.wrap .i64 (Int.tdiv r225.1 r226.1)) == (IntKind.wrap .i64 (Int.tdiv W r226.1))) (some 1) (some 0))))) (cond ((IntKind.wrap .i64 (Int.tdiv r225.1 1)) == (IntKind.wrap .i64 (Int.tdiv W 1))) (some 1) (some 0))))))
theorem xe (a b : Nat) : (((a : Nat) : Int) == ((b : Nat) : Int)) = decide (a = b) := by
  by_cases h : a = b
  · subst h; simp
  · rw [decide_eq_false h, beq_eq_false_iff_ne]; omega
theorem uU {d : List UInt8} {x s : Int} {w : Nat} (hX : hasX d = true) : memP d x s w ↔ mtk d 4 w = true ∧ w / 10 ^ 4 = 0 := by unfold memP; rw [if_pos hX]
theorem AA {d : List UInt8} {x s : Int} {w : Nat} (hX : hasX d = false) : memP d x s w ↔ val d x.toNat / tq d x.toNat s.toNat = w / tq d x.toNat s.toNat := by unfold memP; rw [if_neg (by rw [hX]; simp)]
theorem in_T (m : Nat) {g l : Bool} {d : List UInt8} {x s : Int} (hok : okY g l d x s) (w : Nat) (hw : w ≤ 10000000000000000) : inT (m + 300) g l d x s (w : Int) = some (if memP d x s w then 1 else 0) := by
  have hsm := gY hok
  have hM := jd (m + 300) g l d x s (by omega) (by omega)
  unfold inT
  cases hX : hasX d with
  | true =>
    obtain ⟨rfl, rfl, rfl, hl, _⟩ := jV hok hX
    have hlp := wY (m + 300) g false d 0 0 hl 4 w (by omega) (by omega) (m + 300) (by omega)
    have hlp' : ae (aH (m + 300)) (m + 300) ((w : Int), 3, g, false, d, 0, 0) = _ := hlp
    have z11 : ((1 : Int) == 1) = true := rfl
    have hMt : af (m + 300) g false d 0 0 = some 1 := by rw [hM, hX]; rfl
    rw [hMt]
    simp only [ob, z11, cond_true, hlp']
    by_cases h1 : mtk d 4 w = true
    · rw [if_pos h1]
      by_cases h2 : w / 10 ^ 4 = 0
      · have e : decide (((w / 10 ^ 4 : Nat) : Int) > 0) = false := decide_eq_false (by rw [h2]; decide)
        rw [if_pos ((uU hX).2 ⟨h1, h2⟩)]
        simp only [e, cond_false]
      · have e : decide (((w / 10 ^ 4 : Nat) : Int) > 0) = true := decide_eq_true (by
          generalize w / 10 ^ 4 = t at h2 ⊢
          omega)
        rw [if_neg (fun q => h2 ((uU hX).1 q).2)]
        simp only [e, cond_true]
    · rw [if_neg h1, if_neg (fun q => h1 ((uU hX).1 q).1)]
  | false =>
    obtain ⟨k, q, rfl, rfl, hN⟩ := lR hok hX
    have hw' := hN.wide
    have hs := hN.small
    have hq := hN.sig
    have hv : dval 0 d * 10 ^ k = val d k := rfl
    have hm := ek (m + 300) d k hN.dig (by omega) (by omega) (by omega)
    rw [if_pos hs, hv] at hm
    rw [hv] at hs
    unfold E16 at hs
    have z01 : ((0 : Int) == 1) = false := rfl
    have hMt : af (m + 300) g l d k q = some 0 := by rw [hM, hX]; rfl
    have hmp := AA (x := (k : Int)) (s := (q : Int)) (w := w) hX
    rw [Int.toNat_natCast, Int.toNat_natCast] at hmp
    unfold tq at hmp
    rw [hMt]
    simp only [ob, z01, cond_false, hm]
    by_cases h0 : 0 < q
    · have e0 : decide ((q : Int) > 0) = true := decide_eq_true (by omega)
      have w0 : IntKind.wrap .i64 (IntKind.wrap .i64 (((d.length : Nat) : Int) + (k : Int)) - (q : Int)) = ((d.length + k - q : Nat) : Int) := by
        rw [wrap_i64 (((d.length : Nat) : Int) + (k : Int)) (by omega) (by omega), wrap_i64 _ (by omega) (by omega)]
        omega
      have hu2 : 10 ^ (d.length + k - q) ≤ 10 ^ 16 := Nat.pow_le_pow_right (by decide) (by omega)
      have h16 : (10 : Nat) ^ 16 = 10000000000000000 := by decide
      have one : dval 0 [49] = 1 := by decide
      have hone : dval 0 [49] * 10 ^ (d.length + k - q) ≤ E16 := by rw [one]; unfold E16; omega
      have hm1 := ek (m + 300) [49] (d.length + k - q) (by decide) (by decide) (by omega) (by simp; omega)
      rw [if_pos hone, one, Nat.one_mul] at hm1
      have hu : 1 ≤ 10 ^ (d.length + k - q) := Nat.one_le_pow _ _ (by decide)
      rw [e0, w0, hm1]
      rw [if_pos h0] at hmp
      clear hone hm1
      generalize 10 ^ (d.length + k - q) = u at hu hu2 hmp ⊢
      generalize val d k = v at hs hmp ⊢
      have d2 : (((u : Nat) : Int) == 0) = false := beq_eq_false_iff_ne.2 (by omega)
      have hdiv : Int.tdiv ((v : Nat) : Int) ((u : Nat) : Int) = ((v / u : Nat) : Int) := rfl
      have hdiw : Int.tdiv ((w : Nat) : Int) ((u : Nat) : Int) = ((w / u : Nat) : Int) := rfl
      have l1 : v / u ≤ v := Nat.div_le_self v u
      have l2 : w / u ≤ w := Nat.div_le_self w u
      simp only [cond_true, d2, cond_false, hdiv, hdiw]
      generalize v / u = a at l1 hmp ⊢
      generalize w / u = b at l2 hmp ⊢
      rw [wrap_i64 _ (by omega) (by omega), wrap_i64 _ (by omega) (by omega), xe]
      by_cases hab : a = b
      · rw [decide_eq_true hab, if_pos (hmp.2 hab)]; rfl
      · rw [decide_eq_false hab, if_neg (fun q => hab (hmp.1 q))]; rfl
    · have e0 : decide ((q : Int) > 0) = false := decide_eq_false (by omega)
      have t1 : ∀ a : Nat, Int.tdiv ((a : Nat) : Int) 1 = ((a : Nat) : Int) := fun a => by
        have : Int.tdiv ((a : Nat) : Int) 1 = ((a / 1 : Nat) : Int) := rfl
        rw [this, Nat.div_one]
      rw [if_neg h0, Nat.div_one, Nat.div_one] at hmp
      rw [e0]
      simp only [cond_false, t1]
      rw [wrap_i64 _ (by omega) (by omega), wrap_i64 _ (by omega) (by omega), xe]
      by_cases hab : val d k = w
      · rw [decide_eq_true hab, if_pos (hmp.2 hab)]; rfl
      · rw [decide_eq_false hab, if_neg (fun q => hab (hmp.1 q))]; rfl
theorem C4 (m : Nat) {g l : Bool} {d : List UInt8} {x s : Int} (hok : okY g l d x s) (v : Int) : hO (m + 300) g l d x s v = some (if inP g d x s v then 1 else 0) := by
  have hsm := gY hok
  have hT := fun w hw => in_T m hok w hw
  have hM := jd (m + 300) g l d x s (by omega) (by omega)
  unfold inT at hT
  unfold hO
  by_cases h1 : v < -10000000000000000
  · rw [decide_eq_true h1, if_neg (fun q => by have := q.1; omega)]; rfl
  · rw [decide_eq_false h1, cond_false]
    by_cases h2 : v > 10000000000000000
    · rw [decide_eq_true h2, if_neg (fun q => by have := q.2.1; omega)]; rfl
    · rw [decide_eq_false h2, cond_false]
      cases g with
      | true =>
        have w0 : IntKind.wrap .i64 (0 - v) = -v := by rw [wrap_i64 _ (by omega) (by omega)]; omega
        simp only [cond_true, w0]
        by_cases h3 : -v < 0
        · rw [decide_eq_true h3, if_neg (fun q => by have := q.2.2.1; unfold wOf at this; simp only [if_true] at this; omega)]; rfl
        · rw [decide_eq_false h3, cond_false]
          obtain ⟨w, hw⟩ : ∃ w : Nat, -v = (w : Int) := ⟨(-v).toNat, by omega⟩
          have hT := hT w (by omega)
          have hwo : wOf true v = (w : Int) := by unfold wOf; simpa using hw
          have hin : ¬ (hasX d = true ∧ w = 0) → (inP true d x s v ↔ memP d x s w) := by
            intro hz
            unfold inP
            rw [hwo, Int.toNat_natCast]
            constructor
            · exact fun q => q.2.2.2.2
            · exact fun q => ⟨by omega, by omega, by omega, fun q => hz ⟨q.1, by omega⟩, q⟩
          rw [hw]
          cases hX : hasX d with
          | true =>
            have hMt : af (m + 300) true l d x s = some 1 := by rw [hM, hX]; rfl
            rw [hMt]
            have z11 : ((1 : Int) == 1) = true := rfl
            simp only [ob, z11, cond_true]
            by_cases hz : w = 0
            · have e : (((w : Nat) : Int) == 0) = true := beq_iff_eq.2 (by omega)
              rw [e, if_neg (fun q => q.2.2.2.1 ⟨hX, rfl, by rw [hwo]; omega⟩)]; rfl
            · have e : (((w : Nat) : Int) == 0) = false := beq_eq_false_iff_ne.2 (by omega)
              rw [hMt] at hT
              simp only [ob, z11, cond_true] at hT
              rw [e, cond_false, hT]
              have := hin (fun q => hz q.2)
              by_cases hp : memP d x s w
              · rw [if_pos hp, if_pos (this.2 hp)]
              · rw [if_neg hp, if_neg (fun q => hp (this.1 q))]
          | false =>
            have hMt : af (m + 300) true l d x s = some 0 := by rw [hM, hX]; rfl
            have z01 : ((0 : Int) == 1) = false := rfl
            rw [hMt] at hT ⊢
            simp only [ob, z01, cond_false] at hT ⊢
            rw [hT]
            have := hin (fun q => by rw [hX] at q; cases q.1)
            by_cases hp : memP d x s w
            · rw [if_pos hp, if_pos (this.2 hp)]
            · rw [if_neg hp, if_neg (fun q => hp (this.1 q))]
      | false =>
        simp only [cond_false]
        by_cases h3 : v < 0
        · rw [decide_eq_true h3, if_neg (fun q => by have := q.2.2.1; unfold wOf at this; simp only [Bool.false_eq_true, if_false] at this; omega)]; rfl
        · rw [decide_eq_false h3, cond_false]
          obtain ⟨w, rfl⟩ : ∃ w : Nat, v = (w : Int) := ⟨v.toNat, by omega⟩
          have hT := hT w (by omega)
          have hwo : wOf false (w : Int) = (w : Int) := rfl
          have hin : inP false d x s (w : Int) ↔ memP d x s w := by
            unfold inP
            rw [hwo, Int.toNat_natCast]
            constructor
            · exact fun q => q.2.2.2.2
            · exact fun q => ⟨by omega, by omega, by omega, fun q => (by cases q.2.1), q⟩
          cases hX : hasX d with
          | true =>
            have hMt : af (m + 300) false l d x s = some 1 := by rw [hM, hX]; rfl
            rw [hMt] at hT ⊢
            have z11 : ((1 : Int) == 1) = true := rfl
            simp only [ob, z11, cond_true] at hT ⊢
            rw [hT]
            by_cases hp : memP d x s w
            · rw [if_pos hp, if_pos (hin.2 hp)]
            · rw [if_neg hp, if_neg (fun q => hp (hin.1 q))]
          | false =>
            have hMt : af (m + 300) false l d x s = some 0 := by rw [hM, hX]; rfl
            rw [hMt] at hT ⊢
            have z01 : ((0 : Int) == 1) = false := rfl
            simp only [ob, z01, cond_false] at hT ⊢
            rw [hT]
            by_cases hp : memP d x s w
            · rw [if_pos hp, if_pos (hin.2 hp)]
            · rw [if_neg hp, if_neg (fun q => hp (hin.1 q))]
def loK (d : List UInt8) (k : Nat) : Nat := dval 0 ((bV 48 d).take k)
def hiK (d : List UInt8) (k : Nat) : Nat := dval 0 ((bV 57 d).take k)
theorem nT (z : UInt8) {d : List UInt8} {k : Nat} {c : UInt8} (h : d[k]? = some c) : dval 0 ((bV z d).take (k + 1)) = dval 0 ((bV z d).take k) * 10 + ((if c = 88 then z else c).toNat - 48) := by
  rw [BZ (n6 h), us]
theorem sq (d : List UInt8) (hl : d.length = 4) (hd : ∀ c ∈ d, bq c = true ∨ c = 88) : ∀ (k w : Nat), k ≤ 4 → w < 10 ^ k → mtk d k w = true → loK d k ≤ w ∧ w ≤ hiK d k
  | 0, w, hk, hw, hm => by
    simp at hw
    subst hw
    simp [loK, hiK, ju]
  | k + 1, w, hk, hw, hm => by
    obtain ⟨c, hc⟩ : ∃ c, d[k]? = some c := ⟨d[k], List.getElem?_eq_getElem (by omega)⟩
    rw [qu, pZ hc, Bool.and_eq_true, Bool.or_eq_true, decide_eq_true_eq, decide_eq_true_eq] at hm
    have hp : (10 : Nat) ^ (k + 1) = 10 ^ k * 10 := Nat.pow_succ 10 k
    have ih := sq d hl hd k (w / 10) (by omega) (by omega) hm.2
    have h1 := nT 48 hc
    have h2 := nT 57 hc
    unfold loK hiK at ih ⊢
    rw [h1, h2]
    by_cases hx : c = 88
    · rw [if_pos hx, if_pos hx]
      have e1 : (48 : UInt8).toNat - 48 = 0 := rfl
      have e2 : (57 : UInt8).toNat - 48 = 9 := rfl
      rw [e1, e2]
      omega
    · rw [if_neg hx, if_neg hx]
      have := hm.1.resolve_left hx
      omega
theorem pY (z : UInt8) (hz : bq z = true) (d : List UInt8) (hl : d.length = 4) (hd : ∀ c ∈ d, bq c = true ∨ c = 88) : ∀ k, k ≤ 4 → mtk d k (dval 0 ((bV z d).take k)) = true
  | 0, _ => rfl
  | k + 1, hk => by
    obtain ⟨c, hc⟩ : ∃ c, d[k]? = some c := ⟨d[k], List.getElem?_eq_getElem (by omega)⟩
    have ih := pY z hz d hl hd k (by omega)
    have hdg : bq (if c = 88 then z else c) = true := by
      by_cases hx : c = 88
      · rw [if_pos hx]; exact hz
      · rw [if_neg hx]; exact (hd c (List.mem_of_getElem? hc)).resolve_right hx
    have hr := (cN _).1 hdg
    rw [qu, pZ hc, nT z hc]
    generalize hb : (if c = 88 then z else c) = b at hr ⊢
    generalize dval 0 ((bV z d).take k) = a at ih ⊢
    have e1 : (a * 10 + (b.toNat - 48)) / 10 = a := by omega
    have e2 : (a * 10 + (b.toNat - 48)) % 10 = b.toNat - 48 := by omega
    rw [e1, e2, ih, Bool.and_true]
    by_cases hx : c = 88
    · rw [decide_eq_true hx]; rfl
    · rw [if_neg hx] at hb
      rw [hb, decide_eq_true (show b.toNat = 48 + (b.toNat - 48) by omega), Bool.or_true]
def qg : List (List UInt8) := [[48, 48, 48, 88], [48, 48, 88, 48], [48, 48, 88, 88], [48, 88, 48, 48], [48, 88, 48, 88], [48, 88, 88, 48], [48, 88, 88, 88], [88, 48, 48, 48], [88, 48, 48, 88], [88, 48, 88, 48], [88, 48, 88, 88], [88, 88, 48, 48], [88, 88, 48, 88], [88, 88, 88, 48], [88, 88, 88, 88]]
theorem Ek : qg.all (fun d => mtk d 4 (md d) && decide (1 ≤ md d) && decide (md d ≤ 1000) && (List.range 1000).all (fun w => decide (w = 0) || !mtk d 4 w || decide (md d ≤ w))) = true := by decide +kernel
theorem sF {d : List UInt8} (hd : d ∈ qg) : mtk d 4 (md d) = true ∧ 1 ≤ md d ∧ md d ≤ 1000 ∧ ∀ w, 1 ≤ w → mtk d 4 w = true → md d ≤ w := by
  have h := List.all_eq_true.1 Ek d hd
  simp only [Bool.and_eq_true, decide_eq_true_eq, List.all_eq_true, List.mem_range, Bool.or_eq_true, Bool.not_eq_true'] at h
  obtain ⟨⟨⟨h1, h2⟩, h3⟩, h4⟩ := h
  refine ⟨h1, h2, h3, fun w hw hm => ?_⟩
  rcases Nat.lt_or_ge w 1000 with hlt | hge
  · rcases h4 w hlt with (h | h) | h
    · omega
    · rw [hm] at h; cases h
    · exact h
  · omega
theorem rP {d : List UInt8} (hl : d.length = 4) (hd : ∀ c ∈ d, bq c = true ∨ c = 88) (hX : hasX d = true) (hz : dval 0 (bV 48 d) = 0) : d ∈ qg :=
  py hl (ru hl hd hz) hX (fun d => d ∈ qg) (by decide) (by decide) (by decide) (by decide) (by decide) (by decide) (by decide) (by decide) (by decide) (by decide) (by decide) (by decide) (by decide) (by decide) (by decide)
theorem BN {d : List UInt8} (hl : d.length = 4) : loK d 4 = dval 0 (bV 48 d) := by
  unfold loK; rw [List.take_of_length_le (by rw [dW]; omega)]
theorem BX {d : List UInt8} (hl : d.length = 4) : hiK d 4 = dval 0 (bV 57 d) := by
  unfold hiK; rw [List.take_of_length_le (by rw [dW]; omega)]
theorem zA {g : Bool} {d : List UInt8} (hl : d.length = 4) (hd : ∀ c ∈ d, bq c = true ∨ c = 88) (hX : hasX d = true) :
    (fk g d).1 < 10000 ∧ (fk g d).2 < 10000 ∧ mtk d 4 (fk g d).1 = true ∧ mtk d 4 (fk g d).2 = true ∧ 1 ≤ (fk g d).2 ∧ (g = true → 1 ≤ (fk g d).1) ∧ ∀ w, w < 10000 → mtk d 4 w = true → (g = true → 1 ≤ w) → (fk g d).1 ≤ w ∧ w ≤ (fk g d).2 := by
  have h4 : (10 : Nat) ^ 4 = 10000 := by decide
  have d48 := kg (z := 48) (by decide) hd
  have d57 := kg (z := 57) (by decide) hd
  have b1 := mM (bV 48 d) 0 0 d48 (by simp)
  have b2 := mM (bV 57 d) 0 0 d57 (by simp)
  rw [dW, hl, Nat.add_zero, h4] at b1 b2
  have m1 := pY 48 (by decide) d hl hd 4 (by omega)
  have m2 := pY 57 (by decide) d hl hd 4 (by omega)
  rw [List.take_of_length_le (by rw [dW]; omega)] at m1 m2
  have hr : ∀ w, w < 10000 → mtk d 4 w = true → dval 0 (bV 48 d) ≤ w ∧ w ≤ dval 0 (bV 57 d) := fun w hw hm => by
    have := sq d hl hd 4 w (by omega) (by omega) hm
    rw [BN hl, BX hl] at this
    exact this
  have hhi : 1 ≤ dval 0 (bV 57 d) := by
    rcases Nat.eq_zero_or_pos (dval 0 (bV 57 d)) with h0 | h0
    · exfalso
      have hz : dval 0 (bV 48 d) = 0 := by
        have := (hr _ b1 m1).2
        omega
      have h15 := rP hl hd hX hz
      have hlow := sF h15
      have := (hr _ (by omega) hlow.1).2
      omega
    · exact h0
  unfold fk
  by_cases hz : g = true ∧ dval 0 (bV 48 d) = 0
  · rw [if_pos hz]
    have hlow := sF (rP hl hd hX hz.2)
    refine ⟨by simp only; omega, b2, hlow.1, m2, hhi, fun _ => hlow.2.1, fun w hw hm hg => ⟨hlow.2.2.2 w (hg hz.1) hm, (hr w hw hm).2⟩⟩
  · rw [if_neg hz]
    refine ⟨b1, b2, m1, m2, hhi, fun hg => ?_, fun w hw hm hg => hr w hw hm⟩
    simp only
    rcases Nat.eq_zero_or_pos (dval 0 (bV 48 d)) with h0 | h0
    · exact absurd ⟨hg, h0⟩ hz
    · exact h0
theorem Ae {g l : Bool} {d : List UInt8} {x s : Int} (hok : okY g l d x s) : (jz g d x s).1 ≤ 10000000000000000 ∧ (jz g d x s).2 ≤ 10000000000000000 ∧ memP d x s (jz g d x s).1 ∧ memP d x s (jz g d x s).2 ∧ (hasX d = true → 1 ≤ (jz g d x s).2 ∧ (g = true → 1 ≤ (jz g d x s).1)) ∧
    ∀ w, w ≤ 10000000000000000 → memP d x s w → (hasX d = true → g = true → 1 ≤ w) → (jz g d x s).1 ≤ w ∧ w ≤ (jz g d x s).2 := by
  unfold jz memP
  cases hX : hasX d with
  | true =>
    obtain ⟨rfl, rfl, rfl, hl, hd⟩ := jV hok hX
    obtain ⟨p1, p2, p3, p4, p5, p6, p7⟩ := zA (g := g) hl hd hX
    have h4 : (10 : Nat) ^ 4 = 10000 := by decide
    simp only [if_true, h4]
    refine ⟨by omega, by omega, ⟨p3, Nat.div_eq_of_lt p1⟩, ⟨p4, Nat.div_eq_of_lt p2⟩, fun _ => ⟨p5, p6⟩, fun w hw hm hg => p7 w (by omega) hm.1 (hg trivial)⟩
  | false =>
    obtain ⟨k, q, rfl, rfl, hN⟩ := lR hok hX
    have hs := hN.small
    have hv : dval 0 d * 10 ^ k = val d k := rfl
    rw [hv] at hs
    obtain ⟨s1, s2, s3⟩ := Bt hN
    unfold E16 at s3
    simp only [Bool.false_eq_true, if_false, Int.toNat_natCast]
    unfold tq
    unfold qU at s1 s2 s3 ⊢
    by_cases h0 : 0 < q
    · rw [if_pos h0] at s1 s2 s3 ⊢
      rw [if_pos h0]
      have hu : 1 ≤ 10 ^ (d.length + k - q) := Nat.one_le_pow _ _ (by decide)
      generalize 10 ^ (d.length + k - q) = u at *
      generalize val d k = v at *
      simp only at s1 s2 s3 ⊢
      have hmul : v / u * u / u = v / u := Nat.mul_div_cancel _ hu
      have hlt : ∀ w, v / u * u ≤ w → w < v / u * u + u → w / u = v / u := by
        intro w h1 h2
        apply Nat.div_eq_of_lt_le
        · exact h1
        · rw [Nat.succ_mul]; exact h2
      have hback : ∀ w, v / u = w / u → v / u * u ≤ w ∧ w < v / u * u + u := by
        intro w h
        rw [h]
        have h1 := Nat.div_mul_le_self w u
        have h2 := Nat.div_add_mod w u
        have h3 := Nat.mod_lt w hu
        rw [Nat.mul_comm] at h2
        omega
      have hmin : min (v / u * u + u - 1) E16 ≤ v / u * u + u - 1 := Nat.min_le_left _ _
      have hself := hback v rfl
      refine ⟨by omega, s3, hmul.symm, (hlt _ (by omega) (by omega)).symm, fun q => (by cases q), fun w hw hm _ => ?_⟩
      obtain ⟨c1, c2⟩ := hback w hm
      refine ⟨c1, ?_⟩
      rw [Nat.le_min]
      unfold E16
      omega
    · rw [if_neg h0] at s1 s2 s3 ⊢
      rw [if_neg h0]
      simp only [Nat.div_one] at s1 s2 s3 ⊢
      refine ⟨s3, s3, trivial, trivial, fun q => (by cases q), fun w hw hm _ => by omega⟩
theorem xp {g l : Bool} {d : List UInt8} {x s : Int} (hok : okY g l d x s) : inP g d x s (sgn g (jz g d x s)).1 ∧ inP g d x s (sgn g (jz g d x s)).2 ∧ ∀ v, inP g d x s v → (sgn g (jz g d x s)).1 ≤ v ∧ v ≤ (sgn g (jz g d x s)).2 := by
  obtain ⟨p1, p2, p3, p4, p5, p6⟩ := Ae hok
  generalize jz g d x s = sp at *
  obtain ⟨lo, hi⟩ := sp
  simp only at p1 p2 p3 p4 p5 p6
  cases g with
  | true =>
    have hw : ∀ a : Nat, wOf true (-(a : Int)) = (a : Int) := fun a => by unfold wOf; simp
    have mk : ∀ a : Nat, a ≤ 10000000000000000 → memP d x s a → (hasX d = true → 1 ≤ a) → inP true d x s (-(a : Int)) := by
      intro a h1 h2 h3
      refine ⟨by omega, by omega, by rw [hw]; omega, fun q => ?_, by rw [hw, Int.toNat_natCast]; exact h2⟩
      have := h3 q.1
      have h4 := q.2.2
      rw [hw] at h4
      omega
    simp only [sgn, if_true]
    refine ⟨mk hi p2 p4 (fun h => (p5 h).1), mk lo p1 p3 (fun h => (p5 h).2 rfl), fun v hv => ?_⟩
    obtain ⟨v1, v2, v3, v4, v5⟩ := hv
    have hwv : wOf true v = -v := rfl
    rw [hwv] at v3 v4 v5
    have := p6 (-v).toNat (by omega) v5 (fun hx _ => by
      have : ¬ -v = 0 := fun e => v4 ⟨hx, rfl, e⟩
      omega)
    omega
  | false =>
    have hw : ∀ a : Int, wOf false a = a := fun a => rfl
    have mk : ∀ a : Nat, a ≤ 10000000000000000 → memP d x s a → inP false d x s (a : Int) := by
      intro a h1 h2
      exact ⟨by omega, by omega, by rw [hw]; omega, fun q => (by cases q.2.1), by rw [hw, Int.toNat_natCast]; exact h2⟩
    simp only [sgn, Bool.false_eq_true, if_false]
    refine ⟨mk lo p1 p3, mk hi p2 p4, fun v hv => ?_⟩
    obtain ⟨v1, v2, v3, v4, v5⟩ := hv
    rw [hw] at v3 v5
    have := p6 v.toNat (by omega) v5 (fun _ q => by cases q)
    omega
end Go.Sh
namespace Go.Sh.Mk
open Go.Abs
def okB (c : UInt8) : Bool := c.toNat == 88 || (decide (48 ≤ c.toNat) && decide (c.toNat ≤ 57))
def chk (s : List UInt8) : Int := if 18 < s.length then 3 else if s.all okB then (if s = [] then 5 else 0) else 5
theorem m8 (n : Nat) (s0 s : List UInt8) (hn : s.length + 1 < n) :
    ae (dJ n) n (s0, s, 0) = some (if s.all okB then .inr s0 else .inl 5) := by
  have := dH (step := dJ n) (fun x => x.1 = s0 ∧ x.2.1 = s ∧ x.2.2 ≤ s.length) (fun x => s.length - x.2.2)
    (fun x => if (s.drop x.2.2).all okB then .inr s0 else .inl 5) ?_ n (s0, s, 0) ⟨rfl, rfl, Nat.zero_le _⟩ (by simp; omega)
  · simpa using this
  rintro ⟨a, b, i⟩ ⟨rfl, rfl, hi⟩
  simp only at hi ⊢
  rcases Nat.lt_or_ge i b.length with hlt | hge
  · obtain ⟨c, hc⟩ : ∃ c, b[i]? = some c := ⟨b[i], List.getElem?_eq_getElem hlt⟩
    have hb : Nat.blt i b.length = true := Nat.ble_eq_true_of_le hlt
    rw [ga hc, List.all_cons]
    simp only [dJ, hb, cond_true]
    by_cases h128 : c.toNat < 128
    · rw [tA hc h128]
      by_cases h88 : c.toNat = 88
      · refine .inl ⟨(a, b, i + 1), by simp [h88], ⟨rfl, rfl, by simp only; omega⟩, by simp only; omega, ?_⟩
        simp [okB, h88]
      · by_cases h48 : c.toNat < 48
        · refine .inr ?_
          have e1 : (((c.toNat : Nat) : Int) != 88) = true := by simp; omega
          have e2 : (decide (((c.toNat : Nat) : Int) < 48)) = true := by simp; omega
          have e3 : okB c = false := by simp [okB]; omega
          simp [e1, e2, e3]
        · by_cases h57 : 57 < c.toNat
          · refine .inr ?_
            have e1 : (((c.toNat : Nat) : Int) != 88) = true := by simp; omega
            have e2 : (decide (((c.toNat : Nat) : Int) < 48)) = false := by simp; omega
            have e4 : (decide (((c.toNat : Nat) : Int) > 57)) = true := by simp; omega
            have e3 : okB c = false := by simp [okB]; omega
            simp [e1, e2, e3, e4]
          · have e1 : (((c.toNat : Nat) : Int) != 88) = true := by simp; omega
            have e2 : (decide (((c.toNat : Nat) : Int) < 48)) = false := by simp; omega
            have e4 : (decide (((c.toNat : Nat) : Int) > 57)) = false := by simp; omega
            have e3 : okB c = true := by simp [okB]; omega
            refine .inl ⟨(a, b, i + 1), by simp only [e1, e2, e4, cond_true, cond_false], ⟨rfl, rfl, by simp only; omega⟩, by simp only; omega, ?_⟩
            simp [e3]
    · obtain ⟨h1, h2⟩ := uZ hc (by omega)
      refine .inr ?_
      have e1 : ((((dec b i).1 : Nat) : Int) != 88) = true := by simp; omega
      have e2 : (decide ((((dec b i).1 : Nat) : Int) < 48)) = false := by simp; omega
      have e4 : (decide ((((dec b i).1 : Nat) : Int) > 57)) = true := by simp; omega
      have e3 : okB c = false := by simp [okB]; omega
      simp [e1, e2, e3, e4]
  · have hb : Nat.blt i b.length = false := by
      cases h : Nat.blt i b.length with
      | false => rfl
      | true => have : i < b.length := Nat.le_of_ble_eq_true h; omega
    refine .inr ?_
    simp only [dJ, hb, cond_false]
    rw [List.drop_eq_nil_of_le hge]
    rfl
theorem f7 (n : Nat) (s : List UInt8) (hn : 30 ≤ n) : eW n s = some (chk s) := by
  unfold eW chk
  by_cases h : 18 < s.length
  · have : (decide (((List.length s : Nat) : Int) > 18)) = true := by simp; omega
    simp [this, h]
  · have e : (decide (((List.length s : Nat) : Int) > 18)) = false := by simp; omega
    simp only [e, cond_false, h, if_false]
    rw [m8 n s s (by omega)]
    by_cases ha : s.all okB = true
    · simp only [ha, if_true, ob]
      by_cases hs : s = []
      · simp [hs]
      · have : (s == ([] : List UInt8)) = false := by simpa using hs
        simp [this, hs]
    · simp [ha, ob]
theorem ir {s : List UInt8} (h : chk s = 0) : s.length ≤ 18 ∧ s ≠ [] ∧ ∀ c ∈ s, okB c = true := by
  unfold chk at h
  split at h
  · simp at h
  · split at h
    · rename_i ha
      split at h
      · simp at h
      · rename_i hs
        exact ⟨by omega, hs, by simpa using ha⟩
    · simp at h
def nums (l : List UInt8) : List Int := l.map fun b => ((b.toNat : Nat) : Int)
def over (d : List Int) (i : Nat) (l : List Int) : List Int := d.take i ++ (l ++ d.drop (i + l.length))
theorem qa (d : List Int) (i : Nat) (x : Int) (l : List Int) (h : i < d.length) : over (d.set i x) (i + 1) l = over d i (x :: l) := by
  unfold over
  rw [show (d.set i x).take (i + 1) = d.take i ++ [x] from by
    rw [List.take_succ_eq_append_getElem (by simpa using h)]
    simp [List.take_set_of_le]]
  rw [List.drop_set_of_lt (by omega)]
  simp [Nat.add_assoc, Nat.add_comm 1]
theorem tU (d : List Int) (i : Nat) : over d i [] = d := by simp [over]
theorem Ab (d : List Int) (i : Nat) (l : List Int) (h : i + l.length ≤ d.length) : (over d i l).length = d.length := by
  unfold over; simp; omega
theorem ze {x y : UInt8} : (((x.toNat : Nat) : Int) == ((y.toNat : Nat) : Int)) = decide (x = y) := by
  by_cases h : x = y
  · simp [h]
  · have : x.toNat ≠ y.toNat := fun e => h (UInt8.toNat_inj.1 e)
    simp [h]; omega
theorem qI {x : UInt8} : (((x.toNat : Nat) : Int) == 88) = decide (x = 88) := by
  have := ze (x := x) (y := 88)
  simpa using this
def dg : Nat → Int → List Int
  | 0, _ => []
  | L + 1, k => dg L (k / 10) ++ [48 + k % 10]
theorem ox : ∀ (L : Nat) (k : Int), (dg L k).length = L
  | 0, _ => rfl
  | L + 1, k => by simp [dg, ox L]
theorem ma : ∀ (L : Nat) (k : Int), ∀ x ∈ dg L k, 48 ≤ x ∧ x < 58
  | 0, _, x, h => by simp [dg] at h
  | L + 1, k, x, h => by
    simp only [dg, List.mem_append, List.mem_singleton] at h
    rcases h with h | rfl
    · exact ma L _ x h
    · omega
def ej : List UInt8 → List Int → Bool
  | c :: m, d :: l => (c == 88 || decide (((c.toNat : Nat) : Int) = d)) && ej m l
  | _, _ => true
theorem mP : ∀ {a c : List UInt8} {b d : List Int}, a.length = b.length → ej (a ++ c) (b ++ d) = (ej a b && ej c d)
  | [], c, [], d, _ => by simp [ej]
  | x :: a, c, y :: b, d, h => by
    simp only [List.length_cons, Nat.add_right_cancel_iff] at h
    simp only [List.cons_append, ej, mP h, Bool.and_assoc]
def hasM (m : List UInt8) (k : Int) : Bool := decide (0 ≤ k) && (decide (k < 10 ^ m.length) && ej m (dg m.length k))
theorem y3 (L : Nat) (h : L ≤ 18) : jG 20000000 ((L : Nat) : Int) = some (10 ^ L) := by
  have hk : allN (fun i => match jG 20000000 ((i : Nat) : Int) with | some r => decide (r = 10 ^ i) | none => false) 19 = true := by kernel_rfl
  have := sQ hk L (by omega)
  split at this
  · rename_i r hr
    rw [hr]; simpa using this
  · cases this
theorem rO (L : Nat) (h : L ≤ 18) : (10 : Int) ^ L ≤ 1000000000000000000 := by
  have hk : allN (fun i => decide ((10 : Int) ^ i ≤ 1000000000000000000)) 19 = true := by kernel_rfl
  simpa using sQ hk L (by omega)
theorem CV {k : Int} (h : 0 ≤ k) : Int.tmod k 10 = k % 10 := Int.tmod_eq_emod_of_nonneg h
theorem Cz {k : Int} (h : 0 ≤ k) : Int.tdiv k 10 = k / 10 := Int.tdiv_eq_ediv_of_nonneg h
theorem vr (k : Int) (i : Nat) (d : List Int) (h0 : 0 ≤ k) (h1 : k < 9223372036854775808) (hi : i ≤ 18) (hd : d.length = 18) :
    ae (dK 20000000) 20000000 (k, (i : Int) - 1, d) = some (over d 0 (dg i k)) := by
  have := dH (step := dK 20000000) (fun x => (0 ≤ x.1 ∧ x.1 < 9223372036854775808) ∧ (-1 ≤ x.2.1 ∧ x.2.1 ≤ 17) ∧ x.2.2.length = 18) (fun x => (x.2.1 + 1).toNat)
    (fun x => over x.2.2 0 (dg (x.2.1 + 1).toNat x.1)) ?_ 20000000 (k, (i : Int) - 1, d) ⟨⟨h0, h1⟩, ⟨by simp only; omega, by simp only; omega⟩, hd⟩ (by simp only; omega)
  · simpa using this
  rintro ⟨k, i, d⟩ ⟨⟨h0, h1⟩, ⟨h2, h3⟩, hd⟩
  simp only at h0 h1 h2 h3 hd ⊢
  by_cases hi : 0 ≤ i
  · obtain ⟨j, rfl⟩ : ∃ j : Nat, i = j := ⟨i.toNat, by omega⟩
    have hj : j < 18 := by omega
    have e1 : decide ((j : Int) ≥ 0) = true := by simp
    have e2 : Nat.blt j 18 = true := Nat.ble_eq_true_of_le hj
    have w1 : IntKind.wrap .i64 ((j : Int) - 1) = (j : Int) - 1 := wrap_i64 _ (by omega) (by omega)
    have w2 : IntKind.wrap .i64 (Int.tdiv k 10) = k / 10 := by rw [Cz h0]; exact wrap_i64 _ (by omega) (by omega)
    have w3 : IntKind.wrap .u8 (IntKind.wrap .i64 (48 + Int.tmod k 10)) = 48 + k % 10 := by rw [CV h0, wrap_i64 _ (by omega) (by omega), fY _ (by omega) (by omega)]
    refine .inl ⟨(k / 10, (j : Int) - 1, d.set j (48 + k % 10)), by simp only [dK, e1, cond_true, dl hj, ob, e2, w1, w2, w3], ⟨⟨by simp only; omega, by simp only; omega⟩, ⟨by simp only; omega, by simp only; omega⟩, by simpa using hd⟩, by simp only; omega, ?_⟩
    have s1 : ((j : Int) - 1 + 1).toNat = j := by omega
    have s2 : ((j : Int) + 1).toNat = j + 1 := by omega
    simp only [s1, s2, over, List.take_zero, List.nil_append, ox, Nat.zero_add, dg, List.append_assoc]
    congr 1
    rw [List.drop_set, if_neg (by omega), Nat.sub_self, List.drop_eq_getElem_cons (by omega)]
    simp only [List.set_cons_zero, List.length_append, ox, List.length_cons, List.length_nil, List.cons_append, List.nil_append, Nat.zero_add]
  · have e1 : decide (i ≥ 0) = false := by simp; omega
    have s : (i + 1).toNat = 0 := by omega
    refine .inr ?_
    simp only [dK, e1, cond_false, s, dg, tU]
theorem zQ (m : List UInt8) (k : Int) (hm : m.length ≤ 18) (h0 : 0 ≤ k) (h1 : k < 9223372036854775808) :
    fQ 20000000 m k = some (over [0, 0, 0, 0, 0, 0, 0, 0, 0, 0, 0, 0, 0, 0, 0, 0, 0, 0] 0 (dg m.length k)) := by
  have w : IntKind.wrap .i64 (((List.length m : Nat) : Int) - 1) = (m.length : Int) - 1 := wrap_i64 _ (by omega) (by omega)
  simp only [fQ, w, vr k m.length [0, 0, 0, 0, 0, 0, 0, 0, 0, 0, 0, 0, 0, 0, 0, 0, 0, 0] h0 h1 hm (by rfl), ob]
theorem nl {d l : List Int} {i : Nat} (h : i < l.length) : (over d 0 l)[i]? = l[i]? := by
  unfold over
  simp only [List.take_zero, List.nil_append]
  rw [List.getElem?_append_left h]
theorem pN : ∀ (l : List Int), (∀ x ∈ l, 0 ≤ x ∧ x < 256) → nums (dq l) = l
  | [], _ => rfl
  | x :: l, h => by
    have ih := pN l fun y hy => h y (List.mem_cons_of_mem _ hy)
    obtain ⟨h0, h1⟩ := h x (by simp)
    have e : (((UInt8.ofNat x.toNat).toNat : Nat) : Int) = x := by
      rw [UInt8.toNat_ofNat', Nat.mod_eq_of_lt (by omega)]; omega
    simp only [nums, dq, List.map_map] at ih ⊢
    simp only [List.map_cons, Function.comp, e]
    rw [show List.map ((fun b : UInt8 => ((b.toNat : Nat) : Int)) ∘ fun n : Int => UInt8.ofNat n.toNat) l = l from ih]
theorem yN (l : List UInt8) : (nums l).length = l.length := by simp [nums]
def cnt : List UInt8 → Nat
  | [] => 0
  | c :: r => if c = 88 then cnt r + 1 else cnt r
def dv (c : UInt8) : Int := ((c.toNat : Nat) : Int) - 48
def nth : List UInt8 → Int → Int
  | [], _ => 0
  | c :: r, i => if c = 88 then 10 * nth r (i / 10) + i % 10 else 10 * nth r i + dv c
def ag : List UInt8 → Int → Bool
  | [], _ => true
  | c :: r, k => ag r (k / 10) && (decide (c = 88) || decide (dv c = k % 10))
def idx : List UInt8 → Int → Int
  | [], _ => 0
  | c :: r, k => if c = 88 then 10 * idx r (k / 10) + k % 10 else idx r (k / 10)
def okR (r : List UInt8) : Prop := ∀ c ∈ r, c = 88 ∨ (0 ≤ dv c ∧ dv c < 10)
theorem pj {m : List UInt8} (h : ∀ c ∈ m, okB c = true) : okR m.reverse := by
  intro c hc
  have := h c (List.mem_reverse.1 hc)
  simp only [okB, Bool.or_eq_true, beq_iff_eq, Bool.and_eq_true, decide_eq_true_eq] at this
  rcases this with h | h
  · exact .inl (UInt8.toNat_inj.1 (by simpa using h))
  · exact .inr (by unfold dv; omega)
theorem ks {c : UInt8} {r : List UInt8} (h : okR (c :: r)) : okR r := fun x hx => h x (List.mem_cons_of_mem _ hx)
theorem dL (n : Nat) : (10 : Int) ^ (n + 1) = 10 * 10 ^ n := by rw [Int.pow_succ, Int.mul_comm]
theorem mh (n : Nat) : (0 : Int) < 10 ^ n := Int.pow_pos (by omega)
theorem ko : ∀ {r : List UInt8}, okR r → ∀ i, 0 ≤ i → 0 ≤ nth r i ∧ nth r i < 10 ^ r.length
  | [], _, i, _ => by simp [nth]
  | c :: r, h, i, hi => by
    simp only [nth, List.length_cons, dL]
    split
    · have := ko (ks h) (i / 10) (by omega)
      omega
    · rename_i hc
      have := ko (ks h) i hi
      have := (h c (by simp)).resolve_left hc
      omega
theorem xL : ∀ {r : List UInt8}, okR r → ∀ i, 0 ≤ i → ag r (nth r i) = true
  | [], _, _, _ => rfl
  | c :: r, h, i, hi => by
    simp only [nth, ag]
    split
    · rename_i hc
      have e : (10 * nth r (i / 10) + i % 10) / 10 = nth r (i / 10) := by omega
      rw [e, xL (ks h) (i / 10) (by omega)]
      simp [hc]
    · rename_i hc
      have hd := (h c (by simp)).resolve_left hc
      have e : (10 * nth r i + dv c) / 10 = nth r i := by omega
      have e2 : (10 * nth r i + dv c) % 10 = dv c := by omega
      rw [e, e2, xL (ks h) i hi]
      simp
theorem oc : ∀ (r : List UInt8) (k : Int), 0 ≤ k → 0 ≤ idx r k ∧ idx r k < 10 ^ cnt r
  | [], k, _ => by simp [idx, cnt]
  | c :: r, k, hk => by
    have := oc r (k / 10) (by omega)
    simp only [idx, cnt]
    split
    · rw [dL]; omega
    · exact this
theorem xW : ∀ {r : List UInt8} {k : Int}, 0 ≤ k → k < 10 ^ r.length → ag r k = true → nth r (idx r k) = k
  | [], k, h0, h1, _ => by simp at h1; simp [nth]; omega
  | c :: r, k, h0, h1, ha => by
    simp only [ag, Bool.and_eq_true, Bool.or_eq_true, decide_eq_true_eq] at ha
    rw [List.length_cons, dL] at h1
    have ih := xW (r := r) (k := k / 10) (by omega) (by omega) ha.1
    simp only [nth, idx]
    split
    · have := oc r (k / 10) (by omega)
      have e : (10 * idx r (k / 10) + k % 10) / 10 = idx r (k / 10) := by omega
      have e2 : (10 * idx r (k / 10) + k % 10) % 10 = k % 10 := by omega
      rw [e, e2, ih]; omega
    · rename_i hc
      rw [ih]
      have := ha.2.resolve_left hc
      omega
theorem qQ : ∀ {r : List UInt8}, okR r → ∀ i j, 0 ≤ i → i < j → j < 10 ^ cnt r → nth r i < nth r j
  | [], _, i, j, h0, h1, h2 => by simp [cnt] at h2; omega
  | c :: r, h, i, j, h0, h1, h2 => by
    simp only [nth, cnt] at h2 ⊢
    split
    · rename_i hc
      rw [if_pos hc, dL] at h2
      by_cases hq : i / 10 = j / 10
      · rw [hq]; omega
      · have := qQ (ks h) (i / 10) (j / 10) (by omega) (by omega) (by omega)
        omega
    · rename_i hc
      rw [if_neg hc] at h2
      have := qQ (ks h) i j h0 h1 h2
      omega
theorem uv : ∀ (r : List UInt8), ∀ k, ej r.reverse (dg r.length k) = ag r k
  | [], k => rfl
  | c :: r, k => by
    simp only [List.reverse_cons, List.length_cons, dg, ag]
    rw [mP (by rw [List.length_reverse, ox]), uv r]
    have e1 : decide (((c.toNat : Nat) : Int) = 48 + k % 10) = decide (dv c = k % 10) := decide_eq_decide.2 (by unfold dv; omega)
    have e2 : (c == 88) = decide (c = 88) := by by_cases h : c = 88 <;> simp [h]
    simp only [ej, Bool.and_true, e1, e2]
theorem sO (m : List UInt8) (k : Int) : hasM m k = (decide (0 ≤ k) && (decide (k < 10 ^ m.length) && ag m.reverse k)) := by
  have := uv m.reverse k
  rw [List.reverse_reverse, List.length_reverse] at this
  unfold hasM
  rw [this]
theorem ol : ∀ (m : List UInt8), cnt m = m.count 88
  | [] => rfl
  | c :: m => by
    simp only [cnt, ol m, List.count_cons]
    by_cases h : c = 88 <;> simp [h]
theorem lq (m : List UInt8) : cnt m.reverse = cnt m := by rw [ol, ol, List.count_reverse]
theorem xF : ∀ (m : List UInt8), cnt m ≤ m.length
  | [] => by simp [cnt]
  | c :: m => by
    have := xF m
    simp only [cnt, List.length_cons]
    split <;> omega
def fd (x y : Int) : Int := (if y = 88 then x else y) - 48
def fval (x : Int) (l : List Int) : Int := l.foldl (fun n y => 10 * n + fd x y) 0
theorem qt (x : Int) : ∀ (l : List Int) (n : Int), l.foldl (fun n y => 10 * n + fd x y) n = n * 10 ^ l.length + fval x l
  | [], n => by simp [fval]
  | y :: l, n => by
    have e := qt x l (10 * n + fd x y)
    have e2 := qt x l (10 * 0 + fd x y)
    simp only [fval, List.foldl_cons, List.length_cons, dL] at e e2 ⊢
    rw [e, e2, Int.add_mul, Int.add_mul]
    have : 10 * n * 10 ^ l.length = n * (10 * 10 ^ l.length) := by rw [Int.mul_comm 10 n, Int.mul_assoc]
    omega
theorem nL (s : List UInt8) (x : Int) (h18 : s.length ≤ 18) (hs : ∀ c ∈ s, 0 ≤ fd x ((c.toNat : Nat) : Int) ∧ fd x ((c.toNat : Nat) : Int) < 10) : gA 20000000 s x = some (fval x (nums s)) := by
  have hs' : ∀ y ∈ nums s, 0 ≤ fd x y ∧ fd x y < 10 := by
    intro y hy
    obtain ⟨c, hc, rfl⟩ := List.mem_map.1 hy
    exact hs c hc
  have hl : (nums s).length = s.length := yN s
  have := dH (step := di 20000000)
    (fun st => st.1 = x ∧ st.2.2.1 = ((s.length : Nat) : Int) ∧ st.2.2.2.2 = nums s ∧ (0 ≤ st.2.2.2.1 ∧ st.2.2.2.1 ≤ s.length) ∧ 0 ≤ st.2.1 ∧ st.2.1 < 10 ^ st.2.2.2.1.toNat) (fun st => s.length - st.2.2.2.1.toNat)
    (fun st => ((nums s).drop st.2.2.2.1.toNat).foldl (fun n y => 10 * n + fd x y) st.2.1) ?_ 20000000 (x, 0, ((s.length : Nat) : Int), 0, nums s) ⟨rfl, rfl, rfl, ⟨by simp, by simp⟩, by simp, by simp⟩ (by simp; omega)
  · show (ob (ae (di 20000000) 20000000 (x, 0, ((List.length (nums s) : Nat) : Int), 0, nums s)) fun y30 => some y30) = _
    rw [hl, this]
    rfl
  rintro ⟨x', n, len, i, l⟩ ⟨q1, q2, q3, ⟨h0, hi⟩, n0, n1⟩
  simp only at q1 q2 q3 h0 hi n0 n1 ⊢
  subst q1 q2 q3
  obtain ⟨j, rfl⟩ : ∃ j : Nat, i = j := ⟨i.toNat, by omega⟩
  simp only [Int.toNat_natCast] at n1 ⊢
  rcases Nat.lt_or_ge j s.length with hlt | hge
  · obtain ⟨y, hy⟩ : ∃ c, (nums s)[j]? = some c := ⟨(nums s)[j]'(by omega), List.getElem?_eq_getElem (by omega)⟩
    obtain ⟨d0, d1⟩ := hs' y (List.mem_of_getElem? hy)
    have hb : (decide ((j : Int) < ((s.length : Nat) : Int))) = true := by simp; omega
    have hw : IntKind.wrap .i64 ((j : Int) + 1) = ((j + 1 : Nat) : Int) := by rw [wrap_i64 _ (by omega) (by omega)]; omega
    have hb1 := rO (j + 1) (by omega)
    rw [dL] at hb1
    have w1 : IntKind.wrap .i64 (10 * n) = 10 * n := wrap_i64 _ (by omega) (by omega)
    have w2 : ∀ z : Int, 0 ≤ z → z < 10 → IntKind.wrap .i64 (10 * n + IntKind.wrap .i64 (IntKind.wrap .u8 z)) = 10 * n + z := fun z z0 z1 => by
      rw [fY z (by omega) (by omega), wrap_i64 z (by omega) (by omega), wrap_i64 _ (by omega) (by omega)]
    rw [ga hy, List.foldl_cons]
    simp only [di, hb, cond_true, dl (show j < (nums s).length by omega), ob, hy, hw, w1]
    have next : 0 ≤ 10 * n + fd x' y ∧ 10 * n + fd x' y < 10 ^ (j + 1) := by rw [dL]; omega
    by_cases h88 : y = 88
    · have e1 : (y == 88) = true := by simpa using h88
      have hd : fd x' y = x' - 48 := by simp [fd, h88]
      rw [hd] at d0 d1 next ⊢
      refine .inl ⟨(x', 10 * n + (x' - 48), ((s.length : Nat) : Int), ((j + 1 : Nat) : Int), nums s), by simp only [e1, cond_true, w2 _ d0 d1], ⟨rfl, rfl, rfl, ⟨by simp only; omega, by simp only; omega⟩, next.1, by simpa only [Int.toNat_natCast] using next.2⟩, by simp only [Int.toNat_natCast]; omega, by simp only [Int.toNat_natCast]⟩
    · have e1 : (y == 88) = false := by simpa using h88
      have hd : fd x' y = y - 48 := by simp [fd, h88]
      rw [hd] at d0 d1 next ⊢
      refine .inl ⟨(x', 10 * n + (y - 48), ((s.length : Nat) : Int), ((j + 1 : Nat) : Int), nums s), by simp only [e1, cond_false, w2 _ d0 d1], ⟨rfl, rfl, rfl, ⟨by simp only; omega, by simp only; omega⟩, next.1, by simpa only [Int.toNat_natCast] using next.2⟩, by simp only [Int.toNat_natCast]; omega, by simp only [Int.toNat_natCast]⟩
  · have hb : (decide ((j : Int) < ((s.length : Nat) : Int))) = false := by simp; omega
    refine .inr ?_
    simp only [di, hb, cond_false]
    rw [List.drop_eq_nil_of_le (by omega)]; rfl
theorem om (x : Int) (l : List Int) (y : Int) : fval x (l ++ [y]) = 10 * fval x l + fd x y := by simp [fval, List.foldl_append]
theorem rk (r : List UInt8) (c : UInt8) : nums ((c :: r).reverse) = nums r.reverse ++ [((c.toNat : Nat) : Int)] := by simp [nums]
theorem tv (x : Int) (c : UInt8) : fd x ((c.toNat : Nat) : Int) = if c = 88 then x - 48 else dv c := by
  unfold fd dv
  by_cases h : c = 88
  · simp [h]
  · have : ¬ ((c.toNat : Nat) : Int) = 88 := fun e => h (UInt8.toNat_inj.1 (by simpa using (by omega : c.toNat = 88)))
    rw [if_neg this, if_neg h]
theorem pU : ∀ (r : List UInt8), fval 48 (nums r.reverse) = nth r 0
  | [] => rfl
  | c :: r => by
    rw [rk, om, pU r, tv]
    simp only [nth]
    split <;> simp
theorem lW : ∀ (r : List UInt8), fval 57 (nums r.reverse) = nth r (10 ^ cnt r - 1)
  | [] => rfl
  | c :: r => by
    have hp := mh (cnt r)
    rw [rk, om, lW r, tv]
    simp only [nth, cnt]
    split
    · rw [dL]
      have e1 : (10 * (10 : Int) ^ cnt r - 1) / 10 = 10 ^ cnt r - 1 := by omega
      have e2 : (10 * (10 : Int) ^ cnt r - 1) % 10 = 9 := by omega
      rw [e1, e2]; omega
    · rfl
theorem Cr {m : List UInt8} (hok : ∀ c ∈ m, okB c = true) {x : Int} (hx : 48 ≤ x ∧ x < 58) : ∀ c ∈ m, 0 ≤ fd x ((c.toNat : Nat) : Int) ∧ fd x ((c.toNat : Nat) : Int) < 10 := by
  intro c hc
  rw [tv]
  have := pj hok c (List.mem_reverse.2 hc)
  split
  · omega
  · rename_i h; exact this.resolve_left h
theorem zS {m : List UInt8} (hm : chk m = 0) : jH 20000000 m = some (nth m.reverse 0, 0) := by
  obtain ⟨h18, _, hok⟩ := ir hm
  have e0 : ((0 : Int) != 0) = false := by simp
  have := pU m.reverse
  rw [List.reverse_reverse] at this
  simp only [jH, f7 20000000 m (by omega), hm, ob, e0, cond_false, nL m 48 h18 (Cr hok (by omega)), this]
theorem tt {m : List UInt8} (hm : chk m = 0) : f9 20000000 m = some (nth m.reverse (10 ^ cnt m - 1), 0) := by
  obtain ⟨h18, _, hok⟩ := ir hm
  have e0 : ((0 : Int) != 0) = false := by simp
  have := lW m.reverse
  rw [List.reverse_reverse, lq] at this
  simp only [f9, f7 20000000 m (by omega), hm, ob, e0, cond_false, nL m 57 h18 (Cr hok (by omega)), this]
theorem zL {m : List UInt8} {l : List Int} (z : List Int) (h18 : m.length ≤ 18) (hl : l.length = m.length) (hr : ∀ y ∈ l, 48 ≤ y ∧ y < 58) : cX 20000000 m (over z 0 l) = some (fval 0 l) := by
  have ht : List.take m.length (over z 0 l) = l := by
    unfold over
    rw [List.take_zero, List.nil_append, List.take_append_of_le_length (by omega), List.take_of_length_le (by omega)]
  have hn : nums (dq l) = l := pN l fun y hy => by have := hr y hy; omega
  have hb : (dq l).length = m.length := by simp [dq, hl]
  simp only [cX, ii h18, ob, Nat.zero_add, show Nat.ble m.length 18 = true from Nat.ble_eq_true_of_le h18, cond_true, List.drop_zero, ht]
  rw [nL (dq l) 0 (by omega) ?_, hn]
  intro c hc
  have hmem : ((c.toNat : Nat) : Int) ∈ l := by rw [← hn]; exact List.mem_map.2 ⟨c, hc, rfl⟩
  have := hr _ hmem
  unfold fd
  rw [if_neg (by omega)]; omega
theorem ur {m : List UInt8} (hm : chk m = 0) {i : Int} (h0 : 0 ≤ i) : hasM m (nth m.reverse i) = true := by
  obtain ⟨h18, _, hok⟩ := ir hm
  have hr := ko (pj hok) i h0
  rw [List.length_reverse] at hr
  rw [sO, xL (pj hok) i h0, decide_eq_true hr.1, decide_eq_true hr.2]
  rfl
def vl : List Int → Int
  | [] => 0
  | y :: l => (y - 48) * 10 ^ l.length + vl l
def digl (l : List Int) : Prop := ∀ y ∈ l, 48 ≤ y ∧ y < 58
theorem bj {y : Int} {l : List Int} (h : digl (y :: l)) : digl l := fun x hx => h x (List.mem_cons_of_mem _ hx)
theorem nk : ∀ {l : List Int}, digl l → 0 ≤ vl l ∧ vl l < 10 ^ l.length
  | [], _ => by simp [vl]
  | y :: l, h => by
    have ih := nk (bj h)
    have hy := h y (by simp)
    have hp := mh l.length
    simp only [vl, List.length_cons, dL]
    have a1 : 0 ≤ (y - 48) * 10 ^ l.length := Int.mul_nonneg (by omega) (by omega)
    have a2 : (y - 48) * 10 ^ l.length ≤ 9 * 10 ^ l.length := Int.mul_le_mul_of_nonneg_right (by omega) (by omega)
    omega
theorem Bs {y z : Int} {a b : List Int} (hl : a.length = b.length) (ha : digl a) (hb : digl b) (h : y < z) : vl (y :: a) < vl (z :: b) := by
  have h1 := nk ha
  have h2 := nk hb
  have hp := mh a.length
  simp only [vl]
  rw [← hl] at h2 ⊢
  have a2 : (y - 48 + 1) * 10 ^ a.length ≤ (z - 48) * 10 ^ a.length := Int.mul_le_mul_of_nonneg_right (by omega) (by omega)
  rw [Int.add_mul] at a2
  omega
theorem qh : ∀ {l : List Int}, digl l → fval 0 l = vl l
  | [], _ => rfl
  | y :: l, h => by
    have hy := h y (by simp)
    have e : fval 0 (y :: l) = l.foldl (fun n y => 10 * n + fd 0 y) (10 * 0 + fd 0 y) := rfl
    have e2 : fd 0 y = y - 48 := by unfold fd; rw [if_neg (by omega)]
    rw [e, qt, qh (bj h), e2]
    simp only [vl, Int.mul_zero, Int.zero_add]
theorem wC {l : List Int} {y : Int} (h : digl (l ++ [y])) : vl (l ++ [y]) = 10 * vl l + (y - 48) := by
  have hy := h y (by simp)
  have hl : digl l := fun x hx => h x (by simp [hx])
  rw [← qh h, ← qh hl, om]
  unfold fd; rw [if_neg (by omega)]
theorem Ah : ∀ (L : Nat) (k : Int), 0 ≤ k → k < 10 ^ L → vl (dg L k) = k
  | 0, k, h0, h1 => by simp at h1; simp [dg, vl]; omega
  | L + 1, k, h0, h1 => by
    rw [dL] at h1
    have := Ah L (k / 10) (by omega) (by omega)
    have hd := ma (L + 1) k
    simp only [dg] at hd ⊢
    rw [wC hd, this]; omega
theorem Er {l : List Int} (h : digl l) : dg l.length (vl l) = l := by
  have go : ∀ (r : List Int), digl r.reverse → dg r.length (vl r.reverse) = r.reverse := by
    intro r
    induction r with
    | nil => intro _; rfl
    | cons y r ih =>
      intro h
      simp only [List.reverse_cons, List.length_cons] at h ⊢
      have hy := h y (by simp)
      rw [wC h]
      simp only [dg]
      have e1 : (10 * vl r.reverse + (y - 48)) / 10 = vl r.reverse := by omega
      have e2 : 48 + (10 * vl r.reverse + (y - 48)) % 10 = y := by omega
      rw [e1, e2, ih fun x hx => h x (List.mem_append.2 (.inl hx))]
  have := go l.reverse (by rw [List.reverse_reverse]; exact h)
  rwa [List.reverse_reverse, List.length_reverse] at this
def fst (up : Bool) : Int := cond up 48 57
def lst (up : Bool) : Int := cond up 57 48
def stp (up : Bool) (y : Int) : Int := cond up (y + 1) (y - 1)
def fil (up : Bool) (m : List UInt8) : List Int := m.map fun c => cond (decide (c = 88)) (fst up) ((c.toNat : Nat) : Int)
def nx (up : Bool) : List UInt8 → List Int → Option (List Int)
  | c :: m, y :: l =>
    if c = 88 then
      match nx up m l with
      | some r => some (y :: r)
      | none => if y = lst up then none else some (stp up y :: fil up m)
    else if ((c.toNat : Nat) : Int) = y then (nx up m l).map fun r => y :: r
    else if decide (((c.toNat : Nat) : Int) > y) = up then some (((c.toNat : Nat) : Int) :: fil up m) else none
  | _, _ => some []
def okM (m : List UInt8) : Prop := ∀ c ∈ m, okB c = true
theorem kK {c : UInt8} {m : List UInt8} (h : okM (c :: m)) : okM m := fun x hx => h x (List.mem_cons_of_mem _ hx)
theorem uo {c : UInt8} (h : okB c = true) (h88 : ¬ c = 88) : 48 ≤ ((c.toNat : Nat) : Int) ∧ ((c.toNat : Nat) : Int) < 58 := by
  simp only [okB, Bool.or_eq_true, beq_iff_eq, Bool.and_eq_true, decide_eq_true_eq] at h
  have : ¬ c.toNat = 88 := fun e => h88 (UInt8.toNat_inj.1 (by simpa using e))
  omega
theorem ql (up : Bool) (m : List UInt8) : (fil up m).length = m.length := by simp [fil]
theorem xl (up : Bool) {m : List UInt8} (h : okM m) : digl (fil up m) := by
  intro y hy
  obtain ⟨c, hc, rfl⟩ := List.mem_map.1 hy
  by_cases h88 : c = 88
  · simp only [decide_eq_true h88, cond_true]
    cases up <;> simp [fst]
  · simp only [decide_eq_false h88, cond_false]
    exact uo (h c hc) h88
theorem od (up : Bool) : ∀ (m : List UInt8), ej m (fil up m) = true
  | [] => rfl
  | c :: m => by
    have := od up m
    simp only [fil, List.map_cons, ej] at this ⊢
    rw [this]
    by_cases h88 : c = 88
    · simp [h88]
    · simp [h88]
def ci (up : Bool) (a b : Int) : Prop := match up with | true => a ≤ b | false => b ≤ a
theorem qb (up : Bool) : ∀ {m : List UInt8} {e : List Int}, okM m → m.length = e.length → digl e → ej m e = true → ci up (vl (fil up m)) (vl e)
  | [], [], _, _, _, _ => by cases up <;> simp [fil, vl, ci]
  | c :: m, y :: e, hm, hl, he, ha => by
    simp only [List.length_cons, Nat.add_right_cancel_iff] at hl
    simp only [ej, Bool.and_eq_true, Bool.or_eq_true, beq_iff_eq, decide_eq_true_eq] at ha
    have ih := qb up (kK hm) hl (bj he) ha.2
    have hy := he y (by simp)
    have hfl := ql up m
    have h1 := xl up (kK hm)
    have same : ∀ z : Int, vl (z :: fil up m) = (z - 48) * 10 ^ m.length + vl (fil up m) := fun z => by rw [vl, hfl]
    have hcons : fil up (c :: m) = (cond (decide (c = 88)) (fst up) ((c.toNat : Nat) : Int)) :: fil up m := rfl
    rw [hcons]
    by_cases h88 : c = 88
    · simp only [decide_eq_true h88, cond_true]
      by_cases hyf : y = fst up
      · rw [← hyf, same, vl, ← hl]
        cases up <;> simp only [ci] at ih ⊢ <;> omega
      · cases up
        · exact Int.le_of_lt (Bs (by rw [hfl, hl]) (bj he) h1 (by simp [fst] at hyf ⊢; omega))
        · exact Int.le_of_lt (Bs (by rw [hfl, hl]) h1 (bj he) (by simp [fst] at hyf ⊢; omega))
    · simp only [decide_eq_false h88, cond_false]
      rw [ha.1.resolve_left h88, same, vl, ← hl]
      cases up <;> simp only [ci] at ih ⊢ <;> omega
  | [], _ :: _, _, h, _, _ => by simp at h
  | _ :: _, [], _, h, _, _ => by simp at h
theorem BQ (up : Bool) : ∀ {m : List UInt8} {l : List Int}, okM m → m.length = l.length → digl l →
    match nx up m l with
    | some r => r.length = m.length ∧ digl r ∧ ej m r = true ∧ ci up (vl l) (vl r) ∧ ∀ e, e.length = m.length → digl e → ej m e = true → ci up (vl l) (vl e) → ci up (vl r) (vl e)
    | none => ∀ e, e.length = m.length → digl e → ej m e = true → ¬ ci up (vl l) (vl e)
  | [], [], _, _, _ => by
    simp only [nx]
    refine ⟨rfl, by intro y hy; simp at hy, rfl, by cases up <;> simp [ci], ?_⟩
    intro e h1 _ _ _
    simp only [List.length_nil] at h1
    rw [List.eq_nil_of_length_eq_zero h1]
    cases up <;> simp [ci]
  | c :: m, y :: l, hm, hl, hd => by
    simp only [List.length_cons, Nat.add_right_cancel_iff] at hl
    have ih := BQ up (kK hm) hl (bj hd)
    have hy := hd y (by simp)
    have hdl := bj hd
    have hfl := ql up m
    have hfd := xl up (kK hm)
    have hlt : ∀ {z w : Int} {a b : List Int}, a.length = m.length → b.length = m.length → digl a → digl b → z < w → vl (z :: a) < vl (w :: b) := fun h1 h2 h3 h4 h5 => Bs (by rw [h1, h2]) h3 h4 h5
    have hsame : ∀ (z : Int) {a b : List Int}, a.length = m.length → b.length = m.length → (ci up (vl (z :: a)) (vl (z :: b)) ↔ ci up (vl a) (vl b)) := fun z a b h1 h2 => by
      simp only [vl, h1, h2]
      cases up <;> simp only [ci] <;> omega
    -- whatever is not beyond
    have beh : ∀ {z w : Int} {a b : List Int}, a.length = m.length → b.length = m.length → digl a → digl b → z ≠ w → (ci up (vl (z :: a)) (vl (w :: b)) ↔ ci up z w) := fun {z w a b} h1 h2 h3 h4 h5 => by
      rcases Int.lt_trichotomy z w with h | h | h
      · have := hlt h1 h2 h3 h4 h
        cases up <;> simp only [ci] <;> omega
      · exact absurd h h5
      · have := hlt h2 h1 h4 h3 h
        cases up <;> simp only [ci] <;> omega
    have cases_e : ∀ e : List Int, e.length = (c :: m).length → ∃ w a, e = w :: a ∧ a.length = m.length := fun e h => by
      match e, h with
      | w :: a, h => exact ⟨w, a, rfl, by simpa using h⟩
    by_cases h88 : c = 88
    · cases hn : nx up m l with
      | some r =>
        rw [hn] at ih
        obtain ⟨i1, i2, i3, i4, i5⟩ := ih
        simp only [nx, if_pos h88, hn]
        refine ⟨by simp [i1], fun z hz => ?_, by simp [ej, h88, i3], (hsame y hl.symm i1).2 i4, fun e e1 e2 e3 e4 => ?_⟩
        · rcases List.mem_cons.1 hz with rfl | hz
          · exact hy
          · exact i2 z hz
        · obtain ⟨w, a, rfl, ha⟩ := cases_e e e1
          simp only [ej, h88, beq_self_eq_true, Bool.true_or, Bool.true_and] at e3
          by_cases hw : y = w
          · subst hw
            exact (hsame y i1 ha).2 (i5 a ha (bj e2) e3 ((hsame y hl.symm ha).1 e4))
          · exact (beh i1 ha i2 (bj e2) hw).2 ((beh hl.symm ha hdl (bj e2) hw).1 e4)
      | none =>
        rw [hn] at ih
        by_cases hlast : y = lst up
        · simp only [nx, if_pos h88, hn, if_pos hlast]
          intro e e1 e2 e3 e4
          obtain ⟨w, a, rfl, ha⟩ := cases_e e e1
          simp only [ej, h88, beq_self_eq_true, Bool.true_or, Bool.true_and] at e3
          have hw9 := e2 w (by simp)
          by_cases hw : y = w
          · subst hw
            exact ih a ha (bj e2) e3 ((hsame y hl.symm ha).1 e4)
          · have := (beh hl.symm ha hdl (bj e2) hw).1 e4
            cases up <;> simp only [ci, lst, cond_true, cond_false] at this hlast <;> omega
        · simp only [nx, if_pos h88, hn, if_neg hlast]
          have hs : 48 ≤ stp up y ∧ stp up y < 58 ∧ y ≠ stp up y ∧ ci up y (stp up y) ∧ ∀ w, w ≠ y → ci up y w → ci up (stp up y) w := by
            cases up <;> simp only [ci, lst, stp, cond_true, cond_false] at hlast ⊢ <;> exact ⟨by omega, by omega, by omega, by omega, fun w h1 h2 => by omega⟩
          obtain ⟨s1, s2, s3, s4, s5⟩ := hs
          refine ⟨by simp [hfl], fun z hz => ?_, by simp [ej, h88, od], (beh hl.symm hfl hdl hfd s3).2 s4, fun e e1 e2 e3 e4 => ?_⟩
          · rcases List.mem_cons.1 hz with rfl | hz
            · exact ⟨s1, s2⟩
            · exact hfd z hz
          · obtain ⟨w, a, rfl, ha⟩ := cases_e e e1
            simp only [ej, h88, beq_self_eq_true, Bool.true_or, Bool.true_and] at e3
            by_cases hw : y = w
            · subst hw
              exact absurd ((hsame y hl.symm ha).1 e4) (ih a ha (bj e2) e3)
            · have h9 := s5 w (fun h => hw h.symm) ((beh hl.symm ha hdl (bj e2) hw).1 e4)
              by_cases hw2 : stp up y = w
              · rw [hw2]
                exact (hsame w hfl ha).2 (qb up (kK hm) ha.symm (bj e2) e3)
              · exact (beh hfl ha hfd (bj e2) hw2).2 h9
    · have hcr := uo (hm c (by simp)) h88
      have hag : ∀ w a, ej (c :: m) (w :: a) = true → w = ((c.toNat : Nat) : Int) ∧ ej m a = true := fun w a h => by
        simp only [ej, Bool.and_eq_true, Bool.or_eq_true, beq_iff_eq, decide_eq_true_eq] at h
        exact ⟨(h.1.resolve_left h88).symm, h.2⟩
      by_cases hcy : ((c.toNat : Nat) : Int) = y
      · cases hn : nx up m l with
        | some r =>
          rw [hn] at ih
          obtain ⟨i1, i2, i3, i4, i5⟩ := ih
          simp only [nx, if_neg h88, if_pos hcy, hn, Option.map_some]
          refine ⟨by simp [i1], fun z hz => ?_, by simp [ej, hcy, i3], (hsame y hl.symm i1).2 i4, fun e e1 e2 e3 e4 => ?_⟩
          · rcases List.mem_cons.1 hz with rfl | hz
            · exact hy
            · exact i2 z hz
          · obtain ⟨w, a, rfl, ha⟩ := cases_e e e1
            obtain ⟨rfl, e3'⟩ := hag w a e3
            rw [hcy] at e4 ⊢
            exact (hsame y i1 ha).2 (i5 a ha (bj e2) e3' ((hsame y hl.symm ha).1 e4))
        | none =>
          rw [hn] at ih
          simp only [nx, if_neg h88, if_pos hcy, hn, Option.map_none]
          intro e e1 e2 e3 e4
          obtain ⟨w, a, rfl, ha⟩ := cases_e e e1
          obtain ⟨rfl, e3'⟩ := hag w a e3
          rw [hcy] at e4
          exact ih a ha (bj e2) e3' ((hsame y hl.symm ha).1 e4)
      · have hdir : decide (((c.toNat : Nat) : Int) > y) = up ↔ ci up y ((c.toNat : Nat) : Int) := by
          cases up
          · simp only [decide_eq_false_iff_not, ci]; omega
          · simp only [decide_eq_true_eq, ci]; omega
        by_cases hup : decide (((c.toNat : Nat) : Int) > y) = up
        · simp only [nx, if_neg h88, if_neg hcy, if_pos hup]
          refine ⟨by simp [hfl], fun z hz => ?_, by simp [ej, od], (beh hl.symm hfl hdl hfd (fun h => hcy h.symm)).2 (hdir.1 hup), fun e e1 e2 e3 e4 => ?_⟩
          · rcases List.mem_cons.1 hz with rfl | hz
            · exact hcr
            · exact hfd z hz
          · obtain ⟨w, a, rfl, ha⟩ := cases_e e e1
            obtain ⟨rfl, e3'⟩ := hag w a e3
            exact (hsame _ hfl ha).2 (qb up (kK hm) ha.symm (bj e2) e3')
        · simp only [nx, if_neg h88, if_neg hcy, if_neg hup]
          intro e e1 e2 e3 e4
          obtain ⟨w, a, rfl, ha⟩ := cases_e e e1
          obtain ⟨rfl, e3'⟩ := hag w a e3
          exact hup (hdir.2 ((beh hl.symm ha hdl (bj e2) (fun h => hcy h.symm)).1 e4))
  | [], _ :: _, _, h, _ => by simp at h
  | _ :: _, [], _, h, _ => by simp at h
def ap : List UInt8 → List Int → Nat
  | c :: m, y :: l => if c = 88 ∨ ((c.toNat : Nat) : Int) = y then ap m l + 1 else 0
  | _, _ => 0
theorem CM : ∀ (m : List UInt8) (l : List Int), ap m l ≤ m.length
  | [], _ => by simp [ap]
  | c :: m, [] => by simp [ap]
  | c :: m, y :: l => by
    have := CM m l
    simp only [ap, List.length_cons]
    split <;> omega
theorem wB : ∀ (m : List UInt8) (l : List Int), ej (m.take (ap m l)) (l.take (ap m l)) = true
  | [], _ => by simp [ap, ej]
  | c :: m, [] => by simp [ap, ej]
  | c :: m, y :: l => by
    have := wB m l
    simp only [ap]
    split
    · rename_i h
      simp only [List.take_succ_cons, ej, this, Bool.and_true, Bool.or_eq_true, beq_iff_eq, decide_eq_true_eq]
      exact h
    · rfl
theorem wd : ∀ {m : List UInt8} {l : List Int} {c : UInt8} {y : Int}, m[ap m l]? = some c → l[ap m l]? = some y → ¬ c = 88 ∧ ¬ ((c.toNat : Nat) : Int) = y
  | [], _, c, y, h, _ => by simp at h
  | x :: m, [], c, y, _, h => by simp at h
  | x :: m, z :: l, c, y, h1, h2 => by
    by_cases h : x = 88 ∨ ((x.toNat : Nat) : Int) = z
    · simp only [ap, if_pos h, List.getElem?_cons_succ] at h1 h2
      exact wd h1 h2
    · simp only [ap, if_neg h, List.getElem?_cons_zero, Option.some.injEq] at h1 h2
      subst h1 h2
      exact ⟨fun e => h (.inl e), fun e => h (.inr e)⟩
def bkn (up : Bool) : List UInt8 → List Int → List UInt8 → Option (List Int)
  | c :: m, y :: d, m' =>
    match bkn up m d m' with
    | some r => some (y :: r)
    | none => if c = 88 ∧ y ≠ lst up then some (stp up y :: fil up (m ++ m')) else none
  | _, _, _ => none
theorem rG (up : Bool) : ∀ {m m' : List UInt8} {d d' : List Int}, m.length = d.length → ej m d = true →
    nx up (m ++ m') (d ++ d') = match nx up m' d' with | some r => some (d ++ r) | none => bkn up m d m'
  | [], m', [], d', _, _ => by
    simp only [List.nil_append]
    cases nx up m' d' <;> rfl
  | c :: m, m', y :: d, d', hl, ha => by
    simp only [List.length_cons, Nat.add_right_cancel_iff] at hl
    simp only [ej, Bool.and_eq_true, Bool.or_eq_true, beq_iff_eq, decide_eq_true_eq] at ha
    have ih := rG up (m' := m') (d' := d') hl ha.2
    simp only [List.cons_append, nx, ih, bkn]
    by_cases h88 : c = 88
    · simp only [if_pos h88]
      cases nx up m' d' with
      | some r => rfl
      | none =>
        cases bkn up m d m' with
        | some r => rfl
        | none =>
          by_cases hy : y = lst up
          · simp [hy]
          · simp [hy, h88]
    · simp only [if_neg h88, if_pos (ha.1.resolve_left h88)]
      cases nx up m' d' with
      | some r => rfl
      | none =>
        cases bkn up m d m' with
        | some r => rfl
        | none => simp [h88]
  | [], _, _ :: _, _, h, _ => by simp at h
  | _ :: _, _, [], _, h, _ => by simp at h
theorem uL (up : Bool) (c : UInt8) (y : Int) : ∀ {m m' : List UInt8} {d : List Int}, m.length = d.length →
    bkn up (m ++ [c]) (d ++ [y]) m' = if c = 88 ∧ y ≠ lst up then some (d ++ stp up y :: fil up m') else bkn up m d (c :: m')
  | [], m', [], _ => by simp [bkn]
  | x :: m, m', z :: d, hl => by
    simp only [List.length_cons, Nat.add_right_cancel_iff] at hl
    have ih := uL up c y (m' := m') hl
    simp only [List.cons_append, bkn, ih]
    by_cases h : c = 88 ∧ y ≠ lst up
    · simp only [if_pos h]
    · simp only [if_neg h, List.append_assoc, List.cons_append, List.nil_append]
  | [], _, _ :: _, h => by simp at h
  | _ :: _, _, [], h => by simp at h
def bki (up : Bool) (m : List UInt8) (l : List Int) : Nat → Option Nat
  | 0 => none
  | j + 1 => if m[j]? = some 88 ∧ l[j]? ≠ some (lst up) then some j else bki up m l j
theorem AO (up : Bool) (m : List UInt8) (l : List Int) : ∀ {j a : Nat}, bki up m l j = some a → a < j
  | 0, a, h => by simp [bki] at h
  | j + 1, a, h => by
    simp only [bki] at h
    split at h
    · simp only [Option.some.injEq] at h; omega
    · have := AO up m l h; omega
theorem uO (up : Bool) (m : List UInt8) (l : List Int) (hl : m.length = l.length) : ∀ j, j ≤ m.length →
    bkn up (m.take j) (l.take j) (m.drop j) = (bki up m l j).map fun a => l.take a ++ stp up (l.getD a 0) :: fil up (m.drop (a + 1))
  | 0, _ => by simp [bkn, bki]
  | j + 1, h => by
    obtain ⟨c, hc⟩ : ∃ c, m[j]? = some c := ⟨m[j]'(by omega), List.getElem?_eq_getElem (by omega)⟩
    obtain ⟨y, hy⟩ : ∃ c, l[j]? = some c := ⟨l[j]'(by omega), List.getElem?_eq_getElem (by omega)⟩
    have ih := uO up m l hl j (by omega)
    rw [ga hc] at ih
    rw [List.take_add_one, List.take_add_one, hc, hy]
    simp only [Option.toList_some]
    rw [uL up c y (by simp; omega), ih]
    have hg : l.getD j 0 = y := by rw [List.getD_eq_getElem?_getD, hy]; rfl
    simp only [bki, hc, hy, ne_eq, Option.some.injEq]
    by_cases hh : c = 88 ∧ ¬ y = lst up
    · rw [if_pos hh, if_pos hh, Option.map_some, hg]
    · rw [if_neg hh, if_neg hh]
section
variable {m : List UInt8} {l z : List Int}
theorem gE (hl : m.length = l.length) (h18 : m.length ≤ 18) (k f g : Int) (up : Bool) :
    ae (cv 20000000) 20000000 (m, k, up, f, g, 0, over z 0 l, over z 0 l) = some (m, k, up, f, g, ((ap m l : Nat) : Int), over z 0 l, over z 0 l) := by
  have := dH (step := cv 20000000) (fun x => x.1 = m ∧ (0 ≤ x.2.2.2.2.2.1 ∧ x.2.2.2.2.2.1 ≤ m.length) ∧ x.2.2.2.2.2.2.1 = over z 0 l) (fun x => m.length - x.2.2.2.2.2.1.toNat)
    (fun x => (x.1, x.2.1, x.2.2.1, x.2.2.2.1, x.2.2.2.2.1, x.2.2.2.2.2.1 + ((ap (m.drop x.2.2.2.2.2.1.toNat) (l.drop x.2.2.2.2.2.1.toNat) : Nat) : Int), x.2.2.2.2.2.2.1, x.2.2.2.2.2.2.2)) ?_ 20000000 (m, k, up, f, g, 0, over z 0 l, over z 0 l) ⟨rfl, ⟨by simp, by simp⟩, rfl⟩ (by simp; omega)
  · simpa using this
  rintro ⟨m', k, up, f, g, i, d, o⟩ ⟨q1, ⟨h0, hi⟩, q2⟩
  simp only at q1 h0 hi q2 ⊢
  subst q1 q2
  obtain ⟨j, rfl⟩ : ∃ j : Nat, i = j := ⟨i.toNat, by omega⟩
  simp only [Int.toNat_natCast]
  rcases Nat.lt_or_ge j m'.length with hlt | hge
  · obtain ⟨c, hc⟩ : ∃ c, m'[j]? = some c := ⟨m'[j], List.getElem?_eq_getElem hlt⟩
    obtain ⟨y, hy⟩ : ∃ c, l[j]? = some c := ⟨l[j]'(by omega), List.getElem?_eq_getElem (by omega)⟩
    have hg : (over z 0 l)[j]? = some y := by rw [nl (by omega)]; exact hy
    have hb : (decide ((j : Int) < ((List.length m' : Nat) : Int))) = true := by simp; omega
    have hw : IntKind.wrap .i64 ((j : Int) + 1) = ((j + 1 : Nat) : Int) := by rw [wrap_i64 _ (by omega) (by omega)]; omega
    rw [ga hc, ga hy]
    simp only [cv, hb, cond_true, gT hc, ob, qI, hw, dl (show j < 18 by omega), hg, ap]
    by_cases h88 : c = 88
    · refine .inl ⟨(m', k, up, f, g, ((j + 1 : Nat) : Int), over z 0 l, o), by simp only [decide_eq_true h88, cond_true], ⟨rfl, ⟨by simp only; omega, by simp only; omega⟩, rfl⟩, by simp only [Int.toNat_natCast]; omega, ?_⟩
      simp only [Int.toNat_natCast, if_pos (show c = 88 ∨ ((c.toNat : Nat) : Int) = y from .inl h88)]
      congr 6; omega
    · simp only [decide_eq_false h88, cond_false]
      by_cases hcy : ((c.toNat : Nat) : Int) = y
      · have e : (((c.toNat : Nat) : Int) == y) = true := by simpa using hcy
        refine .inl ⟨(m', k, up, f, g, ((j + 1 : Nat) : Int), over z 0 l, o), by simp only [e, cond_true], ⟨rfl, ⟨by simp only; omega, by simp only; omega⟩, rfl⟩, by simp only [Int.toNat_natCast]; omega, ?_⟩
        simp only [Int.toNat_natCast, if_pos (show c = 88 ∨ ((c.toNat : Nat) : Int) = y from .inr hcy)]
        congr 6; omega
      · have e : (((c.toNat : Nat) : Int) == y) = false := by simpa using hcy
        refine .inr ?_
        simp only [e, cond_false, if_neg (show ¬ (c = 88 ∨ ((c.toNat : Nat) : Int) = y) from fun h => h.elim h88 hcy), Int.ofNat_zero, Int.add_zero, Int.natCast_zero]
  · have hb : (decide ((j : Int) < ((List.length m' : Nat) : Int))) = false := by simp; omega
    refine .inr ?_
    simp only [cv, hb, cond_false]
    rw [List.drop_eq_nil_of_le hge]
    simp [ap]
theorem xX (hl : m.length = l.length) (h18 : m.length ≤ 18) (f : Int) (up : Bool) (o : List Int) (i : Nat) (hi : i ≤ m.length) :
    ae (aU 20000000) 20000000 (m, up, f, lst up, (i : Int), over z 0 l, o) =
      some (match bki up m l i with | none => .inl (0, 16) | some a => .inr (m, up, f, ((a : Nat) : Int), o)) := by
  have := dH (step := aU 20000000) (fun x => x.1 = m ∧ x.2.2.2.1 = lst up ∧ (0 ≤ x.2.2.2.2.1 ∧ x.2.2.2.2.1 ≤ m.length) ∧ x.2.2.2.2.2.1 = over z 0 l) (fun x => x.2.2.2.2.1.toNat)
    (fun x => match bki up m l x.2.2.2.2.1.toNat with | none => .inl (0, 16) | some a => .inr (x.1, x.2.1, x.2.2.1, ((a : Nat) : Int), x.2.2.2.2.2.2)) ?_ 20000000 (m, up, f, lst up, (i : Int), over z 0 l, o) ⟨rfl, rfl, ⟨by simp only; omega, by simp only; omega⟩, rfl⟩ (by simp; omega)
  · simpa using this
  rintro ⟨m', up', f, g, i, d, o⟩ ⟨q1, q3, ⟨h0, hi⟩, q2⟩
  simp only at q1 q3 h0 hi q2 ⊢
  subst q1 q2 q3
  obtain ⟨j, rfl⟩ : ∃ j : Nat, i = j := ⟨i.toNat, by omega⟩
  simp only [Int.toNat_natCast]
  rcases j with _ | j
  · refine .inr ?_
    have w : IntKind.wrap .i64 (((0 : Nat) : Int) - 1) = -1 := wrap_i64 _ (by omega) (by omega)
    simp only [aU, w, show decide ((-1 : Int) < 0) = true from rfl, cond_true, bki]
  · have w : IntKind.wrap .i64 (((j + 1 : Nat) : Int) - 1) = (j : Int) := by rw [wrap_i64 _ (by omega) (by omega)]; omega
    have e0 : decide ((j : Int) < 0) = false := by simp
    obtain ⟨c, hc⟩ : ∃ c, m'[j]? = some c := ⟨m'[j]'(by omega), List.getElem?_eq_getElem (by omega)⟩
    obtain ⟨y, hy⟩ : ∃ c, l[j]? = some c := ⟨l[j]'(by omega), List.getElem?_eq_getElem (by omega)⟩
    have hg : (over z 0 l)[j]? = some y := by rw [nl (by omega)]; exact hy
    simp only [aU, w, e0, cond_false, gT hc, ob, qI, dl (show j < 18 by omega), hg, bki, hc, hy, Option.some.injEq, ne_eq]
    by_cases h88 : c = 88
    · by_cases hy9 : y = lst up
      · have e : (y != lst up) = false := by simpa using hy9
        refine .inl ⟨(m', up', f, lst up, (j : Int), over z 0 l, o), by simp only [decide_eq_true h88, cond_true, e, cond_false], ⟨rfl, rfl, ⟨by simp only; omega, by simp only; omega⟩, rfl⟩, by simp only [Int.toNat_natCast]; omega, ?_⟩
        simp only [Int.toNat_natCast, if_neg (show ¬ (c = 88 ∧ ¬ y = lst up) from fun h => h.2 hy9)]
      · have e : (y != lst up) = true := by simpa using hy9
        refine .inr ?_
        simp only [decide_eq_true h88, cond_true, e, if_pos (show c = 88 ∧ ¬ y = lst up from ⟨h88, hy9⟩)]
    · refine .inl ⟨(m', up', f, lst up, (j : Int), over z 0 l, o), by simp only [decide_eq_false h88, cond_false], ⟨rfl, rfl, ⟨by simp only; omega, by simp only; omega⟩, rfl⟩, by simp only [Int.toNat_natCast]; omega, ?_⟩
      simp only [Int.toNat_natCast, if_neg (show ¬ (c = 88 ∧ ¬ y = lst up) from fun h => h88 h.1)]
theorem rA (h18 : m.length ≤ 18) (up : Bool) (d : List Int) (hd : d.length = 18) (i : Nat) (hi : i ≤ m.length) :
    ae (aB 20000000) 20000000 (m, fst up, (i : Int), d) = some (m, over d i (fil up (m.drop i))) := by
  have := dH (step := aB 20000000) (fun x => x.1 = m ∧ x.2.1 = fst up ∧ (0 ≤ x.2.2.1 ∧ x.2.2.1 ≤ m.length) ∧ x.2.2.2.length = 18) (fun x => m.length - x.2.2.1.toNat)
    (fun x => (m, over x.2.2.2 x.2.2.1.toNat (fil up (m.drop x.2.2.1.toNat)))) ?_ 20000000 (m, fst up, (i : Int), d) ⟨rfl, rfl, ⟨by simp only; omega, by simp only; omega⟩, hd⟩ (by simp; omega)
  · simpa using this
  rintro ⟨m', f, i, d⟩ ⟨q1, q3, ⟨h0, hi⟩, hd⟩
  simp only at q1 q3 h0 hi hd ⊢
  subst q1 q3
  obtain ⟨j, rfl⟩ : ∃ j : Nat, i = j := ⟨i.toNat, by omega⟩
  simp only [Int.toNat_natCast]
  rcases Nat.lt_or_ge j m'.length with hlt | hge
  · obtain ⟨c, hc⟩ : ∃ c, m'[j]? = some c := ⟨m'[j], List.getElem?_eq_getElem hlt⟩
    have hj : j < 18 := by omega
    have hb : (decide ((j : Int) < ((List.length m' : Nat) : Int))) = true := by simp; omega
    have hw : IntKind.wrap .i64 ((j : Int) + 1) = ((j + 1 : Nat) : Int) := by rw [wrap_i64 _ (by omega) (by omega)]; omega
    have e2 : Nat.blt j 18 = true := Nat.ble_eq_true_of_le hj
    have hcons : ∀ c : UInt8, fil up (c :: m'.drop (j + 1)) = (cond (decide (c = 88)) (fst up) ((c.toNat : Nat) : Int)) :: fil up (m'.drop (j + 1)) := fun _ => rfl
    rw [ga hc, hcons]
    simp only [aB, hb, cond_true, gT hc, ob, qI, dl hj, e2, hw]
    by_cases h88 : c = 88
    · refine .inl ⟨(m', fst up, ((j + 1 : Nat) : Int), (d.set j ((c.toNat : Nat) : Int)).set j (fst up)), by simp only [decide_eq_true h88, cond_true], ⟨rfl, rfl, ⟨by simp only; omega, by simp only; omega⟩, by simpa using hd⟩, by simp only [Int.toNat_natCast]; omega, ?_⟩
      simp only [Int.toNat_natCast, decide_eq_true h88, cond_true]
      rw [List.set_set, qa _ _ _ _ (by omega)]
    · refine .inl ⟨(m', fst up, ((j + 1 : Nat) : Int), d.set j ((c.toNat : Nat) : Int)), by simp only [decide_eq_false h88, cond_false], ⟨rfl, rfl, ⟨by simp only; omega, by simp only; omega⟩, by simpa using hd⟩, by simp only [Int.toNat_natCast]; omega, ?_⟩
      simp only [Int.toNat_natCast, decide_eq_false h88, cond_false]
      rw [qa _ _ _ _ (by omega)]
  · have hb : (decide ((j : Int) < ((List.length m' : Nat) : Int))) = false := by simp; omega
    refine .inr ?_
    simp only [aB, hb, cond_false]
    rw [List.drop_eq_nil_of_le hge]
    simp [fil, tU]
theorem rI (z l F : List Int) (i : Nat) (h : i + F.length = l.length) : over (over z 0 l) i F = over z 0 (l.take i ++ F) := by
  unfold over
  simp only [List.take_zero, List.nil_append, Nat.zero_add, List.length_append, List.length_take, Nat.min_eq_left (show i ≤ l.length by omega), h]
  rw [List.take_append_of_le_length (by omega), List.drop_append_of_le_length (by omega), List.drop_of_length_le (Nat.le_refl l.length)]
  simp
end
theorem vU {m : List UInt8} (hm : chk m = 0) (up : Bool) (k : Int) (h0 : 0 ≤ k) (h1 : k < 10 ^ m.length) :
    bp 20000000 m k up = some (match nx up m (dg m.length k) with | some r => (vl r, 0) | none => (0, 16)) := by
  obtain ⟨h18, _, hok⟩ := ir hm
  have hp := rO m.length h18
  have hlen := ox m.length k
  have hrng := ma m.length k
  have hv := Ah m.length k h0 h1
  have hn := BQ up hok hlen.symm hrng
  have hsplit := zQ m k h18 h0 (by omega)
  generalize dg m.length k = l at hlen hrng hv hn hsplit ⊢
  have hout : (over [0, 0, 0, 0, 0, 0, 0, 0, 0, 0, 0, 0, 0, 0, 0, 0, 0, 0] 0 l).length = 18 := by rw [Ab _ _ _ (by simp; omega)]; rfl
  -- after the loops
  have fin : ∀ r : List Int, nx up m l = some r → cX 20000000 m (over [0, 0, 0, 0, 0, 0, 0, 0, 0, 0, 0, 0, 0, 0, 0, 0, 0, 0] 0 r) = some (vl r) := by
    intro r hr
    rw [hr] at hn
    obtain ⟨i1, i2, _⟩ := hn
    rw [zL _ h18 i1 i2, qh i2]
  have hap := CM m l
  have hagr := wB m l
  have happ := rG up (m := m.take (ap m l)) (m' := m.drop (ap m l)) (d := l.take (ap m l)) (d' := l.drop (ap m l)) (by simp; omega) hagr
  rw [List.take_append_drop, List.take_append_drop] at happ
  have hz0 : fQ 20000000 m k = some (over [0, 0, 0, 0, 0, 0, 0, 0, 0, 0, 0, 0, 0, 0, 0, 0, 0, 0] 0 l) := hsplit
  generalize hzz : ([0, 0, 0, 0, 0, 0, 0, 0, 0, 0, 0, 0, 0, 0, 0, 0, 0, 0] : List Int) = z at hout fin hz0
  rcases Nat.lt_or_ge (ap m l) m.length with hlt | hge
  · obtain ⟨c, hc⟩ : ∃ c, m[ap m l]? = some c := ⟨m[ap m l], List.getElem?_eq_getElem hlt⟩
    obtain ⟨y, hy⟩ : ∃ c, l[ap m l]? = some c := ⟨l[ap m l]'(by omega), List.getElem?_eq_getElem (by omega)⟩
    obtain ⟨h88, hcy⟩ := wd hc hy
    have hg : (over z 0 l)[ap m l]? = some y := by rw [nl (by omega)]; exact hy
    have eL : (((ap m l : Nat) : Int) == ((List.length m : Nat) : Int)) = false := by simp; omega
    have hj : ap m l < 18 := by omega
    have hfc : fil up (m.drop (ap m l)) = ((c.toNat : Nat) : Int) :: fil up (m.drop (ap m l + 1)) := by
      rw [ga hc]; simp [fil, h88]
    have hbk := uO up m l hlen.symm (ap m l) hap
    have hnx : nx up (m.drop (ap m l)) (l.drop (ap m l)) = if decide (((c.toNat : Nat) : Int) > y) = up then some (fil up (m.drop (ap m l))) else none := by
      rw [hfc, ga hc, ga hy]
      simp only [nx, if_neg h88, if_neg hcy]
    rw [hnx] at happ
    by_cases hup : decide (((c.toNat : Nat) : Int) > y) = up
    · rw [if_pos hup] at happ
      simp only at happ
      have f2 := fin _ happ
      rw [happ]
      simp only []
      rw [← rI z l _ _ (by rw [ql, List.length_drop]; omega)] at f2
      have l2 := rA h18 up _ hout (ap m l) hap
      cases up
      · have l0 := gE (z := z) hlen.symm h18 k 57 48 false
        have l2' : ae (aB 20000000) 20000000 (m, 57, ((ap m l : Nat) : Int), over z 0 l) = _ := l2
        simp only [bp, Bool.not_false, cond_true, hz0, ob, l0, eL, cond_false, gT hc, dl hj, hg, hup, beq_self_eq_true, Bool.not_true, l2', f2]
      · have l0 := gE (z := z) hlen.symm h18 k 48 57 true
        have l2' : ae (aB 20000000) 20000000 (m, 48, ((ap m l : Nat) : Int), over z 0 l) = _ := l2
        simp only [bp, Bool.not_true, cond_true, hz0, ob, l0, eL, cond_false, gT hc, dl hj, hg, hup, beq_self_eq_true, l2', f2]
    · rw [if_neg hup] at happ
      simp only [hbk] at happ
      have hne : (!(decide (((c.toNat : Nat) : Int) > y) == up)) = true := by
        cases up <;> cases hh : decide (((c.toNat : Nat) : Int) > y) <;> simp_all
      have l1 := xX (z := z) hlen.symm h18 (fst up) up (over z 0 l) (ap m l) hap
      cases hb : bki up m l (ap m l) with
      | none =>
        rw [hb] at happ l1
        simp only [Option.map_none] at happ
        rw [happ]
        simp only [] at l1 ⊢
        cases up
        · have l0 := gE (z := z) hlen.symm h18 k 57 48 false
          have l1' : ae (aU 20000000) 20000000 (m, false, 57, 48, ((ap m l : Nat) : Int), over z 0 l, over z 0 l) = _ := l1
          simp only [bp, Bool.not_false, cond_true, hz0, ob, l0, eL, cond_false, gT hc, dl hj, hg, hne, l1']
        · have l0 := gE (z := z) hlen.symm h18 k 48 57 true
          have l1' : ae (aU 20000000) 20000000 (m, true, 48, 57, ((ap m l : Nat) : Int), over z 0 l, over z 0 l) = _ := l1
          simp only [bp, Bool.not_true, cond_true, hz0, ob, l0, eL, cond_false, gT hc, dl hj, hg, hne, l1']
      | some a =>
        have ha := AO up m l hb
        obtain ⟨w, hw⟩ : ∃ c, l[a]? = some c := ⟨l[a]'(by omega), List.getElem?_eq_getElem (by omega)⟩
        have hga : (over z 0 l)[a]? = some w := by rw [nl (by omega)]; exact hw
        have hgd : l.getD a 0 = w := by rw [List.getD_eq_getElem?_getD, hw]; rfl
        have hwr := hrng w (List.mem_of_getElem? hw)
        have haj : a < 18 := by omega
        have e2 : Nat.blt a 18 = true := Nat.ble_eq_true_of_le haj
        have w1 : IntKind.wrap .i64 ((a : Int) + 1) = ((a + 1 : Nat) : Int) := by rw [wrap_i64 _ (by omega) (by omega)]; omega
        rw [hb] at happ l1
        simp only [Option.map_some, hgd] at happ
        have f2 := fin _ happ
        rw [happ]
        simp only [] at l1 ⊢
        rw [← rI z l _ _ (by rw [List.length_cons, ql, List.length_drop]; omega), ← qa _ _ _ _ (by omega)] at f2
        have l2 := rA h18 up ((over z 0 l).set a (stp up w)) (by simpa using hout) (a + 1) (by omega)
        cases up
        · have l0 := gE (z := z) hlen.symm h18 k 57 48 false
          have l1' : ae (aU 20000000) 20000000 (m, false, 57, 48, ((ap m l : Nat) : Int), over z 0 l, over z 0 l) = some (.inr (m, false, 57, ((a : Nat) : Int), over z 0 l)) := l1
          have l2' : ae (aB 20000000) 20000000 (m, 57, ((a + 1 : Nat) : Int), (over z 0 l).set a (w - 1)) = _ := l2
          have w2 : IntKind.wrap .u8 (w - 1) = w - 1 := fY _ (by omega) (by omega)
          simp only [bp, Bool.not_false, cond_true, hz0, ob, l0, eL, cond_false, gT hc, dl hj, hg, hne, l1', dl haj, hga, e2, w1, w2, l2', f2]
        · have l0 := gE (z := z) hlen.symm h18 k 48 57 true
          have l1' : ae (aU 20000000) 20000000 (m, true, 48, 57, ((ap m l : Nat) : Int), over z 0 l, over z 0 l) = some (.inr (m, true, 48, ((a : Nat) : Int), over z 0 l)) := l1
          have l2' : ae (aB 20000000) 20000000 (m, 48, ((a + 1 : Nat) : Int), (over z 0 l).set a (w + 1)) = _ := l2
          have w2 : IntKind.wrap .u8 (w + 1) = w + 1 := fY _ (by omega) (by omega)
          simp only [bp, Bool.not_true, cond_true, hz0, ob, l0, eL, cond_false, gT hc, dl hj, hg, hne, l1', dl haj, hga, e2, w1, w2, l2', f2]
  · have e : ap m l = m.length := by omega
    rw [e, List.drop_length, ← hlen, List.drop_length, List.take_length] at happ
    simp only [nx, List.append_nil] at happ
    have eL : (((ap m l : Nat) : Int) == ((List.length m : Nat) : Int)) = true := by rw [e]; simp
    rw [happ]
    simp only [hv]
    cases up
    · have l0 := gE (z := z) hlen.symm h18 k 57 48 false
      simp only [bp, Bool.not_false, cond_true, hz0, ob, l0, eL]
    · have l0 := gE (z := z) hlen.symm h18 k 48 57 true
      simp only [bp, Bool.not_true, cond_false, hz0, ob, l0, eL, cond_true]
def near (up : Bool) (m : List UInt8) (k : Int) : Option Int → Prop
  | some R => hasM m R = true ∧ ci up k R ∧ ∀ e, hasM m e = true → ci up k e → ci up R e
  | none => ∀ e, hasM m e = true → ¬ ci up k e
def res (o : Option Int) : Int × Int := match o with | some r => (r, 0) | none => (0, 16)
theorem iW {m : List UInt8} {e : Int} (h : hasM m e = true) : (dg m.length e).length = m.length ∧ digl (dg m.length e) ∧ ej m (dg m.length e) = true ∧ vl (dg m.length e) = e ∧ 0 ≤ e ∧ e < 10 ^ m.length := by
  unfold hasM at h
  simp only [Bool.and_eq_true, decide_eq_true_eq] at h
  exact ⟨ox _ _, ma _ _, h.2.2, Ah _ _ h.1 h.2.1, h.1, h.2.1⟩
theorem AU {m : List UInt8} {r : List Int} (h1 : r.length = m.length) (h2 : digl r) (h3 : ej m r = true) : hasM m (vl r) = true := by
  have hr := nk h2
  have hd := Er h2
  rw [h1] at hr hd
  unfold hasM
  rw [hd, h3, decide_eq_true hr.1, decide_eq_true hr.2]; rfl
theorem nF {m : List UInt8} (hm : chk m = 0) (up : Bool) (k : Int) (h0 : 0 ≤ k) (h1 : k < 10 ^ m.length) : ∃ o, bp 20000000 m k up = some (res o) ∧ near up m k o := by
  obtain ⟨h18, _, hok⟩ := ir hm
  have hn := BQ up hok (ox m.length k).symm (ma m.length k)
  have hv := Ah m.length k h0 h1
  refine ⟨(nx up m (dg m.length k)).map vl, ?_, ?_⟩
  · rw [vU hm up k h0 h1]
    cases nx up m (dg m.length k) <;> rfl
  · cases hx : nx up m (dg m.length k) with
    | none =>
      rw [hx] at hn
      intro e he ha
      obtain ⟨e1, e2, e3, e4, _⟩ := iW he
      exact hn _ e1 e2 e3 (by rw [hv, e4]; exact ha)
    | some r =>
      rw [hx] at hn
      obtain ⟨i1, i2, i3, i4, i5⟩ := hn
      refine ⟨AU i1 i2 i3, by rw [hv] at i4; exact i4, fun e he ha => ?_⟩
      obtain ⟨e1, e2, e3, e4, _⟩ := iW he
      have := i5 _ e1 e2 e3 (by rw [hv, e4]; exact ha)
      rwa [e4] at this
theorem ud {m : List UInt8} {e : Int} (h : hasM m e = true) : 0 ≤ idx m.reverse e ∧ idx m.reverse e < 10 ^ cnt m ∧ nth m.reverse (idx m.reverse e) = e := by
  rw [sO] at h
  simp only [Bool.and_eq_true, decide_eq_true_eq] at h
  obtain ⟨k0, k1, k2⟩ := h
  have := oc m.reverse e k0
  rw [lq] at this
  exact ⟨this.1, this.2, xW k0 (by rw [List.length_reverse]; exact k1) k2⟩
section
variable {m : List UInt8} (hm : chk m = 0)
include hm
theorem wM {i j : Int} (h0 : 0 ≤ i) (h1 : i ≤ j) (h2 : j < 10 ^ cnt m) : nth m.reverse i ≤ nth m.reverse j := by
  obtain ⟨h18, _, hok⟩ := ir hm
  rcases Int.lt_or_eq_of_le h1 with h | rfl
  · exact Int.le_of_lt (qQ (pj hok) i j h0 h (by rw [lq]; exact h2))
  · exact Int.le_refl _
theorem rS (k : Int) : gv 20000000 m k = some (decide (0 ≤ k ∧ k < 10 ^ m.length)) := by
  obtain ⟨h18, _, hok⟩ := ir hm
  simp only [gv, y3 m.length h18, ob]
  by_cases h0 : 0 ≤ k
  · have d0 : decide (k ≥ 0) = true := by simpa using h0
    simp only [d0, cond_true, h0, true_and, decide_true]
  · have d0 : decide (k ≥ 0) = false := by simpa using h0
    simp only [d0, cond_false, h0, false_and, decide_false]
theorem wU (k : Int) : ∃ o, kF 20000000 m k = some (res o) ∧ near true m k o := by
  obtain ⟨h18, _, hok⟩ := ir hm
  have e0 : ((0 : Int) != 0) = false := by simp
  simp only [kF, f7 20000000 m (by omega), hm, gK, e0, cond_false, rS hm]
  by_cases h0 : k < 0
  · refine ⟨some (nth m.reverse 0), by simp only [decide_eq_true h0, cond_true, zS hm, gK, res], ur hm (by omega), ?_, fun e he ha => ?_⟩
    · have := (ko (pj hok) 0 (by omega)).1
      simp only [ci]; omega
    · obtain ⟨i0, i1, i2⟩ := ud he
      have := wM hm (Int.le_refl 0) i0 i1
      simp only [ci]; omega
  · by_cases h1 : k < 10 ^ m.length
    · obtain ⟨o, h2, h3⟩ := nF hm true k (by omega) h1
      exact ⟨o, by simp only [decide_eq_false h0, cond_false, decide_eq_true (show 0 ≤ k ∧ k < 10 ^ m.length from ⟨by omega, h1⟩), Bool.not_true, h2, gK], h3⟩
    · refine ⟨none, by simp only [decide_eq_false h0, cond_false, decide_eq_false (show ¬ (0 ≤ k ∧ k < 10 ^ m.length) from fun h => h1 h.2), Bool.not_false, cond_true, res], fun e he ha => ?_⟩
      obtain ⟨_, _, _, _, _, i⟩ := iW he
      simp only [ci] at ha; omega
theorem xH (k : Int) : ∃ o, kJ 20000000 m k = some (res o) ∧ near false m k o := by
  obtain ⟨h18, _, hok⟩ := ir hm
  have e0 : ((0 : Int) != 0) = false := by simp
  simp only [kJ, f7 20000000 m (by omega), hm, gK, e0, cond_false, rS hm]
  by_cases h0 : k < 0
  · refine ⟨none, by simp only [decide_eq_true h0, cond_true, res], fun e he ha => ?_⟩
    obtain ⟨_, _, _, _, i, _⟩ := iW he
    simp only [ci] at ha; omega
  · by_cases h1 : k < 10 ^ m.length
    · obtain ⟨o, h2, h3⟩ := nF hm false k (by omega) h1
      exact ⟨o, by simp only [decide_eq_false h0, cond_false, decide_eq_true (show 0 ≤ k ∧ k < 10 ^ m.length from ⟨by omega, h1⟩), Bool.not_true, h2, gK], h3⟩
    · have hp0 := mh (cnt m)
      refine ⟨some (nth m.reverse (10 ^ cnt m - 1)), by simp only [decide_eq_false h0, cond_false, decide_eq_false (show ¬ (0 ≤ k ∧ k < 10 ^ m.length) from fun h => h1 h.2), Bool.not_false, cond_true, tt hm, gK, res], ur hm (by omega), ?_, fun e he ha => ?_⟩
      · have := (ko (pj hok) (10 ^ cnt m - 1) (by omega)).2
        rw [List.length_reverse] at this
        simp only [ci]; omega
      · obtain ⟨i0, i1, i2⟩ := ud he
        have := wM hm i0 (show idx m.reverse e ≤ 10 ^ cnt m - 1 by omega) (by omega)
        simp only [ci]; omega
end
end Go.Sh.Mk
namespace Go.Sh
open Go.Abs
def fitN (s : List UInt8) (g : Nat) : List Nat := (List.range' 1 g).filter (agr s)
def me (l : List Nat) : List Int := l.map fun k : Nat => (k : Int)
theorem sH (l : List Nat) : (me l).length = l.length := by simp [me]
theorem sI (c : UInt8) {j : Nat} (hj : j < 10) : (IntKind.wrap .i64 (IntKind.wrap .u8 (((c.toNat : Nat) : Int) - 48)) == ((j : Nat) : Int)) = (c == UInt8.ofNat (48 + j)) := by
  have hc := c.toNat_lt
  have hu := qw (((c.toNat : Nat) : Int) - 48)
  rw [wrap_i64 _ (by omega) (by omega), vn, Bool.eq_iff_iff, beq_iff_eq, beq_iff_eq]
  have hn : (UInt8.ofNat (48 + j)).toNat = 48 + j := by simp; omega
  constructor
  · intro h
    apply UInt8.toNat_inj.1
    omega
  · rintro rfl
    omega
theorem wO (n : Nat) (a b : UInt8) {k : Nat} (h2 : k ≤ 31) : fB n [a, b] (k : Int) = some (agr [a, b] k) := by
  have e1 : IntKind.wrap .i64 (Int.tdiv (k : Int) 10) = ((k / 10 : Nat) : Int) := by
    rw [show Int.tdiv (k : Int) 10 = ((k / 10 : Nat) : Int) from rfl, wrap_i64 _ (by omega) (by omega)]
  have e2 : Int.tmod (k : Int) 10 = ((k % 10 : Nat) : Int) := rfl
  have s0 : sx [a, b] 0 = some a := rfl
  have s1 : sx [a, b] 1 = some b := rfl
  have x88 : (88 : Int) = ((88 : Nat) : Int) := rfl
  unfold fB
  simp only [s0, s1, ob, e1, e2]
  rw [sI a (show k / 10 < 10 by omega), sI b (show k % 10 < 10 by omega), x88, mT (by omega), mT (by omega)]
  show _ = some ((a == UInt8.ofNat 88 || a == UInt8.ofNat (48 + k / 10)) && (b == UInt8.ofNat 88 || b == UInt8.ofNat (48 + k % 10)))
  generalize (a == UInt8.ofNat 88) = p1
  generalize (b == UInt8.ofNat 88) = p2
  generalize (a == UInt8.ofNat (48 + k / 10)) = p3
  generalize (b == UInt8.ofNat (48 + k % 10)) = p4
  cases p1 <;> cases p2 <;> cases p3 <;> cases p4 <;> rfl
theorem room {k : Nat} (h : k ≤ 60000000) : Nat.ble (k + 1) ge = true := Nat.ble_eq_true_of_le (by unfold ge; omega)
theorem uT {X Y : Type} {step : X → Option (X ⊕ Y)} {f : Nat → List Int → X} {y : List Int → Y} {p : Nat → Bool} {g : Nat} (hg : g ≤ 1000)
    (h : ∀ i out, i < g → out.length ≤ 1000 → step (f i out) = some (.inl (f (i + 1) (if p (i + 1) then out ++ [((i + 1 : Nat) : Int)] else out))))
    (he : ∀ out, step (f g out) = some (.inr (y out))) {N : Nat} (hN : g < N) : ae step N (f 0 []) = some (y (me ((List.range' 1 g).filter p))) := by
  have go : ∀ (r i : Nat) (out : List Int), i + r = g → out.length ≤ i → ∀ N, r < N → ae step N (f i out) = some (y (out ++ me ((List.range' (i + 1) r).filter p))) := by
    intro r
    induction r with
    | zero =>
      intro i out hi ho N hN
      obtain ⟨N, rfl⟩ : ∃ q, N = q + 1 := ⟨N - 1, by omega⟩
      obtain rfl : i = g := by omega
      rw [ae, he]
      simp [me]
    | succ r ih =>
      intro i out hi ho N hN
      obtain ⟨N, rfl⟩ : ∃ q, N = q + 1 := ⟨N - 1, by omega⟩
      rw [ae, h i out (by omega) (by omega)]
      show ae step N _ = _
      by_cases hp : p (i + 1) = true
      · rw [if_pos hp, ih (i + 1) _ (by omega) (by simp; omega) N (by omega), List.range'_succ, List.filter_cons_of_pos hp]
        simp [me]
      · rw [if_neg hp, ih (i + 1) _ (by omega) (by omega) N (by omega), List.range'_succ, List.filter_cons_of_neg hp]
  have := go g 0 [] (by omega) (by simp) N hN
  simpa using this
theorem xA (n : Nat) (hn : 100 < n) (a b : UInt8) {g : Nat} (hg : g ≤ 31) : cn n [a, b] (g : Int) = some (me (fitN [a, b] g)) := by
  unfold cn
  have := uT (step := cG n) (f := fun i out => ([a, b], (g : Int), (i : Int), out)) (y := fun l => l) (p := agr [a, b]) (g := g) (by omega)
    (fun i out hi ho => by
      have w1 : IntKind.wrap .i64 ((i : Int) + 1) = ((i + 1 : Nat) : Int) := by rw [wrap_i64 _ (by omega) (by omega)]; omega
      unfold cG
      simp only [w1]
      rw [decide_eq_true (show (i : Int) < (g : Int) by omega), wO n a b (by omega), room (by omega)]
      by_cases hp : agr [a, b] (i + 1) = true
      · rw [if_pos hp]; simp only [ob, hp, cond_true]
      · rw [if_neg hp]
        rw [Bool.not_eq_true] at hp
        simp only [ob, hp, cond_true, cond_false])
    (fun out => by
      unfold cG
      simp only [decide_eq_false (show ¬ (g : Int) < (g : Int) by omega), cond_false])
    (N := n) (by omega)
  have h0 : ae (cG n) n ([a, b], (g : Int), 0, ([] : List Int)) = _ := this
  rw [h0]
  rfl
def monI (m : List UInt8) : List Int := if m = [] then [0] else if 0 < sea m then [sea m] else me (fitN m 12)
def dayI (d : List UInt8) : List Int := if d = [] then [0] else me (fitN d 31)
theorem cH {l : List UInt8} (h : l ≠ []) : (l == ([] : List UInt8)) = false := beq_eq_false_iff_ne.2 h
theorem len2 {s : List UInt8} (h : s.length = 2) : ∃ a b, s = [a, b] := by
  match s, h with
  | [a, b], _ => exact ⟨a, b, rfl⟩
abbrev TF := Bool × Bool × List UInt8 × Int × Int × List UInt8 × List UInt8 × Int × Int × Int × List Int × List Int
theorem Eu (n : Nat) (hn : 100 < n) (g l : Bool) (dg : List UInt8) (x q : Int) (m d : List UInt8) (k0 k1 k2 : Int) (hm : m = [] ∨ m.length = 2) (hd : d = [] ∨ d.length = 2) :
    ∃ s : TF ⊕ TF ⊕ TF ⊕ TF, jK n g l dg x q m d k0 k1 k2 = some s ∧ (s = .inl (g, l, dg, x, q, m, d, k0, k1, k2, monI m, dayI d) ∨ s = .inr (.inl (g, l, dg, x, q, m, d, k0, k1, k2, monI m, dayI d)) ∨ s = .inr (.inr (.inl (g, l, dg, x, q, m, d, k0, k1, k2, monI m, dayI d))) ∨ s = .inr (.inr (.inr (g, l, dg, x, q, m, d, k0, k1, k2, monI m, dayI d)))) := by
  have hml : m.length ≤ 18 := by rcases hm with h | h; (rw [h]; simp); omega
  have hD : d ≠ [] → cn n d 31 = some (dayI d) := fun h => by
    obtain ⟨a, b, rfl⟩ := len2 (hd.resolve_left h)
    rw [show (31 : Int) = ((31 : Nat) : Int) from rfl, xA n hn a b (by omega)]
    unfold dayI
    rw [if_neg h]
  have hD0 : d = [] → dayI d = [0] := fun h => by unfold dayI; rw [if_pos h]
  have hM : m ≠ [] → ¬ 0 < sea m → cn n m 12 = some (monI m) := fun h hs => by
    obtain ⟨a, b, rfl⟩ := len2 (hm.resolve_left h)
    rw [show (12 : Int) = ((12 : Nat) : Int) from rfl, xA n hn a b (by omega)]
    unfold monI
    rw [if_neg h, if_neg hs]
  unfold jK
  rw [lX n g l dg x q m d k0 k1 k2 hml]
  simp only [ob]
  by_cases hs : 0 < sea m
  · have h0 : m ≠ [] := by rintro rfl; exact absurd hs (by decide)
    have hm' : monI m = [sea m] := by unfold monI; rw [if_neg h0, if_pos hs]
    rw [decide_eq_true hs]
    by_cases h : d = []
    · refine ⟨_, ?_, .inr (.inl rfl)⟩
      rw [h, ← h, hD0 h, hm', h]; rfl
    · refine ⟨_, ?_, .inl rfl⟩
      rw [cH h, hD h, hm']; rfl
  · rw [decide_eq_false hs]
    by_cases h0 : m = []
    · have hm' : monI m = [0] := by unfold monI; rw [if_pos h0]
      by_cases h : d = []
      · refine ⟨_, ?_, .inr (.inr (.inr rfl))⟩
        rw [hD0 h, hm', h, h0]; rfl
      · refine ⟨_, ?_, .inr (.inr (.inl rfl))⟩
        rw [cH h, hD h, hm', h0]; rfl
    · rw [cH h0, hM h0 hs]
      by_cases h : d = []
      · refine ⟨_, ?_, .inr (.inl rfl)⟩
        rw [hD0 h, h]; rfl
      · refine ⟨_, ?_, .inl rfl⟩
        rw [cH h, hD h]; rfl
theorem u5 (n : Nat) (hn : 100 < n) (g l : Bool) (dg : List UInt8) (x q : Int) (m d : List UInt8) (k0 k1 k2 : Int) : eh n g l dg x q m d k0 k1 k2 = some (monI m) := by
  unfold eh
  by_cases h0 : m = []
  · unfold monI
    rw [if_pos h0, h0]; rfl
  · rw [cH h0, kE n hn]
    simp only [ob, cond_false]
    unfold monI
    rw [if_neg h0]
    by_cases hs : 0 < sea m
    · rw [if_pos hs, decide_eq_true (show sea m > 0 from hs)]; rfl
    · rw [if_neg hs, decide_eq_false (show ¬ sea m > 0 from hs)]
      have := uT (step := bC n) (f := fun i out => (((i + 1 : Nat) : Int), g, l, dg, x, q, m, d, k0, k1, k2, out)) (y := fun l => l) (p := agr m) (g := 12) (by omega)
        (fun i out hi ho => by
          have w1 : IntKind.wrap .i64 (((i + 1 : Nat) : Int) + 1) = ((i + 1 + 1 : Nat) : Int) := by rw [wrap_i64 _ (by omega) (by omega)]; omega
          unfold bC
          simp only [d4, d8, w1]
          rw [decide_eq_true (show ((i + 1 : Nat) : Int) ≤ 12 by omega), mJ n m (i + 1) (by omega), room (by omega)]
          by_cases hp : agr m (i + 1) = true
          · rw [if_pos hp, if_pos hp]; rfl
          · rw [if_neg hp, if_neg hp]; rfl)
        (fun out => by
          unfold bC
          simp only [d4, d8, decide_eq_false (show ¬ ((12 + 1 : Nat) : Int) ≤ 12 by omega), cond_false])
        (N := n) (by omega)
      have h1 : ae (bC n) n (1, g, l, dg, x, q, m, d, k0, k1, k2, ([] : List Int)) = _ := this
      rw [h1]
      rfl
def ln (y : Int) : Bool := decide (y % 4 = 0) && (decide (y % 100 ≠ 0) || decide (y % 400 = 0))
def lenI (y m : Int) : Int := if m = 4 ∨ m = 6 ∨ m = 9 ∨ m = 11 then 30 else if m = 2 then (if ln y then 29 else 28) else 31
theorem xd (y : Int) {b : Int} (hb : 0 < b) : (Int.tmod y b == 0) = decide (y % b = 0) := by
  rw [Bool.eq_iff_iff, beq_iff_eq, decide_eq_true_iff]
  have h := Int.tmod_eq_emod (a := y) (b := b)
  have h1 := Int.emod_nonneg y (show b ≠ 0 by omega)
  have h2 := Int.emod_lt_of_pos y hb
  by_cases hc : 0 ≤ y ∨ b ∣ y
  · rw [if_pos hc] at h; omega
  · rw [if_neg hc] at h
    have hd : ¬ b ∣ y := fun e => hc (.inr e)
    have : y % b ≠ 0 := fun e => hd (Int.dvd_of_emod_eq_zero e)
    omega
theorem p9 (n : Nat) (y m : Int) : bR n y m = some (lenI y m) := by
  have e100 : (Int.tmod y 100 != 0) = decide (y % 100 ≠ 0) := by
    rw [bne, xd y (by omega)]
    by_cases h : y % 100 = 0 <;> simp [h]
  unfold bR
  rw [xd y (by omega), xd y (by omega), e100]
  have body : (cond (m == 2) (cond (decide (y % 4 = 0)) (cond (decide (y % 100 ≠ 0)) (some (29 : Int)) (cond (decide (y % 400 = 0)) (some 29) (some 28))) (some 28)) (some 31)) = some (if m = 2 then (if ln y = true then 29 else 28) else 31) := by
    rw [ia]
    by_cases h2 : m = 2
    · rw [if_pos h2, if_pos h2]
      unfold ln
      cases decide (y % 4 = 0) <;> cases decide (y % 100 ≠ 0) <;> cases decide (y % 400 = 0) <;> rfl
    · rw [if_neg h2, if_neg h2]
  rw [body]
  unfold lenI
  by_cases h4 : m = 4
  · subst h4; rfl
  · by_cases h6 : m = 6
    · subst h6; rfl
    · by_cases h9 : m = 9
      · subst h9; rfl
      · by_cases h11 : m = 11
        · subst h11; rfl
        · rw [beq_eq_false_iff_ne.2 h4, beq_eq_false_iff_ne.2 h6, beq_eq_false_iff_ne.2 h9, beq_eq_false_iff_ne.2 h11, if_neg (show ¬ (m = 4 ∨ m = 6 ∨ m = 9 ∨ m = 11) by omega)]
          rfl
theorem nS (n : Nat) {y : Int} (h : -20000000000000000 ≤ y ∧ y ≤ 20000000000000000) : cr n y = some (1 + (y - 1) / 4 - (y - 1) / 100 + (y - 1) / 400) := by
  unfold cr
  rw [wrap_i64 (y - 1) (by omega) (by omega), oP n (by omega) (by omega) (by omega) (by omega), oP n (by omega) (by omega) (by omega) (by omega), oP n (by omega) (by omega) (by omega) (by omega)]
  show some _ = some _
  have h4 : -5000000000000001 ≤ (y - 1) / 4 ∧ (y - 1) / 4 ≤ 5000000000000001 := by omega
  have h100 : -5000000000000001 ≤ (y - 1) / 100 ∧ (y - 1) / 100 ≤ 5000000000000001 := by omega
  have h400 : -5000000000000001 ≤ (y - 1) / 400 ∧ (y - 1) / 400 ≤ 5000000000000001 := by omega
  generalize (y - 1) / 4 = a at *
  generalize (y - 1) / 100 = b at *
  generalize (y - 1) / 400 = c at *
  simp only []
  rw [wrap_i64 (1 * a) (by omega) (by omega), wrap_i64 (-1 * b) (by omega) (by omega), wrap_i64 (1 * c) (by omega) (by omega), wrap_i64 (1 + 1 * a) (by omega) (by omega), wrap_i64 (1 + 1 * a + -1 * b) (by omega) (by omega), wrap_i64 _ (by omega) (by omega)]
  congr 1
  omega
theorem zN (y : Int) : (1 + y / 4 - y / 100 + y / 400 > 1 + (y - 1) / 4 - (y - 1) / 100 + (y - 1) / 400) ↔ ln y = true := by
  unfold ln
  simp only [Bool.and_eq_true, Bool.or_eq_true, decide_eq_true_eq]
  omega
theorem AV (n : Nat) {y : Int} (h : bI y) : eZ n y = some (ln y, 0) := by
  unfold eZ
  have h' := h
  unfold bI at h'
  rw [cR, if_pos h, wrap_i64 (y + 1) (by omega) (by omega), nS n (by omega), nS n (by omega), show y + 1 - 1 = y by omega]
  have hl := zN y
  show some (decide (1 + y / 4 - y / 100 + y / 400 > 1 + (y - 1) / 4 - (y - 1) / 100 + (y - 1) / 400), (0 : Int)) = _
  by_cases hb : ln y = true
  · rw [hb, decide_eq_true (hl.2 hb)]
  · rw [Bool.not_eq_true] at hb
    rw [hb, decide_eq_false (fun e => by rw [hl.1 e] at hb; cases hb)]
theorem oO (n : Nat) {y : Int} (h : bI y) {m : Nat} (h1 : 1 ≤ m) (h2 : m ≤ 12) : bS n y (m : Int) = some (lenI y (m : Int)) := by
  unfold bS
  rw [AV n h]
  show cond (ln y && ((m : Int) == 2)) _ _ = _
  have hix : IntKind.wrap .i64 ((m : Int) - 1) = ((m - 1 : Nat) : Int) := by rw [wrap_i64 _ (by omega) (by omega)]; omega
  rw [hix, dl (show m - 1 < 12 by omega)]
  have hm : m = 1 ∨ m = 2 ∨ m = 3 ∨ m = 4 ∨ m = 5 ∨ m = 6 ∨ m = 7 ∨ m = 8 ∨ m = 9 ∨ m = 10 ∨ m = 11 ∨ m = 12 := by omega
  rcases hm with rfl | rfl | rfl | rfl | rfl | rfl | rfl | rfl | rfl | rfl | rfl | rfl <;> unfold lenI <;> cases ln y <;> rfl
theorem vP (n : Nat) {y : Int} (h : bI y) {m : Nat} (h1 : 1 ≤ m) (h2 : m ≤ 12) : i7 n y (m : Int) = some (lenI y (m : Int), 0) := by
  unfold i7
  rw [uR n h h1 h2, oO n h h1 h2]
  rfl
theorem fT (y m : Int) : 28 ≤ lenI y m ∧ lenI y m ≤ 31 := by
  unfold lenI
  split
  · omega
  · split
    · split <;> omega
    · omega
def oz (d : List UInt8) (y m : Int) : Int := if d = [] then 0 else lenI y m
def mQ (d : List UInt8) (y mo : Int) : List (Int × Int × Int) := ((dayI d).filter fun k => decide (k ≤ oz d y mo)).map fun k => (y, mo, k)
def nZ (m d : List UInt8) (y : Int) : List (Int × Int × Int) := (monI m).flatMap (mQ d y)
theorem xM {X Y A : Type} {step : X → Option (X ⊕ Y)} {f : Nat → List A → X} {y : List A → Y} {p : Nat → Bool} {e : Nat → A} {g : Nat} (out0 : List A)
    (h : ∀ i out, i < g → out.length ≤ out0.length + i → step (f i out) = some (.inl (f (i + 1) (if p (i + 1) then out ++ [e (i + 1)] else out))))
    (he : ∀ out, step (f g out) = some (.inr (y out))) {N : Nat} (hN : g < N) : ae step N (f 0 out0) = some (y (out0 ++ ((List.range' 1 g).filter p).map e)) := by
  have go : ∀ (r i : Nat) (out : List A), i + r = g → out.length ≤ out0.length + i → ∀ N, r < N → ae step N (f i out) = some (y (out ++ ((List.range' (i + 1) r).filter p).map e)) := by
    intro r
    induction r with
    | zero =>
      intro i out hi ho N hN
      obtain ⟨N, rfl⟩ : ∃ q, N = q + 1 := ⟨N - 1, by omega⟩
      obtain rfl : i = g := by omega
      rw [ae, he]
      simp
    | succ r ih =>
      intro i out hi ho N hN
      obtain ⟨N, rfl⟩ : ∃ q, N = q + 1 := ⟨N - 1, by omega⟩
      rw [ae, h i out (by omega) (by omega)]
      show ae step N _ = _
      by_cases hp : p (i + 1) = true
      · rw [if_pos hp, ih (i + 1) _ (by omega) (by simp; omega) N (by omega), List.range'_succ, List.filter_cons_of_pos hp]
        simp
      · rw [if_neg hp, ih (i + 1) _ (by omega) (by omega) N (by omega), List.range'_succ, List.filter_cons_of_neg hp]
  exact go g 0 out0 (by omega) (by omega) N hN
theorem yl {X Y A B : Type} {step : X → Option (X ⊕ Y)} {f : Nat → List A → X} {y : List A → Y} {F : B → List A} {L : List B} {c : Nat} (hc : ∀ b ∈ L, (F b).length ≤ c)
    (h : ∀ i b out, L[i]? = some b → out.length ≤ c * i → step (f i out) = some (.inl (f (i + 1) (out ++ F b))))
    (he : ∀ out, step (f L.length out) = some (.inr (y out))) {N : Nat} (hN : L.length < N) : ae step N (f 0 []) = some (y (L.flatMap F)) := by
  have go : ∀ (r i : Nat) (out : List A), i + r = L.length → out.length ≤ c * i → ∀ N, r < N → ae step N (f i out) = some (y (out ++ (L.drop i).flatMap F)) := by
    intro r
    induction r with
    | zero =>
      intro i out hi ho N hN
      obtain ⟨N, rfl⟩ : ∃ q, N = q + 1 := ⟨N - 1, by omega⟩
      obtain rfl : i = L.length := by omega
      rw [ae, he]
      simp
    | succ r ih =>
      intro i out hi ho N hN
      obtain ⟨N, rfl⟩ : ∃ q, N = q + 1 := ⟨N - 1, by omega⟩
      have hb : L[i]? = some L[i] := List.getElem?_eq_getElem (by omega)
      rw [ae, h i L[i] out hb ho]
      show ae step N _ = _
      have hm := hc L[i] (List.getElem_mem _)
      rw [ih (i + 1) _ (by omega) (by rw [List.length_append, Nat.mul_add]; omega) N (by omega), List.drop_eq_getElem_cons (show i < L.length by omega), List.flatMap_cons, List.append_assoc]
  have := go L.length 0 [] (by omega) (by simp) N hN
  simpa using this
theorem AY (d : List UInt8) (L : Nat) (h : L ≤ 31) : (me (fitN d 31)).filter (fun k => decide (k ≤ (L : Int))) = me ((List.range' 1 L).filter (agr d)) := by
  have hs : List.range' 1 31 = List.range' 1 L ++ List.range' (1 + L) (31 - L) := by
    have := List.range'_append_1 (s := 1) (m := L) (n := 31 - L)
    rw [this, show L + (31 - L) = 31 by omega]
  unfold fitN me
  rw [hs, List.filter_append, List.map_append, List.filter_append]
  have e1 : (List.map (fun k : Nat => (k : Int)) (List.filter (agr d) (List.range' 1 L))).filter (fun k => decide (k ≤ (L : Int))) = List.map (fun k : Nat => (k : Int)) (List.filter (agr d) (List.range' 1 L)) := by
    rw [List.filter_eq_self]
    intro k hk
    obtain ⟨j, hj, rfl⟩ := List.mem_map.1 hk
    have := List.mem_range'_1.1 (List.mem_filter.1 hj).1
    exact decide_eq_true (by omega)
  have e2 : (List.map (fun k : Nat => (k : Int)) (List.filter (agr d) (List.range' (1 + L) (31 - L)))).filter (fun k => decide (k ≤ (L : Int))) = [] := by
    rw [List.filter_eq_nil_iff]
    intro k hk
    obtain ⟨j, hj, rfl⟩ := List.mem_map.1 hk
    have := List.mem_range'_1.1 (List.mem_filter.1 hj).1
    simp only [decide_eq_true_eq]
    omega
  rw [e1, e2, List.append_nil]
theorem uF (s : List UInt8) (g : Nat) : (fitN s g).length ≤ g := by
  have := List.length_filter_le (agr s) (List.range' 1 g)
  rw [List.length_range'] at this
  exact this
theorem uj (d : List UInt8) : (dayI d).length ≤ 31 := by
  unfold dayI
  split
  · simp
  · rw [sH]; exact uF d 31
theorem uN (m : List UInt8) : (monI m).length ≤ 12 := by
  unfold monI
  split
  · simp
  · split
    · simp
    · rw [sH]; exact uF m 12
theorem vz (d : List UInt8) (y mo : Int) : (mQ d y mo).length ≤ 31 := by
  unfold mQ
  rw [List.length_map]
  exact Nat.le_trans (List.length_filter_le _ _) (uj d)
theorem xU (y mo : Int) : mQ [] y mo = [(y, mo, 0)] := rfl
theorem vD {d : List UInt8} (h : d ≠ []) (y mo : Int) : mQ d y mo = ((List.range' 1 (lenI y mo).toNat).filter (agr d)).map fun k : Nat => (y, mo, (k : Int)) := by
  have hr := fT y mo
  unfold mQ dayI oz
  rw [if_neg h, if_neg h]
  have := AY d (lenI y mo).toNat (by omega)
  rw [show (((lenI y mo).toNat : Nat) : Int) = lenI y mo by omega] at this
  rw [this, me, List.map_map]
  rfl
theorem vi (n : Nat) (hn : 100 < n) (g l : Bool) (dg : List UInt8) (x q : Int) (m d : List UInt8) (k0 k1 k2 y : Int) :
    fi n g l dg x q m d k0 k1 k2 y = some (nZ m d y) := by
  have hml := uN m
  unfold fi
  rw [u5 n hn]
  have := yl (step := bW n) (f := fun i out => (y, (i : Int), g, l, dg, x, q, m, d, k0, k1, k2, monI m, out)) (y := fun o => o) (F := mQ d y) (L := monI m) (c := 31) (fun b _ => vz d y b)
    (fun i mo out hi ho => by
      have hil : i < (monI m).length := (List.getElem?_eq_some_iff.1 hi).1
      have w1 : IntKind.wrap .i64 ((i : Int) + 1) = ((i + 1 : Nat) : Int) := by rw [wrap_i64 _ (by omega) (by omega)]; omega
      unfold bW
      simp only [d4, d8, w1]
      rw [decide_eq_true (show (i : Int) < (((monI m).length : Nat) : Int) by omega), dl hil]
      by_cases hd : d = []
      · subst hd
        rw [xU]
        simp only [ob, hi, cond_true, room (show out.length ≤ 60000000 by omega)]
        rfl
      · rw [cH hd]
        have hr := fT y mo
        have hin := xM (step := bY n) (f := fun j o => (y, (i : Int), ((j + 1 : Nat) : Int), g, l, dg, x, q, m, d, k0, k1, k2, monI m, o)) (y := fun o => (y, (i : Int), g, l, dg, x, q, m, d, k0, k1, k2, monI m, o)) (p := agr d) (e := fun k => (y, mo, (k : Int))) (g := (lenI y mo).toNat) out
          (fun j o hj ho' => by
            have w2 : IntKind.wrap .i64 (((j + 1 : Nat) : Int) + 1) = ((j + 1 + 1 : Nat) : Int) := by rw [wrap_i64 _ (by omega) (by omega)]; omega
            unfold bY
            simp only [d4, d8, w2, dl hil, ob, hi, p9]
            rw [decide_eq_true (show ((j + 1 : Nat) : Int) ≤ lenI y mo by omega), mJ n d (j + 1) (by omega), room (show o.length ≤ 60000000 by omega)]
            by_cases hp : agr d (j + 1) = true
            · rw [if_pos hp, if_pos hp]; rfl
            · rw [if_neg hp, if_neg hp]; rfl)
          (fun o => by
            unfold bY
            simp only [d4, d8, dl hil, ob, hi, p9]
            rw [decide_eq_false (show ¬ (((lenI y mo).toNat + 1 : Nat) : Int) ≤ lenI y mo by omega)]
            rfl)
          (N := n) (by omega)
        have hin' : ae (bY n) n (y, (i : Int), 1, g, l, dg, x, q, m, d, k0, k1, k2, monI m, out) = _ := hin
        simp only [cond_true, cond_false]
        rw [hin', vD hd]
        simp only [ob, d4, d8, w1])
    (fun out => by
      unfold bW
      simp only [d4, d8]
      rw [decide_eq_false (show ¬ (((monI m).length : Nat) : Int) < (((monI m).length : Nat) : Int) by omega)]
      rfl)
    (N := n) (by omega)
  have h0 : ae (bW n) n (y, 0, g, l, dg, x, q, m, d, k0, k1, k2, monI m, ([] : List (Int × Int × Int))) = _ := this
  simp only [ob]
  rw [h0]
  rfl
theorem DG {a b c e : UInt8} (ha : bq a = true ∨ a = 88) (hb : bq b = true ∨ b = 88) (hc : bq c = true ∨ c = 88) (he : bq e = true ∨ e = 88) (w : Nat) :
    mtk [a, b, c, e] 4 w = Mk.ag [e, c, b, a] (w : Int) := by
  have one : ∀ (z : UInt8) (v : Nat), (decide (z = 88) || decide (z.toNat = 48 + v % 10)) = (decide (z = 88) || decide (Mk.dv z = (v : Int) % 10)) := by
    intro z v
    have : (z.toNat = 48 + v % 10) ↔ (Mk.dv z = (v : Int) % 10) := by unfold Mk.dv; omega
    rw [decide_eq_decide.2 this]
  have cast : ∀ v : Nat, (v : Int) / 10 = ((v / 10 : Nat) : Int) := fun v => by omega
  show ((decide (e = 88) || decide (e.toNat = 48 + w % 10)) && ((decide (c = 88) || decide (c.toNat = 48 + w / 10 % 10)) && ((decide (b = 88) || decide (b.toNat = 48 + w / 10 / 10 % 10)) && ((decide (a = 88) || decide (a.toNat = 48 + w / 10 / 10 / 10 % 10)) && true))))
    = ((((true && (decide (a = 88) || decide (Mk.dv a = (w : Int) / 10 / 10 / 10 % 10))) && (decide (b = 88) || decide (Mk.dv b = (w : Int) / 10 / 10 % 10))) && (decide (c = 88) || decide (Mk.dv c = (w : Int) / 10 % 10))) && (decide (e = 88) || decide (Mk.dv e = (w : Int) % 10)))
  rw [one e w, one c (w / 10), one b (w / 10 / 10), one a (w / 10 / 10 / 10), cast w, cast (w / 10), cast (w / 10 / 10)]
  generalize (decide (e = 88) || decide (Mk.dv e = (w : Int) % 10)) = p1
  generalize (decide (c = 88) || decide (Mk.dv c = ((w / 10 : Nat) : Int) % 10)) = p2
  generalize (decide (b = 88) || decide (Mk.dv b = ((w / 10 / 10 : Nat) : Int) % 10)) = p3
  generalize (decide (a = 88) || decide (Mk.dv a = ((w / 10 / 10 / 10 : Nat) : Int) % 10)) = p4
  cases p1 <;> cases p2 <;> cases p3 <;> cases p4 <;> rfl
theorem A3 {c : UInt8} (h : bq c = true ∨ c = 88) : Mk.okB c = true := by
  rcases h with h | h
  · have h := (cN c).1 h
    unfold Mk.okB
    simp only [Bool.or_eq_true, Bool.and_eq_true, decide_eq_true_eq]
    right
    first | omega | (obtain ⟨h1, h2⟩ := h; constructor <;> omega)
  · subst h; decide
theorem zj {d : List UInt8} (hl : d.length = 4) (h : ∀ c ∈ d, bq c = true ∨ c = 88) : Mk.chk d = 0 := by
  unfold Mk.chk
  have : d.all Mk.okB = true := List.all_eq_true.2 fun c hc => A3 (h c hc)
  rw [if_neg (by omega), if_pos this, if_neg (by rintro rfl; simp at hl)]
theorem uQ {d : List UInt8} (hl : d.length = 4) (h : ∀ c ∈ d, bq c = true ∨ c = 88) (w : Nat) : Mk.hasM d (w : Int) = true ↔ mtk d 4 w = true ∧ w / 10 ^ 4 = 0 := by
  obtain ⟨a, b, c, e, rfl⟩ : ∃ a b c e, d = [a, b, c, e] := by
    match d, hl with
    | [a, b, c, e], _ => exact ⟨a, b, c, e, rfl⟩
  rw [Mk.sO, DG (h a (by simp)) (h b (by simp)) (h c (by simp)) (h e (by simp)) w]
  simp only [Bool.and_eq_true, decide_eq_true_eq]
  show 0 ≤ (w : Int) ∧ (w : Int) < 10 ^ 4 ∧ Mk.ag [e, c, b, a] (w : Int) = true ↔ Mk.ag [e, c, b, a] (w : Int) = true ∧ w / 10 ^ 4 = 0
  have e4 : (10 : Int) ^ 4 = 10000 := by decide
  have e4' : (10 : Nat) ^ 4 = 10000 := by decide
  rw [e4, e4']
  constructor
  · rintro ⟨_, h2, h3⟩; exact ⟨h3, by omega⟩
  · rintro ⟨h3, h2⟩; exact ⟨by omega, by omega, h3⟩
theorem ub {g l : Bool} {d : List UInt8} {x q : Int} (hok : okY g l d x q) (hX : hasX d = true) (v : Int) : inP g d x q v ↔ (Mk.hasM d (wOf g v) = true ∧ (g = true → 1 ≤ wOf g v)) := by
  obtain ⟨rfl, rfl, rfl, hl, hd⟩ := jV hok hX
  unfold inP
  rw [uU hX]
  have hr : ∀ k : Int, Mk.hasM d k = true → 0 ≤ k ∧ k < 10000 := fun k hk => by
    have := (Mk.iW hk).2.2.2.2
    rw [hl] at this
    have e4 : (10 : Int) ^ 4 = 10000 := by decide
    omega
  constructor
  · rintro ⟨h1, h2, h3, h4, h5⟩
    have := (uQ hl hd (wOf g v).toNat).2 h5
    rw [show (((wOf g v).toNat : Nat) : Int) = wOf g v by omega] at this
    refine ⟨this, fun hg => ?_⟩
    have h0 : ¬ wOf g v = 0 := fun e => h4 ⟨hX, hg, e⟩
    omega
  · rintro ⟨h1, h2⟩
    have hr' := hr _ h1
    have hm := (uQ hl hd (wOf g v).toNat).1 (by rw [show (((wOf g v).toNat : Nat) : Int) = wOf g v by omega]; exact h1)
    have hv : v = wOf g v ∨ v = - wOf g v := by
      unfold wOf; split
      · right; omega
      · left; rfl
    refine ⟨by omega, by omega, hr'.1, ?_, hm⟩
    rintro ⟨_, hg, e⟩
    have := h2 hg
    omega
theorem sY {g l : Bool} {d : List UInt8} {x : Int} (hok : okY g l d x 0) (hX : hasX d = false) (v : Int) : inP g d x 0 v ↔ v = (if g then -((val d x.toNat : Nat) : Int) else ((val d x.toNat : Nat) : Int)) := by
  obtain ⟨k, q, rfl, hq, hN⟩ := lR hok hX
  have hs := hN.small
  have hv : dval 0 d * 10 ^ k = val d k := rfl
  rw [hv] at hs
  unfold E16 at hs
  unfold inP
  rw [AA hX]
  have hu : tq d (k : Int).toNat (0 : Int).toNat = 1 := rfl
  rw [hu, Int.toNat_natCast, Nat.div_one, Nat.div_one, hX]
  unfold wOf
  cases g with
  | true =>
    simp only [if_true]
    constructor
    · rintro ⟨h1, h2, h3, _, h5⟩; omega
    · rintro rfl; refine ⟨by omega, by omega, by omega, by simp, by omega⟩
  | false =>
    simp only [Bool.false_eq_true, if_false]
    constructor
    · rintro ⟨h1, h2, h3, _, h5⟩; omega
    · rintro rfl; refine ⟨by omega, by omega, by omega, by simp, by omega⟩
def s9 (up : Bool) (Y : Int → Prop) (v w : Int) (found : Bool) : Prop :=
  (found = true → Y w ∧ Mk.ci up v w ∧ ∀ e, Y e → Mk.ci up v e → Mk.ci up w e) ∧ (found = false → ∀ e, Y e → ¬ Mk.ci up v e)
theorem cj (a b : Int) : Mk.ci true a b ↔ a ≤ b := Iff.rfl
theorem dB (a b : Int) : Mk.ci false a b ↔ b ≤ a := Iff.rfl
theorem An (o : Option Int) : (Mk.res o).2 = 0 ∧ (∃ r, o = some r ∧ (Mk.res o).1 = r) ∨ (Mk.res o).2 = 16 ∧ o = none ∧ (Mk.res o).1 = 0 := by
  cases o with
  | none => exact .inr ⟨rfl, rfl, rfl⟩
  | some r => exact .inl ⟨rfl, r, rfl, rfl⟩
theorem mX {m : List UInt8} (hm : Mk.chk m = 0) (v least : Int) (h0 : 0 ≤ least) : ∃ w f, cD 20000000 m v true least = some (w, f) ∧ s9 true (fun e => Mk.hasM m e = true ∧ least ≤ e) v w f ∧ (0 ≤ w ∧ w < 1000000000000000000) := by
  obtain ⟨o, h1, h2⟩ := Mk.wU hm (cond (decide (least > v)) least v)
  unfold cD
  rw [h1]
  simp only [ob, cond_true]
  have hc : (cond (decide (least > v)) least v) = max v least := by
    by_cases h : least > v
    · rw [decide_eq_true h]; show least = _; omega
    · rw [decide_eq_false h]; show v = _; omega
  rw [hc] at h2
  rcases An o with ⟨e1, r, rfl, e2⟩ | ⟨e1, rfl, e2⟩
  · refine ⟨_, _, rfl, ?_, ?_⟩
    · rw [e1, e2]
      obtain ⟨a1, a2, a3⟩ := h2
      rw [cj] at a2
      refine ⟨fun _ => ⟨⟨a1, by omega⟩, ?_, fun e he hv => ?_⟩, fun h => by cases h⟩
      · rw [cj]; omega
      · rw [cj] at hv
        exact a3 e he.1 (by rw [cj]; have := he.2; omega)
    · have := (Mk.iW h2.1).2.2.2.2
      have hl := Mk.ir hm
      have hp : (10 : Int) ^ m.length ≤ 10 ^ 18 := by
        have := Nat.pow_le_pow_right (show 0 < 10 by decide) hl.1
        exact_mod_cast this
      have e18 : (10 : Int) ^ 18 = 1000000000000000000 := by decide
      rw [e2]
      omega
  · refine ⟨_, _, rfl, ?_, by rw [e2]; omega⟩
    rw [e1]
    refine ⟨(fun h => by cases h), fun _ e he hv => ?_⟩
    rw [cj] at hv
    exact h2 e he.1 (by rw [cj]; have := he.2; omega)
theorem mY {m : List UInt8} (hm : Mk.chk m = 0) (v least : Int) (h0 : 0 ≤ least) : ∃ w f, cD 20000000 m v false least = some (w, f) ∧ s9 false (fun e => Mk.hasM m e = true ∧ least ≤ e) v w f ∧ (0 ≤ w ∧ w < 1000000000000000000) := by
  obtain ⟨o, h1, h2⟩ := Mk.xH hm v
  unfold cD
  rw [h1]
  simp only [ob, cond_false]
  rcases An o with ⟨e1, r, rfl, e2⟩ | ⟨e1, rfl, e2⟩
  · rw [e1, e2]
    obtain ⟨a1, a2, a3⟩ := h2
    rw [dB] at a2
    have hb := (Mk.iW a1).2.2.2.2
    have hl := Mk.ir hm
    have hp : (10 : Int) ^ m.length ≤ 10 ^ 18 := by
      have := Nat.pow_le_pow_right (show 0 < 10 by decide) hl.1
      exact_mod_cast this
    have e18 : (10 : Int) ^ 18 = 1000000000000000000 := by decide
    refine ⟨_, _, rfl, ?_, by omega⟩
    by_cases hle : r ≥ least
    · rw [decide_eq_true hle]
      refine ⟨fun _ => ⟨⟨a1, by omega⟩, by rw [dB]; omega, fun e he hv => a3 e he.1 hv⟩, fun h => by cases h⟩
    · rw [decide_eq_false hle]
      refine ⟨(fun h => by cases h), fun _ e he hv => ?_⟩
      have := a3 e he.1 hv
      rw [dB] at this
      have := he.2
      omega
  · rw [e1, e2]
    refine ⟨_, _, rfl, ?_, by omega⟩
    refine ⟨(fun h => by cases h), fun _ e he hv => h2 e he.1 hv⟩
theorem ye {g l : Bool} {dg : List UInt8} {x : Int} (hok : okY g l dg x 0) (m d : List UInt8) (k0 k1 k2 : Int) (v : Int) (hv : -9223372036854775808 ≤ v ∧ v < 9223372036854775808) (up : Bool) (ms ds : List Int) :
    ∃ w f, aR 20000000 g l dg x 0 m d k0 k1 k2 v up ms ds = some (w, f) ∧ s9 up (inP g dg x 0) v w f := by
  have hsm := gY hok
  unfold aR
  rw [ml]
  simp only [ob]
  cases hX : hasX dg with
  | false =>
    have hin := sY hok hX
    rw [qB 20000000 g l dg x 0 (by omega) (by omega), if_pos ⟨hok, hX⟩]
    simp only [Bool.not_false, cond_true]
    generalize (if g then -((val dg x.toNat : Nat) : Int) else ((val dg x.toNat : Nat) : Int)) = w at *
    cases up with
    | true =>
      by_cases h : w ≥ v
      · refine ⟨w, true, ?_, ?_⟩
        · simp only [decide_eq_true h, cond_true]
        · refine ⟨fun _ => ⟨(hin w).2 rfl, h, fun e he _ => ?_⟩, fun h => by cases h⟩
          rw [(hin e).1 he]; exact Int.le_refl _
      · refine ⟨w, false, ?_, ?_⟩
        · simp only [decide_eq_false h, cond_true, cond_false, Bool.not_true]
        · refine ⟨(fun h => by cases h), fun _ e he ha => ?_⟩
          rw [(hin e).1 he, cj] at ha; omega
    | false =>
      by_cases h : w ≤ v
      · refine ⟨w, true, ?_, ?_⟩
        · simp only [decide_eq_true h, cond_true, cond_false, Bool.not_false]
        · refine ⟨fun _ => ⟨(hin w).2 rfl, h, fun e he _ => ?_⟩, fun h => by cases h⟩
          rw [(hin e).1 he]; exact Int.le_refl _
      · refine ⟨w, false, ?_, ?_⟩
        · simp only [decide_eq_false h, cond_true, cond_false, Bool.not_false]
        · refine ⟨(fun h => by cases h), fun _ e he ha => ?_⟩
          rw [(hin e).1 he, dB] at ha; omega
  | true =>
    have hin := ub hok hX
    obtain ⟨rfl, rfl, _, hl, hd⟩ := jV hok hX
    have hm := zj hl hd
    simp only [Bool.not_true, cond_false]
    cases g with
    | false =>
      simp only [Bool.not_false, cond_true]
      have same : ∀ w f, s9 up (fun e => Mk.hasM dg e = true ∧ 0 ≤ e) v w f → s9 up (inP false dg 0 0) v w f := fun w f h => by
        have hiff : ∀ e, (Mk.hasM dg e = true ∧ 0 ≤ e) ↔ inP false dg 0 0 e := fun e => by
          rw [hin e]
          constructor
          · rintro ⟨h1, _⟩; exact ⟨h1, fun h => by cases h⟩
          · rintro ⟨h1, _⟩; exact ⟨h1, (Mk.iW h1).2.2.2.2.1⟩
        refine ⟨fun hf => ?_, fun hf e he => h.2 hf e ((hiff e).2 he)⟩
        obtain ⟨b1, b2, b3⟩ := h.1 hf
        exact ⟨(hiff w).1 b1, b2, fun e he => b3 e ((hiff e).2 he)⟩
      cases up with
      | true =>
        obtain ⟨w, f, h1, h2, _⟩ := mX hm v 0 (by omega)
        exact ⟨w, f, by rw [h1], same w f h2⟩
      | false =>
        obtain ⟨w, f, h1, h2, _⟩ := mY hm v 0 (by omega)
        exact ⟨w, f, by rw [h1], same w f h2⟩
    | true =>
      simp only [Bool.not_true, cond_false]
      have hc : IntKind.wrap .i64 (0 - (cond (decide (((-9223372036854775807) : Int) > v)) (-9223372036854775807) v)) = min (-v) 9223372036854775807 := by
        by_cases h : ((-9223372036854775807) : Int) > v
        · rw [decide_eq_true h, cond_true, wrap_i64 _ (by omega) (by omega)]; omega
        · rw [decide_eq_false h, cond_false, wrap_i64 _ (by omega) (by omega)]; omega
      rw [hc]
      have hb : ∀ e, Mk.hasM dg e = true → 0 ≤ e ∧ e < 10000 := fun e he => by
        have := (Mk.iW he).2.2.2.2
        rw [hl] at this
        have e4 : (10 : Int) ^ 4 = 10000 := by decide
        omega
      have hiff : ∀ e, inP true dg 0 0 e ↔ (Mk.hasM dg (-e) = true ∧ 1 ≤ -e) := fun e => by
        rw [hin e]
        exact ⟨fun h => ⟨h.1, h.2 rfl⟩, fun h => ⟨h.1, fun _ => h.2⟩⟩
      have hw : ∀ w : Int, 0 ≤ w ∧ w < 1000000000000000000 → IntKind.wrap .i64 (0 - w) = -w := fun w h => by rw [wrap_i64 _ (by omega) (by omega)]; omega
      cases up with
      | true =>
        obtain ⟨w, f, h1, h2, h3⟩ := mY hm (min (-v) 9223372036854775807) 1 (by omega)
        refine ⟨-w, f, by rw [Bool.not_true, h1]; simp only [hw w h3], ?_, ?_⟩
        · intro hf
          obtain ⟨b1, b2, b3⟩ := h2.1 hf
          rw [dB] at b2
          refine ⟨(hiff _).2 (by rw [Int.neg_neg]; exact b1), by rw [cj]; omega, fun e he ha => ?_⟩
          rw [cj] at ha
          have hh := (hiff e).1 he
          have := b3 (-e) hh (by rw [dB]; have := hb _ hh.1; omega)
          rw [dB] at this
          rw [cj]; omega
        · intro hf e he ha
          rw [cj] at ha
          have hh := (hiff e).1 he
          exact h2.2 hf (-e) hh (by rw [dB]; have := hb _ hh.1; omega)
      | false =>
        obtain ⟨w, f, h1, h2, h3⟩ := mX hm (min (-v) 9223372036854775807) 1 (by omega)
        refine ⟨-w, f, by rw [Bool.not_false, h1]; simp only [hw w h3], ?_, ?_⟩
        · intro hf
          obtain ⟨b1, b2, b3⟩ := h2.1 hf
          rw [cj] at b2
          have hbw := hb _ b1.1
          refine ⟨(hiff _).2 (by rw [Int.neg_neg]; exact b1), by rw [dB]; omega, fun e he ha => ?_⟩
          rw [dB] at ha
          have hh := (hiff e).1 he
          have := b3 (-e) hh (by rw [cj]; omega)
          rw [cj] at this
          rw [dB]; omega
        · intro hf e he ha
          rw [dB] at ha
          have hh := (hiff e).1 he
          exact h2.2 hf (-e) hh (by rw [cj]; omega)
theorem lQ {X Y A : Type} {step : X → Option (X ⊕ Y)} {f : Nat → X} {L : List A} {G : A → Option Y} {e : Y}
    (h : ∀ i a, L[i]? = some a → step (f i) = some ((G a).elim (.inl (f (i + 1))) Sum.inr)) (he : step (f L.length) = some (.inr e)) {N : Nat} (hN : L.length < N) :
    ae step N (f 0) = some ((L.findSome? G).getD e) := by
  have go : ∀ (r i : Nat), i + r = L.length → ∀ N, r < N → ae step N (f i) = some (((L.drop i).findSome? G).getD e) := by
    intro r
    induction r with
    | zero =>
      intro i hi N hN
      obtain ⟨N, rfl⟩ : ∃ q, N = q + 1 := ⟨N - 1, by omega⟩
      obtain rfl : i = L.length := by omega
      rw [ae, he]
      simp
    | succ r ih =>
      intro i hi N hN
      obtain ⟨N, rfl⟩ : ∃ q, N = q + 1 := ⟨N - 1, by omega⟩
      have hb : L[i]? = some L[i] := List.getElem?_eq_getElem (by omega)
      rw [ae, h i L[i] hb, List.drop_eq_getElem_cons (show i < L.length by omega), List.findSome?_cons]
      cases hG : G L[i] with
      | some y => rfl
      | none => exact ih (i + 1) (by omega) N (by omega)
  have := go L.length 0 (by omega) N hN
  simpa using this
def ahd (up : Bool) (a b : Int) : Bool := cond up (decide (a < b)) (decide (a > b))
theorem ue (n : Nat) (a b : Int) (up : Bool) : aX n a b up = some (ahd up a b) := by
  unfold aX ahd
  cases up
  · rfl
  · simp only [cond_true, Bool.not_true, cond_false]
    cases decide (a < b) <;> rfl
def p8 (up same : Bool) (d : List UInt8) (cd most k : Int) : Bool := decide (k ≤ most) && !(same && (!(d == ([] : List UInt8)) && ahd up k cd))
def xn (up : Bool) (m : List UInt8) (cy cm y mo : Int) : Bool := (y == cy) && (!(m == ([] : List UInt8)) && ahd up mo cm)
def vH (m : List UInt8) (cy cm y mo : Int) : Bool := (y == cy) && ((m == ([] : List UInt8)) || (mo == cm))
def th (up : Bool) (m d : List UInt8) (cy cm cd y : Int) (ds : List Int) (mo : Int) : Option (Int × Int × Int) :=
  if xn up m cy cm y mo then none else (ds.find? (p8 up (vH m cy cm y mo) d cd (oz d y mo))).map fun k => (y, mo, k)
def sS (up : Bool) (m d : List UInt8) (cy cm cd : Int) (ms ds : List Int) (y : Int) : Option (Int × Int × Int) := ms.findSome? (th up m d cy cm cd y ds)
def wm (d : List UInt8) (ms : List Int) : Prop := ms.length ≤ 31 ∧ (d ≠ [] → ∀ mo ∈ ms, 1 ≤ mo ∧ mo ≤ 12)
theorem wI (n : Nat) (g l : Bool) (dg : List UInt8) (x q : Int) (m d : List UInt8) (k0 k1 k2 : Int) {y : Int} (hy : bI y) {mo : Int} (hmo : d ≠ [] → 1 ≤ mo ∧ mo ≤ 12) (ms ds : List Int) :
    cf n g l dg x q m d k0 k1 k2 y mo ms ds = some (oz d y mo) := by
  unfold cf oz
  by_cases hd : d = []
  · subst hd; rfl
  · rw [cH hd, if_neg hd]
    have := hmo hd
    obtain ⟨k, rfl⟩ : ∃ k : Nat, mo = (k : Int) := ⟨mo.toNat, by omega⟩
    rw [cond_false, vP n hy (by omega) (by omega)]
    rfl
theorem Bv {A B Y : Type} (L : List A) (p : A → Bool) (F : A → B) (J : B → Y) (e : Y) : (L.findSome? fun a => if p a then some (J (F a)) else none).getD e = ((L.find? p).map F).elim e J := by
  induction L with
  | nil => rfl
  | cons a L ih =>
    rw [List.find?_cons, List.findSome?_cons]
    cases h : p a
    · simpa using ih
    · simp
theorem CI {A B Y : Type} (L : List A) (G : A → Option B) (J : B → Y) (e : Y) : (L.findSome? fun a => (G a).map J).getD e = (L.findSome? G).elim e J := by
  induction L with
  | nil => rfl
  | cons a L ih =>
    rw [List.findSome?_cons, List.findSome?_cons]
    cases h : G a
    · simpa using ih
    · simp
theorem z6 (n : Nat) (s y mo : Int) (same : Bool) (most lm im : Int) (ms ds : List Int) (g l : Bool) (dg : List UInt8) (x q : Int) (m d : List UInt8) (k0 k1 k2 cy cm cd : Int) (up : Bool) (ry rm rd : Int) (i : Nat) (k : Int) (hi : ds[i]? = some k) (h31 : i < 1000) :
    aE n (s, y, mo, same, most, lm, im, ((ds.length : Nat) : Int), (i : Int), ms, ds, g, l, dg, x, q, m, d, k0, k1, k2, cy, cm, cd, up, ry, rm, rd) = some ((if p8 up same d cd most k then some (.inl (true, y, mo, k)) else none).elim (.inl (s, y, mo, same, most, lm, im, ((ds.length : Nat) : Int), ((i + 1 : Nat) : Int), ms, ds, g, l, dg, x, q, m, d, k0, k1, k2, cy, cm, cd, up, ry, rm, rd)) Sum.inr) := by
  have hil : i < ds.length := (List.getElem?_eq_some_iff.1 hi).1
  have w1 : IntKind.wrap .i64 ((i : Int) + 1) = ((i + 1 : Nat) : Int) := by rw [wrap_i64 _ (by omega) (by omega)]; omega
  unfold aE dp p8
  simp only [d4, d8, d16, dl hil, hi, ob, w1, ue]
  rw [decide_eq_true (show (i : Int) < ((ds.length : Nat) : Int) by omega)]
  simp only [cond_true]
  cases decide (k ≤ most) <;> cases same <;> cases (d == ([] : List UInt8)) <;> cases ahd up k cd <;> simp only [Bool.not_true, Bool.not_false, cond_true, cond_false, w1] <;> rfl
theorem A5 (n : Nat) (s y mo : Int) (same : Bool) (most lm im : Int) (ms ds : List Int) (g l : Bool) (dg : List UInt8) (x q : Int) (m d : List UInt8) (k0 k1 k2 cy cm cd : Int) (up : Bool) (ry rm rd : Int) :
    aE n (s, y, mo, same, most, lm, im, ((ds.length : Nat) : Int), ((ds.length : Nat) : Int), ms, ds, g, l, dg, x, q, m, d, k0, k1, k2, cy, cm, cd, up, ry, rm, rd) = some (.inr (.inr (s, y, lm, im, ms, ds, g, l, dg, x, q, m, d, k0, k1, k2, cy, cm, cd, up, ry, rm, rd))) := by
  unfold aE
  simp only [d4, d8, d16]
  rw [decide_eq_false (show ¬ ((ds.length : Nat) : Int) < ((ds.length : Nat) : Int) by omega)]
  rfl
theorem B5 (n : Nat) (hn : 1000 < n) (s y mo : Int) (same : Bool) (most lm im : Int) (ms ds : List Int) (g l : Bool) (dg : List UInt8) (x q : Int) (m d : List UInt8) (k0 k1 k2 cy cm cd : Int) (up : Bool) (ry rm rd : Int) (hd : ds.length ≤ 31) :
    ae (aE n) n (s, y, mo, same, most, lm, im, ((ds.length : Nat) : Int), 0, ms, ds, g, l, dg, x, q, m, d, k0, k1, k2, cy, cm, cd, up, ry, rm, rd) = some (((ds.find? (p8 up same d cd most)).map (fun k => (y, mo, k))).elim (.inr (s, y, lm, im, ms, ds, g, l, dg, x, q, m, d, k0, k1, k2, cy, cm, cd, up, ry, rm, rd)) (fun z => .inl (true, z))) := by
  have := lQ (step := aE n) (f := fun i => (s, y, mo, same, most, lm, im, ((ds.length : Nat) : Int), (i : Int), ms, ds, g, l, dg, x, q, m, d, k0, k1, k2, cy, cm, cd, up, ry, rm, rd)) (L := ds) (G := fun k => if p8 up same d cd most k then some (.inl (true, y, mo, k)) else none) (e := .inr (s, y, lm, im, ms, ds, g, l, dg, x, q, m, d, k0, k1, k2, cy, cm, cd, up, ry, rm, rd))
    (fun i k hi => by
      have hil : i < ds.length := (List.getElem?_eq_some_iff.1 hi).1
      exact z6 n s y mo same most lm im ms ds g l dg x q m d k0 k1 k2 cy cm cd up ry rm rd i k hi (by omega))
    (A5 n s y mo same most lm im ms ds g l dg x q m d k0 k1 k2 cy cm cd up ry rm rd) (N := n) (by omega)
  exact this.trans (congrArg some (Bv ds (p8 up same d cd most) (fun k => (y, mo, k)) (fun z => Sum.inl (true, z)) _))
theorem yB (n : Nat) (hn : 1000 < n) (s y : Int) (hy : bI y) (ms ds : List Int) (g l : Bool) (dg : List UInt8) (x q : Int) (m d : List UInt8) (k0 k1 k2 cy cm cd : Int) (up : Bool) (ry rm rd : Int) (hm : wm d ms) (hd : ds.length ≤ 31) (i : Nat) (mo : Int) (hi : ms[i]? = some mo) :
    aQ n (s, y, ((ms.length : Nat) : Int), (i : Int), ms, ds, g, l, dg, x, q, m, d, k0, k1, k2, cy, cm, cd, up, ry, rm, rd) = some (((th up m d cy cm cd y ds mo).map (fun z => (.inl (true, z) : (Bool × Int × Int × Int) ⊕ _))).elim (.inl (s, y, ((ms.length : Nat) : Int), ((i + 1 : Nat) : Int), ms, ds, g, l, dg, x, q, m, d, k0, k1, k2, cy, cm, cd, up, ry, rm, rd)) Sum.inr) := by
  have hil : i < ms.length := (List.getElem?_eq_some_iff.1 hi).1
  have h31 := hm.1
  have w1 : IntKind.wrap .i64 ((i : Int) + 1) = ((i + 1 : Nat) : Int) := by rw [wrap_i64 _ (by omega) (by omega)]; omega
  have hmo : d ≠ [] → 1 ≤ mo ∧ mo ≤ 12 := fun h => hm.2 h mo (List.mem_of_getElem? hi)
  have j20 : ∀ a b : Int, ch n s y mo (y == cy) a b ms ds g l dg x q m d k0 k1 k2 cy cm cd up ry rm rd = some (s, y, mo, (y == cy), a, b, xn up m cy cm y mo, ms, ds, g, l, dg, x, q, m, d, k0, k1, k2, cy, cm, cd, up, ry, rm, rd) := by
    intro a b
    unfold ch xn
    simp only [ue, ob]
    cases (y == cy) <;> cases (m == ([] : List UInt8)) <;> rfl
  have j23 : ∀ a b c : Int, cg n s y mo (y == cy) a b c ms ds g l dg x q m d k0 k1 k2 cy cm cd up ry rm rd = some (s, y, mo, vH m cy cm y mo, a, b, c, ms, ds, g, l, dg, x, q, m, d, k0, k1, k2, cy, cm, cd, up, ry, rm, rd) := by
    intro a b c
    unfold cg vH
    cases (y == cy) <;> cases (m == ([] : List UInt8)) <;> rfl
  unfold aQ dt th
  simp only [d4, d8, d16, dl hil, hi, ob, j20]
  rw [decide_eq_true (show (i : Int) < ((ms.length : Nat) : Int) by omega)]
  simp only [cond_true]
  cases hs : xn up m cy cm y mo with
  | true => simp only [cond_true, if_true, Option.map_none, w1]; rfl
  | false =>
    simp only [cond_false, Bool.false_eq_true, if_false, wI n g l dg x q m d k0 k1 k2 hy hmo, j23, B5 n hn s y mo (vH m cy cm y mo) (oz d y mo) _ _ ms ds g l dg x q m d k0 k1 k2 cy cm cd up ry rm rd hd]
    cases ds.find? (p8 up (vH m cy cm y mo) d cd (oz d y mo)) with
    | some k => rfl
    | none => simp only [Option.map_none, Option.elim_none, w1]
theorem BL (n : Nat) (hn : 1000 < n) (s y : Int) (hy : bI y) (ms ds : List Int) (g l : Bool) (dg : List UInt8) (x q : Int) (m d : List UInt8) (k0 k1 k2 cy cm cd : Int) (up : Bool) (ry rm rd : Int) (hm : wm d ms) (hd : ds.length ≤ 31) :
    ae (aQ n) n (s, y, ((ms.length : Nat) : Int), 0, ms, ds, g, l, dg, x, q, m, d, k0, k1, k2, cy, cm, cd, up, ry, rm, rd) = some ((sS up m d cy cm cd ms ds y).elim (.inr (s, y, ms, ds, g, l, dg, x, q, m, d, k0, k1, k2, cy, cm, cd, up, ry, rm, rd)) (fun z => .inl (true, z))) := by
  have h31 := hm.1
  have := lQ (step := aQ n) (f := fun i => (s, y, ((ms.length : Nat) : Int), (i : Int), ms, ds, g, l, dg, x, q, m, d, k0, k1, k2, cy, cm, cd, up, ry, rm, rd)) (L := ms) (G := fun mo => (th up m d cy cm cd y ds mo).map (fun z => (.inl (true, z) : (Bool × Int × Int × Int) ⊕ _))) (e := .inr (s, y, ms, ds, g, l, dg, x, q, m, d, k0, k1, k2, cy, cm, cd, up, ry, rm, rd))
    (fun i mo hi => yB n hn s y hy ms ds g l dg x q m d k0 k1 k2 cy cm cd up ry rm rd hm hd i mo hi)
    (by
      unfold aQ
      simp only [d4, d8, d16]
      rw [decide_eq_false (show ¬ ((ms.length : Nat) : Int) < ((ms.length : Nat) : Int) by omega)]
      rfl)
    (N := n) (by omega)
  exact this.trans (congrArg some (CI ms (th up m d cy cm cd y ds) (fun z => Sum.inl (true, z)) _))
theorem yT (n : Nat) (hn : 1000 < n) (s y : Int) (hy : bI y) (ms ds : List Int) (g l : Bool) (dg : List UInt8) (x q : Int) (m d : List UInt8) (k0 k1 k2 cy cm cd : Int) (up : Bool) (ry rm rd : Int) (hm : wm d ms) (hd : ds.length ≤ 31) :
    ba n (s, y, true, ms, ds, g, l, dg, x, q, m, d, k0, k1, k2, cy, cm, cd, up, ry, rm, rd) = (sS up m d cy cm cd ms ds y).elim (ob (aR n g l dg x q m d k0 k1 k2 (IntKind.wrap .i64 (y + s)) up ms ds) fun r => some (.inl (s, r.1, r.2, ms, ds, g, l, dg, x, q, m, d, k0, k1, k2, cy, cm, cd, up, ry, rm, rd))) (fun z => some (.inr (.inl (true, z)))) := by
  unfold ba
  simp only [d4, d8, d16, cond_true, ob, BL n hn s y hy ms ds g l dg x q m d k0 k1 k2 cy cm cd up ry rm rd hm hd]
  cases sS up m d cy cm cd ms ds y <;> rfl
def uH (up : Bool) (Y : Int → Prop) (F : Int → Option (Int × Int × Int)) (v : Int) : Option (Int × Int × Int) → Prop
  | some z => ∃ e, Y e ∧ Mk.ci up v e ∧ F e = some z ∧ ∀ e', Y e' → Mk.ci up v e' → ¬ Mk.ci up e e' → F e' = none
  | none => ∀ e, Y e → Mk.ci up v e → F e = none
theorem vA {X : Type} {step : X → Option (X ⊕ ((Bool × Int × Int × Int) ⊕ (Int × Int × Int)))} {st : Int → Bool → X} {F : Int → Option (Int × Int × Int)} {Y : Int → Prop} {up : Bool} {s lo hi : Int} {E : Int × Int × Int} {fy : Int → Option (Int × Bool)}
    (hs : s = if up then 1 else -1) (hY : ∀ e, Y e → lo ≤ e ∧ e ≤ hi) (h0 : -10000000000000000 ≤ lo) (h1 : hi ≤ 10000000000000000)
    (hstep : ∀ y, Y y → step (st y true) = (F y).elim (ob (fy (IntKind.wrap .i64 (y + s))) fun r => some (.inl (st r.1 r.2))) (fun z => some (.inr (.inl (true, z)))))
    (hend : ∀ y, step (st y false) = some (.inr (.inr E)))
    (hfy : ∀ v, -9223372036854775808 ≤ v ∧ v < 9223372036854775808 → ∃ w f, fy v = some (w, f) ∧ s9 up Y v w f) :
    ∀ (r : Nat) (v y : Int) (f : Bool), s9 up Y v y f → (f = true → (if up then hi - y else y - lo) < (r : Int)) → ∀ N, r < N →
      ∃ o, ae step N (st y f) = some (o.elim (.inr E) (fun z => .inl (true, z))) ∧ uH up Y F v o := by
  intro r
  induction r with
  | zero =>
    intro v y f hn hr N hN
    obtain ⟨N, rfl⟩ : ∃ q, N = q + 1 := ⟨N - 1, by omega⟩
    cases f with
    | true =>
      obtain ⟨a1, _, _⟩ := hn.1 rfl
      have := hY y a1
      have := hr rfl
      cases up <;> simp at this <;> omega
    | false =>
      refine ⟨none, by rw [ae, hend]; rfl, fun e he ha => absurd ha (hn.2 rfl e he)⟩
  | succ r ih =>
    intro v y f hn hr N hN
    obtain ⟨N, rfl⟩ : ∃ q, N = q + 1 := ⟨N - 1, by omega⟩
    cases f with
    | false =>
      refine ⟨none, by rw [ae, hend]; rfl, fun e he ha => absurd ha (hn.2 rfl e he)⟩
    | true =>
      obtain ⟨a1, a2, a3⟩ := hn.1 rfl
      have hb := hY y a1
      cases hF : F y with
      | some z =>
        refine ⟨some z, ?_, y, a1, a2, hF, fun e' h1 h2 h3 => absurd (a3 e' h1 h2) h3⟩
        rw [ae, hstep y a1, hF]; rfl
      | none =>
        have hw : IntKind.wrap .i64 (y + s) = y + s := by
          have : -1 ≤ s ∧ s ≤ 1 := by rw [hs]; cases up <;> simp
          exact wrap_i64 _ (by omega) (by omega)
        obtain ⟨w, f', e1, e2⟩ := hfy (y + s) (by
          have : -1 ≤ s ∧ s ≤ 1 := by rw [hs]; cases up <;> simp
          omega)
        have hstep' : step (st y true) = some (.inl (st w f')) := by
          rw [hstep y a1, hF, hw]
          show ob (fy (y + s)) _ = _
          rw [e1]; rfl
        obtain ⟨o, i1, i2⟩ := ih (y + s) w f' e2 (fun hf => by
          obtain ⟨b1, b2, _⟩ := e2.1 hf
          have := hr rfl
          cases up
          · rw [dB] at b2
            simp only [Bool.false_eq_true, if_false] at hs this ⊢
            omega
          · rw [cj] at b2
            simp only [if_true] at hs this ⊢
            omega) N (by omega)
        refine ⟨o, by rw [ae, hstep']; exact i1, ?_⟩
        have split : ∀ e', Y e' → Mk.ci up v e' → e' = y ∨ Mk.ci up (y + s) e' := fun e' h1 h2 => by
          have h3 := a3 e' h1 h2
          cases up
          · rw [dB] at h3 ⊢
            simp only [Bool.false_eq_true, if_false] at hs
            omega
          · rw [cj] at h3 ⊢
            simp only [if_true] at hs
            omega
        cases o with
        | none =>
          intro e he ha
          rcases split e he ha with rfl | h
          · exact hF
          · exact i2 e he h
        | some z =>
          obtain ⟨e, c1, c2, c3, c4⟩ := i2
          refine ⟨e, c1, ?_, c3, fun e' h1 h2 h3 => ?_⟩
          · cases up
            · rw [dB] at c2 a2 ⊢
              simp only [Bool.false_eq_true, if_false] at hs
              omega
            · rw [cj] at c2 a2 ⊢
              simp only [if_true] at hs
              omega
          · rcases split e' h1 h2 with rfl | h
            · exact hF
            · exact c4 e' h1 h h3
theorem pt {g l : Bool} {dg : List UInt8} {x : Int} (hok : okY g l dg x 0) : ∃ lo hi : Int, (∀ e, inP g dg x 0 e → lo ≤ e ∧ e ≤ hi) ∧ hi - lo ≤ 10000 ∧ -10000000000000000 ≤ lo ∧ hi ≤ 10000000000000000 := by
  cases hX : hasX dg with
  | false =>
    have hin := sY hok hX
    by_cases hv : -10000000000000000 ≤ (if g then -((val dg x.toNat : Nat) : Int) else ((val dg x.toNat : Nat) : Int)) ∧ (if g then -((val dg x.toNat : Nat) : Int) else ((val dg x.toNat : Nat) : Int)) ≤ 10000000000000000
    · refine ⟨_, _, fun e he => ?_, ?_, hv.1, hv.2⟩
      · rw [(hin e).1 he]; exact ⟨Int.le_refl _, Int.le_refl _⟩
      · omega
    · refine ⟨0, 0, fun e he => ?_, by omega, by omega, by omega⟩
      exfalso
      have := (hin e).1 he
      unfold inP at he
      exact hv ⟨by rw [← this]; exact he.1, by rw [← this]; exact he.2.1⟩
  | true =>
    have hin := ub hok hX
    obtain ⟨_, _, _, hl, hd⟩ := jV hok hX
    refine ⟨if g then -9999 else 0, if g then 0 else 9999, fun e he => ?_, by cases g <;> simp, by cases g <;> simp, by cases g <;> simp⟩
    have h := ((hin e).1 he).1
    have := (Mk.iW h).2.2.2.2
    rw [hl] at this
    have e4 : (10 : Int) ^ 4 = 10000 := by decide
    unfold wOf at this
    cases g
    · simp at this ⊢; omega
    · simp at this ⊢; omega
theorem qk {g : Bool} {dg : List UInt8} {x q e : Int} (h : inP g dg x q e) : bI e := ⟨h.1, h.2.1⟩
theorem vJ {g l : Bool} {dg : List UInt8} {x : Int} (hok : okY g l dg x 0) (m d : List UInt8) (k0 k1 k2 : Int) (cy cm cd : Int) (hcy : -9223372036854775808 ≤ cy ∧ cy < 9223372036854775808) (ms ds : List Int) (hm : wm d ms) (hd : ds.length ≤ 31) :
    ∃ o, br 20000000 g l dg x 0 m d k0 k1 k2 cy cm cd true ms ds = some (o.elim (0, 0, 0, false) fun z => (z.1, z.2.1, z.2.2, true)) ∧ uH true (inP g dg x 0) (sS true m d cy cm cd ms ds) cy o := by
  obtain ⟨lo, hi, hb, hw, hb0, hb1⟩ := pt hok
  obtain ⟨w, f, e1, e2⟩ := ye hok m d k0 k1 k2 cy hcy true ms ds
  obtain ⟨o, i1, i2⟩ := vA (step := ba 20000000) (st := fun y f => (1, y, f, ms, ds, g, l, dg, x, 0, m, d, k0, k1, k2, cy, cm, cd, true, 0, 0, 0)) (F := sS true m d cy cm cd ms ds) (Y := inP g dg x 0) (up := true) (s := 1) (lo := lo) (hi := hi) (E := (0, 0, 0)) (fy := fun v => aR 20000000 g l dg x 0 m d k0 k1 k2 v true ms ds)
    rfl hb hb0 hb1
    (fun y hy => yT 20000000 (by omega) 1 y (qk hy) ms ds g l dg x 0 m d k0 k1 k2 cy cm cd true 0 0 0 hm hd)
    (fun y => rfl)
    (fun v hv => ye hok m d k0 k1 k2 v hv true ms ds)
    10002 cy w f e2 (fun hf => by have := hb w (e2.1 hf).1; simp; omega) 20000000 (by omega)
  refine ⟨o, ?_, i2⟩
  unfold br d7
  simp only [Bool.not_true, cond_false, ob, d4, d8, d16, e1]
  have i1' : ae (ba 20000000) 20000000 (1, w, f, ms, ds, g, l, dg, x, 0, m, d, k0, k1, k2, cy, cm, cd, true, 0, 0, 0) = _ := i1
  rw [i1']
  cases o <;> rfl
theorem uJ (m d : List UInt8) (cm cd : Int) {cy e : Int} (h : e ≠ cy) (ms ds : List Int) : sS true m d cy cm cd ms ds e = none ↔ (ms.flatMap fun mo => (ds.filter fun k => decide (k ≤ oz d e mo)).map fun k => (e, mo, k)) = [] := by
  have hne : (e == cy) = false := beq_eq_false_iff_ne.2 h
  unfold sS
  rw [List.findSome?_eq_none_iff, List.flatMap_eq_nil_iff]
  have : ∀ mo, th true m d cy cm cd e ds mo = none ↔ ((ds.filter fun k => decide (k ≤ oz d e mo)).map fun k => (e, mo, k)) = [] := by
    intro mo
    unfold th xn vH
    rw [hne]
    simp only [Bool.false_and, Bool.false_eq_true, if_false, Option.map_eq_none_iff, List.find?_eq_none, List.map_eq_nil_iff, List.filter_eq_nil_iff]
    constructor
    · intro h1 k hk
      have := h1 k hk
      unfold p8 at this
      simpa using this
    · intro h1 k hk
      have := h1 k hk
      unfold p8
      simpa using this
  exact ⟨fun h1 mo hmo => (this mo).1 (h1 mo hmo), fun h1 mo hmo => (this mo).2 (h1 mo hmo)⟩
def hasF (g : Bool) (dg : List UInt8) (x : Int) (m d : List UInt8) : Prop := ∃ e, inP g dg x 0 e ∧ nZ m d e ≠ []
open Classical in
noncomputable def chkF (g l : Bool) (dg : List UInt8) (x q : Int) (m d : List UInt8) (k0 k1 k2 : Int) : Int :=
  if chkD g l dg x q m d k0 k1 k2 = 0 ∧ d ≠ [] ∧ ¬ hasF g dg x m d then 8 else chkD g l dg x q m d k0 k1 k2
theorem oW {g l : Bool} {dg : List UInt8} {x q : Int} {m d : List UInt8} {k0 k1 k2 : Int} (h : chkD g l dg x q m d k0 k1 k2 = 0) : okY g l dg x q ∧ (m = [] ∨ m.length = 2) ∧ (d = [] ∨ d.length = 2) ∧ (0 < q → m = []) ∧ (d ≠ [] → m ≠ [] ∧ sea m = 0) := by
  obtain ⟨c1, c2, c3, c4⟩ := wQ h
  unfold yrD at c1
  by_cases hok : okY g l dg x q
  · rw [if_pos hok] at c1
    refine ⟨hok, ?_, ?_, fun hq => ?_, fun hd => ?_⟩
    · rcases c2 with h | h | h
      · exact .inl h
      · exact .inr (vN h).1
      · exact .inr (kO (by omega) h).1
    · rcases c3 with h | ⟨_, _, h⟩
      · exact .inl h
      · exact .inr (kO (by omega) h).1
    · unfold yrB at c1
      simp only [Bool.and_eq_true, Bool.not_eq_true'] at c1
      have := c1.1
      rw [decide_eq_true hq, Bool.true_and] at this
      by_cases hm : m = []
      · exact hm
      · rw [cH hm] at this; cases this
    · rcases c3 with h | ⟨h1, h2, _⟩
      · exact absurd h hd
      · exact ⟨h1, h2⟩
  · rw [if_neg hok] at c1; cases c1
theorem Dr {g l : Bool} {dg : List UInt8} {x q : Int} (h : okY g l dg x q) : 0 ≤ q := (gY h).2.2.1
theorem yi {m d : List UInt8} (h : d ≠ [] → m ≠ [] ∧ sea m = 0) : wm d (monI m) := by
  refine ⟨Nat.le_trans (uN m) (by omega), fun hd mo hmo => ?_⟩
  obtain ⟨h1, h2⟩ := h hd
  unfold monI at hmo
  rw [if_neg h1, if_neg (by omega)] at hmo
  obtain ⟨k, hk, rfl⟩ := List.mem_map.1 hmo
  have := List.mem_range'_1.1 (List.mem_filter.1 hk).1
  omega
theorem tW {g l : Bool} {dg : List UInt8} {x q : Int} {m d : List UInt8} {k0 k1 k2 : Int} (hml : m.length ≤ 18) (hdl : dg.length ≤ 100) (h0 : 0 ≤ k0) (h1 : 0 ≤ k1) (h2 : 0 ≤ k2) :
    dM 20000000 g l dg x q m d k0 k1 k2 = some (chkF g l dg x q m d k0 k1 k2) := by
  unfold dM chkF
  rw [qM 20000000 (by omega) g l dg x q m d k0 k1 k2 hml hdl h0 h1 h2]
  simp only [ob]
  by_cases hc : chkD g l dg x q m d k0 k1 k2 = 0
  · obtain ⟨hok, hm2, hd2, hq, hdm⟩ := oW hc
    rw [hc]
    simp only [bne_self_eq_false, cond_false]
    by_cases hd : d = []
    · subst hd
      rw [if_neg (by simp)]; rfl
    · rw [cH hd, cond_false]
      have hq0 : q = 0 := by
        have := Dr hok
        by_cases h : 0 < q
        · exact absurd (hq h) (hdm hd).1
        · omega
      subst hq0
      obtain ⟨s, e, hs⟩ := Eu 20000000 (by omega) g l dg x 0 m d k0 k1 k2 hm2 hd2
      have hmo := yi hdm
      obtain ⟨o, o1, o2⟩ := vJ hok m d k0 k1 k2 (-9223372036854775808) 0 0 (by omega) (monI m) (dayI d) hmo (uj d)
      have hne : ∀ e, inP g dg x 0 e → e ≠ -9223372036854775808 := fun e he => by have := qk he; unfold bI at this; omega
      have key : (∃ z, o = some z) ↔ hasF g dg x m d := by
        constructor
        · rintro ⟨z, rfl⟩
          obtain ⟨e, c1, _, c3, _⟩ := o2
          refine ⟨e, c1, fun hn => ?_⟩
          have := (uJ m d 0 0 (hne e c1) (monI m) (dayI d)).2 hn
          rw [this] at c3; cases c3
        · rintro ⟨e, c1, c2⟩
          cases o with
          | some z => exact ⟨z, rfl⟩
          | none =>
            have := o2 e c1 (by rw [cj]; have := qk c1; unfold bI at this; omega)
            exact absurd ((uJ m d 0 0 (hne e c1) (monI m) (dayI d)).1 this) c2
      rw [e]
      by_cases hF : hasF g dg x m d
      · obtain ⟨z, rfl⟩ := key.2 hF
        rw [if_neg (fun h => h.2.2 hF)]
        rcases hs with rfl | rfl | rfl | rfl
        all_goals
          simp only [d4, d8, o1]
          rfl
      · have ho : o = none := by
          cases o with
          | none => rfl
          | some z => exact absurd (key.1 ⟨z, rfl⟩) hF
        subst ho
        rw [if_pos ⟨rfl, hd, hF⟩]
        rcases hs with rfl | rfl | rfl | rfl
        all_goals
          simp only [d4, d8, o1]
          rfl
  · rw [if_neg (fun h => hc h.1)]
    have : (chkD g l dg x q m d k0 k1 k2 != 0) = true := by simp [hc]
    rw [this]; rfl
theorem zO {g l : Bool} {dg : List UInt8} {x : Int} (hok : okY g l dg x 0) (m d : List UInt8) (k0 k1 k2 : Int) :
    ∃ r, fF 20000000 g l dg x 0 m d k0 k1 k2 = some r ∧ (r = 1 ∧ hasF g dg x m d ∨ r = 0 ∧ ¬ hasF g dg x m d) := by
  have hsm := gY hok
  obtain ⟨lo, hi, hb, hw, hb0, hb1⟩ := pt hok
  obtain ⟨s1, s2, s3⟩ := xp hok
  have hsp := zM 19999700 g l dg x 0 (by omega) hok
  unfold fF
  rw [show (20000000 : Nat) = 19999700 + 300 from rfl, hsp]
  simp only [ob]
  generalize (sgn g (jz g dg x 0)).1 = a at *
  generalize (sgn g (jz g dg x 0)).2 = b at *
  have ha := hb a s1
  have hb' := hb b s2
  have hY := fun y => C4 19999700 hok y
  have step : ∀ i y, ((List.range (b - a + 1).toNat).map (fun j : Nat => a + (j : Int)))[i]? = some y → i < (b - a + 1).toNat ∧ y = a + (i : Int) := by
    intro i y h
    rw [List.getElem?_map] at h
    cases hr : (List.range (b - a + 1).toNat)[i]? with
    | none => rw [hr] at h; cases h
    | some j =>
      rw [hr] at h
      have hi := List.getElem?_eq_some_iff.1 hr
      obtain ⟨h1, h2⟩ := hi
      rw [List.getElem_range] at h2
      rw [List.length_range] at h1
      subst h2
      exact ⟨h1, (Option.some.inj h).symm⟩
  have hlen : ((List.range (b - a + 1).toNat).map (fun j : Nat => a + (j : Int))).length = (b - a + 1).toNat := by simp
  have := lQ (step := cL (19999700 + 300)) (f := fun i => (b, a + (i : Int), g, l, dg, x, 0, m, d, k0, k1, k2)) (L := (List.range (b - a + 1).toNat).map (fun j : Nat => a + (j : Int))) (G := fun y => if inP g dg x 0 y ∧ nZ m d y ≠ [] then some (.inl 1) else none) (e := .inr ())
    (fun i y h => by
      obtain ⟨hi, rfl⟩ := step i y h
      have w1 : IntKind.wrap .i64 (a + (i : Int) + 1) = a + ((i + 1 : Nat) : Int) := by rw [wrap_i64 _ (by omega) (by omega)]; omega
      unfold cL
      simp only [d4, d8, w1]
      rw [decide_eq_true (show a + (i : Int) ≤ b by omega), hY, vi (19999700 + 300) (by omega)]
      by_cases hin : inP g dg x 0 (a + (i : Int))
      · rw [if_pos hin]
        by_cases hyr : nZ m d (a + (i : Int)) = []
        · rw [if_neg (fun h => h.2 hyr), hyr]; rfl
        · rw [if_pos ⟨hin, hyr⟩]
          have hp : 0 < (nZ m d (a + (i : Int))).length := List.length_pos_iff.2 hyr
          have hd : decide ((((nZ m d (a + (i : Int))).length : Nat) : Int) > 0) = true := decide_eq_true (by omega)
          simp only [cond_true, ob, hd]
          rfl
      · rw [if_neg hin, if_neg (fun h => hin h.1)]; rfl)
    (by
      unfold cL
      simp only [d4, d8]
      rw [hlen, decide_eq_false (show ¬ a + (((b - a + 1).toNat : Nat) : Int) ≤ b by omega)]
      rfl)
    (N := 19999700 + 300) (by rw [hlen]; omega)
  rw [show a + ((0 : Nat) : Int) = a by omega] at this
  rw [this]
  cases hfs : (List.findSome? (fun y => if inP g dg x 0 y ∧ nZ m d y ≠ [] then some (Sum.inl (1 : Int)) else none) ((List.range (b - a + 1).toNat).map (fun j : Nat => a + (j : Int))) : Option (Int ⊕ Unit)) with
  | none =>
    refine ⟨0, rfl, .inr ⟨rfl, ?_⟩⟩
    rintro ⟨e, he1, he2⟩
    rw [List.findSome?_eq_none_iff] at hfs
    have hs := s3 e he1
    have := hfs e (List.mem_map.2 ⟨(e - a).toNat, List.mem_range.2 (by omega), by omega⟩)
    rw [if_pos ⟨he1, he2⟩] at this
    cases this
  | some z =>
    obtain ⟨y, hy1, hy2⟩ := List.exists_of_findSome?_eq_some hfs
    by_cases hh : inP g dg x 0 y ∧ nZ m d y ≠ []
    · rw [if_pos hh] at hy2
      obtain rfl := Option.some.inj hy2
      exact ⟨1, rfl, .inl ⟨rfl, y, hh.1, hh.2⟩⟩
    · rw [if_neg hh] at hy2; cases hy2
theorem nE {g l : Bool} {dg : List UInt8} {x q : Int} {m d : List UInt8} {k0 k1 k2 : Int} (hdl : dg.length ≤ 100) (h0 : 0 ≤ k0) (h1 : 0 ≤ k1) (h2 : 0 ≤ k2) :
    cK 20000000 g l dg x q m d k0 k1 k2 = some (chkF g l dg x q m d k0 k1 k2) := by
  unfold cK chkF
  rw [sZ 20000000 (by omega) g l dg x q m d k0 k1 k2 hdl h0 h1 h2]
  simp only [ob]
  by_cases hc : chkD g l dg x q m d k0 k1 k2 = 0
  · obtain ⟨hok, hm2, hd2, hq, hdm⟩ := oW hc
    rw [hc]
    by_cases hd : d = []
    · subst hd
      rw [if_neg (by simp)]; rfl
    · have hq0 : q = 0 := by
        have := Dr hok
        by_cases h : 0 < q
        · exact absurd (hq h) (hdm hd).1
        · omega
      subst hq0
      obtain ⟨r, r1, r2⟩ := zO hok m d k0 k1 k2
      rw [cH hd, r1]
      rcases r2 with ⟨rfl, hF⟩ | ⟨rfl, hF⟩
      · rw [if_neg (fun h => h.2.2 hF)]; rfl
      · rw [if_pos ⟨rfl, hd, hF⟩]; rfl
  · rw [if_neg (fun h => hc h.1)]
    have : (chkD g l dg x q m d k0 k1 k2 == 0) = false := beq_eq_false_iff_ne.2 hc
    rw [this]; rfl
theorem nH {g l : Bool} {dg : List UInt8} {x q : Int} {m d : List UInt8} {k0 k1 k2 : Int} (h : chkF g l dg x q m d k0 k1 k2 = 0) : chkD g l dg x q m d k0 k1 k2 = 0 := by
  unfold chkF at h
  split at h
  · cases h
  · exact h
theorem bne0 {e : Int} (h : e ≠ 0) : (e != 0) = true := by simp [h]
theorem y9 {m d : List UInt8} {y : Int} {z : Int × Int × Int} : z ∈ nZ m d y ↔ z.1 = y ∧ z.2.1 ∈ monI m ∧ z.2.2 ∈ dayI d ∧ z.2.2 ≤ oz d y z.2.1 := by
  unfold nZ mQ
  simp only [List.mem_flatMap, List.mem_map, List.mem_filter, decide_eq_true_eq]
  constructor
  · rintro ⟨mo, h1, k, ⟨h2, h3⟩, rfl⟩; exact ⟨rfl, h1, h2, h3⟩
  · rintro ⟨h0, h1, h2, h3⟩
    exact ⟨z.2.1, h1, z.2.2, ⟨h2, h3⟩, by rw [← h0]⟩
def dayY (y : Int) : Int := 365 * y + (1 + (y - 1) / 4 - (y - 1) / 100 + (y - 1) / 400)
def cumM (y : Int) : Nat → Int
  | 0 => 0
  | k + 1 => cumM y k + lenI y ((k + 1 : Nat) : Int)
def dayM (y : Int) (m : Nat) : Int := if m ≤ 12 then dayY y + cumM y (m - 1) else dayY (y + 1) + cumM (y + 1) (m - 13)
theorem re (y : Int) : dayY (y + 1) = dayY y + 365 + (if ln y then 1 else 0) := by
  unfold dayY ln
  simp only [Bool.and_eq_true, Bool.or_eq_true, decide_eq_true_eq]
  split <;> omega
theorem uq (n : Int) : dayY (400 * n) = 146097 * n := by
  unfold dayY
  omega
theorem fe {y : Int} (h : -20000000000000000 ≤ y ∧ y ≤ 20000000000000000) : -8000000000000000000 ≤ dayY y ∧ dayY y ≤ 8000000000000000000 := by
  unfold dayY
  omega
theorem Ej (y : Int) : cumM y 12 = 365 + (if ln y then 1 else 0) := by
  have e : ∀ k : Nat, cumM y (k + 1) = cumM y k + lenI y ((k + 1 : Nat) : Int) := fun _ => rfl
  have z : cumM y 0 = 0 := rfl
  rw [e 11, e 10, e 9, e 8, e 7, e 6, e 5, e 4, e 3, e 2, e 1, e 0, z]
  unfold lenI
  cases ln y <;> rfl
theorem kn (y : Int) : ∀ k : Nat, 0 ≤ cumM y k ∧ cumM y k ≤ 31 * (k : Int)
  | 0 => by simp [cumM]
  | k + 1 => by
    have h1 := kn y k
    have h2 := fT y ((k + 1 : Nat) : Int)
    show 0 ≤ cumM y k + lenI y ((k + 1 : Nat) : Int) ∧ cumM y k + lenI y ((k + 1 : Nat) : Int) ≤ _
    omega
theorem ja {y : Int} (h : bI y) {m : Nat} (h2 : m ≤ 24) : -8100000000000000000 ≤ dayM y m ∧ dayM y m ≤ 8100000000000000000 := by
  unfold bI at h
  unfold dayM
  split
  · have := kn y (m - 1)
    have := fe (y := y) (by omega)
    omega
  · have := kn (y + 1) (m - 13)
    have := fe (y := y + 1) (by omega)
    omega
theorem Bz (y : Int) : dayM y 13 = dayY (y + 1) := by
  unfold dayM
  rw [if_neg (by omega)]
  simp [cumM]
theorem vX (y : Int) {m : Nat} (h1 : 1 ≤ m) (h2 : m ≤ 12) : dayM y (m + 1) = dayM y m + lenI y (m : Int) := by
  obtain ⟨k, rfl⟩ : ∃ k, m = k + 1 := ⟨m - 1, by omega⟩
  have e : dayM y (k + 1) = dayY y + cumM y k := by unfold dayM; rw [if_pos (by omega)]; rfl
  rw [e]
  by_cases h : k + 1 = 12
  · obtain rfl : k = 11 := by omega
    rw [Bz, re]
    have := Ej y
    have e : cumM y 12 = cumM y 11 + lenI y ((11 + 1 : Nat) : Int) := rfl
    omega
  · have : dayM y (k + 1 + 1) = dayY y + cumM y (k + 1) := by unfold dayM; rw [if_pos (by omega)]; rfl
    rw [this]
    show dayY y + (cumM y k + lenI y ((k + 1 : Nat) : Int)) = _
    omega
theorem r8 (y : Int) {m : Nat} (h1 : 1 ≤ m) (h2 : m ≤ 12) : dayM y (m + 12) = dayM (y + 1) m := by
  unfold dayM
  rw [if_neg (by omega), if_pos h2]
  congr 2
theorem kZ (n : Nat) {y : Int} (h : -10000000000000001 ≤ y ∧ y ≤ 10000000000000001) : fR n y = some (dayY y) := by
  have hr := fe (y := y) (by omega)
  unfold fR
  rw [nS n (by omega), wrap_i64 (365 * y) (by omega) (by omega)]
  show some (IntKind.wrap .i64 (dayY y)) = _
  rw [wrap_i64 _ (by omega) (by omega)]
theorem la (n : Nat) {y : Int} (h : bI y) : fP n y = some (dayY y, 0) := by
  unfold fP
  have h' := h
  unfold bI at h'
  rw [cR, if_pos h, kZ n (by omega)]
  rfl
theorem rf (n : Nat) {y : Int} (h : bI y) : lU n y = some (dayY (y + 1) - 1, 0) := by
  unfold lU
  have h' := h
  unfold bI at h'
  have hr := fe (y := y + 1) (by omega)
  rw [cR, if_pos h, wrap_i64 (y + 1) (by omega) (by omega), kZ n (by omega)]
  show some (IntKind.wrap .i64 (dayY (y + 1) - 1), (0 : Int)) = _
  rw [wrap_i64 _ (by omega) (by omega)]
theorem sR (n : Nat) {y : Int} (h : bI y) {m : Nat} (hm : m ≤ 11) : ∀ (r j : Nat), j + r = m → ∀ N, r < N → ae (aD n) N (y, dayY y + cumM y j, (m : Int), (j : Int)) = some (dayY y + cumM y m) := by
  have h' := h
  unfold bI at h'
  have hr := fe (y := y) (by omega)
  intro r
  induction r with
  | zero =>
    intro j hj N hN
    obtain ⟨N, rfl⟩ : ∃ k, N = k + 1 := ⟨N - 1, by omega⟩
    obtain rfl : j = m := by omega
    have : aD n (y, dayY y + cumM y j, (j : Int), (j : Int)) = some (.inr (dayY y + cumM y j)) := by
      unfold aD
      rw [aN, if_neg (show ¬ ((j : Int) < (j : Int)) by omega)]
    rw [ae, this]
  | succ r ih =>
    intro j hj N hN
    obtain ⟨N, rfl⟩ : ∃ k, N = k + 1 := ⟨N - 1, by omega⟩
    have w : IntKind.wrap .i64 ((j : Int) + 1) = ((j + 1 : Nat) : Int) := by rw [wrap_i64 _ (by omega) (by omega)]; omega
    have hc := kn y j
    have hl := fT y ((j + 1 : Nat) : Int)
    have : aD n (y, dayY y + cumM y j, (m : Int), (j : Int)) = some (.inl (y, dayY y + cumM y (j + 1), (m : Int), ((j + 1 : Nat) : Int))) := by
      unfold aD
      rw [aN, if_pos (show ((j : Int) < (m : Int)) by omega)]
      simp only [w, oO n h (show 1 ≤ j + 1 by omega) (show j + 1 ≤ 12 by omega), ob]
      rw [wrap_i64 (dayY y + cumM y j + lenI y ((j + 1 : Nat) : Int)) (by omega) (by omega), Int.add_assoc]
      rfl
    rw [ae, this]
    exact ih (j + 1) (by omega) N (by omega)
theorem l6 (n : Nat) (hn : 100 < n) {y : Int} (h : bI y) {m : Nat} (h1 : 1 ≤ m) (h2 : m ≤ 12) : ct n y (m : Int) = some (dayM y m, 0) := by
  unfold ct
  have w : IntKind.wrap .i64 ((m : Int) - 1) = ((m - 1 : Nat) : Int) := by rw [wrap_i64 _ (by omega) (by omega)]; omega
  rw [uR n h h1 h2, la n h, w]
  have := sR n h (m := m - 1) (by omega) (m - 1) 0 (by omega) n (by omega)
  rw [show dayY y + cumM y 0 = dayY y by simp [cumM]] at this
  show ob (ae (aD n) n (y, dayY y, ((m - 1 : Nat) : Int), ((0 : Nat) : Int))) _ = _
  rw [this]
  unfold dayM
  rw [if_pos h2]; rfl
theorem sU (n : Nat) (hn : 100 < n) {y : Int} (h : bI y) {m : Nat} (h1 : 1 ≤ m) (h2 : m ≤ 12) : dj n y (m : Int) = some (dayM y (m + 1) - 1, 0) := by
  unfold dj
  have hr := ja h (m := m) (by omega)
  have hl := fT y (m : Int)
  rw [l6 n hn h h1 h2, oO n h h1 h2, vX y h1 h2]
  show some (IntKind.wrap .i64 (IntKind.wrap .i64 (dayM y m + lenI y (m : Int)) - 1), (0 : Int)) = _
  rw [wrap_i64 (dayM y m + lenI y (m : Int)) (by omega) (by omega), wrap_i64 _ (by omega) (by omega)]
theorem vF (n : Nat) (hn : 100 < n) {y : Int} (h : bI y) {j m c : Nat} (hj : j < 21) (e : iD[j]? = some ((m : Int), (c : Int))) (h1 : 1 ≤ m) (h2 : m ≤ 12) (h3 : 1 ≤ c) (h4 : c ≤ 6) (hy : 12 < m + c - 1 → y ≠ 10000000000000000) :
    dx n y ((21 + j : Nat) : Int) = some (0, dayM y m, 0, dayM y (m + c) - 1, 0) := by
  have hM : cq n ((21 + j : Nat) : Int) = some ((m : Int), (c : Int), 0) := by
    unfold cq bv
    rw [aN, aN, if_neg (by omega), if_neg (by omega)]
    have : IntKind.wrap .i64 (((21 + j : Nat) : Int) - 21) = (j : Int) := by rw [wrap_i64 _ (by omega) (by omega)]; omega
    rw [this, dl hj]
    show ob (iD[j]?) _ = _
    rw [e]
    rfl
  unfold dx
  rw [hM]
  simp only [ob, bne_self_eq_false, cond_false]
  rw [l6 n hn h h1 h2]
  simp only [ob, bne_self_eq_false, cond_false]
  rw [madd n h h1 h2 h3 h4]
  have h' := h
  unfold bI at h'
  by_cases hb : 12 < m + c - 1
  · rw [if_pos hb, if_neg (hy hb)]
    have hc1 : bI (y + 1) := by unfold bI; have := hy hb; omega
    simp only [ob, bne_self_eq_false, cond_false]
    rw [sU n hn hc1 (m := m + c - 1 - 12) (by omega) (by omega)]
    have := r8 y (m := m + c - 1 - 12 + 1) (by omega) (by omega)
    rw [show m + c - 1 - 12 + 1 + 12 = m + c by omega] at this
    rw [this]
  · rw [if_neg hb]
    simp only [ob, bne_self_eq_false, cond_false]
    rw [sU n hn h (m := m + c - 1) (by omega) (by omega), show m + c - 1 + 1 = m + c by omega]
theorem pE (n : Nat) {y : Int} (hy : -10000000000000002 ≤ y ∧ y ≤ 10000000000000002) : ∀ (r : Nat) (z : Int), z + (r : Int) = y → -10000000000000402 ≤ z → ∀ N, r < N → ae (aZ n) N (y, dayY z, z) = some (dayY y) := by
  intro r
  induction r with
  | zero =>
    intro z hz hz2 N hN
    obtain ⟨N, rfl⟩ : ∃ k, N = k + 1 := ⟨N - 1, by omega⟩
    obtain rfl : z = y := by omega
    have : aZ n (z, dayY z, z) = some (.inr (dayY z)) := by
      unfold aZ
      rw [aN, if_neg (show ¬ (z < z) by omega)]
    rw [ae, this]
  | succ r ih =>
    intro z hz hz2 N hN
    obtain ⟨N, rfl⟩ : ∃ k, N = k + 1 := ⟨N - 1, by omega⟩
    have hr := fe (y := z) (by omega)
    have hst := re z
    have : aZ n (y, dayY z, z) = some (.inl (y, dayY (z + 1), z + 1)) := by
      unfold aZ
      rw [aN, if_pos (show z < y by omega), p9]
      have hl : lenI z 2 = if ln z then 29 else 28 := rfl
      simp only [ob, hl]
      rw [wrap_i64 (dayY z + 365) (by omega) (by omega), wrap_i64 (dayY z + 365 + 1) (by omega) (by omega), wrap_i64 (z + 1) (by omega) (by omega), hst]
      cases ln z
      · simp
      · rfl
    rw [ae, this]
    exact ih (z + 1) (by omega) (by omega) N (by omega)
theorem kD (n : Nat) (hn : 1000 < n) {y : Int} (hy : -10000000000000002 ≤ y ∧ y ≤ 10000000000000002) : aO n y = some (dayY y) := by
  have hd := Int.mul_tdiv_add_tmod y 400
  have ht : Int.tmod y 400 = if 0 ≤ y then y % 400 else -((-y) % 400) := by
    by_cases h : 0 ≤ y
    · rw [if_pos h, Int.tmod_eq_emod_of_nonneg h]
    · rw [if_neg h, ← Int.tmod_eq_emod_of_nonneg (show 0 ≤ -y by omega), Int.neg_tmod, Int.neg_neg]
  unfold aO
  by_cases hm : Int.tmod y 400 < 0
  · rw [decide_eq_true hm]
    have hq : Int.tdiv y 400 - 1 = y / 400 := by
      rw [ht] at hm hd
      split at hm
      · omega
      · rw [if_neg (by assumption)] at hd
        omega
    rw [wrap_i64 (Int.tdiv y 400) (by omega) (by omega), hq, wrap_i64 (y / 400) (by omega) (by omega), wrap_i64 (y / 400 * 146097) (by omega) (by omega), wrap_i64 (y / 400 * 400) (by omega) (by omega)]
    have := pE n hy (y - y / 400 * 400).toNat (y / 400 * 400) (by omega) (by omega) n (by omega)
    rw [show dayY (y / 400 * 400) = y / 400 * 146097 by rw [Int.mul_comm, uq, Int.mul_comm]] at this
    simp only [cond_true, this, ob]
  · rw [decide_eq_false hm]
    have hq : Int.tdiv y 400 = y / 400 := by
      rw [ht] at hm hd
      split at hm
      · rw [if_pos (by assumption)] at hd
        omega
      · rw [if_neg (by assumption)] at hd
        omega
    rw [hq, wrap_i64 (y / 400) (by omega) (by omega), wrap_i64 (y / 400 * 146097) (by omega) (by omega), wrap_i64 (y / 400 * 400) (by omega) (by omega)]
    have := pE n hy (y - y / 400 * 400).toNat (y / 400 * 400) (by omega) (by omega) n (by omega)
    rw [show dayY (y / 400 * 400) = y / 400 * 146097 by rw [Int.mul_comm, uq, Int.mul_comm]] at this
    simp only [cond_false, this, ob]
theorem nG {step : Int × Int × Int × Int → Option ((Int × Int × Int × Int) ⊕ Int)} (n : Nat)
    (hs : step = fun x => (cond (decide (x.2.2.2 < x.2.1)) (ob (bR n x.1 x.2.2.2) fun r => (some (.inl (x.1, x.2.1, (IntKind.wrap .i64 (x.2.2.1 + r)), (IntKind.wrap .i64 (x.2.2.2 + 1)))))) (some (.inr x.2.2.1))))
    {y : Int} (hy : -10000000000000002 ≤ y ∧ y ≤ 10000000000000002) {m : Nat} (h1 : 1 ≤ m) (h2 : m ≤ 12) {N : Nat} (hN : 20 < N) : ae step N (y, (m : Int), dayY y, 1) = some (dayM y m) := by
  have hr := fe (y := y) (by omega)
  have go : ∀ (r j : Nat), j + 1 + r = m → ∀ N, r < N → ae step N (y, (m : Int), dayY y + cumM y j, ((j + 1 : Nat) : Int)) = some (dayY y + cumM y (m - 1)) := by
    intro r
    induction r with
    | zero =>
      intro j hj N hN
      obtain ⟨N, rfl⟩ : ∃ k, N = k + 1 := ⟨N - 1, by omega⟩
      obtain rfl : j + 1 = m := by omega
      have : step (y, ((j + 1 : Nat) : Int), dayY y + cumM y j, ((j + 1 : Nat) : Int)) = some (.inr (dayY y + cumM y j)) := by
        rw [hs]
        simp only []
        rw [decide_eq_false (show ¬ (((j + 1 : Nat) : Int) < ((j + 1 : Nat) : Int)) by omega)]
        rfl
      rw [ae, this]
      rfl
    | succ r ih =>
      intro j hj N hN
      obtain ⟨N, rfl⟩ : ∃ k, N = k + 1 := ⟨N - 1, by omega⟩
      have w : IntKind.wrap .i64 (((j + 1 : Nat) : Int) + 1) = ((j + 1 + 1 : Nat) : Int) := by rw [wrap_i64 _ (by omega) (by omega)]; omega
      have hc := kn y j
      have hl := fT y ((j + 1 : Nat) : Int)
      have : step (y, (m : Int), dayY y + cumM y j, ((j + 1 : Nat) : Int)) = some (.inl (y, (m : Int), dayY y + cumM y (j + 1), ((j + 1 + 1 : Nat) : Int))) := by
        rw [hs]
        simp only []
        rw [decide_eq_true (show (((j + 1 : Nat) : Int) < (m : Int)) by omega), p9]
        simp only [cond_true, ob, w]
        rw [wrap_i64 (dayY y + cumM y j + lenI y ((j + 1 : Nat) : Int)) (by omega) (by omega), Int.add_assoc]
        rfl
      rw [ae, this]
      exact ih (j + 1) (by omega) N (by omega)
  have := go (m - 1) 0 (by omega) N (by omega)
  rw [show dayY y + cumM y 0 = dayY y by simp [cumM]] at this
  have e : dayM y m = dayY y + cumM y (m - 1) := by unfold dayM; rw [if_pos h2]
  rw [e]
  exact this
theorem jX (n : Nat) (hn : 1000 < n) {y : Int} (hy : -10000000000000001 ≤ y ∧ y ≤ 10000000000000001) {m : Nat} (h1 : 1 ≤ m) (h2 : m ≤ 24) : am n y (m : Int) = some (dayM y m) := by
  unfold am
  by_cases h : 12 < m
  · rw [decide_eq_true (show (m : Int) > 12 by omega), wrap_i64 (y + 1) (by omega) (by omega), wrap_i64 ((m : Int) - 12) (by omega) (by omega), show (m : Int) - 12 = ((m - 12 : Nat) : Int) by omega]
    unfold eU
    rw [decide_eq_false (show ¬ ((m - 12 : Nat) : Int) > 12 by omega), kD n hn (by omega)]
    simp only [cond_true, cond_false, ob]
    have := nG (step := dO n) n rfl (y := y + 1) (by omega) (m := m - 12) (by omega) (by omega) (N := n) (by omega)
    rw [this, ← r8 y (by omega) (by omega), show m - 12 + 12 = m by omega]
  · rw [decide_eq_false (show ¬ (m : Int) > 12 by omega), kD n hn (by omega)]
    simp only [cond_false, ob]
    have := nG (step := eT n) n rfl (y := y) (by omega) (m := m) (by omega) (by omega) (N := n) (by omega)
    rw [this]
def twoV (s : List UInt8) : Nat := match s with
  | [a, b] => 10 * (a.toNat - 48) + (b.toNat - 48)
  | _ => 0
def yOf (g : Bool) (dg : List UInt8) (x : Int) : Int := if g then -((val dg x.toNat : Nat) : Int) else ((val dg x.toNat : Nat) : Int)
def spF (m : List UInt8) : Nat := ((iD.getD (sea m - 21).toNat (0, 0)).1).toNat
def spC (m : List UInt8) : Nat := ((iD.getD (sea m - 21).toNat (0, 0)).2).toNat
def jc (g : Bool) (dg : List UInt8) (x : Int) (m d : List UInt8) : Int × Int :=
  if m = [] then (dayY (yOf g dg x), dayY (yOf g dg x + 1) - 1)
  else if 0 < sea m then (dayM (yOf g dg x) (spF m), dayM (yOf g dg x) (spF m + spC m) - 1)
  else if d = [] then (dayM (yOf g dg x) (twoV m), dayM (yOf g dg x) (twoV m + 1) - 1)
  else (dayM (yOf g dg x) (twoV m) + (twoV d : Int) - 1, dayM (yOf g dg x) (twoV m) + (twoV d : Int) - 1)
def exD (dg m d : List UInt8) (q : Int) : Bool := !(hasX dg || (hasX m || hasX d)) && (q == 0)
theorem AJ {s : List UInt8} (h : hasX s = false) {c : UInt8} (hc : c ∈ s) : c ≠ 88 := by
  rintro rfl
  unfold hasX at h
  rw [List.any_eq_false] at h
  exact h 88 hc (by decide)
theorem wy {s : List UInt8} (h : hasX s = false) {k : Nat} (hk : k < 100) (ha : agr s k = true) : twoV s = k ∧ s = two k := by
  unfold agr at ha
  split at ha
  · rename_i a b
    have ha1 : a ≠ 88 := AJ h (by simp)
    have hb1 : b ≠ 88 := AJ h (by simp)
    simp only [Bool.and_eq_true, Bool.or_eq_true, beq_iff_eq] at ha
    obtain ⟨h1, h2⟩ := ha
    have h1 := h1.resolve_left ha1
    have h2 := h2.resolve_left hb1
    subst h1 h2
    refine ⟨?_, rfl⟩
    unfold twoV
    have n1 : (UInt8.ofNat (48 + k / 10)).toNat = 48 + k / 10 := by simp; omega
    have n2 : (UInt8.ofNat (48 + k % 10)).toNat = 48 + k % 10 := by simp; omega
    simp only [n1, n2]
    omega
  · cases ha
theorem pB {s : List UInt8} (h : hasX s = false) {g : Nat} (hg : g < 100) (ha : dR s g = true) : 1 ≤ twoV s ∧ twoV s ≤ g ∧ s = two (twoV s) := by
  unfold dR at ha
  obtain ⟨i, hi, ha⟩ := List.any_eq_true.1 ha
  have := List.mem_range.1 hi
  obtain ⟨e1, e2⟩ := wy h (by omega) ha
  rw [e1]
  exact ⟨by omega, by omega, e2⟩
theorem vM {s : List UInt8} (h : hasX s = false) {g : Nat} (hg : g < 100) {k : Int} (hk : k ∈ me (fitN s g)) : k = (twoV s : Int) := by
  obtain ⟨i, hi, rfl⟩ := List.mem_map.1 hk
  obtain ⟨h1, h2⟩ := List.mem_filter.1 hi
  have := List.mem_range'_1.1 h1
  rw [(wy h (by omega) h2).1]
theorem uy {k : Nat} (hk : k < 100) : Lib.atoi (two k) = some (k : Int) := by
  have n1 : (UInt8.ofNat (48 + k / 10)).toNat = 48 + k / 10 := by simp; omega
  have n2 : (UInt8.ofNat (48 + k % 10)).toNat = 48 + k % 10 := by simp; omega
  unfold two
  rw [zE (by omega) (by omega), n1, n2]
  congr 2
  omega
theorem pC (n : Nat) {k : Nat} (hk : k < 100) : au n (two k) = some (k : Int) := by
  have n1 : (UInt8.ofNat (48 + k / 10)).toNat = 48 + k / 10 := by simp; omega
  have n2 : (UInt8.ofNat (48 + k % 10)).toNat = 48 + k % 10 := by simp; omega
  have s0 : sx (two k) 0 = some (UInt8.ofNat (48 + k / 10)) := rfl
  have s1 : sx (two k) 1 = some (UInt8.ofNat (48 + k % 10)) := rfl
  unfold au
  rw [s0, s1]
  simp only [ob, n1, n2]
  rw [fY (((48 + k / 10 : Nat) : Int) - 48) (by omega) (by omega), fY (((48 + k % 10 : Nat) : Int) - 48) (by omega) (by omega),
    wrap_i64 (((48 + k / 10 : Nat) : Int) - 48) (by omega) (by omega), wrap_i64 (((48 + k % 10 : Nat) : Int) - 48) (by omega) (by omega),
    wrap_i64 (10 * (((48 + k / 10 : Nat) : Int) - 48)) (by omega) (by omega), wrap_i64 _ (by omega) (by omega)]
  congr 1
  omega
structure Exact (g l : Bool) (dg : List UInt8) (x : Int) (m d : List UInt8) : Prop where
  ok : okY g l dg x 0
  num : hasX dg = false
  cal : bI (yOf g dg x)
  mon : m = [] ∨ (∃ j, j < 21 ∧ m = two (21 + j) ∧ (j = 3 ∨ j = 7 ∨ j = 9 → yOf g dg x ≠ 10000000000000000)) ∨ (sea m = 0 ∧ 1 ≤ twoV m ∧ twoV m ≤ 12 ∧ m = two (twoV m))
  day : d = [] ∨ (m ≠ [] ∧ sea m = 0 ∧ 1 ≤ twoV d ∧ twoV d ≤ 31 ∧ d = two (twoV d) ∧ (twoV d : Int) ≤ lenI (yOf g dg x) (twoV m : Int))
theorem qF {g l : Bool} {dg : List UInt8} {x q : Int} {m d : List UInt8} {k0 k1 k2 : Int} (hc : chkF g l dg x q m d k0 k1 k2 = 0) (he : exD dg m d q = true) : q = 0 ∧ Exact g l dg x m d := by
  unfold exD at he
  simp only [Bool.and_eq_true, Bool.not_eq_true', Bool.or_eq_false_iff, beq_iff_eq] at he
  obtain ⟨⟨hX, hXm, hXd⟩, rfl⟩ := he
  refine ⟨rfl, ?_⟩
  have hD := nH hc
  obtain ⟨hok, hm2, hd2, hq, hdm⟩ := oW hD
  obtain ⟨c1, c2, c3, c4⟩ := wQ hD
  have hin := sY hok hX
  obtain ⟨s1, _, _⟩ := xp hok
  have hy : inP g dg x 0 (yOf g dg x) := by
    have := (hin _).1 s1
    have e : yOf g dg x = (sgn g (jz g dg x 0)).1 := by rw [this]; rfl
    rw [e]
    exact s1
  have hcal := qk hy
  refine ⟨hok, hX, hcal, ?_, ?_⟩
  · by_cases hm : m = []
    · exact .inl hm
    · right
      rcases jo m with h0 | ⟨j, hj, e⟩
      · right
        rcases c2 with h | h | h
        · exact absurd h hm
        · omega
        · obtain ⟨a1, a2, a3⟩ := pB hXm (by omega) h
          exact ⟨h0, a1, a2, a3⟩
      · left
        refine ⟨j, hj, e, fun hw => ?_⟩
        unfold yrD at c1
        rw [if_pos hok] at c1
        unfold yrB at c1
        simp only [Bool.and_eq_true, Bool.not_eq_true'] at c1
        have hwt : wint (sea m) = true := by
          rw [e, fV hj]
          rcases hw with rfl | rfl | rfl <;> rfl
        have hl := c1.2
        rw [hwt, Bool.true_and] at hl
        unfold mN at hl
        rw [hX] at hl
        intro hyE
        unfold yOf at hyE
        cases g with
        | true =>
          simp only [if_true] at hyE
          omega
        | false =>
          simp only [Bool.false_eq_true, if_false] at hyE
          have : val dg x.toNat = E16 := by unfold E16; omega
          rw [decide_eq_true this] at hl
          cases hl
  · by_cases hd : d = []
    · exact .inl hd
    · right
      obtain ⟨hm, hs⟩ := hdm hd
      rcases c3 with h | ⟨_, _, h⟩
      · exact absurd h hd
      · obtain ⟨a1, a2, a3⟩ := pB hXd (by omega) h
        refine ⟨hm, hs, a1, a2, a3, ?_⟩
        have hF : hasF g dg x m d := by
          unfold chkF at hc
          split at hc
          · cases hc
          · rename_i hn
            by_cases h : hasF g dg x m d
            · exact h
            · exact absurd ⟨hD, hd, h⟩ hn
        obtain ⟨e, he, hne⟩ := hF
        obtain ⟨z, L, hz⟩ := List.exists_cons_of_ne_nil hne
        have hz : z ∈ nZ m d e := by rw [hz]; exact List.mem_cons_self
        obtain ⟨z1, z2, z3, z4⟩ := y9.1 hz
        have hey : e = yOf g dg x := (hin e).1 he
        unfold monI at z2
        rw [if_neg hm, if_neg (by omega)] at z2
        unfold dayI at z3
        rw [if_neg hd] at z3
        unfold oz at z4
        rw [if_neg hd, vM hXd (by omega) z3, vM hXm (by omega) z2, hey] at z4
        exact z4
theorem vR {j : Nat} (hj : j < 21) : ∃ f c : Nat, iD[j]? = some ((f : Int), (c : Int)) ∧ 1 ≤ f ∧ f ≤ 12 ∧ 1 ≤ c ∧ c ≤ 6 ∧ (12 < f + c - 1 ↔ j = 3 ∨ j = 7 ∨ j = 9) ∧ spF (two (21 + j)) = f ∧ spC (two (21 + j)) = c := by
  obtain ⟨f, c, e, h1, h2, h3, h4, h5⟩ := tQ hj
  have hs : (sea (two (21 + j)) - 21).toNat = j := by rw [fV hj]; omega
  have hg : iD.getD j (0, 0) = ((f : Int), (c : Int)) := by rw [List.getD_eq_getElem?_getD, e]; rfl
  refine ⟨f, c, e, h1, h2, h3, h4, h5, ?_, ?_⟩
  · unfold spF; rw [hs, hg]; rfl
  · unfold spC; rw [hs, hg]; rfl
theorem rT (n : Nat) {j : Nat} (hj : j < 21) : de n ((21 + j : Nat) : Int) = iD[j]? := by
  have : j = 0 ∨ j = 1 ∨ j = 2 ∨ j = 3 ∨ j = 4 ∨ j = 5 ∨ j = 6 ∨ j = 7 ∨ j = 8 ∨ j = 9 ∨ j = 10 ∨ j = 11 ∨ j = 12 ∨ j = 13 ∨ j = 14 ∨ j = 15 ∨ j = 16 ∨ j = 17 ∨ j = 18 ∨ j = 19 ∨ j = 20 := by omega
  rcases this with rfl | rfl | rfl | rfl | rfl | rfl | rfl | rfl | rfl | rfl | rfl | rfl | rfl | rfl | rfl | rfl | rfl | rfl | rfl | rfl | rfl <;> rfl
theorem uY (n : Nat) (g l : Bool) (dg : List UInt8) (x q : Int) (m d : List UInt8) (k0 k1 k2 : Int) (hm : m.length ≤ 1000) (hd : dg.length ≤ 1000) (h : d.length ≤ 1000) : fg n g l dg x q m d k0 k1 k2 = some (exD dg m d q) := by
  unfold fg exD
  rw [yn n g l dg x q m d k0 k1 k2 hm hd h]
  simp only [ob]
  cases (hasX dg || (hasX m || hasX d)) <;> rfl
theorem Ax {Y : Type} (a b : Y) : ∀ s : List UInt8, ((s.findSome? fun c => if c = 88 then some a else none).getD b) = if hasX s then a else b
  | [] => rfl
  | c :: s => by
    have ih := Ax a b s
    unfold hasX at ih ⊢
    rw [List.findSome?_cons, List.any_cons]
    by_cases hc : c = 88
    · subst hc; rfl
    · rw [if_neg hc]
      have e : (c == 88) = false := beq_eq_false_iff_ne.2 hc
      rw [e, Bool.false_or]
      exact ih
theorem pd (n : Nat) (s : List UInt8) (g l : Bool) (dg : List UInt8) (x q : Int) (m d : List UInt8) (k0 k1 k2 : Int) (hs : s.length ≤ 100000) {N : Nat} (hN : s.length < N) :
    ae (bM n) N (s, 0, g, l, dg, x, q, m, d, k0, k1, k2) = some (if hasX s then .inl 0 else .inr (g, l, dg, x, q, m, d, k0, k1, k2)) := by
  have := lQ (step := bM n) (f := fun i => (s, (i : Int), g, l, dg, x, q, m, d, k0, k1, k2)) (L := s) (G := fun c => if c = 88 then some (.inl 0) else none) (e := .inr (g, l, dg, x, q, m, d, k0, k1, k2))
    (fun i c hi => by
      have hil := (List.getElem?_eq_some_iff.1 hi).1
      have w1 : IntKind.wrap .i64 ((i : Int) + 1) = ((i + 1 : Nat) : Int) := by rw [wrap_i64 _ (by omega) (by omega)]; omega
      unfold bM
      simp only [d4, d8, w1]
      rw [decide_eq_true (show (i : Int) < ((s.length : Nat) : Int) by omega), gT hi]
      simp only [cond_true, ob]
      by_cases hc : c = 88
      · subst hc
        rw [if_pos rfl]; rfl
      · rw [if_neg hc]
        have : (((c.toNat : Nat) : Int) == 88) = false := by
          rw [beq_eq_false_iff_ne]
          intro h
          apply hc
          apply UInt8.toNat_inj.1
          have : c.toNat = 88 := by omega
          rw [this]; rfl
        rw [this]; rfl)
    (by
      unfold bM
      simp only [d4, d8]
      rw [decide_eq_false (show ¬ ((s.length : Nat) : Int) < ((s.length : Nat) : Int) by omega)]; rfl)
    hN
  rw [show ((0 : Nat) : Int) = 0 from rfl] at this
  rw [this]
  rw [Ax]
theorem sB (n : Nat) (g l : Bool) (dg : List UInt8) (x q : Int) (m d : List UInt8) (k0 k1 k2 : Int) (hm : m.length ≤ 1000) (hd : dg.length ≤ 1000) (h : d.length ≤ 1000) (hn : 4000 < n) : dC n g l dg x q m d k0 k1 k2 = some (if exD dg m d q then 1 else 0) := by
  unfold dC
  rw [eB (by omega)]
  simp only [ob]
  rw [eB (by rw [List.length_append]; omega)]
  simp only []
  rw [pd n _ _ _ _ _ _ _ _ _ _ _ (by simp only [List.length_append]; omega) (by simp only [List.length_append]; omega)]
  rw [nz, nz]
  unfold exD
  cases hasX dg <;> cases hasX m <;> cases hasX d <;> (try rfl)
  simp only [Bool.or_false, Bool.false_eq_true, if_false, ob, d4, Bool.not_false, Bool.true_and]
  by_cases hq : q = 0
  · subst hq; rfl
  · have e1 : (q != 0) = true := by simp [hq]
    have e2 : (q == 0) = false := beq_eq_false_iff_ne.2 hq
    rw [e1, e2]; rfl
theorem B3 (n : Nat) (hn : 100 < n) {y : Int} (h : bI y) {m k : Nat} (h1 : 1 ≤ m) (h2 : m ≤ 12) (k1 : 1 ≤ k) (k2 : (k : Int) ≤ lenI y (m : Int)) : kP n y (m : Int) (k : Int) = some (dayM y m + (k : Int) - 1, 0) := by
  have hr := ja h (m := m) (by omega)
  have hl := fT y (m : Int)
  unfold kP ka
  rw [vP n h h1 h2]
  simp only [ob, bne_self_eq_false, cond_false]
  rw [decide_eq_false (show ¬ (k : Int) < 1 by omega), decide_eq_false (show ¬ (k : Int) > lenI y (m : Int) by omega), l6 n hn h h1 h2]
  simp only [ob, bne_self_eq_false, cond_false]
  rw [wrap_i64 (dayM y m + (k : Int)) (by omega) (by omega), wrap_i64 _ (by omega) (by omega)]
section
variable {g l : Bool} {dg : List UInt8} {x : Int} {m d : List UInt8} {k0 k1 k2 : Int}
theorem tb (n : Nat) (hn : 100 < n) (hml : m.length ≤ 18) (E : Exact g l dg x m d) (v1 v2 : Int) (h1 : m ≠ [] → v1 = if 0 < sea m then sea m else (twoV m : Int)) (h2 : d ≠ [] → v2 = (twoV d : Int)) :
    (ob (ee n) fun y4625 => (ob (aT n g l dg x 0 m d k0 k1 k2) fun r4626 => (cond (r4626 == 0) (ob (cY n (yOf g dg x) ([v1, v2] : List (Int))) fun y4633 => (some (y4633.1, y4633.2.1, y4633.2.2.1, y4633.2.2.2, (0 : Int)))) (cond (r4626 == 1) (ob (cZ n (yOf g dg x) ([v1, v2] : List (Int))) fun y4644 => (some (y4644.1, y4644.2.1, y4644.2.2.1, y4644.2.2.2, 0))) (cond (r4626 == 2) (ob (cS n (yOf g dg x) ([v1, v2] : List (Int))) fun y4659 => (some (y4659.1, y4659.2.1, y4659.2.2.1, y4659.2.2.2, 0))) (cond (r4626 == 3) (ob (cQ n (yOf g dg x) ([v1, v2] : List (Int))) fun y4675 => (some (y4675.1, y4675.2.1, y4675.2.2.1, y4675.2.2.2, 0))) none)))))) =
      some (0, (jc g dg x m d).1, 0, (jc g dg x m d).2, 0) := by
  have hu : ee n = some () := rfl
  have i0 : ix ([v1, v2] : List Int).length 0 = some 0 := rfl
  have i1 : ix ([v1, v2] : List Int).length 1 = some 1 := rfl
  have g0 : ([v1, v2] : List Int)[0]? = some v1 := rfl
  have g1 : ([v1, v2] : List Int)[1]? = some v2 := rfl
  rw [hu, BV n g l dg x 0 m d k0 k1 k2 hml]
  unfold jc
  by_cases hd : d = []
  · rw [if_pos hd]
    by_cases hm : m = []
    · have hs : sea m = 0 := by rw [hm]; decide
      rw [if_neg (show ¬ 0 < sea m by omega), if_pos hm, if_pos hm]
      unfold cZ
      rw [la n E.cal, rf n E.cal]
      rfl
    · rw [if_neg hm]
      by_cases hs : 0 < sea m
      · rw [if_pos hs, if_pos hs]
        rcases E.mon with h | ⟨j, hj, e, hw⟩ | ⟨h, _⟩
        · exact absurd h hm
        · obtain ⟨f, c, e1, a1, a2, a3, a4, a5, a6, a7⟩ := vR hj
          have hv : v1 = ((21 + j : Nat) : Int) := by rw [h1 hm, if_pos hs, e, fV hj]
          unfold cY
          rw [i0]
          simp only [ob, g0]
          rw [hv, vF n hn E.cal hj e1 a1 a2 a3 a4 (fun h => hw (a5.1 h)), e, a6, a7]
          rfl
        · omega
      · rw [if_neg hs, if_neg hs, if_neg hm, if_pos hd]
        rcases E.mon with h | ⟨j, hj, e, hw⟩ | ⟨_, a1, a2, _⟩
        · exact absurd h hm
        · rw [e, fV hj] at hs; omega
        · have hv : v1 = (twoV m : Int) := by rw [h1 hm, if_neg hs]
          unfold cS
          rw [i0]
          simp only [ob, g0]
          rw [hv, l6 n hn E.cal a1 a2, sU n hn E.cal a1 a2]
          rfl
  · rw [if_neg hd]
    rcases E.day with h | ⟨hm, hs, b1, b2, b3, b4⟩
    · exact absurd h hd
    · rw [if_neg hm, if_neg (show ¬ 0 < sea m by omega), if_neg hd]
      rcases E.mon with h | ⟨j, hj, e, hw⟩ | ⟨_, a1, a2, _⟩
      · exact absurd h hm
      · rw [e, fV hj] at hs; omega
      · have hv1 : v1 = (twoV m : Int) := by rw [h1 hm, if_neg (by omega)]
        have hv2 := h2 hd
        unfold cQ
        rw [i0, i1]
        simp only [ob, g0, g1]
        rw [hv1, hv2, B3 n hn E.cal a1 a2 b1 b4]
        rfl
theorem yD (E : Exact g l dg x m d) (hm : m ≠ []) : Lib.atoi m = some (if 0 < sea m then sea m else (twoV m : Int)) := by
  rcases E.mon with h | ⟨j, hj, e, _⟩ | ⟨h0, a1, a2, a3⟩
  · exact absurd h hm
  · rw [e, fV hj, if_pos (by omega)]
    exact oY hj
  · rw [if_neg (by omega)]
    have := uy (k := twoV m) (by omega)
    rw [← a3] at this
    exact this
theorem zt (E : Exact g l dg x m d) (hd : d ≠ []) : Lib.atoi d = some (twoV d : Int) := by
  rcases E.day with h | ⟨_, _, a1, a2, a3, _⟩
  · exact absurd h hd
  · have := uy (k := twoV d) (by omega)
    rw [← a3] at this
    exact this
theorem qN : Lib.atoi [] = none := by kernel_rfl
theorem tz {q : Int} (hml : m.length ≤ 18) (hdl : dg.length ≤ 100) (hd : d.length ≤ 18) (h0 : 0 ≤ k0) (h1 : 0 ≤ k1) (h2 : 0 ≤ k2) :
    dr 20000000 g l dg x q m d k0 k1 k2 = some (if chkF g l dg x q m d k0 k1 k2 = 0 then (if exD dg m d q = true then (0, (jc g dg x m d).1, 0, (jc g dg x m d).2, 0) else (0, 0, 0, 0, 1)) else (0, 0, 0, 0, chkF g l dg x q m d k0 k1 k2)) := by
  have lm : Nat.ble m.length 18 = true := Nat.ble_eq_true_of_le hml
  have ld : Nat.ble d.length 18 = true := Nat.ble_eq_true_of_le hd
  unfold dr
  rw [tW hml hdl h0 h1 h2]
  simp only [ob]
  by_cases hc : chkF g l dg x q m d k0 k1 k2 = 0
  · rw [if_pos hc, hc, uY 20000000 g l dg x q m d k0 k1 k2 (by omega) (by omega) (by omega)]
    simp only [ob, bne_self_eq_false, cond_false]
    by_cases he : exD dg m d q = true
    · rw [if_pos he, he]
      obtain ⟨rfl, E⟩ := qF hc he
      have hv : bU 20000000 g l dg x 0 = some (yOf g dg x, 0) := by
        rw [qB 20000000 g l dg x 0 (by omega) hdl, if_pos ⟨E.ok, E.num⟩]
        rfl
      rw [hv, lm, ld]
      simp only [Bool.not_true, cond_false, cond_true, ob]
      by_cases hm : m = []
      · have hd0 : d = [] := by
          rcases E.day with h | ⟨h, _⟩
          · exact h
          · exact absurd hm h
        have := tb (k0 := k0) (k1 := k1) (k2 := k2) 20000000 (by omega) hml E 0 0 (fun h => absurd hm h) (fun h => absurd hd0 h)
        have ea : Lib.atoi m = none := by rw [hm]; exact qN
        have eb : Lib.atoi d = none := by rw [hd0]; exact qN
        rw [ea, eb]
        simp only [opt]
        exact this
      · have ea := yD E hm
        by_cases hd0 : d = []
        · have := tb (k0 := k0) (k1 := k1) (k2 := k2) 20000000 (by omega) hml E (if 0 < sea m then sea m else (twoV m : Int)) 0 (fun _ => rfl) (fun h => absurd hd0 h)
          have eb : Lib.atoi d = none := by rw [hd0]; exact qN
          rw [ea, eb]
          simp only [opt]
          exact this
        · have := tb (k0 := k0) (k1 := k1) (k2 := k2) 20000000 (by omega) hml E (if 0 < sea m then sea m else (twoV m : Int)) (twoV d : Int) (fun _ => rfl) (fun _ => rfl)
          rw [ea, zt E hd0]
          simp only [opt]
          exact this
    · rw [if_neg he]
      rw [Bool.not_eq_true] at he
      rw [he]; rfl
  · rw [if_neg hc, bne0 hc]; rfl
theorem pT (E : Exact g l dg x m d) (hdl : dg.length ≤ 100) : cw 20000000 g l dg x 0 m d k0 k1 k2 = some (jc g dg x m d) := by
  obtain ⟨k, q, rfl, hq, hN⟩ := lR E.ok E.num
  have hk : k ≤ 17 := by have := hN.wide; omega
  have hs := hN.small
  have hmag : aa 20000000 dg (k : Int) = some (((val dg k : Nat) : Int), 1) := by
    rw [ek 20000000 dg k hN.dig hdl (by omega) (by omega), if_pos hN.small]
    rfl
  have hv : dval 0 dg * 10 ^ k = val dg k := rfl
  rw [hv] at hs
  unfold E16 at hs
  have hy : yOf g dg (k : Int) = if g then -((val dg k : Nat) : Int) else ((val dg k : Nat) : Int) := by unfold yOf; rw [Int.toNat_natCast]
  have hcal := E.cal
  unfold bI at hcal
  have key : ∀ y : Int, y = yOf g dg (k : Int) →
      (ob (av 20000000 g l dg (k : Int) 0 m d k0 k1 k2) fun r5010 => (cond (m == ([] : List UInt8)) (ob (aO 20000000 y) fun r5011 => (ob (aO 20000000 (IntKind.wrap .i64 (y + 1))) fun r5012 => (some (r5011, (IntKind.wrap .i64 (r5012 - 1)))))) (cond (decide (r5010 > 0)) (ob (de 20000000 r5010) fun r5013 => (ob (am 20000000 y r5013.1) fun r5014 => (ob (am 20000000 y (IntKind.wrap .i64 (r5013.1 + r5013.2))) fun r5015 => (some (r5014, (IntKind.wrap .i64 (r5015 - 1))))))) (cond (d == ([] : List UInt8)) (ob (au 20000000 m) fun r5016 => (ob (am 20000000 y r5016) fun r5017 => (ob (au 20000000 m) fun r5018 => (ob (am 20000000 y (IntKind.wrap .i64 (r5018 + 1))) fun r5019 => (some (r5017, (IntKind.wrap .i64 (r5019 - 1)))))))) (ob (au 20000000 m) fun r5020 => (ob (am 20000000 y r5020) fun r5021 => (ob (au 20000000 d) fun r5022 => (some ((IntKind.wrap .i64 ((IntKind.wrap .i64 (r5021 + r5022)) - 1)), (IntKind.wrap .i64 ((IntKind.wrap .i64 (r5021 + r5022)) - 1)))))))))) ) = some (jc g dg (k : Int) m d) := by
    intro y hyy
    subst hyy
    have hcal' := E.cal
    have rY := fe (y := yOf g dg (k : Int) + 1) (by omega)
    rw [kE 20000000 (by omega)]
    simp only [ob]
    unfold jc
    by_cases hm : m = []
    · have e : (m == ([] : List UInt8)) = true := by rw [hm]; rfl
      rw [if_pos hm, e, kD 20000000 (by omega) (by omega), wrap_i64 (yOf g dg (k : Int) + 1) (by omega) (by omega), kD 20000000 (by omega) (by omega)]
      simp only [cond_true, ob]
      rw [wrap_i64 _ (by omega) (by omega)]
    · rw [if_neg hm, cH hm]
      simp only [cond_false]
      by_cases hs : 0 < sea m
      · rw [if_pos hs, decide_eq_true (show sea m > 0 from hs)]
        rcases E.mon with h | ⟨j, hj, e, _⟩ | ⟨h, _⟩
        · exact absurd h hm
        · obtain ⟨f, c, e1, a1, a2, a3, a4, a5, a6, a7⟩ := vR hj
          have hsm : sea m = ((21 + j : Nat) : Int) := by rw [e, fV hj]
          have rM := ja hcal' (m := f + c) (by omega)
          rw [hsm, rT 20000000 hj, e1]
          simp only [cond_true, ob]
          rw [jX 20000000 (by omega) (by omega) a1 (by omega)]
          simp only [ob]
          rw [wrap_i64 ((f : Int) + (c : Int)) (by omega) (by omega), show (f : Int) + (c : Int) = ((f + c : Nat) : Int) by omega, jX 20000000 (by omega) (by omega) (by omega) (by omega)]
          simp only [ob]
          rw [wrap_i64 _ (by omega) (by omega), e, a6, a7]
        · omega
      · rw [if_neg hs, decide_eq_false (show ¬ sea m > 0 from hs)]
        simp only [cond_false]
        rcases E.mon with h | ⟨j, hj, e, _⟩ | ⟨_, a1, a2, a3⟩
        · exact absurd h hm
        · rw [e, fV hj] at hs; omega
        · have hn := pC 20000000 (k := twoV m) (by omega)
          rw [← a3] at hn
          have rM := ja hcal' (m := twoV m) (by omega)
          have rM2 := ja hcal' (m := twoV m + 1) (by omega)
          by_cases hd : d = []
          · have e : (d == ([] : List UInt8)) = true := by rw [hd]; rfl
            rw [if_pos hd, e, hn]
            simp only [cond_true, ob]
            rw [jX 20000000 (by omega) (by omega) a1 (by omega)]
            simp only [ob]
            rw [wrap_i64 ((twoV m : Int) + 1) (by omega) (by omega), show (twoV m : Int) + 1 = ((twoV m + 1 : Nat) : Int) by omega, jX 20000000 (by omega) (by omega) (by omega) (by omega)]
            simp only [ob]
            rw [wrap_i64 _ (by omega) (by omega)]
          · rw [if_neg hd, cH hd]
            rcases E.day with h | ⟨_, _, b1, b2, b3, b4⟩
            · exact absurd h hd
            · have hn2 := pC 20000000 (k := twoV d) (by omega)
              rw [← b3] at hn2
              rw [hn]
              simp only [cond_false, ob]
              rw [jX 20000000 (by omega) (by omega) a1 (by omega), hn2]
              simp only [ob]
              rw [wrap_i64 (dayM (yOf g dg (k : Int)) (twoV m) + (twoV d : Int)) (by omega) (by omega), wrap_i64 _ (by omega) (by omega)]
  unfold cw
  rw [hmag]
  simp only [ob]
  cases g with
  | true =>
    have w : IntKind.wrap .i64 (0 - ((val dg k : Nat) : Int)) = yOf true dg (k : Int) := by
      rw [wrap_i64 _ (by omega) (by omega), hy]
      simp
    rw [w]
    simp only [cond_true]
    exact key _ rfl
  | false =>
    have w : ((val dg k : Nat) : Int) = yOf false dg (k : Int) := by rw [hy]; rfl
    rw [w]
    simp only [cond_false]
    exact key _ rfl
end
end Go.Sh
