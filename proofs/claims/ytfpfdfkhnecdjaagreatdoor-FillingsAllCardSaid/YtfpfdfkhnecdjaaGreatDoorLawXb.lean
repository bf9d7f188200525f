/- Plain proofs, kept as far as they are needed here (printed by prune.py).
   Conditions: none. -/
import Derived.Test.YtfpfdfkhnecdjaaGreatDoorLawXa
set_option linter.unusedVariables false
set_option linter.unusedSimpArgs false
set_option maxRecDepth 100000
namespace Go.Sh
open Go.Abs
def pN (d : List UInt8) (k q : Nat) : Nat × Nat := if 0 < q then (val d k / 10 ^ (d.length + k - q) * 10 ^ (d.length + k - q), min (val d k / 10 ^ (d.length + k - q) * 10 ^ (d.length + k - q) + 10 ^ (d.length + k - q) - 1) E16) else (val d k, val d k)
def sgn (g : Bool) (p : Nat × Nat) : Int × Int := if g then (-(p.2 : Int), -(p.1 : Int)) else ((p.1 : Int), (p.2 : Int))
theorem qY (n : Nat) (g l : Bool) (d : List UInt8) (k q : Nat) (hn : 200 < n) (hd : d.length ≤ 100) (hN : Num d k q) :
    ak n g l d (k : Int) (q : Int) = some (sgn g (pN d k q)) := by
  have hw := hN.wide
  have hs := hN.small
  have hq := hN.sig
  unfold ak
  rw [jY n g l d k q (by omega) (by omega), lh hN.dig, fO n d k hN.dig hd (by omega) (by omega), if_pos hs]
  have hv : dval 0 d * 10 ^ k = val d k := rfl
  rw [hv] at hs ⊢
  unfold E16 at hs
  have z01 : ((if false = true then (1 : Int) else 0) == 1) = false := rfl
  simp only [ob, z01, cond_false]
  by_cases h0 : 0 < q
  · have e0 : decide ((q : Int) > 0) = true := decide_eq_true (by omega)
    have w0 : IntKind.wrap .i64 (IntKind.wrap .i64 (((d.length : Nat) : Int) + (k : Int)) - (q : Int)) = ((d.length + k - q : Nat) : Int) := by
      rw [wrap_i64 (((d.length : Nat) : Int) + (k : Int)) (by omega) (by omega), wrap_i64 _ (by omega) (by omega)]
      omega
    have hu2 : 10 ^ (d.length + k - q) ≤ 10 ^ 16 := Nat.pow_le_pow_right (by decide) (by omega)
    have h16 : (10 : Nat) ^ 16 = 10000000000000000 := by decide
    have one : dval 0 [49] = 1 := by decide
    have hone : dval 0 [49] * 10 ^ (d.length + k - q) ≤ E16 := by rw [one]; unfold E16; omega
    rw [e0, w0, fO n [49] (d.length + k - q) (by decide) (by decide) (by omega) (by simp; omega), if_pos hone, one, Nat.one_mul]
    simp only [cond_true]
    have hu : 1 ≤ 10 ^ (d.length + k - q) := Nat.one_le_pow _ _ (by decide)
    unfold sgn pN
    rw [if_pos h0]
    clear hone
    generalize 10 ^ (d.length + k - q) = u at *
    generalize val d k = v at *
    have d2 : (((u : Nat) : Int) == 0) = false := beq_eq_false_iff_ne.2 (by omega)
    have hdiv : Int.tdiv ((v : Nat) : Int) ((u : Nat) : Int) = ((v / u : Nat) : Int) := rfl
    have hle : v / u * u ≤ v := Nat.div_mul_le_self v u
    have hle2 : v / u ≤ v := Nat.div_le_self v u
    have w1 : IntKind.wrap .i64 ((v / u : Nat) : Int) = ((v / u : Nat) : Int) := by
      generalize v / u = t at *
      exact wrap_i64 _ (by omega) (by omega)
    have w2 : IntKind.wrap .i64 (((v / u : Nat) : Int) * ((u : Nat) : Int)) = ((v / u * u : Nat) : Int) := by
      rw [← Int.natCast_mul]; exact wrap_i64 _ (by omega) (by omega)
    rw [d2, cond_false, hdiv, w1, w2]
    generalize v / u * u = lo at *
    have w3 : IntKind.wrap .i64 (IntKind.wrap .i64 (((lo : Nat) : Int) + ((u : Nat) : Int)) - 1) = ((lo + u - 1 : Nat) : Int) := by
      rw [wrap_i64 (((lo : Nat) : Int) + ((u : Nat) : Int)) (by omega) (by omega), wrap_i64 _ (by omega) (by omega)]
      omega
    rw [w3]
    have hmin : (cond (decide ((10000000000000000 : Int) < ((lo + u - 1 : Nat) : Int))) (10000000000000000 : Int) ((lo + u - 1 : Nat) : Int)) = ((min (lo + u - 1) E16 : Nat) : Int) := by
      unfold E16
      by_cases hm : (10000000000000000 : Int) < ((lo + u - 1 : Nat) : Int)
      · rw [decide_eq_true hm, cond_true]; omega
      · rw [decide_eq_false hm, cond_false]; omega
    rw [hmin]
    have hmE : min (lo + u - 1) E16 ≤ 10000000000000000 := Nat.min_le_right _ _
    generalize min (lo + u - 1) E16 = hi at *
    cases g with
    | true =>
      simp only [cond_true, if_true]
      rw [wrap_i64 _ (by omega) (by omega), wrap_i64 _ (by omega) (by omega), Int.zero_sub, Int.zero_sub]
    | false => simp
  · have e0 : decide ((q : Int) > 0) = false := decide_eq_false (by omega)
    rw [e0, cond_false]
    unfold sgn pN
    rw [if_neg h0]
    cases g with
    | true =>
      simp only [cond_true, if_true]
      rw [wrap_i64 _ (by omega) (by omega), Int.zero_sub]
    | false => simp
def bX (z : UInt8) (d : List UInt8) : List UInt8 := d.map fun c => if c = 88 then z else c
theorem dY (z : UInt8) (d : List UInt8) : (bX z d).length = d.length := by simp [bX]
theorem jB {z : UInt8} (hz : bn z = true) {d : List UInt8} (h : ∀ c ∈ d, bn c = true ∨ c = 88) : ∀ c ∈ bX z d, bn c = true := by
  intro c hc
  obtain ⟨b, hb, rfl⟩ := List.mem_map.1 hc
  by_cases hx : b = 88
  · rw [if_pos hx]; exact hz
  · rw [if_neg hx]
    exact (h b hb).resolve_right hx
theorem ny {z : UInt8} {d : List UInt8} {i : Nat} {c : UInt8} (h : d[i]? = some c) : (bX z d)[i]? = some (if c = 88 then z else c) := by
  simp [bX, h]
def k9 (d : List UInt8) : Nat := 10 ^ (d.reverse.takeWhile (fun c => c != 88)).length
def fB (g : Bool) (d : List UInt8) : Nat × Nat := (if g = true ∧ dval 0 (bX 48 d) = 0 then k9 d else dval 0 (bX 48 d), dval 0 (bX 57 d))
theorem Bo (m : Nat) : ak (m + 300) true false [48, 48, 48, 88] 0 0 = some (sgn true (fB true [48, 48, 48, 88])) := by kernel_rfl
theorem Bk (m : Nat) : ak (m + 300) true false [48, 48, 88, 48] 0 0 = some (sgn true (fB true [48, 48, 88, 48])) := by kernel_rfl
theorem Bf (m : Nat) : ak (m + 300) true false [48, 48, 88, 88] 0 0 = some (sgn true (fB true [48, 48, 88, 88])) := by kernel_rfl
theorem A6 (m : Nat) : ak (m + 300) true false [48, 88, 48, 48] 0 0 = some (sgn true (fB true [48, 88, 48, 48])) := by kernel_rfl
theorem Bp (m : Nat) : ak (m + 300) true false [48, 88, 48, 88] 0 0 = some (sgn true (fB true [48, 88, 48, 88])) := by kernel_rfl
theorem Ac (m : Nat) : ak (m + 300) true false [48, 88, 88, 48] 0 0 = some (sgn true (fB true [48, 88, 88, 48])) := by kernel_rfl
theorem A3 (m : Nat) : ak (m + 300) true false [48, 88, 88, 88] 0 0 = some (sgn true (fB true [48, 88, 88, 88])) := by kernel_rfl
theorem AT (m : Nat) : ak (m + 300) true false [88, 48, 48, 48] 0 0 = some (sgn true (fB true [88, 48, 48, 48])) := by kernel_rfl
theorem Ap (m : Nat) : ak (m + 300) true false [88, 48, 48, 88] 0 0 = some (sgn true (fB true [88, 48, 48, 88])) := by kernel_rfl
theorem Be (m : Nat) : ak (m + 300) true false [88, 48, 88, 48] 0 0 = some (sgn true (fB true [88, 48, 88, 48])) := by kernel_rfl
theorem zo (m : Nat) : ak (m + 300) true false [88, 48, 88, 88] 0 0 = some (sgn true (fB true [88, 48, 88, 88])) := by kernel_rfl
theorem yo (m : Nat) : ak (m + 300) true false [88, 88, 48, 48] 0 0 = some (sgn true (fB true [88, 88, 48, 48])) := by kernel_rfl
theorem yE (m : Nat) : ak (m + 300) true false [88, 88, 48, 88] 0 0 = some (sgn true (fB true [88, 88, 48, 88])) := by kernel_rfl
theorem yV (m : Nat) : ak (m + 300) true false [88, 88, 88, 48] 0 0 = some (sgn true (fB true [88, 88, 88, 48])) := by kernel_rfl
theorem yR (m : Nat) : ak (m + 300) true false [88, 88, 88, 88] 0 0 = some (sgn true (fB true [88, 88, 88, 88])) := by kernel_rfl
theorem q8 {d : List UInt8} (hl : d.length = 4) (h : ∀ c ∈ d, bn c = true ∨ c = 88) (hz : dval 0 (bX 48 d) = 0) : ∀ c ∈ d, c = 48 ∨ c = 88 := by
  match d, hl with
  | [a, b, c, e], _ =>
    have hd := jB (z := 48) (by decide) h
    have h2 : dval 0 (bX 48 [a, b, c, e]) = ((((0 * 10 + ((if a = 88 then (48 : UInt8) else a).toNat - 48)) * 10 + ((if b = 88 then (48 : UInt8) else b).toNat - 48)) * 10 + ((if c = 88 then (48 : UInt8) else c).toNat - 48)) * 10 + ((if e = 88 then (48 : UInt8) else e).toNat - 48)) := by
      simp only [bX, List.map_cons, List.map_nil, iG, iV, mn]
    rw [h2] at hz
    have key : ∀ x : UInt8, bn (if x = 88 then (48 : UInt8) else x) = true → (if x = 88 then (48 : UInt8) else x).toNat - 48 = 0 → x = 48 ∨ x = 88 := by
      intro x hx h0
      by_cases hx8 : x = 88
      · exact .inr hx8
      · rw [if_neg hx8] at hx h0
        have := (dG x).1 hx
        exact .inl (UInt8.toNat_inj.1 (by show x.toNat = 48; omega))
    simp only [bX, List.map_cons, List.map_nil, List.mem_cons, List.not_mem_nil, or_false, forall_eq_or_imp, forall_eq] at hd ⊢
    exact ⟨key a hd.1 (by omega), key b hd.2.1 (by omega), key c hd.2.2.1 (by omega), key e hd.2.2.2 (by omega)⟩
theorem o7 {d : List UInt8} (hl : d.length = 4) (h : ∀ c ∈ d, c = 48 ∨ c = 88) (hX : hasX d = true) (P : List UInt8 → Prop) (h0 : P [48, 48, 48, 88]) (h1 : P [48, 48, 88, 48]) (h2 : P [48, 48, 88, 88]) (h3 : P [48, 88, 48, 48]) (h4 : P [48, 88, 48, 88]) (h5 : P [48, 88, 88, 48]) (h6 : P [48, 88, 88, 88]) (h7 : P [88, 48, 48, 48]) (h8 : P [88, 48, 48, 88]) (h9 : P [88, 48, 88, 48]) (h10 : P [88, 48, 88, 88]) (h11 : P [88, 88, 48, 48]) (h12 : P [88, 88, 48, 88]) (h13 : P [88, 88, 88, 48]) (h14 : P [88, 88, 88, 88]) : P d := by
  match d, hl with
  | [a, b, c, e], _ =>
    simp only [List.mem_cons, List.not_mem_nil, or_false, forall_eq_or_imp, forall_eq] at h
    obtain ⟨ha, hb, hc, he⟩ := h
    rcases ha with rfl | rfl <;> rcases hb with rfl | rfl <;> rcases hc with rfl | rfl <;> rcases he with rfl | rfl
    · exact absurd hX (by decide)
    · exact h0
    · exact h1
    · exact h2
    · exact h3
    · exact h4
    · exact h5
    · exact h6
    · exact h7
    · exact h8
    · exact h9
    · exact h10
    · exact h11
    · exact h12
    · exact h13
    · exact h14
theorem su (n : Nat) (g l : Bool) (d : List UInt8) (x s : Int) (hl : d.length = 4) (hn : 4 < n) : af (cT n) n ([], [], 0, g, l, d, x, s) = some (bX 48 d, bX 57 d, g, l, d, x, s) := by
  refine dH (step := cT n) (fun q => ∃ i : Nat, i ≤ 4 ∧ q = ((bX 48 d).take i, (bX 57 d).take i, (i : Int), g, l, d, x, s)) (fun q => 4 - q.2.2.1.toNat) (fun _ => (bX 48 d, bX 57 d, g, l, d, x, s)) ?_ n _ ⟨0, by omega, by simp⟩ (by simp; omega)
  rintro q ⟨i, hi, rfl⟩
  rcases Nat.lt_or_ge i 4 with hlt | hge
  · obtain ⟨c, hc⟩ : ∃ c, d[i]? = some c := ⟨d[i], List.getElem?_eq_getElem (by omega)⟩
    have hf1 := Bh (ny (z := 48) hc)
    have hf2 := Bh (ny (z := 57) hc)
    have d1 : decide ((i : Int) < 4) = true := decide_eq_true (by omega)
    have w1 : IntKind.wrap .i64 ((i : Int) + 1) = ((i + 1 : Nat) : Int) := by rw [wrap_i64 _ (by omega) (by omega)]; omega
    refine .inl ⟨((bX 48 d).take (i + 1), (bX 57 d).take (i + 1), ((i + 1 : Nat) : Int), g, l, d, x, s), ?_, ⟨i + 1, by omega, rfl⟩, by simp only [Int.toNat_natCast]; omega, rfl⟩
    simp only [cT, d1, cond_true, w1, dV (show i + 1 ≤ d.length by omega), dV (show i ≤ i + 1 by omega), ob, cut1 hc]
    have ht : ∀ z : UInt8, ((bX z d).take i).length ≤ 4 := fun z => by rw [List.length_take]; omega
    rw [hf1, hf2]
    by_cases hx : c = 88
    · have e : (([c] : List UInt8) == [88]) = true := by rw [hx]; rfl
      rw [e, cond_true, if_pos hx, if_pos hx, kw (by have := ht 48; simp; omega), kw (by have := ht 57; simp; omega)]
    · have e : (([c] : List UInt8) == [88]) = false := by
        rw [beq_eq_false_iff_ne]; intro e; exact hx (by simpa using e)
      rw [e, cond_false, if_neg hx, if_neg hx, kw (by have := ht 48; simp; omega), kw (by have := ht 57; simp; omega)]
  · have : i = 4 := by omega
    subst this
    refine .inr ?_
    rw [List.take_of_length_le (by rw [dY]; omega), List.take_of_length_le (by rw [dY]; omega)]
    rfl
theorem uX {d : List UInt8} (h : d = [48, 48, 48, 48]) : dval 0 d = 0 := by rw [h]; decide
theorem pF (m : Nat) (g : Bool) (d : List UInt8) (h : okY g false d 0 0) (hX : hasX d = true) : ak (m + 300) g false d 0 0 = some (sgn g (fB g d)) := by
  obtain ⟨_, _, _, hl, hd⟩ := ie h hX
  by_cases hz : g = true ∧ dval 0 (bX 48 d) = 0
  · obtain ⟨rfl, hz⟩ := hz
    exact o7 hl (q8 hl hd hz) hX (fun d => ak (m + 300) true false d 0 0 = some (sgn true (fB true d))) (Bo m) (Bk m) (Bf m) (A6 m) (Bp m) (Ac m) (A3 m) (AT m) (Ap m) (Be m) (zo m) (yo m) (yE m) (yV m) (yR m)
  · have hs : fB g d = (dval 0 (bX 48 d), dval 0 (bX 57 d)) := by unfold fB; rw [if_neg hz]
    have d48 := jB (z := 48) (by decide) hd
    have d57 := jB (z := 57) (by decide) hd
    have h1 := jU (bX 48 d) 0 0 d48 (by simp)
    have h2 := jU (bX 57 d) 0 0 d57 (by simp)
    rw [dY, hl] at h1 h2
    have h4 : (10 : Nat) ^ (4 + 0) = 10000 := by decide
    have m1 : ab (m + 300) (bX 48 d) 0 = some (((dval 0 (bX 48 d) : Nat) : Int), 1) := by
      have := fO (m + 300) (bX 48 d) 0 d48 (by rw [dY]; omega) (by omega) (by rw [dY]; omega)
      rw [if_pos (by unfold E16; simp only [Nat.pow_zero, Nat.mul_one]; omega)] at this
      simpa using this
    have m2 : ab (m + 300) (bX 57 d) 0 = some (((dval 0 (bX 57 d) : Nat) : Int), 1) := by
      have := fO (m + 300) (bX 57 d) 0 d57 (by rw [dY]; omega) (by omega) (by rw [dY]; omega)
      rw [if_pos (by unfold E16; simp only [Nat.pow_zero, Nat.mul_one]; omega)] at this
      simpa using this
    have z11 : ((if true = true then (1 : Int) else 0) == 1) = true := rfl
    have z0 : decide ((0 : Int) > 0) = false := rfl
    unfold ak
    rw [jY _ g false d 0 0 (by omega) (by omega), hX, su _ g false d 0 0 hl (by omega), hs]
    simp only [ob, if_true, BEq.rfl, cond_true]
    cases g with
    | true =>
      have e : (bX 48 d == ([48, 48, 48, 48] : List UInt8)) = false := by
        rw [beq_eq_false_iff_ne]
        intro e
        exact hz ⟨rfl, uX e⟩
      simp only [cond_true, e, cond_false, m1, m2, z0, sgn, if_true]
      generalize dval 0 (bX 48 d) = a at *
      generalize dval 0 (bX 57 d) = b at *
      rw [wrap_i64 _ (by omega) (by omega), wrap_i64 _ (by omega) (by omega), Int.zero_sub, Int.zero_sub]
    | false => simp only [cond_false, m1, m2, z0, sgn, Bool.false_eq_true, if_false]
def eF (g : Bool) (d : List UInt8) (x s : Int) : Nat × Nat := if hasX d then fB g d else pN d x.toNat s.toNat
theorem yF (m : Nat) (g l : Bool) (d : List UInt8) (x s : Int) (hd : d.length ≤ 100) (h : okY g l d x s) : ak (m + 300) g l d x s = some (sgn g (eF g d x s)) := by
  unfold eF
  cases hX : hasX d with
  | true =>
    obtain ⟨rfl, rfl, rfl, hl, hdd⟩ := ie h hX
    exact pF m g d h hX
  | false =>
    obtain ⟨k, q, rfl, rfl, hN⟩ := mb h hX
    exact qY _ g l d k q (by omega) hd hN
theorem Ar {d : List UInt8} {k q : Nat} (h : Num d k q) : (pN d k q).1 ≤ val d k ∧ val d k ≤ (pN d k q).2 ∧ (pN d k q).2 ≤ E16 := by
  have hs := h.small
  have hv : dval 0 d * 10 ^ k = val d k := rfl
  rw [hv] at hs
  unfold pN
  split
  · have hu : 1 ≤ 10 ^ (d.length + k - q) := Nat.one_le_pow _ _ (by decide)
    generalize 10 ^ (d.length + k - q) = u at hu ⊢
    generalize val d k = v at hs ⊢
    have h1 := Nat.div_mul_le_self v u
    have h2 : v < v / u * u + u := by
      have h := Nat.div_add_mod v u
      have := Nat.mod_lt v hu
      rw [Nat.mul_comm] at h
      omega
    refine ⟨h1, ?_, Nat.min_le_right _ _⟩
    rw [Nat.le_min]
    omega
  · exact ⟨Nat.le_refl _, Nat.le_refl _, hs⟩
def mtk (d : List UInt8) : Nat → Nat → Bool
  | 0, _ => true
  | k + 1, w => (decide (d.getD k 0 = 88) || decide ((d.getD k 0).toNat = 48 + w % 10)) && mtk d k (w / 10)
theorem qr (d : List UInt8) (k w : Nat) : mtk d (k + 1) w = ((decide (d.getD k 0 = 88) || decide ((d.getD k 0).toNat = 48 + w % 10)) && mtk d k (w / 10)) := rfl
theorem pT {d : List UInt8} {k : Nat} {c : UInt8} (h : d[k]? = some c) : d.getD k 0 = c := by
  rw [List.getD_eq_getElem?_getD, h]; rfl
theorem vd (n : Nat) (g l : Bool) (d : List UInt8) (x s : Int) (hl : d.length = 4) : ∀ (k w : Nat), k ≤ 4 → w < 100000000000000000 → ∀ q, k < q →
    af (aJ n) q ((w : Int), (k : Int) - 1, g, l, d, x, s) = some (if mtk d k w = true then .inr ((w / 10 ^ k : Nat) : Int) else .inl 0)
  | 0, w, hk, hw, q, hq => by
    obtain ⟨q, rfl⟩ : ∃ p, q = p + 1 := ⟨q - 1, by omega⟩
    have d1 : decide (((0 : Nat) : Int) - 1 ≥ 0) = false := rfl
    have hm0 : mtk d 0 w = true := rfl
    simp only [af, aJ, d1, cond_false]
    rw [if_pos hm0]
    simp
  | k + 1, w, hk, hw, q, hq => by
    obtain ⟨q, rfl⟩ : ∃ p, q = p + 1 := ⟨q - 1, by omega⟩
    have ih := vd n g l d x s hl k (w / 10) (by omega) (by omega) q (by omega)
    obtain ⟨c, hc⟩ : ∃ c, d[k]? = some c := ⟨d[k], List.getElem?_eq_getElem (by omega)⟩
    have e0 : ((k + 1 : Nat) : Int) - 1 = (k : Int) := by omega
    have d1 : decide ((k : Int) ≥ 0) = true := decide_eq_true (by omega)
    have em : Int.tmod (w : Int) 10 = ((w % 10 : Nat) : Int) := rfl
    have eq' : Int.tdiv (w : Int) 10 = ((w / 10 : Nat) : Int) := rfl
    have w1 : IntKind.wrap .i64 (48 + ((w % 10 : Nat) : Int)) = ((48 + w % 10 : Nat) : Int) := by rw [wrap_i64 _ (by omega) (by omega)]; omega
    have w2 : IntKind.wrap .u8 ((48 + w % 10 : Nat) : Int) = ((48 + w % 10 : Nat) : Int) := eN _ (by omega) (by omega)
    have w3 : IntKind.wrap .i64 ((w / 10 : Nat) : Int) = ((w / 10 : Nat) : Int) := wrap_i64 _ (by omega) (by omega)
    have w4 : IntKind.wrap .i64 ((k : Int) - 1) = (k : Int) - 1 := wrap_i64 _ (by omega) (by omega)
    have hdiv : w / 10 ^ (k + 1) = w / 10 / 10 ^ k := by rw [Nat.pow_succ, Nat.mul_comm, Nat.div_div_eq_div_mul]
    rw [qr, pT hc, hdiv, e0]
    simp only [af, aJ, d1, cond_true, gQ hc, ob, em, eq', w1, w2, w3, w4]
    by_cases hx : c = 88
    · have e1 : (((c.toNat : Nat) : Int) != 88) = false := by rw [hx]; rfl
      rw [e1, decide_eq_true hx]
      simp only [cond_false, Bool.true_or, Bool.true_and]
      exact ih
    · have e1 : (((c.toNat : Nat) : Int) != 88) = true := by
        simp only [bne, Bool.not_eq_true', beq_eq_false_iff_ne]
        intro e
        exact hx (UInt8.toNat_inj.1 (by show c.toNat = 88; omega))
      rw [e1, decide_eq_false hx]
      simp only [cond_true, Bool.false_or]
      by_cases hm : c.toNat = 48 + w % 10
      · have e2 : (((c.toNat : Nat) : Int) != ((48 + w % 10 : Nat) : Int)) = false := by rw [hm]; simp
        rw [e2, decide_eq_true hm]
        simp only [cond_false, Bool.true_and]
        exact ih
      · have e2 : (((c.toNat : Nat) : Int) != ((48 + w % 10 : Nat) : Int)) = true := by
          simp only [bne, Bool.not_eq_true', beq_eq_false_iff_ne]
          omega
        rw [e2, decide_eq_false hm]
        simp only [cond_true, Bool.false_and]
        rfl
def sd (d : List UInt8) (k q : Nat) : Nat := if 0 < q then 10 ^ (d.length + k - q) else 1
def memP (d : List UInt8) (x s : Int) (w : Nat) : Prop := if hasX d = true then mtk d 4 w = true ∧ w / 10 ^ 4 = 0 else val d x.toNat / sd d x.toNat s.toNat = w / sd d x.toNat s.toNat
instance (d : List UInt8) (x s : Int) (w : Nat) : Decidable (memP d x s w) := by unfold memP; infer_instance
def wOf (g : Bool) (v : Int) : Int := if g then -v else v
def inP (g : Bool) (d : List UInt8) (x s v : Int) : Prop := -10000000000000000 ≤ v ∧ v ≤ 10000000000000000 ∧ 0 ≤ wOf g v ∧ ¬ (hasX d = true ∧ g = true ∧ wOf g v = 0) ∧ memP d x s (wOf g v).toNat
instance (g : Bool) (d : List UInt8) (x s v : Int) : Decidable (inP g d x s v) := by unfold inP; infer_instance
noncomputable def inT (n : Nat) (a0 a1 : Bool) (a2 : List UInt8) (a3 a4 W : Int) : Option Int :=
  (ob (ah n a0 a1 a2 a3 a4) fun r221 => (cond (r221 == 1) (ob (af (aJ n) n (W, 3, a0, a1, a2, a3, a4)) fun y222 => (Sum.casesOn (motive := fun _ => Option _) y222 (fun a223 => (some a223)) (fun b224 => (cond (decide (b224 > 0)) (some 0) (some 1))))) (ob (ab n a2 a3) fun r225 => (cond (decide (a4 > 0)) (ob (ab n [49] (IntKind.wrap .i64 ((IntKind.wrap .i64 (((List.length a2 : Nat) : Int) + a3)) - a4))) fun r226 => (cond (r226.1 == 0) none (cond (r226.1 == 0) none (cond ((IntKind.wrap .i64 (Int.tdiv r225.1 r226.1)) == (IntKind.wrap .i64 (Int.tdiv W r226.1))) (some 1) (some 0))))) (cond ((IntKind.wrap .i64 (Int.tdiv r225.1 1)) == (IntKind.wrap .i64 (Int.tdiv W 1))) (some 1) (some 0))))))
theorem xq (a b : Nat) : (((a : Nat) : Int) == ((b : Nat) : Int)) = decide (a = b) := by
  by_cases h : a = b
  · subst h; simp
  · rw [decide_eq_false h, beq_eq_false_iff_ne]; omega
theorem tW {d : List UInt8} {x s : Int} {w : Nat} (hX : hasX d = true) : memP d x s w ↔ mtk d 4 w = true ∧ w / 10 ^ 4 = 0 := by unfold memP; rw [if_pos hX]
theorem zx {d : List UInt8} {x s : Int} {w : Nat} (hX : hasX d = false) : memP d x s w ↔ val d x.toNat / sd d x.toNat s.toNat = w / sd d x.toNat s.toNat := by unfold memP; rw [if_neg (by rw [hX]; simp)]
theorem in_T (m : Nat) {g l : Bool} {d : List UInt8} {x s : Int} (hok : okY g l d x s) (w : Nat) (hw : w ≤ 10000000000000000) : inT (m + 300) g l d x s (w : Int) = some (if memP d x s w then 1 else 0) := by
  have hsm := iZ hok
  have hM := jY (m + 300) g l d x s (by omega) (by omega)
  unfold inT
  cases hX : hasX d with
  | true =>
    obtain ⟨rfl, rfl, rfl, hl, _⟩ := ie hok hX
    have hlp := vd (m + 300) g false d 0 0 hl 4 w (by omega) (by omega) (m + 300) (by omega)
    have hlp' : af (aJ (m + 300)) (m + 300) ((w : Int), 3, g, false, d, 0, 0) = _ := hlp
    have z11 : ((1 : Int) == 1) = true := rfl
    have hMt : ah (m + 300) g false d 0 0 = some 1 := by rw [hM, hX]; rfl
    rw [hMt]
    simp only [ob, z11, cond_true, hlp']
    by_cases h1 : mtk d 4 w = true
    · rw [if_pos h1]
      by_cases h2 : w / 10 ^ 4 = 0
      · have e : decide (((w / 10 ^ 4 : Nat) : Int) > 0) = false := decide_eq_false (by rw [h2]; decide)
        rw [if_pos ((tW hX).2 ⟨h1, h2⟩)]
        simp only [e, cond_false]
      · have e : decide (((w / 10 ^ 4 : Nat) : Int) > 0) = true := decide_eq_true (by
          generalize w / 10 ^ 4 = t at h2 ⊢
          omega)
        rw [if_neg (fun q => h2 ((tW hX).1 q).2)]
        simp only [e, cond_true]
    · rw [if_neg h1, if_neg (fun q => h1 ((tW hX).1 q).1)]
  | false =>
    obtain ⟨k, q, rfl, rfl, hN⟩ := mb hok hX
    have hw' := hN.wide
    have hs := hN.small
    have hq := hN.sig
    have hv : dval 0 d * 10 ^ k = val d k := rfl
    have hm := fO (m + 300) d k hN.dig (by omega) (by omega) (by omega)
    rw [if_pos hs, hv] at hm
    rw [hv] at hs
    unfold E16 at hs
    have z01 : ((0 : Int) == 1) = false := rfl
    have hMt : ah (m + 300) g l d k q = some 0 := by rw [hM, hX]; rfl
    have hmp := zx (x := (k : Int)) (s := (q : Int)) (w := w) hX
    rw [Int.toNat_natCast, Int.toNat_natCast] at hmp
    unfold sd at hmp
    rw [hMt]
    simp only [ob, z01, cond_false, hm]
    by_cases h0 : 0 < q
    · have e0 : decide ((q : Int) > 0) = true := decide_eq_true (by omega)
      have w0 : IntKind.wrap .i64 (IntKind.wrap .i64 (((d.length : Nat) : Int) + (k : Int)) - (q : Int)) = ((d.length + k - q : Nat) : Int) := by
        rw [wrap_i64 (((d.length : Nat) : Int) + (k : Int)) (by omega) (by omega), wrap_i64 _ (by omega) (by omega)]
        omega
      have hu2 : 10 ^ (d.length + k - q) ≤ 10 ^ 16 := Nat.pow_le_pow_right (by decide) (by omega)
      have h16 : (10 : Nat) ^ 16 = 10000000000000000 := by decide
      have one : dval 0 [49] = 1 := by decide
      have hone : dval 0 [49] * 10 ^ (d.length + k - q) ≤ E16 := by rw [one]; unfold E16; omega
      have hm1 := fO (m + 300) [49] (d.length + k - q) (by decide) (by decide) (by omega) (by simp; omega)
      rw [if_pos hone, one, Nat.one_mul] at hm1
      have hu : 1 ≤ 10 ^ (d.length + k - q) := Nat.one_le_pow _ _ (by decide)
      rw [e0, w0, hm1]
      rw [if_pos h0] at hmp
      clear hone hm1
      generalize 10 ^ (d.length + k - q) = u at hu hu2 hmp ⊢
      generalize val d k = v at hs hmp ⊢
      have d2 : (((u : Nat) : Int) == 0) = false := beq_eq_false_iff_ne.2 (by omega)
      have hdiv : Int.tdiv ((v : Nat) : Int) ((u : Nat) : Int) = ((v / u : Nat) : Int) := rfl
      have hdiw : Int.tdiv ((w : Nat) : Int) ((u : Nat) : Int) = ((w / u : Nat) : Int) := rfl
      have l1 : v / u ≤ v := Nat.div_le_self v u
      have l2 : w / u ≤ w := Nat.div_le_self w u
      simp only [cond_true, d2, cond_false, hdiv, hdiw]
      generalize v / u = a at l1 hmp ⊢
      generalize w / u = b at l2 hmp ⊢
      rw [wrap_i64 _ (by omega) (by omega), wrap_i64 _ (by omega) (by omega), xq]
      by_cases hab : a = b
      · rw [decide_eq_true hab, if_pos (hmp.2 hab)]; rfl
      · rw [decide_eq_false hab, if_neg (fun q => hab (hmp.1 q))]; rfl
    · have e0 : decide ((q : Int) > 0) = false := decide_eq_false (by omega)
      have t1 : ∀ a : Nat, Int.tdiv ((a : Nat) : Int) 1 = ((a : Nat) : Int) := fun a => by
        have : Int.tdiv ((a : Nat) : Int) 1 = ((a / 1 : Nat) : Int) := rfl
        rw [this, Nat.div_one]
      rw [if_neg h0, Nat.div_one, Nat.div_one] at hmp
      rw [e0]
      simp only [cond_false, t1]
      rw [wrap_i64 _ (by omega) (by omega), wrap_i64 _ (by omega) (by omega), xq]
      by_cases hab : val d k = w
      · rw [decide_eq_true hab, if_pos (hmp.2 hab)]; rfl
      · rw [decide_eq_false hab, if_neg (fun q => hab (hmp.1 q))]; rfl
theorem B6 (m : Nat) {g l : Bool} {d : List UInt8} {x s : Int} (hok : okY g l d x s) (v : Int) : fk (m + 300) g l d x s v = some (if inP g d x s v then 1 else 0) := by
  have hsm := iZ hok
  have hT := fun w hw => in_T m hok w hw
  have hM := jY (m + 300) g l d x s (by omega) (by omega)
  unfold inT at hT
  unfold fk
  by_cases h1 : v < -10000000000000000
  · rw [decide_eq_true h1, if_neg (fun q => by have := q.1; omega)]; rfl
  · rw [decide_eq_false h1, cond_false]
    by_cases h2 : v > 10000000000000000
    · rw [decide_eq_true h2, if_neg (fun q => by have := q.2.1; omega)]; rfl
    · rw [decide_eq_false h2, cond_false]
      cases g with
      | true =>
        have w0 : IntKind.wrap .i64 (0 - v) = -v := by rw [wrap_i64 _ (by omega) (by omega)]; omega
        simp only [cond_true, w0]
        by_cases h3 : -v < 0
        · rw [decide_eq_true h3, if_neg (fun q => by have := q.2.2.1; unfold wOf at this; simp only [if_true] at this; omega)]; rfl
        · rw [decide_eq_false h3, cond_false]
          obtain ⟨w, hw⟩ : ∃ w : Nat, -v = (w : Int) := ⟨(-v).toNat, by omega⟩
          have hT := hT w (by omega)
          have hwo : wOf true v = (w : Int) := by unfold wOf; simpa using hw
          have hin : ¬ (hasX d = true ∧ w = 0) → (inP true d x s v ↔ memP d x s w) := by
            intro hz
            unfold inP
            rw [hwo, Int.toNat_natCast]
            constructor
            · exact fun q => q.2.2.2.2
            · exact fun q => ⟨by omega, by omega, by omega, fun q => hz ⟨q.1, by omega⟩, q⟩
          rw [hw]
          cases hX : hasX d with
          | true =>
            have hMt : ah (m + 300) true l d x s = some 1 := by rw [hM, hX]; rfl
            rw [hMt]
            have z11 : ((1 : Int) == 1) = true := rfl
            simp only [ob, z11, cond_true]
            by_cases hz : w = 0
            · have e : (((w : Nat) : Int) == 0) = true := beq_iff_eq.2 (by omega)
              rw [e, if_neg (fun q => q.2.2.2.1 ⟨hX, rfl, by rw [hwo]; omega⟩)]; rfl
            · have e : (((w : Nat) : Int) == 0) = false := beq_eq_false_iff_ne.2 (by omega)
              rw [hMt] at hT
              simp only [ob, z11, cond_true] at hT
              rw [e, cond_false, hT]
              have := hin (fun q => hz q.2)
              by_cases hp : memP d x s w
              · rw [if_pos hp, if_pos (this.2 hp)]
              · rw [if_neg hp, if_neg (fun q => hp (this.1 q))]
          | false =>
            have hMt : ah (m + 300) true l d x s = some 0 := by rw [hM, hX]; rfl
            have z01 : ((0 : Int) == 1) = false := rfl
            rw [hMt] at hT ⊢
            simp only [ob, z01, cond_false] at hT ⊢
            rw [hT]
            have := hin (fun q => by rw [hX] at q; cases q.1)
            by_cases hp : memP d x s w
            · rw [if_pos hp, if_pos (this.2 hp)]
            · rw [if_neg hp, if_neg (fun q => hp (this.1 q))]
      | false =>
        simp only [cond_false]
        by_cases h3 : v < 0
        · rw [decide_eq_true h3, if_neg (fun q => by have := q.2.2.1; unfold wOf at this; simp only [Bool.false_eq_true, if_false] at this; omega)]; rfl
        · rw [decide_eq_false h3, cond_false]
          obtain ⟨w, rfl⟩ : ∃ w : Nat, v = (w : Int) := ⟨v.toNat, by omega⟩
          have hT := hT w (by omega)
          have hwo : wOf false (w : Int) = (w : Int) := rfl
          have hin : inP false d x s (w : Int) ↔ memP d x s w := by
            unfold inP
            rw [hwo, Int.toNat_natCast]
            constructor
            · exact fun q => q.2.2.2.2
            · exact fun q => ⟨by omega, by omega, by omega, fun q => (by cases q.2.1), q⟩
          cases hX : hasX d with
          | true =>
            have hMt : ah (m + 300) false l d x s = some 1 := by rw [hM, hX]; rfl
            rw [hMt] at hT ⊢
            have z11 : ((1 : Int) == 1) = true := rfl
            simp only [ob, z11, cond_true] at hT ⊢
            rw [hT]
            by_cases hp : memP d x s w
            · rw [if_pos hp, if_pos (hin.2 hp)]
            · rw [if_neg hp, if_neg (fun q => hp (hin.1 q))]
          | false =>
            have hMt : ah (m + 300) false l d x s = some 0 := by rw [hM, hX]; rfl
            rw [hMt] at hT ⊢
            have z01 : ((0 : Int) == 1) = false := rfl
            simp only [ob, z01, cond_false] at hT ⊢
            rw [hT]
            by_cases hp : memP d x s w
            · rw [if_pos hp, if_pos (hin.2 hp)]
            · rw [if_neg hp, if_neg (fun q => hp (hin.1 q))]
def loK (d : List UInt8) (k : Nat) : Nat := dval 0 ((bX 48 d).take k)
def hiK (d : List UInt8) (k : Nat) : Nat := dval 0 ((bX 57 d).take k)
theorem n9 (z : UInt8) {d : List UInt8} {k : Nat} {c : UInt8} (h : d[k]? = some c) : dval 0 ((bX z d).take (k + 1)) = dval 0 ((bX z d).take k) * 10 + ((if c = 88 then z else c).toNat - 48) := by
  rw [Bh (ny h), sJ]
theorem qz (d : List UInt8) (hl : d.length = 4) (hd : ∀ c ∈ d, bn c = true ∨ c = 88) : ∀ (k w : Nat), k ≤ 4 → w < 10 ^ k → mtk d k w = true → loK d k ≤ w ∧ w ≤ hiK d k
  | 0, w, hk, hw, hm => by
    simp at hw
    subst hw
    simp [loK, hiK, iV]
  | k + 1, w, hk, hw, hm => by
    obtain ⟨c, hc⟩ : ∃ c, d[k]? = some c := ⟨d[k], List.getElem?_eq_getElem (by omega)⟩
    rw [qr, pT hc, Bool.and_eq_true, Bool.or_eq_true, decide_eq_true_eq, decide_eq_true_eq] at hm
    have hp : (10 : Nat) ^ (k + 1) = 10 ^ k * 10 := Nat.pow_succ 10 k
    have ih := qz d hl hd k (w / 10) (by omega) (by omega) hm.2
    have h1 := n9 48 hc
    have h2 := n9 57 hc
    unfold loK hiK at ih ⊢
    rw [h1, h2]
    by_cases hx : c = 88
    · rw [if_pos hx, if_pos hx]
      have e1 : (48 : UInt8).toNat - 48 = 0 := rfl
      have e2 : (57 : UInt8).toNat - 48 = 9 := rfl
      rw [e1, e2]
      omega
    · rw [if_neg hx, if_neg hx]
      have := hm.1.resolve_left hx
      omega
theorem pL (z : UInt8) (hz : bn z = true) (d : List UInt8) (hl : d.length = 4) (hd : ∀ c ∈ d, bn c = true ∨ c = 88) : ∀ k, k ≤ 4 → mtk d k (dval 0 ((bX z d).take k)) = true
  | 0, _ => rfl
  | k + 1, hk => by
    obtain ⟨c, hc⟩ : ∃ c, d[k]? = some c := ⟨d[k], List.getElem?_eq_getElem (by omega)⟩
    have ih := pL z hz d hl hd k (by omega)
    have hdg : bn (if c = 88 then z else c) = true := by
      by_cases hx : c = 88
      · rw [if_pos hx]; exact hz
      · rw [if_neg hx]; exact (hd c (List.mem_of_getElem? hc)).resolve_right hx
    have hr := (dG _).1 hdg
    rw [qr, pT hc, n9 z hc]
    generalize hb : (if c = 88 then z else c) = b at hr ⊢
    generalize dval 0 ((bX z d).take k) = a at ih ⊢
    have e1 : (a * 10 + (b.toNat - 48)) / 10 = a := by omega
    have e2 : (a * 10 + (b.toNat - 48)) % 10 = b.toNat - 48 := by omega
    rw [e1, e2, ih, Bool.and_true]
    by_cases hx : c = 88
    · rw [decide_eq_true hx]; rfl
    · rw [if_neg hx] at hb
      rw [hb, decide_eq_true (show b.toNat = 48 + (b.toNat - 48) by omega), Bool.or_true]
def qu : List (List UInt8) := [[48, 48, 48, 88], [48, 48, 88, 48], [48, 48, 88, 88], [48, 88, 48, 48], [48, 88, 48, 88], [48, 88, 88, 48], [48, 88, 88, 88], [88, 48, 48, 48], [88, 48, 48, 88], [88, 48, 88, 48], [88, 48, 88, 88], [88, 88, 48, 48], [88, 88, 48, 88], [88, 88, 88, 48], [88, 88, 88, 88]]
theorem Dl : qu.all (fun d => mtk d 4 (k9 d) && decide (1 ≤ k9 d) && decide (k9 d ≤ 1000) && (List.range 1000).all (fun w => decide (w = 0) || !mtk d 4 w || decide (k9 d ≤ w))) = true := by decide +kernel
theorem qU {d : List UInt8} (hd : d ∈ qu) : mtk d 4 (k9 d) = true ∧ 1 ≤ k9 d ∧ k9 d ≤ 1000 ∧ ∀ w, 1 ≤ w → mtk d 4 w = true → k9 d ≤ w := by
  have h := List.all_eq_true.1 Dl d hd
  simp only [Bool.and_eq_true, decide_eq_true_eq, List.all_eq_true, List.mem_range, Bool.or_eq_true, Bool.not_eq_true'] at h
  obtain ⟨⟨⟨h1, h2⟩, h3⟩, h4⟩ := h
  refine ⟨h1, h2, h3, fun w hw hm => ?_⟩
  rcases Nat.lt_or_ge w 1000 with hlt | hge
  · rcases h4 w hlt with (h | h) | h
    · omega
    · rw [hm] at h; cases h
    · exact h
  · omega
theorem qK {d : List UInt8} (hl : d.length = 4) (hd : ∀ c ∈ d, bn c = true ∨ c = 88) (hX : hasX d = true) (hz : dval 0 (bX 48 d) = 0) : d ∈ qu :=
  o7 hl (q8 hl hd hz) hX (fun d => d ∈ qu) (by decide) (by decide) (by decide) (by decide) (by decide) (by decide) (by decide) (by decide) (by decide) (by decide) (by decide) (by decide) (by decide) (by decide) (by decide)
theorem Ay {d : List UInt8} (hl : d.length = 4) : loK d 4 = dval 0 (bX 48 d) := by
  unfold loK; rw [List.take_of_length_le (by rw [dY]; omega)]
theorem Ba {d : List UInt8} (hl : d.length = 4) : hiK d 4 = dval 0 (bX 57 d) := by
  unfold hiK; rw [List.take_of_length_le (by rw [dY]; omega)]
theorem zm {g : Bool} {d : List UInt8} (hl : d.length = 4) (hd : ∀ c ∈ d, bn c = true ∨ c = 88) (hX : hasX d = true) :
    (fB g d).1 < 10000 ∧ (fB g d).2 < 10000 ∧ mtk d 4 (fB g d).1 = true ∧ mtk d 4 (fB g d).2 = true ∧ 1 ≤ (fB g d).2 ∧ (g = true → 1 ≤ (fB g d).1) ∧ ∀ w, w < 10000 → mtk d 4 w = true → (g = true → 1 ≤ w) → (fB g d).1 ≤ w ∧ w ≤ (fB g d).2 := by
  have h4 : (10 : Nat) ^ 4 = 10000 := by decide
  have d48 := jB (z := 48) (by decide) hd
  have d57 := jB (z := 57) (by decide) hd
  have b1 := jU (bX 48 d) 0 0 d48 (by simp)
  have b2 := jU (bX 57 d) 0 0 d57 (by simp)
  rw [dY, hl, Nat.add_zero, h4] at b1 b2
  have m1 := pL 48 (by decide) d hl hd 4 (by omega)
  have m2 := pL 57 (by decide) d hl hd 4 (by omega)
  rw [List.take_of_length_le (by rw [dY]; omega)] at m1 m2
  have hr : ∀ w, w < 10000 → mtk d 4 w = true → dval 0 (bX 48 d) ≤ w ∧ w ≤ dval 0 (bX 57 d) := fun w hw hm => by
    have := qz d hl hd 4 w (by omega) (by omega) hm
    rw [Ay hl, Ba hl] at this
    exact this
  have hhi : 1 ≤ dval 0 (bX 57 d) := by
    rcases Nat.eq_zero_or_pos (dval 0 (bX 57 d)) with h0 | h0
    · exfalso
      have hz : dval 0 (bX 48 d) = 0 := by
        have := (hr _ b1 m1).2
        omega
      have h15 := qK hl hd hX hz
      have hlow := qU h15
      have := (hr _ (by omega) hlow.1).2
      omega
    · exact h0
  unfold fB
  by_cases hz : g = true ∧ dval 0 (bX 48 d) = 0
  · rw [if_pos hz]
    have hlow := qU (qK hl hd hX hz.2)
    refine ⟨by simp only; omega, b2, hlow.1, m2, hhi, fun _ => hlow.2.1, fun w hw hm hg => ⟨hlow.2.2.2 w (hg hz.1) hm, (hr w hw hm).2⟩⟩
  · rw [if_neg hz]
    refine ⟨b1, b2, m1, m2, hhi, fun hg => ?_, fun w hw hm hg => hr w hw hm⟩
    simp only
    rcases Nat.eq_zero_or_pos (dval 0 (bX 48 d)) with h0 | h0
    · exact absurd ⟨hg, h0⟩ hz
    · exact h0
theorem zj {g l : Bool} {d : List UInt8} {x s : Int} (hok : okY g l d x s) : (eF g d x s).1 ≤ 10000000000000000 ∧ (eF g d x s).2 ≤ 10000000000000000 ∧ memP d x s (eF g d x s).1 ∧ memP d x s (eF g d x s).2 ∧ (hasX d = true → 1 ≤ (eF g d x s).2 ∧ (g = true → 1 ≤ (eF g d x s).1)) ∧
    ∀ w, w ≤ 10000000000000000 → memP d x s w → (hasX d = true → g = true → 1 ≤ w) → (eF g d x s).1 ≤ w ∧ w ≤ (eF g d x s).2 := by
  unfold eF memP
  cases hX : hasX d with
  | true =>
    obtain ⟨rfl, rfl, rfl, hl, hd⟩ := ie hok hX
    obtain ⟨p1, p2, p3, p4, p5, p6, p7⟩ := zm (g := g) hl hd hX
    have h4 : (10 : Nat) ^ 4 = 10000 := by decide
    simp only [if_true, h4]
    refine ⟨by omega, by omega, ⟨p3, Nat.div_eq_of_lt p1⟩, ⟨p4, Nat.div_eq_of_lt p2⟩, fun _ => ⟨p5, p6⟩, fun w hw hm hg => p7 w (by omega) hm.1 (hg trivial)⟩
  | false =>
    obtain ⟨k, q, rfl, rfl, hN⟩ := mb hok hX
    have hs := hN.small
    have hv : dval 0 d * 10 ^ k = val d k := rfl
    rw [hv] at hs
    obtain ⟨s1, s2, s3⟩ := Ar hN
    unfold E16 at s3
    simp only [Bool.false_eq_true, if_false, Int.toNat_natCast]
    unfold sd
    unfold pN at s1 s2 s3 ⊢
    by_cases h0 : 0 < q
    · rw [if_pos h0] at s1 s2 s3 ⊢
      rw [if_pos h0]
      have hu : 1 ≤ 10 ^ (d.length + k - q) := Nat.one_le_pow _ _ (by decide)
      generalize 10 ^ (d.length + k - q) = u at *
      generalize val d k = v at *
      simp only at s1 s2 s3 ⊢
      have hmul : v / u * u / u = v / u := Nat.mul_div_cancel _ hu
      have hlt : ∀ w, v / u * u ≤ w → w < v / u * u + u → w / u = v / u := by
        intro w h1 h2
        apply Nat.div_eq_of_lt_le
        · exact h1
        · rw [Nat.succ_mul]; exact h2
      have hback : ∀ w, v / u = w / u → v / u * u ≤ w ∧ w < v / u * u + u := by
        intro w h
        rw [h]
        have h1 := Nat.div_mul_le_self w u
        have h2 := Nat.div_add_mod w u
        have h3 := Nat.mod_lt w hu
        rw [Nat.mul_comm] at h2
        omega
      have hmin : min (v / u * u + u - 1) E16 ≤ v / u * u + u - 1 := Nat.min_le_left _ _
      have hself := hback v rfl
      refine ⟨by omega, s3, hmul.symm, (hlt _ (by omega) (by omega)).symm, fun q => (by cases q), fun w hw hm _ => ?_⟩
      obtain ⟨c1, c2⟩ := hback w hm
      refine ⟨c1, ?_⟩
      rw [Nat.le_min]
      unfold E16
      omega
    · rw [if_neg h0] at s1 s2 s3 ⊢
      rw [if_neg h0]
      simp only [Nat.div_one] at s1 s2 s3 ⊢
      refine ⟨s3, s3, trivial, trivial, fun q => (by cases q), fun w hw hm _ => by omega⟩
theorem pO {g l : Bool} {d : List UInt8} {x s : Int} (hok : okY g l d x s) : inP g d x s (sgn g (eF g d x s)).1 ∧ inP g d x s (sgn g (eF g d x s)).2 ∧ ∀ v, inP g d x s v → (sgn g (eF g d x s)).1 ≤ v ∧ v ≤ (sgn g (eF g d x s)).2 := by
  obtain ⟨p1, p2, p3, p4, p5, p6⟩ := zj hok
  generalize eF g d x s = sp at *
  obtain ⟨lo, hi⟩ := sp
  simp only at p1 p2 p3 p4 p5 p6
  cases g with
  | true =>
    have hw : ∀ a : Nat, wOf true (-(a : Int)) = (a : Int) := fun a => by unfold wOf; simp
    have mk : ∀ a : Nat, a ≤ 10000000000000000 → memP d x s a → (hasX d = true → 1 ≤ a) → inP true d x s (-(a : Int)) := by
      intro a h1 h2 h3
      refine ⟨by omega, by omega, by rw [hw]; omega, fun q => ?_, by rw [hw, Int.toNat_natCast]; exact h2⟩
      have := h3 q.1
      have h4 := q.2.2
      rw [hw] at h4
      omega
    simp only [sgn, if_true]
    refine ⟨mk hi p2 p4 (fun h => (p5 h).1), mk lo p1 p3 (fun h => (p5 h).2 rfl), fun v hv => ?_⟩
    obtain ⟨v1, v2, v3, v4, v5⟩ := hv
    have hwv : wOf true v = -v := rfl
    rw [hwv] at v3 v4 v5
    have := p6 (-v).toNat (by omega) v5 (fun hx _ => by
      have : ¬ -v = 0 := fun e => v4 ⟨hx, rfl, e⟩
      omega)
    omega
  | false =>
    have hw : ∀ a : Int, wOf false a = a := fun a => rfl
    have mk : ∀ a : Nat, a ≤ 10000000000000000 → memP d x s a → inP false d x s (a : Int) := by
      intro a h1 h2
      exact ⟨by omega, by omega, by rw [hw]; omega, fun q => (by cases q.2.1), by rw [hw, Int.toNat_natCast]; exact h2⟩
    simp only [sgn, Bool.false_eq_true, if_false]
    refine ⟨mk lo p1 p3, mk hi p2 p4, fun v hv => ?_⟩
    obtain ⟨v1, v2, v3, v4, v5⟩ := hv
    rw [hw] at v3 v5
    have := p6 v.toNat (by omega) v5 (fun _ q => by cases q)
    omega
end Go.Sh
namespace Go.Sh.Mk
open Go.Abs
def okB (c : UInt8) : Bool := c.toNat == 88 || (decide (48 ≤ c.toNat) && decide (c.toNat ≤ 57))
def chk (s : List UInt8) : Int := if 18 < s.length then 3 else if s.all okB then (if s = [] then 5 else 0) else 5
theorem ml (n : Nat) (s0 s : List UInt8) (hn : s.length + 1 < n) :
    af (dI n) n (s0, s, 0) = some (if s.all okB then .inr s0 else .inl 5) := by
  have := dH (step := dI n) (fun x => x.1 = s0 ∧ x.2.1 = s ∧ x.2.2 ≤ s.length) (fun x => s.length - x.2.2)
    (fun x => if (s.drop x.2.2).all okB then .inr s0 else .inl 5) ?_ n (s0, s, 0) ⟨rfl, rfl, Nat.zero_le _⟩ (by simp; omega)
  · simpa using this
  rintro ⟨a, b, i⟩ ⟨rfl, rfl, hi⟩
  simp only at hi ⊢
  rcases Nat.lt_or_ge i b.length with hlt | hge
  · obtain ⟨c, hc⟩ : ∃ c, b[i]? = some c := ⟨b[i], List.getElem?_eq_getElem hlt⟩
    have hb : Nat.blt i b.length = true := Nat.ble_eq_true_of_le hlt
    rw [fY hc, List.all_cons]
    simp only [dI, hb, cond_true]
    by_cases h128 : c.toNat < 128
    · rw [sw hc h128]
      by_cases h88 : c.toNat = 88
      · refine .inl ⟨(a, b, i + 1), by simp [h88], ⟨rfl, rfl, by simp only; omega⟩, by simp only; omega, ?_⟩
        simp [okB, h88]
      · by_cases h48 : c.toNat < 48
        · refine .inr ?_
          have e1 : (((c.toNat : Nat) : Int) != 88) = true := by simp; omega
          have e2 : (decide (((c.toNat : Nat) : Int) < 48)) = true := by simp; omega
          have e3 : okB c = false := by simp [okB]; omega
          simp [e1, e2, e3]
        · by_cases h57 : 57 < c.toNat
          · refine .inr ?_
            have e1 : (((c.toNat : Nat) : Int) != 88) = true := by simp; omega
            have e2 : (decide (((c.toNat : Nat) : Int) < 48)) = false := by simp; omega
            have e4 : (decide (((c.toNat : Nat) : Int) > 57)) = true := by simp; omega
            have e3 : okB c = false := by simp [okB]; omega
            simp [e1, e2, e3, e4]
          · have e1 : (((c.toNat : Nat) : Int) != 88) = true := by simp; omega
            have e2 : (decide (((c.toNat : Nat) : Int) < 48)) = false := by simp; omega
            have e4 : (decide (((c.toNat : Nat) : Int) > 57)) = false := by simp; omega
            have e3 : okB c = true := by simp [okB]; omega
            refine .inl ⟨(a, b, i + 1), by simp only [e1, e2, e4, cond_true, cond_false], ⟨rfl, rfl, by simp only; omega⟩, by simp only; omega, ?_⟩
            simp [e3]
    · obtain ⟨h1, h2⟩ := tN hc (by omega)
      refine .inr ?_
      have e1 : ((((dec b i).1 : Nat) : Int) != 88) = true := by simp; omega
      have e2 : (decide ((((dec b i).1 : Nat) : Int) < 48)) = false := by simp; omega
      have e4 : (decide ((((dec b i).1 : Nat) : Int) > 57)) = true := by simp; omega
      have e3 : okB c = false := by simp [okB]; omega
      simp [e1, e2, e3, e4]
  · have hb : Nat.blt i b.length = false := by
      cases h : Nat.blt i b.length with
      | false => rfl
      | true => have : i < b.length := Nat.le_of_ble_eq_true h; omega
    refine .inr ?_
    simp only [dI, hb, cond_false]
    rw [List.drop_eq_nil_of_le hge]
    rfl
theorem eu (n : Nat) (s : List UInt8) (hn : 30 ≤ n) : d9 n s = some (chk s) := by
  unfold d9 chk
  by_cases h : 18 < s.length
  · have : (decide (((List.length s : Nat) : Int) > 18)) = true := by simp; omega
    simp [this, h]
  · have e : (decide (((List.length s : Nat) : Int) > 18)) = false := by simp; omega
    simp only [e, cond_false, h, if_false]
    rw [ml n s s (by omega)]
    by_cases ha : s.all okB = true
    · simp only [ha, if_true, ob]
      by_cases hs : s = []
      · simp [hs]
      · have : (s == ([] : List UInt8)) = false := by simpa using hs
        simp [this, hs]
    · simp [ha, ob]
theorem fJ {s : List UInt8} (h : chk s = 0) : s.length ≤ 18 ∧ s ≠ [] ∧ ∀ c ∈ s, okB c = true := by
  unfold chk at h
  split at h
  · simp at h
  · split at h
    · rename_i ha
      split at h
      · simp at h
      · rename_i hs
        exact ⟨by omega, hs, by simpa using ha⟩
    · simp at h
def nums (l : List UInt8) : List Int := l.map fun b => ((b.toNat : Nat) : Int)
def over (d : List Int) (i : Nat) (l : List Int) : List Int := d.take i ++ (l ++ d.drop (i + l.length))
theorem qp (d : List Int) (i : Nat) (x : Int) (l : List Int) (h : i < d.length) : over (d.set i x) (i + 1) l = over d i (x :: l) := by
  unfold over
  rw [show (d.set i x).take (i + 1) = d.take i ++ [x] from by
    rw [List.take_succ_eq_append_getElem (by simpa using h)]
    simp [List.take_set_of_le]]
  rw [List.drop_set_of_lt (by omega)]
  simp [Nat.add_assoc, Nat.add_comm 1]
theorem ug (d : List Int) (i : Nat) : over d i [] = d := by simp [over]
theorem y8 (d : List Int) (i : Nat) (l : List Int) (h : i + l.length ≤ d.length) : (over d i l).length = d.length := by
  unfold over; simp; omega
theorem yc {x y : UInt8} : (((x.toNat : Nat) : Int) == ((y.toNat : Nat) : Int)) = decide (x = y) := by
  by_cases h : x = y
  · simp [h]
  · have : x.toNat ≠ y.toNat := fun e => h (UInt8.toNat_inj.1 e)
    simp [h]; omega
theorem pw {x : UInt8} : (((x.toNat : Nat) : Int) == 88) = decide (x = 88) := by
  have := yc (x := x) (y := 88)
  simpa using this
def dg : Nat → Int → List Int
  | 0, _ => []
  | L + 1, k => dg L (k / 10) ++ [48 + k % 10]
theorem nS : ∀ (L : Nat) (k : Int), (dg L k).length = L
  | 0, _ => rfl
  | L + 1, k => by simp [dg, nS L]
theorem kZ : ∀ (L : Nat) (k : Int), ∀ x ∈ dg L k, 48 ≤ x ∧ x < 58
  | 0, _, x, h => by simp [dg] at h
  | L + 1, k, x, h => by
    simp only [dg, List.mem_append, List.mem_singleton] at h
    rcases h with h | rfl
    · exact kZ L _ x h
    · omega
def eh : List UInt8 → List Int → Bool
  | c :: m, d :: l => (c == 88 || decide (((c.toNat : Nat) : Int) = d)) && eh m l
  | _, _ => true
theorem l9 : ∀ {a c : List UInt8} {b d : List Int}, a.length = b.length → eh (a ++ c) (b ++ d) = (eh a b && eh c d)
  | [], c, [], d, _ => by simp [eh]
  | x :: a, c, y :: b, d, h => by
    simp only [List.length_cons, Nat.add_right_cancel_iff] at h
    simp only [List.cons_append, eh, l9 h, Bool.and_assoc]
def hasM (m : List UInt8) (k : Int) : Bool := decide (0 ≤ k) && (decide (k < 10 ^ m.length) && eh m (dg m.length k))
theorem sU (L : Nat) (h : L ≤ 18) : gO 20000000 ((L : Nat) : Int) = some (10 ^ L) := by
  have hk : allN (fun i => match gO 20000000 ((i : Nat) : Int) with | some r => decide (r = 10 ^ i) | none => false) 19 = true := by kernel_rfl
  have := se hk L (by omega)
  split at this
  · rename_i r hr
    rw [hr]; simpa using this
  · cases this
theorem rA (L : Nat) (h : L ≤ 18) : (10 : Int) ^ L ≤ 1000000000000000000 := by
  have hk : allN (fun i => decide ((10 : Int) ^ i ≤ 1000000000000000000)) 19 = true := by kernel_rfl
  simpa using se hk L (by omega)
theorem B3 {k : Int} (h : 0 ≤ k) : Int.tmod k 10 = k % 10 := Int.tmod_eq_emod_of_nonneg h
theorem BL {k : Int} (h : 0 ≤ k) : Int.tdiv k 10 = k / 10 := Int.tdiv_eq_ediv_of_nonneg h
theorem us (k : Int) (i : Nat) (d : List Int) (h0 : 0 ≤ k) (h1 : k < 9223372036854775808) (hi : i ≤ 18) (hd : d.length = 18) :
    af (dL 20000000) 20000000 (k, (i : Int) - 1, d) = some (over d 0 (dg i k)) := by
  have := dH (step := dL 20000000) (fun x => (0 ≤ x.1 ∧ x.1 < 9223372036854775808) ∧ (-1 ≤ x.2.1 ∧ x.2.1 ≤ 17) ∧ x.2.2.length = 18) (fun x => (x.2.1 + 1).toNat)
    (fun x => over x.2.2 0 (dg (x.2.1 + 1).toNat x.1)) ?_ 20000000 (k, (i : Int) - 1, d) ⟨⟨h0, h1⟩, ⟨by simp only; omega, by simp only; omega⟩, hd⟩ (by simp only; omega)
  · simpa using this
  rintro ⟨k, i, d⟩ ⟨⟨h0, h1⟩, ⟨h2, h3⟩, hd⟩
  simp only at h0 h1 h2 h3 hd ⊢
  by_cases hi : 0 ≤ i
  · obtain ⟨j, rfl⟩ : ∃ j : Nat, i = j := ⟨i.toNat, by omega⟩
    have hj : j < 18 := by omega
    have e1 : decide ((j : Int) ≥ 0) = true := by simp
    have e2 : Nat.blt j 18 = true := Nat.ble_eq_true_of_le hj
    have w1 : IntKind.wrap .i64 ((j : Int) - 1) = (j : Int) - 1 := wrap_i64 _ (by omega) (by omega)
    have w2 : IntKind.wrap .i64 (Int.tdiv k 10) = k / 10 := by rw [BL h0]; exact wrap_i64 _ (by omega) (by omega)
    have w3 : IntKind.wrap .u8 (IntKind.wrap .i64 (48 + Int.tmod k 10)) = 48 + k % 10 := by rw [B3 h0, wrap_i64 _ (by omega) (by omega), eN _ (by omega) (by omega)]
    refine .inl ⟨(k / 10, (j : Int) - 1, d.set j (48 + k % 10)), by simp only [dL, e1, cond_true, bv hj, ob, e2, w1, w2, w3], ⟨⟨by simp only; omega, by simp only; omega⟩, ⟨by simp only; omega, by simp only; omega⟩, by simpa using hd⟩, by simp only; omega, ?_⟩
    have s1 : ((j : Int) - 1 + 1).toNat = j := by omega
    have s2 : ((j : Int) + 1).toNat = j + 1 := by omega
    simp only [s1, s2, over, List.take_zero, List.nil_append, nS, Nat.zero_add, dg, List.append_assoc]
    congr 1
    rw [List.drop_set, if_neg (by omega), Nat.sub_self, List.drop_eq_getElem_cons (by omega)]
    simp only [List.set_cons_zero, List.length_append, nS, List.length_cons, List.length_nil, List.cons_append, List.nil_append, Nat.zero_add]
  · have e1 : decide (i ≥ 0) = false := by simp; omega
    have s : (i + 1).toNat = 0 := by omega
    refine .inr ?_
    simp only [dL, e1, cond_false, s, dg, ug]
theorem yI (m : List UInt8) (k : Int) (hm : m.length ≤ 18) (h0 : 0 ≤ k) (h1 : k < 9223372036854775808) :
    fM 20000000 m k = some (over [0, 0, 0, 0, 0, 0, 0, 0, 0, 0, 0, 0, 0, 0, 0, 0, 0, 0] 0 (dg m.length k)) := by
  have w : IntKind.wrap .i64 (((List.length m : Nat) : Int) - 1) = (m.length : Int) - 1 := wrap_i64 _ (by omega) (by omega)
  simp only [fM, w, us k m.length [0, 0, 0, 0, 0, 0, 0, 0, 0, 0, 0, 0, 0, 0, 0, 0, 0, 0] h0 h1 hm (by rfl), ob]
theorem mL {d l : List Int} {i : Nat} (h : i < l.length) : (over d 0 l)[i]? = l[i]? := by
  unfold over
  simp only [List.take_zero, List.nil_append]
  rw [List.getElem?_append_left h]
theorem oY : ∀ (l : List Int), (∀ x ∈ l, 0 ≤ x ∧ x < 256) → nums (dx l) = l
  | [], _ => rfl
  | x :: l, h => by
    have ih := oY l fun y hy => h y (List.mem_cons_of_mem _ hy)
    obtain ⟨h0, h1⟩ := h x (by simp)
    have e : (((UInt8.ofNat x.toNat).toNat : Nat) : Int) = x := by
      rw [UInt8.toNat_ofNat', Nat.mod_eq_of_lt (by omega)]; omega
    simp only [nums, dx, List.map_map] at ih ⊢
    simp only [List.map_cons, Function.comp, e]
    rw [show List.map ((fun b : UInt8 => ((b.toNat : Nat) : Int)) ∘ fun n : Int => UInt8.ofNat n.toNat) l = l from ih]
theorem ze (l : List UInt8) : (nums l).length = l.length := by simp [nums]
def cnt : List UInt8 → Nat
  | [] => 0
  | c :: r => if c = 88 then cnt r + 1 else cnt r
def dv (c : UInt8) : Int := ((c.toNat : Nat) : Int) - 48
def nth : List UInt8 → Int → Int
  | [], _ => 0
  | c :: r, i => if c = 88 then 10 * nth r (i / 10) + i % 10 else 10 * nth r i + dv c
def ag : List UInt8 → Int → Bool
  | [], _ => true
  | c :: r, k => ag r (k / 10) && (decide (c = 88) || decide (dv c = k % 10))
def idx : List UInt8 → Int → Int
  | [], _ => 0
  | c :: r, k => if c = 88 then 10 * idx r (k / 10) + k % 10 else idx r (k / 10)
def okR (r : List UInt8) : Prop := ∀ c ∈ r, c = 88 ∨ (0 ≤ dv c ∧ dv c < 10)
theorem nk {m : List UInt8} (h : ∀ c ∈ m, okB c = true) : okR m.reverse := by
  intro c hc
  have := h c (List.mem_reverse.1 hc)
  simp only [okB, Bool.or_eq_true, beq_iff_eq, Bool.and_eq_true, decide_eq_true_eq] at this
  rcases this with h | h
  · exact .inl (UInt8.toNat_inj.1 (by simpa using h))
  · exact .inr (by unfold dv; omega)
theorem ko {c : UInt8} {r : List UInt8} (h : okR (c :: r)) : okR r := fun x hx => h x (List.mem_cons_of_mem _ hx)
theorem dK (n : Nat) : (10 : Int) ^ (n + 1) = 10 * 10 ^ n := by rw [Int.pow_succ, Int.mul_comm]
theorem ld (n : Nat) : (0 : Int) < 10 ^ n := Int.pow_pos (by omega)
theorem iO : ∀ {r : List UInt8}, okR r → ∀ i, 0 ≤ i → 0 ≤ nth r i ∧ nth r i < 10 ^ r.length
  | [], _, i, _ => by simp [nth]
  | c :: r, h, i, hi => by
    simp only [nth, List.length_cons, dK]
    split
    · have := iO (ko h) (i / 10) (by omega)
      omega
    · rename_i hc
      have := iO (ko h) i hi
      have := (h c (by simp)).resolve_left hc
      omega
theorem sX : ∀ {r : List UInt8}, okR r → ∀ i, 0 ≤ i → ag r (nth r i) = true
  | [], _, _, _ => rfl
  | c :: r, h, i, hi => by
    simp only [nth, ag]
    split
    · rename_i hc
      have e : (10 * nth r (i / 10) + i % 10) / 10 = nth r (i / 10) := by omega
      rw [e, sX (ko h) (i / 10) (by omega)]
      simp [hc]
    · rename_i hc
      have hd := (h c (by simp)).resolve_left hc
      have e : (10 * nth r i + dv c) / 10 = nth r i := by omega
      have e2 : (10 * nth r i + dv c) % 10 = dv c := by omega
      rw [e, e2, sX (ko h) i hi]
      simp
theorem mY : ∀ (r : List UInt8) (k : Int), 0 ≤ k → 0 ≤ idx r k ∧ idx r k < 10 ^ cnt r
  | [], k, _ => by simp [idx, cnt]
  | c :: r, k, hk => by
    have := mY r (k / 10) (by omega)
    simp only [idx, cnt]
    split
    · rw [dK]; omega
    · exact this
theorem xu : ∀ {r : List UInt8} {k : Int}, 0 ≤ k → k < 10 ^ r.length → ag r k = true → nth r (idx r k) = k
  | [], k, h0, h1, _ => by simp at h1; simp [nth]; omega
  | c :: r, k, h0, h1, ha => by
    simp only [ag, Bool.and_eq_true, Bool.or_eq_true, decide_eq_true_eq] at ha
    rw [List.length_cons, dK] at h1
    have ih := xu (r := r) (k := k / 10) (by omega) (by omega) ha.1
    simp only [nth, idx]
    split
    · have := mY r (k / 10) (by omega)
      have e : (10 * idx r (k / 10) + k % 10) / 10 = idx r (k / 10) := by omega
      have e2 : (10 * idx r (k / 10) + k % 10) % 10 = k % 10 := by omega
      rw [e, e2, ih]; omega
    · rename_i hc
      rw [ih]
      have := ha.2.resolve_left hc
      omega
theorem mC : ∀ {r : List UInt8}, okR r → ∀ i j, 0 ≤ i → i < j → j < 10 ^ cnt r → nth r i < nth r j
  | [], _, i, j, h0, h1, h2 => by simp [cnt] at h2; omega
  | c :: r, h, i, j, h0, h1, h2 => by
    simp only [nth, cnt] at h2 ⊢
    split
    · rename_i hc
      rw [if_pos hc, dK] at h2
      by_cases hq : i / 10 = j / 10
      · rw [hq]; omega
      · have := mC (ko h) (i / 10) (j / 10) (by omega) (by omega) (by omega)
        omega
    · rename_i hc
      rw [if_neg hc] at h2
      have := mC (ko h) i j h0 h1 h2
      omega
theorem uj : ∀ (r : List UInt8), ∀ k, eh r.reverse (dg r.length k) = ag r k
  | [], k => rfl
  | c :: r, k => by
    simp only [List.reverse_cons, List.length_cons, dg, ag]
    rw [l9 (by rw [List.length_reverse, nS]), uj r]
    have e1 : decide (((c.toNat : Nat) : Int) = 48 + k % 10) = decide (dv c = k % 10) := decide_eq_decide.2 (by unfold dv; omega)
    have e2 : (c == 88) = decide (c = 88) := by by_cases h : c = 88 <;> simp [h]
    simp only [eh, Bool.and_true, e1, e2]
theorem pJ (m : List UInt8) (k : Int) : hasM m k = (decide (0 ≤ k) && (decide (k < 10 ^ m.length) && ag m.reverse k)) := by
  have := uj m.reverse k
  rw [List.reverse_reverse, List.length_reverse] at this
  unfold hasM
  rw [this]
theorem ll : ∀ (m : List UInt8), cnt m = m.count 88
  | [] => rfl
  | c :: m => by
    simp only [cnt, ll m, List.count_cons]
    by_cases h : c = 88 <;> simp [h]
theorem iY (m : List UInt8) : cnt m.reverse = cnt m := by rw [ll, ll, List.count_reverse]
theorem tB : ∀ (m : List UInt8), cnt m ≤ m.length
  | [] => by simp [cnt]
  | c :: m => by
    have := tB m
    simp only [cnt, List.length_cons]
    split <;> omega
theorem xX {m : List UInt8} (hm : chk m = 0) : jk 20000000 m = some (10 ^ cnt m, 0) := by
  obtain ⟨h18, _, _⟩ := fJ hm
  have e0 : ((0 : Int) != 0) = false := by simp
  have hc : (Lib.countByte m (UInt8.ofNat (Int.toNat 88)) : Nat) = cnt m := by rw [ll]; rfl
  have := tB m
  simp only [jk, eu 20000000 m (by omega), hm, ob, e0, cond_false, jg, hc, sU (cnt m) (by omega)]
def fd (x y : Int) : Int := (if y = 88 then x else y) - 48
def fval (x : Int) (l : List Int) : Int := l.foldl (fun n y => 10 * n + fd x y) 0
theorem pE (x : Int) : ∀ (l : List Int) (n : Int), l.foldl (fun n y => 10 * n + fd x y) n = n * 10 ^ l.length + fval x l
  | [], n => by simp [fval]
  | y :: l, n => by
    have e := pE x l (10 * n + fd x y)
    have e2 := pE x l (10 * 0 + fd x y)
    simp only [fval, List.foldl_cons, List.length_cons, dK] at e e2 ⊢
    rw [e, e2, Int.add_mul, Int.add_mul]
    have : 10 * n * 10 ^ l.length = n * (10 * 10 ^ l.length) := by rw [Int.mul_comm 10 n, Int.mul_assoc]
    omega
theorem od (s : List UInt8) (x : Int) (h18 : s.length ≤ 18) (hs : ∀ c ∈ s, 0 ≤ fd x ((c.toNat : Nat) : Int) ∧ fd x ((c.toNat : Nat) : Int) < 10) : gk 20000000 s x = some (fval x (nums s)) := by
  have hs' : ∀ y ∈ nums s, 0 ≤ fd x y ∧ fd x y < 10 := by
    intro y hy
    obtain ⟨c, hc, rfl⟩ := List.mem_map.1 hy
    exact hs c hc
  have hl : (nums s).length = s.length := ze s
  have := dH (step := dp 20000000)
    (fun st => st.1 = x ∧ st.2.2.1 = ((s.length : Nat) : Int) ∧ st.2.2.2.2 = nums s ∧ (0 ≤ st.2.2.2.1 ∧ st.2.2.2.1 ≤ s.length) ∧ 0 ≤ st.2.1 ∧ st.2.1 < 10 ^ st.2.2.2.1.toNat) (fun st => s.length - st.2.2.2.1.toNat)
    (fun st => ((nums s).drop st.2.2.2.1.toNat).foldl (fun n y => 10 * n + fd x y) st.2.1) ?_ 20000000 (x, 0, ((s.length : Nat) : Int), 0, nums s) ⟨rfl, rfl, rfl, ⟨by simp, by simp⟩, by simp, by simp⟩ (by simp; omega)
  · show (ob (af (dp 20000000) 20000000 (x, 0, ((List.length (nums s) : Nat) : Int), 0, nums s)) fun y30 => some y30) = _
    rw [hl, this]
    rfl
  rintro ⟨x', n, len, i, l⟩ ⟨q1, q2, q3, ⟨h0, hi⟩, n0, n1⟩
  simp only at q1 q2 q3 h0 hi n0 n1 ⊢
  subst q1 q2 q3
  obtain ⟨j, rfl⟩ : ∃ j : Nat, i = j := ⟨i.toNat, by omega⟩
  simp only [Int.toNat_natCast] at n1 ⊢
  rcases Nat.lt_or_ge j s.length with hlt | hge
  · obtain ⟨y, hy⟩ : ∃ c, (nums s)[j]? = some c := ⟨(nums s)[j]'(by omega), List.getElem?_eq_getElem (by omega)⟩
    obtain ⟨d0, d1⟩ := hs' y (List.mem_of_getElem? hy)
    have hb : (decide ((j : Int) < ((s.length : Nat) : Int))) = true := by simp; omega
    have hw : IntKind.wrap .i64 ((j : Int) + 1) = ((j + 1 : Nat) : Int) := by rw [wrap_i64 _ (by omega) (by omega)]; omega
    have hb1 := rA (j + 1) (by omega)
    rw [dK] at hb1
    have w1 : IntKind.wrap .i64 (10 * n) = 10 * n := wrap_i64 _ (by omega) (by omega)
    have w2 : ∀ z : Int, 0 ≤ z → z < 10 → IntKind.wrap .i64 (10 * n + IntKind.wrap .i64 (IntKind.wrap .u8 z)) = 10 * n + z := fun z z0 z1 => by
      rw [eN z (by omega) (by omega), wrap_i64 z (by omega) (by omega), wrap_i64 _ (by omega) (by omega)]
    rw [fY hy, List.foldl_cons]
    simp only [dp, hb, cond_true, bv (show j < (nums s).length by omega), ob, hy, hw, w1]
    have next : 0 ≤ 10 * n + fd x' y ∧ 10 * n + fd x' y < 10 ^ (j + 1) := by rw [dK]; omega
    by_cases h88 : y = 88
    · have e1 : (y == 88) = true := by simpa using h88
      have hd : fd x' y = x' - 48 := by simp [fd, h88]
      rw [hd] at d0 d1 next ⊢
      refine .inl ⟨(x', 10 * n + (x' - 48), ((s.length : Nat) : Int), ((j + 1 : Nat) : Int), nums s), by simp only [e1, cond_true, w2 _ d0 d1], ⟨rfl, rfl, rfl, ⟨by simp only; omega, by simp only; omega⟩, next.1, by simpa only [Int.toNat_natCast] using next.2⟩, by simp only [Int.toNat_natCast]; omega, by simp only [Int.toNat_natCast]⟩
    · have e1 : (y == 88) = false := by simpa using h88
      have hd : fd x' y = y - 48 := by simp [fd, h88]
      rw [hd] at d0 d1 next ⊢
      refine .inl ⟨(x', 10 * n + (y - 48), ((s.length : Nat) : Int), ((j + 1 : Nat) : Int), nums s), by simp only [e1, cond_false, w2 _ d0 d1], ⟨rfl, rfl, rfl, ⟨by simp only; omega, by simp only; omega⟩, next.1, by simpa only [Int.toNat_natCast] using next.2⟩, by simp only [Int.toNat_natCast]; omega, by simp only [Int.toNat_natCast]⟩
  · have hb : (decide ((j : Int) < ((s.length : Nat) : Int))) = false := by simp; omega
    refine .inr ?_
    simp only [dp, hb, cond_false]
    rw [List.drop_eq_nil_of_le (by omega)]; rfl
theorem nK (x : Int) (l : List Int) (y : Int) : fval x (l ++ [y]) = 10 * fval x l + fd x y := by simp [fval, List.foldl_append]
theorem qX (r : List UInt8) (c : UInt8) : nums ((c :: r).reverse) = nums r.reverse ++ [((c.toNat : Nat) : Int)] := by simp [nums]
theorem rT (x : Int) (c : UInt8) : fd x ((c.toNat : Nat) : Int) = if c = 88 then x - 48 else dv c := by
  unfold fd dv
  by_cases h : c = 88
  · simp [h]
  · have : ¬ ((c.toNat : Nat) : Int) = 88 := fun e => h (UInt8.toNat_inj.1 (by simpa using (by omega : c.toNat = 88)))
    rw [if_neg this, if_neg h]
theorem oJ : ∀ (r : List UInt8), fval 48 (nums r.reverse) = nth r 0
  | [] => rfl
  | c :: r => by
    rw [qX, nK, oJ r, rT]
    simp only [nth]
    split <;> simp
theorem kY : ∀ (r : List UInt8), fval 57 (nums r.reverse) = nth r (10 ^ cnt r - 1)
  | [] => rfl
  | c :: r => by
    have hp := ld (cnt r)
    rw [qX, nK, kY r, rT]
    simp only [nth, cnt]
    split
    · rw [dK]
      have e1 : (10 * (10 : Int) ^ cnt r - 1) / 10 = 10 ^ cnt r - 1 := by omega
      have e2 : (10 * (10 : Int) ^ cnt r - 1) % 10 = 9 := by omega
      rw [e1, e2]; omega
    · rfl
theorem Br {m : List UInt8} (hok : ∀ c ∈ m, okB c = true) {x : Int} (hx : 48 ≤ x ∧ x < 58) : ∀ c ∈ m, 0 ≤ fd x ((c.toNat : Nat) : Int) ∧ fd x ((c.toNat : Nat) : Int) < 10 := by
  intro c hc
  rw [rT]
  have := nk hok c (List.mem_reverse.2 hc)
  split
  · omega
  · rename_i h; exact this.resolve_left h
theorem zp {m : List UInt8} (hm : chk m = 0) : iU 20000000 m = some (nth m.reverse 0, 0) := by
  obtain ⟨h18, _, hok⟩ := fJ hm
  have e0 : ((0 : Int) != 0) = false := by simp
  have := oJ m.reverse
  rw [List.reverse_reverse] at this
  simp only [iU, eu 20000000 m (by omega), hm, ob, e0, cond_false, od m 48 h18 (Br hok (by omega)), this]
theorem r6 {m : List UInt8} (hm : chk m = 0) : fX 20000000 m = some (nth m.reverse (10 ^ cnt m - 1), 0) := by
  obtain ⟨h18, _, hok⟩ := fJ hm
  have e0 : ((0 : Int) != 0) = false := by simp
  have := kY m.reverse
  rw [List.reverse_reverse, iY] at this
  simp only [fX, eu 20000000 m (by omega), hm, ob, e0, cond_false, od m 57 h18 (Br hok (by omega)), this]
theorem y9 {m : List UInt8} {l : List Int} (z : List Int) (h18 : m.length ≤ 18) (hl : l.length = m.length) (hr : ∀ y ∈ l, 48 ≤ y ∧ y < 58) : dc 20000000 m (over z 0 l) = some (fval 0 l) := by
  have ht : List.take m.length (over z 0 l) = l := by
    unfold over
    rw [List.take_zero, List.nil_append, List.take_append_of_le_length (by omega), List.take_of_length_le (by omega)]
  have hn : nums (dx l) = l := oY l fun y hy => by have := hr y hy; omega
  have hb : (dx l).length = m.length := by simp [dx, hl]
  simp only [dc, dV h18, ob, Nat.zero_add, show Nat.ble m.length 18 = true from Nat.ble_eq_true_of_le h18, cond_true, List.drop_zero, ht]
  rw [od (dx l) 0 (by omega) ?_, hn]
  intro c hc
  have hmem : ((c.toNat : Nat) : Int) ∈ l := by rw [← hn]; exact List.mem_map.2 ⟨c, hc, rfl⟩
  have := hr _ hmem
  unfold fd
  rw [if_neg (by omega)]; omega
theorem ud {m : List UInt8} (hm : chk m = 0) {i : Int} (h0 : 0 ≤ i) : hasM m (nth m.reverse i) = true := by
  obtain ⟨h18, _, hok⟩ := fJ hm
  have hr := iO (nk hok) i h0
  rw [List.length_reverse] at hr
  rw [pJ, sX (nk hok) i h0, decide_eq_true hr.1, decide_eq_true hr.2]
  rfl
def vl : List Int → Int
  | [] => 0
  | y :: l => (y - 48) * 10 ^ l.length + vl l
def digl (l : List Int) : Prop := ∀ y ∈ l, 48 ≤ y ∧ y < 58
theorem bj {y : Int} {l : List Int} (h : digl (y :: l)) : digl l := fun x hx => h x (List.mem_cons_of_mem _ hx)
theorem mG : ∀ {l : List Int}, digl l → 0 ≤ vl l ∧ vl l < 10 ^ l.length
  | [], _ => by simp [vl]
  | y :: l, h => by
    have ih := mG (bj h)
    have hy := h y (by simp)
    have hp := ld l.length
    simp only [vl, List.length_cons, dK]
    have a1 : 0 ≤ (y - 48) * 10 ^ l.length := Int.mul_nonneg (by omega) (by omega)
    have a2 : (y - 48) * 10 ^ l.length ≤ 9 * 10 ^ l.length := Int.mul_le_mul_of_nonneg_right (by omega) (by omega)
    omega
theorem AL {y z : Int} {a b : List Int} (hl : a.length = b.length) (ha : digl a) (hb : digl b) (h : y < z) : vl (y :: a) < vl (z :: b) := by
  have h1 := mG ha
  have h2 := mG hb
  have hp := ld a.length
  simp only [vl]
  rw [← hl] at h2 ⊢
  have a2 : (y - 48 + 1) * 10 ^ a.length ≤ (z - 48) * 10 ^ a.length := Int.mul_le_mul_of_nonneg_right (by omega) (by omega)
  rw [Int.add_mul] at a2
  omega
theorem pM : ∀ {l : List Int}, digl l → fval 0 l = vl l
  | [], _ => rfl
  | y :: l, h => by
    have hy := h y (by simp)
    have e : fval 0 (y :: l) = l.foldl (fun n y => 10 * n + fd 0 y) (10 * 0 + fd 0 y) := rfl
    have e2 : fd 0 y = y - 48 := by unfold fd; rw [if_neg (by omega)]
    rw [e, pE, pM (bj h), e2]
    simp only [vl, Int.mul_zero, Int.zero_add]
theorem vk {l : List Int} {y : Int} (h : digl (l ++ [y])) : vl (l ++ [y]) = 10 * vl l + (y - 48) := by
  have hy := h y (by simp)
  have hl : digl l := fun x hx => h x (by simp [hx])
  rw [← pM h, ← pM hl, nK]
  unfold fd; rw [if_neg (by omega)]
theorem za : ∀ (L : Nat) (k : Int), 0 ≤ k → k < 10 ^ L → vl (dg L k) = k
  | 0, k, h0, h1 => by simp at h1; simp [dg, vl]; omega
  | L + 1, k, h0, h1 => by
    rw [dK] at h1
    have := za L (k / 10) (by omega) (by omega)
    have hd := kZ (L + 1) k
    simp only [dg] at hd ⊢
    rw [vk hd, this]; omega
theorem C0 {l : List Int} (h : digl l) : dg l.length (vl l) = l := by
  have go : ∀ (r : List Int), digl r.reverse → dg r.length (vl r.reverse) = r.reverse := by
    intro r
    induction r with
    | nil => intro _; rfl
    | cons y r ih =>
      intro h
      simp only [List.reverse_cons, List.length_cons] at h ⊢
      have hy := h y (by simp)
      rw [vk h]
      simp only [dg]
      have e1 : (10 * vl r.reverse + (y - 48)) / 10 = vl r.reverse := by omega
      have e2 : 48 + (10 * vl r.reverse + (y - 48)) % 10 = y := by omega
      rw [e1, e2, ih fun x hx => h x (List.mem_append.2 (.inl hx))]
  have := go l.reverse (by rw [List.reverse_reverse]; exact h)
  rwa [List.reverse_reverse, List.length_reverse] at this
def fst (up : Bool) : Int := cond up 48 57
def lst (up : Bool) : Int := cond up 57 48
def stp (up : Bool) (y : Int) : Int := cond up (y + 1) (y - 1)
def fil (up : Bool) (m : List UInt8) : List Int := m.map fun c => cond (decide (c = 88)) (fst up) ((c.toNat : Nat) : Int)
def nx (up : Bool) : List UInt8 → List Int → Option (List Int)
  | c :: m, y :: l =>
    if c = 88 then
      match nx up m l with
      | some r => some (y :: r)
      | none => if y = lst up then none else some (stp up y :: fil up m)
    else if ((c.toNat : Nat) : Int) = y then (nx up m l).map fun r => y :: r
    else if decide (((c.toNat : Nat) : Int) > y) = up then some (((c.toNat : Nat) : Int) :: fil up m) else none
  | _, _ => some []
def okM (m : List UInt8) : Prop := ∀ c ∈ m, okB c = true
theorem kb {c : UInt8} {m : List UInt8} (h : okM (c :: m)) : okM m := fun x hx => h x (List.mem_cons_of_mem _ hx)
theorem tf {c : UInt8} (h : okB c = true) (h88 : ¬ c = 88) : 48 ≤ ((c.toNat : Nat) : Int) ∧ ((c.toNat : Nat) : Int) < 58 := by
  simp only [okB, Bool.or_eq_true, beq_iff_eq, Bool.and_eq_true, decide_eq_true_eq] at h
  have : ¬ c.toNat = 88 := fun e => h88 (UInt8.toNat_inj.1 (by simpa using e))
  omega
theorem qm (up : Bool) (m : List UInt8) : (fil up m).length = m.length := by simp [fil]
theorem vQ (up : Bool) {m : List UInt8} (h : okM m) : digl (fil up m) := by
  intro y hy
  obtain ⟨c, hc, rfl⟩ := List.mem_map.1 hy
  by_cases h88 : c = 88
  · simp only [decide_eq_true h88, cond_true]
    cases up <;> simp [fst]
  · simp only [decide_eq_false h88, cond_false]
    exact tf (h c hc) h88
theorem nz (up : Bool) : ∀ (m : List UInt8), eh m (fil up m) = true
  | [] => rfl
  | c :: m => by
    have := nz up m
    simp only [fil, List.map_cons, eh] at this ⊢
    rw [this]
    by_cases h88 : c = 88
    · simp [h88]
    · simp [h88]
def bL (up : Bool) (a b : Int) : Prop := match up with | true => a ≤ b | false => b ≤ a
theorem pK (up : Bool) : ∀ {m : List UInt8} {e : List Int}, okM m → m.length = e.length → digl e → eh m e = true → bL up (vl (fil up m)) (vl e)
  | [], [], _, _, _, _ => by cases up <;> simp [fil, vl, bL]
  | c :: m, y :: e, hm, hl, he, ha => by
    simp only [List.length_cons, Nat.add_right_cancel_iff] at hl
    simp only [eh, Bool.and_eq_true, Bool.or_eq_true, beq_iff_eq, decide_eq_true_eq] at ha
    have ih := pK up (kb hm) hl (bj he) ha.2
    have hy := he y (by simp)
    have hfl := qm up m
    have h1 := vQ up (kb hm)
    have same : ∀ z : Int, vl (z :: fil up m) = (z - 48) * 10 ^ m.length + vl (fil up m) := fun z => by rw [vl, hfl]
    have hcons : fil up (c :: m) = (cond (decide (c = 88)) (fst up) ((c.toNat : Nat) : Int)) :: fil up m := rfl
    rw [hcons]
    by_cases h88 : c = 88
    · simp only [decide_eq_true h88, cond_true]
      by_cases hyf : y = fst up
      · rw [← hyf, same, vl, ← hl]
        cases up <;> simp only [bL] at ih ⊢ <;> omega
      · cases up
        · exact Int.le_of_lt (AL (by rw [hfl, hl]) (bj he) h1 (by simp [fst] at hyf ⊢; omega))
        · exact Int.le_of_lt (AL (by rw [hfl, hl]) h1 (bj he) (by simp [fst] at hyf ⊢; omega))
    · simp only [decide_eq_false h88, cond_false]
      rw [ha.1.resolve_left h88, same, vl, ← hl]
      cases up <;> simp only [bL] at ih ⊢ <;> omega
  | [], _ :: _, _, h, _, _ => by simp at h
  | _ :: _, [], _, h, _, _ => by simp at h
theorem Ab (up : Bool) : ∀ {m : List UInt8} {l : List Int}, okM m → m.length = l.length → digl l →
    match nx up m l with
    | some r => r.length = m.length ∧ digl r ∧ eh m r = true ∧ bL up (vl l) (vl r) ∧ ∀ e, e.length = m.length → digl e → eh m e = true → bL up (vl l) (vl e) → bL up (vl r) (vl e)
    | none => ∀ e, e.length = m.length → digl e → eh m e = true → ¬ bL up (vl l) (vl e)
  | [], [], _, _, _ => by
    simp only [nx]
    refine ⟨rfl, by intro y hy; simp at hy, rfl, by cases up <;> simp [bL], ?_⟩
    intro e h1 _ _ _
    simp only [List.length_nil] at h1
    rw [List.eq_nil_of_length_eq_zero h1]
    cases up <;> simp [bL]
  | c :: m, y :: l, hm, hl, hd => by
    simp only [List.length_cons, Nat.add_right_cancel_iff] at hl
    have ih := Ab up (kb hm) hl (bj hd)
    have hy := hd y (by simp)
    have hdl := bj hd
    have hfl := qm up m
    have hfd := vQ up (kb hm)
    have hlt : ∀ {z w : Int} {a b : List Int}, a.length = m.length → b.length = m.length → digl a → digl b → z < w → vl (z :: a) < vl (w :: b) := fun h1 h2 h3 h4 h5 => AL (by rw [h1, h2]) h3 h4 h5
    have hsame : ∀ (z : Int) {a b : List Int}, a.length = m.length → b.length = m.length → (bL up (vl (z :: a)) (vl (z :: b)) ↔ bL up (vl a) (vl b)) := fun z a b h1 h2 => by
      simp only [vl, h1, h2]
      cases up <;> simp only [bL] <;> omega
    -- whatever is not beyond
    have beh : ∀ {z w : Int} {a b : List Int}, a.length = m.length → b.length = m.length → digl a → digl b → z ≠ w → (bL up (vl (z :: a)) (vl (w :: b)) ↔ bL up z w) := fun {z w a b} h1 h2 h3 h4 h5 => by
      rcases Int.lt_trichotomy z w with h | h | h
      · have := hlt h1 h2 h3 h4 h
        cases up <;> simp only [bL] <;> omega
      · exact absurd h h5
      · have := hlt h2 h1 h4 h3 h
        cases up <;> simp only [bL] <;> omega
    have cases_e : ∀ e : List Int, e.length = (c :: m).length → ∃ w a, e = w :: a ∧ a.length = m.length := fun e h => by
      match e, h with
      | w :: a, h => exact ⟨w, a, rfl, by simpa using h⟩
    by_cases h88 : c = 88
    · cases hn : nx up m l with
      | some r =>
        rw [hn] at ih
        obtain ⟨i1, i2, i3, i4, i5⟩ := ih
        simp only [nx, if_pos h88, hn]
        refine ⟨by simp [i1], fun z hz => ?_, by simp [eh, h88, i3], (hsame y hl.symm i1).2 i4, fun e e1 e2 e3 e4 => ?_⟩
        · rcases List.mem_cons.1 hz with rfl | hz
          · exact hy
          · exact i2 z hz
        · obtain ⟨w, a, rfl, ha⟩ := cases_e e e1
          simp only [eh, h88, beq_self_eq_true, Bool.true_or, Bool.true_and] at e3
          by_cases hw : y = w
          · subst hw
            exact (hsame y i1 ha).2 (i5 a ha (bj e2) e3 ((hsame y hl.symm ha).1 e4))
          · exact (beh i1 ha i2 (bj e2) hw).2 ((beh hl.symm ha hdl (bj e2) hw).1 e4)
      | none =>
        rw [hn] at ih
        by_cases hlast : y = lst up
        · simp only [nx, if_pos h88, hn, if_pos hlast]
          intro e e1 e2 e3 e4
          obtain ⟨w, a, rfl, ha⟩ := cases_e e e1
          simp only [eh, h88, beq_self_eq_true, Bool.true_or, Bool.true_and] at e3
          have hw9 := e2 w (by simp)
          by_cases hw : y = w
          · subst hw
            exact ih a ha (bj e2) e3 ((hsame y hl.symm ha).1 e4)
          · have := (beh hl.symm ha hdl (bj e2) hw).1 e4
            cases up <;> simp only [bL, lst, cond_true, cond_false] at this hlast <;> omega
        · simp only [nx, if_pos h88, hn, if_neg hlast]
          have hs : 48 ≤ stp up y ∧ stp up y < 58 ∧ y ≠ stp up y ∧ bL up y (stp up y) ∧ ∀ w, w ≠ y → bL up y w → bL up (stp up y) w := by
            cases up <;> simp only [bL, lst, stp, cond_true, cond_false] at hlast ⊢ <;> exact ⟨by omega, by omega, by omega, by omega, fun w h1 h2 => by omega⟩
          obtain ⟨s1, s2, s3, s4, s5⟩ := hs
          refine ⟨by simp [hfl], fun z hz => ?_, by simp [eh, h88, nz], (beh hl.symm hfl hdl hfd s3).2 s4, fun e e1 e2 e3 e4 => ?_⟩
          · rcases List.mem_cons.1 hz with rfl | hz
            · exact ⟨s1, s2⟩
            · exact hfd z hz
          · obtain ⟨w, a, rfl, ha⟩ := cases_e e e1
            simp only [eh, h88, beq_self_eq_true, Bool.true_or, Bool.true_and] at e3
            by_cases hw : y = w
            · subst hw
              exact absurd ((hsame y hl.symm ha).1 e4) (ih a ha (bj e2) e3)
            · have h9 := s5 w (fun h => hw h.symm) ((beh hl.symm ha hdl (bj e2) hw).1 e4)
              by_cases hw2 : stp up y = w
              · rw [hw2]
                exact (hsame w hfl ha).2 (pK up (kb hm) ha.symm (bj e2) e3)
              · exact (beh hfl ha hfd (bj e2) hw2).2 h9
    · have hcr := tf (hm c (by simp)) h88
      have hag : ∀ w a, eh (c :: m) (w :: a) = true → w = ((c.toNat : Nat) : Int) ∧ eh m a = true := fun w a h => by
        simp only [eh, Bool.and_eq_true, Bool.or_eq_true, beq_iff_eq, decide_eq_true_eq] at h
        exact ⟨(h.1.resolve_left h88).symm, h.2⟩
      by_cases hcy : ((c.toNat : Nat) : Int) = y
      · cases hn : nx up m l with
        | some r =>
          rw [hn] at ih
          obtain ⟨i1, i2, i3, i4, i5⟩ := ih
          simp only [nx, if_neg h88, if_pos hcy, hn, Option.map_some]
          refine ⟨by simp [i1], fun z hz => ?_, by simp [eh, hcy, i3], (hsame y hl.symm i1).2 i4, fun e e1 e2 e3 e4 => ?_⟩
          · rcases List.mem_cons.1 hz with rfl | hz
            · exact hy
            · exact i2 z hz
          · obtain ⟨w, a, rfl, ha⟩ := cases_e e e1
            obtain ⟨rfl, e3'⟩ := hag w a e3
            rw [hcy] at e4 ⊢
            exact (hsame y i1 ha).2 (i5 a ha (bj e2) e3' ((hsame y hl.symm ha).1 e4))
        | none =>
          rw [hn] at ih
          simp only [nx, if_neg h88, if_pos hcy, hn, Option.map_none]
          intro e e1 e2 e3 e4
          obtain ⟨w, a, rfl, ha⟩ := cases_e e e1
          obtain ⟨rfl, e3'⟩ := hag w a e3
          rw [hcy] at e4
          exact ih a ha (bj e2) e3' ((hsame y hl.symm ha).1 e4)
      · have hdir : decide (((c.toNat : Nat) : Int) > y) = up ↔ bL up y ((c.toNat : Nat) : Int) := by
          cases up
          · simp only [decide_eq_false_iff_not, bL]; omega
          · simp only [decide_eq_true_eq, bL]; omega
        by_cases hup : decide (((c.toNat : Nat) : Int) > y) = up
        · simp only [nx, if_neg h88, if_neg hcy, if_pos hup]
          refine ⟨by simp [hfl], fun z hz => ?_, by simp [eh, nz], (beh hl.symm hfl hdl hfd (fun h => hcy h.symm)).2 (hdir.1 hup), fun e e1 e2 e3 e4 => ?_⟩
          · rcases List.mem_cons.1 hz with rfl | hz
            · exact hcr
            · exact hfd z hz
          · obtain ⟨w, a, rfl, ha⟩ := cases_e e e1
            obtain ⟨rfl, e3'⟩ := hag w a e3
            exact (hsame _ hfl ha).2 (pK up (kb hm) ha.symm (bj e2) e3')
        · simp only [nx, if_neg h88, if_neg hcy, if_neg hup]
          intro e e1 e2 e3 e4
          obtain ⟨w, a, rfl, ha⟩ := cases_e e e1
          obtain ⟨rfl, e3'⟩ := hag w a e3
          exact hup (hdir.2 ((beh hl.symm ha hdl (bj e2) (fun h => hcy h.symm)).1 e4))
  | [], _ :: _, _, h, _ => by simp at h
  | _ :: _, [], _, h, _ => by simp at h
def ap : List UInt8 → List Int → Nat
  | c :: m, y :: l => if c = 88 ∨ ((c.toNat : Nat) : Int) = y then ap m l + 1 else 0
  | _, _ => 0
theorem BK : ∀ (m : List UInt8) (l : List Int), ap m l ≤ m.length
  | [], _ => by simp [ap]
  | c :: m, [] => by simp [ap]
  | c :: m, y :: l => by
    have := BK m l
    simp only [ap, List.length_cons]
    split <;> omega
theorem vM : ∀ (m : List UInt8) (l : List Int), eh (m.take (ap m l)) (l.take (ap m l)) = true
  | [], _ => by simp [ap, eh]
  | c :: m, [] => by simp [ap, eh]
  | c :: m, y :: l => by
    have := vM m l
    simp only [ap]
    split
    · rename_i h
      simp only [List.take_succ_cons, eh, this, Bool.and_true, Bool.or_eq_true, beq_iff_eq, decide_eq_true_eq]
      exact h
    · rfl
theorem v7 : ∀ {m : List UInt8} {l : List Int} {c : UInt8} {y : Int}, m[ap m l]? = some c → l[ap m l]? = some y → ¬ c = 88 ∧ ¬ ((c.toNat : Nat) : Int) = y
  | [], _, c, y, h, _ => by simp at h
  | x :: m, [], c, y, _, h => by simp at h
  | x :: m, z :: l, c, y, h1, h2 => by
    by_cases h : x = 88 ∨ ((x.toNat : Nat) : Int) = z
    · simp only [ap, if_pos h, List.getElem?_cons_succ] at h1 h2
      exact v7 h1 h2
    · simp only [ap, if_neg h, List.getElem?_cons_zero, Option.some.injEq] at h1 h2
      subst h1 h2
      exact ⟨fun e => h (.inl e), fun e => h (.inr e)⟩
def bkn (up : Bool) : List UInt8 → List Int → List UInt8 → Option (List Int)
  | c :: m, y :: d, m' =>
    match bkn up m d m' with
    | some r => some (y :: r)
    | none => if c = 88 ∧ y ≠ lst up then some (stp up y :: fil up (m ++ m')) else none
  | _, _, _ => none
theorem ra (up : Bool) : ∀ {m m' : List UInt8} {d d' : List Int}, m.length = d.length → eh m d = true →
    nx up (m ++ m') (d ++ d') = match nx up m' d' with | some r => some (d ++ r) | none => bkn up m d m'
  | [], m', [], d', _, _ => by
    simp only [List.nil_append]
    cases nx up m' d' <;> rfl
  | c :: m, m', y :: d, d', hl, ha => by
    simp only [List.length_cons, Nat.add_right_cancel_iff] at hl
    simp only [eh, Bool.and_eq_true, Bool.or_eq_true, beq_iff_eq, decide_eq_true_eq] at ha
    have ih := ra up (m' := m') (d' := d') hl ha.2
    simp only [List.cons_append, nx, ih, bkn]
    by_cases h88 : c = 88
    · simp only [if_pos h88]
      cases nx up m' d' with
      | some r => rfl
      | none =>
        cases bkn up m d m' with
        | some r => rfl
        | none =>
          by_cases hy : y = lst up
          · simp [hy]
          · simp [hy, h88]
    · simp only [if_neg h88, if_pos (ha.1.resolve_left h88)]
      cases nx up m' d' with
      | some r => rfl
      | none =>
        cases bkn up m d m' with
        | some r => rfl
        | none => simp [h88]
  | [], _, _ :: _, _, h, _ => by simp at h
  | _ :: _, _, [], _, h, _ => by simp at h
theorem tl (up : Bool) (c : UInt8) (y : Int) : ∀ {m m' : List UInt8} {d : List Int}, m.length = d.length →
    bkn up (m ++ [c]) (d ++ [y]) m' = if c = 88 ∧ y ≠ lst up then some (d ++ stp up y :: fil up m') else bkn up m d (c :: m')
  | [], m', [], _ => by simp [bkn]
  | x :: m, m', z :: d, hl => by
    simp only [List.length_cons, Nat.add_right_cancel_iff] at hl
    have ih := tl up c y (m' := m') hl
    simp only [List.cons_append, bkn, ih]
    by_cases h : c = 88 ∧ y ≠ lst up
    · simp only [if_pos h]
    · simp only [if_neg h, List.append_assoc, List.cons_append, List.nil_append]
  | [], _, _ :: _, h => by simp at h
  | _ :: _, _, [], h => by simp at h
def bki (up : Bool) (m : List UInt8) (l : List Int) : Nat → Option Nat
  | 0 => none
  | j + 1 => if m[j]? = some 88 ∧ l[j]? ≠ some (lst up) then some j else bki up m l j
theorem zI (up : Bool) (m : List UInt8) (l : List Int) : ∀ {j a : Nat}, bki up m l j = some a → a < j
  | 0, a, h => by simp [bki] at h
  | j + 1, a, h => by
    simp only [bki] at h
    split at h
    · simp only [Option.some.injEq] at h; omega
    · have := zI up m l h; omega
theorem tS (up : Bool) (m : List UInt8) (l : List Int) (hl : m.length = l.length) : ∀ j, j ≤ m.length →
    bkn up (m.take j) (l.take j) (m.drop j) = (bki up m l j).map fun a => l.take a ++ stp up (l.getD a 0) :: fil up (m.drop (a + 1))
  | 0, _ => by simp [bkn, bki]
  | j + 1, h => by
    obtain ⟨c, hc⟩ : ∃ c, m[j]? = some c := ⟨m[j]'(by omega), List.getElem?_eq_getElem (by omega)⟩
    obtain ⟨y, hy⟩ : ∃ c, l[j]? = some c := ⟨l[j]'(by omega), List.getElem?_eq_getElem (by omega)⟩
    have ih := tS up m l hl j (by omega)
    rw [fY hc] at ih
    rw [List.take_add_one, List.take_add_one, hc, hy]
    simp only [Option.toList_some]
    rw [tl up c y (by simp; omega), ih]
    have hg : l.getD j 0 = y := by rw [List.getD_eq_getElem?_getD, hy]; rfl
    simp only [bki, hc, hy, ne_eq, Option.some.injEq]
    by_cases hh : c = 88 ∧ ¬ y = lst up
    · rw [if_pos hh, if_pos hh, Option.map_some, hg]
    · rw [if_neg hh, if_neg hh]
section
variable {m : List UInt8} {l z : List Int}
theorem gi (hl : m.length = l.length) (h18 : m.length ≤ 18) (k f g : Int) (up : Bool) :
    af (cF 20000000) 20000000 (m, k, up, f, g, 0, over z 0 l, over z 0 l) = some (m, k, up, f, g, ((ap m l : Nat) : Int), over z 0 l, over z 0 l) := by
  have := dH (step := cF 20000000) (fun x => x.1 = m ∧ (0 ≤ x.2.2.2.2.2.1 ∧ x.2.2.2.2.2.1 ≤ m.length) ∧ x.2.2.2.2.2.2.1 = over z 0 l) (fun x => m.length - x.2.2.2.2.2.1.toNat)
    (fun x => (x.1, x.2.1, x.2.2.1, x.2.2.2.1, x.2.2.2.2.1, x.2.2.2.2.2.1 + ((ap (m.drop x.2.2.2.2.2.1.toNat) (l.drop x.2.2.2.2.2.1.toNat) : Nat) : Int), x.2.2.2.2.2.2.1, x.2.2.2.2.2.2.2)) ?_ 20000000 (m, k, up, f, g, 0, over z 0 l, over z 0 l) ⟨rfl, ⟨by simp, by simp⟩, rfl⟩ (by simp; omega)
  · simpa using this
  rintro ⟨m', k, up, f, g, i, d, o⟩ ⟨q1, ⟨h0, hi⟩, q2⟩
  simp only at q1 h0 hi q2 ⊢
  subst q1 q2
  obtain ⟨j, rfl⟩ : ∃ j : Nat, i = j := ⟨i.toNat, by omega⟩
  simp only [Int.toNat_natCast]
  rcases Nat.lt_or_ge j m'.length with hlt | hge
  · obtain ⟨c, hc⟩ : ∃ c, m'[j]? = some c := ⟨m'[j], List.getElem?_eq_getElem hlt⟩
    obtain ⟨y, hy⟩ : ∃ c, l[j]? = some c := ⟨l[j]'(by omega), List.getElem?_eq_getElem (by omega)⟩
    have hg : (over z 0 l)[j]? = some y := by rw [mL (by omega)]; exact hy
    have hb : (decide ((j : Int) < ((List.length m' : Nat) : Int))) = true := by simp; omega
    have hw : IntKind.wrap .i64 ((j : Int) + 1) = ((j + 1 : Nat) : Int) := by rw [wrap_i64 _ (by omega) (by omega)]; omega
    rw [fY hc, fY hy]
    simp only [cF, hb, cond_true, gQ hc, ob, pw, hw, bv (show j < 18 by omega), hg, ap]
    by_cases h88 : c = 88
    · refine .inl ⟨(m', k, up, f, g, ((j + 1 : Nat) : Int), over z 0 l, o), by simp only [decide_eq_true h88, cond_true], ⟨rfl, ⟨by simp only; omega, by simp only; omega⟩, rfl⟩, by simp only [Int.toNat_natCast]; omega, ?_⟩
      simp only [Int.toNat_natCast, if_pos (show c = 88 ∨ ((c.toNat : Nat) : Int) = y from .inl h88)]
      congr 6; omega
    · simp only [decide_eq_false h88, cond_false]
      by_cases hcy : ((c.toNat : Nat) : Int) = y
      · have e : (((c.toNat : Nat) : Int) == y) = true := by simpa using hcy
        refine .inl ⟨(m', k, up, f, g, ((j + 1 : Nat) : Int), over z 0 l, o), by simp only [e, cond_true], ⟨rfl, ⟨by simp only; omega, by simp only; omega⟩, rfl⟩, by simp only [Int.toNat_natCast]; omega, ?_⟩
        simp only [Int.toNat_natCast, if_pos (show c = 88 ∨ ((c.toNat : Nat) : Int) = y from .inr hcy)]
        congr 6; omega
      · have e : (((c.toNat : Nat) : Int) == y) = false := by simpa using hcy
        refine .inr ?_
        simp only [e, cond_false, if_neg (show ¬ (c = 88 ∨ ((c.toNat : Nat) : Int) = y) from fun h => h.elim h88 hcy), Int.ofNat_zero, Int.add_zero, Int.natCast_zero]
  · have hb : (decide ((j : Int) < ((List.length m' : Nat) : Int))) = false := by simp; omega
    refine .inr ?_
    simp only [cF, hb, cond_false]
    rw [List.drop_eq_nil_of_le hge]
    simp [ap]
theorem vb (hl : m.length = l.length) (h18 : m.length ≤ 18) (f : Int) (up : Bool) (o : List Int) (i : Nat) (hi : i ≤ m.length) :
    af (aT 20000000) 20000000 (m, up, f, lst up, (i : Int), over z 0 l, o) =
      some (match bki up m l i with | none => .inl (0, 16) | some a => .inr (m, up, f, ((a : Nat) : Int), o)) := by
  have := dH (step := aT 20000000) (fun x => x.1 = m ∧ x.2.2.2.1 = lst up ∧ (0 ≤ x.2.2.2.2.1 ∧ x.2.2.2.2.1 ≤ m.length) ∧ x.2.2.2.2.2.1 = over z 0 l) (fun x => x.2.2.2.2.1.toNat)
    (fun x => match bki up m l x.2.2.2.2.1.toNat with | none => .inl (0, 16) | some a => .inr (x.1, x.2.1, x.2.2.1, ((a : Nat) : Int), x.2.2.2.2.2.2)) ?_ 20000000 (m, up, f, lst up, (i : Int), over z 0 l, o) ⟨rfl, rfl, ⟨by simp only; omega, by simp only; omega⟩, rfl⟩ (by simp; omega)
  · simpa using this
  rintro ⟨m', up', f, g, i, d, o⟩ ⟨q1, q3, ⟨h0, hi⟩, q2⟩
  simp only at q1 q3 h0 hi q2 ⊢
  subst q1 q2 q3
  obtain ⟨j, rfl⟩ : ∃ j : Nat, i = j := ⟨i.toNat, by omega⟩
  simp only [Int.toNat_natCast]
  rcases j with _ | j
  · refine .inr ?_
    have w : IntKind.wrap .i64 (((0 : Nat) : Int) - 1) = -1 := wrap_i64 _ (by omega) (by omega)
    simp only [aT, w, show decide ((-1 : Int) < 0) = true from rfl, cond_true, bki]
  · have w : IntKind.wrap .i64 (((j + 1 : Nat) : Int) - 1) = (j : Int) := by rw [wrap_i64 _ (by omega) (by omega)]; omega
    have e0 : decide ((j : Int) < 0) = false := by simp
    obtain ⟨c, hc⟩ : ∃ c, m'[j]? = some c := ⟨m'[j]'(by omega), List.getElem?_eq_getElem (by omega)⟩
    obtain ⟨y, hy⟩ : ∃ c, l[j]? = some c := ⟨l[j]'(by omega), List.getElem?_eq_getElem (by omega)⟩
    have hg : (over z 0 l)[j]? = some y := by rw [mL (by omega)]; exact hy
    simp only [aT, w, e0, cond_false, gQ hc, ob, pw, bv (show j < 18 by omega), hg, bki, hc, hy, Option.some.injEq, ne_eq]
    by_cases h88 : c = 88
    · by_cases hy9 : y = lst up
      · have e : (y != lst up) = false := by simpa using hy9
        refine .inl ⟨(m', up', f, lst up, (j : Int), over z 0 l, o), by simp only [decide_eq_true h88, cond_true, e, cond_false], ⟨rfl, rfl, ⟨by simp only; omega, by simp only; omega⟩, rfl⟩, by simp only [Int.toNat_natCast]; omega, ?_⟩
        simp only [Int.toNat_natCast, if_neg (show ¬ (c = 88 ∧ ¬ y = lst up) from fun h => h.2 hy9)]
      · have e : (y != lst up) = true := by simpa using hy9
        refine .inr ?_
        simp only [decide_eq_true h88, cond_true, e, if_pos (show c = 88 ∧ ¬ y = lst up from ⟨h88, hy9⟩)]
    · refine .inl ⟨(m', up', f, lst up, (j : Int), over z 0 l, o), by simp only [decide_eq_false h88, cond_false], ⟨rfl, rfl, ⟨by simp only; omega, by simp only; omega⟩, rfl⟩, by simp only [Int.toNat_natCast]; omega, ?_⟩
      simp only [Int.toNat_natCast, if_neg (show ¬ (c = 88 ∧ ¬ y = lst up) from fun h => h88 h.1)]
theorem rn (h18 : m.length ≤ 18) (up : Bool) (d : List Int) (hd : d.length = 18) (i : Nat) (hi : i ≤ m.length) :
    af (aA 20000000) 20000000 (m, fst up, (i : Int), d) = some (m, over d i (fil up (m.drop i))) := by
  have := dH (step := aA 20000000) (fun x => x.1 = m ∧ x.2.1 = fst up ∧ (0 ≤ x.2.2.1 ∧ x.2.2.1 ≤ m.length) ∧ x.2.2.2.length = 18) (fun x => m.length - x.2.2.1.toNat)
    (fun x => (m, over x.2.2.2 x.2.2.1.toNat (fil up (m.drop x.2.2.1.toNat)))) ?_ 20000000 (m, fst up, (i : Int), d) ⟨rfl, rfl, ⟨by simp only; omega, by simp only; omega⟩, hd⟩ (by simp; omega)
  · simpa using this
  rintro ⟨m', f, i, d⟩ ⟨q1, q3, ⟨h0, hi⟩, hd⟩
  simp only at q1 q3 h0 hi hd ⊢
  subst q1 q3
  obtain ⟨j, rfl⟩ : ∃ j : Nat, i = j := ⟨i.toNat, by omega⟩
  simp only [Int.toNat_natCast]
  rcases Nat.lt_or_ge j m'.length with hlt | hge
  · obtain ⟨c, hc⟩ : ∃ c, m'[j]? = some c := ⟨m'[j], List.getElem?_eq_getElem hlt⟩
    have hj : j < 18 := by omega
    have hb : (decide ((j : Int) < ((List.length m' : Nat) : Int))) = true := by simp; omega
    have hw : IntKind.wrap .i64 ((j : Int) + 1) = ((j + 1 : Nat) : Int) := by rw [wrap_i64 _ (by omega) (by omega)]; omega
    have e2 : Nat.blt j 18 = true := Nat.ble_eq_true_of_le hj
    have hcons : ∀ c : UInt8, fil up (c :: m'.drop (j + 1)) = (cond (decide (c = 88)) (fst up) ((c.toNat : Nat) : Int)) :: fil up (m'.drop (j + 1)) := fun _ => rfl
    rw [fY hc, hcons]
    simp only [aA, hb, cond_true, gQ hc, ob, pw, bv hj, e2, hw]
    by_cases h88 : c = 88
    · refine .inl ⟨(m', fst up, ((j + 1 : Nat) : Int), (d.set j ((c.toNat : Nat) : Int)).set j (fst up)), by simp only [decide_eq_true h88, cond_true], ⟨rfl, rfl, ⟨by simp only; omega, by simp only; omega⟩, by simpa using hd⟩, by simp only [Int.toNat_natCast]; omega, ?_⟩
      simp only [Int.toNat_natCast, decide_eq_true h88, cond_true]
      rw [List.set_set, qp _ _ _ _ (by omega)]
    · refine .inl ⟨(m', fst up, ((j + 1 : Nat) : Int), d.set j ((c.toNat : Nat) : Int)), by simp only [decide_eq_false h88, cond_false], ⟨rfl, rfl, ⟨by simp only; omega, by simp only; omega⟩, by simpa using hd⟩, by simp only [Int.toNat_natCast]; omega, ?_⟩
      simp only [Int.toNat_natCast, decide_eq_false h88, cond_false]
      rw [qp _ _ _ _ (by omega)]
  · have hb : (decide ((j : Int) < ((List.length m' : Nat) : Int))) = false := by simp; omega
    refine .inr ?_
    simp only [aA, hb, cond_false]
    rw [List.drop_eq_nil_of_le hge]
    simp [fil, ug]
theorem rr (z l F : List Int) (i : Nat) (h : i + F.length = l.length) : over (over z 0 l) i F = over z 0 (l.take i ++ F) := by
  unfold over
  simp only [List.take_zero, List.nil_append, Nat.zero_add, List.length_append, List.length_take, Nat.min_eq_left (show i ≤ l.length by omega), h]
  rw [List.take_append_of_le_length (by omega), List.drop_append_of_le_length (by omega), List.drop_of_length_le (Nat.le_refl l.length)]
  simp
end
theorem wc {m : List UInt8} (hm : chk m = 0) (up : Bool) (k : Int) (h0 : 0 ≤ k) (h1 : k < 10 ^ m.length) :
    bm 20000000 m k up = some (match nx up m (dg m.length k) with | some r => (vl r, 0) | none => (0, 16)) := by
  obtain ⟨h18, _, hok⟩ := fJ hm
  have hp := rA m.length h18
  have hlen := nS m.length k
  have hrng := kZ m.length k
  have hv := za m.length k h0 h1
  have hn := Ab up hok hlen.symm hrng
  have hsplit := yI m k h18 h0 (by omega)
  generalize dg m.length k = l at hlen hrng hv hn hsplit ⊢
  have hout : (over [0, 0, 0, 0, 0, 0, 0, 0, 0, 0, 0, 0, 0, 0, 0, 0, 0, 0] 0 l).length = 18 := by rw [y8 _ _ _ (by simp; omega)]; rfl
  -- after the loops
  have fin : ∀ r : List Int, nx up m l = some r → dc 20000000 m (over [0, 0, 0, 0, 0, 0, 0, 0, 0, 0, 0, 0, 0, 0, 0, 0, 0, 0] 0 r) = some (vl r) := by
    intro r hr
    rw [hr] at hn
    obtain ⟨i1, i2, _⟩ := hn
    rw [y9 _ h18 i1 i2, pM i2]
  have hap := BK m l
  have hagr := vM m l
  have happ := ra up (m := m.take (ap m l)) (m' := m.drop (ap m l)) (d := l.take (ap m l)) (d' := l.drop (ap m l)) (by simp; omega) hagr
  rw [List.take_append_drop, List.take_append_drop] at happ
  have hz0 : fM 20000000 m k = some (over [0, 0, 0, 0, 0, 0, 0, 0, 0, 0, 0, 0, 0, 0, 0, 0, 0, 0] 0 l) := hsplit
  generalize hzz : ([0, 0, 0, 0, 0, 0, 0, 0, 0, 0, 0, 0, 0, 0, 0, 0, 0, 0] : List Int) = z at hout fin hz0
  rcases Nat.lt_or_ge (ap m l) m.length with hlt | hge
  · obtain ⟨c, hc⟩ : ∃ c, m[ap m l]? = some c := ⟨m[ap m l], List.getElem?_eq_getElem hlt⟩
    obtain ⟨y, hy⟩ : ∃ c, l[ap m l]? = some c := ⟨l[ap m l]'(by omega), List.getElem?_eq_getElem (by omega)⟩
    obtain ⟨h88, hcy⟩ := v7 hc hy
    have hg : (over z 0 l)[ap m l]? = some y := by rw [mL (by omega)]; exact hy
    have eL : (((ap m l : Nat) : Int) == ((List.length m : Nat) : Int)) = false := by simp; omega
    have hj : ap m l < 18 := by omega
    have hfc : fil up (m.drop (ap m l)) = ((c.toNat : Nat) : Int) :: fil up (m.drop (ap m l + 1)) := by
      rw [fY hc]; simp [fil, h88]
    have hbk := tS up m l hlen.symm (ap m l) hap
    have hnx : nx up (m.drop (ap m l)) (l.drop (ap m l)) = if decide (((c.toNat : Nat) : Int) > y) = up then some (fil up (m.drop (ap m l))) else none := by
      rw [hfc, fY hc, fY hy]
      simp only [nx, if_neg h88, if_neg hcy]
    rw [hnx] at happ
    by_cases hup : decide (((c.toNat : Nat) : Int) > y) = up
    · rw [if_pos hup] at happ
      simp only at happ
      have f2 := fin _ happ
      rw [happ]
      simp only []
      rw [← rr z l _ _ (by rw [qm, List.length_drop]; omega)] at f2
      have l2 := rn h18 up _ hout (ap m l) hap
      cases up
      · have l0 := gi (z := z) hlen.symm h18 k 57 48 false
        have l2' : af (aA 20000000) 20000000 (m, 57, ((ap m l : Nat) : Int), over z 0 l) = _ := l2
        simp only [bm, Bool.not_false, cond_true, hz0, ob, l0, eL, cond_false, gQ hc, bv hj, hg, hup, beq_self_eq_true, Bool.not_true, l2', f2]
      · have l0 := gi (z := z) hlen.symm h18 k 48 57 true
        have l2' : af (aA 20000000) 20000000 (m, 48, ((ap m l : Nat) : Int), over z 0 l) = _ := l2
        simp only [bm, Bool.not_true, cond_true, hz0, ob, l0, eL, cond_false, gQ hc, bv hj, hg, hup, beq_self_eq_true, l2', f2]
    · rw [if_neg hup] at happ
      simp only [hbk] at happ
      have hne : (!(decide (((c.toNat : Nat) : Int) > y) == up)) = true := by
        cases up <;> cases hh : decide (((c.toNat : Nat) : Int) > y) <;> simp_all
      have l1 := vb (z := z) hlen.symm h18 (fst up) up (over z 0 l) (ap m l) hap
      cases hb : bki up m l (ap m l) with
      | none =>
        rw [hb] at happ l1
        simp only [Option.map_none] at happ
        rw [happ]
        simp only [] at l1 ⊢
        cases up
        · have l0 := gi (z := z) hlen.symm h18 k 57 48 false
          have l1' : af (aT 20000000) 20000000 (m, false, 57, 48, ((ap m l : Nat) : Int), over z 0 l, over z 0 l) = _ := l1
          simp only [bm, Bool.not_false, cond_true, hz0, ob, l0, eL, cond_false, gQ hc, bv hj, hg, hne, l1']
        · have l0 := gi (z := z) hlen.symm h18 k 48 57 true
          have l1' : af (aT 20000000) 20000000 (m, true, 48, 57, ((ap m l : Nat) : Int), over z 0 l, over z 0 l) = _ := l1
          simp only [bm, Bool.not_true, cond_true, hz0, ob, l0, eL, cond_false, gQ hc, bv hj, hg, hne, l1']
      | some a =>
        have ha := zI up m l hb
        obtain ⟨w, hw⟩ : ∃ c, l[a]? = some c := ⟨l[a]'(by omega), List.getElem?_eq_getElem (by omega)⟩
        have hga : (over z 0 l)[a]? = some w := by rw [mL (by omega)]; exact hw
        have hgd : l.getD a 0 = w := by rw [List.getD_eq_getElem?_getD, hw]; rfl
        have hwr := hrng w (List.mem_of_getElem? hw)
        have haj : a < 18 := by omega
        have e2 : Nat.blt a 18 = true := Nat.ble_eq_true_of_le haj
        have w1 : IntKind.wrap .i64 ((a : Int) + 1) = ((a + 1 : Nat) : Int) := by rw [wrap_i64 _ (by omega) (by omega)]; omega
        rw [hb] at happ l1
        simp only [Option.map_some, hgd] at happ
        have f2 := fin _ happ
        rw [happ]
        simp only [] at l1 ⊢
        rw [← rr z l _ _ (by rw [List.length_cons, qm, List.length_drop]; omega), ← qp _ _ _ _ (by omega)] at f2
        have l2 := rn h18 up ((over z 0 l).set a (stp up w)) (by simpa using hout) (a + 1) (by omega)
        cases up
        · have l0 := gi (z := z) hlen.symm h18 k 57 48 false
          have l1' : af (aT 20000000) 20000000 (m, false, 57, 48, ((ap m l : Nat) : Int), over z 0 l, over z 0 l) = some (.inr (m, false, 57, ((a : Nat) : Int), over z 0 l)) := l1
          have l2' : af (aA 20000000) 20000000 (m, 57, ((a + 1 : Nat) : Int), (over z 0 l).set a (w - 1)) = _ := l2
          have w2 : IntKind.wrap .u8 (w - 1) = w - 1 := eN _ (by omega) (by omega)
          simp only [bm, Bool.not_false, cond_true, hz0, ob, l0, eL, cond_false, gQ hc, bv hj, hg, hne, l1', bv haj, hga, e2, w1, w2, l2', f2]
        · have l0 := gi (z := z) hlen.symm h18 k 48 57 true
          have l1' : af (aT 20000000) 20000000 (m, true, 48, 57, ((ap m l : Nat) : Int), over z 0 l, over z 0 l) = some (.inr (m, true, 48, ((a : Nat) : Int), over z 0 l)) := l1
          have l2' : af (aA 20000000) 20000000 (m, 48, ((a + 1 : Nat) : Int), (over z 0 l).set a (w + 1)) = _ := l2
          have w2 : IntKind.wrap .u8 (w + 1) = w + 1 := eN _ (by omega) (by omega)
          simp only [bm, Bool.not_true, cond_true, hz0, ob, l0, eL, cond_false, gQ hc, bv hj, hg, hne, l1', bv haj, hga, e2, w1, w2, l2', f2]
  · have e : ap m l = m.length := by omega
    rw [e, List.drop_length, ← hlen, List.drop_length, List.take_length] at happ
    simp only [nx, List.append_nil] at happ
    have eL : (((ap m l : Nat) : Int) == ((List.length m : Nat) : Int)) = true := by rw [e]; simp
    rw [happ]
    simp only [hv]
    cases up
    · have l0 := gi (z := z) hlen.symm h18 k 57 48 false
      simp only [bm, Bool.not_false, cond_true, hz0, ob, l0, eL]
    · have l0 := gi (z := z) hlen.symm h18 k 48 57 true
      simp only [bm, Bool.not_true, cond_false, hz0, ob, l0, eL, cond_true]
def near (up : Bool) (m : List UInt8) (k : Int) : Option Int → Prop
  | some R => hasM m R = true ∧ bL up k R ∧ ∀ e, hasM m e = true → bL up k e → bL up R e
  | none => ∀ e, hasM m e = true → ¬ bL up k e
def res (o : Option Int) : Int × Int := match o with | some r => (r, 0) | none => (0, 16)
theorem io {m : List UInt8} {e : Int} (h : hasM m e = true) : (dg m.length e).length = m.length ∧ digl (dg m.length e) ∧ eh m (dg m.length e) = true ∧ vl (dg m.length e) = e ∧ 0 ≤ e ∧ e < 10 ^ m.length := by
  unfold hasM at h
  simp only [Bool.and_eq_true, decide_eq_true_eq] at h
  exact ⟨nS _ _, kZ _ _, h.2.2, za _ _ h.1 h.2.1, h.1, h.2.1⟩
theorem Aj {m : List UInt8} {r : List Int} (h1 : r.length = m.length) (h2 : digl r) (h3 : eh m r = true) : hasM m (vl r) = true := by
  have hr := mG h2
  have hd := C0 h2
  rw [h1] at hr hd
  unfold hasM
  rw [hd, h3, decide_eq_true hr.1, decide_eq_true hr.2]; rfl
theorem nB {m : List UInt8} (hm : chk m = 0) (up : Bool) (k : Int) (h0 : 0 ≤ k) (h1 : k < 10 ^ m.length) : ∃ o, bm 20000000 m k up = some (res o) ∧ near up m k o := by
  obtain ⟨h18, _, hok⟩ := fJ hm
  have hn := Ab up hok (nS m.length k).symm (kZ m.length k)
  have hv := za m.length k h0 h1
  refine ⟨(nx up m (dg m.length k)).map vl, ?_, ?_⟩
  · rw [wc hm up k h0 h1]
    cases nx up m (dg m.length k) <;> rfl
  · cases hx : nx up m (dg m.length k) with
    | none =>
      rw [hx] at hn
      intro e he ha
      obtain ⟨e1, e2, e3, e4, _⟩ := io he
      exact hn _ e1 e2 e3 (by rw [hv, e4]; exact ha)
    | some r =>
      rw [hx] at hn
      obtain ⟨i1, i2, i3, i4, i5⟩ := hn
      refine ⟨Aj i1 i2 i3, by rw [hv] at i4; exact i4, fun e he ha => ?_⟩
      obtain ⟨e1, e2, e3, e4, _⟩ := io he
      have := i5 _ e1 e2 e3 (by rw [hv, e4]; exact ha)
      rwa [e4] at this
theorem pm {m : List UInt8} {e : Int} (h : hasM m e = true) : 0 ≤ idx m.reverse e ∧ idx m.reverse e < 10 ^ cnt m ∧ nth m.reverse (idx m.reverse e) = e := by
  rw [pJ] at h
  simp only [Bool.and_eq_true, decide_eq_true_eq] at h
  obtain ⟨k0, k1, k2⟩ := h
  have := mY m.reverse e k0
  rw [iY] at this
  exact ⟨this.1, this.2, xu k0 (by rw [List.length_reverse]; exact k1) k2⟩
section
variable {m : List UInt8} (hm : chk m = 0)
include hm
theorem vE {i j : Int} (h0 : 0 ≤ i) (h1 : i ≤ j) (h2 : j < 10 ^ cnt m) : nth m.reverse i ≤ nth m.reverse j := by
  obtain ⟨h18, _, hok⟩ := fJ hm
  rcases Int.lt_or_eq_of_le h1 with h | rfl
  · exact Int.le_of_lt (mC (nk hok) i j h0 h (by rw [iY]; exact h2))
  · exact Int.le_refl _
theorem q9 (k : Int) : ge 20000000 m k = some (decide (0 ≤ k ∧ k < 10 ^ m.length)) := by
  obtain ⟨h18, _, hok⟩ := fJ hm
  simp only [ge, sU m.length h18, ob]
  by_cases h0 : 0 ≤ k
  · have d0 : decide (k ≥ 0) = true := by simpa using h0
    simp only [d0, cond_true, h0, true_and, decide_true]
  · have d0 : decide (k ≥ 0) = false := by simpa using h0
    simp only [d0, cond_false, h0, false_and, decide_false]
theorem vV (k : Int) : ∃ o, kq 20000000 m k = some (res o) ∧ near true m k o := by
  obtain ⟨h18, _, hok⟩ := fJ hm
  have e0 : ((0 : Int) != 0) = false := by simp
  simp only [kq, eu 20000000 m (by omega), hm, gu, e0, cond_false, q9 hm]
  by_cases h0 : k < 0
  · refine ⟨some (nth m.reverse 0), by simp only [decide_eq_true h0, cond_true, zp hm, gu, res], ud hm (by omega), ?_, fun e he ha => ?_⟩
    · have := (iO (nk hok) 0 (by omega)).1
      simp only [bL]; omega
    · obtain ⟨i0, i1, i2⟩ := pm he
      have := vE hm (Int.le_refl 0) i0 i1
      simp only [bL]; omega
  · by_cases h1 : k < 10 ^ m.length
    · obtain ⟨o, h2, h3⟩ := nB hm true k (by omega) h1
      exact ⟨o, by simp only [decide_eq_false h0, cond_false, decide_eq_true (show 0 ≤ k ∧ k < 10 ^ m.length from ⟨by omega, h1⟩), Bool.not_true, h2, gu], h3⟩
    · refine ⟨none, by simp only [decide_eq_false h0, cond_false, decide_eq_false (show ¬ (0 ≤ k ∧ k < 10 ^ m.length) from fun h => h1 h.2), Bool.not_false, cond_true, res], fun e he ha => ?_⟩
      obtain ⟨_, _, _, _, _, i⟩ := io he
      simp only [bL] at ha; omega
theorem wd (k : Int) : ∃ o, ki 20000000 m k = some (res o) ∧ near false m k o := by
  obtain ⟨h18, _, hok⟩ := fJ hm
  have e0 : ((0 : Int) != 0) = false := by simp
  simp only [ki, eu 20000000 m (by omega), hm, gu, e0, cond_false, q9 hm]
  by_cases h0 : k < 0
  · refine ⟨none, by simp only [decide_eq_true h0, cond_true, res], fun e he ha => ?_⟩
    obtain ⟨_, _, _, _, i, _⟩ := io he
    simp only [bL] at ha; omega
  · by_cases h1 : k < 10 ^ m.length
    · obtain ⟨o, h2, h3⟩ := nB hm false k (by omega) h1
      exact ⟨o, by simp only [decide_eq_false h0, cond_false, decide_eq_true (show 0 ≤ k ∧ k < 10 ^ m.length from ⟨by omega, h1⟩), Bool.not_true, h2, gu], h3⟩
    · have hp0 := ld (cnt m)
      refine ⟨some (nth m.reverse (10 ^ cnt m - 1)), by simp only [decide_eq_false h0, cond_false, decide_eq_false (show ¬ (0 ≤ k ∧ k < 10 ^ m.length) from fun h => h1 h.2), Bool.not_false, cond_true, r6 hm, gu, res], ud hm (by omega), ?_, fun e he ha => ?_⟩
      · have := (iO (nk hok) (10 ^ cnt m - 1) (by omega)).2
        rw [List.length_reverse] at this
        simp only [bL]; omega
      · obtain ⟨i0, i1, i2⟩ := pm he
        have := vE hm i0 (show idx m.reverse e ≤ 10 ^ cnt m - 1 by omega) (by omega)
        simp only [bL]; omega
end
end Go.Sh.Mk
namespace Go.Sh
open Go.Abs
def fitN (s : List UInt8) (g : Nat) : List Nat := (List.range' 1 g).filter (agr s)
def jL (l : List Nat) : List Int := l.map fun k : Nat => (k : Int)
theorem qQ (l : List Nat) : (jL l).length = l.length := by simp [jL]
theorem rF (c : UInt8) {j : Nat} (hj : j < 10) : (IntKind.wrap .i64 (IntKind.wrap .u8 (((c.toNat : Nat) : Int) - 48)) == ((j : Nat) : Int)) = (c == UInt8.ofNat (48 + j)) := by
  have hc := c.toNat_lt
  have hu := pu (((c.toNat : Nat) : Int) - 48)
  rw [wrap_i64 _ (by omega) (by omega), uK, Bool.eq_iff_iff, beq_iff_eq, beq_iff_eq]
  have hn : (UInt8.ofNat (48 + j)).toNat = 48 + j := by simp; omega
  constructor
  · intro h
    apply UInt8.toNat_inj.1
    omega
  · rintro rfl
    omega
theorem wt (n : Nat) (a b : UInt8) {k : Nat} (h2 : k ≤ 31) : fm n [a, b] (k : Int) = some (agr [a, b] k) := by
  have e1 : IntKind.wrap .i64 (Int.tdiv (k : Int) 10) = ((k / 10 : Nat) : Int) := by
    rw [show Int.tdiv (k : Int) 10 = ((k / 10 : Nat) : Int) from rfl, wrap_i64 _ (by omega) (by omega)]
  have e2 : Int.tmod (k : Int) 10 = ((k % 10 : Nat) : Int) := rfl
  have s0 : sx [a, b] 0 = some a := rfl
  have s1 : sx [a, b] 1 = some b := rfl
  have x88 : (88 : Int) = ((88 : Nat) : Int) := rfl
  unfold fm
  simp only [s0, s1, ob, e1, e2]
  rw [rF a (show k / 10 < 10 by omega), rF b (show k % 10 < 10 by omega), x88, me (by omega), me (by omega)]
  show _ = some ((a == UInt8.ofNat 88 || a == UInt8.ofNat (48 + k / 10)) && (b == UInt8.ofNat 88 || b == UInt8.ofNat (48 + k % 10)))
  generalize (a == UInt8.ofNat 88) = p1
  generalize (b == UInt8.ofNat 88) = p2
  generalize (a == UInt8.ofNat (48 + k / 10)) = p3
  generalize (b == UInt8.ofNat (48 + k % 10)) = p4
  cases p1 <;> cases p2 <;> cases p3 <;> cases p4 <;> rfl
theorem room {k : Nat} (h : k ≤ 60000000) : Nat.ble (k + 1) dw = true := Nat.ble_eq_true_of_le (by unfold dw; omega)
theorem tU {X Y : Type} {step : X → Option (X ⊕ Y)} {f : Nat → List Int → X} {y : List Int → Y} {p : Nat → Bool} {g : Nat} (hg : g ≤ 1000)
    (h : ∀ i out, i < g → out.length ≤ 1000 → step (f i out) = some (.inl (f (i + 1) (if p (i + 1) then out ++ [((i + 1 : Nat) : Int)] else out))))
    (he : ∀ out, step (f g out) = some (.inr (y out))) {N : Nat} (hN : g < N) : af step N (f 0 []) = some (y (jL ((List.range' 1 g).filter p))) := by
  have go : ∀ (r i : Nat) (out : List Int), i + r = g → out.length ≤ i → ∀ N, r < N → af step N (f i out) = some (y (out ++ jL ((List.range' (i + 1) r).filter p))) := by
    intro r
    induction r with
    | zero =>
      intro i out hi ho N hN
      obtain ⟨N, rfl⟩ : ∃ q, N = q + 1 := ⟨N - 1, by omega⟩
      obtain rfl : i = g := by omega
      rw [af, he]
      simp [jL]
    | succ r ih =>
      intro i out hi ho N hN
      obtain ⟨N, rfl⟩ : ∃ q, N = q + 1 := ⟨N - 1, by omega⟩
      rw [af, h i out (by omega) (by omega)]
      show af step N _ = _
      by_cases hp : p (i + 1) = true
      · rw [if_pos hp, ih (i + 1) _ (by omega) (by simp; omega) N (by omega), List.range'_succ, List.filter_cons_of_pos hp]
        simp [jL]
      · rw [if_neg hp, ih (i + 1) _ (by omega) (by omega) N (by omega), List.range'_succ, List.filter_cons_of_neg hp]
  have := go g 0 [] (by omega) (by simp) N hN
  simpa using this
theorem xe (n : Nat) (hn : 100 < n) (a b : UInt8) {g : Nat} (hg : g ≤ 31) : cr n [a, b] (g : Int) = some (jL (fitN [a, b] g)) := by
  unfold cr
  have := tU (step := cR n) (f := fun i out => ([a, b], (g : Int), (i : Int), out)) (y := fun l => l) (p := agr [a, b]) (g := g) (by omega)
    (fun i out hi ho => by
      have w1 : IntKind.wrap .i64 ((i : Int) + 1) = ((i + 1 : Nat) : Int) := by rw [wrap_i64 _ (by omega) (by omega)]; omega
      unfold cR
      simp only [w1]
      rw [decide_eq_true (show (i : Int) < (g : Int) by omega), wt n a b (by omega), room (by omega)]
      by_cases hp : agr [a, b] (i + 1) = true
      · rw [if_pos hp]; simp only [ob, hp, cond_true]
      · rw [if_neg hp]
        rw [Bool.not_eq_true] at hp
        simp only [ob, hp, cond_true, cond_false])
    (fun out => by
      unfold cR
      simp only [decide_eq_false (show ¬ (g : Int) < (g : Int) by omega), cond_false])
    (N := n) (by omega)
  have h0 : af (cR n) n ([a, b], (g : Int), 0, ([] : List Int)) = _ := this
  rw [h0]
  rfl
def monI (m : List UInt8) : List Int := if m = [] then [0] else if 0 < sea m then [sea m] else jL (fitN m 12)
def dayI (d : List UInt8) : List Int := if d = [] then [0] else jL (fitN d 31)
theorem cb {l : List UInt8} (h : l ≠ []) : (l == ([] : List UInt8)) = false := beq_eq_false_iff_ne.2 h
theorem len2 {s : List UInt8} (h : s.length = 2) : ∃ a b, s = [a, b] := by
  match s, h with
  | [a, b], _ => exact ⟨a, b, rfl⟩
abbrev TF := Bool × Bool × List UInt8 × Int × Int × List UInt8 × List UInt8 × Int × Int × Int × List Int × List Int
theorem vI (n : Nat) (hn : 100 < n) (g l : Bool) (dg : List UInt8) (x q : Int) (m d : List UInt8) (k0 k1 k2 : Int) (hm : m = [] ∨ m.length = 2) (hd : d = [] ∨ d.length = 2) :
    ∃ s : TF ⊕ TF ⊕ TF ⊕ TF, d7 n g l dg x q m d k0 k1 k2 = some s ∧ (s = .inl (g, l, dg, x, q, m, d, k0, k1, k2, monI m, dayI d) ∨ s = .inr (.inl (g, l, dg, x, q, m, d, k0, k1, k2, monI m, dayI d)) ∨ s = .inr (.inr (.inl (g, l, dg, x, q, m, d, k0, k1, k2, monI m, dayI d))) ∨ s = .inr (.inr (.inr (g, l, dg, x, q, m, d, k0, k1, k2, monI m, dayI d)))) := by
  have hml : m.length ≤ 18 := by rcases hm with h | h; (rw [h]; simp); omega
  have hD : d ≠ [] → cr n d 31 = some (dayI d) := fun h => by
    obtain ⟨a, b, rfl⟩ := len2 (hd.resolve_left h)
    rw [show (31 : Int) = ((31 : Nat) : Int) from rfl, xe n hn a b (by omega)]
    unfold dayI
    rw [if_neg h]
  have hD0 : d = [] → dayI d = [0] := fun h => by unfold dayI; rw [if_pos h]
  have hM : m ≠ [] → ¬ 0 < sea m → cr n m 12 = some (monI m) := fun h hs => by
    obtain ⟨a, b, rfl⟩ := len2 (hm.resolve_left h)
    rw [show (12 : Int) = ((12 : Nat) : Int) from rfl, xe n hn a b (by omega)]
    unfold monI
    rw [if_neg h, if_neg hs]
  unfold d7
  rw [mU n g l dg x q m d k0 k1 k2 hml]
  simp only [ob]
  by_cases hs : 0 < sea m
  · have h0 : m ≠ [] := by rintro rfl; exact absurd hs (by decide)
    have hm' : monI m = [sea m] := by unfold monI; rw [if_neg h0, if_pos hs]
    rw [decide_eq_true hs]
    by_cases h : d = []
    · refine ⟨_, ?_, .inr (.inl rfl)⟩
      rw [h, ← h, hD0 h, hm', h]; rfl
    · refine ⟨_, ?_, .inl rfl⟩
      rw [cb h, hD h, hm']; rfl
  · rw [decide_eq_false hs]
    by_cases h0 : m = []
    · have hm' : monI m = [0] := by unfold monI; rw [if_pos h0]
      by_cases h : d = []
      · refine ⟨_, ?_, .inr (.inr (.inr rfl))⟩
        rw [hD0 h, hm', h, h0]; rfl
      · refine ⟨_, ?_, .inr (.inr (.inl rfl))⟩
        rw [cb h, hD h, hm', h0]; rfl
    · rw [cb h0, hM h0 hs]
      by_cases h : d = []
      · refine ⟨_, ?_, .inr (.inl rfl)⟩
        rw [hD0 h, h]; rfl
      · refine ⟨_, ?_, .inl rfl⟩
        rw [cb h, hD h]; rfl
theorem uT (n : Nat) (hn : 100 < n) (g l : Bool) (dg : List UInt8) (x q : Int) (m d : List UInt8) (k0 k1 k2 : Int) : ee n g l dg x q m d k0 k1 k2 = some (monI m) := by
  unfold ee
  by_cases h0 : m = []
  · unfold monI
    rw [if_pos h0, h0]; rfl
  · rw [cb h0, oB n hn]
    simp only [ob, cond_false]
    unfold monI
    rw [if_neg h0]
    by_cases hs : 0 < sea m
    · rw [if_pos hs, decide_eq_true (show sea m > 0 from hs)]; rfl
    · rw [if_neg hs, decide_eq_false (show ¬ sea m > 0 from hs)]
      have := tU (step := bB n) (f := fun i out => (((i + 1 : Nat) : Int), g, l, dg, x, q, m, d, k0, k1, k2, out)) (y := fun l => l) (p := agr m) (g := 12) (by omega)
        (fun i out hi ho => by
          have w1 : IntKind.wrap .i64 (((i + 1 : Nat) : Int) + 1) = ((i + 1 + 1 : Nat) : Int) := by rw [wrap_i64 _ (by omega) (by omega)]; omega
          unfold bB
          simp only [d4, d8, w1]
          rw [decide_eq_true (show ((i + 1 : Nat) : Int) ≤ 12 by omega), lZ n m (i + 1) (by omega), room (by omega)]
          by_cases hp : agr m (i + 1) = true
          · rw [if_pos hp, if_pos hp]; rfl
          · rw [if_neg hp, if_neg hp]; rfl)
        (fun out => by
          unfold bB
          simp only [d4, d8, decide_eq_false (show ¬ ((12 + 1 : Nat) : Int) ≤ 12 by omega), cond_false])
        (N := n) (by omega)
      have h1 : af (bB n) n (1, g, l, dg, x, q, m, d, k0, k1, k2, ([] : List Int)) = _ := this
      rw [h1]
      rfl
def pj (y : Int) : Bool := decide (y % 4 = 0) && (decide (y % 100 ≠ 0) || decide (y % 400 = 0))
def lenI (y m : Int) : Int := if m = 4 ∨ m = 6 ∨ m = 9 ∨ m = 11 then 30 else if m = 2 then (if pj y then 29 else 28) else 31
theorem vp (y : Int) {b : Int} (hb : 0 < b) : (Int.tmod y b == 0) = decide (y % b = 0) := by
  rw [Bool.eq_iff_iff, beq_iff_eq, decide_eq_true_iff]
  have h := Int.tmod_eq_emod (a := y) (b := b)
  have h1 := Int.emod_nonneg y (show b ≠ 0 by omega)
  have h2 := Int.emod_lt_of_pos y hb
  by_cases hc : 0 ≤ y ∨ b ∣ y
  · rw [if_pos hc] at h; omega
  · rw [if_neg hc] at h
    have hd : ¬ b ∣ y := fun e => hc (.inr e)
    have : y % b ≠ 0 := fun e => hd (Int.dvd_of_emod_eq_zero e)
    omega
theorem vj (n : Nat) (y m : Int) : f8 n y m = some (lenI y m) := by
  have e100 : (Int.tmod y 100 != 0) = decide (y % 100 ≠ 0) := by
    rw [bne, vp y (by omega)]
    by_cases h : y % 100 = 0 <;> simp [h]
  unfold f8
  rw [vp y (by omega), vp y (by omega), e100]
  have body : (cond (m == 2) (cond (decide (y % 4 = 0)) (cond (decide (y % 100 ≠ 0)) (some (29 : Int)) (cond (decide (y % 400 = 0)) (some 29) (some 28))) (some 28)) (some 31)) = some (if m = 2 then (if pj y = true then 29 else 28) else 31) := by
    rw [fq]
    by_cases h2 : m = 2
    · rw [if_pos h2, if_pos h2]
      unfold pj
      cases decide (y % 4 = 0) <;> cases decide (y % 100 ≠ 0) <;> cases decide (y % 400 = 0) <;> rfl
    · rw [if_neg h2, if_neg h2]
  rw [body]
  unfold lenI
  by_cases h4 : m = 4
  · subst h4; rfl
  · by_cases h6 : m = 6
    · subst h6; rfl
    · by_cases h9 : m = 9
      · subst h9; rfl
      · by_cases h11 : m = 11
        · subst h11; rfl
        · rw [beq_eq_false_iff_ne.2 h4, beq_eq_false_iff_ne.2 h6, beq_eq_false_iff_ne.2 h9, beq_eq_false_iff_ne.2 h11, if_neg (show ¬ (m = 4 ∨ m = 6 ∨ m = 9 ∨ m = 11) by omega)]
          rfl
theorem qH (n : Nat) {y : Int} (h : -20000000000000000 ≤ y ∧ y ≤ 20000000000000000) : cw n y = some (1 + (y - 1) / 4 - (y - 1) / 100 + (y - 1) / 400) := by
  unfold cw
  rw [wrap_i64 (y - 1) (by omega) (by omega), np n (by omega) (by omega) (by omega) (by omega), np n (by omega) (by omega) (by omega) (by omega), np n (by omega) (by omega) (by omega) (by omega)]
  show some _ = some _
  have h4 : -5000000000000001 ≤ (y - 1) / 4 ∧ (y - 1) / 4 ≤ 5000000000000001 := by omega
  have h100 : -5000000000000001 ≤ (y - 1) / 100 ∧ (y - 1) / 100 ≤ 5000000000000001 := by omega
  have h400 : -5000000000000001 ≤ (y - 1) / 400 ∧ (y - 1) / 400 ≤ 5000000000000001 := by omega
  generalize (y - 1) / 4 = a at *
  generalize (y - 1) / 100 = b at *
  generalize (y - 1) / 400 = c at *
  simp only []
  rw [wrap_i64 (1 * a) (by omega) (by omega), wrap_i64 (-1 * b) (by omega) (by omega), wrap_i64 (1 * c) (by omega) (by omega), wrap_i64 (1 + 1 * a) (by omega) (by omega), wrap_i64 (1 + 1 * a + -1 * b) (by omega) (by omega), wrap_i64 _ (by omega) (by omega)]
  congr 1
  omega
theorem y5 (y : Int) : (1 + y / 4 - y / 100 + y / 400 > 1 + (y - 1) / 4 - (y - 1) / 100 + (y - 1) / 400) ↔ pj y = true := by
  unfold pj
  simp only [Bool.and_eq_true, Bool.or_eq_true, decide_eq_true_eq]
  omega
theorem At (n : Nat) {y : Int} (h : cO y) : eY n y = some (pj y, 0) := by
  unfold eY
  have h' := h
  unfold cO at h'
  rw [eB, if_pos h, wrap_i64 (y + 1) (by omega) (by omega), qH n (by omega), qH n (by omega), show y + 1 - 1 = y by omega]
  have hl := y5 y
  show some (decide (1 + y / 4 - y / 100 + y / 400 > 1 + (y - 1) / 4 - (y - 1) / 100 + (y - 1) / 400), (0 : Int)) = _
  by_cases hb : pj y = true
  · rw [hb, decide_eq_true (hl.2 hb)]
  · rw [Bool.not_eq_true] at hb
    rw [hb, decide_eq_false (fun e => by rw [hl.1 e] at hb; cases hb)]
theorem vz (n : Nat) {y : Int} (h : cO y) {m : Nat} (h1 : 1 ≤ m) (h2 : m ≤ 12) : bT n y (m : Int) = some (lenI y (m : Int)) := by
  unfold bT
  rw [At n h]
  show cond (pj y && ((m : Int) == 2)) _ _ = _
  have hix : IntKind.wrap .i64 ((m : Int) - 1) = ((m - 1 : Nat) : Int) := by rw [wrap_i64 _ (by omega) (by omega)]; omega
  rw [hix, bv (show m - 1 < 12 by omega)]
  have hm : m = 1 ∨ m = 2 ∨ m = 3 ∨ m = 4 ∨ m = 5 ∨ m = 6 ∨ m = 7 ∨ m = 8 ∨ m = 9 ∨ m = 10 ∨ m = 11 ∨ m = 12 := by omega
  rcases hm with rfl | rfl | rfl | rfl | rfl | rfl | rfl | rfl | rfl | rfl | rfl | rfl <;> unfold lenI <;> cases pj y <;> rfl
theorem Al (n : Nat) {y : Int} (h : cO y) {m : Nat} (h1 : 1 ≤ m) (h2 : m ≤ 12) : km n y (m : Int) = some (lenI y (m : Int), 0) := by
  unfold km
  rw [vn n h h1 h2, vz n h h1 h2]
  rfl
theorem oU (y m : Int) : 28 ≤ lenI y m ∧ lenI y m ≤ 31 := by
  unfold lenI
  split
  · omega
  · split
    · split <;> omega
    · omega
def gj (d : List UInt8) (y m : Int) : Int := if d = [] then 0 else lenI y m
def hS (d : List UInt8) (y mo : Int) : List (Int × Int × Int) := ((dayI d).filter fun k => decide (k ≤ gj d y mo)).map fun k => (y, mo, k)
def ed (m d : List UInt8) (y : Int) : List (Int × Int × Int) := (monI m).flatMap (hS d y)
theorem xi {X Y A : Type} {step : X → Option (X ⊕ Y)} {f : Nat → List A → X} {y : List A → Y} {p : Nat → Bool} {e : Nat → A} {g : Nat} (out0 : List A)
    (h : ∀ i out, i < g → out.length ≤ out0.length + i → step (f i out) = some (.inl (f (i + 1) (if p (i + 1) then out ++ [e (i + 1)] else out))))
    (he : ∀ out, step (f g out) = some (.inr (y out))) {N : Nat} (hN : g < N) : af step N (f 0 out0) = some (y (out0 ++ ((List.range' 1 g).filter p).map e)) := by
  have go : ∀ (r i : Nat) (out : List A), i + r = g → out.length ≤ out0.length + i → ∀ N, r < N → af step N (f i out) = some (y (out ++ ((List.range' (i + 1) r).filter p).map e)) := by
    intro r
    induction r with
    | zero =>
      intro i out hi ho N hN
      obtain ⟨N, rfl⟩ : ∃ q, N = q + 1 := ⟨N - 1, by omega⟩
      obtain rfl : i = g := by omega
      rw [af, he]
      simp
    | succ r ih =>
      intro i out hi ho N hN
      obtain ⟨N, rfl⟩ : ∃ q, N = q + 1 := ⟨N - 1, by omega⟩
      rw [af, h i out (by omega) (by omega)]
      show af step N _ = _
      by_cases hp : p (i + 1) = true
      · rw [if_pos hp, ih (i + 1) _ (by omega) (by simp; omega) N (by omega), List.range'_succ, List.filter_cons_of_pos hp]
        simp
      · rw [if_neg hp, ih (i + 1) _ (by omega) (by omega) N (by omega), List.range'_succ, List.filter_cons_of_neg hp]
  exact go g 0 out0 (by omega) (by omega) N hN
theorem qT {X Y A B : Type} {step : X → Option (X ⊕ Y)} {f : Nat → List A → X} {y : List A → Y} {F : B → List A} {L : List B} {c : Nat} (hc : ∀ b ∈ L, (F b).length ≤ c)
    (h : ∀ i b out, L[i]? = some b → out.length ≤ c * i → step (f i out) = some (.inl (f (i + 1) (out ++ F b))))
    (he : ∀ out, step (f L.length out) = some (.inr (y out))) {N : Nat} (hN : L.length < N) : af step N (f 0 []) = some (y (L.flatMap F)) := by
  have go : ∀ (r i : Nat) (out : List A), i + r = L.length → out.length ≤ c * i → ∀ N, r < N → af step N (f i out) = some (y (out ++ (L.drop i).flatMap F)) := by
    intro r
    induction r with
    | zero =>
      intro i out hi ho N hN
      obtain ⟨N, rfl⟩ : ∃ q, N = q + 1 := ⟨N - 1, by omega⟩
      obtain rfl : i = L.length := by omega
      rw [af, he]
      simp
    | succ r ih =>
      intro i out hi ho N hN
      obtain ⟨N, rfl⟩ : ∃ q, N = q + 1 := ⟨N - 1, by omega⟩
      have hb : L[i]? = some L[i] := List.getElem?_eq_getElem (by omega)
      rw [af, h i L[i] out hb ho]
      show af step N _ = _
      have hm := hc L[i] (List.getElem_mem _)
      rw [ih (i + 1) _ (by omega) (by rw [List.length_append, Nat.mul_add]; omega) N (by omega), List.drop_eq_getElem_cons (show i < L.length by omega), List.flatMap_cons, List.append_assoc]
  have := go L.length 0 [] (by omega) (by simp) N hN
  simpa using this
theorem An (d : List UInt8) (L : Nat) (h : L ≤ 31) : (jL (fitN d 31)).filter (fun k => decide (k ≤ (L : Int))) = jL ((List.range' 1 L).filter (agr d)) := by
  have hs : List.range' 1 31 = List.range' 1 L ++ List.range' (1 + L) (31 - L) := by
    have := List.range'_append_1 (s := 1) (m := L) (n := 31 - L)
    rw [this, show L + (31 - L) = 31 by omega]
  unfold fitN jL
  rw [hs, List.filter_append, List.map_append, List.filter_append]
  have e1 : (List.map (fun k : Nat => (k : Int)) (List.filter (agr d) (List.range' 1 L))).filter (fun k => decide (k ≤ (L : Int))) = List.map (fun k : Nat => (k : Int)) (List.filter (agr d) (List.range' 1 L)) := by
    rw [List.filter_eq_self]
    intro k hk
    obtain ⟨j, hj, rfl⟩ := List.mem_map.1 hk
    have := List.mem_range'_1.1 (List.mem_filter.1 hj).1
    exact decide_eq_true (by omega)
  have e2 : (List.map (fun k : Nat => (k : Int)) (List.filter (agr d) (List.range' (1 + L) (31 - L)))).filter (fun k => decide (k ≤ (L : Int))) = [] := by
    rw [List.filter_eq_nil_iff]
    intro k hk
    obtain ⟨j, hj, rfl⟩ := List.mem_map.1 hk
    have := List.mem_range'_1.1 (List.mem_filter.1 hj).1
    simp only [decide_eq_true_eq]
    omega
  rw [e1, e2, List.append_nil]
theorem uc (s : List UInt8) (g : Nat) : (fitN s g).length ≤ g := by
  have := List.length_filter_le (agr s) (List.range' 1 g)
  rw [List.length_range'] at this
  exact this
theorem iX (d : List UInt8) : (dayI d).length ≤ 31 := by
  unfold dayI
  split
  · simp
  · rw [qQ]; exact uc d 31
theorem qd (m : List UInt8) : (monI m).length ≤ 12 := by
  unfold monI
  split
  · simp
  · split
    · simp
    · rw [qQ]; exact uc m 12
theorem oS (d : List UInt8) (y mo : Int) : (hS d y mo).length ≤ 31 := by
  unfold hS
  rw [List.length_map]
  exact Nat.le_trans (List.length_filter_le _ _) (iX d)
theorem ls (y mo : Int) : hS [] y mo = [(y, mo, 0)] := rfl
theorem uw {d : List UInt8} (h : d ≠ []) (y mo : Int) : hS d y mo = ((List.range' 1 (lenI y mo).toNat).filter (agr d)).map fun k : Nat => (y, mo, (k : Int)) := by
  have hr := oU y mo
  unfold hS dayI gj
  rw [if_neg h, if_neg h]
  have := An d (lenI y mo).toNat (by omega)
  rw [show (((lenI y mo).toNat : Nat) : Int) = lenI y mo by omega] at this
  rw [this, jL, List.map_map]
  rfl
theorem uu (n : Nat) (hn : 100 < n) (g l : Bool) (dg : List UInt8) (x q : Int) (m d : List UInt8) (k0 k1 k2 y : Int) :
    fG n g l dg x q m d k0 k1 k2 y = some (ed m d y) := by
  have hml := qd m
  unfold fG
  rw [uT n hn]
  have := qT (step := cf n) (f := fun i out => (y, (i : Int), g, l, dg, x, q, m, d, k0, k1, k2, monI m, out)) (y := fun o => o) (F := hS d y) (L := monI m) (c := 31) (fun b _ => oS d y b)
    (fun i mo out hi ho => by
      have hil : i < (monI m).length := (List.getElem?_eq_some_iff.1 hi).1
      have w1 : IntKind.wrap .i64 ((i : Int) + 1) = ((i + 1 : Nat) : Int) := by rw [wrap_i64 _ (by omega) (by omega)]; omega
      unfold cf
      simp only [d4, d8, w1]
      rw [decide_eq_true (show (i : Int) < (((monI m).length : Nat) : Int) by omega), bv hil]
      by_cases hd : d = []
      · subst hd
        rw [ls]
        simp only [ob, hi, cond_true, room (show out.length ≤ 60000000 by omega)]
        rfl
      · rw [cb hd]
        have hr := oU y mo
        have hin := xi (step := ca n) (f := fun j o => (y, (i : Int), ((j + 1 : Nat) : Int), g, l, dg, x, q, m, d, k0, k1, k2, monI m, o)) (y := fun o => (y, (i : Int), g, l, dg, x, q, m, d, k0, k1, k2, monI m, o)) (p := agr d) (e := fun k => (y, mo, (k : Int))) (g := (lenI y mo).toNat) out
          (fun j o hj ho' => by
            have w2 : IntKind.wrap .i64 (((j + 1 : Nat) : Int) + 1) = ((j + 1 + 1 : Nat) : Int) := by rw [wrap_i64 _ (by omega) (by omega)]; omega
            unfold ca
            simp only [d4, d8, w2, bv hil, ob, hi, vj]
            rw [decide_eq_true (show ((j + 1 : Nat) : Int) ≤ lenI y mo by omega), lZ n d (j + 1) (by omega), room (show o.length ≤ 60000000 by omega)]
            by_cases hp : agr d (j + 1) = true
            · rw [if_pos hp, if_pos hp]; rfl
            · rw [if_neg hp, if_neg hp]; rfl)
          (fun o => by
            unfold ca
            simp only [d4, d8, bv hil, ob, hi, vj]
            rw [decide_eq_false (show ¬ (((lenI y mo).toNat + 1 : Nat) : Int) ≤ lenI y mo by omega)]
            rfl)
          (N := n) (by omega)
        have hin' : af (ca n) n (y, (i : Int), 1, g, l, dg, x, q, m, d, k0, k1, k2, monI m, out) = _ := hin
        simp only [cond_true, cond_false]
        rw [hin', uw hd]
        simp only [ob, d4, d8, w1])
    (fun out => by
      unfold cf
      simp only [d4, d8]
      rw [decide_eq_false (show ¬ (((monI m).length : Nat) : Int) < (((monI m).length : Nat) : Int) by omega)]
      rfl)
    (N := n) (by omega)
  have h0 : af (cf n) n (y, 0, g, l, dg, x, q, m, d, k0, k1, k2, monI m, ([] : List (Int × Int × Int))) = _ := this
  simp only [ob]
  rw [h0]
  rfl
theorem BI {a b c e : UInt8} (ha : bn a = true ∨ a = 88) (hb : bn b = true ∨ b = 88) (hc : bn c = true ∨ c = 88) (he : bn e = true ∨ e = 88) (w : Nat) :
    mtk [a, b, c, e] 4 w = Mk.ag [e, c, b, a] (w : Int) := by
  have one : ∀ (z : UInt8) (v : Nat), (decide (z = 88) || decide (z.toNat = 48 + v % 10)) = (decide (z = 88) || decide (Mk.dv z = (v : Int) % 10)) := by
    intro z v
    have : (z.toNat = 48 + v % 10) ↔ (Mk.dv z = (v : Int) % 10) := by unfold Mk.dv; omega
    rw [decide_eq_decide.2 this]
  have cast : ∀ v : Nat, (v : Int) / 10 = ((v / 10 : Nat) : Int) := fun v => by omega
  show ((decide (e = 88) || decide (e.toNat = 48 + w % 10)) && ((decide (c = 88) || decide (c.toNat = 48 + w / 10 % 10)) && ((decide (b = 88) || decide (b.toNat = 48 + w / 10 / 10 % 10)) && ((decide (a = 88) || decide (a.toNat = 48 + w / 10 / 10 / 10 % 10)) && true))))
    = ((((true && (decide (a = 88) || decide (Mk.dv a = (w : Int) / 10 / 10 / 10 % 10))) && (decide (b = 88) || decide (Mk.dv b = (w : Int) / 10 / 10 % 10))) && (decide (c = 88) || decide (Mk.dv c = (w : Int) / 10 % 10))) && (decide (e = 88) || decide (Mk.dv e = (w : Int) % 10)))
  rw [one e w, one c (w / 10), one b (w / 10 / 10), one a (w / 10 / 10 / 10), cast w, cast (w / 10), cast (w / 10 / 10)]
  generalize (decide (e = 88) || decide (Mk.dv e = (w : Int) % 10)) = p1
  generalize (decide (c = 88) || decide (Mk.dv c = ((w / 10 : Nat) : Int) % 10)) = p2
  generalize (decide (b = 88) || decide (Mk.dv b = ((w / 10 / 10 : Nat) : Int) % 10)) = p3
  generalize (decide (a = 88) || decide (Mk.dv a = ((w / 10 / 10 / 10 : Nat) : Int) % 10)) = p4
  cases p1 <;> cases p2 <;> cases p3 <;> cases p4 <;> rfl
theorem Bm {c : UInt8} (h : bn c = true ∨ c = 88) : Mk.okB c = true := by
  rcases h with h | h
  · have h := (dG c).1 h
    unfold Mk.okB
    simp only [Bool.or_eq_true, Bool.and_eq_true, decide_eq_true_eq]
    right
    first | omega | (obtain ⟨h1, h2⟩ := h; constructor <;> omega)
  · subst h; decide
theorem qo {d : List UInt8} (hl : d.length = 4) (h : ∀ c ∈ d, bn c = true ∨ c = 88) : Mk.chk d = 0 := by
  unfold Mk.chk
  have : d.all Mk.okB = true := List.all_eq_true.2 fun c hc => Bm (h c hc)
  rw [if_neg (by omega), if_pos this, if_neg (by rintro rfl; simp at hl)]
theorem tC {d : List UInt8} (hl : d.length = 4) (h : ∀ c ∈ d, bn c = true ∨ c = 88) (w : Nat) : Mk.hasM d (w : Int) = true ↔ mtk d 4 w = true ∧ w / 10 ^ 4 = 0 := by
  obtain ⟨a, b, c, e, rfl⟩ : ∃ a b c e, d = [a, b, c, e] := by
    match d, hl with
    | [a, b, c, e], _ => exact ⟨a, b, c, e, rfl⟩
  rw [Mk.pJ, BI (h a (by simp)) (h b (by simp)) (h c (by simp)) (h e (by simp)) w]
  simp only [Bool.and_eq_true, decide_eq_true_eq]
  show 0 ≤ (w : Int) ∧ (w : Int) < 10 ^ 4 ∧ Mk.ag [e, c, b, a] (w : Int) = true ↔ Mk.ag [e, c, b, a] (w : Int) = true ∧ w / 10 ^ 4 = 0
  have e4 : (10 : Int) ^ 4 = 10000 := by decide
  have e4' : (10 : Nat) ^ 4 = 10000 := by decide
  rw [e4, e4']
  constructor
  · rintro ⟨_, h2, h3⟩; exact ⟨h3, by omega⟩
  · rintro ⟨h3, h2⟩; exact ⟨by omega, by omega, h3⟩
theorem pV {g l : Bool} {d : List UInt8} {x q : Int} (hok : okY g l d x q) (hX : hasX d = true) (v : Int) : inP g d x q v ↔ (Mk.hasM d (wOf g v) = true ∧ (g = true → 1 ≤ wOf g v)) := by
  obtain ⟨rfl, rfl, rfl, hl, hd⟩ := ie hok hX
  unfold inP
  rw [tW hX]
  have hr : ∀ k : Int, Mk.hasM d k = true → 0 ≤ k ∧ k < 10000 := fun k hk => by
    have := (Mk.io hk).2.2.2.2
    rw [hl] at this
    have e4 : (10 : Int) ^ 4 = 10000 := by decide
    omega
  constructor
  · rintro ⟨h1, h2, h3, h4, h5⟩
    have := (tC hl hd (wOf g v).toNat).2 h5
    rw [show (((wOf g v).toNat : Nat) : Int) = wOf g v by omega] at this
    refine ⟨this, fun hg => ?_⟩
    have h0 : ¬ wOf g v = 0 := fun e => h4 ⟨hX, hg, e⟩
    omega
  · rintro ⟨h1, h2⟩
    have hr' := hr _ h1
    have hm := (tC hl hd (wOf g v).toNat).1 (by rw [show (((wOf g v).toNat : Nat) : Int) = wOf g v by omega]; exact h1)
    have hv : v = wOf g v ∨ v = - wOf g v := by
      unfold wOf; split
      · right; omega
      · left; rfl
    refine ⟨by omega, by omega, hr'.1, ?_, hm⟩
    rintro ⟨_, hg, e⟩
    have := h2 hg
    omega
theorem wN {g l : Bool} {d : List UInt8} {x : Int} (hok : okY g l d x 0) (hX : hasX d = false) (v : Int) : inP g d x 0 v ↔ v = (if g then -((val d x.toNat : Nat) : Int) else ((val d x.toNat : Nat) : Int)) := by
  obtain ⟨k, q, rfl, hq, hN⟩ := mb hok hX
  have hs := hN.small
  have hv : dval 0 d * 10 ^ k = val d k := rfl
  rw [hv] at hs
  unfold E16 at hs
  unfold inP
  rw [zx hX]
  have hu : sd d (k : Int).toNat (0 : Int).toNat = 1 := rfl
  rw [hu, Int.toNat_natCast, Nat.div_one, Nat.div_one, hX]
  unfold wOf
  cases g with
  | true =>
    simp only [if_true]
    constructor
    · rintro ⟨h1, h2, h3, _, h5⟩; omega
    · rintro rfl; refine ⟨by omega, by omega, by omega, by simp, by omega⟩
  | false =>
    simp only [Bool.false_eq_true, if_false]
    constructor
    · rintro ⟨h1, h2, h3, _, h5⟩; omega
    · rintro rfl; refine ⟨by omega, by omega, by omega, by simp, by omega⟩
def ot (up : Bool) (Y : Int → Prop) (v w : Int) (found : Bool) : Prop :=
  (found = true → Y w ∧ Mk.bL up v w ∧ ∀ e, Y e → Mk.bL up v e → Mk.bL up w e) ∧ (found = false → ∀ e, Y e → ¬ Mk.bL up v e)
theorem aD (a b : Int) : Mk.bL true a b ↔ a ≤ b := Iff.rfl
theorem bZ (a b : Int) : Mk.bL false a b ↔ b ≤ a := Iff.rfl
theorem zY (o : Option Int) : (Mk.res o).2 = 0 ∧ (∃ r, o = some r ∧ (Mk.res o).1 = r) ∨ (Mk.res o).2 = 16 ∧ o = none ∧ (Mk.res o).1 = 0 := by
  cases o with
  | none => exact .inr ⟨rfl, rfl, rfl⟩
  | some r => exact .inl ⟨rfl, r, rfl, rfl⟩
theorem mc {m : List UInt8} (hm : Mk.chk m = 0) (v least : Int) (h0 : 0 ≤ least) : ∃ w f, cJ 20000000 m v true least = some (w, f) ∧ ot true (fun e => Mk.hasM m e = true ∧ least ≤ e) v w f ∧ (0 ≤ w ∧ w < 1000000000000000000) := by
  obtain ⟨o, h1, h2⟩ := Mk.vV hm (cond (decide (least > v)) least v)
  unfold cJ
  rw [h1]
  simp only [ob, cond_true]
  have hc : (cond (decide (least > v)) least v) = max v least := by
    by_cases h : least > v
    · rw [decide_eq_true h]; show least = _; omega
    · rw [decide_eq_false h]; show v = _; omega
  rw [hc] at h2
  rcases zY o with ⟨e1, r, rfl, e2⟩ | ⟨e1, rfl, e2⟩
  · refine ⟨_, _, rfl, ?_, ?_⟩
    · rw [e1, e2]
      obtain ⟨a1, a2, a3⟩ := h2
      rw [aD] at a2
      refine ⟨fun _ => ⟨⟨a1, by omega⟩, ?_, fun e he hv => ?_⟩, fun h => by cases h⟩
      · rw [aD]; omega
      · rw [aD] at hv
        exact a3 e he.1 (by rw [aD]; have := he.2; omega)
    · have := (Mk.io h2.1).2.2.2.2
      have hl := Mk.fJ hm
      have hp : (10 : Int) ^ m.length ≤ 10 ^ 18 := by
        have := Nat.pow_le_pow_right (show 0 < 10 by decide) hl.1
        exact_mod_cast this
      have e18 : (10 : Int) ^ 18 = 1000000000000000000 := by decide
      rw [e2]
      omega
  · refine ⟨_, _, rfl, ?_, by rw [e2]; omega⟩
    rw [e1]
    refine ⟨(fun h => by cases h), fun _ e he hv => ?_⟩
    rw [aD] at hv
    exact h2 e he.1 (by rw [aD]; have := he.2; omega)
theorem md {m : List UInt8} (hm : Mk.chk m = 0) (v least : Int) (h0 : 0 ≤ least) : ∃ w f, cJ 20000000 m v false least = some (w, f) ∧ ot false (fun e => Mk.hasM m e = true ∧ least ≤ e) v w f ∧ (0 ≤ w ∧ w < 1000000000000000000) := by
  obtain ⟨o, h1, h2⟩ := Mk.wd hm v
  unfold cJ
  rw [h1]
  simp only [ob, cond_false]
  rcases zY o with ⟨e1, r, rfl, e2⟩ | ⟨e1, rfl, e2⟩
  · rw [e1, e2]
    obtain ⟨a1, a2, a3⟩ := h2
    rw [bZ] at a2
    have hb := (Mk.io a1).2.2.2.2
    have hl := Mk.fJ hm
    have hp : (10 : Int) ^ m.length ≤ 10 ^ 18 := by
      have := Nat.pow_le_pow_right (show 0 < 10 by decide) hl.1
      exact_mod_cast this
    have e18 : (10 : Int) ^ 18 = 1000000000000000000 := by decide
    refine ⟨_, _, rfl, ?_, by omega⟩
    by_cases hle : r ≥ least
    · rw [decide_eq_true hle]
      refine ⟨fun _ => ⟨⟨a1, by omega⟩, by rw [bZ]; omega, fun e he hv => a3 e he.1 hv⟩, fun h => by cases h⟩
    · rw [decide_eq_false hle]
      refine ⟨(fun h => by cases h), fun _ e he hv => ?_⟩
      have := a3 e he.1 hv
      rw [bZ] at this
      have := he.2
      omega
  · rw [e1, e2]
    refine ⟨_, _, rfl, ?_, by omega⟩
    refine ⟨(fun h => by cases h), fun _ e he hv => h2 e he.1 hv⟩
theorem lJ {g l : Bool} {dg : List UInt8} {x : Int} (hok : okY g l dg x 0) (m d : List UInt8) (k0 k1 k2 : Int) (v : Int) (hv : -9223372036854775808 ≤ v ∧ v < 9223372036854775808) (up : Bool) (ms ds : List Int) :
    ∃ w f, ar 20000000 g l dg x 0 m d k0 k1 k2 v up ms ds = some (w, f) ∧ ot up (inP g dg x 0) v w f := by
  have hsm := iZ hok
  unfold ar
  rw [jJ]
  simp only [ob]
  cases hX : hasX dg with
  | false =>
    have hin := wN hok hX
    rw [sH 20000000 g l dg x 0 (by omega) (by omega), if_pos ⟨hok, hX⟩]
    simp only [Bool.not_false, cond_true]
    generalize (if g then -((val dg x.toNat : Nat) : Int) else ((val dg x.toNat : Nat) : Int)) = w at *
    cases up with
    | true =>
      by_cases h : w ≥ v
      · refine ⟨w, true, ?_, ?_⟩
        · simp only [decide_eq_true h, cond_true]
        · refine ⟨fun _ => ⟨(hin w).2 rfl, h, fun e he _ => ?_⟩, fun h => by cases h⟩
          rw [(hin e).1 he]; exact Int.le_refl _
      · refine ⟨w, false, ?_, ?_⟩
        · simp only [decide_eq_false h, cond_true, cond_false, Bool.not_true]
        · refine ⟨(fun h => by cases h), fun _ e he ha => ?_⟩
          rw [(hin e).1 he, aD] at ha; omega
    | false =>
      by_cases h : w ≤ v
      · refine ⟨w, true, ?_, ?_⟩
        · simp only [decide_eq_true h, cond_true, cond_false, Bool.not_false]
        · refine ⟨fun _ => ⟨(hin w).2 rfl, h, fun e he _ => ?_⟩, fun h => by cases h⟩
          rw [(hin e).1 he]; exact Int.le_refl _
      · refine ⟨w, false, ?_, ?_⟩
        · simp only [decide_eq_false h, cond_true, cond_false, Bool.not_false]
        · refine ⟨(fun h => by cases h), fun _ e he ha => ?_⟩
          rw [(hin e).1 he, bZ] at ha; omega
  | true =>
    have hin := pV hok hX
    obtain ⟨rfl, rfl, _, hl, hd⟩ := ie hok hX
    have hm := qo hl hd
    simp only [Bool.not_true, cond_false]
    cases g with
    | false =>
      simp only [Bool.not_false, cond_true]
      have same : ∀ w f, ot up (fun e => Mk.hasM dg e = true ∧ 0 ≤ e) v w f → ot up (inP false dg 0 0) v w f := fun w f h => by
        have hiff : ∀ e, (Mk.hasM dg e = true ∧ 0 ≤ e) ↔ inP false dg 0 0 e := fun e => by
          rw [hin e]
          constructor
          · rintro ⟨h1, _⟩; exact ⟨h1, fun h => by cases h⟩
          · rintro ⟨h1, _⟩; exact ⟨h1, (Mk.io h1).2.2.2.2.1⟩
        refine ⟨fun hf => ?_, fun hf e he => h.2 hf e ((hiff e).2 he)⟩
        obtain ⟨b1, b2, b3⟩ := h.1 hf
        exact ⟨(hiff w).1 b1, b2, fun e he => b3 e ((hiff e).2 he)⟩
      cases up with
      | true =>
        obtain ⟨w, f, h1, h2, _⟩ := mc hm v 0 (by omega)
        exact ⟨w, f, by rw [h1], same w f h2⟩
      | false =>
        obtain ⟨w, f, h1, h2, _⟩ := md hm v 0 (by omega)
        exact ⟨w, f, by rw [h1], same w f h2⟩
    | true =>
      simp only [Bool.not_true, cond_false]
      have hc : IntKind.wrap .i64 (0 - (cond (decide (((-9223372036854775807) : Int) > v)) (-9223372036854775807) v)) = min (-v) 9223372036854775807 := by
        by_cases h : ((-9223372036854775807) : Int) > v
        · rw [decide_eq_true h, cond_true, wrap_i64 _ (by omega) (by omega)]; omega
        · rw [decide_eq_false h, cond_false, wrap_i64 _ (by omega) (by omega)]; omega
      rw [hc]
      have hb : ∀ e, Mk.hasM dg e = true → 0 ≤ e ∧ e < 10000 := fun e he => by
        have := (Mk.io he).2.2.2.2
        rw [hl] at this
        have e4 : (10 : Int) ^ 4 = 10000 := by decide
        omega
      have hiff : ∀ e, inP true dg 0 0 e ↔ (Mk.hasM dg (-e) = true ∧ 1 ≤ -e) := fun e => by
        rw [hin e]
        exact ⟨fun h => ⟨h.1, h.2 rfl⟩, fun h => ⟨h.1, fun _ => h.2⟩⟩
      have hw : ∀ w : Int, 0 ≤ w ∧ w < 1000000000000000000 → IntKind.wrap .i64 (0 - w) = -w := fun w h => by rw [wrap_i64 _ (by omega) (by omega)]; omega
      cases up with
      | true =>
        obtain ⟨w, f, h1, h2, h3⟩ := md hm (min (-v) 9223372036854775807) 1 (by omega)
        refine ⟨-w, f, by rw [Bool.not_true, h1]; simp only [hw w h3], ?_, ?_⟩
        · intro hf
          obtain ⟨b1, b2, b3⟩ := h2.1 hf
          rw [bZ] at b2
          refine ⟨(hiff _).2 (by rw [Int.neg_neg]; exact b1), by rw [aD]; omega, fun e he ha => ?_⟩
          rw [aD] at ha
          have hh := (hiff e).1 he
          have := b3 (-e) hh (by rw [bZ]; have := hb _ hh.1; omega)
          rw [bZ] at this
          rw [aD]; omega
        · intro hf e he ha
          rw [aD] at ha
          have hh := (hiff e).1 he
          exact h2.2 hf (-e) hh (by rw [bZ]; have := hb _ hh.1; omega)
      | false =>
        obtain ⟨w, f, h1, h2, h3⟩ := mc hm (min (-v) 9223372036854775807) 1 (by omega)
        refine ⟨-w, f, by rw [Bool.not_false, h1]; simp only [hw w h3], ?_, ?_⟩
        · intro hf
          obtain ⟨b1, b2, b3⟩ := h2.1 hf
          rw [aD] at b2
          have hbw := hb _ b1.1
          refine ⟨(hiff _).2 (by rw [Int.neg_neg]; exact b1), by rw [bZ]; omega, fun e he ha => ?_⟩
          rw [bZ] at ha
          have hh := (hiff e).1 he
          have := b3 (-e) hh (by rw [aD]; omega)
          rw [aD] at this
          rw [bZ]; omega
        · intro hf e he ha
          rw [bZ] at ha
          have hh := (hiff e).1 he
          exact h2.2 hf (-e) hh (by rw [aD]; omega)
theorem lA {X Y A : Type} {step : X → Option (X ⊕ Y)} {f : Nat → X} {L : List A} {G : A → Option Y} {e : Y}
    (h : ∀ i a, L[i]? = some a → step (f i) = some ((G a).elim (.inl (f (i + 1))) Sum.inr)) (he : step (f L.length) = some (.inr e)) {N : Nat} (hN : L.length < N) :
    af step N (f 0) = some ((L.findSome? G).getD e) := by
  have go : ∀ (r i : Nat), i + r = L.length → ∀ N, r < N → af step N (f i) = some (((L.drop i).findSome? G).getD e) := by
    intro r
    induction r with
    | zero =>
      intro i hi N hN
      obtain ⟨N, rfl⟩ : ∃ q, N = q + 1 := ⟨N - 1, by omega⟩
      obtain rfl : i = L.length := by omega
      rw [af, he]
      simp
    | succ r ih =>
      intro i hi N hN
      obtain ⟨N, rfl⟩ : ∃ q, N = q + 1 := ⟨N - 1, by omega⟩
      have hb : L[i]? = some L[i] := List.getElem?_eq_getElem (by omega)
      rw [af, h i L[i] hb, List.drop_eq_getElem_cons (show i < L.length by omega), List.findSome?_cons]
      cases hG : G L[i] with
      | some y => rfl
      | none => exact ih (i + 1) (by omega) N (by omega)
  have := go L.length 0 (by omega) N hN
  simpa using this
def ahd (up : Bool) (a b : Int) : Bool := cond up (decide (a < b)) (decide (a > b))
theorem mw (n : Nat) (a b : Int) (up : Bool) : aZ n a b up = some (ahd up a b) := by
  unfold aZ ahd
  cases up
  · rfl
  · simp only [cond_true, Bool.not_true, cond_false]
    cases decide (a < b) <;> rfl
def gV (up same : Bool) (d : List UInt8) (cd most k : Int) : Bool := decide (k ≤ most) && !(same && (!(d == ([] : List UInt8)) && ahd up k cd))
def jO (up : Bool) (m : List UInt8) (cy cm y mo : Int) : Bool := (y == cy) && (!(m == ([] : List UInt8)) && ahd up mo cm)
def kr (m : List UInt8) (cy cm y mo : Int) : Bool := (y == cy) && ((m == ([] : List UInt8)) || (mo == cm))
def jx (up : Bool) (m d : List UInt8) (cy cm cd y : Int) (ds : List Int) (mo : Int) : Option (Int × Int × Int) :=
  if jO up m cy cm y mo then none else (ds.find? (gV up (kr m cy cm y mo) d cd (gj d y mo))).map fun k => (y, mo, k)
def fK (up : Bool) (m d : List UInt8) (cy cm cd : Int) (ms ds : List Int) (y : Int) : Option (Int × Int × Int) := ms.findSome? (jx up m d cy cm cd y ds)
def mt (d : List UInt8) (ms : List Int) : Prop := ms.length ≤ 31 ∧ (d ≠ [] → ∀ mo ∈ ms, 1 ≤ mo ∧ mo ≤ 12)
theorem nO (n : Nat) (g l : Bool) (dg : List UInt8) (x q : Int) (m d : List UInt8) (k0 k1 k2 : Int) {y : Int} (hy : cO y) {mo : Int} (hmo : d ≠ [] → 1 ≤ mo ∧ mo ≤ 12) (ms ds : List Int) :
    bA n g l dg x q m d k0 k1 k2 y mo ms ds = some (gj d y mo) := by
  unfold bA gj
  by_cases hd : d = []
  · subst hd; rfl
  · rw [cb hd, if_neg hd]
    have := hmo hd
    obtain ⟨k, rfl⟩ : ∃ k : Nat, mo = (k : Int) := ⟨mo.toNat, by omega⟩
    rw [cond_false, Al n hy (by omega) (by omega)]
    rfl
theorem vH {A B Y : Type} (L : List A) (p : A → Bool) (F : A → B) (J : B → Y) (e : Y) : (L.findSome? fun a => if p a then some (J (F a)) else none).getD e = ((L.find? p).map F).elim e J := by
  induction L with
  | nil => rfl
  | cons a L ih =>
    rw [List.find?_cons, List.findSome?_cons]
    cases h : p a
    · simpa using ih
    · simp
theorem zG {A B Y : Type} (L : List A) (G : A → Option B) (J : B → Y) (e : Y) : (L.findSome? fun a => (G a).map J).getD e = (L.findSome? G).elim e J := by
  induction L with
  | nil => rfl
  | cons a L ih =>
    rw [List.findSome?_cons, List.findSome?_cons]
    cases h : G a
    · simpa using ih
    · simp
theorem yq (n : Nat) (s y mo : Int) (same : Bool) (most lm im : Int) (ms ds : List Int) (g l : Bool) (dg : List UInt8) (x q : Int) (m d : List UInt8) (k0 k1 k2 cy cm cd : Int) (up : Bool) (ry rm rd : Int) (i : Nat) (k : Int) (hi : ds[i]? = some k) (h31 : i < 1000) :
    aG n (s, y, mo, same, most, lm, im, ((ds.length : Nat) : Int), (i : Int), ms, ds, g, l, dg, x, q, m, d, k0, k1, k2, cy, cm, cd, up, ry, rm, rd) = some ((if gV up same d cd most k then some (.inl (true, y, mo, k)) else none).elim (.inl (s, y, mo, same, most, lm, im, ((ds.length : Nat) : Int), ((i + 1 : Nat) : Int), ms, ds, g, l, dg, x, q, m, d, k0, k1, k2, cy, cm, cd, up, ry, rm, rd)) Sum.inr) := by
  have hil : i < ds.length := (List.getElem?_eq_some_iff.1 hi).1
  have w1 : IntKind.wrap .i64 ((i : Int) + 1) = ((i + 1 : Nat) : Int) := by rw [wrap_i64 _ (by omega) (by omega)]; omega
  unfold aG dB gV
  simp only [d4, d8, d16, bv hil, hi, ob, w1, mw]
  rw [decide_eq_true (show (i : Int) < ((ds.length : Nat) : Int) by omega)]
  simp only [cond_true]
  cases decide (k ≤ most) <;> cases same <;> cases (d == ([] : List UInt8)) <;> cases ahd up k cd <;> simp only [Bool.not_true, Bool.not_false, cond_true, cond_false, w1] <;> rfl
theorem AO (n : Nat) (s y mo : Int) (same : Bool) (most lm im : Int) (ms ds : List Int) (g l : Bool) (dg : List UInt8) (x q : Int) (m d : List UInt8) (k0 k1 k2 cy cm cd : Int) (up : Bool) (ry rm rd : Int) :
    aG n (s, y, mo, same, most, lm, im, ((ds.length : Nat) : Int), ((ds.length : Nat) : Int), ms, ds, g, l, dg, x, q, m, d, k0, k1, k2, cy, cm, cd, up, ry, rm, rd) = some (.inr (.inr (s, y, lm, im, ms, ds, g, l, dg, x, q, m, d, k0, k1, k2, cy, cm, cd, up, ry, rm, rd))) := by
  unfold aG
  simp only [d4, d8, d16]
  rw [decide_eq_false (show ¬ ((ds.length : Nat) : Int) < ((ds.length : Nat) : Int) by omega)]
  rfl
theorem Ag (n : Nat) (hn : 1000 < n) (s y mo : Int) (same : Bool) (most lm im : Int) (ms ds : List Int) (g l : Bool) (dg : List UInt8) (x q : Int) (m d : List UInt8) (k0 k1 k2 cy cm cd : Int) (up : Bool) (ry rm rd : Int) (hd : ds.length ≤ 31) :
    af (aG n) n (s, y, mo, same, most, lm, im, ((ds.length : Nat) : Int), 0, ms, ds, g, l, dg, x, q, m, d, k0, k1, k2, cy, cm, cd, up, ry, rm, rd) = some (((ds.find? (gV up same d cd most)).map (fun k => (y, mo, k))).elim (.inr (s, y, lm, im, ms, ds, g, l, dg, x, q, m, d, k0, k1, k2, cy, cm, cd, up, ry, rm, rd)) (fun z => .inl (true, z))) := by
  have := lA (step := aG n) (f := fun i => (s, y, mo, same, most, lm, im, ((ds.length : Nat) : Int), (i : Int), ms, ds, g, l, dg, x, q, m, d, k0, k1, k2, cy, cm, cd, up, ry, rm, rd)) (L := ds) (G := fun k => if gV up same d cd most k then some (.inl (true, y, mo, k)) else none) (e := .inr (s, y, lm, im, ms, ds, g, l, dg, x, q, m, d, k0, k1, k2, cy, cm, cd, up, ry, rm, rd))
    (fun i k hi => by
      have hil : i < ds.length := (List.getElem?_eq_some_iff.1 hi).1
      exact yq n s y mo same most lm im ms ds g l dg x q m d k0 k1 k2 cy cm cd up ry rm rd i k hi (by omega))
    (AO n s y mo same most lm im ms ds g l dg x q m d k0 k1 k2 cy cm cd up ry rm rd) (N := n) (by omega)
  exact this.trans (congrArg some (vH ds (gV up same d cd most) (fun k => (y, mo, k)) (fun z => Sum.inl (true, z)) _))
theorem ya (n : Nat) (hn : 1000 < n) (s y : Int) (hy : cO y) (ms ds : List Int) (g l : Bool) (dg : List UInt8) (x q : Int) (m d : List UInt8) (k0 k1 k2 cy cm cd : Int) (up : Bool) (ry rm rd : Int) (hm : mt d ms) (hd : ds.length ≤ 31) (i : Nat) (mo : Int) (hi : ms[i]? = some mo) :
    aQ n (s, y, ((ms.length : Nat) : Int), (i : Int), ms, ds, g, l, dg, x, q, m, d, k0, k1, k2, cy, cm, cd, up, ry, rm, rd) = some (((jx up m d cy cm cd y ds mo).map (fun z => (.inl (true, z) : (Bool × Int × Int × Int) ⊕ _))).elim (.inl (s, y, ((ms.length : Nat) : Int), ((i + 1 : Nat) : Int), ms, ds, g, l, dg, x, q, m, d, k0, k1, k2, cy, cm, cd, up, ry, rm, rd)) Sum.inr) := by
  have hil : i < ms.length := (List.getElem?_eq_some_iff.1 hi).1
  have h31 := hm.1
  have w1 : IntKind.wrap .i64 ((i : Int) + 1) = ((i + 1 : Nat) : Int) := by rw [wrap_i64 _ (by omega) (by omega)]; omega
  have hmo : d ≠ [] → 1 ≤ mo ∧ mo ≤ 12 := fun h => hm.2 h mo (List.mem_of_getElem? hi)
  have j20 : ∀ a b : Int, ct n s y mo (y == cy) a b ms ds g l dg x q m d k0 k1 k2 cy cm cd up ry rm rd = some (s, y, mo, (y == cy), a, b, jO up m cy cm y mo, ms, ds, g, l, dg, x, q, m, d, k0, k1, k2, cy, cm, cd, up, ry, rm, rd) := by
    intro a b
    unfold ct jO
    simp only [mw, ob]
    cases (y == cy) <;> cases (m == ([] : List UInt8)) <;> rfl
  have j23 : ∀ a b c : Int, cq n s y mo (y == cy) a b c ms ds g l dg x q m d k0 k1 k2 cy cm cd up ry rm rd = some (s, y, mo, kr m cy cm y mo, a, b, c, ms, ds, g, l, dg, x, q, m, d, k0, k1, k2, cy, cm, cd, up, ry, rm, rd) := by
    intro a b c
    unfold cq kr
    cases (y == cy) <;> cases (m == ([] : List UInt8)) <;> rfl
  unfold aQ dA jx
  simp only [d4, d8, d16, bv hil, hi, ob, j20]
  rw [decide_eq_true (show (i : Int) < ((ms.length : Nat) : Int) by omega)]
  simp only [cond_true]
  cases hs : jO up m cy cm y mo with
  | true => simp only [cond_true, if_true, Option.map_none, w1]; rfl
  | false =>
    simp only [cond_false, Bool.false_eq_true, if_false, nO n g l dg x q m d k0 k1 k2 hy hmo, j23, Ag n hn s y mo (kr m cy cm y mo) (gj d y mo) _ _ ms ds g l dg x q m d k0 k1 k2 cy cm cd up ry rm rd hd]
    cases ds.find? (gV up (kr m cy cm y mo) d cd (gj d y mo)) with
    | some k => rfl
    | none => simp only [Option.map_none, Option.elim_none, w1]
theorem Aq (n : Nat) (hn : 1000 < n) (s y : Int) (hy : cO y) (ms ds : List Int) (g l : Bool) (dg : List UInt8) (x q : Int) (m d : List UInt8) (k0 k1 k2 cy cm cd : Int) (up : Bool) (ry rm rd : Int) (hm : mt d ms) (hd : ds.length ≤ 31) :
    af (aQ n) n (s, y, ((ms.length : Nat) : Int), 0, ms, ds, g, l, dg, x, q, m, d, k0, k1, k2, cy, cm, cd, up, ry, rm, rd) = some ((fK up m d cy cm cd ms ds y).elim (.inr (s, y, ms, ds, g, l, dg, x, q, m, d, k0, k1, k2, cy, cm, cd, up, ry, rm, rd)) (fun z => .inl (true, z))) := by
  have h31 := hm.1
  have := lA (step := aQ n) (f := fun i => (s, y, ((ms.length : Nat) : Int), (i : Int), ms, ds, g, l, dg, x, q, m, d, k0, k1, k2, cy, cm, cd, up, ry, rm, rd)) (L := ms) (G := fun mo => (jx up m d cy cm cd y ds mo).map (fun z => (.inl (true, z) : (Bool × Int × Int × Int) ⊕ _))) (e := .inr (s, y, ms, ds, g, l, dg, x, q, m, d, k0, k1, k2, cy, cm, cd, up, ry, rm, rd))
    (fun i mo hi => ya n hn s y hy ms ds g l dg x q m d k0 k1 k2 cy cm cd up ry rm rd hm hd i mo hi)
    (by
      unfold aQ
      simp only [d4, d8, d16]
      rw [decide_eq_false (show ¬ ((ms.length : Nat) : Int) < ((ms.length : Nat) : Int) by omega)]
      rfl)
    (N := n) (by omega)
  exact this.trans (congrArg some (zG ms (jx up m d cy cm cd y ds) (fun z => Sum.inl (true, z)) _))
theorem xT (n : Nat) (hn : 1000 < n) (s y : Int) (hy : cO y) (ms ds : List Int) (g l : Bool) (dg : List UInt8) (x q : Int) (m d : List UInt8) (k0 k1 k2 cy cm cd : Int) (up : Bool) (ry rm rd : Int) (hm : mt d ms) (hd : ds.length ≤ 31) :
    bc n (s, y, true, ms, ds, g, l, dg, x, q, m, d, k0, k1, k2, cy, cm, cd, up, ry, rm, rd) = (fK up m d cy cm cd ms ds y).elim (ob (ar n g l dg x q m d k0 k1 k2 (IntKind.wrap .i64 (y + s)) up ms ds) fun r => some (.inl (s, r.1, r.2, ms, ds, g, l, dg, x, q, m, d, k0, k1, k2, cy, cm, cd, up, ry, rm, rd))) (fun z => some (.inr (.inl (true, z)))) := by
  unfold bc
  simp only [d4, d8, d16, cond_true, ob, Aq n hn s y hy ms ds g l dg x q m d k0 k1 k2 cy cm cd up ry rm rd hm hd]
  cases fK up m d cy cm cd ms ds y <;> rfl
theorem AV (n : Nat) (s y mo : Int) (same : Bool) (most lm im : Int) (ms ds : List Int) (g l : Bool) (dg : List UInt8) (x q : Int) (m d : List UInt8) (k0 k1 k2 cy cm cd : Int) (up : Bool) (ry rm rd : Int) (mr dr : List Int) (i : Nat) (k : Int) (hi : dr[i]? = some k) (h31 : i < 1000) :
    aN n (s, y, mo, same, most, lm, im, ((dr.length : Nat) : Int), (i : Int), ms, ds, g, l, dg, x, q, m, d, k0, k1, k2, cy, cm, cd, up, ry, rm, rd, mr, dr) = some ((if gV up same d cd most k then some (.inl (true, y, mo, k)) else none).elim (.inl (s, y, mo, same, most, lm, im, ((dr.length : Nat) : Int), ((i + 1 : Nat) : Int), ms, ds, g, l, dg, x, q, m, d, k0, k1, k2, cy, cm, cd, up, ry, rm, rd, mr, dr)) Sum.inr) := by
  have hil : i < dr.length := (List.getElem?_eq_some_iff.1 hi).1
  have w1 : IntKind.wrap .i64 ((i : Int) + 1) = ((i + 1 : Nat) : Int) := by rw [wrap_i64 _ (by omega) (by omega)]; omega
  unfold aN dN gV
  simp only [d4, d8, d16, bv hil, hi, ob, w1, mw]
  rw [decide_eq_true (show (i : Int) < ((dr.length : Nat) : Int) by omega)]
  simp only [cond_true]
  cases decide (k ≤ most) <;> cases same <;> cases (d == ([] : List UInt8)) <;> cases ahd up k cd <;> simp only [Bool.not_true, Bool.not_false, cond_true, cond_false, w1] <;> rfl
theorem Ct (n : Nat) (s y mo : Int) (same : Bool) (most lm im : Int) (ms ds : List Int) (g l : Bool) (dg : List UInt8) (x q : Int) (m d : List UInt8) (k0 k1 k2 cy cm cd : Int) (up : Bool) (ry rm rd : Int) (mr dr : List Int) :
    aN n (s, y, mo, same, most, lm, im, ((dr.length : Nat) : Int), ((dr.length : Nat) : Int), ms, ds, g, l, dg, x, q, m, d, k0, k1, k2, cy, cm, cd, up, ry, rm, rd, mr, dr) = some (.inr (.inr (s, y, lm, im, ms, ds, g, l, dg, x, q, m, d, k0, k1, k2, cy, cm, cd, up, ry, rm, rd, mr, dr))) := by
  unfold aN
  simp only [d4, d8, d16]
  rw [decide_eq_false (show ¬ ((dr.length : Nat) : Int) < ((dr.length : Nat) : Int) by omega)]
  rfl
theorem BN (n : Nat) (hn : 1000 < n) (s y mo : Int) (same : Bool) (most lm im : Int) (ms ds : List Int) (g l : Bool) (dg : List UInt8) (x q : Int) (m d : List UInt8) (k0 k1 k2 cy cm cd : Int) (up : Bool) (ry rm rd : Int) (mr dr : List Int) (hd : dr.length ≤ 31) :
    af (aN n) n (s, y, mo, same, most, lm, im, ((dr.length : Nat) : Int), 0, ms, ds, g, l, dg, x, q, m, d, k0, k1, k2, cy, cm, cd, up, ry, rm, rd, mr, dr) = some (((dr.find? (gV up same d cd most)).map (fun k => (y, mo, k))).elim (.inr (s, y, lm, im, ms, ds, g, l, dg, x, q, m, d, k0, k1, k2, cy, cm, cd, up, ry, rm, rd, mr, dr)) (fun z => .inl (true, z))) := by
  have := lA (step := aN n) (f := fun i => (s, y, mo, same, most, lm, im, ((dr.length : Nat) : Int), (i : Int), ms, ds, g, l, dg, x, q, m, d, k0, k1, k2, cy, cm, cd, up, ry, rm, rd, mr, dr)) (L := dr) (G := fun k => if gV up same d cd most k then some (.inl (true, y, mo, k)) else none) (e := .inr (s, y, lm, im, ms, ds, g, l, dg, x, q, m, d, k0, k1, k2, cy, cm, cd, up, ry, rm, rd, mr, dr))
    (fun i k hi => by
      have hil : i < dr.length := (List.getElem?_eq_some_iff.1 hi).1
      exact AV n s y mo same most lm im ms ds g l dg x q m d k0 k1 k2 cy cm cd up ry rm rd mr dr i k hi (by omega))
    (Ct n s y mo same most lm im ms ds g l dg x q m d k0 k1 k2 cy cm cd up ry rm rd mr dr) (N := n) (by omega)
  exact this.trans (congrArg some (vH dr (gV up same d cd most) (fun k => (y, mo, k)) (fun z => Sum.inl (true, z)) _))
theorem AQ (n : Nat) (hn : 1000 < n) (s y : Int) (hy : cO y) (ms ds : List Int) (g l : Bool) (dg : List UInt8) (x q : Int) (m d : List UInt8) (k0 k1 k2 cy cm cd : Int) (up : Bool) (ry rm rd : Int) (mr dr : List Int) (hm : mt d mr) (hd : dr.length ≤ 31) (i : Nat) (mo : Int) (hi : mr[i]? = some mo) :
    aS n (s, y, ((mr.length : Nat) : Int), (i : Int), ms, ds, g, l, dg, x, q, m, d, k0, k1, k2, cy, cm, cd, up, ry, rm, rd, mr, dr) = some (((jx up m d cy cm cd y dr mo).map (fun z => (.inl (true, z) : (Bool × Int × Int × Int) ⊕ _))).elim (.inl (s, y, ((mr.length : Nat) : Int), ((i + 1 : Nat) : Int), ms, ds, g, l, dg, x, q, m, d, k0, k1, k2, cy, cm, cd, up, ry, rm, rd, mr, dr)) Sum.inr) := by
  have hil : i < mr.length := (List.getElem?_eq_some_iff.1 hi).1
  have h31 := hm.1
  have w1 : IntKind.wrap .i64 ((i : Int) + 1) = ((i + 1 : Nat) : Int) := by rw [wrap_i64 _ (by omega) (by omega)]; omega
  have hmo : d ≠ [] → 1 ≤ mo ∧ mo ≤ 12 := fun h => hm.2 h mo (List.mem_of_getElem? hi)
  have j20 : ∀ a b : Int, cM n s y mo (y == cy) a b ms ds g l dg x q m d k0 k1 k2 cy cm cd up ry rm rd mr dr = some (s, y, mo, (y == cy), a, b, jO up m cy cm y mo, ms, ds, g, l, dg, x, q, m, d, k0, k1, k2, cy, cm, cd, up, ry, rm, rd, mr, dr) := by
    intro a b
    unfold cM jO
    simp only [mw, ob]
    cases (y == cy) <;> cases (m == ([] : List UInt8)) <;> rfl
  have j23 : ∀ a b c : Int, cN n s y mo (y == cy) a b c ms ds g l dg x q m d k0 k1 k2 cy cm cd up ry rm rd mr dr = some (s, y, mo, kr m cy cm y mo, a, b, c, ms, ds, g, l, dg, x, q, m, d, k0, k1, k2, cy, cm, cd, up, ry, rm, rd, mr, dr) := by
    intro a b c
    unfold cN kr
    cases (y == cy) <;> cases (m == ([] : List UInt8)) <;> rfl
  unfold aS dO jx
  simp only [d4, d8, d16, bv hil, hi, ob, j20]
  rw [decide_eq_true (show (i : Int) < ((mr.length : Nat) : Int) by omega)]
  simp only [cond_true]
  cases hs : jO up m cy cm y mo with
  | true => simp only [cond_true, if_true, Option.map_none, w1]; rfl
  | false =>
    simp only [cond_false, Bool.false_eq_true, if_false, nO n g l dg x q m d k0 k1 k2 hy hmo, j23, BN n hn s y mo (kr m cy cm y mo) (gj d y mo) _ _ ms ds g l dg x q m d k0 k1 k2 cy cm cd up ry rm rd mr dr hd]
    cases dr.find? (gV up (kr m cy cm y mo) d cd (gj d y mo)) with
    | some k => rfl
    | none => simp only [Option.map_none, Option.elim_none, w1]
theorem Cg (n : Nat) (hn : 1000 < n) (s y : Int) (hy : cO y) (ms ds : List Int) (g l : Bool) (dg : List UInt8) (x q : Int) (m d : List UInt8) (k0 k1 k2 cy cm cd : Int) (up : Bool) (ry rm rd : Int) (mr dr : List Int) (hm : mt d mr) (hd : dr.length ≤ 31) :
    af (aS n) n (s, y, ((mr.length : Nat) : Int), 0, ms, ds, g, l, dg, x, q, m, d, k0, k1, k2, cy, cm, cd, up, ry, rm, rd, mr, dr) = some ((fK up m d cy cm cd mr dr y).elim (.inr (s, y, ms, ds, g, l, dg, x, q, m, d, k0, k1, k2, cy, cm, cd, up, ry, rm, rd, mr, dr)) (fun z => .inl (true, z))) := by
  have h31 := hm.1
  have := lA (step := aS n) (f := fun i => (s, y, ((mr.length : Nat) : Int), (i : Int), ms, ds, g, l, dg, x, q, m, d, k0, k1, k2, cy, cm, cd, up, ry, rm, rd, mr, dr)) (L := mr) (G := fun mo => (jx up m d cy cm cd y dr mo).map (fun z => (.inl (true, z) : (Bool × Int × Int × Int) ⊕ _))) (e := .inr (s, y, ms, ds, g, l, dg, x, q, m, d, k0, k1, k2, cy, cm, cd, up, ry, rm, rd, mr, dr))
    (fun i mo hi => AQ n hn s y hy ms ds g l dg x q m d k0 k1 k2 cy cm cd up ry rm rd mr dr hm hd i mo hi)
    (by
      unfold aS
      simp only [d4, d8, d16]
      rw [decide_eq_false (show ¬ ((mr.length : Nat) : Int) < ((mr.length : Nat) : Int) by omega)]
      rfl)
    (N := n) (by omega)
  exact this.trans (congrArg some (zG mr (jx up m d cy cm cd y dr) (fun z => Sum.inl (true, z)) _))
theorem Bc (n : Nat) (hn : 1000 < n) (s y : Int) (hy : cO y) (ms ds : List Int) (g l : Bool) (dg : List UInt8) (x q : Int) (m d : List UInt8) (k0 k1 k2 cy cm cd : Int) (up : Bool) (ry rm rd : Int) (mr dr : List Int) (hm : mt d mr) (hd : dr.length ≤ 31) :
    bh n (s, y, true, ms, ds, g, l, dg, x, q, m, d, k0, k1, k2, cy, cm, cd, up, ry, rm, rd, mr, dr) = (fK up m d cy cm cd mr dr y).elim (ob (ar n g l dg x q m d k0 k1 k2 (IntKind.wrap .i64 (y + s)) up ms ds) fun r => some (.inl (s, r.1, r.2, ms, ds, g, l, dg, x, q, m, d, k0, k1, k2, cy, cm, cd, up, ry, rm, rd, mr, dr))) (fun z => some (.inr (.inl (true, z)))) := by
  unfold bh
  simp only [d4, d8, d16, cond_true, ob, Cg n hn s y hy ms ds g l dg x q m d k0 k1 k2 cy cm cd up ry rm rd mr dr hm hd]
  cases fK up m d cy cm cd mr dr y <;> rfl
def hJ (up : Bool) (Y : Int → Prop) (F : Int → Option (Int × Int × Int)) (v : Int) : Option (Int × Int × Int) → Prop
  | some z => ∃ e, Y e ∧ Mk.bL up v e ∧ F e = some z ∧ ∀ e', Y e' → Mk.bL up v e' → ¬ Mk.bL up e e' → F e' = none
  | none => ∀ e, Y e → Mk.bL up v e → F e = none
theorem pc {X : Type} {step : X → Option (X ⊕ ((Bool × Int × Int × Int) ⊕ (Int × Int × Int)))} {st : Int → Bool → X} {F : Int → Option (Int × Int × Int)} {Y : Int → Prop} {up : Bool} {s lo hi : Int} {E : Int × Int × Int} {fy : Int → Option (Int × Bool)}
    (hs : s = if up then 1 else -1) (hY : ∀ e, Y e → lo ≤ e ∧ e ≤ hi) (h0 : -10000000000000000 ≤ lo) (h1 : hi ≤ 10000000000000000)
    (hstep : ∀ y, Y y → step (st y true) = (F y).elim (ob (fy (IntKind.wrap .i64 (y + s))) fun r => some (.inl (st r.1 r.2))) (fun z => some (.inr (.inl (true, z)))))
    (hend : ∀ y, step (st y false) = some (.inr (.inr E)))
    (hfy : ∀ v, -9223372036854775808 ≤ v ∧ v < 9223372036854775808 → ∃ w f, fy v = some (w, f) ∧ ot up Y v w f) :
    ∀ (r : Nat) (v y : Int) (f : Bool), ot up Y v y f → (f = true → (if up then hi - y else y - lo) < (r : Int)) → ∀ N, r < N →
      ∃ o, af step N (st y f) = some (o.elim (.inr E) (fun z => .inl (true, z))) ∧ hJ up Y F v o := by
  intro r
  induction r with
  | zero =>
    intro v y f hn hr N hN
    obtain ⟨N, rfl⟩ : ∃ q, N = q + 1 := ⟨N - 1, by omega⟩
    cases f with
    | true =>
      obtain ⟨a1, _, _⟩ := hn.1 rfl
      have := hY y a1
      have := hr rfl
      cases up <;> simp at this <;> omega
    | false =>
      refine ⟨none, by rw [af, hend]; rfl, fun e he ha => absurd ha (hn.2 rfl e he)⟩
  | succ r ih =>
    intro v y f hn hr N hN
    obtain ⟨N, rfl⟩ : ∃ q, N = q + 1 := ⟨N - 1, by omega⟩
    cases f with
    | false =>
      refine ⟨none, by rw [af, hend]; rfl, fun e he ha => absurd ha (hn.2 rfl e he)⟩
    | true =>
      obtain ⟨a1, a2, a3⟩ := hn.1 rfl
      have hb := hY y a1
      cases hF : F y with
      | some z =>
        refine ⟨some z, ?_, y, a1, a2, hF, fun e' h1 h2 h3 => absurd (a3 e' h1 h2) h3⟩
        rw [af, hstep y a1, hF]; rfl
      | none =>
        have hw : IntKind.wrap .i64 (y + s) = y + s := by
          have : -1 ≤ s ∧ s ≤ 1 := by rw [hs]; cases up <;> simp
          exact wrap_i64 _ (by omega) (by omega)
        obtain ⟨w, f', e1, e2⟩ := hfy (y + s) (by
          have : -1 ≤ s ∧ s ≤ 1 := by rw [hs]; cases up <;> simp
          omega)
        have hstep' : step (st y true) = some (.inl (st w f')) := by
          rw [hstep y a1, hF, hw]
          show ob (fy (y + s)) _ = _
          rw [e1]; rfl
        obtain ⟨o, i1, i2⟩ := ih (y + s) w f' e2 (fun hf => by
          obtain ⟨b1, b2, _⟩ := e2.1 hf
          have := hr rfl
          cases up
          · rw [bZ] at b2
            simp only [Bool.false_eq_true, if_false] at hs this ⊢
            omega
          · rw [aD] at b2
            simp only [if_true] at hs this ⊢
            omega) N (by omega)
        refine ⟨o, by rw [af, hstep']; exact i1, ?_⟩
        have split : ∀ e', Y e' → Mk.bL up v e' → e' = y ∨ Mk.bL up (y + s) e' := fun e' h1 h2 => by
          have h3 := a3 e' h1 h2
          cases up
          · rw [bZ] at h3 ⊢
            simp only [Bool.false_eq_true, if_false] at hs
            omega
          · rw [aD] at h3 ⊢
            simp only [if_true] at hs
            omega
        cases o with
        | none =>
          intro e he ha
          rcases split e he ha with rfl | h
          · exact hF
          · exact i2 e he h
        | some z =>
          obtain ⟨e, c1, c2, c3, c4⟩ := i2
          refine ⟨e, c1, ?_, c3, fun e' h1 h2 h3 => ?_⟩
          · cases up
            · rw [bZ] at c2 a2 ⊢
              simp only [Bool.false_eq_true, if_false] at hs
              omega
            · rw [aD] at c2 a2 ⊢
              simp only [if_true] at hs
              omega
          · rcases split e' h1 h2 with rfl | h
            · exact hF
            · exact c4 e' h1 h h3
theorem jX {g l : Bool} {dg : List UInt8} {x : Int} (hok : okY g l dg x 0) : ∃ lo hi : Int, (∀ e, inP g dg x 0 e → lo ≤ e ∧ e ≤ hi) ∧ hi - lo ≤ 10000 ∧ -10000000000000000 ≤ lo ∧ hi ≤ 10000000000000000 := by
  cases hX : hasX dg with
  | false =>
    have hin := wN hok hX
    by_cases hv : -10000000000000000 ≤ (if g then -((val dg x.toNat : Nat) : Int) else ((val dg x.toNat : Nat) : Int)) ∧ (if g then -((val dg x.toNat : Nat) : Int) else ((val dg x.toNat : Nat) : Int)) ≤ 10000000000000000
    · refine ⟨_, _, fun e he => ?_, ?_, hv.1, hv.2⟩
      · rw [(hin e).1 he]; exact ⟨Int.le_refl _, Int.le_refl _⟩
      · omega
    · refine ⟨0, 0, fun e he => ?_, by omega, by omega, by omega⟩
      exfalso
      have := (hin e).1 he
      unfold inP at he
      exact hv ⟨by rw [← this]; exact he.1, by rw [← this]; exact he.2.1⟩
  | true =>
    have hin := pV hok hX
    obtain ⟨_, _, _, hl, hd⟩ := ie hok hX
    refine ⟨if g then -9999 else 0, if g then 0 else 9999, fun e he => ?_, by cases g <;> simp, by cases g <;> simp, by cases g <;> simp⟩
    have h := ((hin e).1 he).1
    have := (Mk.io h).2.2.2.2
    rw [hl] at this
    have e4 : (10 : Int) ^ 4 = 10000 := by decide
    unfold wOf at this
    cases g
    · simp at this ⊢; omega
    · simp at this ⊢; omega
theorem jH {g : Bool} {dg : List UInt8} {x q e : Int} (h : inP g dg x q e) : cO e := ⟨h.1, h.2.1⟩
theorem l3 {g l : Bool} {dg : List UInt8} {x : Int} (hok : okY g l dg x 0) (m d : List UInt8) (k0 k1 k2 : Int) (cy cm cd : Int) (hcy : -9223372036854775808 ≤ cy ∧ cy < 9223372036854775808) (ms ds : List Int) (hm : mt d ms) (hd : ds.length ≤ 31) :
    ∃ o, aj 20000000 g l dg x 0 m d k0 k1 k2 cy cm cd true ms ds = some (o.elim (0, 0, 0, false) fun z => (z.1, z.2.1, z.2.2, true)) ∧ hJ true (inP g dg x 0) (fK true m d cy cm cd ms ds) cy o := by
  obtain ⟨lo, hi, hb, hw, hb0, hb1⟩ := jX hok
  obtain ⟨w, f, e1, e2⟩ := lJ hok m d k0 k1 k2 cy hcy true ms ds
  obtain ⟨o, i1, i2⟩ := pc (step := bc 20000000) (st := fun y f => (1, y, f, ms, ds, g, l, dg, x, 0, m, d, k0, k1, k2, cy, cm, cd, true, 0, 0, 0)) (F := fK true m d cy cm cd ms ds) (Y := inP g dg x 0) (up := true) (s := 1) (lo := lo) (hi := hi) (E := (0, 0, 0)) (fy := fun v => ar 20000000 g l dg x 0 m d k0 k1 k2 v true ms ds)
    rfl hb hb0 hb1
    (fun y hy => xT 20000000 (by omega) 1 y (jH hy) ms ds g l dg x 0 m d k0 k1 k2 cy cm cd true 0 0 0 hm hd)
    (fun y => rfl)
    (fun v hv => lJ hok m d k0 k1 k2 v hv true ms ds)
    10002 cy w f e2 (fun hf => by have := hb w (e2.1 hf).1; simp; omega) 20000000 (by omega)
  refine ⟨o, ?_, i2⟩
  unfold aj cS
  simp only [Bool.not_true, cond_false, ob, d4, d8, d16, e1]
  have i1' : af (bc 20000000) 20000000 (1, w, f, ms, ds, g, l, dg, x, 0, m, d, k0, k1, k2, cy, cm, cd, true, 0, 0, 0) = _ := i1
  rw [i1']
  cases o <;> rfl
theorem tH (m d : List UInt8) (cm cd : Int) {cy e : Int} (h : e ≠ cy) (ms ds : List Int) : fK true m d cy cm cd ms ds e = none ↔ (ms.flatMap fun mo => (ds.filter fun k => decide (k ≤ gj d e mo)).map fun k => (e, mo, k)) = [] := by
  have hne : (e == cy) = false := beq_eq_false_iff_ne.2 h
  unfold fK
  rw [List.findSome?_eq_none_iff, List.flatMap_eq_nil_iff]
  have : ∀ mo, jx true m d cy cm cd e ds mo = none ↔ ((ds.filter fun k => decide (k ≤ gj d e mo)).map fun k => (e, mo, k)) = [] := by
    intro mo
    unfold jx jO kr
    rw [hne]
    simp only [Bool.false_and, Bool.false_eq_true, if_false, Option.map_eq_none_iff, List.find?_eq_none, List.map_eq_nil_iff, List.filter_eq_nil_iff]
    constructor
    · intro h1 k hk
      have := h1 k hk
      unfold gV at this
      simpa using this
    · intro h1 k hk
      have := h1 k hk
      unfold gV
      simpa using this
  exact ⟨fun h1 mo hmo => (this mo).1 (h1 mo hmo), fun h1 mo hmo => (this mo).2 (h1 mo hmo)⟩
def hasF (g : Bool) (dg : List UInt8) (x : Int) (m d : List UInt8) : Prop := ∃ e, inP g dg x 0 e ∧ ed m d e ≠ []
open Classical in
noncomputable def chkF (g l : Bool) (dg : List UInt8) (x q : Int) (m d : List UInt8) (k0 k1 k2 : Int) : Int :=
  if chkD g l dg x q m d k0 k1 k2 = 0 ∧ d ≠ [] ∧ ¬ hasF g dg x m d then 8 else chkD g l dg x q m d k0 k1 k2
theorem n7 {g l : Bool} {dg : List UInt8} {x q : Int} {m d : List UInt8} {k0 k1 k2 : Int} (h : chkD g l dg x q m d k0 k1 k2 = 0) : okY g l dg x q ∧ (m = [] ∨ m.length = 2) ∧ (d = [] ∨ d.length = 2) ∧ (0 < q → m = []) ∧ (d ≠ [] → m ≠ [] ∧ sea m = 0) := by
  obtain ⟨c1, c2, c3, c4⟩ := vq h
  unfold yrD at c1
  by_cases hok : okY g l dg x q
  · rw [if_pos hok] at c1
    refine ⟨hok, ?_, ?_, fun hq => ?_, fun hd => ?_⟩
    · rcases c2 with h | h | h
      · exact .inl h
      · exact .inr (vP h).1
      · exact .inr (jZ (by omega) h).1
    · rcases c3 with h | ⟨_, _, h⟩
      · exact .inl h
      · exact .inr (jZ (by omega) h).1
    · unfold yrB at c1
      simp only [Bool.and_eq_true, Bool.not_eq_true'] at c1
      have := c1.1
      rw [decide_eq_true hq, Bool.true_and] at this
      by_cases hm : m = []
      · exact hm
      · rw [cb hm] at this; cases this
    · rcases c3 with h | ⟨h1, h2, _⟩
      · exact absurd h hd
      · exact ⟨h1, h2⟩
  · rw [if_neg hok] at c1; cases c1
theorem AW {g l : Bool} {dg : List UInt8} {x q : Int} (h : okY g l dg x q) : 0 ≤ q := (iZ h).2.2.1
theorem rG {m d : List UInt8} (h : d ≠ [] → m ≠ [] ∧ sea m = 0) : mt d (monI m) := by
  refine ⟨Nat.le_trans (qd m) (by omega), fun hd mo hmo => ?_⟩
  obtain ⟨h1, h2⟩ := h hd
  unfold monI at hmo
  rw [if_neg h1, if_neg (by omega)] at hmo
  obtain ⟨k, hk, rfl⟩ := List.mem_map.1 hmo
  have := List.mem_range'_1.1 (List.mem_filter.1 hk).1
  omega
theorem pp {g l : Bool} {dg : List UInt8} {x q : Int} {m d : List UInt8} {k0 k1 k2 : Int} (hml : m.length ≤ 18) (hdl : dg.length ≤ 100) (h0 : 0 ≤ k0) (h1 : 0 ≤ k1) (h2 : 0 ≤ k2) :
    df 20000000 g l dg x q m d k0 k1 k2 = some (chkF g l dg x q m d k0 k1 k2) := by
  unfold df chkF
  rw [xO 20000000 (by omega) g l dg x q m d k0 k1 k2 hml hdl h0 h1 h2]
  simp only [ob]
  by_cases hc : chkD g l dg x q m d k0 k1 k2 = 0
  · obtain ⟨hok, hm2, hd2, hq, hdm⟩ := n7 hc
    rw [hc]
    simp only [bne_self_eq_false, cond_false]
    by_cases hd : d = []
    · subst hd
      rw [if_neg (by simp)]; rfl
    · rw [cb hd, cond_false]
      have hq0 : q = 0 := by
        have := AW hok
        by_cases h : 0 < q
        · exact absurd (hq h) (hdm hd).1
        · omega
      subst hq0
      obtain ⟨s, e, hs⟩ := vI 20000000 (by omega) g l dg x 0 m d k0 k1 k2 hm2 hd2
      have hmo := rG hdm
      obtain ⟨o, o1, o2⟩ := l3 hok m d k0 k1 k2 (-9223372036854775808) 0 0 (by omega) (monI m) (dayI d) hmo (iX d)
      have hne : ∀ e, inP g dg x 0 e → e ≠ -9223372036854775808 := fun e he => by have := jH he; unfold cO at this; omega
      have key : (∃ z, o = some z) ↔ hasF g dg x m d := by
        constructor
        · rintro ⟨z, rfl⟩
          obtain ⟨e, c1, _, c3, _⟩ := o2
          refine ⟨e, c1, fun hn => ?_⟩
          have := (tH m d 0 0 (hne e c1) (monI m) (dayI d)).2 hn
          rw [this] at c3; cases c3
        · rintro ⟨e, c1, c2⟩
          cases o with
          | some z => exact ⟨z, rfl⟩
          | none =>
            have := o2 e c1 (by rw [aD]; have := jH c1; unfold cO at this; omega)
            exact absurd ((tH m d 0 0 (hne e c1) (monI m) (dayI d)).1 this) c2
      rw [e]
      by_cases hF : hasF g dg x m d
      · obtain ⟨z, rfl⟩ := key.2 hF
        rw [if_neg (fun h => h.2.2 hF)]
        rcases hs with rfl | rfl | rfl | rfl
        all_goals
          simp only [d4, d8, o1]
          rfl
      · have ho : o = none := by
          cases o with
          | none => rfl
          | some z => exact absurd (key.1 ⟨z, rfl⟩) hF
        subst ho
        rw [if_pos ⟨rfl, hd, hF⟩]
        rcases hs with rfl | rfl | rfl | rfl
        all_goals
          simp only [d4, d8, o1]
          rfl
  · rw [if_neg (fun h => hc h.1)]
    have : (chkD g l dg x q m d k0 k1 k2 != 0) = true := by simp [hc]
    rw [this]; rfl
theorem xJ (n : Nat) : ∀ (k : Nat) (a mid b : List Int), mid.length ≤ k → a.length = b.length → (a ++ mid ++ b).length ≤ 1000 → ∀ N, k < N →
    af (am n) N ((a.length : Int), ((a.length + mid.length : Nat) : Int) - 1, a ++ mid ++ b) = some (a ++ mid.reverse ++ b) := by
  intro k
  induction k with
  | zero =>
    intro a mid b hm hab hl N hN
    obtain ⟨N, rfl⟩ : ∃ q, N = q + 1 := ⟨N - 1, by omega⟩
    obtain rfl : mid = [] := List.eq_nil_of_length_eq_zero (by omega)
    have : am n ((a.length : Int), ((a.length + ([] : List Int).length : Nat) : Int) - 1, a ++ [] ++ b) = some (.inr (a ++ [] ++ b)) := by
      unfold am
      simp only []
      rw [decide_eq_false (by simp; omega)]; rfl
    rw [af, this]; rfl
  | succ k ih =>
    intro a mid b hm hab hl N hN
    obtain ⟨N, rfl⟩ : ∃ q, N = q + 1 := ⟨N - 1, by omega⟩
    by_cases h2 : mid.length < 2
    · have : am n ((a.length : Int), ((a.length + mid.length : Nat) : Int) - 1, a ++ mid ++ b) = some (.inr (a ++ mid ++ b)) := by
        unfold am
        simp only []
        rw [decide_eq_false (by omega)]; rfl
      have hr : mid.reverse = mid := by
        match mid, h2 with
        | [], _ => rfl
        | [_], _ => rfl
        | _ :: _ :: _, h => simp at h; omega
      rw [af, this, hr]
    · obtain ⟨x, M, z, rfl⟩ : ∃ x M z, mid = x :: (M ++ [z]) := by
        match mid, h2 with
        | [], h => exact absurd (by simp) h
        | [_], h => exact absurd (by simp) h
        | x :: y :: t, _ =>
          refine ⟨x, (y :: t).dropLast, (y :: t).getLast (by simp), ?_⟩
          rw [List.dropLast_concat_getLast]
      simp only [List.length_append, List.length_cons, List.length_nil] at hl hm
      have hj : ((a.length + (x :: (M ++ [z])).length : Nat) : Int) - 1 = ((a.length + (M.length + 1) : Nat) : Int) := by
        simp only [List.length_append, List.length_cons, List.length_nil]
        omega
      have hlen : (a ++ x :: (M ++ [z]) ++ b).length = a.length + (M.length + 2) + b.length := by
        simp only [List.length_append, List.length_cons, List.length_nil]
      have g1 : (a ++ x :: (M ++ [z]) ++ b)[a.length + (M.length + 1)]? = some z := by
        rw [List.append_assoc, List.getElem?_append_right (by omega), Nat.add_sub_cancel_left]
        simp
      have g2 : (a ++ x :: (M ++ [z]) ++ b)[a.length]? = some x := by
        rw [List.append_assoc, List.getElem?_append_right (by omega), Nat.sub_self]
        rfl
      have s1 : (a ++ x :: (M ++ [z]) ++ b).set a.length z = a ++ z :: (M ++ [z]) ++ b := by
        rw [List.append_assoc, List.set_append_right _ _ (Nat.le_refl _), Nat.sub_self, List.append_assoc]
        rfl
      have g3 : (a ++ z :: (M ++ [z]) ++ b)[a.length + (M.length + 1)]? = some z := by
        rw [List.append_assoc, List.getElem?_append_right (by omega), Nat.add_sub_cancel_left]
        simp
      have s2 : (a ++ z :: (M ++ [z]) ++ b).set (a.length + (M.length + 1)) x = (a ++ [z]) ++ M ++ ([x] ++ b) := by
        rw [List.append_assoc, List.set_append_right _ _ (by omega), Nat.add_sub_cancel_left]
        simp
      have hlen2 : (a ++ z :: (M ++ [z]) ++ b).length = a.length + (M.length + 2) + b.length := by
        simp only [List.length_append, List.length_cons, List.length_nil]
      have w1 : IntKind.wrap .i64 ((a.length : Int) + 1) = (((a ++ [z]).length : Nat) : Int) := by
        rw [wrap_i64 _ (by omega) (by omega)]; simp
      have w2 : IntKind.wrap .i64 (((a.length + (M.length + 1) : Nat) : Int) - 1) = (((a ++ [z]).length + M.length : Nat) : Int) - 1 := by
        rw [wrap_i64 _ (by omega) (by omega)]; simp; omega
      have step : am n ((a.length : Int), ((a.length + (x :: (M ++ [z])).length : Nat) : Int) - 1, a ++ x :: (M ++ [z]) ++ b) = some (.inl ((((a ++ [z]).length : Nat) : Int), (((a ++ [z]).length + M.length : Nat) : Int) - 1, (a ++ [z]) ++ M ++ ([x] ++ b))) := by
        rw [hj]
        unfold am
        simp only []
        rw [decide_eq_true (by omega), hlen, bv (show a.length + (M.length + 1) < _ by omega), bv (show a.length < _ by omega)]
        simp only [cond_true, ob, g1, g2, s1]
        rw [hlen2, bv (show a.length + (M.length + 1) < _ by omega)]
        simp only [g3, s2, w1, w2]
      rw [af, step]
      show af _ N _ = _
      rw [ih (a ++ [z]) M ([x] ++ b) (by omega) (by simp; omega) (by simp only [List.length_append, List.length_cons, List.length_nil]; omega) N (by omega)]
      simp
theorem zN (n : Nat) (l : List Int) (h : l.length ≤ 1000) (hn : 1000 < n) : bK n l = some l.reverse := by
  unfold bK
  have := xJ n l.length [] l [] (Nat.le_refl _) rfl (by simpa using h) n (by omega)
  simp only [List.nil_append, List.append_nil, List.length_nil, Nat.zero_add] at this
  rw [wrap_i64 _ (by omega) (by omega)]
  have h0 : af (am n) n (0, ((l.length : Nat) : Int) - 1, l) = some l.reverse := this
  rw [h0]; rfl
theorem tt (n : Nat) (l : List Int) (h0 : l ≠ []) (h : l.length ≤ 1000) : cj n l = some l := by
  unfold cj
  have hp := List.length_pos_iff.2 h0
  have b1 : Nat.blt 0 l.length = true := by
    rw [Nat.blt_eq]; exact hp
  have b2 : Nat.ble (0 + l.length) dw = true := Nat.ble_eq_true_of_le (by unfold dw; omega)
  rw [b1, b2]; rfl
theorem ow {g l : Bool} {dg : List UInt8} {x : Int} (hok : okY g l dg x 0) (m d : List UInt8) (k0 k1 k2 : Int) (cy cm cd : Int) (hcy : -9223372036854775808 ≤ cy ∧ cy < 9223372036854775808) (ms ds : List Int) (hm : mt d ms) (hd : ds.length ≤ 31) (hm0 : ms ≠ []) (hd0 : ds ≠ []) :
    ∃ o, aj 20000000 g l dg x 0 m d k0 k1 k2 cy cm cd false ms ds = some (o.elim (0, 0, 0, false) fun z => (z.1, z.2.1, z.2.2, true)) ∧ hJ false (inP g dg x 0) (fK false m d cy cm cd ms.reverse ds.reverse) cy o := by
  have hml := hm.1
  have hm' : mt d ms.reverse := ⟨by rw [List.length_reverse]; exact hml, fun h mo hmo => hm.2 h mo (List.mem_reverse.1 hmo)⟩
  have hd' : ds.reverse.length ≤ 31 := by rw [List.length_reverse]; exact hd
  obtain ⟨lo, hi, hb, hw, hb0, hb1⟩ := jX hok
  obtain ⟨w, f, e1, e2⟩ := lJ hok m d k0 k1 k2 cy hcy false ms ds
  obtain ⟨o, i1, i2⟩ := pc (step := bh 20000000) (st := fun y f => (-1, y, f, ms, ds, g, l, dg, x, 0, m, d, k0, k1, k2, cy, cm, cd, false, 0, 0, 0, ms.reverse, ds.reverse)) (F := fK false m d cy cm cd ms.reverse ds.reverse) (Y := inP g dg x 0) (up := false) (s := -1) (lo := lo) (hi := hi) (E := (0, 0, 0)) (fy := fun v => ar 20000000 g l dg x 0 m d k0 k1 k2 v false ms ds)
    rfl hb hb0 hb1
    (fun y hy => Bc 20000000 (by omega) (-1) y (jH hy) ms ds g l dg x 0 m d k0 k1 k2 cy cm cd false 0 0 0 ms.reverse ds.reverse hm' hd')
    (fun y => rfl)
    (fun v hv => lJ hok m d k0 k1 k2 v hv false ms ds)
    10002 cy w f e2 (fun hf => by have := hb w (e2.1 hf).1; simp; omega) 20000000 (by omega)
  refine ⟨o, ?_, i2⟩
  unfold aj cS
  simp only [Bool.not_false, cond_true, ob, d4, d8, d16, tt 20000000 ms hm0 (by omega), tt 20000000 ds hd0 (by omega), zN 20000000 ms (by omega) (by omega), zN 20000000 ds (by omega) (by omega), e1]
  have i1' : af (bh 20000000) 20000000 (-1, w, f, ms, ds, g, l, dg, x, 0, m, d, k0, k1, k2, cy, cm, cd, false, 0, 0, 0, ms.reverse, ds.reverse) = _ := i1
  rw [i1']
  cases o <;> rfl
noncomputable def errF (g l : Bool) (dg : List UInt8) (x q : Int) (m d : List UInt8) (k0 k1 k2 : Int) : Int :=
  if chkF g l dg x q m d k0 k1 k2 = 0 then (if 0 < q then 1 else 0) else chkF g l dg x q m d k0 k1 k2
theorem mv {g l : Bool} {dg : List UInt8} {x q : Int} {m d : List UInt8} {k0 k1 k2 : Int} (hml : m.length ≤ 18) (hdl : dg.length ≤ 100) (h0 : 0 ≤ k0) (h1 : 0 ≤ k1) (h2 : 0 ≤ k2) :
    cZ 20000000 g l dg x q m d k0 k1 k2 = some (errF g l dg x q m d k0 k1 k2) := by
  unfold cZ errF
  rw [pp hml hdl h0 h1 h2]
  simp only [ob]
  by_cases hc : chkF g l dg x q m d k0 k1 k2 = 0
  · rw [hc, if_pos rfl]
    simp only [bne_self_eq_false, cond_false]
    by_cases hq : 0 < q
    · rw [if_pos hq, decide_eq_true (show q > 0 from hq)]; rfl
    · rw [if_neg hq, decide_eq_false (show ¬ q > 0 from hq)]; rfl
  · rw [if_neg hc]
    have : (chkF g l dg x q m d k0 k1 k2 != 0) = true := by simp [hc]
    rw [this]; rfl
structure RightF (g l : Bool) (dg : List UInt8) (x : Int) (m d : List UInt8) : Prop where
  ok : okY g l dg x 0
  m2 : m = [] ∨ m.length = 2
  d2 : d = [] ∨ d.length = 2
  mos : mt d (monI m)
  mne : monI m ≠ []
  dne : dayI d ≠ []
  dm : d ≠ [] → m ≠ []
theorem z6 {s : List UInt8} {g : Nat} (h : di s g = true) : jL (fitN s g) ≠ [] := by
  unfold di at h
  obtain ⟨i, hi, ha⟩ := List.any_eq_true.1 h
  intro e
  have : fitN s g = [] := List.map_eq_nil_iff.1 e
  unfold fitN at this
  rw [List.filter_eq_nil_iff] at this
  exact this (i + 1) (List.mem_range'_1.2 (by have := List.mem_range.1 hi; omega)) ha
theorem xR {g l : Bool} {dg : List UInt8} {x q : Int} {m d : List UInt8} {k0 k1 k2 : Int} (h : chkD g l dg x q m d k0 k1 k2 = 0) (hq : ¬ 0 < q) : q = 0 ∧ RightF g l dg x m d := by
  obtain ⟨hok, hm2, hd2, _, hdm⟩ := n7 h
  obtain ⟨c1, c2, c3, c4⟩ := vq h
  have hq0 : q = 0 := by have := AW hok; omega
  subst hq0
  refine ⟨rfl, hok, hm2, hd2, rG hdm, ?_, ?_, fun h => (hdm h).1⟩
  · unfold monI
    split
    · simp
    · split
      · simp
      · rename_i h1 h2
        rcases c2 with h | h | h
        · exact absurd h h1
        · exact absurd h h2
        · exact z6 h
  · unfold dayI
    split
    · simp
    · rename_i h1
      rcases c3 with h | ⟨_, _, h⟩
      · exact absurd h h1
      · exact z6 h
theorem wh {g l : Bool} {dg : List UInt8} {x q : Int} {m d : List UInt8} {k0 k1 k2 : Int} (h : chkF g l dg x q m d k0 k1 k2 = 0) : chkD g l dg x q m d k0 k1 k2 = 0 := by
  unfold chkF at h
  split at h
  · cases h
  · exact h
theorem ci {g l : Bool} {dg : List UInt8} {x q : Int} {m d : List UInt8} {k0 k1 k2 : Int} (h : errF g l dg x q m d k0 k1 k2 = 0) : q = 0 ∧ RightF g l dg x m d := by
  unfold errF at h
  by_cases hc : chkF g l dg x q m d k0 k1 k2 = 0
  · rw [if_pos hc] at h
    by_cases hq : 0 < q
    · rw [if_pos hq] at h; cases h
    · exact xR (wh hc) hq
  · rw [if_neg hc] at h; exact absurd h hc
theorem bne0 {e : Int} (h : e ≠ 0) : (e != 0) = true := by simp [h]
section
variable {g l : Bool} {dg : List UInt8} {x q : Int} {m d : List UInt8} {k0 k1 k2 : Int} (hml : m.length ≤ 18) (hdl : dg.length ≤ 100) (h0 : 0 ≤ k0) (h1 : 0 ≤ k1) (h2 : 0 ≤ k2)
include hml hdl h0 h1 h2
theorem so (cy cm cd : Int) (hcy : -9223372036854775808 ≤ cy ∧ cy < 9223372036854775808) :
    (errF g l dg x q m d k0 k1 k2 ≠ 0 ∧ aX 20000000 g l dg x q m d k0 k1 k2 cy cm cd = some (0, 0, 0, false, errF g l dg x q m d k0 k1 k2)) ∨
    (errF g l dg x q m d k0 k1 k2 = 0 ∧ ∃ o, aX 20000000 g l dg x q m d k0 k1 k2 cy cm cd = some (o.elim (0, 0, 0, false, 0) fun z => (z.1, z.2.1, z.2.2, true, 0)) ∧ hJ true (inP g dg x 0) (fK true m d cy cm cd (monI m) (dayI d)) cy o) := by
  unfold aX
  rw [mv hml hdl h0 h1 h2]
  simp only [ob]
  by_cases he : errF g l dg x q m d k0 k1 k2 = 0
  · refine .inr ⟨he, ?_⟩
    obtain ⟨rfl, R⟩ := ci he
    obtain ⟨s, e, hs⟩ := vI 20000000 (by omega) g l dg x 0 m d k0 k1 k2 R.m2 R.d2
    obtain ⟨o, o1, o2⟩ := l3 R.ok m d k0 k1 k2 cy cm cd hcy (monI m) (dayI d) R.mos (iX d)
    refine ⟨o, ?_, o2⟩
    rw [he, e]
    rcases hs with rfl | rfl | rfl | rfl
    all_goals
      simp only [d4, d8, bne_self_eq_false, cond_false, o1]
      cases o <;> rfl
  · exact .inl ⟨he, by rw [bne0 he]; rfl⟩
theorem Ak (cy cm cd : Int) (hcy : -9223372036854775808 ≤ cy ∧ cy < 9223372036854775808) :
    (errF g l dg x q m d k0 k1 k2 ≠ 0 ∧ cu 20000000 g l dg x q m d k0 k1 k2 cy cm cd = some (0, 0, 0, false, errF g l dg x q m d k0 k1 k2)) ∨
    (errF g l dg x q m d k0 k1 k2 = 0 ∧ ∃ o, cu 20000000 g l dg x q m d k0 k1 k2 cy cm cd = some (o.elim (0, 0, 0, false, 0) fun z => (z.1, z.2.1, z.2.2, true, 0)) ∧ hJ false (inP g dg x 0) (fK false m d cy cm cd (monI m).reverse (dayI d).reverse) cy o) := by
  unfold cu
  rw [mv hml hdl h0 h1 h2]
  simp only [ob]
  by_cases he : errF g l dg x q m d k0 k1 k2 = 0
  · refine .inr ⟨he, ?_⟩
    obtain ⟨rfl, R⟩ := ci he
    obtain ⟨s, e, hs⟩ := vI 20000000 (by omega) g l dg x 0 m d k0 k1 k2 R.m2 R.d2
    obtain ⟨o, o1, o2⟩ := ow R.ok m d k0 k1 k2 cy cm cd hcy (monI m) (dayI d) R.mos (iX d) R.mne R.dne
    refine ⟨o, ?_, o2⟩
    rw [he, e]
    rcases hs with rfl | rfl | rfl | rfl
    all_goals
      simp only [d4, d8, bne_self_eq_false, cond_false, o1]
      cases o <;> rfl
  · exact .inl ⟨he, by rw [bne0 he]; rfl⟩
theorem xw (cy cm cd : Int) (hcy : -9223372036854775808 ≤ cy ∧ cy < 9223372036854775808) (up : Bool) :
    (errF g l dg x q m d k0 k1 k2 ≠ 0 ∧ eT 20000000 g l dg x q m d k0 k1 k2 cy cm cd up = some (0, 0, 0, errF g l dg x q m d k0 k1 k2)) ∨
    (errF g l dg x q m d k0 k1 k2 = 0 ∧ ∃ o, eT 20000000 g l dg x q m d k0 k1 k2 cy cm cd up = some (o.elim (0, 0, 0, 0) fun z => (z.1, z.2.1, z.2.2, 0)) ∧ hJ up (inP g dg x 0) (fK up m d cy cm cd (cond up (monI m) (monI m).reverse) (cond up (dayI d) (dayI d).reverse)) cy o) := by
  unfold eT
  rw [mv hml hdl h0 h1 h2]
  simp only [ob]
  by_cases he : errF g l dg x q m d k0 k1 k2 = 0
  · refine .inr ⟨he, ?_⟩
    obtain ⟨rfl, R⟩ := ci he
    obtain ⟨s, e, hs⟩ := vI 20000000 (by omega) g l dg x 0 m d k0 k1 k2 R.m2 R.d2
    have : ∃ o, aj 20000000 g l dg x 0 m d k0 k1 k2 cy cm cd up (monI m) (dayI d) = some (o.elim (0, 0, 0, false) fun z => (z.1, z.2.1, z.2.2, true)) ∧ hJ up (inP g dg x 0) (fK up m d cy cm cd (cond up (monI m) (monI m).reverse) (cond up (dayI d) (dayI d).reverse)) cy o := by
      cases up
      · exact ow R.ok m d k0 k1 k2 cy cm cd hcy (monI m) (dayI d) R.mos (iX d) R.mne R.dne
      · exact l3 R.ok m d k0 k1 k2 cy cm cd hcy (monI m) (dayI d) R.mos (iX d)
    obtain ⟨o, o1, o2⟩ := this
    refine ⟨o, ?_, o2⟩
    rw [he, e]
    rcases hs with rfl | rfl | rfl | rfl
    all_goals
      simp only [d4, d8, bne_self_eq_false, cond_false, o1]
      cases o <;> rfl
  · exact .inl ⟨he, by rw [bne0 he]; rfl⟩
theorem xV : ∃ a b c, bU 20000000 g l dg x q m d k0 k1 k2 = some (a, b, c, errF g l dg x q m d k0 k1 k2) := by
  unfold bU
  rcases xw hml hdl h0 h1 h2 (-9223372036854775808) 0 0 (by omega) true with ⟨_, h⟩ | ⟨he, o, h, _⟩
  · rw [h]; exact ⟨_, _, _, rfl⟩
  · rw [h, he]; cases o <;> exact ⟨_, _, _, rfl⟩
end
theorem s7 {X Z A : Type} {step : X → Option (X ⊕ Z)} {f : Nat → Int → X} {y : Int → Z} {L : List A} {G : A → Int} {c s0 : Int} (hG : ∀ a ∈ L, 0 ≤ G a ∧ G a ≤ c)
    (h : ∀ (i : Nat) (a : A) (s : Int), L[i]? = some a → s0 ≤ s → s ≤ s0 + c * (i : Int) → step (f i s) = some (.inl (f (i + 1) (s + G a)))) (he : ∀ s, step (f L.length s) = some (.inr (y s))) {N : Nat} (hN : L.length < N) :
    af step N (f 0 s0) = some (y (s0 + (L.map G).sum)) := by
  have go : ∀ (r i : Nat) (s : Int), i + r = L.length → s0 ≤ s → s ≤ s0 + c * (i : Int) → ∀ N, r < N → af step N (f i s) = some (y (s + ((L.drop i).map G).sum)) := by
    intro r
    induction r with
    | zero =>
      intro i s hi h1 h2 N hN
      obtain ⟨N, rfl⟩ : ∃ q, N = q + 1 := ⟨N - 1, by omega⟩
      obtain rfl : i = L.length := by omega
      rw [af, he]
      simp
    | succ r ih =>
      intro i s hi h1 h2 N hN
      obtain ⟨N, rfl⟩ : ∃ q, N = q + 1 := ⟨N - 1, by omega⟩
      have hb : L[i]? = some L[i] := List.getElem?_eq_getElem (by omega)
      have hg := hG L[i] (List.getElem_mem _)
      rw [af, h i L[i] s hb h1 h2]
      show af step N _ = _
      have e1 : c * ((i + 1 : Nat) : Int) = c * (i : Int) + c := by rw [Int.natCast_add, Int.mul_add]; simp
      rw [ih (i + 1) _ (by omega) (by omega) (by rw [e1]; omega) N (by omega), List.drop_eq_getElem_cons (show i < L.length by omega), List.map_cons, List.sum_cons, Int.add_assoc]
  have := go L.length 0 s0 (by omega) (Int.le_refl _) (by simp) N hN
  simpa using this
def tot (Y : Int → Prop) [DecidablePred Y] (G : Int → Int) : Nat → Int → Int
  | 0, _ => 0
  | r + 1, v => (if Y v then G v else 0) + tot Y G r (v + 1)
theorem pQ {Y : Int → Prop} [DecidablePred Y] {G : Int → Int} : ∀ (r : Nat) (v : Int), (∀ e, v ≤ e → ¬ Y e) → tot Y G r v = 0
  | 0, _, _ => rfl
  | r + 1, v, h => by
    rw [tot, if_neg (h v (Int.le_refl _)), pQ r (v + 1) (fun e he => h e (by omega))]; rfl
theorem ui {Y : Int → Prop} [DecidablePred Y] {G : Int → Int} : ∀ (k r : Nat) (v : Int), (∀ e, v ≤ e → e < v + (k : Int) → ¬ Y e) → k ≤ r → tot Y G r v = tot Y G (r - k) (v + (k : Int))
  | 0, r, v, _, _ => by simp
  | k + 1, r, v, h, hr => by
    obtain ⟨r, rfl⟩ : ∃ q, r = q + 1 := ⟨r - 1, by omega⟩
    rw [tot, if_neg (h v (Int.le_refl _) (by omega)), ui k r (v + 1) (fun e h1 h2 => h e (by omega) (by omega)) (by omega)]
    rw [show r + 1 - (k + 1) = r - k by omega, show v + 1 + (k : Int) = v + ((k + 1 : Nat) : Int) by omega, Int.zero_add]
theorem wX {X : Type} {step : X → Option (X ⊕ Int)} {st : Int → Int → Bool → X} {G : Int → Int} {Y : Int → Prop} [DecidablePred Y] {hi lo : Int} {fy : Int → Option (Int × Bool)}
    (hY : ∀ e, Y e → lo ≤ e ∧ e ≤ hi) (h0 : -10000000000000000 ≤ lo) (h1 : hi ≤ 10000000000000000) (hG : ∀ e, Y e → 0 ≤ G e ∧ G e ≤ 1000)
    (hstep : ∀ a y, Y y → 0 ≤ a → a ≤ 100000000000 → step (st a y true) = ob (fy (IntKind.wrap .i64 (y + 1))) fun r => some (.inl (st (a + G y) r.1 r.2)))
    (hend : ∀ a y, step (st a y false) = some (.inr a))
    (hfy : ∀ v, -9223372036854775808 ≤ v ∧ v < 9223372036854775808 → ∃ w f, fy v = some (w, f) ∧ ot true Y v w f) :
    ∀ (R r : Nat) (a v y : Int) (f : Bool), r ≤ R → ot true Y v y f → hi - v < (r : Int) → 0 ≤ a → a + 1000 * (R : Int) ≤ 100000000000 → ∀ N, r < N →
      af step N (st a y f) = some (a + tot Y G r v) := by
  intro R
  induction R with
  | zero =>
    intro r a v y f hr hn hv ha hb N hN
    obtain ⟨N, rfl⟩ : ∃ q, N = q + 1 := ⟨N - 1, by omega⟩
    obtain rfl : r = 0 := by omega
    cases f with
    | false => rw [af, hend, pQ 0 v (fun e he h => hn.2 rfl e h he)]; simp
    | true =>
      obtain ⟨a1, a2, _⟩ := hn.1 rfl
      have := hY y a1
      rw [aD] at a2
      omega
  | succ R ih =>
    intro r a v y f hr hn hv ha hb N hN
    obtain ⟨N, rfl⟩ : ∃ q, N = q + 1 := ⟨N - 1, by omega⟩
    cases f with
    | false => rw [af, hend, pQ r v (fun e he h => hn.2 rfl e h he)]; simp
    | true =>
      obtain ⟨a1, a2, a3⟩ := hn.1 rfl
      have hyb := hY y a1
      rw [aD] at a2
      have hg := hG y a1
      obtain ⟨w, f', e1, e2⟩ := hfy (y + 1) (by omega)
      have e3 : step (st a y true) = some (.inl (st (a + G y) w f')) := by
        rw [hstep a y a1 ha (by omega), wrap_i64 (y + 1) (by omega) (by omega), e1]; rfl
      have hk : tot Y G r v = tot Y G (r - (y - v).toNat) (v + (((y - v).toNat : Nat) : Int)) := ui (y - v).toNat r v (fun e h1 h2 h3 => by
        have := a3 e h3 (by rw [aD]; exact h1)
        rw [aD] at this
        omega) (by omega)
      rw [show v + (((y - v).toNat : Nat) : Int) = y by omega] at hk
      obtain ⟨r', hr'⟩ : ∃ q, r - (y - v).toNat = q + 1 := ⟨r - (y - v).toNat - 1, by omega⟩
      rw [hr', tot, if_pos a1] at hk
      rw [af, e3]
      show af step N _ = _
      rw [ih r' (a + G y) (y + 1) w f' (by omega) e2 (by omega) (by omega) (by omega) N (by omega), hk, Int.add_assoc]
theorem yT {A : Type} (L : List A) (p : A → Bool) : (L.map fun k => if p k then (1 : Int) else 0).sum = ((L.filter p).length : Int) := by
  induction L with
  | nil => rfl
  | cons a L ih =>
    rw [List.map_cons, List.sum_cons, ih]
    by_cases h : p a = true
    · rw [if_pos h, List.filter_cons_of_pos h, List.length_cons]; omega
    · rw [if_neg h, List.filter_cons_of_neg h]; omega
theorem yP {A B : Type} (L : List A) (F : A → List B) : (L.map fun a => ((F a).length : Int)).sum = ((L.flatMap F).length : Int) := by
  induction L with
  | nil => rfl
  | cons a L ih => rw [List.map_cons, List.sum_cons, ih, List.flatMap_cons, List.length_append]; omega
theorem Dq (n : Nat) (hn : 100 < n) (s0 y most lm im : Int) (ms ds : List Int) (g l : Bool) (dg : List UInt8) (x q : Int) (m d : List UInt8) (k0 k1 k2 : Int) (h0 : 0 ≤ s0) (h1 : s0 ≤ 1000000000000) (hd : ds.length ≤ 31) :
    af (cD n) n (s0, y, most, lm, im, ((ds.length : Nat) : Int), 0, ms, ds, g, l, dg, x, q, m, d, k0, k1, k2) = some (s0 + (((ds.filter fun k => decide (k ≤ most)).length : Nat) : Int), y, lm, im, ms, ds, g, l, dg, x, q, m, d, k0, k1, k2) := by
  have := s7 (step := cD n) (f := fun i s => (s, y, most, lm, im, ((ds.length : Nat) : Int), (i : Int), ms, ds, g, l, dg, x, q, m, d, k0, k1, k2)) (y := fun s => (s, y, lm, im, ms, ds, g, l, dg, x, q, m, d, k0, k1, k2)) (L := ds) (G := fun k => if decide (k ≤ most) = true then 1 else 0) (c := 1) (s0 := s0)
    (fun a _ => by by_cases h : decide (a ≤ most) = true <;> simp [h])
    (fun i k s hi a1 a2 => by
      have hil : i < ds.length := (List.getElem?_eq_some_iff.1 hi).1
      have w1 : IntKind.wrap .i64 ((i : Int) + 1) = ((i + 1 : Nat) : Int) := by rw [wrap_i64 _ (by omega) (by omega)]; omega
      have w2 : IntKind.wrap .i64 (s + 1) = s + 1 := wrap_i64 _ (by omega) (by omega)
      unfold cD fh
      simp only [d4, d8, d16, bv hil, hi, ob, w1]
      rw [decide_eq_true (show (i : Int) < ((ds.length : Nat) : Int) by omega)]
      cases hk : decide (k ≤ most)
      · simp [w1]
      · simp [w1, w2])
    (fun s => by
      unfold cD
      simp only [d4, d8, d16]
      rw [decide_eq_false (show ¬ ((ds.length : Nat) : Int) < ((ds.length : Nat) : Int) by omega)]
      rfl)
    (N := n) (by omega)
  rw [yT ds (fun k => decide (k ≤ most))] at this
  exact this
theorem CH (n : Nat) (hn : 1000 < n) (s0 y : Int) (hy : cO y) (ms ds : List Int) (g l : Bool) (dg : List UInt8) (x q : Int) (m d : List UInt8) (k0 k1 k2 : Int) (h0 : 0 ≤ s0) (h1 : s0 ≤ 100000000000) (hd : ds.length ≤ 31) (hm : mt d ms) :
    af (cA n) n (s0, y, ((ms.length : Nat) : Int), 0, ms, ds, g, l, dg, x, q, m, d, k0, k1, k2) = some (s0 + ((((ms.flatMap fun mo => (ds.filter fun k => decide (k ≤ gj d y mo))).length : Nat)) : Int), y, ms, ds, g, l, dg, x, q, m, d, k0, k1, k2) := by
  have hml := hm.1
  have hc : ∀ a : Int, (((ds.filter fun k => decide (k ≤ gj d y a)).length : Nat) : Int) ≤ 31 := fun a => by
    have := List.length_filter_le (fun k => decide (k ≤ gj d y a)) ds
    omega
  have := s7 (step := cA n) (f := fun i s => (s, y, ((ms.length : Nat) : Int), (i : Int), ms, ds, g, l, dg, x, q, m, d, k0, k1, k2)) (y := fun s => (s, y, ms, ds, g, l, dg, x, q, m, d, k0, k1, k2)) (L := ms) (G := fun mo => (((ds.filter fun k => decide (k ≤ gj d y mo)).length : Nat) : Int)) (c := 31) (s0 := s0)
    (fun a _ => ⟨by omega, hc a⟩)
    (fun i mo s hi a1 a2 => by
      have hil : i < ms.length := (List.getElem?_eq_some_iff.1 hi).1
      have w1 : IntKind.wrap .i64 ((i : Int) + 1) = ((i + 1 : Nat) : Int) := by rw [wrap_i64 _ (by omega) (by omega)]; omega
      unfold cA
      simp only [d4, d8, d16, bv hil, hi, ob, nO n g l dg x q m d k0 k1 k2 hy (fun h => hm.2 h mo (List.mem_of_getElem? hi)), Dq n (by omega) s y (gj d y mo) _ _ ms ds g l dg x q m d k0 k1 k2 (by omega) (by omega) hd]
      rw [decide_eq_true (show (i : Int) < ((ms.length : Nat) : Int) by omega)]
      simp only [cond_true, w1])
    (fun s => by
      unfold cA
      simp only [d4, d8, d16]
      rw [decide_eq_false (show ¬ ((ms.length : Nat) : Int) < ((ms.length : Nat) : Int) by omega)]
      rfl)
    (N := n) (by omega)
  rw [yP ms (fun mo => ds.filter fun k => decide (k ≤ gj d y mo))] at this
  exact this
theorem yu (m d : List UInt8) (y : Int) : ((monI m).flatMap fun mo => (dayI d).filter fun k => decide (k ≤ gj d y mo)).length = (ed m d y).length := by
  unfold ed hS
  induction monI m with
  | nil => rfl
  | cons a L ih => rw [List.flatMap_cons, List.flatMap_cons, List.length_append, List.length_append, ih, List.length_map]
theorem ja (m d : List UInt8) (y : Int) : (ed m d y).length ≤ 1000 := by
  have h1 := qd m
  unfold ed
  have : ∀ L : List Int, (L.flatMap (hS d y)).length ≤ 31 * L.length := by
    intro L
    induction L with
    | nil => simp
    | cons a L ih =>
      have := oS d y a
      rw [List.flatMap_cons, List.length_append, List.length_cons]
      omega
  have := this (monI m)
  omega
section
variable {g l : Bool} {dg : List UInt8} {x q : Int} {m d : List UInt8} {k0 k1 k2 : Int} (hml : m.length ≤ 18) (hdl : dg.length ≤ 100) (h0 : 0 ≤ k0) (h1 : 0 ≤ k1) (h2 : 0 ≤ k2)
include hml hdl h0 h1 h2
theorem ub : (errF g l dg x q m d k0 k1 k2 ≠ 0 ∧ aV 20000000 g l dg x q m d k0 k1 k2 = some (0, errF g l dg x q m d k0 k1 k2)) ∨
    (errF g l dg x q m d k0 k1 k2 = 0 ∧ (d = [] ∧ g = false ∧ hasX dg = true) ∧ aV 20000000 g l dg x q m d k0 k1 k2 = some (IntKind.wrap .i64 (10 ^ Mk.cnt dg * (((monI m).length : Nat) : Int)), 0)) ∨
    (errF g l dg x q m d k0 k1 k2 = 0 ∧ ¬ (d = [] ∧ g = false ∧ hasX dg = true) ∧ ∃ lo hi : Int, (∀ e, inP g dg x 0 e → lo ≤ e ∧ e ≤ hi) ∧ hi - lo ≤ 10000 ∧ aV 20000000 g l dg x q m d k0 k1 k2 = some (tot (inP g dg x 0) (fun y => (((ed m d y).length : Nat) : Int)) (hi - lo + 1).toNat lo, 0)) := by
  unfold aV
  rw [mv hml hdl h0 h1 h2]
  simp only [ob]
  by_cases he : errF g l dg x q m d k0 k1 k2 = 0
  · right
    obtain ⟨rfl, R⟩ := ci he
    have hj5 : ef 20000000 g l dg x 0 m d k0 k1 k2 = some (g, l, dg, x, 0, m, d, k0, k1, k2, monI m, dayI d, g, l, dg, x, 0, m, d, k0, k1, k2) := by
      obtain ⟨s, e, hs⟩ := vI 20000000 (by omega) g l dg x 0 m d k0 k1 k2 R.m2 R.d2
      unfold ef
      rw [e]
      rcases hs with rfl | rfl | rfl | rfl <;> rfl
    have hj6 : en 20000000 g l dg x 0 m d k0 k1 k2 (monI m) (dayI d) g l dg x 0 m d k0 k1 k2 = some ((d == ([] : List UInt8)) && (!g && hasX dg), g, l, dg, x, 0, m, d, k0, k1, k2, monI m, dayI d, g, l, dg, x, 0, m, d, k0, k1, k2) := by
      unfold en
      rw [jJ]
      cases (d == ([] : List UInt8)) <;> cases g <;> rfl
    rw [he]
    simp only [bne_self_eq_false, cond_false, hj5, d4, d8, d16, hj6]
    by_cases hb : d = [] ∧ g = false ∧ hasX dg = true
    · refine .inl ⟨trivial, hb, ?_⟩
      obtain ⟨rfl, rfl, hX⟩ := hb
      obtain ⟨_, _, _, hl, hd⟩ := ie R.ok hX
      rw [hX, Mk.xX (qo hl hd)]
      rfl
    · refine .inr ⟨trivial, hb, ?_⟩
      have hb' : ((d == ([] : List UInt8)) && (!g && hasX dg)) = false := by
        by_cases hd : d = []
        · subst hd
          cases g
          · cases hX : hasX dg
            · rfl
            · exact absurd ⟨rfl, rfl, hX⟩ hb
          · rfl
        · rw [cb hd]; rfl
      rw [hb', cond_false]
      obtain ⟨lo, hi, hb1, hw, hb0, hb2⟩ := jX R.ok
      refine ⟨lo, hi, hb1, hw, ?_⟩
      obtain ⟨w, f, e1, e2⟩ := lJ R.ok m d k0 k1 k2 (-9223372036854775808) (by omega) true (monI m) (dayI d)
      have e2' : ot true (inP g dg x 0) lo w f := by
        refine ⟨fun hf => ?_, fun hf e h1 _ => e2.2 hf e h1 (by rw [aD]; have := hb1 e h1; omega)⟩
        obtain ⟨a1, a2, a3⟩ := e2.1 hf
        refine ⟨a1, by rw [aD]; exact (hb1 w a1).1, fun e h1 _ => a3 e h1 (by rw [aD]; have := hb1 e h1; omega)⟩
      have hs := wX (step := eg 20000000) (st := fun a y f => (a, y, f, monI m, dayI d, g, l, dg, x, 0, m, d, k0, k1, k2)) (G := fun y => (((ed m d y).length : Nat) : Int)) (Y := inP g dg x 0) (hi := hi) (lo := lo) (fy := fun v => ar 20000000 g l dg x 0 m d k0 k1 k2 v true (monI m) (dayI d))
        hb1 hb0 hb2 (fun e _ => ⟨by omega, by have := ja m d e; omega⟩)
        (fun a y hy ha hb => by
          unfold eg
          simp only [d4, d8, d16, cond_true]
          rw [CH 20000000 (by omega) a y (jH hy) (monI m) (dayI d) g l dg x 0 m d k0 k1 k2 ha hb (iX d) R.mos, yu]
          rfl)
        (fun a y => rfl)
        (fun v hv => lJ R.ok m d k0 k1 k2 v hv true (monI m) (dayI d))
        10001 (hi - lo + 1).toNat 0 lo w f (by omega) e2' (by omega) (by omega) (by omega) 20000000 (by omega)
      rw [e1]
      simp only [hs, Int.zero_add]
  · exact .inl ⟨he, by rw [bne0 he]; rfl⟩
theorem qE : ∃ v, aV 20000000 g l dg x q m d k0 k1 k2 = some (v, errF g l dg x q m d k0 k1 k2) := by
  rcases ub hml hdl h0 h1 h2 with ⟨_, h⟩ | ⟨he, _, h⟩ | ⟨he, _, lo, hi, _, _, h⟩
  · exact ⟨_, h⟩
  · exact ⟨_, by rw [h, he]⟩
  · exact ⟨_, by rw [h, he]⟩
end
def cmpC (k : Nat) (a b : Int × Int × Int) : Int :=
  if a.1 < b.1 then -1 else if a.1 > b.1 then 1 else if k < 2 then 0 else
  if a.2.1 < b.2.1 then -1 else if a.2.1 > b.2.1 then 1 else if k < 3 then 0 else
  if a.2.2 < b.2.2 then -1 else if a.2.2 > b.2.2 then 1 else 0
theorem sQ {k : Nat} {a b : Int × Int × Int} : cmpC k a b = 0 ↔ a.1 = b.1 ∧ (¬ k < 2 → a.2.1 = b.2.1 ∧ (¬ k < 3 → a.2.2 = b.2.2)) := by
  unfold cmpC
  constructor
  · intro h
    split at h
    · cases h
    · split at h
      · cases h
      · refine ⟨by omega, fun hk => ?_⟩
        rw [if_neg hk] at h
        split at h
        · cases h
        · split at h
          · cases h
          · refine ⟨by omega, fun hk3 => ?_⟩
            rw [if_neg hk3] at h
            split at h
            · cases h
            · split at h
              · cases h
              · omega
  · rintro ⟨h1, h2⟩
    rw [if_neg (by omega), if_neg (by omega)]
    by_cases hk : k < 2
    · rw [if_pos hk]
    · obtain ⟨h3, h4⟩ := h2 hk
      rw [if_neg hk, if_neg (by omega), if_neg (by omega)]
      by_cases hk3 : k < 3
      · rw [if_pos hk3]
      · have h5 := h4 hk3
        rw [if_neg hk3, if_neg (by omega), if_neg (by omega)]
theorem zg (n : Nat) (g l : Bool) (dg : List UInt8) (x q : Int) (m d : List UInt8) (k0 k1 k2 : Int) (A B : List Int) (i : Nat) {a b : Int} (ha : A[i]? = some a) (hb : B[i]? = some b) (hi : i < 3) :
    aE n ((i : Int), g, l, dg, x, q, m, d, k0, k1, k2, A, B) = some (if i < aB m d then (if a < b then .inr (.inl (-1)) else if a > b then .inr (.inl 1) else .inl (((i + 1 : Nat) : Int), g, l, dg, x, q, m, d, k0, k1, k2, A, B)) else .inr (.inr ())) := by
  have w1 : IntKind.wrap .i64 ((i : Int) + 1) = ((i + 1 : Nat) : Int) := by rw [wrap_i64 _ (by omega) (by omega)]; omega
  have hA : i < A.length := (List.getElem?_eq_some_iff.1 ha).1
  have hB : i < B.length := (List.getElem?_eq_some_iff.1 hb).1
  unfold aE
  simp only [d4, d8]
  rw [de]
  simp only [ob, bv hA, bv hB, ha, hb, w1]
  by_cases hc : i < aB m d
  · rw [decide_eq_true (show (i : Int) < ((aB m d : Nat) : Int) by omega), if_pos hc]
    by_cases h1 : a < b
    · rw [if_pos h1, decide_eq_true h1]; rfl
    · rw [if_neg h1, decide_eq_false h1]
      by_cases h2 : a > b
      · rw [if_pos h2, decide_eq_true h2]; rfl
      · rw [if_neg h2, decide_eq_false h2]; rfl
  · rw [decide_eq_false (show ¬ (i : Int) < ((aB m d : Nat) : Int) by omega), if_neg hc]; rfl
theorem rW (g l : Bool) (dg : List UInt8) (x q : Int) (m d : List UInt8) (k0 k1 k2 : Int) (a b : Int × Int × Int) :
    fg 20000000 g l dg x q m d k0 k1 k2 a.1 a.2.1 a.2.2 b.1 b.2.1 b.2.2 = some (cmpC (aB m d) a b) := by
  obtain ⟨c1, c3⟩ := iF m d
  have s := fun (i : Nat) {u v : Int} (h1 : ([a.1, a.2.1, a.2.2] : List Int)[i]? = some u) (h2 : ([b.1, b.2.1, b.2.2] : List Int)[i]? = some v) (h3 : i < 3) => zg 20000000 g l dg x q m d k0 k1 k2 [a.1, a.2.1, a.2.2] [b.1, b.2.1, b.2.2] i h1 h2 h3
  have s0 := s 0 rfl rfl (by omega)
  have s1 := s 1 rfl rfl (by omega)
  have s2 := s 2 rfl rfl (by omega)
  have s3 : aE 20000000 (((3 : Nat) : Int), g, l, dg, x, q, m, d, k0, k1, k2, [a.1, a.2.1, a.2.2], [b.1, b.2.1, b.2.2]) = some (.inr (.inr ())) := by
    unfold aE
    simp only [d4, d8]
    rw [de]
    simp only [ob]
    rw [decide_eq_false (show ¬ ((3 : Nat) : Int) < ((aB m d : Nat) : Int) by omega)]; rfl
  unfold fg cmpC
  show ob (af (aE 20000000) (19999999 + 1) (((0 : Nat) : Int), g, l, dg, x, q, m, d, k0, k1, k2, [a.1, a.2.1, a.2.2], [b.1, b.2.1, b.2.2])) _ = _
  rw [af, s0, if_pos (show 0 < aB m d by omega)]
  by_cases h1 : a.1 < b.1
  · rw [if_pos h1, if_pos h1]; rfl
  · rw [if_neg h1, if_neg h1]
    by_cases h2 : a.1 > b.1
    · rw [if_pos h2, if_pos h2]; rfl
    · rw [if_neg h2, if_neg h2]
      show ob (af (aE 20000000) (19999998 + 1) _) _ = _
      rw [af, s1]
      by_cases hk : aB m d < 2
      · rw [if_neg (by omega), if_pos hk]; rfl
      · rw [if_pos (show 1 < aB m d by omega), if_neg hk]
        by_cases h3 : a.2.1 < b.2.1
        · rw [if_pos h3, if_pos h3]; rfl
        · rw [if_neg h3, if_neg h3]
          by_cases h4 : a.2.1 > b.2.1
          · rw [if_pos h4, if_pos h4]; rfl
          · rw [if_neg h4, if_neg h4]
            show ob (af (aE 20000000) (19999997 + 1) _) _ = _
            rw [af, s2]
            by_cases hk3 : aB m d < 3
            · rw [if_neg (by omega), if_pos hk3]; rfl
            · rw [if_pos (show 2 < aB m d by omega), if_neg hk3]
              by_cases h5 : a.2.2 < b.2.2
              · rw [if_pos h5, if_pos h5]; rfl
              · rw [if_neg h5, if_neg h5]
                by_cases h6 : a.2.2 > b.2.2
                · rw [if_pos h6, if_pos h6]; rfl
                · rw [if_neg h6, if_neg h6]
                  show ob (af (aE 20000000) (19999996 + 1) _) _ = _
                  rw [af, s3]; rfl
def ascI (l : List Int) : Prop := l.Pairwise (· < ·)
theorem vv (s : List UInt8) (g : Nat) : ascI (jL (fitN s g)) := by
  unfold ascI jL fitN
  rw [List.pairwise_map]
  refine List.Pairwise.imp ?_ ((List.pairwise_lt_range' 1).filter _)
  intro a b h
  omega
theorem u5 (m : List UInt8) : ascI (monI m) := by
  unfold monI
  split
  · exact List.pairwise_singleton _ _
  · split
    · exact List.pairwise_singleton _ _
    · exact vv m 12
theorem vN (d : List UInt8) : ascI (dayI d) := by
  unfold dayI
  split
  · exact List.pairwise_singleton _ _
  · exact vv d 31
theorem qM {l₁ l₂ : List Int} {a e : Int} (h : ascI (l₁ ++ a :: l₂)) (he : e ∈ l₁ ++ a :: l₂) : e ∈ l₁ ∨ e = a ∨ (e ∈ l₂ ∧ a < e) := by
  rcases List.mem_append.1 he with h1 | h1
  · exact .inl h1
  · rcases List.mem_cons.1 h1 with h2 | h2
    · exact .inr (.inl h2)
    · have := (List.pairwise_append.1 h).2.1
      exact .inr (.inr ⟨h2, (List.pairwise_cons.1 this).1 e h2⟩)
theorem fW {m d : List UInt8} {y : Int} {z : Int × Int × Int} : z ∈ ed m d y ↔ z.1 = y ∧ z.2.1 ∈ monI m ∧ z.2.2 ∈ dayI d ∧ z.2.2 ≤ gj d y z.2.1 := by
  unfold ed hS
  simp only [List.mem_flatMap, List.mem_map, List.mem_filter, decide_eq_true_eq]
  constructor
  · rintro ⟨mo, h1, k, ⟨h2, h3⟩, rfl⟩; exact ⟨rfl, h1, h2, h3⟩
  · rintro ⟨h0, h1, h2, h3⟩
    exact ⟨z.2.1, h1, z.2.2, ⟨h2, h3⟩, by rw [← h0]⟩
theorem sG {up : Bool} {m d : List UInt8} {cy cm cd y : Int} {ms ds : List Int} {z : Int × Int × Int} (h : fK up m d cy cm cd ms ds y = some z) : z.1 = y ∧ z.2.1 ∈ ms ∧ z.2.2 ∈ ds ∧ z.2.2 ≤ gj d y z.2.1 := by
  unfold fK at h
  obtain ⟨mo, h1, h2⟩ := List.exists_of_findSome?_eq_some h
  unfold jx at h2
  split at h2
  · cases h2
  · obtain ⟨k, h3, rfl⟩ := Option.map_eq_some_iff.1 h2
    have h4 := List.mem_of_find?_eq_some h3
    have h5 := List.find?_some h3
    unfold gV at h5
    simp only [Bool.and_eq_true, decide_eq_true_eq] at h5
    exact ⟨rfl, h1, h4, h5.1⟩
theorem tR {m d : List UInt8} {cy cm cd : Int} (hdm : d ≠ [] → m ≠ []) {z : Int × Int × Int} (hz : z ∈ ed m d cy) (h1 : m ≠ [] → z.2.1 = cm) (h2 : d ≠ [] → z.2.2 = cd) :
    ∃ w, fK true m d cy cm cd (monI m) (dayI d) cy = some w ∧ w.1 = cy ∧ (m ≠ [] → w.2.1 = cm) ∧ (d ≠ [] → w.2.2 = cd) := by
  obtain ⟨z1, z2, z3, z4⟩ := fW.1 hz
  have hsk : jO true m cy cm cy z.2.1 = false := by
    unfold jO
    by_cases hm : m = []
    · subst hm; simp
    · rw [h1 hm]; simp [ahd]
  have hokd : ∀ s : Bool, gV true s d cd (gj d cy z.2.1) z.2.2 = true := fun s => by
    unfold gV
    rw [decide_eq_true z4]
    by_cases hd : d = []
    · subst hd; simp
    · rw [h2 hd]; simp [ahd]
  have hne : fK true m d cy cm cd (monI m) (dayI d) cy ≠ none := by
    unfold fK
    rw [Ne, List.findSome?_eq_none_iff]
    intro h
    have := h z.2.1 z2
    unfold jx at this
    rw [hsk] at this
    simp only [Bool.false_eq_true, if_false, Option.map_eq_none_iff, List.find?_eq_none] at this
    exact this z.2.2 z3 (hokd _)
  cases hs : fK true m d cy cm cd (monI m) (dayI d) cy with
  | none => exact absurd hs hne
  | some w =>
    refine ⟨w, rfl, (sG hs).1, ?_⟩
    have key : m ≠ [] → w.2.1 = cm ∧ (d ≠ [] → w.2.2 = cd) := by
      intro hm
      have hzc := h1 hm
      unfold fK at hs
      obtain ⟨l₁, mo, l₂, e1, e2, e3⟩ := List.findSome?_eq_some_iff.1 hs
      have hmo : mo = cm := by
        have hin : cm ∈ l₁ ++ mo :: l₂ := by rw [← e1, ← hzc]; exact z2
        rcases qM (by rw [← e1]; exact u5 m) hin with h | h | ⟨_, h⟩
        · have := e3 cm h
          unfold jx at this
          rw [hzc] at hsk hokd
          rw [hsk] at this
          simp only [Bool.false_eq_true, if_false, Option.map_eq_none_iff, List.find?_eq_none] at this
          exact absurd (hokd _) (this z.2.2 z3)
        · exact h.symm
        · unfold jx at e2
          have : jO true m cy cm cy mo = true := by
            unfold jO
            rw [cb hm]
            simp [ahd, h]
          rw [this] at e2
          cases e2
      subst hmo
      rw [hzc] at hsk hokd z4
      unfold jx at e2
      rw [hsk] at e2
      simp only [Bool.false_eq_true, if_false] at e2
      obtain ⟨k, f1, rfl⟩ := Option.map_eq_some_iff.1 e2
      refine ⟨rfl, fun hd => ?_⟩
      obtain ⟨p1, as, bs, p2, p3⟩ := List.find?_eq_some_iff_append.1 f1
      have hin : cd ∈ as ++ k :: bs := by rw [← p2, ← h2 hd]; exact z3
      have hsame : kr m cy mo cy mo = true := by unfold kr; simp
      rcases qM (by rw [← p2]; exact vN d) hin with h | h | ⟨_, h⟩
      · have hk' := hokd (kr m cy mo cy mo)
        rw [h2 hd] at hk'
        have := p3 cd h
        rw [hk'] at this
        cases this
      · exact h.symm
      · unfold gV at p1
        rw [hsame, cb hd] at p1
        simp [ahd, h] at p1
    refine ⟨fun hm => (key hm).1, fun hd => (key (hdm hd)).2 hd⟩
theorem jP {m d : List UInt8} (hdm : d ≠ [] → m ≠ []) : aB m d < 2 ↔ m = [] := by
  constructor
  · intro h
    by_cases hm : m = []
    · exact hm
    · by_cases hd : d = []
      · subst hd; rw [zQ hm] at h; omega
      · rw [zL hm hd] at h; omega
  · rintro rfl
    have : d = [] := by
      by_cases hd : d = []
      · exact hd
      · exact absurd rfl (hdm hd)
    subst this
    decide
theorem nY {m d : List UInt8} (hdm : d ≠ [] → m ≠ []) : aB m d < 3 ↔ d = [] := by
  constructor
  · intro h
    by_cases hd : d = []
    · exact hd
    · rw [zL (hdm hd) hd] at h; omega
  · rintro rfl
    by_cases hm : m = []
    · subst hm; decide
    · rw [zQ hm]; omega
theorem mD {m d : List UInt8} (hdm : d ≠ [] → m ≠ []) {z c : Int × Int × Int} : cmpC (aB m d) z c = 0 ↔ z.1 = c.1 ∧ (m ≠ [] → z.2.1 = c.2.1) ∧ (d ≠ [] → z.2.2 = c.2.2) := by
  rw [sQ, jP hdm, nY hdm]
  constructor
  · rintro ⟨h1, h2⟩
    exact ⟨h1, fun hm => (h2 hm).1, fun hd => (h2 (hdm hd)).2 hd⟩
  · rintro ⟨h1, h2, h3⟩
    exact ⟨h1, fun hm => ⟨h2 hm, h3⟩⟩
def isF (g : Bool) (dg : List UInt8) (x : Int) (m d : List UInt8) (c : Int × Int × Int) : Prop := inP g dg x 0 c.1 ∧ ∃ z ∈ ed m d c.1, cmpC (aB m d) z c = 0
section
variable {g l : Bool} {dg : List UInt8} {x q : Int} {m d : List UInt8} {k0 k1 k2 : Int} (hml : m.length ≤ 18) (hdl : dg.length ≤ 100) (h0 : 0 ≤ k0) (h1 : 0 ≤ k1) (h2 : 0 ≤ k2)
include hml hdl h0 h1 h2
theorem BU (cy cm cd : Int) (hcy : -9223372036854775808 ≤ cy ∧ cy < 9223372036854775808) :
    ∃ b, dR 20000000 g l dg x q m d k0 k1 k2 cy cm cd = some b ∧ (b = true ↔ errF g l dg x q m d k0 k1 k2 = 0 ∧ isF g dg x m d (cy, cm, cd)) := by
  unfold dR
  rcases so hml hdl h0 h1 h2 cy cm cd hcy with ⟨he, h⟩ | ⟨he, o, h, hs⟩
  · rw [h]
    refine ⟨false, ?_, by simp [he]⟩
    simp only [ob, d4]
    rw [beq_eq_false_iff_ne.2 he]; rfl
  · obtain ⟨rfl, R⟩ := ci he
    rw [h]
    cases o with
    | none =>
      refine ⟨false, rfl, ?_⟩
      simp only [Bool.false_eq_true, false_iff, not_and]
      rintro _ ⟨i1, z, i2, i3⟩
      obtain ⟨j1, j2, j3⟩ := (mD R.dm).1 i3
      obtain ⟨w, hw, _⟩ := tR R.dm i2 j2 j3
      have := hs cy i1 (by rw [aD]; exact Int.le_refl _)
      rw [this] at hw; cases hw
    | some z0 =>
      obtain ⟨e, s1, s2, s3, s4⟩ := hs
      rw [aD] at s2
      obtain ⟨m1, m2, m3, m4⟩ := sG s3
      have val : (ob (some ((some z0).elim ((0 : Int), (0 : Int), (0 : Int), false, (0 : Int)) fun z => (z.1, z.2.1, z.2.2, true, 0))) fun r3309 => (cond ((d4 r3309) == 0) (cond r3309.2.2.2.1 (cond (r3309.1 == cy) (cond (m == ([] : List UInt8)) (cond (d == ([] : List UInt8)) (some true) (some (r3309.2.2.1 == cd))) (cond (r3309.2.1 == cm) (cond (d == ([] : List UInt8)) (some true) (some (r3309.2.2.1 == cd))) (some false))) (some false)) (some false)) (some false))) = some ((z0.1 == cy) && (((m == ([] : List UInt8)) || (z0.2.1 == cm)) && ((d == ([] : List UInt8)) || (z0.2.2 == cd)))) := by
        have hel : ((some z0).elim ((0 : Int), (0 : Int), (0 : Int), false, (0 : Int)) fun z => (z.1, z.2.1, z.2.2, true, 0)) = (z0.1, z0.2.1, z0.2.2, true, 0) := rfl
        rw [hel]
        simp only [ob, d4, BEq.rfl, cond_true]
        cases (z0.1 == cy) <;> cases (m == ([] : List UInt8)) <;> cases (z0.2.1 == cm) <;> cases (d == ([] : List UInt8)) <;> rfl
      refine ⟨_, val, ?_⟩
      have parts : ((z0.1 == cy) && (((m == ([] : List UInt8)) || (z0.2.1 == cm)) && ((d == ([] : List UInt8)) || (z0.2.2 == cd)))) = true ↔ z0.1 = cy ∧ (m ≠ [] → z0.2.1 = cm) ∧ (d ≠ [] → z0.2.2 = cd) := by
        simp only [Bool.and_eq_true, Bool.or_eq_true, beq_iff_eq, ne_eq]
        by_cases hm : m = [] <;> by_cases hd : d = [] <;> simp [hm, hd]
      rw [parts]
      constructor
      · rintro ⟨p1, p2, p3⟩
        refine ⟨he, ?_, z0, ?_, ?_⟩
        · show inP g dg x 0 cy
          rw [← p1, m1]; exact s1
        · show z0 ∈ ed m d cy
          rw [fW]
          rw [← p1]
          rw [← m1] at m4
          exact ⟨rfl, m2, m3, m4⟩
        · exact (mD R.dm).2 ⟨p1, p2, p3⟩
      · rintro ⟨_, i1, z, i2, i3⟩
        obtain ⟨j1, j2, j3⟩ := (mD R.dm).1 i3
        obtain ⟨w, hw, w1, w2, w3⟩ := tR R.dm i2 j2 j3
        by_cases hec : e = cy
        · subst hec
          rw [hw] at s3
          obtain rfl := Option.some.inj s3
          exact ⟨w1, w2, w3⟩
        · have := s4 cy i1 (by rw [aD]; exact Int.le_refl _) (by rw [aD]; omega)
          rw [hw] at this; cases this
end
theorem tg : eJ 20000000 = some true := by kernel_rfl
theorem fR {k : Nat} {a b : Int × Int × Int} : cmpC k a b < 0 ↔ a.1 < b.1 ∨ (a.1 = b.1 ∧ ¬ k < 2 ∧ (a.2.1 < b.2.1 ∨ (a.2.1 = b.2.1 ∧ ¬ k < 3 ∧ a.2.2 < b.2.2))) := by
  unfold cmpC
  repeat' split
  all_goals omega
theorem ij {k : Nat} {a b : Int × Int × Int} : 0 < cmpC k a b ↔ b.1 < a.1 ∨ (a.1 = b.1 ∧ ¬ k < 2 ∧ (b.2.1 < a.2.1 ∨ (a.2.1 = b.2.1 ∧ ¬ k < 3 ∧ b.2.2 < a.2.2))) := by
  unfold cmpC
  repeat' split
  all_goals omega
def seen (up : Bool) (k : Nat) (c z : Int × Int × Int) : Bool := cond up (decide (¬ cmpC k z c < 0)) (decide (¬ 0 < cmpC k z c))
theorem xx (a b : Int) : ahd true a b = decide (a < b) := rfl
theorem wg (a b : Int) : ahd false a b = decide (a > b) := rfl
theorem xh {up : Bool} {m d : List UInt8} (hdm : d ≠ [] → m ≠ []) {cy cm cd e mo : Int} (k : Int) (h : jO up m cy cm e mo = true) : seen up (aB m d) (cy, cm, cd) (e, mo, k) = false := by
  unfold jO at h
  simp only [Bool.and_eq_true, Bool.not_eq_true', beq_iff_eq, beq_eq_false_iff_ne] at h
  obtain ⟨h1, h2, h3⟩ := h
  have hk : ¬ aB m d < 2 := fun h => h2 ((jP hdm).1 h)
  unfold seen
  cases up
  · rw [wg, decide_eq_true_eq] at h3
    rw [cond_false, decide_eq_false_iff_not, Decidable.not_not]
    rw [ij]
    right
    exact ⟨h1, hk, .inl h3⟩
  · rw [xx, decide_eq_true_eq] at h3
    rw [cond_true, decide_eq_false_iff_not, Decidable.not_not]
    rw [fR]
    right
    exact ⟨h1, hk, .inl h3⟩
theorem uz {up : Bool} {m d : List UInt8} (hdm : d ≠ [] → m ≠ []) {cy cm cd e mo : Int} (he : Mk.bL up cy e) (most k : Int) (h : jO up m cy cm e mo = false) :
    gV up (kr m cy cm e mo) d cd most k = (decide (k ≤ most) && seen up (aB m d) (cy, cm, cd) (e, mo, k)) := by
  have h2 := jP hdm
  have h3 := nY hdm
  unfold gV
  congr 1
  rw [Bool.eq_iff_iff]
  unfold jO at h
  unfold kr seen
  by_cases hm : m = []
  · have hd : d = [] := by
      by_cases hd : d = []
      · exact hd
      · exact absurd hm (hdm hd)
    have hk := h2.2 hm
    subst hd
    cases up
    · rw [bZ] at he
      simp only [BEq.rfl, Bool.not_true, Bool.false_and, Bool.and_false, Bool.not_false, cond_false, decide_eq_true_eq, ij, true_iff]
      omega
    · rw [aD] at he
      simp only [BEq.rfl, Bool.not_true, Bool.false_and, Bool.and_false, Bool.not_false, cond_true, decide_eq_true_eq, fR, true_iff]
      omega
  · have hk : ¬ aB m d < 2 := fun h => hm (h2.1 h)
    rw [cb hm] at h ⊢
    by_cases hd : d = []
    · have hk3 := h3.2 hd
      subst hd
      cases up
      · rw [bZ] at he
        rw [wg] at h
        simp only [Bool.not_false, Bool.true_and, Bool.and_eq_false_iff, beq_eq_false_iff_ne, decide_eq_false_iff_not] at h
        simp only [BEq.rfl, Bool.not_true, Bool.false_and, Bool.and_false, Bool.not_false, cond_false, decide_eq_true_eq, ij, true_iff]
        omega
      · rw [aD] at he
        rw [xx] at h
        simp only [Bool.not_false, Bool.true_and, Bool.and_eq_false_iff, beq_eq_false_iff_ne, decide_eq_false_iff_not] at h
        simp only [BEq.rfl, Bool.not_true, Bool.false_and, Bool.and_false, Bool.not_false, cond_true, decide_eq_true_eq, fR, true_iff]
        omega
    · have hk3 : ¬ aB m d < 3 := fun h => hd (h3.1 h)
      rw [cb hd]
      cases up
      · rw [bZ] at he
        rw [wg] at h ⊢
        simp only [Bool.not_false, Bool.true_and, Bool.and_eq_false_iff, beq_eq_false_iff_ne, decide_eq_false_iff_not] at h
        simp only [Bool.false_or, Bool.not_false, Bool.true_and, Bool.not_eq_true', Bool.and_eq_false_iff, beq_eq_false_iff_ne, decide_eq_false_iff_not, cond_false, decide_eq_true_eq, ij]
        omega
      · rw [aD] at he
        rw [xx] at h ⊢
        simp only [Bool.not_false, Bool.true_and, Bool.and_eq_false_iff, beq_eq_false_iff_ne, decide_eq_false_iff_not] at h
        simp only [Bool.false_or, Bool.not_false, Bool.true_and, Bool.not_eq_true', Bool.and_eq_false_iff, beq_eq_false_iff_ne, decide_eq_false_iff_not, cond_true, decide_eq_true_eq, fR]
        omega
theorem gR {A B : Type} (p : A → Bool) (f : A → B) (q : B → Bool) : ∀ l : List A, ((l.filter p).map f).find? q = (l.find? fun a => p a && q (f a)).map f
  | [] => rfl
  | a :: l => by
    rw [List.find?_cons]
    by_cases hp : p a = true
    · rw [List.filter_cons_of_pos hp, List.map_cons, List.find?_cons, hp]
      cases q (f a)
      · exact gR p f q l
      · rfl
    · rw [List.filter_cons_of_neg hp, gR p f q l]
      rw [Bool.not_eq_true] at hp
      rw [hp]; rfl
theorem oC {up : Bool} {m d : List UInt8} (hdm : d ≠ [] → m ≠ []) {cy cm cd e : Int} (he : Mk.bL up cy e) (ds : List Int) (mo : Int) :
    jx up m d cy cm cd e ds mo = ((ds.filter fun k => decide (k ≤ gj d e mo)).map fun k => (e, mo, k)).find? (seen up (aB m d) (cy, cm, cd)) := by
  rw [gR]
  unfold jx
  by_cases hs : jO up m cy cm e mo = true
  · rw [if_pos hs]
    have : (fun a => decide (a ≤ gj d e mo) && seen up (aB m d) (cy, cm, cd) (e, mo, a)) = fun _ => false := by
      funext k
      rw [xh hdm k hs, Bool.and_false]
    rw [this]
    have : ds.find? (fun _ => false) = none := List.find?_eq_none.2 fun _ _ h => by cases h
    rw [this]; rfl
  · rw [if_neg hs]
    rw [Bool.not_eq_true] at hs
    have : gV up (kr m cy cm e mo) d cd (gj d e mo) = (fun a => decide (a ≤ gj d e mo) && seen up (aB m d) (cy, cm, cd) (e, mo, a)) := by
      funext k
      exact uz hdm he _ k hs
    rw [this]
theorem gc {A B : Type} (f : A → List B) (q : B → Bool) : ∀ l : List A, (l.flatMap f).find? q = l.findSome? fun a => (f a).find? q
  | [] => rfl
  | a :: l => by
    rw [List.flatMap_cons, List.find?_append, List.findSome?_cons, gc f q l]
    cases (f a).find? q <;> rfl
theorem kV {A B : Type} (f : A → List B) : ∀ l : List A, (l.flatMap f).reverse = l.reverse.flatMap fun a => (f a).reverse
  | [] => rfl
  | a :: l => by
    rw [List.flatMap_cons, List.reverse_append, kV f l, List.reverse_cons, List.flatMap_append]
    simp
theorem uV {up : Bool} {m d : List UInt8} (hdm : d ≠ [] → m ≠ []) {cy cm cd e : Int} (he : Mk.bL up cy e) :
    fK up m d cy cm cd (cond up (monI m) (monI m).reverse) (cond up (dayI d) (dayI d).reverse) e = (cond up (ed m d e) (ed m d e).reverse).find? (seen up (aB m d) (cy, cm, cd)) := by
  unfold fK ed
  cases up
  · simp only [cond_false]
    rw [kV, gc]
    congr 1
    funext mo
    rw [oC hdm he]
    unfold hS
    rw [← List.map_reverse, ← List.filter_reverse]
  · simp only [cond_true]
    rw [gc]
    congr 1
    funext mo
    rw [oC hdm he]
    rfl
def allF (m d : List UInt8) (ys : List Int) : List (Int × Int × Int) := ys.flatMap (ed m d)
theorem to {up : Bool} {m d : List UInt8} {cy cm cd e : Int} (he : ¬ Mk.bL up cy e) : (cond up (ed m d e) (ed m d e).reverse).find? (seen up (aB m d) (cy, cm, cd)) = none := by
  rw [List.find?_eq_none]
  intro z hz
  have hz' : z ∈ ed m d e := by
    cases up
    · exact List.mem_reverse.1 hz
    · exact hz
  have h1 := (fW.1 hz').1
  unfold seen
  cases up
  · rw [bZ] at he
    simp only [cond_false, decide_eq_true_eq, ij]
    omega
  · rw [aD] at he
    simp only [cond_true, decide_eq_true_eq, fR]
    omega
theorem mI {up : Bool} {m d : List UInt8} (hdm : d ≠ [] → m ≠ []) {cy cm cd : Int} {Y : Int → Prop} {ys : List Int} (hy : ∀ y, y ∈ ys ↔ Y y) (ha : ascI ys) {o : Option (Int × Int × Int)}
    (hs : hJ up Y (fK up m d cy cm cd (cond up (monI m) (monI m).reverse) (cond up (dayI d) (dayI d).reverse)) cy o) :
    o = (cond up (allF m d ys) (allF m d ys).reverse).find? (seen up (aB m d) (cy, cm, cd)) := by
  have hG : ∀ e, Mk.bL up cy e → (cond up (ed m d e) (ed m d e).reverse).find? (seen up (aB m d) (cy, cm, cd)) = fK up m d cy cm cd (cond up (monI m) (monI m).reverse) (cond up (dayI d) (dayI d).reverse) e := fun e he => (uV hdm he).symm
  have hL : (cond up (allF m d ys) (allF m d ys).reverse).find? (seen up (aB m d) (cy, cm, cd)) = (cond up ys ys.reverse).findSome? fun e => (cond up (ed m d e) (ed m d e).reverse).find? (seen up (aB m d) (cy, cm, cd)) := by
    unfold allF
    cases up
    · simp only [cond_false]
      rw [kV, gc]
    · simp only [cond_true]
      rw [gc]
  have hm : ∀ y, y ∈ cond up ys ys.reverse ↔ Y y := fun y => by
    cases up
    · exact List.mem_reverse.trans (hy y)
    · exact hy y
  rw [hL]
  cases o with
  | none =>
    symm
    rw [List.findSome?_eq_none_iff]
    intro e he
    by_cases h : Mk.bL up cy e
    · rw [hG e h]; exact hs e ((hm e).1 he) h
    · exact to h
  | some z =>
    obtain ⟨e, c1, c2, c3, c4⟩ := hs
    symm
    obtain ⟨l₁, l₂, hl⟩ := List.append_of_mem ((hm e).2 c1)
    rw [List.findSome?_eq_some_iff]
    refine ⟨l₁, e, l₂, hl, by rw [hG e c2]; exact c3, fun e' he' => ?_⟩
    by_cases h : Mk.bL up cy e'
    · rw [hG e' h]
      have hY : Y e' := (hm e').1 (by rw [hl]; exact List.mem_append_left _ he')
      refine c4 e' hY h ?_
      cases up
      · rw [bZ]
        have hp : (ys.reverse).Pairwise (fun a b => b < a) := List.pairwise_reverse.2 ha
        simp only [cond_false] at hl
        rw [hl] at hp
        have := (List.pairwise_append.1 hp).2.2 e' he' e (List.mem_cons_self)
        omega
      · rw [aD]
        have hp := ha
        unfold ascI at hp
        simp only [cond_true] at hl
        rw [hl] at hp
        have := (List.pairwise_append.1 hp).2.2 e' he' e (List.mem_cons_self)
        omega
    · exact to h
def nD (k : Nat) (L : List (Int × Int × Int)) : Prop := L.Pairwise fun a b => cmpC k a b < 0
theorem pg {m d : List UInt8} (hdm : d ≠ [] → m ≠ []) (y mo : Int) : nD (aB m d) (hS d y mo) := by
  unfold nD
  by_cases hd : d = []
  · subst hd; rw [ls]; exact List.pairwise_singleton _ _
  · have h2 : ¬ aB m d < 2 := fun h => hdm hd ((jP hdm).1 h)
    have h3 : ¬ aB m d < 3 := fun h => hd ((nY hdm).1 h)
    unfold hS
    rw [List.pairwise_map]
    refine List.Pairwise.imp ?_ ((vN d).filter _)
    intro a b h
    rw [fR]
    exact .inr ⟨rfl, h2, .inr ⟨rfl, h3, h⟩⟩
theorem xA {m d : List UInt8} (hdm : d ≠ [] → m ≠ []) (y : Int) : nD (aB m d) (ed m d y) := by
  by_cases hm : m = []
  · subst hm
    unfold ed
    have : monI [] = [0] := rfl
    rw [this]
    simp only [List.flatMap_cons, List.flatMap_nil, List.append_nil]
    exact pg hdm y 0
  · have h2 : ¬ aB m d < 2 := fun h => hm ((jP hdm).1 h)
    unfold ed nD
    rw [List.pairwise_flatMap]
    refine ⟨fun mo _ => pg hdm y mo, List.Pairwise.imp ?_ (u5 m)⟩
    intro a b h x hx z hz
    unfold hS at hx hz
    obtain ⟨_, _, rfl⟩ := List.mem_map.1 hx
    obtain ⟨_, _, rfl⟩ := List.mem_map.1 hz
    rw [fR]
    exact .inr ⟨rfl, h2, .inl h⟩
theorem xH {m d : List UInt8} (hdm : d ≠ [] → m ≠ []) {ys : List Int} (ha : ascI ys) : nD (aB m d) (allF m d ys) := by
  unfold allF nD
  rw [List.pairwise_flatMap]
  refine ⟨fun y _ => xA hdm y, List.Pairwise.imp ?_ ha⟩
  intro a b h x hx z hz
  rw [fR]
  left
  rw [(fW.1 hx).1, (fW.1 hz).1]
  exact h
theorem qk {k : Nat} {L : List (Int × Int × Int)} (h : nD k L) {i j : Nat} (hij : i < j) (hj : j < L.length) : cmpC k (L[i]'(by omega)) L[j] < 0 :=
  List.pairwise_iff_getElem.1 h i j (by omega) hj hij
theorem A9 {A : Type} {L : List A} {p : A → Bool} {i : Nat} (hi : i < L.length) (hp : p L[i] = true) (h : ∀ j (hj : j < i), p (L[j]'(by omega)) = false) : L.find? p = some L[i] := by
  rw [List.find?_eq_some_iff_append]
  refine ⟨hp, L.take i, L.drop (i + 1), ?_, fun a ha => ?_⟩
  · rw [← List.drop_eq_getElem_cons hi, List.take_append_drop]
  · obtain ⟨j, hj, rfl⟩ := List.mem_iff_getElem.1 ha
    rw [List.length_take] at hj
    rw [List.getElem_take, h j (by omega)]
    rfl
theorem wG {A : Type} {L : List A} {p : A → Bool} (h : ∀ j (hj : j < L.length), p L[j] = false) : L.find? p = none := by
  rw [List.find?_eq_none]
  intro a ha
  obtain ⟨j, hj, rfl⟩ := List.mem_iff_getElem.1 ha
  rw [h j hj]; simp
theorem tX {A : Type} {L : List A} {p : A → Bool} {i : Nat} (hi : i < L.length) (hp : p L[i] = true) (h : ∀ j (hj : j < L.length), i < j → p L[j] = false) : L.reverse.find? p = some L[i] := by
  rw [List.find?_eq_some_iff_append]
  refine ⟨hp, (L.drop (i + 1)).reverse, (L.take i).reverse, ?_, fun a ha => ?_⟩
  · have : L = L.take i ++ L[i] :: L.drop (i + 1) := by rw [← List.drop_eq_getElem_cons hi, List.take_append_drop]
    conv => lhs; rw [this]
    simp
  · rw [List.mem_reverse] at ha
    obtain ⟨j, hj, rfl⟩ := List.mem_iff_getElem.1 ha
    rw [List.length_drop] at hj
    rw [List.getElem_drop, h (i + 1 + j) (by omega) (by omega)]
    rfl
theorem uB {A : Type} {L : List A} {p : A → Bool} (h : ∀ j (hj : j < L.length), p L[j] = false) : L.reverse.find? p = none := by
  rw [List.find?_eq_none]
  intro a ha
  rw [List.mem_reverse] at ha
  obtain ⟨j, hj, rfl⟩ := List.mem_iff_getElem.1 ha
  rw [h j hj]; simp
open Classical in
noncomputable def yrs (g : Bool) (dg : List UInt8) (x : Int) : List Int :=
  ((List.range ((sgn g (eF g dg x 0)).2 - (sgn g (eF g dg x 0)).1 + 1).toNat).map fun j : Nat => (sgn g (eF g dg x 0)).1 + (j : Int)).filter fun y => decide (inP g dg x 0 y)
theorem gm {g l : Bool} {dg : List UInt8} {x : Int} (hok : okY g l dg x 0) (y : Int) : y ∈ yrs g dg x ↔ inP g dg x 0 y := by
  obtain ⟨s1, s2, s3⟩ := pO hok
  unfold yrs
  rw [List.mem_filter, decide_eq_true_eq]
  constructor
  · exact fun h => h.2
  · intro h
    refine ⟨?_, h⟩
    have := s3 y h
    exact List.mem_map.2 ⟨(y - (sgn g (eF g dg x 0)).1).toNat, List.mem_range.2 (by omega), by omega⟩
theorem kL (g : Bool) (dg : List UInt8) (x : Int) : ascI (yrs g dg x) := by
  unfold yrs ascI
  refine List.Pairwise.filter _ ?_
  rw [List.pairwise_map]
  refine List.Pairwise.imp ?_ List.pairwise_lt_range
  intro a b h
  omega
theorem oN {g l : Bool} {dg : List UInt8} {x : Int} (hok : okY g l dg x 0) : (sgn g (eF g dg x 0)).2 - (sgn g (eF g dg x 0)).1 ≤ 10000 ∧ -10000000000000000 ≤ (sgn g (eF g dg x 0)).1 ∧ (sgn g (eF g dg x 0)).1 ≤ (sgn g (eF g dg x 0)).2 ∧ (sgn g (eF g dg x 0)).2 ≤ 10000000000000000 := by
  obtain ⟨lo, hi, hb, hw, hb0, hb1⟩ := jX hok
  obtain ⟨s1, s2, s3⟩ := pO hok
  have h1 := hb _ s1
  have h2 := hb _ s2
  have h3 := s3 _ s2
  omega
noncomputable def allD (g : Bool) (dg : List UInt8) (x : Int) (m d : List UInt8) : List (Int × Int × Int) := allF m d (yrs g dg x)
theorem tz (m d : List UInt8) : ∀ ys : List Int, (allF m d ys).length ≤ 1000 * ys.length
  | [] => by simp [allF]
  | y :: ys => by
    have h1 := ja m d y
    have h2 := tz m d ys
    unfold allF at h2 ⊢
    rw [List.flatMap_cons, List.length_append, List.length_cons]
    omega
theorem Bl {g l : Bool} {dg : List UInt8} {x : Int} (hok : okY g l dg x 0) : (yrs g dg x).length ≤ 10001 := by
  have := oN hok
  unfold yrs
  refine Nat.le_trans (List.length_filter_le _ _) ?_
  rw [List.length_map, List.length_range]
  omega
theorem ln {g l : Bool} {dg : List UInt8} {x : Int} (hok : okY g l dg x 0) (m d : List UInt8) : (allD g dg x m d).length ≤ 10001000 := by
  have h1 := tz m d (yrs g dg x)
  have h2 := Bl hok
  unfold allD
  omega
theorem oW {g : Bool} {dg : List UInt8} {x : Int} {m d : List UInt8} (hdm : d ≠ [] → m ≠ []) : nD (aB m d) (allD g dg x m d) := xH hdm (kL g dg x)
theorem kS {A B : Type} (p : A → Bool) (F : A → List B) : ∀ L : List A, (L.filter p).flatMap F = L.flatMap fun a => if p a then F a else []
  | [] => rfl
  | a :: L => by
    by_cases h : p a = true
    · rw [List.filter_cons_of_pos h, List.flatMap_cons, List.flatMap_cons, kS p F L, if_pos h]
    · rw [List.filter_cons_of_neg h, List.flatMap_cons, kS p F L, if_neg h, List.nil_append]
theorem Ah {g l : Bool} {dg : List UInt8} {x : Int} (hok : okY g l dg x 0) (m d : List UInt8) (k0 k1 k2 : Int) :
    fU 20000000 g l dg x 0 m d k0 k1 k2 = some (allD g dg x m d) := by
  have hsm := iZ hok
  have hw := oN hok
  have hsp : ak 20000000 g l dg x 0 = _ := yF 19999700 g l dg x 0 (by omega) hok
  have hY : ∀ y, fk 20000000 g l dg x 0 y = _ := fun y => B6 19999700 hok y
  unfold fU
  rw [hsp]
  simp only [ob]
  unfold allD allF yrs
  generalize (sgn g (eF g dg x 0)).1 = a at *
  generalize (sgn g (eF g dg x 0)).2 = b at *
  rw [kS]
  have step : ∀ i y, ((List.range (b - a + 1).toNat).map (fun j : Nat => a + (j : Int)))[i]? = some y → i < (b - a + 1).toNat ∧ y = a + (i : Int) := by
    intro i y h
    rw [List.getElem?_map] at h
    cases hr : (List.range (b - a + 1).toNat)[i]? with
    | none => rw [hr] at h; cases h
    | some j =>
      rw [hr] at h
      have hi := List.getElem?_eq_some_iff.1 hr
      obtain ⟨h1, h2⟩ := hi
      rw [List.getElem_range] at h2
      rw [List.length_range] at h1
      subst h2
      exact ⟨h1, (Option.some.inj h).symm⟩
  have hlen : ((List.range (b - a + 1).toNat).map (fun j : Nat => a + (j : Int))).length = (b - a + 1).toNat := by simp
  have := qT (step := dk 20000000) (f := fun i out => (b, a + (i : Int), g, l, dg, x, 0, m, d, k0, k1, k2, out)) (y := fun o => o) (L := (List.range (b - a + 1).toNat).map (fun j : Nat => a + (j : Int))) (F := fun y => if decide (inP g dg x 0 y) = true then ed m d y else []) (c := 1000)
    (fun y _ => by
      have := ja m d y
      split
      · exact this
      · simp)
    (fun i y out h ho => by
      obtain ⟨hi, rfl⟩ := step i y h
      have w1 : IntKind.wrap .i64 (a + (i : Int) + 1) = a + ((i + 1 : Nat) : Int) := by rw [wrap_i64 _ (by omega) (by omega)]; omega
      have hyl := ja m d (a + (i : Int))
      have hroom : Nat.ble (out.length + (ed m d (a + (i : Int))).length) dw = true := Nat.ble_eq_true_of_le (by unfold dw; omega)
      unfold dk
      simp only [d4, d8, w1]
      rw [decide_eq_true (show a + (i : Int) ≤ b by omega), hY, uu 20000000 (by omega)]
      by_cases hin : inP g dg x 0 (a + (i : Int))
      · rw [if_pos hin, if_pos (decide_eq_true hin)]
        simp only [cond_true, ob, hroom, BEq.rfl]
      · rw [if_neg hin, if_neg (by rw [decide_eq_true_eq]; exact hin), List.append_nil]; rfl)
    (fun out => by
      unfold dk
      simp only [d4, d8]
      rw [hlen, decide_eq_false (show ¬ a + (((b - a + 1).toNat : Nat) : Int) ≤ b by omega)]
      rfl)
    (N := 20000000) (by rw [hlen]; omega)
  rw [show a + ((0 : Nat) : Int) = a by omega] at this
  rw [this]
section
variable {g l : Bool} {dg : List UInt8} {x q : Int} {m d : List UInt8} {k0 k1 k2 : Int} (hml : m.length ≤ 18) (hdl : dg.length ≤ 100) (h0 : 0 ≤ k0) (h1 : 0 ≤ k1) (h2 : 0 ≤ k2)
include hml hdl h0 h1 h2
def outN (o : Option (Int × Int × Int)) (e : Int) : Int × Int × Int × Bool × Int := o.elim (0, 0, 0, false, e) fun z => (z.1, z.2.1, z.2.2, true, e)
theorem tc (he : errF g l dg x q m d k0 k1 k2 = 0) (cy cm cd : Int) (hcy : -9223372036854775808 ≤ cy ∧ cy < 9223372036854775808) :
    aX 20000000 g l dg x q m d k0 k1 k2 cy cm cd = some (outN ((allD g dg x m d).find? (seen true (aB m d) (cy, cm, cd))) 0) := by
  obtain ⟨rfl, R⟩ := ci he
  rcases so hml hdl h0 h1 h2 cy cm cd hcy with ⟨h, _⟩ | ⟨_, o, h, hs⟩
  · exact absurd he h
  · rw [h]
    have := mI (up := true) R.dm (gm R.ok) (kL g dg x) hs
    rw [cond_true] at this
    unfold allD
    rw [← this]; rfl
theorem t6 (he : errF g l dg x q m d k0 k1 k2 = 0) (cy cm cd : Int) (hcy : -9223372036854775808 ≤ cy ∧ cy < 9223372036854775808) :
    cu 20000000 g l dg x q m d k0 k1 k2 cy cm cd = some (outN ((allD g dg x m d).reverse.find? (seen false (aB m d) (cy, cm, cd))) 0) := by
  obtain ⟨rfl, R⟩ := ci he
  rcases Ak hml hdl h0 h1 h2 cy cm cd hcy with ⟨h, _⟩ | ⟨_, o, h, hs⟩
  · exact absurd he h
  · rw [h]
    have := mI (up := false) R.dm (gm R.ok) (kL g dg x) hs
    rw [cond_false] at this
    unfold allD
    rw [← this]; rfl
theorem y6 (he : errF g l dg x q m d k0 k1 k2 ≠ 0) (cy cm cd : Int) (hcy : -9223372036854775808 ≤ cy ∧ cy < 9223372036854775808) :
    aX 20000000 g l dg x q m d k0 k1 k2 cy cm cd = some (outN none (errF g l dg x q m d k0 k1 k2)) := by
  rcases so hml hdl h0 h1 h2 cy cm cd hcy with ⟨_, h⟩ | ⟨h, _⟩
  · exact h
  · exact absurd h he
theorem Bi (he : errF g l dg x q m d k0 k1 k2 = 0) (cy cm cd : Int) (hcy : -9223372036854775808 ≤ cy ∧ cy < 9223372036854775808) :
    dR 20000000 g l dg x q m d k0 k1 k2 cy cm cd = some ((allD g dg x m d).any fun z => decide (cmpC (aB m d) z (cy, cm, cd) = 0)) := by
  obtain ⟨rfl, R⟩ := ci he
  obtain ⟨b, hb, hb2⟩ := BU hml hdl h0 h1 h2 cy cm cd hcy
  rw [hb]
  congr 1
  rw [Bool.eq_iff_iff, hb2, List.any_eq_true]
  constructor
  · rintro ⟨_, i1, z, i2, i3⟩
    exact ⟨z, List.mem_flatMap.2 ⟨cy, (gm R.ok cy).2 i1, i2⟩, decide_eq_true i3⟩
  · rintro ⟨z, z1, z2⟩
    rw [decide_eq_true_eq] at z2
    obtain ⟨y, y1, y2⟩ := List.mem_flatMap.1 z1
    have e1 := (fW.1 y2).1
    have e2 := ((mD R.dm).1 z2).1
    have : y = cy := by rw [← e1, e2]
    subst this
    exact ⟨he, (gm R.ok y).1 y1, z, y2, z2⟩
end
theorem AK (y : Int) (i : Nat) : (minL i : Int) ≤ lenI y (i : Int) := by
  unfold minL lenI
  repeat' split
  all_goals omega
theorem yM {g l : Bool} {dg : List UInt8} {x : Int} (hok : okY g l dg x 0) {m d : List UInt8} (hm : m ≠ []) (hs : sea m = 0) (hd : d ≠ []) (hf : fitD m d = true) : hasF g dg x m d := by
  obtain ⟨s1, _, _⟩ := pO hok
  refine ⟨_, s1, ?_⟩
  unfold fitD at hf
  simp only [List.any_eq_true, Bool.and_eq_true] at hf
  obtain ⟨i, hi, ha, k, hk, hka⟩ := hf
  have hi' := List.mem_range'_1.1 hi
  have hk' := List.mem_range'_1.1 hk
  have h31 : minL i ≤ 31 := by
    unfold minL
    repeat' split
    all_goals omega
  have hz : ((sgn g (eF g dg x 0)).1, (i : Int), (k : Int)) ∈ ed m d (sgn g (eF g dg x 0)).1 := by
    rw [fW]
    refine ⟨rfl, ?_, ?_, ?_⟩
    · unfold monI
      rw [if_neg hm, if_neg (by omega)]
      exact List.mem_map.2 ⟨i, List.mem_filter.2 ⟨hi, ha⟩, rfl⟩
    · unfold dayI
      rw [if_neg hd]
      exact List.mem_map.2 ⟨k, List.mem_filter.2 ⟨List.mem_range'_1.2 (by omega), hka⟩, rfl⟩
    · unfold gj
      rw [if_neg hd]
      have := AK (sgn g (eF g dg x 0)).1 i
      show (k : Int) ≤ lenI (sgn g (eF g dg x 0)).1 (i : Int)
      omega
  intro e
  rw [e] at hz
  cases hz
theorem sI {g l : Bool} {dg : List UInt8} {x q : Int} {m d : List UInt8} {k0 k1 k2 : Int} (hc : chkD g l dg x q m d k0 k1 k2 = 0) (hf : d = [] ∨ fitD m d = true) : chkF g l dg x q m d k0 k1 k2 = 0 := by
  obtain ⟨hok, hm2, hd2, hq, hdm⟩ := n7 hc
  unfold chkF
  rw [if_neg, hc]
  rintro ⟨_, hd, hn⟩
  obtain ⟨h1, h2⟩ := hdm hd
  have hq0 : q = 0 := by
    have := AW hok
    by_cases h : 0 < q
    · exact absurd (hq h) h1
    · omega
  subst hq0
  exact hn (yM hok h1 h2 hd (hf.resolve_left hd))
theorem ye {g l : Bool} {dg : List UInt8} {x q : Int} {m d : List UInt8} {k0 k1 k2 : Int} (hc : chkD g l dg x q m d k0 k1 k2 = 0) (hf : d = [] ∨ fitD m d = true) : errF g l dg x q m d k0 k1 k2 = if 0 < q then 1 else 0 := by
  unfold errF
  rw [if_pos (sI hc hf)]
theorem yS {X Y A : Type} {step : X → Option (X ⊕ Y)} {f : Nat → X} {y : Nat → Y} {L : List A} {p : A → Bool}
    (h : ∀ i (hi : i < L.length), step (f i) = some (if p L[i] = true then .inr (y i) else .inl (f (i + 1)))) (he : step (f L.length) = some (.inr (y L.length))) {N : Nat} (hN : L.length < N) :
    af step N (f 0) = some (y (L.findIdx p)) := by
  have go : ∀ (r i : Nat), i + r = L.length → ∀ N, r < N → af step N (f i) = some (y (i + (L.drop i).findIdx p)) := by
    intro r
    induction r with
    | zero =>
      intro i hi N hN
      obtain ⟨N, rfl⟩ : ∃ q, N = q + 1 := ⟨N - 1, by omega⟩
      obtain rfl : i = L.length := by omega
      rw [af, he]
      simp
    | succ r ih =>
      intro i hi N hN
      obtain ⟨N, rfl⟩ : ∃ q, N = q + 1 := ⟨N - 1, by omega⟩
      rw [af, h i (by omega), List.drop_eq_getElem_cons (show i < L.length by omega), List.findIdx_cons]
      by_cases hp : p (L[i]'(by omega)) = true
      · rw [if_pos hp, hp]; rfl
      · rw [if_neg hp]
        rw [Bool.not_eq_true] at hp
        rw [hp]
        show af step N (f (i + 1)) = _
        rw [ih (i + 1) (by omega) N (by omega)]
        simp only [cond_false]
        congr 2
        omega
  have := go L.length 0 (by omega) N hN
  simpa using this
theorem Cc {k : Nat} {a b c : Int × Int × Int} (h1 : cmpC k a b < 0) (h2 : ¬ cmpC k a c < 0) : 0 < cmpC k b c := by
  rw [fR] at h1 h2
  rw [ij]
  omega
structure Place (k : Nat) (L : List (Int × Int × Int)) (c : Int × Int × Int) (a : Nat) : Prop where
  le : a ≤ L.length
  lo : ∀ j (h : j < L.length), j < a → cmpC k L[j] c < 0
  at_ : ∀ h : a < L.length, ¬ cmpC k L[a] c < 0
  hi : ∀ j (h : j < L.length), a < j → 0 < cmpC k L[j] c
theorem lN {k : Nat} {L : List (Int × Int × Int)} {c : Int × Int × Int} {a : Nat} (P : Place k L c a) : L.find? (seen true k c) = L[a]? := by
  by_cases h : a < L.length
  · rw [List.getElem?_eq_getElem h]
    refine A9 h (decide_eq_true (P.at_ h)) fun j hj => decide_eq_false (fun hn => hn (P.lo j (by omega) hj))
  · rw [List.getElem?_eq_none (by omega)]
    exact wG fun j hj => decide_eq_false (fun hn => hn (P.lo j hj (by have := P.le; omega)))
theorem qa {k : Nat} {L : List (Int × Int × Int)} {c : Int × Int × Int} {a : Nat} (P : Place k L c a) (h : a < L.length) (h0 : cmpC k L[a] c = 0) : L.reverse.find? (seen false k c) = some L[a] :=
  tX h (decide_eq_true (by omega)) fun j hj hj' => decide_eq_false (fun hn => hn (P.hi j hj hj'))
theorem vF {k : Nat} {L : List (Int × Int × Int)} {c : Int × Int × Int} {a : Nat} (P : Place k L c a) : (L.any fun z => decide (cmpC k z c = 0)) = true ↔ ∃ h : a < L.length, cmpC k L[a] c = 0 := by
  rw [List.any_eq_true]
  constructor
  · rintro ⟨z, hz, h0⟩
    rw [decide_eq_true_eq] at h0
    obtain ⟨j, hj, rfl⟩ := List.mem_iff_getElem.1 hz
    by_cases h1 : j < a
    · have := P.lo j hj h1; omega
    · by_cases h2 : a < j
      · have := P.hi j hj h2; omega
      · obtain rfl : j = a := by omega
        exact ⟨hj, h0⟩
  · rintro ⟨h, h0⟩
    exact ⟨_, List.getElem_mem h, decide_eq_true h0⟩
end Go.Sh
