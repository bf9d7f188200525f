/- Plain proofs, kept as far as they are needed here (printed by prune.py).
   Conditions: none. -/
import Derived.Test.YtfpfdfkhnecdjaaGreatDoorLawXa
set_option linter.unusedVariables false
set_option linter.unusedSimpArgs false
set_option maxRecDepth 100000
namespace Go.Sh
open Go.Abs
def spanA (d : List UInt8) (k q : Nat) : Nat × Nat := if 0 < q then (val d k / 10 ^ (d.length + k - q) * 10 ^ (d.length + k - q), min (val d k / 10 ^ (d.length + k - q) * 10 ^ (d.length + k - q) + 10 ^ (d.length + k - q) - 1) E16) else (val d k, val d k)
def sgn (g : Bool) (p : Nat × Nat) : Int × Int := if g then (-(p.2 : Int), -(p.1 : Int)) else ((p.1 : Int), (p.2 : Int))
theorem ref_Span_num (n : Nat) (g l : Bool) (d : List UInt8) (k q : Nat) (hn : 200 < n) (hd : d.length ≤ 100) (hN : Num d k q) :
    circaref14_Span n g l d (k : Int) (q : Int) = some (sgn g (spanA d k q)) := by
  have hw := hN.wide
  have hs := hN.small
  have hq := hN.sig
  unfold circaref14_Span
  rw [ref_Masked n g l d k q (by omega) (by omega), hasX_dig hN.dig, refMagn_eq n d k hN.dig hd (by omega) (by omega), if_pos hs]
  have hv : dval 0 d * 10 ^ k = val d k := rfl
  rw [hv] at hs ⊢
  unfold E16 at hs
  have z01 : ((if false = true then (1 : Int) else 0) == 1) = false := rfl
  simp only [ob, z01, cond_false]
  by_cases h0 : 0 < q
  · have e0 : decide ((q : Int) > 0) = true := decide_eq_true (by omega)
    have w0 : IntKind.wrap .i64 (IntKind.wrap .i64 (((d.length : Nat) : Int) + (k : Int)) - (q : Int)) = ((d.length + k - q : Nat) : Int) := by
      rw [wrap_i64 (((d.length : Nat) : Int) + (k : Int)) (by omega) (by omega), wrap_i64 _ (by omega) (by omega)]
      omega
    have hu2 : 10 ^ (d.length + k - q) ≤ 10 ^ 16 := Nat.pow_le_pow_right (by decide) (by omega)
    have h16 : (10 : Nat) ^ 16 = 10000000000000000 := by decide
    have one : dval 0 [49] = 1 := by decide
    have hone : dval 0 [49] * 10 ^ (d.length + k - q) ≤ E16 := by rw [one]; unfold E16; omega
    rw [e0, w0, refMagn_eq n [49] (d.length + k - q) (by decide) (by decide) (by omega) (by simp; omega), if_pos hone, one, Nat.one_mul]
    simp only [cond_true]
    have hu : 1 ≤ 10 ^ (d.length + k - q) := Nat.one_le_pow _ _ (by decide)
    unfold sgn spanA
    rw [if_pos h0]
    clear hone
    generalize 10 ^ (d.length + k - q) = u at *
    generalize val d k = v at *
    have d2 : (((u : Nat) : Int) == 0) = false := beq_eq_false_iff_ne.2 (by omega)
    have hdiv : Int.tdiv ((v : Nat) : Int) ((u : Nat) : Int) = ((v / u : Nat) : Int) := rfl
    have hle : v / u * u ≤ v := Nat.div_mul_le_self v u
    have hle2 : v / u ≤ v := Nat.div_le_self v u
    have w1 : IntKind.wrap .i64 ((v / u : Nat) : Int) = ((v / u : Nat) : Int) := by
      generalize v / u = t at *
      exact wrap_i64 _ (by omega) (by omega)
    have w2 : IntKind.wrap .i64 (((v / u : Nat) : Int) * ((u : Nat) : Int)) = ((v / u * u : Nat) : Int) := by
      rw [← Int.natCast_mul]; exact wrap_i64 _ (by omega) (by omega)
    rw [d2, cond_false, hdiv, w1, w2]
    generalize v / u * u = lo at *
    have w3 : IntKind.wrap .i64 (IntKind.wrap .i64 (((lo : Nat) : Int) + ((u : Nat) : Int)) - 1) = ((lo + u - 1 : Nat) : Int) := by
      rw [wrap_i64 (((lo : Nat) : Int) + ((u : Nat) : Int)) (by omega) (by omega), wrap_i64 _ (by omega) (by omega)]
      omega
    rw [w3]
    have hmin : (cond (decide ((10000000000000000 : Int) < ((lo + u - 1 : Nat) : Int))) (10000000000000000 : Int) ((lo + u - 1 : Nat) : Int)) = ((min (lo + u - 1) E16 : Nat) : Int) := by
      unfold E16
      by_cases hm : (10000000000000000 : Int) < ((lo + u - 1 : Nat) : Int)
      · rw [decide_eq_true hm, cond_true]; omega
      · rw [decide_eq_false hm, cond_false]; omega
    rw [hmin]
    have hmE : min (lo + u - 1) E16 ≤ 10000000000000000 := Nat.min_le_right _ _
    generalize min (lo + u - 1) E16 = hi at *
    cases g with
    | true =>
      simp only [cond_true, if_true]
      rw [wrap_i64 _ (by omega) (by omega), wrap_i64 _ (by omega) (by omega), Int.zero_sub, Int.zero_sub]
    | false => simp
  · have e0 : decide ((q : Int) > 0) = false := decide_eq_false (by omega)
    rw [e0, cond_false]
    unfold sgn spanA
    rw [if_neg h0]
    cases g with
    | true =>
      simp only [cond_true, if_true]
      rw [wrap_i64 _ (by omega) (by omega), Int.zero_sub]
    | false => simp
def fillv (z : UInt8) (d : List UInt8) : List UInt8 := d.map fun c => if c = 88 then z else c
theorem fillv_len (z : UInt8) (d : List UInt8) : (fillv z d).length = d.length := by simp [fillv]
theorem fillv_dig {z : UInt8} (hz : isDig z = true) {d : List UInt8} (h : ∀ c ∈ d, isDig c = true ∨ c = 88) : ∀ c ∈ fillv z d, isDig c = true := by
  intro c hc
  obtain ⟨b, hb, rfl⟩ := List.mem_map.1 hc
  by_cases hx : b = 88
  · rw [if_pos hx]; exact hz
  · rw [if_neg hx]
    exact (h b hb).resolve_right hx
theorem fillv_get {z : UInt8} {d : List UInt8} {i : Nat} {c : UInt8} (h : d[i]? = some c) : (fillv z d)[i]? = some (if c = 88 then z else c) := by
  simp [fillv, h]
def lowest (d : List UInt8) : Nat := 10 ^ (d.reverse.takeWhile (fun c => c != 88)).length
def spanX (g : Bool) (d : List UInt8) : Nat × Nat := (if g = true ∧ dval 0 (fillv 48 d) = 0 then lowest d else dval 0 (fillv 48 d), dval 0 (fillv 57 d))
theorem rspan_0 (m : Nat) : circaref14_Span (m + 300) true false [48, 48, 48, 88] 0 0 = some (sgn true (spanX true [48, 48, 48, 88])) := by kernel_rfl
theorem rspan_1 (m : Nat) : circaref14_Span (m + 300) true false [48, 48, 88, 48] 0 0 = some (sgn true (spanX true [48, 48, 88, 48])) := by kernel_rfl
theorem rspan_2 (m : Nat) : circaref14_Span (m + 300) true false [48, 48, 88, 88] 0 0 = some (sgn true (spanX true [48, 48, 88, 88])) := by kernel_rfl
theorem rspan_3 (m : Nat) : circaref14_Span (m + 300) true false [48, 88, 48, 48] 0 0 = some (sgn true (spanX true [48, 88, 48, 48])) := by kernel_rfl
theorem rspan_4 (m : Nat) : circaref14_Span (m + 300) true false [48, 88, 48, 88] 0 0 = some (sgn true (spanX true [48, 88, 48, 88])) := by kernel_rfl
theorem rspan_5 (m : Nat) : circaref14_Span (m + 300) true false [48, 88, 88, 48] 0 0 = some (sgn true (spanX true [48, 88, 88, 48])) := by kernel_rfl
theorem rspan_6 (m : Nat) : circaref14_Span (m + 300) true false [48, 88, 88, 88] 0 0 = some (sgn true (spanX true [48, 88, 88, 88])) := by kernel_rfl
theorem rspan_7 (m : Nat) : circaref14_Span (m + 300) true false [88, 48, 48, 48] 0 0 = some (sgn true (spanX true [88, 48, 48, 48])) := by kernel_rfl
theorem rspan_8 (m : Nat) : circaref14_Span (m + 300) true false [88, 48, 48, 88] 0 0 = some (sgn true (spanX true [88, 48, 48, 88])) := by kernel_rfl
theorem rspan_9 (m : Nat) : circaref14_Span (m + 300) true false [88, 48, 88, 48] 0 0 = some (sgn true (spanX true [88, 48, 88, 48])) := by kernel_rfl
theorem rspan_10 (m : Nat) : circaref14_Span (m + 300) true false [88, 48, 88, 88] 0 0 = some (sgn true (spanX true [88, 48, 88, 88])) := by kernel_rfl
theorem rspan_11 (m : Nat) : circaref14_Span (m + 300) true false [88, 88, 48, 48] 0 0 = some (sgn true (spanX true [88, 88, 48, 48])) := by kernel_rfl
theorem rspan_12 (m : Nat) : circaref14_Span (m + 300) true false [88, 88, 48, 88] 0 0 = some (sgn true (spanX true [88, 88, 48, 88])) := by kernel_rfl
theorem rspan_13 (m : Nat) : circaref14_Span (m + 300) true false [88, 88, 88, 48] 0 0 = some (sgn true (spanX true [88, 88, 88, 48])) := by kernel_rfl
theorem rspan_14 (m : Nat) : circaref14_Span (m + 300) true false [88, 88, 88, 88] 0 0 = some (sgn true (spanX true [88, 88, 88, 88])) := by kernel_rfl
theorem zero_mask {d : List UInt8} (hl : d.length = 4) (h : ∀ c ∈ d, isDig c = true ∨ c = 88) (hz : dval 0 (fillv 48 d) = 0) : ∀ c ∈ d, c = 48 ∨ c = 88 := by
  match d, hl with
  | [a, b, c, e], _ =>
    have hd := fillv_dig (z := 48) (by decide) h
    have h2 : dval 0 (fillv 48 [a, b, c, e]) = ((((0 * 10 + ((if a = 88 then (48 : UInt8) else a).toNat - 48)) * 10 + ((if b = 88 then (48 : UInt8) else b).toNat - 48)) * 10 + ((if c = 88 then (48 : UInt8) else c).toNat - 48)) * 10 + ((if e = 88 then (48 : UInt8) else e).toNat - 48)) := by
      simp only [fillv, List.map_cons, List.map_nil, dval_cons, dval_nil, dstep]
    rw [h2] at hz
    have key : ∀ x : UInt8, isDig (if x = 88 then (48 : UInt8) else x) = true → (if x = 88 then (48 : UInt8) else x).toNat - 48 = 0 → x = 48 ∨ x = 88 := by
      intro x hx h0
      by_cases hx8 : x = 88
      · exact .inr hx8
      · rw [if_neg hx8] at hx h0
        have := (isDig_iff x).1 hx
        exact .inl (UInt8.toNat_inj.1 (by show x.toNat = 48; omega))
    simp only [fillv, List.map_cons, List.map_nil, List.mem_cons, List.not_mem_nil, or_false, forall_eq_or_imp, forall_eq] at hd ⊢
    exact ⟨key a hd.1 (by omega), key b hd.2.1 (by omega), key c hd.2.2.1 (by omega), key e hd.2.2.2 (by omega)⟩
theorem mask_cases {d : List UInt8} (hl : d.length = 4) (h : ∀ c ∈ d, c = 48 ∨ c = 88) (hX : hasX d = true) (P : List UInt8 → Prop) (h0 : P [48, 48, 48, 88]) (h1 : P [48, 48, 88, 48]) (h2 : P [48, 48, 88, 88]) (h3 : P [48, 88, 48, 48]) (h4 : P [48, 88, 48, 88]) (h5 : P [48, 88, 88, 48]) (h6 : P [48, 88, 88, 88]) (h7 : P [88, 48, 48, 48]) (h8 : P [88, 48, 48, 88]) (h9 : P [88, 48, 88, 48]) (h10 : P [88, 48, 88, 88]) (h11 : P [88, 88, 48, 48]) (h12 : P [88, 88, 48, 88]) (h13 : P [88, 88, 88, 48]) (h14 : P [88, 88, 88, 88]) : P d := by
  match d, hl with
  | [a, b, c, e], _ =>
    simp only [List.mem_cons, List.not_mem_nil, or_false, forall_eq_or_imp, forall_eq] at h
    obtain ⟨ha, hb, hc, he⟩ := h
    rcases ha with rfl | rfl <;> rcases hb with rfl | rfl <;> rcases hc with rfl | rfl <;> rcases he with rfl | rfl
    · exact absurd hX (by decide)
    · exact h0
    · exact h1
    · exact h2
    · exact h3
    · exact h4
    · exact h5
    · exact h6
    · exact h7
    · exact h8
    · exact h9
    · exact h10
    · exact h11
    · exact h12
    · exact h13
    · exact h14
theorem ref_sp_loop (n : Nat) (g l : Bool) (d : List UInt8) (x s : Int) (hl : d.length = 4) (hn : 4 < n) : iterL (circaref14_Span_l0 n) n ([], [], 0, g, l, d, x, s) = some (fillv 48 d, fillv 57 d, g, l, d, x, s) := by
  refine iterL_inv (step := circaref14_Span_l0 n) (fun q => ∃ i : Nat, i ≤ 4 ∧ q = ((fillv 48 d).take i, (fillv 57 d).take i, (i : Int), g, l, d, x, s)) (fun q => 4 - q.2.2.1.toNat) (fun _ => (fillv 48 d, fillv 57 d, g, l, d, x, s)) ?_ n _ ⟨0, by omega, by simp⟩ (by simp; omega)
  rintro q ⟨i, hi, rfl⟩
  rcases Nat.lt_or_ge i 4 with hlt | hge
  · obtain ⟨c, hc⟩ : ∃ c, d[i]? = some c := ⟨d[i], List.getElem?_eq_getElem (by omega)⟩
    have hf1 := take1 (fillv_get (z := 48) hc)
    have hf2 := take1 (fillv_get (z := 57) hc)
    have d1 : decide ((i : Int) < 4) = true := decide_eq_true (by omega)
    have w1 : IntKind.wrap .i64 ((i : Int) + 1) = ((i + 1 : Nat) : Int) := by rw [wrap_i64 _ (by omega) (by omega)]; omega
    refine .inl ⟨((fillv 48 d).take (i + 1), (fillv 57 d).take (i + 1), ((i + 1 : Nat) : Int), g, l, d, x, s), ?_, ⟨i + 1, by omega, rfl⟩, by simp only [Int.toNat_natCast]; omega, rfl⟩
    simp only [circaref14_Span_l0, d1, cond_true, w1, bx_nat (show i + 1 ≤ d.length by omega), bx_nat (show i ≤ i + 1 by omega), ob, cut1 hc]
    have ht : ∀ z : UInt8, ((fillv z d).take i).length ≤ 4 := fun z => by rw [List.length_take]; omega
    rw [hf1, hf2]
    by_cases hx : c = 88
    · have e : (([c] : List UInt8) == [88]) = true := by rw [hx]; rfl
      rw [e, cond_true, if_pos hx, if_pos hx, cat_ok (by have := ht 48; simp; omega), cat_ok (by have := ht 57; simp; omega)]
    · have e : (([c] : List UInt8) == [88]) = false := by
        rw [beq_eq_false_iff_ne]; intro e; exact hx (by simpa using e)
      rw [e, cond_false, if_neg hx, if_neg hx, cat_ok (by have := ht 48; simp; omega), cat_ok (by have := ht 57; simp; omega)]
  · have : i = 4 := by omega
    subst this
    refine .inr ?_
    rw [List.take_of_length_le (by rw [fillv_len]; omega), List.take_of_length_le (by rw [fillv_len]; omega)]
    rfl
theorem dval_zero4 {d : List UInt8} (h : d = [48, 48, 48, 48]) : dval 0 d = 0 := by rw [h]; decide
theorem ref_Span_mask (m : Nat) (g : Bool) (d : List UInt8) (h : okY g false d 0 0) (hX : hasX d = true) : circaref14_Span (m + 300) g false d 0 0 = some (sgn g (spanX g d)) := by
  obtain ⟨_, _, _, hl, hd⟩ := ok_mask h hX
  by_cases hz : g = true ∧ dval 0 (fillv 48 d) = 0
  · obtain ⟨rfl, hz⟩ := hz
    exact mask_cases hl (zero_mask hl hd hz) hX (fun d => circaref14_Span (m + 300) true false d 0 0 = some (sgn true (spanX true d))) (rspan_0 m) (rspan_1 m) (rspan_2 m) (rspan_3 m) (rspan_4 m) (rspan_5 m) (rspan_6 m) (rspan_7 m) (rspan_8 m) (rspan_9 m) (rspan_10 m) (rspan_11 m) (rspan_12 m) (rspan_13 m) (rspan_14 m)
  · have hs : spanX g d = (dval 0 (fillv 48 d), dval 0 (fillv 57 d)) := by unfold spanX; rw [if_neg hz]
    have d48 := fillv_dig (z := 48) (by decide) hd
    have d57 := fillv_dig (z := 57) (by decide) hd
    have h1 := dval_lt (fillv 48 d) 0 0 d48 (by simp)
    have h2 := dval_lt (fillv 57 d) 0 0 d57 (by simp)
    rw [fillv_len, hl] at h1 h2
    have h4 : (10 : Nat) ^ (4 + 0) = 10000 := by decide
    have m1 : circaref14_Magnitude (m + 300) (fillv 48 d) 0 = some (((dval 0 (fillv 48 d) : Nat) : Int), 1) := by
      have := refMagn_eq (m + 300) (fillv 48 d) 0 d48 (by rw [fillv_len]; omega) (by omega) (by rw [fillv_len]; omega)
      rw [if_pos (by unfold E16; simp only [Nat.pow_zero, Nat.mul_one]; omega)] at this
      simpa using this
    have m2 : circaref14_Magnitude (m + 300) (fillv 57 d) 0 = some (((dval 0 (fillv 57 d) : Nat) : Int), 1) := by
      have := refMagn_eq (m + 300) (fillv 57 d) 0 d57 (by rw [fillv_len]; omega) (by omega) (by rw [fillv_len]; omega)
      rw [if_pos (by unfold E16; simp only [Nat.pow_zero, Nat.mul_one]; omega)] at this
      simpa using this
    have z11 : ((if true = true then (1 : Int) else 0) == 1) = true := rfl
    have z0 : decide ((0 : Int) > 0) = false := rfl
    unfold circaref14_Span
    rw [ref_Masked _ g false d 0 0 (by omega) (by omega), hX, ref_sp_loop _ g false d 0 0 hl (by omega), hs]
    simp only [ob, if_true, BEq.rfl, cond_true]
    cases g with
    | true =>
      have e : (fillv 48 d == ([48, 48, 48, 48] : List UInt8)) = false := by
        rw [beq_eq_false_iff_ne]
        intro e
        exact hz ⟨rfl, dval_zero4 e⟩
      simp only [cond_true, e, cond_false, m1, m2, z0, sgn, if_true]
      generalize dval 0 (fillv 48 d) = a at *
      generalize dval 0 (fillv 57 d) = b at *
      rw [wrap_i64 _ (by omega) (by omega), wrap_i64 _ (by omega) (by omega), Int.zero_sub, Int.zero_sub]
    | false => simp only [cond_false, m1, m2, z0, sgn, Bool.false_eq_true, if_false]
def spanY (g : Bool) (d : List UInt8) (x s : Int) : Nat × Nat := if hasX d then spanX g d else spanA d x.toNat s.toNat
theorem ref_Span (m : Nat) (g l : Bool) (d : List UInt8) (x s : Int) (hd : d.length ≤ 100) (h : okY g l d x s) : circaref14_Span (m + 300) g l d x s = some (sgn g (spanY g d x s)) := by
  unfold spanY
  cases hX : hasX d with
  | true =>
    obtain ⟨rfl, rfl, rfl, hl, hdd⟩ := ok_mask h hX
    exact ref_Span_mask m g d h hX
  | false =>
    obtain ⟨k, q, rfl, rfl, hN⟩ := ok_num h hX
    exact ref_Span_num _ g l d k q (by omega) hd hN
theorem span_le {d : List UInt8} {k q : Nat} (h : Num d k q) : (spanA d k q).1 ≤ val d k ∧ val d k ≤ (spanA d k q).2 ∧ (spanA d k q).2 ≤ E16 := by
  have hs := h.small
  have hv : dval 0 d * 10 ^ k = val d k := rfl
  rw [hv] at hs
  unfold spanA
  split
  · have hu : 1 ≤ 10 ^ (d.length + k - q) := Nat.one_le_pow _ _ (by decide)
    generalize 10 ^ (d.length + k - q) = u at hu ⊢
    generalize val d k = v at hs ⊢
    have h1 := Nat.div_mul_le_self v u
    have h2 : v < v / u * u + u := by
      have h := Nat.div_add_mod v u
      have := Nat.mod_lt v hu
      rw [Nat.mul_comm] at h
      omega
    refine ⟨h1, ?_, Nat.min_le_right _ _⟩
    rw [Nat.le_min]
    omega
  · exact ⟨Nat.le_refl _, Nat.le_refl _, hs⟩
def mtk (d : List UInt8) : Nat → Nat → Bool
  | 0, _ => true
  | k + 1, w => (decide (d.getD k 0 = 88) || decide ((d.getD k 0).toNat = 48 + w % 10)) && mtk d k (w / 10)
theorem mtk_succ (d : List UInt8) (k w : Nat) : mtk d (k + 1) w = ((decide (d.getD k 0 = 88) || decide ((d.getD k 0).toNat = 48 + w % 10)) && mtk d k (w / 10)) := rfl
theorem getD_get {d : List UInt8} {k : Nat} {c : UInt8} (h : d[k]? = some c) : d.getD k 0 = c := by
  rw [List.getD_eq_getElem?_getD, h]; rfl
theorem in_loop (n : Nat) (g l : Bool) (d : List UInt8) (x s : Int) (hl : d.length = 4) : ∀ (k w : Nat), k ≤ 4 → w < 100000000000000000 → ∀ q, k < q →
    iterL (circaref14_In_l0 n) q ((w : Int), (k : Int) - 1, g, l, d, x, s) = some (if mtk d k w = true then .inr ((w / 10 ^ k : Nat) : Int) else .inl 0)
  | 0, w, hk, hw, q, hq => by
    obtain ⟨q, rfl⟩ : ∃ p, q = p + 1 := ⟨q - 1, by omega⟩
    have d1 : decide (((0 : Nat) : Int) - 1 ≥ 0) = false := rfl
    have hm0 : mtk d 0 w = true := rfl
    simp only [iterL, circaref14_In_l0, d1, cond_false]
    rw [if_pos hm0]
    simp
  | k + 1, w, hk, hw, q, hq => by
    obtain ⟨q, rfl⟩ : ∃ p, q = p + 1 := ⟨q - 1, by omega⟩
    have ih := in_loop n g l d x s hl k (w / 10) (by omega) (by omega) q (by omega)
    obtain ⟨c, hc⟩ : ∃ c, d[k]? = some c := ⟨d[k], List.getElem?_eq_getElem (by omega)⟩
    have e0 : ((k + 1 : Nat) : Int) - 1 = (k : Int) := by omega
    have d1 : decide ((k : Int) ≥ 0) = true := decide_eq_true (by omega)
    have em : Int.tmod (w : Int) 10 = ((w % 10 : Nat) : Int) := rfl
    have eq' : Int.tdiv (w : Int) 10 = ((w / 10 : Nat) : Int) := rfl
    have w1 : IntKind.wrap .i64 (48 + ((w % 10 : Nat) : Int)) = ((48 + w % 10 : Nat) : Int) := by rw [wrap_i64 _ (by omega) (by omega)]; omega
    have w2 : IntKind.wrap .u8 ((48 + w % 10 : Nat) : Int) = ((48 + w % 10 : Nat) : Int) := wrap_u8 _ (by omega) (by omega)
    have w3 : IntKind.wrap .i64 ((w / 10 : Nat) : Int) = ((w / 10 : Nat) : Int) := wrap_i64 _ (by omega) (by omega)
    have w4 : IntKind.wrap .i64 ((k : Int) - 1) = (k : Int) - 1 := wrap_i64 _ (by omega) (by omega)
    have hdiv : w / 10 ^ (k + 1) = w / 10 / 10 ^ k := by rw [Nat.pow_succ, Nat.mul_comm, Nat.div_div_eq_div_mul]
    rw [mtk_succ, getD_get hc, hdiv, e0]
    simp only [iterL, circaref14_In_l0, d1, cond_true, sx_nat hc, ob, em, eq', w1, w2, w3, w4]
    by_cases hx : c = 88
    · have e1 : (((c.toNat : Nat) : Int) != 88) = false := by rw [hx]; rfl
      rw [e1, decide_eq_true hx]
      simp only [cond_false, Bool.true_or, Bool.true_and]
      exact ih
    · have e1 : (((c.toNat : Nat) : Int) != 88) = true := by
        simp only [bne, Bool.not_eq_true', beq_eq_false_iff_ne]
        intro e
        exact hx (UInt8.toNat_inj.1 (by show c.toNat = 88; omega))
      rw [e1, decide_eq_false hx]
      simp only [cond_true, Bool.false_or]
      by_cases hm : c.toNat = 48 + w % 10
      · have e2 : (((c.toNat : Nat) : Int) != ((48 + w % 10 : Nat) : Int)) = false := by rw [hm]; simp
        rw [e2, decide_eq_true hm]
        simp only [cond_false, Bool.true_and]
        exact ih
      · have e2 : (((c.toNat : Nat) : Int) != ((48 + w % 10 : Nat) : Int)) = true := by
          simp only [bne, Bool.not_eq_true', beq_eq_false_iff_ne]
          omega
        rw [e2, decide_eq_false hm]
        simp only [cond_true, Bool.false_and]
        rfl
def unitN (d : List UInt8) (k q : Nat) : Nat := if 0 < q then 10 ^ (d.length + k - q) else 1
def memP (d : List UInt8) (x s : Int) (w : Nat) : Prop := if hasX d = true then mtk d 4 w = true ∧ w / 10 ^ 4 = 0 else val d x.toNat / unitN d x.toNat s.toNat = w / unitN d x.toNat s.toNat
instance (d : List UInt8) (x s : Int) (w : Nat) : Decidable (memP d x s w) := by unfold memP; infer_instance
def wOf (g : Bool) (v : Int) : Int := if g then -v else v
def inP (g : Bool) (d : List UInt8) (x s : Int) (v : Int) : Prop := -10000000000000000 ≤ v ∧ v ≤ 10000000000000000 ∧ 0 ≤ wOf g v ∧ ¬ (hasX d = true ∧ g = true ∧ wOf g v = 0) ∧ memP d x s (wOf g v).toNat
instance (g : Bool) (d : List UInt8) (x s v : Int) : Decidable (inP g d x s v) := by unfold inP; infer_instance
noncomputable def inT (n : Nat) (a0 a1 : Bool) (a2 : List UInt8) (a3 a4 W : Int) : Option Int :=
  (ob (circaref14_Masked n a0 a1 a2 a3 a4) fun r221 => (cond (r221 == 1) (ob (iterL (circaref14_In_l0 n) n (W, 3, a0, a1, a2, a3, a4)) fun y222 => (Sum.casesOn (motive := fun _ => Option _) y222 (fun a223 => (some a223)) (fun b224 => (cond (decide (b224 > 0)) (some 0) (some 1))))) (ob (circaref14_Magnitude n a2 a3) fun r225 => (cond (decide (a4 > 0)) (ob (circaref14_Magnitude n [49] (IntKind.wrap .i64 ((IntKind.wrap .i64 (((List.length a2 : Nat) : Int) + a3)) - a4))) fun r226 => (cond (r226.1 == 0) none (cond (r226.1 == 0) none (cond ((IntKind.wrap .i64 (Int.tdiv r225.1 r226.1)) == (IntKind.wrap .i64 (Int.tdiv W r226.1))) (some 1) (some 0))))) (cond ((IntKind.wrap .i64 (Int.tdiv r225.1 1)) == (IntKind.wrap .i64 (Int.tdiv W 1))) (some 1) (some 0))))))
theorem nat_beq (a b : Nat) : (((a : Nat) : Int) == ((b : Nat) : Int)) = decide (a = b) := by
  by_cases h : a = b
  · subst h; simp
  · rw [decide_eq_false h, beq_eq_false_iff_ne]; omega
theorem memP_X {d : List UInt8} {x s : Int} {w : Nat} (hX : hasX d = true) : memP d x s w ↔ mtk d 4 w = true ∧ w / 10 ^ 4 = 0 := by unfold memP; rw [if_pos hX]
theorem memP_N {d : List UInt8} {x s : Int} {w : Nat} (hX : hasX d = false) : memP d x s w ↔ val d x.toNat / unitN d x.toNat s.toNat = w / unitN d x.toNat s.toNat := by unfold memP; rw [if_neg (by rw [hX]; simp)]
theorem in_T (m : Nat) {g l : Bool} {d : List UInt8} {x s : Int} (hok : okY g l d x s) (w : Nat) (hw : w ≤ 10000000000000000) : inT (m + 300) g l d x s (w : Int) = some (if memP d x s w then 1 else 0) := by
  have hsm := ok_small hok
  have hM := ref_Masked (m + 300) g l d x s (by omega) (by omega)
  unfold inT
  cases hX : hasX d with
  | true =>
    obtain ⟨rfl, rfl, rfl, hl, _⟩ := ok_mask hok hX
    have hlp := in_loop (m + 300) g false d 0 0 hl 4 w (by omega) (by omega) (m + 300) (by omega)
    have hlp' : iterL (circaref14_In_l0 (m + 300)) (m + 300) ((w : Int), 3, g, false, d, 0, 0) = _ := hlp
    have z11 : ((1 : Int) == 1) = true := rfl
    have hMt : circaref14_Masked (m + 300) g false d 0 0 = some 1 := by rw [hM, hX]; rfl
    rw [hMt]
    simp only [ob, z11, cond_true, hlp']
    by_cases h1 : mtk d 4 w = true
    · rw [if_pos h1]
      by_cases h2 : w / 10 ^ 4 = 0
      · have e : decide (((w / 10 ^ 4 : Nat) : Int) > 0) = false := decide_eq_false (by rw [h2]; decide)
        rw [if_pos ((memP_X hX).2 ⟨h1, h2⟩)]
        simp only [e, cond_false]
      · have e : decide (((w / 10 ^ 4 : Nat) : Int) > 0) = true := decide_eq_true (by
          generalize w / 10 ^ 4 = t at h2 ⊢
          omega)
        rw [if_neg (fun q => h2 ((memP_X hX).1 q).2)]
        simp only [e, cond_true]
    · rw [if_neg h1, if_neg (fun q => h1 ((memP_X hX).1 q).1)]
  | false =>
    obtain ⟨k, q, rfl, rfl, hN⟩ := ok_num hok hX
    have hw' := hN.wide
    have hs := hN.small
    have hq := hN.sig
    have hv : dval 0 d * 10 ^ k = val d k := rfl
    have hm := refMagn_eq (m + 300) d k hN.dig (by omega) (by omega) (by omega)
    rw [if_pos hs, hv] at hm
    rw [hv] at hs
    unfold E16 at hs
    have z01 : ((0 : Int) == 1) = false := rfl
    have hMt : circaref14_Masked (m + 300) g l d k q = some 0 := by rw [hM, hX]; rfl
    have hmp := memP_N (x := (k : Int)) (s := (q : Int)) (w := w) hX
    rw [Int.toNat_natCast, Int.toNat_natCast] at hmp
    unfold unitN at hmp
    rw [hMt]
    simp only [ob, z01, cond_false, hm]
    by_cases h0 : 0 < q
    · have e0 : decide ((q : Int) > 0) = true := decide_eq_true (by omega)
      have w0 : IntKind.wrap .i64 (IntKind.wrap .i64 (((d.length : Nat) : Int) + (k : Int)) - (q : Int)) = ((d.length + k - q : Nat) : Int) := by
        rw [wrap_i64 (((d.length : Nat) : Int) + (k : Int)) (by omega) (by omega), wrap_i64 _ (by omega) (by omega)]
        omega
      have hu2 : 10 ^ (d.length + k - q) ≤ 10 ^ 16 := Nat.pow_le_pow_right (by decide) (by omega)
      have h16 : (10 : Nat) ^ 16 = 10000000000000000 := by decide
      have one : dval 0 [49] = 1 := by decide
      have hone : dval 0 [49] * 10 ^ (d.length + k - q) ≤ E16 := by rw [one]; unfold E16; omega
      have hm1 := refMagn_eq (m + 300) [49] (d.length + k - q) (by decide) (by decide) (by omega) (by simp; omega)
      rw [if_pos hone, one, Nat.one_mul] at hm1
      have hu : 1 ≤ 10 ^ (d.length + k - q) := Nat.one_le_pow _ _ (by decide)
      rw [e0, w0, hm1]
      rw [if_pos h0] at hmp
      clear hone hm1
      generalize 10 ^ (d.length + k - q) = u at hu hu2 hmp ⊢
      generalize val d k = v at hs hmp ⊢
      have d2 : (((u : Nat) : Int) == 0) = false := beq_eq_false_iff_ne.2 (by omega)
      have hdiv : Int.tdiv ((v : Nat) : Int) ((u : Nat) : Int) = ((v / u : Nat) : Int) := rfl
      have hdiw : Int.tdiv ((w : Nat) : Int) ((u : Nat) : Int) = ((w / u : Nat) : Int) := rfl
      have l1 : v / u ≤ v := Nat.div_le_self v u
      have l2 : w / u ≤ w := Nat.div_le_self w u
      simp only [cond_true, d2, cond_false, hdiv, hdiw]
      generalize v / u = a at l1 hmp ⊢
      generalize w / u = b at l2 hmp ⊢
      rw [wrap_i64 _ (by omega) (by omega), wrap_i64 _ (by omega) (by omega), nat_beq]
      by_cases hab : a = b
      · rw [decide_eq_true hab, if_pos (hmp.2 hab)]; rfl
      · rw [decide_eq_false hab, if_neg (fun q => hab (hmp.1 q))]; rfl
    · have e0 : decide ((q : Int) > 0) = false := decide_eq_false (by omega)
      have t1 : ∀ a : Nat, Int.tdiv ((a : Nat) : Int) 1 = ((a : Nat) : Int) := fun a => by
        have : Int.tdiv ((a : Nat) : Int) 1 = ((a / 1 : Nat) : Int) := rfl
        rw [this, Nat.div_one]
      rw [if_neg h0, Nat.div_one, Nat.div_one] at hmp
      rw [e0]
      simp only [cond_false, t1]
      rw [wrap_i64 _ (by omega) (by omega), wrap_i64 _ (by omega) (by omega), nat_beq]
      by_cases hab : val d k = w
      · rw [decide_eq_true hab, if_pos (hmp.2 hab)]; rfl
      · rw [decide_eq_false hab, if_neg (fun q => hab (hmp.1 q))]; rfl
theorem ref_In (m : Nat) {g l : Bool} {d : List UInt8} {x s : Int} (hok : okY g l d x s) (v : Int) : circaref14_In (m + 300) g l d x s v = some (if inP g d x s v then 1 else 0) := by
  have hsm := ok_small hok
  have hT := fun w hw => in_T m hok w hw
  have hM := ref_Masked (m + 300) g l d x s (by omega) (by omega)
  unfold inT at hT
  unfold circaref14_In
  by_cases h1 : v < -10000000000000000
  · rw [decide_eq_true h1, if_neg (fun q => by have := q.1; omega)]; rfl
  · rw [decide_eq_false h1, cond_false]
    by_cases h2 : v > 10000000000000000
    · rw [decide_eq_true h2, if_neg (fun q => by have := q.2.1; omega)]; rfl
    · rw [decide_eq_false h2, cond_false]
      cases g with
      | true =>
        have w0 : IntKind.wrap .i64 (0 - v) = -v := by rw [wrap_i64 _ (by omega) (by omega)]; omega
        simp only [cond_true, w0]
        by_cases h3 : -v < 0
        · rw [decide_eq_true h3, if_neg (fun q => by have := q.2.2.1; unfold wOf at this; simp only [if_true] at this; omega)]; rfl
        · rw [decide_eq_false h3, cond_false]
          obtain ⟨w, hw⟩ : ∃ w : Nat, -v = (w : Int) := ⟨(-v).toNat, by omega⟩
          have hT := hT w (by omega)
          have hwo : wOf true v = (w : Int) := by unfold wOf; simpa using hw
          have hin : ¬ (hasX d = true ∧ w = 0) → (inP true d x s v ↔ memP d x s w) := by
            intro hz
            unfold inP
            rw [hwo, Int.toNat_natCast]
            constructor
            · exact fun q => q.2.2.2.2
            · exact fun q => ⟨by omega, by omega, by omega, fun q => hz ⟨q.1, by omega⟩, q⟩
          rw [hw]
          cases hX : hasX d with
          | true =>
            have hMt : circaref14_Masked (m + 300) true l d x s = some 1 := by rw [hM, hX]; rfl
            rw [hMt]
            have z11 : ((1 : Int) == 1) = true := rfl
            simp only [ob, z11, cond_true]
            by_cases hz : w = 0
            · have e : (((w : Nat) : Int) == 0) = true := beq_iff_eq.2 (by omega)
              rw [e, if_neg (fun q => q.2.2.2.1 ⟨hX, rfl, by rw [hwo]; omega⟩)]; rfl
            · have e : (((w : Nat) : Int) == 0) = false := beq_eq_false_iff_ne.2 (by omega)
              rw [hMt] at hT
              simp only [ob, z11, cond_true] at hT
              rw [e, cond_false, hT]
              have := hin (fun q => hz q.2)
              by_cases hp : memP d x s w
              · rw [if_pos hp, if_pos (this.2 hp)]
              · rw [if_neg hp, if_neg (fun q => hp (this.1 q))]
          | false =>
            have hMt : circaref14_Masked (m + 300) true l d x s = some 0 := by rw [hM, hX]; rfl
            have z01 : ((0 : Int) == 1) = false := rfl
            rw [hMt] at hT ⊢
            simp only [ob, z01, cond_false] at hT ⊢
            rw [hT]
            have := hin (fun q => by rw [hX] at q; cases q.1)
            by_cases hp : memP d x s w
            · rw [if_pos hp, if_pos (this.2 hp)]
            · rw [if_neg hp, if_neg (fun q => hp (this.1 q))]
      | false =>
        simp only [cond_false]
        by_cases h3 : v < 0
        · rw [decide_eq_true h3, if_neg (fun q => by have := q.2.2.1; unfold wOf at this; simp only [Bool.false_eq_true, if_false] at this; omega)]; rfl
        · rw [decide_eq_false h3, cond_false]
          obtain ⟨w, rfl⟩ : ∃ w : Nat, v = (w : Int) := ⟨v.toNat, by omega⟩
          have hT := hT w (by omega)
          have hwo : wOf false (w : Int) = (w : Int) := rfl
          have hin : inP false d x s (w : Int) ↔ memP d x s w := by
            unfold inP
            rw [hwo, Int.toNat_natCast]
            constructor
            · exact fun q => q.2.2.2.2
            · exact fun q => ⟨by omega, by omega, by omega, fun q => (by cases q.2.1), q⟩
          cases hX : hasX d with
          | true =>
            have hMt : circaref14_Masked (m + 300) false l d x s = some 1 := by rw [hM, hX]; rfl
            rw [hMt] at hT ⊢
            have z11 : ((1 : Int) == 1) = true := rfl
            simp only [ob, z11, cond_true] at hT ⊢
            rw [hT]
            by_cases hp : memP d x s w
            · rw [if_pos hp, if_pos (hin.2 hp)]
            · rw [if_neg hp, if_neg (fun q => hp (hin.1 q))]
          | false =>
            have hMt : circaref14_Masked (m + 300) false l d x s = some 0 := by rw [hM, hX]; rfl
            rw [hMt] at hT ⊢
            have z01 : ((0 : Int) == 1) = false := rfl
            simp only [ob, z01, cond_false] at hT ⊢
            rw [hT]
            by_cases hp : memP d x s w
            · rw [if_pos hp, if_pos (hin.2 hp)]
            · rw [if_neg hp, if_neg (fun q => hp (hin.1 q))]
def loK (d : List UInt8) (k : Nat) : Nat := dval 0 ((fillv 48 d).take k)
def hiK (d : List UInt8) (k : Nat) : Nat := dval 0 ((fillv 57 d).take k)
theorem fill_succ (z : UInt8) {d : List UInt8} {k : Nat} {c : UInt8} (h : d[k]? = some c) : dval 0 ((fillv z d).take (k + 1)) = dval 0 ((fillv z d).take k) * 10 + ((if c = 88 then z else c).toNat - 48) := by
  rw [take1 (fillv_get h), dval_app]
theorem mtk_range (d : List UInt8) (hl : d.length = 4) (hd : ∀ c ∈ d, isDig c = true ∨ c = 88) : ∀ (k w : Nat), k ≤ 4 → w < 10 ^ k → mtk d k w = true → loK d k ≤ w ∧ w ≤ hiK d k
  | 0, w, hk, hw, hm => by
    simp at hw
    subst hw
    simp [loK, hiK, dval_nil]
  | k + 1, w, hk, hw, hm => by
    obtain ⟨c, hc⟩ : ∃ c, d[k]? = some c := ⟨d[k], List.getElem?_eq_getElem (by omega)⟩
    rw [mtk_succ, getD_get hc, Bool.and_eq_true, Bool.or_eq_true, decide_eq_true_eq, decide_eq_true_eq] at hm
    have hp : (10 : Nat) ^ (k + 1) = 10 ^ k * 10 := Nat.pow_succ 10 k
    have ih := mtk_range d hl hd k (w / 10) (by omega) (by omega) hm.2
    have h1 := fill_succ 48 hc
    have h2 := fill_succ 57 hc
    unfold loK hiK at ih ⊢
    rw [h1, h2]
    by_cases hx : c = 88
    · rw [if_pos hx, if_pos hx]
      have e1 : (48 : UInt8).toNat - 48 = 0 := rfl
      have e2 : (57 : UInt8).toNat - 48 = 9 := rfl
      rw [e1, e2]
      omega
    · rw [if_neg hx, if_neg hx]
      have := hm.1.resolve_left hx
      omega
theorem mtk_fill (z : UInt8) (hz : isDig z = true) (d : List UInt8) (hl : d.length = 4) (hd : ∀ c ∈ d, isDig c = true ∨ c = 88) : ∀ k, k ≤ 4 → mtk d k (dval 0 ((fillv z d).take k)) = true
  | 0, _ => rfl
  | k + 1, hk => by
    obtain ⟨c, hc⟩ : ∃ c, d[k]? = some c := ⟨d[k], List.getElem?_eq_getElem (by omega)⟩
    have ih := mtk_fill z hz d hl hd k (by omega)
    have hdg : isDig (if c = 88 then z else c) = true := by
      by_cases hx : c = 88
      · rw [if_pos hx]; exact hz
      · rw [if_neg hx]; exact (hd c (List.mem_of_getElem? hc)).resolve_right hx
    have hr := (isDig_iff _).1 hdg
    rw [mtk_succ, getD_get hc, fill_succ z hc]
    generalize hb : (if c = 88 then z else c) = b at hr ⊢
    generalize dval 0 ((fillv z d).take k) = a at ih ⊢
    have e1 : (a * 10 + (b.toNat - 48)) / 10 = a := by omega
    have e2 : (a * 10 + (b.toNat - 48)) % 10 = b.toNat - 48 := by omega
    rw [e1, e2, ih, Bool.and_true]
    by_cases hx : c = 88
    · rw [decide_eq_true hx]; rfl
    · rw [if_neg hx] at hb
      rw [hb, decide_eq_true (show b.toNat = 48 + (b.toNat - 48) by omega), Bool.or_true]
def masks15 : List (List UInt8) := [[48, 48, 48, 88], [48, 48, 88, 48], [48, 48, 88, 88], [48, 88, 48, 48], [48, 88, 48, 88], [48, 88, 88, 48], [48, 88, 88, 88], [88, 48, 48, 48], [88, 48, 48, 88], [88, 48, 88, 48], [88, 48, 88, 88], [88, 88, 48, 48], [88, 88, 48, 88], [88, 88, 88, 48], [88, 88, 88, 88]]
theorem low15 : masks15.all (fun d => mtk d 4 (lowest d) && decide (1 ≤ lowest d) && decide (lowest d ≤ 1000) && (List.range 1000).all (fun w => decide (w = 0) || !mtk d 4 w || decide (lowest d ≤ w))) = true := by decide +kernel
theorem lowest_ok {d : List UInt8} (hd : d ∈ masks15) : mtk d 4 (lowest d) = true ∧ 1 ≤ lowest d ∧ lowest d ≤ 1000 ∧ ∀ w, 1 ≤ w → mtk d 4 w = true → lowest d ≤ w := by
  have h := List.all_eq_true.1 low15 d hd
  simp only [Bool.and_eq_true, decide_eq_true_eq, List.all_eq_true, List.mem_range, Bool.or_eq_true, Bool.not_eq_true'] at h
  obtain ⟨⟨⟨h1, h2⟩, h3⟩, h4⟩ := h
  refine ⟨h1, h2, h3, fun w hw hm => ?_⟩
  rcases Nat.lt_or_ge w 1000 with hlt | hge
  · rcases h4 w hlt with (h | h) | h
    · omega
    · rw [hm] at h; cases h
    · exact h
  · omega
theorem zero_in15 {d : List UInt8} (hl : d.length = 4) (hd : ∀ c ∈ d, isDig c = true ∨ c = 88) (hX : hasX d = true) (hz : dval 0 (fillv 48 d) = 0) : d ∈ masks15 :=
  mask_cases hl (zero_mask hl hd hz) hX (fun d => d ∈ masks15) (by decide) (by decide) (by decide) (by decide) (by decide) (by decide) (by decide) (by decide) (by decide) (by decide) (by decide) (by decide) (by decide) (by decide) (by decide)
theorem loK_all {d : List UInt8} (hl : d.length = 4) : loK d 4 = dval 0 (fillv 48 d) := by
  unfold loK; rw [List.take_of_length_le (by rw [fillv_len]; omega)]
theorem hiK_all {d : List UInt8} (hl : d.length = 4) : hiK d 4 = dval 0 (fillv 57 d) := by
  unfold hiK; rw [List.take_of_length_le (by rw [fillv_len]; omega)]
theorem spanX_ok {g : Bool} {d : List UInt8} (hl : d.length = 4) (hd : ∀ c ∈ d, isDig c = true ∨ c = 88) (hX : hasX d = true) :
    (spanX g d).1 < 10000 ∧ (spanX g d).2 < 10000 ∧ mtk d 4 (spanX g d).1 = true ∧ mtk d 4 (spanX g d).2 = true ∧ 1 ≤ (spanX g d).2 ∧ (g = true → 1 ≤ (spanX g d).1) ∧ ∀ w, w < 10000 → mtk d 4 w = true → (g = true → 1 ≤ w) → (spanX g d).1 ≤ w ∧ w ≤ (spanX g d).2 := by
  have h4 : (10 : Nat) ^ 4 = 10000 := by decide
  have d48 := fillv_dig (z := 48) (by decide) hd
  have d57 := fillv_dig (z := 57) (by decide) hd
  have b1 := dval_lt (fillv 48 d) 0 0 d48 (by simp)
  have b2 := dval_lt (fillv 57 d) 0 0 d57 (by simp)
  rw [fillv_len, hl, Nat.add_zero, h4] at b1 b2
  have m1 := mtk_fill 48 (by decide) d hl hd 4 (by omega)
  have m2 := mtk_fill 57 (by decide) d hl hd 4 (by omega)
  rw [List.take_of_length_le (by rw [fillv_len]; omega)] at m1 m2
  have hr : ∀ w, w < 10000 → mtk d 4 w = true → dval 0 (fillv 48 d) ≤ w ∧ w ≤ dval 0 (fillv 57 d) := fun w hw hm => by
    have := mtk_range d hl hd 4 w (by omega) (by omega) hm
    rw [loK_all hl, hiK_all hl] at this
    exact this
  have hhi : 1 ≤ dval 0 (fillv 57 d) := by
    rcases Nat.eq_zero_or_pos (dval 0 (fillv 57 d)) with h0 | h0
    · exfalso
      have hz : dval 0 (fillv 48 d) = 0 := by
        have := (hr _ b1 m1).2
        omega
      have h15 := zero_in15 hl hd hX hz
      have hlow := lowest_ok h15
      have := (hr _ (by omega) hlow.1).2
      omega
    · exact h0
  unfold spanX
  by_cases hz : g = true ∧ dval 0 (fillv 48 d) = 0
  · rw [if_pos hz]
    have hlow := lowest_ok (zero_in15 hl hd hX hz.2)
    refine ⟨by simp only; omega, b2, hlow.1, m2, hhi, fun _ => hlow.2.1, fun w hw hm hg => ⟨hlow.2.2.2 w (hg hz.1) hm, (hr w hw hm).2⟩⟩
  · rw [if_neg hz]
    refine ⟨b1, b2, m1, m2, hhi, fun hg => ?_, fun w hw hm hg => hr w hw hm⟩
    simp only
    rcases Nat.eq_zero_or_pos (dval 0 (fillv 48 d)) with h0 | h0
    · exact absurd ⟨hg, h0⟩ hz
    · exact h0
theorem spanY_ok {g l : Bool} {d : List UInt8} {x s : Int} (hok : okY g l d x s) : (spanY g d x s).1 ≤ 10000000000000000 ∧ (spanY g d x s).2 ≤ 10000000000000000 ∧ memP d x s (spanY g d x s).1 ∧ memP d x s (spanY g d x s).2 ∧ (hasX d = true → 1 ≤ (spanY g d x s).2 ∧ (g = true → 1 ≤ (spanY g d x s).1)) ∧
    ∀ w, w ≤ 10000000000000000 → memP d x s w → (hasX d = true → g = true → 1 ≤ w) → (spanY g d x s).1 ≤ w ∧ w ≤ (spanY g d x s).2 := by
  unfold spanY memP
  cases hX : hasX d with
  | true =>
    obtain ⟨rfl, rfl, rfl, hl, hd⟩ := ok_mask hok hX
    obtain ⟨p1, p2, p3, p4, p5, p6, p7⟩ := spanX_ok (g := g) hl hd hX
    have h4 : (10 : Nat) ^ 4 = 10000 := by decide
    simp only [if_true, h4]
    refine ⟨by omega, by omega, ⟨p3, Nat.div_eq_of_lt p1⟩, ⟨p4, Nat.div_eq_of_lt p2⟩, fun _ => ⟨p5, p6⟩, fun w hw hm hg => p7 w (by omega) hm.1 (hg trivial)⟩
  | false =>
    obtain ⟨k, q, rfl, rfl, hN⟩ := ok_num hok hX
    have hs := hN.small
    have hv : dval 0 d * 10 ^ k = val d k := rfl
    rw [hv] at hs
    obtain ⟨s1, s2, s3⟩ := span_le hN
    unfold E16 at s3
    simp only [Bool.false_eq_true, if_false, Int.toNat_natCast]
    unfold unitN
    unfold spanA at s1 s2 s3 ⊢
    by_cases h0 : 0 < q
    · rw [if_pos h0] at s1 s2 s3 ⊢
      rw [if_pos h0]
      have hu : 1 ≤ 10 ^ (d.length + k - q) := Nat.one_le_pow _ _ (by decide)
      generalize 10 ^ (d.length + k - q) = u at *
      generalize val d k = v at *
      simp only at s1 s2 s3 ⊢
      have hmul : v / u * u / u = v / u := Nat.mul_div_cancel _ hu
      have hlt : ∀ w, v / u * u ≤ w → w < v / u * u + u → w / u = v / u := by
        intro w h1 h2
        apply Nat.div_eq_of_lt_le
        · exact h1
        · rw [Nat.succ_mul]; exact h2
      have hback : ∀ w, v / u = w / u → v / u * u ≤ w ∧ w < v / u * u + u := by
        intro w h
        rw [h]
        have h1 := Nat.div_mul_le_self w u
        have h2 := Nat.div_add_mod w u
        have h3 := Nat.mod_lt w hu
        rw [Nat.mul_comm] at h2
        omega
      have hmin : min (v / u * u + u - 1) E16 ≤ v / u * u + u - 1 := Nat.min_le_left _ _
      have hself := hback v rfl
      refine ⟨by omega, s3, hmul.symm, (hlt _ (by omega) (by omega)).symm, fun q => (by cases q), fun w hw hm _ => ?_⟩
      obtain ⟨c1, c2⟩ := hback w hm
      refine ⟨c1, ?_⟩
      rw [Nat.le_min]
      unfold E16
      omega
    · rw [if_neg h0] at s1 s2 s3 ⊢
      rw [if_neg h0]
      simp only [Nat.div_one] at s1 s2 s3 ⊢
      refine ⟨s3, s3, trivial, trivial, fun q => (by cases q), fun w hw hm _ => by omega⟩
theorem in_span {g l : Bool} {d : List UInt8} {x s : Int} (hok : okY g l d x s) : inP g d x s (sgn g (spanY g d x s)).1 ∧ inP g d x s (sgn g (spanY g d x s)).2 ∧ ∀ v, inP g d x s v → (sgn g (spanY g d x s)).1 ≤ v ∧ v ≤ (sgn g (spanY g d x s)).2 := by
  obtain ⟨p1, p2, p3, p4, p5, p6⟩ := spanY_ok hok
  generalize spanY g d x s = sp at *
  obtain ⟨lo, hi⟩ := sp
  simp only at p1 p2 p3 p4 p5 p6
  cases g with
  | true =>
    have hw : ∀ a : Nat, wOf true (-(a : Int)) = (a : Int) := fun a => by unfold wOf; simp
    have mk : ∀ a : Nat, a ≤ 10000000000000000 → memP d x s a → (hasX d = true → 1 ≤ a) → inP true d x s (-(a : Int)) := by
      intro a h1 h2 h3
      refine ⟨by omega, by omega, by rw [hw]; omega, fun q => ?_, by rw [hw, Int.toNat_natCast]; exact h2⟩
      have := h3 q.1
      have h4 := q.2.2
      rw [hw] at h4
      omega
    simp only [sgn, if_true]
    refine ⟨mk hi p2 p4 (fun h => (p5 h).1), mk lo p1 p3 (fun h => (p5 h).2 rfl), fun v hv => ?_⟩
    obtain ⟨v1, v2, v3, v4, v5⟩ := hv
    have hwv : wOf true v = -v := rfl
    rw [hwv] at v3 v4 v5
    have := p6 (-v).toNat (by omega) v5 (fun hx _ => by
      have : ¬ -v = 0 := fun e => v4 ⟨hx, rfl, e⟩
      omega)
    omega
  | false =>
    have hw : ∀ a : Int, wOf false a = a := fun a => rfl
    have mk : ∀ a : Nat, a ≤ 10000000000000000 → memP d x s a → inP false d x s (a : Int) := by
      intro a h1 h2
      exact ⟨by omega, by omega, by rw [hw]; omega, fun q => (by cases q.2.1), by rw [hw, Int.toNat_natCast]; exact h2⟩
    simp only [sgn, Bool.false_eq_true, if_false]
    refine ⟨mk lo p1 p3, mk hi p2 p4, fun v hv => ?_⟩
    obtain ⟨v1, v2, v3, v4, v5⟩ := hv
    rw [hw] at v3 v5
    have := p6 v.toNat (by omega) v5 (fun _ q => by cases q)
    omega
end Go.Sh
namespace Go.Sh.Mk
open Go.Abs
def okB (c : UInt8) : Bool := c.toNat == 88 || (decide (48 ≤ c.toNat) && decide (c.toNat ≤ 57))
def chk (s : List UInt8) : Int := if 18 < s.length then 3 else if s.all okB then (if s = [] then 5 else 0) else 5
theorem masks_Check_loop (n : Nat) (s0 s : List UInt8) (hn : s.length + 1 < n) :
    iterL (masks_Check_l0 n) n (s0, s, 0) = some (if s.all okB then .inr s0 else .inl 5) := by
  have := iterL_inv (step := masks_Check_l0 n) (fun x => x.1 = s0 ∧ x.2.1 = s ∧ x.2.2 ≤ s.length) (fun x => s.length - x.2.2)
    (fun x => if (s.drop x.2.2).all okB then .inr s0 else .inl 5) ?_ n (s0, s, 0) ⟨rfl, rfl, Nat.zero_le _⟩ (by simp; omega)
  · simpa using this
  rintro ⟨a, b, i⟩ ⟨rfl, rfl, hi⟩
  simp only at hi ⊢
  rcases Nat.lt_or_ge i b.length with hlt | hge
  · obtain ⟨c, hc⟩ : ∃ c, b[i]? = some c := ⟨b[i], List.getElem?_eq_getElem hlt⟩
    have hb : Nat.blt i b.length = true := Nat.ble_eq_true_of_le hlt
    rw [drop_get hc, List.all_cons]
    simp only [masks_Check_l0, hb, cond_true]
    by_cases h128 : c.toNat < 128
    · rw [dec_low hc h128]
      by_cases h88 : c.toNat = 88
      · refine .inl ⟨(a, b, i + 1), by simp [h88], ⟨rfl, rfl, by simp only; omega⟩, by simp only; omega, ?_⟩
        simp [okB, h88]
      · by_cases h48 : c.toNat < 48
        · refine .inr ?_
          have e1 : (((c.toNat : Nat) : Int) != 88) = true := by simp; omega
          have e2 : (decide (((c.toNat : Nat) : Int) < 48)) = true := by simp; omega
          have e3 : okB c = false := by simp [okB]; omega
          simp [e1, e2, e3]
        · by_cases h57 : 57 < c.toNat
          · refine .inr ?_
            have e1 : (((c.toNat : Nat) : Int) != 88) = true := by simp; omega
            have e2 : (decide (((c.toNat : Nat) : Int) < 48)) = false := by simp; omega
            have e4 : (decide (((c.toNat : Nat) : Int) > 57)) = true := by simp; omega
            have e3 : okB c = false := by simp [okB]; omega
            simp [e1, e2, e3, e4]
          · have e1 : (((c.toNat : Nat) : Int) != 88) = true := by simp; omega
            have e2 : (decide (((c.toNat : Nat) : Int) < 48)) = false := by simp; omega
            have e4 : (decide (((c.toNat : Nat) : Int) > 57)) = false := by simp; omega
            have e3 : okB c = true := by simp [okB]; omega
            refine .inl ⟨(a, b, i + 1), by simp only [e1, e2, e4, cond_true, cond_false], ⟨rfl, rfl, by simp only; omega⟩, by simp only; omega, ?_⟩
            simp [e3]
    · obtain ⟨h1, h2⟩ := dec_high hc (by omega)
      refine .inr ?_
      have e1 : ((((dec b i).1 : Nat) : Int) != 88) = true := by simp; omega
      have e2 : (decide ((((dec b i).1 : Nat) : Int) < 48)) = false := by simp; omega
      have e4 : (decide ((((dec b i).1 : Nat) : Int) > 57)) = true := by simp; omega
      have e3 : okB c = false := by simp [okB]; omega
      simp [e1, e2, e3, e4]
  · have hb : Nat.blt i b.length = false := by
      cases h : Nat.blt i b.length with
      | false => rfl
      | true => have : i < b.length := Nat.le_of_ble_eq_true h; omega
    refine .inr ?_
    simp only [masks_Check_l0, hb, cond_false]
    rw [List.drop_eq_nil_of_le hge]
    rfl
theorem masks_Check_eq (n : Nat) (s : List UInt8) (hn : 30 ≤ n) : masks_Check n s = some (chk s) := by
  unfold masks_Check chk
  by_cases h : 18 < s.length
  · have : (decide (((List.length s : Nat) : Int) > 18)) = true := by simp; omega
    simp [this, h]
  · have e : (decide (((List.length s : Nat) : Int) > 18)) = false := by simp; omega
    simp only [e, cond_false, h, if_false]
    rw [masks_Check_loop n s s (by omega)]
    by_cases ha : s.all okB = true
    · simp only [ha, if_true, ob]
      by_cases hs : s = []
      · simp [hs]
      · have : (s == ([] : List UInt8)) = false := by simpa using hs
        simp [this, hs]
    · simp [ha, ob]
theorem chk_len {s : List UInt8} (h : chk s = 0) : s.length ≤ 18 ∧ s ≠ [] ∧ ∀ c ∈ s, okB c = true := by
  unfold chk at h
  split at h
  · simp at h
  · split at h
    · rename_i ha
      split at h
      · simp at h
      · rename_i hs
        exact ⟨by omega, hs, by simpa using ha⟩
    · simp at h
def nums (l : List UInt8) : List Int := l.map fun b => ((b.toNat : Nat) : Int)
def over (d : List Int) (i : Nat) (l : List Int) : List Int := d.take i ++ (l ++ d.drop (i + l.length))
theorem over_set (d : List Int) (i : Nat) (x : Int) (l : List Int) (h : i < d.length) : over (d.set i x) (i + 1) l = over d i (x :: l) := by
  unfold over
  rw [show (d.set i x).take (i + 1) = d.take i ++ [x] from by
    rw [List.take_succ_eq_append_getElem (by simpa using h)]
    simp [List.take_set_of_le]]
  rw [List.drop_set_of_lt (by omega)]
  simp [Nat.add_assoc, Nat.add_comm 1]
theorem over_nil (d : List Int) (i : Nat) : over d i [] = d := by simp [over]
theorem over_len (d : List Int) (i : Nat) (l : List Int) (h : i + l.length ≤ d.length) : (over d i l).length = d.length := by
  unfold over; simp; omega
theorem toNat_eq {x y : UInt8} : (((x.toNat : Nat) : Int) == ((y.toNat : Nat) : Int)) = decide (x = y) := by
  by_cases h : x = y
  · simp [h]
  · have : x.toNat ≠ y.toNat := fun e => h (UInt8.toNat_inj.1 e)
    simp [h]; omega
theorem toNat_88 {x : UInt8} : (((x.toNat : Nat) : Int) == 88) = decide (x = 88) := by
  have := toNat_eq (x := x) (y := 88)
  simpa using this
def dg : Nat → Int → List Int
  | 0, _ => []
  | L + 1, k => dg L (k / 10) ++ [48 + k % 10]
theorem dg_len : ∀ (L : Nat) (k : Int), (dg L k).length = L
  | 0, _ => rfl
  | L + 1, k => by simp [dg, dg_len L]
theorem dg_range : ∀ (L : Nat) (k : Int), ∀ x ∈ dg L k, 48 ≤ x ∧ x < 58
  | 0, _, x, h => by simp [dg] at h
  | L + 1, k, x, h => by
    simp only [dg, List.mem_append, List.mem_singleton] at h
    rcases h with h | rfl
    · exact dg_range L _ x h
    · omega
def agree : List UInt8 → List Int → Bool
  | c :: m, d :: l => (c == 88 || decide (((c.toNat : Nat) : Int) = d)) && agree m l
  | _, _ => true
theorem agree_append : ∀ {a c : List UInt8} {b d : List Int}, a.length = b.length → agree (a ++ c) (b ++ d) = (agree a b && agree c d)
  | [], c, [], d, _ => by simp [agree]
  | x :: a, c, y :: b, d, h => by
    simp only [List.length_cons, Nat.add_right_cancel_iff] at h
    simp only [List.cons_append, agree, agree_append h, Bool.and_assoc]
def hasM (m : List UInt8) (k : Int) : Bool := decide (0 ≤ k) && (decide (k < 10 ^ m.length) && agree m (dg m.length k))
theorem power_eq (L : Nat) (h : L ≤ 18) : masks_power 20000000 ((L : Nat) : Int) = some (10 ^ L) := by
  have hk : allN (fun i => match masks_power 20000000 ((i : Nat) : Int) with | some r => decide (r = 10 ^ i) | none => false) 19 = true := by kernel_rfl
  have := allN_ok hk L (by omega)
  split at this
  · rename_i r hr
    rw [hr]; simpa using this
  · cases this
theorem pow_bound (L : Nat) (h : L ≤ 18) : (10 : Int) ^ L ≤ 1000000000000000000 := by
  have hk : allN (fun i => decide ((10 : Int) ^ i ≤ 1000000000000000000)) 19 = true := by kernel_rfl
  simpa using allN_ok hk L (by omega)
theorem tmod10 {k : Int} (h : 0 ≤ k) : Int.tmod k 10 = k % 10 := Int.tmod_eq_emod_of_nonneg h
theorem tdiv10 {k : Int} (h : 0 ≤ k) : Int.tdiv k 10 = k / 10 := Int.tdiv_eq_ediv_of_nonneg h
theorem split_loop (k : Int) (i : Nat) (d : List Int) (h0 : 0 ≤ k) (h1 : k < 9223372036854775808) (hi : i ≤ 18) (hd : d.length = 18) :
    iterL (masks_split_l0 20000000) 20000000 (k, (i : Int) - 1, d) = some (over d 0 (dg i k)) := by
  have := iterL_inv (step := masks_split_l0 20000000) (fun x => (0 ≤ x.1 ∧ x.1 < 9223372036854775808) ∧ (-1 ≤ x.2.1 ∧ x.2.1 ≤ 17) ∧ x.2.2.length = 18) (fun x => (x.2.1 + 1).toNat)
    (fun x => over x.2.2 0 (dg (x.2.1 + 1).toNat x.1)) ?_ 20000000 (k, (i : Int) - 1, d) ⟨⟨h0, h1⟩, ⟨by simp only; omega, by simp only; omega⟩, hd⟩ (by simp only; omega)
  · simpa using this
  rintro ⟨k, i, d⟩ ⟨⟨h0, h1⟩, ⟨h2, h3⟩, hd⟩
  simp only at h0 h1 h2 h3 hd ⊢
  by_cases hi : 0 ≤ i
  · obtain ⟨j, rfl⟩ : ∃ j : Nat, i = j := ⟨i.toNat, by omega⟩
    have hj : j < 18 := by omega
    have e1 : decide ((j : Int) ≥ 0) = true := by simp
    have e2 : Nat.blt j 18 = true := Nat.ble_eq_true_of_le hj
    have w1 : IntKind.wrap .i64 ((j : Int) - 1) = (j : Int) - 1 := wrap_i64 _ (by omega) (by omega)
    have w2 : IntKind.wrap .i64 (Int.tdiv k 10) = k / 10 := by rw [tdiv10 h0]; exact wrap_i64 _ (by omega) (by omega)
    have w3 : IntKind.wrap .u8 (IntKind.wrap .i64 (48 + Int.tmod k 10)) = 48 + k % 10 := by rw [tmod10 h0, wrap_i64 _ (by omega) (by omega), wrap_u8 _ (by omega) (by omega)]
    refine .inl ⟨(k / 10, (j : Int) - 1, d.set j (48 + k % 10)), by simp only [masks_split_l0, e1, cond_true, ix_nat hj, ob, e2, w1, w2, w3], ⟨⟨by simp only; omega, by simp only; omega⟩, ⟨by simp only; omega, by simp only; omega⟩, by simpa using hd⟩, by simp only; omega, ?_⟩
    have s1 : ((j : Int) - 1 + 1).toNat = j := by omega
    have s2 : ((j : Int) + 1).toNat = j + 1 := by omega
    simp only [s1, s2, over, List.take_zero, List.nil_append, dg_len, Nat.zero_add, dg, List.append_assoc]
    congr 1
    rw [List.drop_set, if_neg (by omega), Nat.sub_self, List.drop_eq_getElem_cons (by omega)]
    simp only [List.set_cons_zero, List.length_append, dg_len, List.length_cons, List.length_nil, List.cons_append, List.nil_append, Nat.zero_add]
  · have e1 : decide (i ≥ 0) = false := by simp; omega
    have s : (i + 1).toNat = 0 := by omega
    refine .inr ?_
    simp only [masks_split_l0, e1, cond_false, s, dg, over_nil]
theorem split_eq (m : List UInt8) (k : Int) (hm : m.length ≤ 18) (h0 : 0 ≤ k) (h1 : k < 9223372036854775808) :
    masks_split 20000000 m k = some (over [0, 0, 0, 0, 0, 0, 0, 0, 0, 0, 0, 0, 0, 0, 0, 0, 0, 0] 0 (dg m.length k)) := by
  have w : IntKind.wrap .i64 (((List.length m : Nat) : Int) - 1) = (m.length : Int) - 1 := wrap_i64 _ (by omega) (by omega)
  simp only [masks_split, w, split_loop k m.length [0, 0, 0, 0, 0, 0, 0, 0, 0, 0, 0, 0, 0, 0, 0, 0, 0, 0] h0 h1 hm (by rfl), ob]
theorem over_get {d l : List Int} {i : Nat} (h : i < l.length) : (over d 0 l)[i]? = l[i]? := by
  unfold over
  simp only [List.take_zero, List.nil_append]
  rw [List.getElem?_append_left h]
theorem nums_bytes : ∀ (l : List Int), (∀ x ∈ l, 0 ≤ x ∧ x < 256) → nums (bytesOf l) = l
  | [], _ => rfl
  | x :: l, h => by
    have ih := nums_bytes l fun y hy => h y (List.mem_cons_of_mem _ hy)
    obtain ⟨h0, h1⟩ := h x (by simp)
    have e : (((UInt8.ofNat x.toNat).toNat : Nat) : Int) = x := by
      rw [UInt8.toNat_ofNat', Nat.mod_eq_of_lt (by omega)]; omega
    simp only [nums, bytesOf, List.map_map] at ih ⊢
    simp only [List.map_cons, Function.comp, e]
    rw [show List.map ((fun b : UInt8 => ((b.toNat : Nat) : Int)) ∘ fun n : Int => UInt8.ofNat n.toNat) l = l from ih]
theorem nums_len (l : List UInt8) : (nums l).length = l.length := by simp [nums]
def cnt : List UInt8 → Nat
  | [] => 0
  | c :: r => if c = 88 then cnt r + 1 else cnt r
def dv (c : UInt8) : Int := ((c.toNat : Nat) : Int) - 48
def nth : List UInt8 → Int → Int
  | [], _ => 0
  | c :: r, i => if c = 88 then 10 * nth r (i / 10) + i % 10 else 10 * nth r i + dv c
def ag : List UInt8 → Int → Bool
  | [], _ => true
  | c :: r, k => ag r (k / 10) && (decide (c = 88) || decide (dv c = k % 10))
def idx : List UInt8 → Int → Int
  | [], _ => 0
  | c :: r, k => if c = 88 then 10 * idx r (k / 10) + k % 10 else idx r (k / 10)
def okR (r : List UInt8) : Prop := ∀ c ∈ r, c = 88 ∨ (0 ≤ dv c ∧ dv c < 10)
theorem okR_of {m : List UInt8} (h : ∀ c ∈ m, okB c = true) : okR m.reverse := by
  intro c hc
  have := h c (List.mem_reverse.1 hc)
  simp only [okB, Bool.or_eq_true, beq_iff_eq, Bool.and_eq_true, decide_eq_true_eq] at this
  rcases this with h | h
  · exact .inl (UInt8.toNat_inj.1 (by simpa using h))
  · exact .inr (by unfold dv; omega)
theorem okR_tail {c : UInt8} {r : List UInt8} (h : okR (c :: r)) : okR r := fun x hx => h x (List.mem_cons_of_mem _ hx)
theorem pow_succ10 (n : Nat) : (10 : Int) ^ (n + 1) = 10 * 10 ^ n := by rw [Int.pow_succ, Int.mul_comm]
theorem pow_pos10 (n : Nat) : (0 : Int) < 10 ^ n := Int.pow_pos (by omega)
theorem nth_range : ∀ {r : List UInt8}, okR r → ∀ i, 0 ≤ i → 0 ≤ nth r i ∧ nth r i < 10 ^ r.length
  | [], _, i, _ => by simp [nth]
  | c :: r, h, i, hi => by
    simp only [nth, List.length_cons, pow_succ10]
    split
    · have := nth_range (okR_tail h) (i / 10) (by omega)
      omega
    · rename_i hc
      have := nth_range (okR_tail h) i hi
      have := (h c (by simp)).resolve_left hc
      omega
theorem ag_nth : ∀ {r : List UInt8}, okR r → ∀ i, 0 ≤ i → ag r (nth r i) = true
  | [], _, _, _ => rfl
  | c :: r, h, i, hi => by
    simp only [nth, ag]
    split
    · rename_i hc
      have e : (10 * nth r (i / 10) + i % 10) / 10 = nth r (i / 10) := by omega
      rw [e, ag_nth (okR_tail h) (i / 10) (by omega)]
      simp [hc]
    · rename_i hc
      have hd := (h c (by simp)).resolve_left hc
      have e : (10 * nth r i + dv c) / 10 = nth r i := by omega
      have e2 : (10 * nth r i + dv c) % 10 = dv c := by omega
      rw [e, e2, ag_nth (okR_tail h) i hi]
      simp
theorem idx_range : ∀ (r : List UInt8) (k : Int), 0 ≤ k → 0 ≤ idx r k ∧ idx r k < 10 ^ cnt r
  | [], k, _ => by simp [idx, cnt]
  | c :: r, k, hk => by
    have := idx_range r (k / 10) (by omega)
    simp only [idx, cnt]
    split
    · rw [pow_succ10]; omega
    · exact this
theorem nth_idx : ∀ {r : List UInt8} {k : Int}, 0 ≤ k → k < 10 ^ r.length → ag r k = true → nth r (idx r k) = k
  | [], k, h0, h1, _ => by simp at h1; simp [nth]; omega
  | c :: r, k, h0, h1, ha => by
    simp only [ag, Bool.and_eq_true, Bool.or_eq_true, decide_eq_true_eq] at ha
    rw [List.length_cons, pow_succ10] at h1
    have ih := nth_idx (r := r) (k := k / 10) (by omega) (by omega) ha.1
    simp only [nth, idx]
    split
    · have := idx_range r (k / 10) (by omega)
      have e : (10 * idx r (k / 10) + k % 10) / 10 = idx r (k / 10) := by omega
      have e2 : (10 * idx r (k / 10) + k % 10) % 10 = k % 10 := by omega
      rw [e, e2, ih]; omega
    · rename_i hc
      rw [ih]
      have := ha.2.resolve_left hc
      omega
theorem nth_mono : ∀ {r : List UInt8}, okR r → ∀ i j, 0 ≤ i → i < j → j < 10 ^ cnt r → nth r i < nth r j
  | [], _, i, j, h0, h1, h2 => by simp [cnt] at h2; omega
  | c :: r, h, i, j, h0, h1, h2 => by
    simp only [nth, cnt] at h2 ⊢
    split
    · rename_i hc
      rw [if_pos hc, pow_succ10] at h2
      by_cases hq : i / 10 = j / 10
      · rw [hq]; omega
      · have := nth_mono (okR_tail h) (i / 10) (j / 10) (by omega) (by omega) (by omega)
        omega
    · rename_i hc
      rw [if_neg hc] at h2
      have := nth_mono (okR_tail h) i j h0 h1 h2
      omega
theorem agree_ag : ∀ (r : List UInt8), ∀ k, agree r.reverse (dg r.length k) = ag r k
  | [], k => rfl
  | c :: r, k => by
    simp only [List.reverse_cons, List.length_cons, dg, ag]
    rw [agree_append (by rw [List.length_reverse, dg_len]), agree_ag r]
    have e1 : decide (((c.toNat : Nat) : Int) = 48 + k % 10) = decide (dv c = k % 10) := decide_eq_decide.2 (by unfold dv; omega)
    have e2 : (c == 88) = decide (c = 88) := by by_cases h : c = 88 <;> simp [h]
    simp only [agree, Bool.and_true, e1, e2]
theorem hasM_ag (m : List UInt8) (k : Int) : hasM m k = (decide (0 ≤ k) && (decide (k < 10 ^ m.length) && ag m.reverse k)) := by
  have := agree_ag m.reverse k
  rw [List.reverse_reverse, List.length_reverse] at this
  unfold hasM
  rw [this]
theorem cnt_count : ∀ (m : List UInt8), cnt m = m.count 88
  | [] => rfl
  | c :: m => by
    simp only [cnt, cnt_count m, List.count_cons]
    by_cases h : c = 88 <;> simp [h]
theorem cnt_reverse (m : List UInt8) : cnt m.reverse = cnt m := by rw [cnt_count, cnt_count, List.count_reverse]
theorem cnt_le : ∀ (m : List UInt8), cnt m ≤ m.length
  | [] => by simp [cnt]
  | c :: m => by
    have := cnt_le m
    simp only [cnt, List.length_cons]
    split <;> omega
theorem Count_eq {m : List UInt8} (hm : chk m = 0) : masks_Count 20000000 m = some (10 ^ cnt m, 0) := by
  obtain ⟨h18, _, _⟩ := chk_len hm
  have e0 : ((0 : Int) != 0) = false := by simp
  have hc : (Lib.countByte m (UInt8.ofNat (Int.toNat 88)) : Nat) = cnt m := by rw [cnt_count]; rfl
  have := cnt_le m
  simp only [masks_Count, masks_Check_eq 20000000 m (by omega), hm, ob, e0, cond_false, strings_Count, hc, power_eq (cnt m) (by omega)]
def fd (x y : Int) : Int := (if y = 88 then x else y) - 48
def fval (x : Int) (l : List Int) : Int := l.foldl (fun n y => 10 * n + fd x y) 0
theorem fold_lin (x : Int) : ∀ (l : List Int) (n : Int), l.foldl (fun n y => 10 * n + fd x y) n = n * 10 ^ l.length + fval x l
  | [], n => by simp [fval]
  | y :: l, n => by
    have e := fold_lin x l (10 * n + fd x y)
    have e2 := fold_lin x l (10 * 0 + fd x y)
    simp only [fval, List.foldl_cons, List.length_cons, pow_succ10] at e e2 ⊢
    rw [e, e2, Int.add_mul, Int.add_mul]
    have : 10 * n * 10 ^ l.length = n * (10 * 10 ^ l.length) := by rw [Int.mul_comm 10 n, Int.mul_assoc]
    omega
theorem filled_eq (s : List UInt8) (x : Int) (h18 : s.length ≤ 18) (hs : ∀ c ∈ s, 0 ≤ fd x ((c.toNat : Nat) : Int) ∧ fd x ((c.toNat : Nat) : Int) < 10) : masks_filled 20000000 s x = some (fval x (nums s)) := by
  have hs' : ∀ y ∈ nums s, 0 ≤ fd x y ∧ fd x y < 10 := by
    intro y hy
    obtain ⟨c, hc, rfl⟩ := List.mem_map.1 hy
    exact hs c hc
  have hl : (nums s).length = s.length := nums_len s
  have := iterL_inv (step := masks_filled_l0 20000000)
    (fun st => st.1 = x ∧ st.2.2.1 = ((s.length : Nat) : Int) ∧ st.2.2.2.2 = nums s ∧ (0 ≤ st.2.2.2.1 ∧ st.2.2.2.1 ≤ s.length) ∧ 0 ≤ st.2.1 ∧ st.2.1 < 10 ^ st.2.2.2.1.toNat) (fun st => s.length - st.2.2.2.1.toNat)
    (fun st => ((nums s).drop st.2.2.2.1.toNat).foldl (fun n y => 10 * n + fd x y) st.2.1) ?_ 20000000 (x, 0, ((s.length : Nat) : Int), 0, nums s) ⟨rfl, rfl, rfl, ⟨by simp, by simp⟩, by simp, by simp⟩ (by simp; omega)
  · show (ob (iterL (masks_filled_l0 20000000) 20000000 (x, 0, ((List.length (nums s) : Nat) : Int), 0, nums s)) fun y30 => some y30) = _
    rw [hl, this]
    rfl
  rintro ⟨x', n, len, i, l⟩ ⟨q1, q2, q3, ⟨h0, hi⟩, n0, n1⟩
  simp only at q1 q2 q3 h0 hi n0 n1 ⊢
  subst q1 q2 q3
  obtain ⟨j, rfl⟩ : ∃ j : Nat, i = j := ⟨i.toNat, by omega⟩
  simp only [Int.toNat_natCast] at n1 ⊢
  rcases Nat.lt_or_ge j s.length with hlt | hge
  · obtain ⟨y, hy⟩ : ∃ c, (nums s)[j]? = some c := ⟨(nums s)[j]'(by omega), List.getElem?_eq_getElem (by omega)⟩
    obtain ⟨d0, d1⟩ := hs' y (List.mem_of_getElem? hy)
    have hb : (decide ((j : Int) < ((s.length : Nat) : Int))) = true := by simp; omega
    have hw : IntKind.wrap .i64 ((j : Int) + 1) = ((j + 1 : Nat) : Int) := by rw [wrap_i64 _ (by omega) (by omega)]; omega
    have hb1 := pow_bound (j + 1) (by omega)
    rw [pow_succ10] at hb1
    have w1 : IntKind.wrap .i64 (10 * n) = 10 * n := wrap_i64 _ (by omega) (by omega)
    have w2 : ∀ z : Int, 0 ≤ z → z < 10 → IntKind.wrap .i64 (10 * n + IntKind.wrap .i64 (IntKind.wrap .u8 z)) = 10 * n + z := fun z z0 z1 => by
      rw [wrap_u8 z (by omega) (by omega), wrap_i64 z (by omega) (by omega), wrap_i64 _ (by omega) (by omega)]
    rw [drop_get hy, List.foldl_cons]
    simp only [masks_filled_l0, hb, cond_true, ix_nat (show j < (nums s).length by omega), ob, hy, hw, w1]
    have next : 0 ≤ 10 * n + fd x' y ∧ 10 * n + fd x' y < 10 ^ (j + 1) := by rw [pow_succ10]; omega
    by_cases h88 : y = 88
    · have e1 : (y == 88) = true := by simpa using h88
      have hd : fd x' y = x' - 48 := by simp [fd, h88]
      rw [hd] at d0 d1 next ⊢
      refine .inl ⟨(x', 10 * n + (x' - 48), ((s.length : Nat) : Int), ((j + 1 : Nat) : Int), nums s), by simp only [e1, cond_true, w2 _ d0 d1], ⟨rfl, rfl, rfl, ⟨by simp only; omega, by simp only; omega⟩, next.1, by simpa only [Int.toNat_natCast] using next.2⟩, by simp only [Int.toNat_natCast]; omega, by simp only [Int.toNat_natCast]⟩
    · have e1 : (y == 88) = false := by simpa using h88
      have hd : fd x' y = y - 48 := by simp [fd, h88]
      rw [hd] at d0 d1 next ⊢
      refine .inl ⟨(x', 10 * n + (y - 48), ((s.length : Nat) : Int), ((j + 1 : Nat) : Int), nums s), by simp only [e1, cond_false, w2 _ d0 d1], ⟨rfl, rfl, rfl, ⟨by simp only; omega, by simp only; omega⟩, next.1, by simpa only [Int.toNat_natCast] using next.2⟩, by simp only [Int.toNat_natCast]; omega, by simp only [Int.toNat_natCast]⟩
  · have hb : (decide ((j : Int) < ((s.length : Nat) : Int))) = false := by simp; omega
    refine .inr ?_
    simp only [masks_filled_l0, hb, cond_false]
    rw [List.drop_eq_nil_of_le (by omega)]; rfl
theorem fval_snoc (x : Int) (l : List Int) (y : Int) : fval x (l ++ [y]) = 10 * fval x l + fd x y := by simp [fval, List.foldl_append]
theorem nums_snoc (r : List UInt8) (c : UInt8) : nums ((c :: r).reverse) = nums r.reverse ++ [((c.toNat : Nat) : Int)] := by simp [nums]
theorem fd_byte (x : Int) (c : UInt8) : fd x ((c.toNat : Nat) : Int) = if c = 88 then x - 48 else dv c := by
  unfold fd dv
  by_cases h : c = 88
  · simp [h]
  · have : ¬ ((c.toNat : Nat) : Int) = 88 := fun e => h (UInt8.toNat_inj.1 (by simpa using (by omega : c.toNat = 88)))
    rw [if_neg this, if_neg h]
theorem fval_least : ∀ (r : List UInt8), fval 48 (nums r.reverse) = nth r 0
  | [] => rfl
  | c :: r => by
    rw [nums_snoc, fval_snoc, fval_least r, fd_byte]
    simp only [nth]
    split <;> simp
theorem fval_greatest : ∀ (r : List UInt8), fval 57 (nums r.reverse) = nth r (10 ^ cnt r - 1)
  | [] => rfl
  | c :: r => by
    have hp := pow_pos10 (cnt r)
    rw [nums_snoc, fval_snoc, fval_greatest r, fd_byte]
    simp only [nth, cnt]
    split
    · rw [pow_succ10]
      have e1 : (10 * (10 : Int) ^ cnt r - 1) / 10 = 10 ^ cnt r - 1 := by omega
      have e2 : (10 * (10 : Int) ^ cnt r - 1) % 10 = 9 := by omega
      rw [e1, e2]; omega
    · rfl
theorem fd_ok {m : List UInt8} (hok : ∀ c ∈ m, okB c = true) {x : Int} (hx : 48 ≤ x ∧ x < 58) : ∀ c ∈ m, 0 ≤ fd x ((c.toNat : Nat) : Int) ∧ fd x ((c.toNat : Nat) : Int) < 10 := by
  intro c hc
  rw [fd_byte]
  have := okR_of hok c (List.mem_reverse.2 hc)
  split
  · omega
  · rename_i h; exact this.resolve_left h
theorem Least_eq {m : List UInt8} (hm : chk m = 0) : masks_Least 20000000 m = some (nth m.reverse 0, 0) := by
  obtain ⟨h18, _, hok⟩ := chk_len hm
  have e0 : ((0 : Int) != 0) = false := by simp
  have := fval_least m.reverse
  rw [List.reverse_reverse] at this
  simp only [masks_Least, masks_Check_eq 20000000 m (by omega), hm, ob, e0, cond_false, filled_eq m 48 h18 (fd_ok hok (by omega)), this]
theorem Greatest_eq {m : List UInt8} (hm : chk m = 0) : masks_Greatest 20000000 m = some (nth m.reverse (10 ^ cnt m - 1), 0) := by
  obtain ⟨h18, _, hok⟩ := chk_len hm
  have e0 : ((0 : Int) != 0) = false := by simp
  have := fval_greatest m.reverse
  rw [List.reverse_reverse, cnt_reverse] at this
  simp only [masks_Greatest, masks_Check_eq 20000000 m (by omega), hm, ob, e0, cond_false, filled_eq m 57 h18 (fd_ok hok (by omega)), this]
theorem value_eq {m : List UInt8} {l : List Int} (z : List Int) (h18 : m.length ≤ 18) (hl : l.length = m.length) (hr : ∀ y ∈ l, 48 ≤ y ∧ y < 58) : masks_value 20000000 m (over z 0 l) = some (fval 0 l) := by
  have ht : List.take m.length (over z 0 l) = l := by
    unfold over
    rw [List.take_zero, List.nil_append, List.take_append_of_le_length (by omega), List.take_of_length_le (by omega)]
  have hn : nums (bytesOf l) = l := nums_bytes l fun y hy => by have := hr y hy; omega
  have hb : (bytesOf l).length = m.length := by simp [bytesOf, hl]
  simp only [masks_value, bx_nat h18, ob, Nat.zero_add, show Nat.ble m.length 18 = true from Nat.ble_eq_true_of_le h18, cond_true, List.drop_zero, ht]
  rw [filled_eq (bytesOf l) 0 (by omega) ?_, hn]
  intro c hc
  have hmem : ((c.toNat : Nat) : Int) ∈ l := by rw [← hn]; exact List.mem_map.2 ⟨c, hc, rfl⟩
  have := hr _ hmem
  unfold fd
  rw [if_neg (by omega)]; omega
theorem hasM_nth {m : List UInt8} (hm : chk m = 0) {i : Int} (h0 : 0 ≤ i) : hasM m (nth m.reverse i) = true := by
  obtain ⟨h18, _, hok⟩ := chk_len hm
  have hr := nth_range (okR_of hok) i h0
  rw [List.length_reverse] at hr
  rw [hasM_ag, ag_nth (okR_of hok) i h0, decide_eq_true hr.1, decide_eq_true hr.2]
  rfl
def vl : List Int → Int
  | [] => 0
  | y :: l => (y - 48) * 10 ^ l.length + vl l
def digl (l : List Int) : Prop := ∀ y ∈ l, 48 ≤ y ∧ y < 58
theorem digl_tail {y : Int} {l : List Int} (h : digl (y :: l)) : digl l := fun x hx => h x (List.mem_cons_of_mem _ hx)
theorem vl_range : ∀ {l : List Int}, digl l → 0 ≤ vl l ∧ vl l < 10 ^ l.length
  | [], _ => by simp [vl]
  | y :: l, h => by
    have ih := vl_range (digl_tail h)
    have hy := h y (by simp)
    have hp := pow_pos10 l.length
    simp only [vl, List.length_cons, pow_succ10]
    have a1 : 0 ≤ (y - 48) * 10 ^ l.length := Int.mul_nonneg (by omega) (by omega)
    have a2 : (y - 48) * 10 ^ l.length ≤ 9 * 10 ^ l.length := Int.mul_le_mul_of_nonneg_right (by omega) (by omega)
    omega
theorem vl_lt {y z : Int} {a b : List Int} (hl : a.length = b.length) (ha : digl a) (hb : digl b) (h : y < z) : vl (y :: a) < vl (z :: b) := by
  have h1 := vl_range ha
  have h2 := vl_range hb
  have hp := pow_pos10 a.length
  simp only [vl]
  rw [← hl] at h2 ⊢
  have a2 : (y - 48 + 1) * 10 ^ a.length ≤ (z - 48) * 10 ^ a.length := Int.mul_le_mul_of_nonneg_right (by omega) (by omega)
  rw [Int.add_mul] at a2
  omega
theorem vl_fval : ∀ {l : List Int}, digl l → fval 0 l = vl l
  | [], _ => rfl
  | y :: l, h => by
    have hy := h y (by simp)
    have e : fval 0 (y :: l) = l.foldl (fun n y => 10 * n + fd 0 y) (10 * 0 + fd 0 y) := rfl
    have e2 : fd 0 y = y - 48 := by unfold fd; rw [if_neg (by omega)]
    rw [e, fold_lin, vl_fval (digl_tail h), e2]
    simp only [vl, Int.mul_zero, Int.zero_add]
theorem vl_snoc {l : List Int} {y : Int} (h : digl (l ++ [y])) : vl (l ++ [y]) = 10 * vl l + (y - 48) := by
  have hy := h y (by simp)
  have hl : digl l := fun x hx => h x (by simp [hx])
  rw [← vl_fval h, ← vl_fval hl, fval_snoc]
  unfold fd; rw [if_neg (by omega)]
theorem vl_dg : ∀ (L : Nat) (k : Int), 0 ≤ k → k < 10 ^ L → vl (dg L k) = k
  | 0, k, h0, h1 => by simp at h1; simp [dg, vl]; omega
  | L + 1, k, h0, h1 => by
    rw [pow_succ10] at h1
    have := vl_dg L (k / 10) (by omega) (by omega)
    have hd := dg_range (L + 1) k
    simp only [dg] at hd ⊢
    rw [vl_snoc hd, this]; omega
theorem dg_vl {l : List Int} (h : digl l) : dg l.length (vl l) = l := by
  have go : ∀ (r : List Int), digl r.reverse → dg r.length (vl r.reverse) = r.reverse := by
    intro r
    induction r with
    | nil => intro _; rfl
    | cons y r ih =>
      intro h
      simp only [List.reverse_cons, List.length_cons] at h ⊢
      have hy := h y (by simp)
      rw [vl_snoc h]
      simp only [dg]
      have e1 : (10 * vl r.reverse + (y - 48)) / 10 = vl r.reverse := by omega
      have e2 : 48 + (10 * vl r.reverse + (y - 48)) % 10 = y := by omega
      rw [e1, e2, ih fun x hx => h x (List.mem_append.2 (.inl hx))]
  have := go l.reverse (by rw [List.reverse_reverse]; exact h)
  rwa [List.reverse_reverse, List.length_reverse] at this
def fst (up : Bool) : Int := cond up 48 57
def lst (up : Bool) : Int := cond up 57 48
def stp (up : Bool) (y : Int) : Int := cond up (y + 1) (y - 1)
def fil (up : Bool) (m : List UInt8) : List Int := m.map fun c => cond (decide (c = 88)) (fst up) ((c.toNat : Nat) : Int)
def nx (up : Bool) : List UInt8 → List Int → Option (List Int)
  | c :: m, y :: l =>
    if c = 88 then
      match nx up m l with
      | some r => some (y :: r)
      | none => if y = lst up then none else some (stp up y :: fil up m)
    else if ((c.toNat : Nat) : Int) = y then (nx up m l).map fun r => y :: r
    else if decide (((c.toNat : Nat) : Int) > y) = up then some (((c.toNat : Nat) : Int) :: fil up m) else none
  | _, _ => some []
def okM (m : List UInt8) : Prop := ∀ c ∈ m, okB c = true
theorem okM_tail {c : UInt8} {m : List UInt8} (h : okM (c :: m)) : okM m := fun x hx => h x (List.mem_cons_of_mem _ hx)
theorem ok_range {c : UInt8} (h : okB c = true) (h88 : ¬ c = 88) : 48 ≤ ((c.toNat : Nat) : Int) ∧ ((c.toNat : Nat) : Int) < 58 := by
  simp only [okB, Bool.or_eq_true, beq_iff_eq, Bool.and_eq_true, decide_eq_true_eq] at h
  have : ¬ c.toNat = 88 := fun e => h88 (UInt8.toNat_inj.1 (by simpa using e))
  omega
theorem fil_len (up : Bool) (m : List UInt8) : (fil up m).length = m.length := by simp [fil]
theorem fil_dig (up : Bool) {m : List UInt8} (h : okM m) : digl (fil up m) := by
  intro y hy
  obtain ⟨c, hc, rfl⟩ := List.mem_map.1 hy
  by_cases h88 : c = 88
  · simp only [decide_eq_true h88, cond_true]
    cases up <;> simp [fst]
  · simp only [decide_eq_false h88, cond_false]
    exact ok_range (h c hc) h88
theorem fil_agree (up : Bool) : ∀ (m : List UInt8), agree m (fil up m) = true
  | [] => rfl
  | c :: m => by
    have := fil_agree up m
    simp only [fil, List.map_cons, agree] at this ⊢
    rw [this]
    by_cases h88 : c = 88
    · simp [h88]
    · simp [h88]
def ahead (up : Bool) (a b : Int) : Prop := match up with | true => a ≤ b | false => b ≤ a
theorem fil_best (up : Bool) : ∀ {m : List UInt8} {e : List Int}, okM m → m.length = e.length → digl e → agree m e = true → ahead up (vl (fil up m)) (vl e)
  | [], [], _, _, _, _ => by cases up <;> simp [fil, vl, ahead]
  | c :: m, y :: e, hm, hl, he, ha => by
    simp only [List.length_cons, Nat.add_right_cancel_iff] at hl
    simp only [agree, Bool.and_eq_true, Bool.or_eq_true, beq_iff_eq, decide_eq_true_eq] at ha
    have ih := fil_best up (okM_tail hm) hl (digl_tail he) ha.2
    have hy := he y (by simp)
    have hfl := fil_len up m
    have h1 := fil_dig up (okM_tail hm)
    have same : ∀ z : Int, vl (z :: fil up m) = (z - 48) * 10 ^ m.length + vl (fil up m) := fun z => by rw [vl, hfl]
    have hcons : fil up (c :: m) = (cond (decide (c = 88)) (fst up) ((c.toNat : Nat) : Int)) :: fil up m := rfl
    rw [hcons]
    by_cases h88 : c = 88
    · simp only [decide_eq_true h88, cond_true]
      by_cases hyf : y = fst up
      · rw [← hyf, same, vl, ← hl]
        cases up <;> simp only [ahead] at ih ⊢ <;> omega
      · cases up
        · exact Int.le_of_lt (vl_lt (by rw [hfl, hl]) (digl_tail he) h1 (by simp [fst] at hyf ⊢; omega))
        · exact Int.le_of_lt (vl_lt (by rw [hfl, hl]) h1 (digl_tail he) (by simp [fst] at hyf ⊢; omega))
    · simp only [decide_eq_false h88, cond_false]
      rw [ha.1.resolve_left h88, same, vl, ← hl]
      cases up <;> simp only [ahead] at ih ⊢ <;> omega
  | [], _ :: _, _, h, _, _ => by simp at h
  | _ :: _, [], _, h, _, _ => by simp at h
theorem nx_ok (up : Bool) : ∀ {m : List UInt8} {l : List Int}, okM m → m.length = l.length → digl l →
    match nx up m l with
    | some r => r.length = m.length ∧ digl r ∧ agree m r = true ∧ ahead up (vl l) (vl r) ∧ ∀ e, e.length = m.length → digl e → agree m e = true → ahead up (vl l) (vl e) → ahead up (vl r) (vl e)
    | none => ∀ e, e.length = m.length → digl e → agree m e = true → ¬ ahead up (vl l) (vl e)
  | [], [], _, _, _ => by
    simp only [nx]
    refine ⟨rfl, by intro y hy; simp at hy, rfl, by cases up <;> simp [ahead], ?_⟩
    intro e h1 _ _ _
    simp only [List.length_nil] at h1
    rw [List.eq_nil_of_length_eq_zero h1]
    cases up <;> simp [ahead]
  | c :: m, y :: l, hm, hl, hd => by
    simp only [List.length_cons, Nat.add_right_cancel_iff] at hl
    have ih := nx_ok up (okM_tail hm) hl (digl_tail hd)
    have hy := hd y (by simp)
    have hdl := digl_tail hd
    have hfl := fil_len up m
    have hfd := fil_dig up (okM_tail hm)
    have hlt : ∀ {z w : Int} {a b : List Int}, a.length = m.length → b.length = m.length → digl a → digl b → z < w → vl (z :: a) < vl (w :: b) := fun h1 h2 h3 h4 h5 => vl_lt (by rw [h1, h2]) h3 h4 h5
    have hsame : ∀ (z : Int) {a b : List Int}, a.length = m.length → b.length = m.length → (ahead up (vl (z :: a)) (vl (z :: b)) ↔ ahead up (vl a) (vl b)) := fun z a b h1 h2 => by
      simp only [vl, h1, h2]
      cases up <;> simp only [ahead] <;> omega
    -- whatever is not beyond
    have beh : ∀ {z w : Int} {a b : List Int}, a.length = m.length → b.length = m.length → digl a → digl b → z ≠ w → (ahead up (vl (z :: a)) (vl (w :: b)) ↔ ahead up z w) := fun {z w a b} h1 h2 h3 h4 h5 => by
      rcases Int.lt_trichotomy z w with h | h | h
      · have := hlt h1 h2 h3 h4 h
        cases up <;> simp only [ahead] <;> omega
      · exact absurd h h5
      · have := hlt h2 h1 h4 h3 h
        cases up <;> simp only [ahead] <;> omega
    have cases_e : ∀ e : List Int, e.length = (c :: m).length → ∃ w a, e = w :: a ∧ a.length = m.length := fun e h => by
      match e, h with
      | w :: a, h => exact ⟨w, a, rfl, by simpa using h⟩
    by_cases h88 : c = 88
    · cases hn : nx up m l with
      | some r =>
        rw [hn] at ih
        obtain ⟨i1, i2, i3, i4, i5⟩ := ih
        simp only [nx, if_pos h88, hn]
        refine ⟨by simp [i1], fun z hz => ?_, by simp [agree, h88, i3], (hsame y hl.symm i1).2 i4, fun e e1 e2 e3 e4 => ?_⟩
        · rcases List.mem_cons.1 hz with rfl | hz
          · exact hy
          · exact i2 z hz
        · obtain ⟨w, a, rfl, ha⟩ := cases_e e e1
          simp only [agree, h88, beq_self_eq_true, Bool.true_or, Bool.true_and] at e3
          by_cases hw : y = w
          · subst hw
            exact (hsame y i1 ha).2 (i5 a ha (digl_tail e2) e3 ((hsame y hl.symm ha).1 e4))
          · exact (beh i1 ha i2 (digl_tail e2) hw).2 ((beh hl.symm ha hdl (digl_tail e2) hw).1 e4)
      | none =>
        rw [hn] at ih
        by_cases hlast : y = lst up
        · simp only [nx, if_pos h88, hn, if_pos hlast]
          intro e e1 e2 e3 e4
          obtain ⟨w, a, rfl, ha⟩ := cases_e e e1
          simp only [agree, h88, beq_self_eq_true, Bool.true_or, Bool.true_and] at e3
          have hw9 := e2 w (by simp)
          by_cases hw : y = w
          · subst hw
            exact ih a ha (digl_tail e2) e3 ((hsame y hl.symm ha).1 e4)
          · have := (beh hl.symm ha hdl (digl_tail e2) hw).1 e4
            cases up <;> simp only [ahead, lst, cond_true, cond_false] at this hlast <;> omega
        · simp only [nx, if_pos h88, hn, if_neg hlast]
          have hs : 48 ≤ stp up y ∧ stp up y < 58 ∧ y ≠ stp up y ∧ ahead up y (stp up y) ∧ ∀ w, w ≠ y → ahead up y w → ahead up (stp up y) w := by
            cases up <;> simp only [ahead, lst, stp, cond_true, cond_false] at hlast ⊢ <;> exact ⟨by omega, by omega, by omega, by omega, fun w h1 h2 => by omega⟩
          obtain ⟨s1, s2, s3, s4, s5⟩ := hs
          refine ⟨by simp [hfl], fun z hz => ?_, by simp [agree, h88, fil_agree], (beh hl.symm hfl hdl hfd s3).2 s4, fun e e1 e2 e3 e4 => ?_⟩
          · rcases List.mem_cons.1 hz with rfl | hz
            · exact ⟨s1, s2⟩
            · exact hfd z hz
          · obtain ⟨w, a, rfl, ha⟩ := cases_e e e1
            simp only [agree, h88, beq_self_eq_true, Bool.true_or, Bool.true_and] at e3
            by_cases hw : y = w
            · subst hw
              exact absurd ((hsame y hl.symm ha).1 e4) (ih a ha (digl_tail e2) e3)
            · have h9 := s5 w (fun h => hw h.symm) ((beh hl.symm ha hdl (digl_tail e2) hw).1 e4)
              by_cases hw2 : stp up y = w
              · rw [hw2]
                exact (hsame w hfl ha).2 (fil_best up (okM_tail hm) ha.symm (digl_tail e2) e3)
              · exact (beh hfl ha hfd (digl_tail e2) hw2).2 h9
    · have hcr := ok_range (hm c (by simp)) h88
      have hag : ∀ w a, agree (c :: m) (w :: a) = true → w = ((c.toNat : Nat) : Int) ∧ agree m a = true := fun w a h => by
        simp only [agree, Bool.and_eq_true, Bool.or_eq_true, beq_iff_eq, decide_eq_true_eq] at h
        exact ⟨(h.1.resolve_left h88).symm, h.2⟩
      by_cases hcy : ((c.toNat : Nat) : Int) = y
      · cases hn : nx up m l with
        | some r =>
          rw [hn] at ih
          obtain ⟨i1, i2, i3, i4, i5⟩ := ih
          simp only [nx, if_neg h88, if_pos hcy, hn, Option.map_some]
          refine ⟨by simp [i1], fun z hz => ?_, by simp [agree, hcy, i3], (hsame y hl.symm i1).2 i4, fun e e1 e2 e3 e4 => ?_⟩
          · rcases List.mem_cons.1 hz with rfl | hz
            · exact hy
            · exact i2 z hz
          · obtain ⟨w, a, rfl, ha⟩ := cases_e e e1
            obtain ⟨rfl, e3'⟩ := hag w a e3
            rw [hcy] at e4 ⊢
            exact (hsame y i1 ha).2 (i5 a ha (digl_tail e2) e3' ((hsame y hl.symm ha).1 e4))
        | none =>
          rw [hn] at ih
          simp only [nx, if_neg h88, if_pos hcy, hn, Option.map_none]
          intro e e1 e2 e3 e4
          obtain ⟨w, a, rfl, ha⟩ := cases_e e e1
          obtain ⟨rfl, e3'⟩ := hag w a e3
          rw [hcy] at e4
          exact ih a ha (digl_tail e2) e3' ((hsame y hl.symm ha).1 e4)
      · have hdir : decide (((c.toNat : Nat) : Int) > y) = up ↔ ahead up y ((c.toNat : Nat) : Int) := by
          cases up
          · simp only [decide_eq_false_iff_not, ahead]; omega
          · simp only [decide_eq_true_eq, ahead]; omega
        by_cases hup : decide (((c.toNat : Nat) : Int) > y) = up
        · simp only [nx, if_neg h88, if_neg hcy, if_pos hup]
          refine ⟨by simp [hfl], fun z hz => ?_, by simp [agree, fil_agree], (beh hl.symm hfl hdl hfd (fun h => hcy h.symm)).2 (hdir.1 hup), fun e e1 e2 e3 e4 => ?_⟩
          · rcases List.mem_cons.1 hz with rfl | hz
            · exact hcr
            · exact hfd z hz
          · obtain ⟨w, a, rfl, ha⟩ := cases_e e e1
            obtain ⟨rfl, e3'⟩ := hag w a e3
            exact (hsame _ hfl ha).2 (fil_best up (okM_tail hm) ha.symm (digl_tail e2) e3')
        · simp only [nx, if_neg h88, if_neg hcy, if_neg hup]
          intro e e1 e2 e3 e4
          obtain ⟨w, a, rfl, ha⟩ := cases_e e e1
          obtain ⟨rfl, e3'⟩ := hag w a e3
          exact hup (hdir.2 ((beh hl.symm ha hdl (digl_tail e2) (fun h => hcy h.symm)).1 e4))
  | [], _ :: _, _, h, _ => by simp at h
  | _ :: _, [], _, h, _ => by simp at h
def ap : List UInt8 → List Int → Nat
  | c :: m, y :: l => if c = 88 ∨ ((c.toNat : Nat) : Int) = y then ap m l + 1 else 0
  | _, _ => 0
theorem ap_le : ∀ (m : List UInt8) (l : List Int), ap m l ≤ m.length
  | [], _ => by simp [ap]
  | c :: m, [] => by simp [ap]
  | c :: m, y :: l => by
    have := ap_le m l
    simp only [ap, List.length_cons]
    split <;> omega
theorem ap_take : ∀ (m : List UInt8) (l : List Int), agree (m.take (ap m l)) (l.take (ap m l)) = true
  | [], _ => by simp [ap, agree]
  | c :: m, [] => by simp [ap, agree]
  | c :: m, y :: l => by
    have := ap_take m l
    simp only [ap]
    split
    · rename_i h
      simp only [List.take_succ_cons, agree, this, Bool.and_true, Bool.or_eq_true, beq_iff_eq, decide_eq_true_eq]
      exact h
    · rfl
theorem ap_stop : ∀ {m : List UInt8} {l : List Int} {c : UInt8} {y : Int}, m[ap m l]? = some c → l[ap m l]? = some y → ¬ c = 88 ∧ ¬ ((c.toNat : Nat) : Int) = y
  | [], _, c, y, h, _ => by simp at h
  | x :: m, [], c, y, _, h => by simp at h
  | x :: m, z :: l, c, y, h1, h2 => by
    by_cases h : x = 88 ∨ ((x.toNat : Nat) : Int) = z
    · simp only [ap, if_pos h, List.getElem?_cons_succ] at h1 h2
      exact ap_stop h1 h2
    · simp only [ap, if_neg h, List.getElem?_cons_zero, Option.some.injEq] at h1 h2
      subst h1 h2
      exact ⟨fun e => h (.inl e), fun e => h (.inr e)⟩
def bkn (up : Bool) : List UInt8 → List Int → List UInt8 → Option (List Int)
  | c :: m, y :: d, m' =>
    match bkn up m d m' with
    | some r => some (y :: r)
    | none => if c = 88 ∧ y ≠ lst up then some (stp up y :: fil up (m ++ m')) else none
  | _, _, _ => none
theorem nx_append (up : Bool) : ∀ {m m' : List UInt8} {d d' : List Int}, m.length = d.length → agree m d = true →
    nx up (m ++ m') (d ++ d') = match nx up m' d' with | some r => some (d ++ r) | none => bkn up m d m'
  | [], m', [], d', _, _ => by
    simp only [List.nil_append]
    cases nx up m' d' <;> rfl
  | c :: m, m', y :: d, d', hl, ha => by
    simp only [List.length_cons, Nat.add_right_cancel_iff] at hl
    simp only [agree, Bool.and_eq_true, Bool.or_eq_true, beq_iff_eq, decide_eq_true_eq] at ha
    have ih := nx_append up (m' := m') (d' := d') hl ha.2
    simp only [List.cons_append, nx, ih, bkn]
    by_cases h88 : c = 88
    · simp only [if_pos h88]
      cases nx up m' d' with
      | some r => rfl
      | none =>
        cases bkn up m d m' with
        | some r => rfl
        | none =>
          by_cases hy : y = lst up
          · simp [hy]
          · simp [hy, h88]
    · simp only [if_neg h88, if_pos (ha.1.resolve_left h88)]
      cases nx up m' d' with
      | some r => rfl
      | none =>
        cases bkn up m d m' with
        | some r => rfl
        | none => simp [h88]
  | [], _, _ :: _, _, h, _ => by simp at h
  | _ :: _, _, [], _, h, _ => by simp at h
theorem bkn_snoc (up : Bool) (c : UInt8) (y : Int) : ∀ {m m' : List UInt8} {d : List Int}, m.length = d.length →
    bkn up (m ++ [c]) (d ++ [y]) m' = if c = 88 ∧ y ≠ lst up then some (d ++ stp up y :: fil up m') else bkn up m d (c :: m')
  | [], m', [], _ => by simp [bkn]
  | x :: m, m', z :: d, hl => by
    simp only [List.length_cons, Nat.add_right_cancel_iff] at hl
    have ih := bkn_snoc up c y (m' := m') hl
    simp only [List.cons_append, bkn, ih]
    by_cases h : c = 88 ∧ y ≠ lst up
    · simp only [if_pos h]
    · simp only [if_neg h, List.append_assoc, List.cons_append, List.nil_append]
  | [], _, _ :: _, h => by simp at h
  | _ :: _, _, [], h => by simp at h
def bki (up : Bool) (m : List UInt8) (l : List Int) : Nat → Option Nat
  | 0 => none
  | j + 1 => if m[j]? = some 88 ∧ l[j]? ≠ some (lst up) then some j else bki up m l j
theorem bki_lt (up : Bool) (m : List UInt8) (l : List Int) : ∀ {j a : Nat}, bki up m l j = some a → a < j
  | 0, a, h => by simp [bki] at h
  | j + 1, a, h => by
    simp only [bki] at h
    split at h
    · simp only [Option.some.injEq] at h; omega
    · have := bki_lt up m l h; omega
theorem bkn_take (up : Bool) (m : List UInt8) (l : List Int) (hl : m.length = l.length) : ∀ j, j ≤ m.length →
    bkn up (m.take j) (l.take j) (m.drop j) = (bki up m l j).map fun a => l.take a ++ stp up (l.getD a 0) :: fil up (m.drop (a + 1))
  | 0, _ => by simp [bkn, bki]
  | j + 1, h => by
    obtain ⟨c, hc⟩ : ∃ c, m[j]? = some c := ⟨m[j]'(by omega), List.getElem?_eq_getElem (by omega)⟩
    obtain ⟨y, hy⟩ : ∃ c, l[j]? = some c := ⟨l[j]'(by omega), List.getElem?_eq_getElem (by omega)⟩
    have ih := bkn_take up m l hl j (by omega)
    rw [drop_get hc] at ih
    rw [List.take_add_one, List.take_add_one, hc, hy]
    simp only [Option.toList_some]
    rw [bkn_snoc up c y (by simp; omega), ih]
    have hg : l.getD j 0 = y := by rw [List.getD_eq_getElem?_getD, hy]; rfl
    simp only [bki, hc, hy, ne_eq, Option.some.injEq]
    by_cases hh : c = 88 ∧ ¬ y = lst up
    · rw [if_pos hh, if_pos hh, Option.map_some, hg]
    · rw [if_neg hh, if_neg hh]
section
variable {m : List UInt8} {l z : List Int}
theorem beyond_l0 (hl : m.length = l.length) (h18 : m.length ≤ 18) (k f g : Int) (up : Bool) :
    iterL (masks_beyond_l0 20000000) 20000000 (m, k, up, f, g, 0, over z 0 l, over z 0 l) = some (m, k, up, f, g, ((ap m l : Nat) : Int), over z 0 l, over z 0 l) := by
  have := iterL_inv (step := masks_beyond_l0 20000000) (fun x => x.1 = m ∧ (0 ≤ x.2.2.2.2.2.1 ∧ x.2.2.2.2.2.1 ≤ m.length) ∧ x.2.2.2.2.2.2.1 = over z 0 l) (fun x => m.length - x.2.2.2.2.2.1.toNat)
    (fun x => (x.1, x.2.1, x.2.2.1, x.2.2.2.1, x.2.2.2.2.1, x.2.2.2.2.2.1 + ((ap (m.drop x.2.2.2.2.2.1.toNat) (l.drop x.2.2.2.2.2.1.toNat) : Nat) : Int), x.2.2.2.2.2.2.1, x.2.2.2.2.2.2.2)) ?_ 20000000 (m, k, up, f, g, 0, over z 0 l, over z 0 l) ⟨rfl, ⟨by simp, by simp⟩, rfl⟩ (by simp; omega)
  · simpa using this
  rintro ⟨m', k, up, f, g, i, d, o⟩ ⟨q1, ⟨h0, hi⟩, q2⟩
  simp only at q1 h0 hi q2 ⊢
  subst q1 q2
  obtain ⟨j, rfl⟩ : ∃ j : Nat, i = j := ⟨i.toNat, by omega⟩
  simp only [Int.toNat_natCast]
  rcases Nat.lt_or_ge j m'.length with hlt | hge
  · obtain ⟨c, hc⟩ : ∃ c, m'[j]? = some c := ⟨m'[j], List.getElem?_eq_getElem hlt⟩
    obtain ⟨y, hy⟩ : ∃ c, l[j]? = some c := ⟨l[j]'(by omega), List.getElem?_eq_getElem (by omega)⟩
    have hg : (over z 0 l)[j]? = some y := by rw [over_get (by omega)]; exact hy
    have hb : (decide ((j : Int) < ((List.length m' : Nat) : Int))) = true := by simp; omega
    have hw : IntKind.wrap .i64 ((j : Int) + 1) = ((j + 1 : Nat) : Int) := by rw [wrap_i64 _ (by omega) (by omega)]; omega
    rw [drop_get hc, drop_get hy]
    simp only [masks_beyond_l0, hb, cond_true, sx_nat hc, ob, toNat_88, hw, ix_nat (show j < 18 by omega), hg, ap]
    by_cases h88 : c = 88
    · refine .inl ⟨(m', k, up, f, g, ((j + 1 : Nat) : Int), over z 0 l, o), by simp only [decide_eq_true h88, cond_true], ⟨rfl, ⟨by simp only; omega, by simp only; omega⟩, rfl⟩, by simp only [Int.toNat_natCast]; omega, ?_⟩
      simp only [Int.toNat_natCast, if_pos (show c = 88 ∨ ((c.toNat : Nat) : Int) = y from .inl h88)]
      congr 6; omega
    · simp only [decide_eq_false h88, cond_false]
      by_cases hcy : ((c.toNat : Nat) : Int) = y
      · have e : (((c.toNat : Nat) : Int) == y) = true := by simpa using hcy
        refine .inl ⟨(m', k, up, f, g, ((j + 1 : Nat) : Int), over z 0 l, o), by simp only [e, cond_true], ⟨rfl, ⟨by simp only; omega, by simp only; omega⟩, rfl⟩, by simp only [Int.toNat_natCast]; omega, ?_⟩
        simp only [Int.toNat_natCast, if_pos (show c = 88 ∨ ((c.toNat : Nat) : Int) = y from .inr hcy)]
        congr 6; omega
      · have e : (((c.toNat : Nat) : Int) == y) = false := by simpa using hcy
        refine .inr ?_
        simp only [e, cond_false, if_neg (show ¬ (c = 88 ∨ ((c.toNat : Nat) : Int) = y) from fun h => h.elim h88 hcy), Int.ofNat_zero, Int.add_zero, Int.natCast_zero]
  · have hb : (decide ((j : Int) < ((List.length m' : Nat) : Int))) = false := by simp; omega
    refine .inr ?_
    simp only [masks_beyond_l0, hb, cond_false]
    rw [List.drop_eq_nil_of_le hge]
    simp [ap]
theorem beyond_l1 (hl : m.length = l.length) (h18 : m.length ≤ 18) (f : Int) (up : Bool) (o : List Int) (i : Nat) (hi : i ≤ m.length) :
    iterL (masks_beyond_l1 20000000) 20000000 (m, up, f, lst up, (i : Int), over z 0 l, o) =
      some (match bki up m l i with | none => .inl (0, 16) | some a => .inr (m, up, f, ((a : Nat) : Int), o)) := by
  have := iterL_inv (step := masks_beyond_l1 20000000) (fun x => x.1 = m ∧ x.2.2.2.1 = lst up ∧ (0 ≤ x.2.2.2.2.1 ∧ x.2.2.2.2.1 ≤ m.length) ∧ x.2.2.2.2.2.1 = over z 0 l) (fun x => x.2.2.2.2.1.toNat)
    (fun x => match bki up m l x.2.2.2.2.1.toNat with | none => .inl (0, 16) | some a => .inr (x.1, x.2.1, x.2.2.1, ((a : Nat) : Int), x.2.2.2.2.2.2)) ?_ 20000000 (m, up, f, lst up, (i : Int), over z 0 l, o) ⟨rfl, rfl, ⟨by simp only; omega, by simp only; omega⟩, rfl⟩ (by simp; omega)
  · simpa using this
  rintro ⟨m', up', f, g, i, d, o⟩ ⟨q1, q3, ⟨h0, hi⟩, q2⟩
  simp only at q1 q3 h0 hi q2 ⊢
  subst q1 q2 q3
  obtain ⟨j, rfl⟩ : ∃ j : Nat, i = j := ⟨i.toNat, by omega⟩
  simp only [Int.toNat_natCast]
  rcases j with _ | j
  · refine .inr ?_
    have w : IntKind.wrap .i64 (((0 : Nat) : Int) - 1) = -1 := wrap_i64 _ (by omega) (by omega)
    simp only [masks_beyond_l1, w, show decide ((-1 : Int) < 0) = true from rfl, cond_true, bki]
  · have w : IntKind.wrap .i64 (((j + 1 : Nat) : Int) - 1) = (j : Int) := by rw [wrap_i64 _ (by omega) (by omega)]; omega
    have e0 : decide ((j : Int) < 0) = false := by simp
    obtain ⟨c, hc⟩ : ∃ c, m'[j]? = some c := ⟨m'[j]'(by omega), List.getElem?_eq_getElem (by omega)⟩
    obtain ⟨y, hy⟩ : ∃ c, l[j]? = some c := ⟨l[j]'(by omega), List.getElem?_eq_getElem (by omega)⟩
    have hg : (over z 0 l)[j]? = some y := by rw [over_get (by omega)]; exact hy
    simp only [masks_beyond_l1, w, e0, cond_false, sx_nat hc, ob, toNat_88, ix_nat (show j < 18 by omega), hg, bki, hc, hy, Option.some.injEq, ne_eq]
    by_cases h88 : c = 88
    · by_cases hy9 : y = lst up
      · have e : (y != lst up) = false := by simpa using hy9
        refine .inl ⟨(m', up', f, lst up, (j : Int), over z 0 l, o), by simp only [decide_eq_true h88, cond_true, e, cond_false], ⟨rfl, rfl, ⟨by simp only; omega, by simp only; omega⟩, rfl⟩, by simp only [Int.toNat_natCast]; omega, ?_⟩
        simp only [Int.toNat_natCast, if_neg (show ¬ (c = 88 ∧ ¬ y = lst up) from fun h => h.2 hy9)]
      · have e : (y != lst up) = true := by simpa using hy9
        refine .inr ?_
        simp only [decide_eq_true h88, cond_true, e, if_pos (show c = 88 ∧ ¬ y = lst up from ⟨h88, hy9⟩)]
    · refine .inl ⟨(m', up', f, lst up, (j : Int), over z 0 l, o), by simp only [decide_eq_false h88, cond_false], ⟨rfl, rfl, ⟨by simp only; omega, by simp only; omega⟩, rfl⟩, by simp only [Int.toNat_natCast]; omega, ?_⟩
      simp only [Int.toNat_natCast, if_neg (show ¬ (c = 88 ∧ ¬ y = lst up) from fun h => h88 h.1)]
theorem beyond_l2 (h18 : m.length ≤ 18) (up : Bool) (d : List Int) (hd : d.length = 18) (i : Nat) (hi : i ≤ m.length) :
    iterL (masks_beyond_l2 20000000) 20000000 (m, fst up, (i : Int), d) = some (m, over d i (fil up (m.drop i))) := by
  have := iterL_inv (step := masks_beyond_l2 20000000) (fun x => x.1 = m ∧ x.2.1 = fst up ∧ (0 ≤ x.2.2.1 ∧ x.2.2.1 ≤ m.length) ∧ x.2.2.2.length = 18) (fun x => m.length - x.2.2.1.toNat)
    (fun x => (m, over x.2.2.2 x.2.2.1.toNat (fil up (m.drop x.2.2.1.toNat)))) ?_ 20000000 (m, fst up, (i : Int), d) ⟨rfl, rfl, ⟨by simp only; omega, by simp only; omega⟩, hd⟩ (by simp; omega)
  · simpa using this
  rintro ⟨m', f, i, d⟩ ⟨q1, q3, ⟨h0, hi⟩, hd⟩
  simp only at q1 q3 h0 hi hd ⊢
  subst q1 q3
  obtain ⟨j, rfl⟩ : ∃ j : Nat, i = j := ⟨i.toNat, by omega⟩
  simp only [Int.toNat_natCast]
  rcases Nat.lt_or_ge j m'.length with hlt | hge
  · obtain ⟨c, hc⟩ : ∃ c, m'[j]? = some c := ⟨m'[j], List.getElem?_eq_getElem hlt⟩
    have hj : j < 18 := by omega
    have hb : (decide ((j : Int) < ((List.length m' : Nat) : Int))) = true := by simp; omega
    have hw : IntKind.wrap .i64 ((j : Int) + 1) = ((j + 1 : Nat) : Int) := by rw [wrap_i64 _ (by omega) (by omega)]; omega
    have e2 : Nat.blt j 18 = true := Nat.ble_eq_true_of_le hj
    have hcons : ∀ c : UInt8, fil up (c :: m'.drop (j + 1)) = (cond (decide (c = 88)) (fst up) ((c.toNat : Nat) : Int)) :: fil up (m'.drop (j + 1)) := fun _ => rfl
    rw [drop_get hc, hcons]
    simp only [masks_beyond_l2, hb, cond_true, sx_nat hc, ob, toNat_88, ix_nat hj, e2, hw]
    by_cases h88 : c = 88
    · refine .inl ⟨(m', fst up, ((j + 1 : Nat) : Int), (d.set j ((c.toNat : Nat) : Int)).set j (fst up)), by simp only [decide_eq_true h88, cond_true], ⟨rfl, rfl, ⟨by simp only; omega, by simp only; omega⟩, by simpa using hd⟩, by simp only [Int.toNat_natCast]; omega, ?_⟩
      simp only [Int.toNat_natCast, decide_eq_true h88, cond_true]
      rw [List.set_set, over_set _ _ _ _ (by omega)]
    · refine .inl ⟨(m', fst up, ((j + 1 : Nat) : Int), d.set j ((c.toNat : Nat) : Int)), by simp only [decide_eq_false h88, cond_false], ⟨rfl, rfl, ⟨by simp only; omega, by simp only; omega⟩, by simpa using hd⟩, by simp only [Int.toNat_natCast]; omega, ?_⟩
      simp only [Int.toNat_natCast, decide_eq_false h88, cond_false]
      rw [over_set _ _ _ _ (by omega)]
  · have hb : (decide ((j : Int) < ((List.length m' : Nat) : Int))) = false := by simp; omega
    refine .inr ?_
    simp only [masks_beyond_l2, hb, cond_false]
    rw [List.drop_eq_nil_of_le hge]
    simp [fil, over_nil]
theorem over_over (z l F : List Int) (i : Nat) (h : i + F.length = l.length) : over (over z 0 l) i F = over z 0 (l.take i ++ F) := by
  unfold over
  simp only [List.take_zero, List.nil_append, Nat.zero_add, List.length_append, List.length_take, Nat.min_eq_left (show i ≤ l.length by omega), h]
  rw [List.take_append_of_le_length (by omega), List.drop_append_of_le_length (by omega), List.drop_of_length_le (Nat.le_refl l.length)]
  simp
end
theorem beyond_eq {m : List UInt8} (hm : chk m = 0) (up : Bool) (k : Int) (h0 : 0 ≤ k) (h1 : k < 10 ^ m.length) :
    masks_beyond 20000000 m k up = some (match nx up m (dg m.length k) with | some r => (vl r, 0) | none => (0, 16)) := by
  obtain ⟨h18, _, hok⟩ := chk_len hm
  have hp := pow_bound m.length h18
  have hlen := dg_len m.length k
  have hrng := dg_range m.length k
  have hv := vl_dg m.length k h0 h1
  have hn := nx_ok up hok hlen.symm hrng
  have hsplit := split_eq m k h18 h0 (by omega)
  generalize dg m.length k = l at hlen hrng hv hn hsplit ⊢
  have hout : (over [0, 0, 0, 0, 0, 0, 0, 0, 0, 0, 0, 0, 0, 0, 0, 0, 0, 0] 0 l).length = 18 := by rw [over_len _ _ _ (by simp; omega)]; rfl
  -- after the loops
  have fin : ∀ r : List Int, nx up m l = some r → masks_value 20000000 m (over [0, 0, 0, 0, 0, 0, 0, 0, 0, 0, 0, 0, 0, 0, 0, 0, 0, 0] 0 r) = some (vl r) := by
    intro r hr
    rw [hr] at hn
    obtain ⟨i1, i2, _⟩ := hn
    rw [value_eq _ h18 i1 i2, vl_fval i2]
  have hap := ap_le m l
  have hagr := ap_take m l
  have happ := nx_append up (m := m.take (ap m l)) (m' := m.drop (ap m l)) (d := l.take (ap m l)) (d' := l.drop (ap m l)) (by simp; omega) hagr
  rw [List.take_append_drop, List.take_append_drop] at happ
  have hz0 : masks_split 20000000 m k = some (over [0, 0, 0, 0, 0, 0, 0, 0, 0, 0, 0, 0, 0, 0, 0, 0, 0, 0] 0 l) := hsplit
  generalize hzz : ([0, 0, 0, 0, 0, 0, 0, 0, 0, 0, 0, 0, 0, 0, 0, 0, 0, 0] : List Int) = z at hout fin hz0
  rcases Nat.lt_or_ge (ap m l) m.length with hlt | hge
  · obtain ⟨c, hc⟩ : ∃ c, m[ap m l]? = some c := ⟨m[ap m l], List.getElem?_eq_getElem hlt⟩
    obtain ⟨y, hy⟩ : ∃ c, l[ap m l]? = some c := ⟨l[ap m l]'(by omega), List.getElem?_eq_getElem (by omega)⟩
    obtain ⟨h88, hcy⟩ := ap_stop hc hy
    have hg : (over z 0 l)[ap m l]? = some y := by rw [over_get (by omega)]; exact hy
    have eL : (((ap m l : Nat) : Int) == ((List.length m : Nat) : Int)) = false := by simp; omega
    have hj : ap m l < 18 := by omega
    have hfc : fil up (m.drop (ap m l)) = ((c.toNat : Nat) : Int) :: fil up (m.drop (ap m l + 1)) := by
      rw [drop_get hc]; simp [fil, h88]
    have hbk := bkn_take up m l hlen.symm (ap m l) hap
    have hnx : nx up (m.drop (ap m l)) (l.drop (ap m l)) = if decide (((c.toNat : Nat) : Int) > y) = up then some (fil up (m.drop (ap m l))) else none := by
      rw [hfc, drop_get hc, drop_get hy]
      simp only [nx, if_neg h88, if_neg hcy]
    rw [hnx] at happ
    by_cases hup : decide (((c.toNat : Nat) : Int) > y) = up
    · rw [if_pos hup] at happ
      simp only at happ
      have f2 := fin _ happ
      rw [happ]
      simp only []
      rw [← over_over z l _ _ (by rw [fil_len, List.length_drop]; omega)] at f2
      have l2 := beyond_l2 h18 up _ hout (ap m l) hap
      cases up
      · have l0 := beyond_l0 (z := z) hlen.symm h18 k 57 48 false
        have l2' : iterL (masks_beyond_l2 20000000) 20000000 (m, 57, ((ap m l : Nat) : Int), over z 0 l) = _ := l2
        simp only [masks_beyond, Bool.not_false, cond_true, hz0, ob, l0, eL, cond_false, sx_nat hc, ix_nat hj, hg, hup, beq_self_eq_true, Bool.not_true, l2', f2]
      · have l0 := beyond_l0 (z := z) hlen.symm h18 k 48 57 true
        have l2' : iterL (masks_beyond_l2 20000000) 20000000 (m, 48, ((ap m l : Nat) : Int), over z 0 l) = _ := l2
        simp only [masks_beyond, Bool.not_true, cond_true, hz0, ob, l0, eL, cond_false, sx_nat hc, ix_nat hj, hg, hup, beq_self_eq_true, l2', f2]
    · rw [if_neg hup] at happ
      simp only [hbk] at happ
      have hne : (!(decide (((c.toNat : Nat) : Int) > y) == up)) = true := by
        cases up <;> cases hh : decide (((c.toNat : Nat) : Int) > y) <;> simp_all
      have l1 := beyond_l1 (z := z) hlen.symm h18 (fst up) up (over z 0 l) (ap m l) hap
      cases hb : bki up m l (ap m l) with
      | none =>
        rw [hb] at happ l1
        simp only [Option.map_none] at happ
        rw [happ]
        simp only [] at l1 ⊢
        cases up
        · have l0 := beyond_l0 (z := z) hlen.symm h18 k 57 48 false
          have l1' : iterL (masks_beyond_l1 20000000) 20000000 (m, false, 57, 48, ((ap m l : Nat) : Int), over z 0 l, over z 0 l) = _ := l1
          simp only [masks_beyond, Bool.not_false, cond_true, hz0, ob, l0, eL, cond_false, sx_nat hc, ix_nat hj, hg, hne, l1']
        · have l0 := beyond_l0 (z := z) hlen.symm h18 k 48 57 true
          have l1' : iterL (masks_beyond_l1 20000000) 20000000 (m, true, 48, 57, ((ap m l : Nat) : Int), over z 0 l, over z 0 l) = _ := l1
          simp only [masks_beyond, Bool.not_true, cond_true, hz0, ob, l0, eL, cond_false, sx_nat hc, ix_nat hj, hg, hne, l1']
      | some a =>
        have ha := bki_lt up m l hb
        obtain ⟨w, hw⟩ : ∃ c, l[a]? = some c := ⟨l[a]'(by omega), List.getElem?_eq_getElem (by omega)⟩
        have hga : (over z 0 l)[a]? = some w := by rw [over_get (by omega)]; exact hw
        have hgd : l.getD a 0 = w := by rw [List.getD_eq_getElem?_getD, hw]; rfl
        have hwr := hrng w (List.mem_of_getElem? hw)
        have haj : a < 18 := by omega
        have e2 : Nat.blt a 18 = true := Nat.ble_eq_true_of_le haj
        have w1 : IntKind.wrap .i64 ((a : Int) + 1) = ((a + 1 : Nat) : Int) := by rw [wrap_i64 _ (by omega) (by omega)]; omega
        rw [hb] at happ l1
        simp only [Option.map_some, hgd] at happ
        have f2 := fin _ happ
        rw [happ]
        simp only [] at l1 ⊢
        rw [← over_over z l _ _ (by rw [List.length_cons, fil_len, List.length_drop]; omega), ← over_set _ _ _ _ (by omega)] at f2
        have l2 := beyond_l2 h18 up ((over z 0 l).set a (stp up w)) (by simpa using hout) (a + 1) (by omega)
        cases up
        · have l0 := beyond_l0 (z := z) hlen.symm h18 k 57 48 false
          have l1' : iterL (masks_beyond_l1 20000000) 20000000 (m, false, 57, 48, ((ap m l : Nat) : Int), over z 0 l, over z 0 l) = some (.inr (m, false, 57, ((a : Nat) : Int), over z 0 l)) := l1
          have l2' : iterL (masks_beyond_l2 20000000) 20000000 (m, 57, ((a + 1 : Nat) : Int), (over z 0 l).set a (w - 1)) = _ := l2
          have w2 : IntKind.wrap .u8 (w - 1) = w - 1 := wrap_u8 _ (by omega) (by omega)
          simp only [masks_beyond, Bool.not_false, cond_true, hz0, ob, l0, eL, cond_false, sx_nat hc, ix_nat hj, hg, hne, l1', ix_nat haj, hga, e2, w1, w2, l2', f2]
        · have l0 := beyond_l0 (z := z) hlen.symm h18 k 48 57 true
          have l1' : iterL (masks_beyond_l1 20000000) 20000000 (m, true, 48, 57, ((ap m l : Nat) : Int), over z 0 l, over z 0 l) = some (.inr (m, true, 48, ((a : Nat) : Int), over z 0 l)) := l1
          have l2' : iterL (masks_beyond_l2 20000000) 20000000 (m, 48, ((a + 1 : Nat) : Int), (over z 0 l).set a (w + 1)) = _ := l2
          have w2 : IntKind.wrap .u8 (w + 1) = w + 1 := wrap_u8 _ (by omega) (by omega)
          simp only [masks_beyond, Bool.not_true, cond_true, hz0, ob, l0, eL, cond_false, sx_nat hc, ix_nat hj, hg, hne, l1', ix_nat haj, hga, e2, w1, w2, l2', f2]
  · have e : ap m l = m.length := by omega
    rw [e, List.drop_length, ← hlen, List.drop_length, List.take_length] at happ
    simp only [nx, List.append_nil] at happ
    have eL : (((ap m l : Nat) : Int) == ((List.length m : Nat) : Int)) = true := by rw [e]; simp
    rw [happ]
    simp only [hv]
    cases up
    · have l0 := beyond_l0 (z := z) hlen.symm h18 k 57 48 false
      simp only [masks_beyond, Bool.not_false, cond_true, hz0, ob, l0, eL]
    · have l0 := beyond_l0 (z := z) hlen.symm h18 k 48 57 true
      simp only [masks_beyond, Bool.not_true, cond_false, hz0, ob, l0, eL, cond_true]
def near (up : Bool) (m : List UInt8) (k : Int) : Option Int → Prop
  | some R => hasM m R = true ∧ ahead up k R ∧ ∀ e, hasM m e = true → ahead up k e → ahead up R e
  | none => ∀ e, hasM m e = true → ¬ ahead up k e
def res (o : Option Int) : Int × Int := match o with | some r => (r, 0) | none => (0, 16)
theorem hasM_dg {m : List UInt8} {e : Int} (h : hasM m e = true) : (dg m.length e).length = m.length ∧ digl (dg m.length e) ∧ agree m (dg m.length e) = true ∧ vl (dg m.length e) = e ∧ 0 ≤ e ∧ e < 10 ^ m.length := by
  unfold hasM at h
  simp only [Bool.and_eq_true, decide_eq_true_eq] at h
  exact ⟨dg_len _ _, dg_range _ _, h.2.2, vl_dg _ _ h.1 h.2.1, h.1, h.2.1⟩
theorem hasM_vl {m : List UInt8} {r : List Int} (h1 : r.length = m.length) (h2 : digl r) (h3 : agree m r = true) : hasM m (vl r) = true := by
  have hr := vl_range h2
  have hd := dg_vl h2
  rw [h1] at hr hd
  unfold hasM
  rw [hd, h3, decide_eq_true hr.1, decide_eq_true hr.2]; rfl
theorem beyond_near {m : List UInt8} (hm : chk m = 0) (up : Bool) (k : Int) (h0 : 0 ≤ k) (h1 : k < 10 ^ m.length) : ∃ o, masks_beyond 20000000 m k up = some (res o) ∧ near up m k o := by
  obtain ⟨h18, _, hok⟩ := chk_len hm
  have hn := nx_ok up hok (dg_len m.length k).symm (dg_range m.length k)
  have hv := vl_dg m.length k h0 h1
  refine ⟨(nx up m (dg m.length k)).map vl, ?_, ?_⟩
  · rw [beyond_eq hm up k h0 h1]
    cases nx up m (dg m.length k) <;> rfl
  · cases hx : nx up m (dg m.length k) with
    | none =>
      rw [hx] at hn
      intro e he ha
      obtain ⟨e1, e2, e3, e4, _⟩ := hasM_dg he
      exact hn _ e1 e2 e3 (by rw [hv, e4]; exact ha)
    | some r =>
      rw [hx] at hn
      obtain ⟨i1, i2, i3, i4, i5⟩ := hn
      refine ⟨hasM_vl i1 i2 i3, by rw [hv] at i4; exact i4, fun e he ha => ?_⟩
      obtain ⟨e1, e2, e3, e4, _⟩ := hasM_dg he
      have := i5 _ e1 e2 e3 (by rw [hv, e4]; exact ha)
      rwa [e4] at this
theorem hasM_idx {m : List UInt8} {e : Int} (h : hasM m e = true) : 0 ≤ idx m.reverse e ∧ idx m.reverse e < 10 ^ cnt m ∧ nth m.reverse (idx m.reverse e) = e := by
  rw [hasM_ag] at h
  simp only [Bool.and_eq_true, decide_eq_true_eq] at h
  obtain ⟨k0, k1, k2⟩ := h
  have := idx_range m.reverse e k0
  rw [cnt_reverse] at this
  exact ⟨this.1, this.2, nth_idx k0 (by rw [List.length_reverse]; exact k1) k2⟩
section
variable {m : List UInt8} (hm : chk m = 0)
include hm
theorem mono_le {i j : Int} (h0 : 0 ≤ i) (h1 : i ≤ j) (h2 : j < 10 ^ cnt m) : nth m.reverse i ≤ nth m.reverse j := by
  obtain ⟨h18, _, hok⟩ := chk_len hm
  rcases Int.lt_or_eq_of_le h1 with h | rfl
  · exact Int.le_of_lt (nth_mono (okR_of hok) i j h0 h (by rw [cnt_reverse]; exact h2))
  · exact Int.le_refl _
theorem within_eq (k : Int) : masks_within 20000000 m k = some (decide (0 ≤ k ∧ k < 10 ^ m.length)) := by
  obtain ⟨h18, _, hok⟩ := chk_len hm
  simp only [masks_within, power_eq m.length h18, ob]
  by_cases h0 : 0 ≤ k
  · have d0 : decide (k ≥ 0) = true := by simpa using h0
    simp only [d0, cond_true, h0, true_and, decide_true]
  · have d0 : decide (k ≥ 0) = false := by simpa using h0
    simp only [d0, cond_false, h0, false_and, decide_false]
theorem Next_near (k : Int) : ∃ o, masks_Next 20000000 m k = some (res o) ∧ near true m k o := by
  obtain ⟨h18, _, hok⟩ := chk_len hm
  have e0 : ((0 : Int) != 0) = false := by simp
  simp only [masks_Next, masks_Check_eq 20000000 m (by omega), hm, ob_ret, e0, cond_false, within_eq hm]
  by_cases h0 : k < 0
  · refine ⟨some (nth m.reverse 0), by simp only [decide_eq_true h0, cond_true, Least_eq hm, ob_ret, res], hasM_nth hm (by omega), ?_, fun e he ha => ?_⟩
    · have := (nth_range (okR_of hok) 0 (by omega)).1
      simp only [ahead]; omega
    · obtain ⟨i0, i1, i2⟩ := hasM_idx he
      have := mono_le hm (Int.le_refl 0) i0 i1
      simp only [ahead]; omega
  · by_cases h1 : k < 10 ^ m.length
    · obtain ⟨o, h2, h3⟩ := beyond_near hm true k (by omega) h1
      exact ⟨o, by simp only [decide_eq_false h0, cond_false, decide_eq_true (show 0 ≤ k ∧ k < 10 ^ m.length from ⟨by omega, h1⟩), Bool.not_true, h2, ob_ret], h3⟩
    · refine ⟨none, by simp only [decide_eq_false h0, cond_false, decide_eq_false (show ¬ (0 ≤ k ∧ k < 10 ^ m.length) from fun h => h1 h.2), Bool.not_false, cond_true, res], fun e he ha => ?_⟩
      obtain ⟨_, _, _, _, _, i⟩ := hasM_dg he
      simp only [ahead] at ha; omega
theorem Prev_near (k : Int) : ∃ o, masks_Prev 20000000 m k = some (res o) ∧ near false m k o := by
  obtain ⟨h18, _, hok⟩ := chk_len hm
  have e0 : ((0 : Int) != 0) = false := by simp
  simp only [masks_Prev, masks_Check_eq 20000000 m (by omega), hm, ob_ret, e0, cond_false, within_eq hm]
  by_cases h0 : k < 0
  · refine ⟨none, by simp only [decide_eq_true h0, cond_true, res], fun e he ha => ?_⟩
    obtain ⟨_, _, _, _, i, _⟩ := hasM_dg he
    simp only [ahead] at ha; omega
  · by_cases h1 : k < 10 ^ m.length
    · obtain ⟨o, h2, h3⟩ := beyond_near hm false k (by omega) h1
      exact ⟨o, by simp only [decide_eq_false h0, cond_false, decide_eq_true (show 0 ≤ k ∧ k < 10 ^ m.length from ⟨by omega, h1⟩), Bool.not_true, h2, ob_ret], h3⟩
    · have hp0 := pow_pos10 (cnt m)
      refine ⟨some (nth m.reverse (10 ^ cnt m - 1)), by simp only [decide_eq_false h0, cond_false, decide_eq_false (show ¬ (0 ≤ k ∧ k < 10 ^ m.length) from fun h => h1 h.2), Bool.not_false, cond_true, Greatest_eq hm, ob_ret, res], hasM_nth hm (by omega), ?_, fun e he ha => ?_⟩
      · have := (nth_range (okR_of hok) (10 ^ cnt m - 1) (by omega)).2
        rw [List.length_reverse] at this
        simp only [ahead]; omega
      · obtain ⟨i0, i1, i2⟩ := hasM_idx he
        have := mono_le hm i0 (show idx m.reverse e ≤ 10 ^ cnt m - 1 by omega) (by omega)
        simp only [ahead]; omega
end
end Go.Sh.Mk
namespace Go.Sh
open Go.Abs
def fitN (s : List UInt8) (g : Nat) : List Nat := (List.range' 1 g).filter (agr s)
def intsN (l : List Nat) : List Int := l.map fun k : Nat => (k : Int)
theorem intsN_len (l : List Nat) : (intsN l).length = l.length := by simp [intsN]
theorem sub_digit (c : UInt8) {j : Nat} (hj : j < 10) : (IntKind.wrap .i64 (IntKind.wrap .u8 (((c.toNat : Nat) : Int) - 48)) == ((j : Nat) : Int)) = (c == UInt8.ofNat (48 + j)) := by
  have hc := c.toNat_lt
  have hu := wrap_u8_range (((c.toNat : Nat) : Int) - 48)
  rw [wrap_i64 _ (by omega) (by omega), wrap_u8_eq, Bool.eq_iff_iff, beq_iff_eq, beq_iff_eq]
  have hn : (UInt8.ofNat (48 + j)).toNat = 48 + j := by simp; omega
  constructor
  · intro h
    apply UInt8.toNat_inj.1
    omega
  · rintro rfl
    omega
theorem fi_agrees (n : Nat) (a b : UInt8) {k : Nat} (h2 : k ≤ 31) : fillings_agrees n [a, b] (k : Int) = some (agr [a, b] k) := by
  have e1 : IntKind.wrap .i64 (Int.tdiv (k : Int) 10) = ((k / 10 : Nat) : Int) := by
    rw [show Int.tdiv (k : Int) 10 = ((k / 10 : Nat) : Int) from rfl, wrap_i64 _ (by omega) (by omega)]
  have e2 : Int.tmod (k : Int) 10 = ((k % 10 : Nat) : Int) := rfl
  have s0 : sx [a, b] 0 = some a := rfl
  have s1 : sx [a, b] 1 = some b := rfl
  have x88 : (88 : Int) = ((88 : Nat) : Int) := rfl
  unfold fillings_agrees
  simp only [s0, s1, ob, e1, e2]
  rw [sub_digit a (show k / 10 < 10 by omega), sub_digit b (show k % 10 < 10 by omega), x88, u8_int (by omega), u8_int (by omega)]
  show _ = some ((a == UInt8.ofNat 88 || a == UInt8.ofNat (48 + k / 10)) && (b == UInt8.ofNat 88 || b == UInt8.ofNat (48 + k % 10)))
  generalize (a == UInt8.ofNat 88) = p1
  generalize (b == UInt8.ofNat 88) = p2
  generalize (a == UInt8.ofNat (48 + k / 10)) = p3
  generalize (b == UInt8.ofNat (48 + k % 10)) = p4
  cases p1 <;> cases p2 <;> cases p3 <;> cases p4 <;> rfl
theorem room {k : Nat} (h : k ≤ 60000000) : Nat.ble (k + 1) mostRows = true := Nat.ble_eq_true_of_le (by unfold mostRows; omega)
theorem fit_loop {X Y : Type} {step : X → Option (X ⊕ Y)} {f : Nat → List Int → X} {y : List Int → Y} {p : Nat → Bool} {g : Nat} (hg : g ≤ 1000)
    (h : ∀ i out, i < g → out.length ≤ 1000 → step (f i out) = some (.inl (f (i + 1) (if p (i + 1) then out ++ [((i + 1 : Nat) : Int)] else out))))
    (he : ∀ out, step (f g out) = some (.inr (y out))) {N : Nat} (hN : g < N) : iterL step N (f 0 []) = some (y (intsN ((List.range' 1 g).filter p))) := by
  have go : ∀ (r i : Nat) (out : List Int), i + r = g → out.length ≤ i → ∀ N, r < N → iterL step N (f i out) = some (y (out ++ intsN ((List.range' (i + 1) r).filter p))) := by
    intro r
    induction r with
    | zero =>
      intro i out hi ho N hN
      obtain ⟨N, rfl⟩ : ∃ q, N = q + 1 := ⟨N - 1, by omega⟩
      obtain rfl : i = g := by omega
      rw [iterL, he]
      simp [intsN]
    | succ r ih =>
      intro i out hi ho N hN
      obtain ⟨N, rfl⟩ : ∃ q, N = q + 1 := ⟨N - 1, by omega⟩
      rw [iterL, h i out (by omega) (by omega)]
      show iterL step N _ = _
      by_cases hp : p (i + 1) = true
      · rw [if_pos hp, ih (i + 1) _ (by omega) (by simp; omega) N (by omega), List.range'_succ, List.filter_cons_of_pos hp]
        simp [intsN]
      · rw [if_neg hp, ih (i + 1) _ (by omega) (by omega) N (by omega), List.range'_succ, List.filter_cons_of_neg hp]
  have := go g 0 [] (by omega) (by simp) N hN
  simpa using this
theorem fi_fits (n : Nat) (hn : 100 < n) (a b : UInt8) {g : Nat} (hg : g ≤ 31) : fillings_fits n [a, b] (g : Int) = some (intsN (fitN [a, b] g)) := by
  unfold fillings_fits
  have := fit_loop (step := fillings_fits_l0 n) (f := fun i out => ([a, b], (g : Int), (i : Int), out)) (y := fun l => l) (p := agr [a, b]) (g := g) (by omega)
    (fun i out hi ho => by
      have w1 : IntKind.wrap .i64 ((i : Int) + 1) = ((i + 1 : Nat) : Int) := by rw [wrap_i64 _ (by omega) (by omega)]; omega
      unfold fillings_fits_l0
      simp only [w1]
      rw [decide_eq_true (show (i : Int) < (g : Int) by omega), fi_agrees n a b (by omega), room (by omega)]
      by_cases hp : agr [a, b] (i + 1) = true
      · rw [if_pos hp]; simp only [ob, hp, cond_true]
      · rw [if_neg hp]
        rw [Bool.not_eq_true] at hp
        simp only [ob, hp, cond_true, cond_false])
    (fun out => by
      unfold fillings_fits_l0
      simp only [decide_eq_false (show ¬ (g : Int) < (g : Int) by omega), cond_false])
    (N := n) (by omega)
  have h0 : iterL (fillings_fits_l0 n) n ([a, b], (g : Int), 0, ([] : List Int)) = _ := this
  rw [h0]
  rfl
def monI (m : List UInt8) : List Int := if m = [] then [0] else if 0 < sea m then [sea m] else intsN (fitN m 12)
def dayI (d : List UInt8) : List Int := if d = [] then [0] else intsN (fitN d 31)
theorem ne_nil_beq {l : List UInt8} (h : l ≠ []) : (l == ([] : List UInt8)) = false := beq_eq_false_iff_ne.2 h
theorem len2 {s : List UInt8} (h : s.length = 2) : ∃ a b, s = [a, b] := by
  match s, h with
  | [a, b], _ => exact ⟨a, b, rfl⟩
abbrev TF := Bool × Bool × List UInt8 × Int × Int × List UInt8 × List UInt8 × Int × Int × Int × List Int × List Int
theorem fi_of (n : Nat) (hn : 100 < n) (g l : Bool) (dg : List UInt8) (x q : Int) (m d : List UInt8) (k0 k1 k2 : Int) (hm : m = [] ∨ m.length = 2) (hd : d = [] ∨ d.length = 2) :
    ∃ s : TF ⊕ TF ⊕ TF ⊕ TF, fillings_of n g l dg x q m d k0 k1 k2 = some s ∧ (s = .inl (g, l, dg, x, q, m, d, k0, k1, k2, monI m, dayI d) ∨ s = .inr (.inl (g, l, dg, x, q, m, d, k0, k1, k2, monI m, dayI d)) ∨ s = .inr (.inr (.inl (g, l, dg, x, q, m, d, k0, k1, k2, monI m, dayI d))) ∨ s = .inr (.inr (.inr (g, l, dg, x, q, m, d, k0, k1, k2, monI m, dayI d)))) := by
  have hml : m.length ≤ 18 := by rcases hm with h | h; (rw [h]; simp); omega
  have hD : d ≠ [] → fillings_fits n d 31 = some (dayI d) := fun h => by
    obtain ⟨a, b, rfl⟩ := len2 (hd.resolve_left h)
    rw [show (31 : Int) = ((31 : Nat) : Int) from rfl, fi_fits n hn a b (by omega)]
    unfold dayI
    rw [if_neg h]
  have hD0 : d = [] → dayI d = [0] := fun h => by unfold dayI; rw [if_pos h]
  have hM : m ≠ [] → ¬ 0 < sea m → fillings_fits n m 12 = some (monI m) := fun h hs => by
    obtain ⟨a, b, rfl⟩ := len2 (hm.resolve_left h)
    rw [show (12 : Int) = ((12 : Nat) : Int) from rfl, fi_fits n hn a b (by omega)]
    unfold monI
    rw [if_neg h, if_neg hs]
  unfold fillings_of
  rw [df_Season n g l dg x q m d k0 k1 k2 hml]
  simp only [ob]
  by_cases hs : 0 < sea m
  · have h0 : m ≠ [] := by rintro rfl; exact absurd hs (by decide)
    have hm' : monI m = [sea m] := by unfold monI; rw [if_neg h0, if_pos hs]
    rw [decide_eq_true hs]
    by_cases h : d = []
    · refine ⟨_, ?_, .inr (.inl rfl)⟩
      rw [h, ← h, hD0 h, hm', h]; rfl
    · refine ⟨_, ?_, .inl rfl⟩
      rw [ne_nil_beq h, hD h, hm']; rfl
  · rw [decide_eq_false hs]
    by_cases h0 : m = []
    · have hm' : monI m = [0] := by unfold monI; rw [if_pos h0]
      by_cases h : d = []
      · refine ⟨_, ?_, .inr (.inr (.inr rfl))⟩
        rw [hD0 h, hm', h, h0]; rfl
      · refine ⟨_, ?_, .inr (.inr (.inl rfl))⟩
        rw [ne_nil_beq h, hD h, hm', h0]; rfl
    · rw [ne_nil_beq h0, hM h0 hs]
      by_cases h : d = []
      · refine ⟨_, ?_, .inr (.inl rfl)⟩
        rw [hD0 h, h]; rfl
      · refine ⟨_, ?_, .inl rfl⟩
        rw [ne_nil_beq h, hD h]; rfl
theorem ref_Months (n : Nat) (hn : 100 < n) (g l : Bool) (dg : List UInt8) (x q : Int) (m d : List UInt8) (k0 k1 k2 : Int) : circaref16_Months n g l dg x q m d k0 k1 k2 = some (monI m) := by
  unfold circaref16_Months
  by_cases h0 : m = []
  · unfold monI
    rw [if_pos h0, h0]; rfl
  · rw [ne_nil_beq h0, ref_Season n hn]
    simp only [ob, cond_false]
    unfold monI
    rw [if_neg h0]
    by_cases hs : 0 < sea m
    · rw [if_pos hs, decide_eq_true (show sea m > 0 from hs)]; rfl
    · rw [if_neg hs, decide_eq_false (show ¬ sea m > 0 from hs)]
      have := fit_loop (step := circaref16_Months_l0 n) (f := fun i out => (((i + 1 : Nat) : Int), g, l, dg, x, q, m, d, k0, k1, k2, out)) (y := fun l => l) (p := agr m) (g := 12) (by omega)
        (fun i out hi ho => by
          have w1 : IntKind.wrap .i64 (((i + 1 : Nat) : Int) + 1) = ((i + 1 + 1 : Nat) : Int) := by rw [wrap_i64 _ (by omega) (by omega)]; omega
          unfold circaref16_Months_l0
          simp only [d4, d8, w1]
          rw [decide_eq_true (show ((i + 1 : Nat) : Int) ≤ 12 by omega), ref_Agrees n m (i + 1) (by omega), room (by omega)]
          by_cases hp : agr m (i + 1) = true
          · rw [if_pos hp, if_pos hp]; rfl
          · rw [if_neg hp, if_neg hp]; rfl)
        (fun out => by
          unfold circaref16_Months_l0
          simp only [d4, d8, decide_eq_false (show ¬ ((12 + 1 : Nat) : Int) ≤ 12 by omega), cond_false])
        (N := n) (by omega)
      have h1 : iterL (circaref16_Months_l0 n) n (1, g, l, dg, x, q, m, d, k0, k1, k2, ([] : List Int)) = _ := this
      rw [h1]
      rfl
def leapI (y : Int) : Bool := decide (y % 4 = 0) && (decide (y % 100 ≠ 0) || decide (y % 400 = 0))
def lenI (y m : Int) : Int := if m = 4 ∨ m = 6 ∨ m = 9 ∨ m = 11 then 30 else if m = 2 then (if leapI y then 29 else 28) else 31
theorem tmod_0 (y : Int) {b : Int} (hb : 0 < b) : (Int.tmod y b == 0) = decide (y % b = 0) := by
  rw [Bool.eq_iff_iff, beq_iff_eq, decide_eq_true_iff]
  have h := Int.tmod_eq_emod (a := y) (b := b)
  have h1 := Int.emod_nonneg y (show b ≠ 0 by omega)
  have h2 := Int.emod_lt_of_pos y hb
  by_cases hc : 0 ≤ y ∨ b ∣ y
  · rw [if_pos hc] at h; omega
  · rw [if_neg hc] at h
    have hd : ¬ b ∣ y := fun e => hc (.inr e)
    have : y % b ≠ 0 := fun e => hd (Int.dvd_of_emod_eq_zero e)
    omega
theorem ref_Len (n : Nat) (y m : Int) : circaref16_Len n y m = some (lenI y m) := by
  have e100 : (Int.tmod y 100 != 0) = decide (y % 100 ≠ 0) := by
    rw [bne, tmod_0 y (by omega)]
    by_cases h : y % 100 = 0 <;> simp [h]
  unfold circaref16_Len
  rw [tmod_0 y (by omega), tmod_0 y (by omega), e100]
  have body : (cond (m == 2) (cond (decide (y % 4 = 0)) (cond (decide (y % 100 ≠ 0)) (some (29 : Int)) (cond (decide (y % 400 = 0)) (some 29) (some 28))) (some 28)) (some 31)) = some (if m = 2 then (if leapI y = true then 29 else 28) else 31) := by
    rw [cond_beq]
    by_cases h2 : m = 2
    · rw [if_pos h2, if_pos h2]
      unfold leapI
      cases decide (y % 4 = 0) <;> cases decide (y % 100 ≠ 0) <;> cases decide (y % 400 = 0) <;> rfl
    · rw [if_neg h2, if_neg h2]
  rw [body]
  unfold lenI
  by_cases h4 : m = 4
  · subst h4; rfl
  · by_cases h6 : m = 6
    · subst h6; rfl
    · by_cases h9 : m = 9
      · subst h9; rfl
      · by_cases h11 : m = 11
        · subst h11; rfl
        · rw [beq_eq_false_iff_ne.2 h4, beq_eq_false_iff_ne.2 h6, beq_eq_false_iff_ne.2 h9, beq_eq_false_iff_ne.2 h11, if_neg (show ¬ (m = 4 ∨ m = 6 ∨ m = 9 ∨ m = 11) by omega)]
          rfl
theorem before_eq (n : Nat) {y : Int} (h : -20000000000000000 ≤ y ∧ y ≤ 20000000000000000) : years_before n y = some (1 + (y - 1) / 4 - (y - 1) / 100 + (y - 1) / 400) := by
  unfold years_before
  rw [wrap_i64 (y - 1) (by omega) (by omega), div_fl n (by omega) (by omega) (by omega) (by omega), div_fl n (by omega) (by omega) (by omega) (by omega), div_fl n (by omega) (by omega) (by omega) (by omega)]
  show some _ = some _
  have h4 : -5000000000000001 ≤ (y - 1) / 4 ∧ (y - 1) / 4 ≤ 5000000000000001 := by omega
  have h100 : -5000000000000001 ≤ (y - 1) / 100 ∧ (y - 1) / 100 ≤ 5000000000000001 := by omega
  have h400 : -5000000000000001 ≤ (y - 1) / 400 ∧ (y - 1) / 400 ≤ 5000000000000001 := by omega
  generalize (y - 1) / 4 = a at *
  generalize (y - 1) / 100 = b at *
  generalize (y - 1) / 400 = c at *
  simp only []
  rw [wrap_i64 (1 * a) (by omega) (by omega), wrap_i64 (-1 * b) (by omega) (by omega), wrap_i64 (1 * c) (by omega) (by omega), wrap_i64 (1 + 1 * a) (by omega) (by omega), wrap_i64 (1 + 1 * a + -1 * b) (by omega) (by omega), wrap_i64 _ (by omega) (by omega)]
  congr 1
  omega
theorem leap_num (y : Int) : (1 + y / 4 - y / 100 + y / 400 > 1 + (y - 1) / 4 - (y - 1) / 100 + (y - 1) / 400) ↔ leapI y = true := by
  unfold leapI
  simp only [Bool.and_eq_true, Bool.or_eq_true, decide_eq_true_eq]
  omega
theorem leap_eq (n : Nat) {y : Int} (h : inCal y) : years_Leap n y = some (leapI y, 0) := by
  unfold years_Leap
  have h' := h
  unfold inCal at h'
  rw [years_Check_eq, if_pos h, wrap_i64 (y + 1) (by omega) (by omega), before_eq n (by omega), before_eq n (by omega), show y + 1 - 1 = y by omega]
  have hl := leap_num y
  show some (decide (1 + y / 4 - y / 100 + y / 400 > 1 + (y - 1) / 4 - (y - 1) / 100 + (y - 1) / 400), (0 : Int)) = _
  by_cases hb : leapI y = true
  · rw [hb, decide_eq_true (hl.2 hb)]
  · rw [Bool.not_eq_true] at hb
    rw [hb, decide_eq_false (fun e => by rw [hl.1 e] at hb; cases hb)]
theorem length_eq (n : Nat) {y : Int} (h : inCal y) {m : Nat} (h1 : 1 ≤ m) (h2 : m ≤ 12) : months_length n y (m : Int) = some (lenI y (m : Int)) := by
  unfold months_length
  rw [leap_eq n h]
  show cond (leapI y && ((m : Int) == 2)) _ _ = _
  have hix : IntKind.wrap .i64 ((m : Int) - 1) = ((m - 1 : Nat) : Int) := by rw [wrap_i64 _ (by omega) (by omega)]; omega
  rw [hix, ix_nat (show m - 1 < 12 by omega)]
  have hm : m = 1 ∨ m = 2 ∨ m = 3 ∨ m = 4 ∨ m = 5 ∨ m = 6 ∨ m = 7 ∨ m = 8 ∨ m = 9 ∨ m = 10 ∨ m = 11 ∨ m = 12 := by omega
  rcases hm with rfl | rfl | rfl | rfl | rfl | rfl | rfl | rfl | rfl | rfl | rfl | rfl <;> unfold lenI <;> cases leapI y <;> rfl
theorem mon_Len (n : Nat) {y : Int} (h : inCal y) {m : Nat} (h1 : 1 ≤ m) (h2 : m ≤ 12) : months_Len n y (m : Int) = some (lenI y (m : Int), 0) := by
  unfold months_Len
  rw [mcheck n h h1 h2, length_eq n h h1 h2]
  rfl
theorem lenI_range (y m : Int) : 28 ≤ lenI y m ∧ lenI y m ≤ 31 := by
  unfold lenI
  split
  · omega
  · split
    · split <;> omega
    · omega
def mostI (d : List UInt8) (y m : Int) : Int := if d = [] then 0 else lenI y m
def monthI (d : List UInt8) (y mo : Int) : List (Int × Int × Int) := ((dayI d).filter fun k => decide (k ≤ mostI d y mo)).map fun k => (y, mo, k)
def yearI (m d : List UInt8) (y : Int) : List (Int × Int × Int) := (monI m).flatMap (monthI d y)
theorem fit_loop2 {X Y A : Type} {step : X → Option (X ⊕ Y)} {f : Nat → List A → X} {y : List A → Y} {p : Nat → Bool} {e : Nat → A} {g : Nat} (out0 : List A)
    (h : ∀ i out, i < g → out.length ≤ out0.length + i → step (f i out) = some (.inl (f (i + 1) (if p (i + 1) then out ++ [e (i + 1)] else out))))
    (he : ∀ out, step (f g out) = some (.inr (y out))) {N : Nat} (hN : g < N) : iterL step N (f 0 out0) = some (y (out0 ++ ((List.range' 1 g).filter p).map e)) := by
  have go : ∀ (r i : Nat) (out : List A), i + r = g → out.length ≤ out0.length + i → ∀ N, r < N → iterL step N (f i out) = some (y (out ++ ((List.range' (i + 1) r).filter p).map e)) := by
    intro r
    induction r with
    | zero =>
      intro i out hi ho N hN
      obtain ⟨N, rfl⟩ : ∃ q, N = q + 1 := ⟨N - 1, by omega⟩
      obtain rfl : i = g := by omega
      rw [iterL, he]
      simp
    | succ r ih =>
      intro i out hi ho N hN
      obtain ⟨N, rfl⟩ : ∃ q, N = q + 1 := ⟨N - 1, by omega⟩
      rw [iterL, h i out (by omega) (by omega)]
      show iterL step N _ = _
      by_cases hp : p (i + 1) = true
      · rw [if_pos hp, ih (i + 1) _ (by omega) (by simp; omega) N (by omega), List.range'_succ, List.filter_cons_of_pos hp]
        simp
      · rw [if_neg hp, ih (i + 1) _ (by omega) (by omega) N (by omega), List.range'_succ, List.filter_cons_of_neg hp]
  exact go g 0 out0 (by omega) (by omega) N hN
theorem flat_loop {X Y A B : Type} {step : X → Option (X ⊕ Y)} {f : Nat → List A → X} {y : List A → Y} {F : B → List A} {L : List B} {c : Nat} (hc : ∀ b ∈ L, (F b).length ≤ c)
    (h : ∀ i b out, L[i]? = some b → out.length ≤ c * i → step (f i out) = some (.inl (f (i + 1) (out ++ F b))))
    (he : ∀ out, step (f L.length out) = some (.inr (y out))) {N : Nat} (hN : L.length < N) : iterL step N (f 0 []) = some (y (L.flatMap F)) := by
  have go : ∀ (r i : Nat) (out : List A), i + r = L.length → out.length ≤ c * i → ∀ N, r < N → iterL step N (f i out) = some (y (out ++ (L.drop i).flatMap F)) := by
    intro r
    induction r with
    | zero =>
      intro i out hi ho N hN
      obtain ⟨N, rfl⟩ : ∃ q, N = q + 1 := ⟨N - 1, by omega⟩
      obtain rfl : i = L.length := by omega
      rw [iterL, he]
      simp
    | succ r ih =>
      intro i out hi ho N hN
      obtain ⟨N, rfl⟩ : ∃ q, N = q + 1 := ⟨N - 1, by omega⟩
      have hb : L[i]? = some L[i] := List.getElem?_eq_getElem (by omega)
      rw [iterL, h i L[i] out hb ho]
      show iterL step N _ = _
      have hm := hc L[i] (List.getElem_mem _)
      rw [ih (i + 1) _ (by omega) (by rw [List.length_append, Nat.mul_add]; omega) N (by omega), List.drop_eq_getElem_cons (show i < L.length by omega), List.flatMap_cons, List.append_assoc]
  have := go L.length 0 [] (by omega) (by simp) N hN
  simpa using this
theorem days_eq (d : List UInt8) (L : Nat) (h : L ≤ 31) : (intsN (fitN d 31)).filter (fun k => decide (k ≤ (L : Int))) = intsN ((List.range' 1 L).filter (agr d)) := by
  have hs : List.range' 1 31 = List.range' 1 L ++ List.range' (1 + L) (31 - L) := by
    have := List.range'_append_1 (s := 1) (m := L) (n := 31 - L)
    rw [this, show L + (31 - L) = 31 by omega]
  unfold fitN intsN
  rw [hs, List.filter_append, List.map_append, List.filter_append]
  have e1 : (List.map (fun k : Nat => (k : Int)) (List.filter (agr d) (List.range' 1 L))).filter (fun k => decide (k ≤ (L : Int))) = List.map (fun k : Nat => (k : Int)) (List.filter (agr d) (List.range' 1 L)) := by
    rw [List.filter_eq_self]
    intro k hk
    obtain ⟨j, hj, rfl⟩ := List.mem_map.1 hk
    have := List.mem_range'_1.1 (List.mem_filter.1 hj).1
    exact decide_eq_true (by omega)
  have e2 : (List.map (fun k : Nat => (k : Int)) (List.filter (agr d) (List.range' (1 + L) (31 - L)))).filter (fun k => decide (k ≤ (L : Int))) = [] := by
    rw [List.filter_eq_nil_iff]
    intro k hk
    obtain ⟨j, hj, rfl⟩ := List.mem_map.1 hk
    have := List.mem_range'_1.1 (List.mem_filter.1 hj).1
    simp only [decide_eq_true_eq]
    omega
  rw [e1, e2, List.append_nil]
theorem fitN_len (s : List UInt8) (g : Nat) : (fitN s g).length ≤ g := by
  have := List.length_filter_le (agr s) (List.range' 1 g)
  rw [List.length_range'] at this
  exact this
theorem dayI_len (d : List UInt8) : (dayI d).length ≤ 31 := by
  unfold dayI
  split
  · simp
  · rw [intsN_len]; exact fitN_len d 31
theorem monI_len (m : List UInt8) : (monI m).length ≤ 12 := by
  unfold monI
  split
  · simp
  · split
    · simp
    · rw [intsN_len]; exact fitN_len m 12
theorem monthI_len (d : List UInt8) (y mo : Int) : (monthI d y mo).length ≤ 31 := by
  unfold monthI
  rw [List.length_map]
  exact Nat.le_trans (List.length_filter_le _ _) (dayI_len d)
theorem month_nil (y mo : Int) : monthI [] y mo = [(y, mo, 0)] := rfl
theorem month_days {d : List UInt8} (h : d ≠ []) (y mo : Int) : monthI d y mo = ((List.range' 1 (lenI y mo).toNat).filter (agr d)).map fun k : Nat => (y, mo, (k : Int)) := by
  have hr := lenI_range y mo
  unfold monthI dayI mostI
  rw [if_neg h, if_neg h]
  have := days_eq d (lenI y mo).toNat (by omega)
  rw [show (((lenI y mo).toNat : Nat) : Int) = lenI y mo by omega] at this
  rw [this, intsN, List.map_map]
  rfl
theorem ref_year16 (n : Nat) (hn : 100 < n) (g l : Bool) (dg : List UInt8) (x q : Int) (m d : List UInt8) (k0 k1 k2 : Int) (y : Int) :
    circaref16_year n g l dg x q m d k0 k1 k2 y = some (yearI m d y) := by
  have hml := monI_len m
  unfold circaref16_year
  rw [ref_Months n hn]
  have := flat_loop (step := circaref16_year_l0 n) (f := fun i out => (y, (i : Int), g, l, dg, x, q, m, d, k0, k1, k2, monI m, out)) (y := fun o => o) (F := monthI d y) (L := monI m) (c := 31) (fun b _ => monthI_len d y b)
    (fun i mo out hi ho => by
      have hil : i < (monI m).length := (List.getElem?_eq_some_iff.1 hi).1
      have w1 : IntKind.wrap .i64 ((i : Int) + 1) = ((i + 1 : Nat) : Int) := by rw [wrap_i64 _ (by omega) (by omega)]; omega
      unfold circaref16_year_l0
      simp only [d4, d8, w1]
      rw [decide_eq_true (show (i : Int) < (((monI m).length : Nat) : Int) by omega), ix_nat hil]
      by_cases hd : d = []
      · subst hd
        rw [month_nil]
        simp only [ob, hi, cond_true, room (show out.length ≤ 60000000 by omega)]
        rfl
      · rw [ne_nil_beq hd]
        have hr := lenI_range y mo
        have hin := fit_loop2 (step := circaref16_year_l1 n) (f := fun j o => (y, (i : Int), ((j + 1 : Nat) : Int), g, l, dg, x, q, m, d, k0, k1, k2, monI m, o)) (y := fun o => (y, (i : Int), g, l, dg, x, q, m, d, k0, k1, k2, monI m, o)) (p := agr d) (e := fun k => (y, mo, (k : Int))) (g := (lenI y mo).toNat) out
          (fun j o hj ho' => by
            have w2 : IntKind.wrap .i64 (((j + 1 : Nat) : Int) + 1) = ((j + 1 + 1 : Nat) : Int) := by rw [wrap_i64 _ (by omega) (by omega)]; omega
            unfold circaref16_year_l1
            simp only [d4, d8, w2, ix_nat hil, ob, hi, ref_Len]
            rw [decide_eq_true (show ((j + 1 : Nat) : Int) ≤ lenI y mo by omega), ref_Agrees n d (j + 1) (by omega), room (show o.length ≤ 60000000 by omega)]
            by_cases hp : agr d (j + 1) = true
            · rw [if_pos hp, if_pos hp]; rfl
            · rw [if_neg hp, if_neg hp]; rfl)
          (fun o => by
            unfold circaref16_year_l1
            simp only [d4, d8, ix_nat hil, ob, hi, ref_Len]
            rw [decide_eq_false (show ¬ (((lenI y mo).toNat + 1 : Nat) : Int) ≤ lenI y mo by omega)]
            rfl)
          (N := n) (by omega)
        have hin' : iterL (circaref16_year_l1 n) n (y, (i : Int), 1, g, l, dg, x, q, m, d, k0, k1, k2, monI m, out) = _ := hin
        simp only [cond_true, cond_false]
        rw [hin', month_days hd]
        simp only [ob, d4, d8, w1])
    (fun out => by
      unfold circaref16_year_l0
      simp only [d4, d8]
      rw [decide_eq_false (show ¬ (((monI m).length : Nat) : Int) < (((monI m).length : Nat) : Int) by omega)]
      rfl)
    (N := n) (by omega)
  have h0 : iterL (circaref16_year_l0 n) n (y, 0, g, l, dg, x, q, m, d, k0, k1, k2, monI m, ([] : List (Int × Int × Int))) = _ := this
  simp only [ob]
  rw [h0]
  rfl
theorem mtk_ag {a b c e : UInt8} (ha : isDig a = true ∨ a = 88) (hb : isDig b = true ∨ b = 88) (hc : isDig c = true ∨ c = 88) (he : isDig e = true ∨ e = 88) (w : Nat) :
    mtk [a, b, c, e] 4 w = Mk.ag [e, c, b, a] (w : Int) := by
  have one : ∀ (z : UInt8) (v : Nat), (decide (z = 88) || decide (z.toNat = 48 + v % 10)) = (decide (z = 88) || decide (Mk.dv z = (v : Int) % 10)) := by
    intro z v
    have : (z.toNat = 48 + v % 10) ↔ (Mk.dv z = (v : Int) % 10) := by unfold Mk.dv; omega
    rw [decide_eq_decide.2 this]
  have cast : ∀ v : Nat, (v : Int) / 10 = ((v / 10 : Nat) : Int) := fun v => by omega
  show ((decide (e = 88) || decide (e.toNat = 48 + w % 10)) && ((decide (c = 88) || decide (c.toNat = 48 + w / 10 % 10)) && ((decide (b = 88) || decide (b.toNat = 48 + w / 10 / 10 % 10)) && ((decide (a = 88) || decide (a.toNat = 48 + w / 10 / 10 / 10 % 10)) && true))))
    = ((((true && (decide (a = 88) || decide (Mk.dv a = (w : Int) / 10 / 10 / 10 % 10))) && (decide (b = 88) || decide (Mk.dv b = (w : Int) / 10 / 10 % 10))) && (decide (c = 88) || decide (Mk.dv c = (w : Int) / 10 % 10))) && (decide (e = 88) || decide (Mk.dv e = (w : Int) % 10)))
  rw [one e w, one c (w / 10), one b (w / 10 / 10), one a (w / 10 / 10 / 10), cast w, cast (w / 10), cast (w / 10 / 10)]
  generalize (decide (e = 88) || decide (Mk.dv e = (w : Int) % 10)) = p1
  generalize (decide (c = 88) || decide (Mk.dv c = ((w / 10 : Nat) : Int) % 10)) = p2
  generalize (decide (b = 88) || decide (Mk.dv b = ((w / 10 / 10 : Nat) : Int) % 10)) = p3
  generalize (decide (a = 88) || decide (Mk.dv a = ((w / 10 / 10 / 10 : Nat) : Int) % 10)) = p4
  cases p1 <;> cases p2 <;> cases p3 <;> cases p4 <;> rfl
theorem dig_okB {c : UInt8} (h : isDig c = true ∨ c = 88) : Mk.okB c = true := by
  rcases h with h | h
  · have h := (isDig_iff c).1 h
    unfold Mk.okB
    simp only [Bool.or_eq_true, Bool.and_eq_true, decide_eq_true_eq]
    right
    first | omega | (obtain ⟨h1, h2⟩ := h; constructor <;> omega)
  · subst h; decide
theorem mask_chk {d : List UInt8} (hl : d.length = 4) (h : ∀ c ∈ d, isDig c = true ∨ c = 88) : Mk.chk d = 0 := by
  unfold Mk.chk
  have : d.all Mk.okB = true := List.all_eq_true.2 fun c hc => dig_okB (h c hc)
  rw [if_neg (by omega), if_pos this, if_neg (by rintro rfl; simp at hl)]
theorem mtk_hasM {d : List UInt8} (hl : d.length = 4) (h : ∀ c ∈ d, isDig c = true ∨ c = 88) (w : Nat) : Mk.hasM d (w : Int) = true ↔ mtk d 4 w = true ∧ w / 10 ^ 4 = 0 := by
  obtain ⟨a, b, c, e, rfl⟩ : ∃ a b c e, d = [a, b, c, e] := by
    match d, hl with
    | [a, b, c, e], _ => exact ⟨a, b, c, e, rfl⟩
  rw [Mk.hasM_ag, mtk_ag (h a (by simp)) (h b (by simp)) (h c (by simp)) (h e (by simp)) w]
  simp only [Bool.and_eq_true, decide_eq_true_eq]
  show 0 ≤ (w : Int) ∧ (w : Int) < 10 ^ 4 ∧ Mk.ag [e, c, b, a] (w : Int) = true ↔ Mk.ag [e, c, b, a] (w : Int) = true ∧ w / 10 ^ 4 = 0
  have e4 : (10 : Int) ^ 4 = 10000 := by decide
  have e4' : (10 : Nat) ^ 4 = 10000 := by decide
  rw [e4, e4']
  constructor
  · rintro ⟨_, h2, h3⟩; exact ⟨h3, by omega⟩
  · rintro ⟨h3, h2⟩; exact ⟨by omega, by omega, h3⟩
theorem inP_mask {g l : Bool} {d : List UInt8} {x q : Int} (hok : okY g l d x q) (hX : hasX d = true) (v : Int) : inP g d x q v ↔ (Mk.hasM d (wOf g v) = true ∧ (g = true → 1 ≤ wOf g v)) := by
  obtain ⟨rfl, rfl, rfl, hl, hd⟩ := ok_mask hok hX
  unfold inP
  rw [memP_X hX]
  have hr : ∀ k : Int, Mk.hasM d k = true → 0 ≤ k ∧ k < 10000 := fun k hk => by
    have := (Mk.hasM_dg hk).2.2.2.2
    rw [hl] at this
    have e4 : (10 : Int) ^ 4 = 10000 := by decide
    omega
  constructor
  · rintro ⟨h1, h2, h3, h4, h5⟩
    have := (mtk_hasM hl hd (wOf g v).toNat).2 h5
    rw [show (((wOf g v).toNat : Nat) : Int) = wOf g v by omega] at this
    refine ⟨this, fun hg => ?_⟩
    have h0 : ¬ wOf g v = 0 := fun e => h4 ⟨hX, hg, e⟩
    omega
  · rintro ⟨h1, h2⟩
    have hr' := hr _ h1
    have hm := (mtk_hasM hl hd (wOf g v).toNat).1 (by rw [show (((wOf g v).toNat : Nat) : Int) = wOf g v by omega]; exact h1)
    have hv : v = wOf g v ∨ v = - wOf g v := by
      unfold wOf; split
      · right; omega
      · left; rfl
    refine ⟨by omega, by omega, hr'.1, ?_, hm⟩
    rintro ⟨_, hg, e⟩
    have := h2 hg
    omega
theorem inP_num {g l : Bool} {d : List UInt8} {x : Int} (hok : okY g l d x 0) (hX : hasX d = false) (v : Int) : inP g d x 0 v ↔ v = (if g then -((val d x.toNat : Nat) : Int) else ((val d x.toNat : Nat) : Int)) := by
  obtain ⟨k, q, rfl, hq, hN⟩ := ok_num hok hX
  have hs := hN.small
  have hv : dval 0 d * 10 ^ k = val d k := rfl
  rw [hv] at hs
  unfold E16 at hs
  unfold inP
  rw [memP_N hX]
  have hu : unitN d (k : Int).toNat (0 : Int).toNat = 1 := rfl
  rw [hu, Int.toNat_natCast, Nat.div_one, Nat.div_one, hX]
  unfold wOf
  cases g with
  | true =>
    simp only [if_true]
    constructor
    · rintro ⟨h1, h2, h3, _, h5⟩; omega
    · rintro rfl; refine ⟨by omega, by omega, by omega, by simp, by omega⟩
  | false =>
    simp only [Bool.false_eq_true, if_false]
    constructor
    · rintro ⟨h1, h2, h3, _, h5⟩; omega
    · rintro rfl; refine ⟨by omega, by omega, by omega, by simp, by omega⟩
def nearY (up : Bool) (Y : Int → Prop) (v : Int) (w : Int) (found : Bool) : Prop :=
  (found = true → Y w ∧ Mk.ahead up v w ∧ ∀ e, Y e → Mk.ahead up v e → Mk.ahead up w e) ∧ (found = false → ∀ e, Y e → ¬ Mk.ahead up v e)
theorem ahead_up (a b : Int) : Mk.ahead true a b ↔ a ≤ b := Iff.rfl
theorem ahead_dn (a b : Int) : Mk.ahead false a b ↔ b ≤ a := Iff.rfl
theorem res_eq (o : Option Int) : (Mk.res o).2 = 0 ∧ (∃ r, o = some r ∧ (Mk.res o).1 = r) ∨ (Mk.res o).2 = 16 ∧ o = none ∧ (Mk.res o).1 = 0 := by
  cases o with
  | none => exact .inr ⟨rfl, rfl, rfl⟩
  | some r => exact .inl ⟨rfl, r, rfl, rfl⟩
theorem fi_masked_up {m : List UInt8} (hm : Mk.chk m = 0) (v least : Int) (h0 : 0 ≤ least) : ∃ w f, fillings_masked 20000000 m v true least = some (w, f) ∧ nearY true (fun e => Mk.hasM m e = true ∧ least ≤ e) v w f ∧ (0 ≤ w ∧ w < 1000000000000000000) := by
  obtain ⟨o, h1, h2⟩ := Mk.Next_near hm (cond (decide (least > v)) least v)
  unfold fillings_masked
  rw [h1]
  simp only [ob, cond_true]
  have hc : (cond (decide (least > v)) least v) = max v least := by
    by_cases h : least > v
    · rw [decide_eq_true h]; show least = _; omega
    · rw [decide_eq_false h]; show v = _; omega
  rw [hc] at h2
  rcases res_eq o with ⟨e1, r, rfl, e2⟩ | ⟨e1, rfl, e2⟩
  · refine ⟨_, _, rfl, ?_, ?_⟩
    · rw [e1, e2]
      obtain ⟨a1, a2, a3⟩ := h2
      rw [ahead_up] at a2
      refine ⟨fun _ => ⟨⟨a1, by omega⟩, ?_, fun e he hv => ?_⟩, fun h => by cases h⟩
      · rw [ahead_up]; omega
      · rw [ahead_up] at hv
        exact a3 e he.1 (by rw [ahead_up]; have := he.2; omega)
    · have := (Mk.hasM_dg h2.1).2.2.2.2
      have hl := Mk.chk_len hm
      have hp : (10 : Int) ^ m.length ≤ 10 ^ 18 := by
        have := Nat.pow_le_pow_right (show 0 < 10 by decide) hl.1
        exact_mod_cast this
      have e18 : (10 : Int) ^ 18 = 1000000000000000000 := by decide
      rw [e2]
      omega
  · refine ⟨_, _, rfl, ?_, by rw [e2]; omega⟩
    rw [e1]
    refine ⟨(fun h => by cases h), fun _ e he hv => ?_⟩
    rw [ahead_up] at hv
    exact h2 e he.1 (by rw [ahead_up]; have := he.2; omega)
theorem fi_masked_dn {m : List UInt8} (hm : Mk.chk m = 0) (v least : Int) (h0 : 0 ≤ least) : ∃ w f, fillings_masked 20000000 m v false least = some (w, f) ∧ nearY false (fun e => Mk.hasM m e = true ∧ least ≤ e) v w f ∧ (0 ≤ w ∧ w < 1000000000000000000) := by
  obtain ⟨o, h1, h2⟩ := Mk.Prev_near hm v
  unfold fillings_masked
  rw [h1]
  simp only [ob, cond_false]
  rcases res_eq o with ⟨e1, r, rfl, e2⟩ | ⟨e1, rfl, e2⟩
  · rw [e1, e2]
    obtain ⟨a1, a2, a3⟩ := h2
    rw [ahead_dn] at a2
    have hb := (Mk.hasM_dg a1).2.2.2.2
    have hl := Mk.chk_len hm
    have hp : (10 : Int) ^ m.length ≤ 10 ^ 18 := by
      have := Nat.pow_le_pow_right (show 0 < 10 by decide) hl.1
      exact_mod_cast this
    have e18 : (10 : Int) ^ 18 = 1000000000000000000 := by decide
    refine ⟨_, _, rfl, ?_, by omega⟩
    by_cases hle : r ≥ least
    · rw [decide_eq_true hle]
      refine ⟨fun _ => ⟨⟨a1, by omega⟩, by rw [ahead_dn]; omega, fun e he hv => a3 e he.1 hv⟩, fun h => by cases h⟩
    · rw [decide_eq_false hle]
      refine ⟨(fun h => by cases h), fun _ e he hv => ?_⟩
      have := a3 e he.1 hv
      rw [ahead_dn] at this
      have := he.2
      omega
  · rw [e1, e2]
    refine ⟨_, _, rfl, ?_, by omega⟩
    refine ⟨(fun h => by cases h), fun _ e he hv => h2 e he.1 hv⟩
theorem fi_year {g l : Bool} {dg : List UInt8} {x : Int} (hok : okY g l dg x 0) (m d : List UInt8) (k0 k1 k2 : Int) (v : Int) (hv : -9223372036854775808 ≤ v ∧ v < 9223372036854775808) (up : Bool) (ms ds : List Int) :
    ∃ w f, fillings_form_year 20000000 g l dg x 0 m d k0 k1 k2 v up ms ds = some (w, f) ∧ nearY up (inP g dg x 0) v w f := by
  have hsm := ok_small hok
  unfold fillings_form_year
  rw [yf_Masked]
  simp only [ob]
  cases hX : hasX dg with
  | false =>
    have hin := inP_num hok hX
    rw [yf_Value 20000000 g l dg x 0 (by omega) (by omega), if_pos ⟨hok, hX⟩]
    simp only [Bool.not_false, cond_true]
    generalize (if g then -((val dg x.toNat : Nat) : Int) else ((val dg x.toNat : Nat) : Int)) = w at *
    cases up with
    | true =>
      by_cases h : w ≥ v
      · refine ⟨w, true, ?_, ?_⟩
        · simp only [decide_eq_true h, cond_true]
        · refine ⟨fun _ => ⟨(hin w).2 rfl, h, fun e he _ => ?_⟩, fun h => by cases h⟩
          rw [(hin e).1 he]; exact Int.le_refl _
      · refine ⟨w, false, ?_, ?_⟩
        · simp only [decide_eq_false h, cond_true, cond_false, Bool.not_true]
        · refine ⟨(fun h => by cases h), fun _ e he ha => ?_⟩
          rw [(hin e).1 he, ahead_up] at ha; omega
    | false =>
      by_cases h : w ≤ v
      · refine ⟨w, true, ?_, ?_⟩
        · simp only [decide_eq_true h, cond_true, cond_false, Bool.not_false]
        · refine ⟨fun _ => ⟨(hin w).2 rfl, h, fun e he _ => ?_⟩, fun h => by cases h⟩
          rw [(hin e).1 he]; exact Int.le_refl _
      · refine ⟨w, false, ?_, ?_⟩
        · simp only [decide_eq_false h, cond_true, cond_false, Bool.not_false]
        · refine ⟨(fun h => by cases h), fun _ e he ha => ?_⟩
          rw [(hin e).1 he, ahead_dn] at ha; omega
  | true =>
    have hin := inP_mask hok hX
    obtain ⟨rfl, rfl, _, hl, hd⟩ := ok_mask hok hX
    have hm := mask_chk hl hd
    simp only [Bool.not_true, cond_false]
    cases g with
    | false =>
      simp only [Bool.not_false, cond_true]
      have same : ∀ w f, nearY up (fun e => Mk.hasM dg e = true ∧ 0 ≤ e) v w f → nearY up (inP false dg 0 0) v w f := fun w f h => by
        have hiff : ∀ e, (Mk.hasM dg e = true ∧ 0 ≤ e) ↔ inP false dg 0 0 e := fun e => by
          rw [hin e]
          constructor
          · rintro ⟨h1, _⟩; exact ⟨h1, fun h => by cases h⟩
          · rintro ⟨h1, _⟩; exact ⟨h1, (Mk.hasM_dg h1).2.2.2.2.1⟩
        refine ⟨fun hf => ?_, fun hf e he => h.2 hf e ((hiff e).2 he)⟩
        obtain ⟨b1, b2, b3⟩ := h.1 hf
        exact ⟨(hiff w).1 b1, b2, fun e he => b3 e ((hiff e).2 he)⟩
      cases up with
      | true =>
        obtain ⟨w, f, h1, h2, _⟩ := fi_masked_up hm v 0 (by omega)
        exact ⟨w, f, by rw [h1], same w f h2⟩
      | false =>
        obtain ⟨w, f, h1, h2, _⟩ := fi_masked_dn hm v 0 (by omega)
        exact ⟨w, f, by rw [h1], same w f h2⟩
    | true =>
      simp only [Bool.not_true, cond_false]
      have hc : IntKind.wrap .i64 (0 - (cond (decide (((-9223372036854775807) : Int) > v)) (-9223372036854775807) v)) = min (-v) 9223372036854775807 := by
        by_cases h : ((-9223372036854775807) : Int) > v
        · rw [decide_eq_true h, cond_true, wrap_i64 _ (by omega) (by omega)]; omega
        · rw [decide_eq_false h, cond_false, wrap_i64 _ (by omega) (by omega)]; omega
      rw [hc]
      have hb : ∀ e, Mk.hasM dg e = true → 0 ≤ e ∧ e < 10000 := fun e he => by
        have := (Mk.hasM_dg he).2.2.2.2
        rw [hl] at this
        have e4 : (10 : Int) ^ 4 = 10000 := by decide
        omega
      have hiff : ∀ e, inP true dg 0 0 e ↔ (Mk.hasM dg (-e) = true ∧ 1 ≤ -e) := fun e => by
        rw [hin e]
        exact ⟨fun h => ⟨h.1, h.2 rfl⟩, fun h => ⟨h.1, fun _ => h.2⟩⟩
      have hw : ∀ w : Int, 0 ≤ w ∧ w < 1000000000000000000 → IntKind.wrap .i64 (0 - w) = -w := fun w h => by rw [wrap_i64 _ (by omega) (by omega)]; omega
      cases up with
      | true =>
        obtain ⟨w, f, h1, h2, h3⟩ := fi_masked_dn hm (min (-v) 9223372036854775807) 1 (by omega)
        refine ⟨-w, f, by rw [Bool.not_true, h1]; simp only [hw w h3], ?_, ?_⟩
        · intro hf
          obtain ⟨b1, b2, b3⟩ := h2.1 hf
          rw [ahead_dn] at b2
          refine ⟨(hiff _).2 (by rw [Int.neg_neg]; exact b1), by rw [ahead_up]; omega, fun e he ha => ?_⟩
          rw [ahead_up] at ha
          have hh := (hiff e).1 he
          have := b3 (-e) hh (by rw [ahead_dn]; have := hb _ hh.1; omega)
          rw [ahead_dn] at this
          rw [ahead_up]; omega
        · intro hf e he ha
          rw [ahead_up] at ha
          have hh := (hiff e).1 he
          exact h2.2 hf (-e) hh (by rw [ahead_dn]; have := hb _ hh.1; omega)
      | false =>
        obtain ⟨w, f, h1, h2, h3⟩ := fi_masked_up hm (min (-v) 9223372036854775807) 1 (by omega)
        refine ⟨-w, f, by rw [Bool.not_false, h1]; simp only [hw w h3], ?_, ?_⟩
        · intro hf
          obtain ⟨b1, b2, b3⟩ := h2.1 hf
          rw [ahead_up] at b2
          have hbw := hb _ b1.1
          refine ⟨(hiff _).2 (by rw [Int.neg_neg]; exact b1), by rw [ahead_dn]; omega, fun e he ha => ?_⟩
          rw [ahead_dn] at ha
          have hh := (hiff e).1 he
          have := b3 (-e) hh (by rw [ahead_up]; omega)
          rw [ahead_up] at this
          rw [ahead_dn]; omega
        · intro hf e he ha
          rw [ahead_dn] at ha
          have hh := (hiff e).1 he
          exact h2.2 hf (-e) hh (by rw [ahead_up]; omega)
theorem scan_loop {X Y A : Type} {step : X → Option (X ⊕ Y)} {f : Nat → X} {L : List A} {G : A → Option Y} {e : Y}
    (h : ∀ i a, L[i]? = some a → step (f i) = some ((G a).elim (.inl (f (i + 1))) Sum.inr)) (he : step (f L.length) = some (.inr e)) {N : Nat} (hN : L.length < N) :
    iterL step N (f 0) = some ((L.findSome? G).getD e) := by
  have go : ∀ (r i : Nat), i + r = L.length → ∀ N, r < N → iterL step N (f i) = some (((L.drop i).findSome? G).getD e) := by
    intro r
    induction r with
    | zero =>
      intro i hi N hN
      obtain ⟨N, rfl⟩ : ∃ q, N = q + 1 := ⟨N - 1, by omega⟩
      obtain rfl : i = L.length := by omega
      rw [iterL, he]
      simp
    | succ r ih =>
      intro i hi N hN
      obtain ⟨N, rfl⟩ : ∃ q, N = q + 1 := ⟨N - 1, by omega⟩
      have hb : L[i]? = some L[i] := List.getElem?_eq_getElem (by omega)
      rw [iterL, h i L[i] hb, List.drop_eq_getElem_cons (show i < L.length by omega), List.findSome?_cons]
      cases hG : G L[i] with
      | some y => rfl
      | none => exact ih (i + 1) (by omega) N (by omega)
  have := go L.length 0 (by omega) N hN
  simpa using this
def ahd (up : Bool) (a b : Int) : Bool := cond up (decide (a < b)) (decide (a > b))
theorem fi_ahead (n : Nat) (a b : Int) (up : Bool) : fillings_form_seek_1 n a b up = some (ahd up a b) := by
  unfold fillings_form_seek_1 ahd
  cases up
  · rfl
  · simp only [cond_true, Bool.not_true, cond_false]
    cases decide (a < b) <;> rfl
def okDay (up same : Bool) (d : List UInt8) (cd most k : Int) : Bool := decide (k ≤ most) && !(same && (!(d == ([] : List UInt8)) && ahd up k cd))
def skipM (up : Bool) (m : List UInt8) (cy cm y mo : Int) : Bool := (y == cy) && (!(m == ([] : List UInt8)) && ahd up mo cm)
def sameC (m : List UInt8) (cy cm y mo : Int) : Bool := (y == cy) && ((m == ([] : List UInt8)) || (mo == cm))
def scanM (up : Bool) (m d : List UInt8) (cy cm cd y : Int) (ds : List Int) (mo : Int) : Option (Int × Int × Int) :=
  if skipM up m cy cm y mo then none else (ds.find? (okDay up (sameC m cy cm y mo) d cd (mostI d y mo))).map fun k => (y, mo, k)
def scanY (up : Bool) (m d : List UInt8) (cy cm cd : Int) (ms ds : List Int) (y : Int) : Option (Int × Int × Int) := ms.findSome? (scanM up m d cy cm cd y ds)
def mosOK (d : List UInt8) (ms : List Int) : Prop := ms.length ≤ 31 ∧ (d ≠ [] → ∀ mo ∈ ms, 1 ≤ mo ∧ mo ≤ 12)
theorem fi_length (n : Nat) (g l : Bool) (dg : List UInt8) (x q : Int) (m d : List UInt8) (k0 k1 k2 : Int) {y : Int} (hy : inCal y) {mo : Int} (hmo : d ≠ [] → 1 ≤ mo ∧ mo ≤ 12) (ms ds : List Int) :
    fillings_form_length n g l dg x q m d k0 k1 k2 y mo ms ds = some (mostI d y mo) := by
  unfold fillings_form_length mostI
  by_cases hd : d = []
  · subst hd; rfl
  · rw [ne_nil_beq hd, if_neg hd]
    have := hmo hd
    obtain ⟨k, rfl⟩ : ∃ k : Nat, mo = (k : Int) := ⟨mo.toNat, by omega⟩
    rw [cond_false, mon_Len n hy (by omega) (by omega)]
    rfl
theorem fs_find {A B Y : Type} (L : List A) (p : A → Bool) (F : A → B) (J : B → Y) (e : Y) : (L.findSome? fun a => if p a then some (J (F a)) else none).getD e = ((L.find? p).map F).elim e J := by
  induction L with
  | nil => rfl
  | cons a L ih =>
    rw [List.find?_cons, List.findSome?_cons]
    cases h : p a
    · simpa using ih
    · simp
theorem fs_map {A B Y : Type} (L : List A) (G : A → Option B) (J : B → Y) (e : Y) : (L.findSome? fun a => (G a).map J).getD e = (L.findSome? G).elim e J := by
  induction L with
  | nil => rfl
  | cons a L ih =>
    rw [List.findSome?_cons, List.findSome?_cons]
    cases h : G a
    · simpa using ih
    · simp
theorem l2a_step (n : Nat) (s y mo : Int) (same : Bool) (most lm im : Int) (ms ds : List Int) (g l : Bool) (dg : List UInt8) (x q : Int) (m d : List UInt8) (k0 k1 k2 cy cm cd : Int) (up : Bool) (ry rm rd : Int) (i : Nat) (k : Int) (hi : ds[i]? = some k) (h31 : i < 1000) :
    fillings_form_seek_l2a n (s, y, mo, same, most, lm, im, ((ds.length : Nat) : Int), (i : Int), ms, ds, g, l, dg, x, q, m, d, k0, k1, k2, cy, cm, cd, up, ry, rm, rd) = some ((if okDay up same d cd most k then some (.inl (true, y, mo, k)) else none).elim (.inl (s, y, mo, same, most, lm, im, ((ds.length : Nat) : Int), ((i + 1 : Nat) : Int), ms, ds, g, l, dg, x, q, m, d, k0, k1, k2, cy, cm, cd, up, ry, rm, rd)) Sum.inr) := by
  have hil : i < ds.length := (List.getElem?_eq_some_iff.1 hi).1
  have w1 : IntKind.wrap .i64 ((i : Int) + 1) = ((i + 1 : Nat) : Int) := by rw [wrap_i64 _ (by omega) (by omega)]; omega
  unfold fillings_form_seek_l2a fillings_form_seek_j30a okDay
  simp only [d4, d8, d16, ix_nat hil, hi, ob, w1, fi_ahead]
  rw [decide_eq_true (show (i : Int) < ((ds.length : Nat) : Int) by omega)]
  simp only [cond_true]
  cases decide (k ≤ most) <;> cases same <;> cases (d == ([] : List UInt8)) <;> cases ahd up k cd <;> simp only [Bool.not_true, Bool.not_false, cond_true, cond_false, w1] <;> rfl
theorem l2a_end (n : Nat) (s y mo : Int) (same : Bool) (most lm im : Int) (ms ds : List Int) (g l : Bool) (dg : List UInt8) (x q : Int) (m d : List UInt8) (k0 k1 k2 cy cm cd : Int) (up : Bool) (ry rm rd : Int) :
    fillings_form_seek_l2a n (s, y, mo, same, most, lm, im, ((ds.length : Nat) : Int), ((ds.length : Nat) : Int), ms, ds, g, l, dg, x, q, m, d, k0, k1, k2, cy, cm, cd, up, ry, rm, rd) = some (.inr (.inr (s, y, lm, im, ms, ds, g, l, dg, x, q, m, d, k0, k1, k2, cy, cm, cd, up, ry, rm, rd))) := by
  unfold fillings_form_seek_l2a
  simp only [d4, d8, d16]
  rw [decide_eq_false (show ¬ ((ds.length : Nat) : Int) < ((ds.length : Nat) : Int) by omega)]
  rfl
theorem l2a_run (n : Nat) (hn : 1000 < n) (s y mo : Int) (same : Bool) (most lm im : Int) (ms ds : List Int) (g l : Bool) (dg : List UInt8) (x q : Int) (m d : List UInt8) (k0 k1 k2 cy cm cd : Int) (up : Bool) (ry rm rd : Int) (hd : ds.length ≤ 31) :
    iterL (fillings_form_seek_l2a n) n (s, y, mo, same, most, lm, im, ((ds.length : Nat) : Int), 0, ms, ds, g, l, dg, x, q, m, d, k0, k1, k2, cy, cm, cd, up, ry, rm, rd) = some (((ds.find? (okDay up same d cd most)).map (fun k => (y, mo, k))).elim (.inr (s, y, lm, im, ms, ds, g, l, dg, x, q, m, d, k0, k1, k2, cy, cm, cd, up, ry, rm, rd)) (fun z => .inl (true, z))) := by
  have := scan_loop (step := fillings_form_seek_l2a n) (f := fun i => (s, y, mo, same, most, lm, im, ((ds.length : Nat) : Int), (i : Int), ms, ds, g, l, dg, x, q, m, d, k0, k1, k2, cy, cm, cd, up, ry, rm, rd)) (L := ds) (G := fun k => if okDay up same d cd most k then some (.inl (true, y, mo, k)) else none) (e := .inr (s, y, lm, im, ms, ds, g, l, dg, x, q, m, d, k0, k1, k2, cy, cm, cd, up, ry, rm, rd))
    (fun i k hi => by
      have hil : i < ds.length := (List.getElem?_eq_some_iff.1 hi).1
      exact l2a_step n s y mo same most lm im ms ds g l dg x q m d k0 k1 k2 cy cm cd up ry rm rd i k hi (by omega))
    (l2a_end n s y mo same most lm im ms ds g l dg x q m d k0 k1 k2 cy cm cd up ry rm rd) (N := n) (by omega)
  exact this.trans (congrArg some (fs_find ds (okDay up same d cd most) (fun k => (y, mo, k)) (fun z => Sum.inl (true, z)) _))
theorem l1a_step (n : Nat) (hn : 1000 < n) (s y : Int) (hy : inCal y) (ms ds : List Int) (g l : Bool) (dg : List UInt8) (x q : Int) (m d : List UInt8) (k0 k1 k2 cy cm cd : Int) (up : Bool) (ry rm rd : Int) (hm : mosOK d ms) (hd : ds.length ≤ 31) (i : Nat) (mo : Int) (hi : ms[i]? = some mo) :
    fillings_form_seek_l1a n (s, y, ((ms.length : Nat) : Int), (i : Int), ms, ds, g, l, dg, x, q, m, d, k0, k1, k2, cy, cm, cd, up, ry, rm, rd) = some (((scanM up m d cy cm cd y ds mo).map (fun z => (.inl (true, z) : (Bool × Int × Int × Int) ⊕ _))).elim (.inl (s, y, ((ms.length : Nat) : Int), ((i + 1 : Nat) : Int), ms, ds, g, l, dg, x, q, m, d, k0, k1, k2, cy, cm, cd, up, ry, rm, rd)) Sum.inr) := by
  have hil : i < ms.length := (List.getElem?_eq_some_iff.1 hi).1
  have h31 := hm.1
  have w1 : IntKind.wrap .i64 ((i : Int) + 1) = ((i + 1 : Nat) : Int) := by rw [wrap_i64 _ (by omega) (by omega)]; omega
  have hmo : d ≠ [] → 1 ≤ mo ∧ mo ≤ 12 := fun h => hm.2 h mo (List.mem_of_getElem? hi)
  have j20 : ∀ a b : Int, fillings_form_seek_j20a n s y mo (y == cy) a b ms ds g l dg x q m d k0 k1 k2 cy cm cd up ry rm rd = some (s, y, mo, (y == cy), a, b, skipM up m cy cm y mo, ms, ds, g, l, dg, x, q, m, d, k0, k1, k2, cy, cm, cd, up, ry, rm, rd) := by
    intro a b
    unfold fillings_form_seek_j20a skipM
    simp only [fi_ahead, ob]
    cases (y == cy) <;> cases (m == ([] : List UInt8)) <;> rfl
  have j23 : ∀ a b c : Int, fillings_form_seek_j23a n s y mo (y == cy) a b c ms ds g l dg x q m d k0 k1 k2 cy cm cd up ry rm rd = some (s, y, mo, sameC m cy cm y mo, a, b, c, ms, ds, g, l, dg, x, q, m, d, k0, k1, k2, cy, cm, cd, up, ry, rm, rd) := by
    intro a b c
    unfold fillings_form_seek_j23a sameC
    cases (y == cy) <;> cases (m == ([] : List UInt8)) <;> rfl
  unfold fillings_form_seek_l1a fillings_form_seek_j17a scanM
  simp only [d4, d8, d16, ix_nat hil, hi, ob, j20]
  rw [decide_eq_true (show (i : Int) < ((ms.length : Nat) : Int) by omega)]
  simp only [cond_true]
  cases hs : skipM up m cy cm y mo with
  | true => simp only [cond_true, if_true, Option.map_none, w1]; rfl
  | false =>
    simp only [cond_false, Bool.false_eq_true, if_false, fi_length n g l dg x q m d k0 k1 k2 hy hmo, j23, l2a_run n hn s y mo (sameC m cy cm y mo) (mostI d y mo) _ _ ms ds g l dg x q m d k0 k1 k2 cy cm cd up ry rm rd hd]
    cases ds.find? (okDay up (sameC m cy cm y mo) d cd (mostI d y mo)) with
    | some k => rfl
    | none => simp only [Option.map_none, Option.elim_none, w1]
theorem l1a_run (n : Nat) (hn : 1000 < n) (s y : Int) (hy : inCal y) (ms ds : List Int) (g l : Bool) (dg : List UInt8) (x q : Int) (m d : List UInt8) (k0 k1 k2 cy cm cd : Int) (up : Bool) (ry rm rd : Int) (hm : mosOK d ms) (hd : ds.length ≤ 31) :
    iterL (fillings_form_seek_l1a n) n (s, y, ((ms.length : Nat) : Int), 0, ms, ds, g, l, dg, x, q, m, d, k0, k1, k2, cy, cm, cd, up, ry, rm, rd) = some ((scanY up m d cy cm cd ms ds y).elim (.inr (s, y, ms, ds, g, l, dg, x, q, m, d, k0, k1, k2, cy, cm, cd, up, ry, rm, rd)) (fun z => .inl (true, z))) := by
  have h31 := hm.1
  have := scan_loop (step := fillings_form_seek_l1a n) (f := fun i => (s, y, ((ms.length : Nat) : Int), (i : Int), ms, ds, g, l, dg, x, q, m, d, k0, k1, k2, cy, cm, cd, up, ry, rm, rd)) (L := ms) (G := fun mo => (scanM up m d cy cm cd y ds mo).map (fun z => (.inl (true, z) : (Bool × Int × Int × Int) ⊕ _))) (e := .inr (s, y, ms, ds, g, l, dg, x, q, m, d, k0, k1, k2, cy, cm, cd, up, ry, rm, rd))
    (fun i mo hi => l1a_step n hn s y hy ms ds g l dg x q m d k0 k1 k2 cy cm cd up ry rm rd hm hd i mo hi)
    (by
      unfold fillings_form_seek_l1a
      simp only [d4, d8, d16]
      rw [decide_eq_false (show ¬ ((ms.length : Nat) : Int) < ((ms.length : Nat) : Int) by omega)]
      rfl)
    (N := n) (by omega)
  exact this.trans (congrArg some (fs_map ms (scanM up m d cy cm cd y ds) (fun z => Sum.inl (true, z)) _))
theorem l0a_step (n : Nat) (hn : 1000 < n) (s y : Int) (hy : inCal y) (ms ds : List Int) (g l : Bool) (dg : List UInt8) (x q : Int) (m d : List UInt8) (k0 k1 k2 cy cm cd : Int) (up : Bool) (ry rm rd : Int) (hm : mosOK d ms) (hd : ds.length ≤ 31) :
    fillings_form_seek_l0a n (s, y, true, ms, ds, g, l, dg, x, q, m, d, k0, k1, k2, cy, cm, cd, up, ry, rm, rd) = (scanY up m d cy cm cd ms ds y).elim (ob (fillings_form_year n g l dg x q m d k0 k1 k2 (IntKind.wrap .i64 (y + s)) up ms ds) fun r => some (.inl (s, r.1, r.2, ms, ds, g, l, dg, x, q, m, d, k0, k1, k2, cy, cm, cd, up, ry, rm, rd))) (fun z => some (.inr (.inl (true, z)))) := by
  unfold fillings_form_seek_l0a
  simp only [d4, d8, d16, cond_true, ob, l1a_run n hn s y hy ms ds g l dg x q m d k0 k1 k2 cy cm cd up ry rm rd hm hd]
  cases scanY up m d cy cm cd ms ds y <;> rfl
def SeekSpec (up : Bool) (Y : Int → Prop) (F : Int → Option (Int × Int × Int)) (v : Int) : Option (Int × Int × Int) → Prop
  | some z => ∃ e, Y e ∧ Mk.ahead up v e ∧ F e = some z ∧ ∀ e', Y e' → Mk.ahead up v e' → ¬ Mk.ahead up e e' → F e' = none
  | none => ∀ e, Y e → Mk.ahead up v e → F e = none
theorem years_loop {X : Type} {step : X → Option (X ⊕ ((Bool × Int × Int × Int) ⊕ (Int × Int × Int)))} {st : Int → Bool → X} {F : Int → Option (Int × Int × Int)} {Y : Int → Prop} {up : Bool} {s lo hi : Int} {E : Int × Int × Int} {fy : Int → Option (Int × Bool)}
    (hs : s = if up then 1 else -1) (hY : ∀ e, Y e → lo ≤ e ∧ e ≤ hi) (h0 : -10000000000000000 ≤ lo) (h1 : hi ≤ 10000000000000000)
    (hstep : ∀ y, Y y → step (st y true) = (F y).elim (ob (fy (IntKind.wrap .i64 (y + s))) fun r => some (.inl (st r.1 r.2))) (fun z => some (.inr (.inl (true, z)))))
    (hend : ∀ y, step (st y false) = some (.inr (.inr E)))
    (hfy : ∀ v, -9223372036854775808 ≤ v ∧ v < 9223372036854775808 → ∃ w f, fy v = some (w, f) ∧ nearY up Y v w f) :
    ∀ (r : Nat) (v y : Int) (f : Bool), nearY up Y v y f → (f = true → (if up then hi - y else y - lo) < (r : Int)) → ∀ N, r < N →
      ∃ o, iterL step N (st y f) = some (o.elim (.inr E) (fun z => .inl (true, z))) ∧ SeekSpec up Y F v o := by
  intro r
  induction r with
  | zero =>
    intro v y f hn hr N hN
    obtain ⟨N, rfl⟩ : ∃ q, N = q + 1 := ⟨N - 1, by omega⟩
    cases f with
    | true =>
      obtain ⟨a1, _, _⟩ := hn.1 rfl
      have := hY y a1
      have := hr rfl
      cases up <;> simp at this <;> omega
    | false =>
      refine ⟨none, by rw [iterL, hend]; rfl, fun e he ha => absurd ha (hn.2 rfl e he)⟩
  | succ r ih =>
    intro v y f hn hr N hN
    obtain ⟨N, rfl⟩ : ∃ q, N = q + 1 := ⟨N - 1, by omega⟩
    cases f with
    | false =>
      refine ⟨none, by rw [iterL, hend]; rfl, fun e he ha => absurd ha (hn.2 rfl e he)⟩
    | true =>
      obtain ⟨a1, a2, a3⟩ := hn.1 rfl
      have hb := hY y a1
      cases hF : F y with
      | some z =>
        refine ⟨some z, ?_, y, a1, a2, hF, fun e' h1 h2 h3 => absurd (a3 e' h1 h2) h3⟩
        rw [iterL, hstep y a1, hF]; rfl
      | none =>
        have hw : IntKind.wrap .i64 (y + s) = y + s := by
          have : -1 ≤ s ∧ s ≤ 1 := by rw [hs]; cases up <;> simp
          exact wrap_i64 _ (by omega) (by omega)
        obtain ⟨w, f', e1, e2⟩ := hfy (y + s) (by
          have : -1 ≤ s ∧ s ≤ 1 := by rw [hs]; cases up <;> simp
          omega)
        have hstep' : step (st y true) = some (.inl (st w f')) := by
          rw [hstep y a1, hF, hw]
          show ob (fy (y + s)) _ = _
          rw [e1]; rfl
        obtain ⟨o, i1, i2⟩ := ih (y + s) w f' e2 (fun hf => by
          obtain ⟨b1, b2, _⟩ := e2.1 hf
          have := hr rfl
          cases up
          · rw [ahead_dn] at b2
            simp only [Bool.false_eq_true, if_false] at hs this ⊢
            omega
          · rw [ahead_up] at b2
            simp only [if_true] at hs this ⊢
            omega) N (by omega)
        refine ⟨o, by rw [iterL, hstep']; exact i1, ?_⟩
        have split : ∀ e', Y e' → Mk.ahead up v e' → e' = y ∨ Mk.ahead up (y + s) e' := fun e' h1 h2 => by
          have h3 := a3 e' h1 h2
          cases up
          · rw [ahead_dn] at h3 ⊢
            simp only [Bool.false_eq_true, if_false] at hs
            omega
          · rw [ahead_up] at h3 ⊢
            simp only [if_true] at hs
            omega
        cases o with
        | none =>
          intro e he ha
          rcases split e he ha with rfl | h
          · exact hF
          · exact i2 e he h
        | some z =>
          obtain ⟨e, c1, c2, c3, c4⟩ := i2
          refine ⟨e, c1, ?_, c3, fun e' h1 h2 h3 => ?_⟩
          · cases up
            · rw [ahead_dn] at c2 a2 ⊢
              simp only [Bool.false_eq_true, if_false] at hs
              omega
            · rw [ahead_up] at c2 a2 ⊢
              simp only [if_true] at hs
              omega
          · rcases split e' h1 h2 with rfl | h
            · exact hF
            · exact c4 e' h1 h h3
theorem inP_bounds {g l : Bool} {dg : List UInt8} {x : Int} (hok : okY g l dg x 0) : ∃ lo hi : Int, (∀ e, inP g dg x 0 e → lo ≤ e ∧ e ≤ hi) ∧ hi - lo ≤ 10000 ∧ -10000000000000000 ≤ lo ∧ hi ≤ 10000000000000000 := by
  cases hX : hasX dg with
  | false =>
    have hin := inP_num hok hX
    by_cases hv : -10000000000000000 ≤ (if g then -((val dg x.toNat : Nat) : Int) else ((val dg x.toNat : Nat) : Int)) ∧ (if g then -((val dg x.toNat : Nat) : Int) else ((val dg x.toNat : Nat) : Int)) ≤ 10000000000000000
    · refine ⟨_, _, fun e he => ?_, ?_, hv.1, hv.2⟩
      · rw [(hin e).1 he]; exact ⟨Int.le_refl _, Int.le_refl _⟩
      · omega
    · refine ⟨0, 0, fun e he => ?_, by omega, by omega, by omega⟩
      exfalso
      have := (hin e).1 he
      unfold inP at he
      exact hv ⟨by rw [← this]; exact he.1, by rw [← this]; exact he.2.1⟩
  | true =>
    have hin := inP_mask hok hX
    obtain ⟨_, _, _, hl, hd⟩ := ok_mask hok hX
    refine ⟨if g then -9999 else 0, if g then 0 else 9999, fun e he => ?_, by cases g <;> simp, by cases g <;> simp, by cases g <;> simp⟩
    have h := ((hin e).1 he).1
    have := (Mk.hasM_dg h).2.2.2.2
    rw [hl] at this
    have e4 : (10 : Int) ^ 4 = 10000 := by decide
    unfold wOf at this
    cases g
    · simp at this ⊢; omega
    · simp at this ⊢; omega
theorem inP_cal {g : Bool} {dg : List UInt8} {x q e : Int} (h : inP g dg x q e) : inCal e := ⟨h.1, h.2.1⟩
theorem fi_seek_up {g l : Bool} {dg : List UInt8} {x : Int} (hok : okY g l dg x 0) (m d : List UInt8) (k0 k1 k2 : Int) (cy cm cd : Int) (hcy : -9223372036854775808 ≤ cy ∧ cy < 9223372036854775808) (ms ds : List Int) (hm : mosOK d ms) (hd : ds.length ≤ 31) :
    ∃ o, fillings_form_seek 20000000 g l dg x 0 m d k0 k1 k2 cy cm cd true ms ds = some (o.elim (0, 0, 0, false) fun z => (z.1, z.2.1, z.2.2, true)) ∧ SeekSpec true (inP g dg x 0) (scanY true m d cy cm cd ms ds) cy o := by
  obtain ⟨lo, hi, hb, hw, hb0, hb1⟩ := inP_bounds hok
  obtain ⟨w, f, e1, e2⟩ := fi_year hok m d k0 k1 k2 cy hcy true ms ds
  obtain ⟨o, i1, i2⟩ := years_loop (step := fillings_form_seek_l0a 20000000) (st := fun y f => (1, y, f, ms, ds, g, l, dg, x, 0, m, d, k0, k1, k2, cy, cm, cd, true, 0, 0, 0)) (F := scanY true m d cy cm cd ms ds) (Y := inP g dg x 0) (up := true) (s := 1) (lo := lo) (hi := hi) (E := (0, 0, 0)) (fy := fun v => fillings_form_year 20000000 g l dg x 0 m d k0 k1 k2 v true ms ds)
    rfl hb hb0 hb1
    (fun y hy => l0a_step 20000000 (by omega) 1 y (inP_cal hy) ms ds g l dg x 0 m d k0 k1 k2 cy cm cd true 0 0 0 hm hd)
    (fun y => rfl)
    (fun v hv => fi_year hok m d k0 k1 k2 v hv true ms ds)
    10002 cy w f e2 (fun hf => by have := hb w (e2.1 hf).1; simp; omega) 20000000 (by omega)
  refine ⟨o, ?_, i2⟩
  unfold fillings_form_seek fillings_form_seek_j3
  simp only [Bool.not_true, cond_false, ob, d4, d8, d16, e1]
  have i1' : iterL (fillings_form_seek_l0a 20000000) 20000000 (1, w, f, ms, ds, g, l, dg, x, 0, m, d, k0, k1, k2, cy, cm, cd, true, 0, 0, 0) = _ := i1
  rw [i1']
  cases o <;> rfl
theorem scan_min (m d : List UInt8) (cm cd : Int) {cy e : Int} (h : e ≠ cy) (ms ds : List Int) : scanY true m d cy cm cd ms ds e = none ↔ (ms.flatMap fun mo => (ds.filter fun k => decide (k ≤ mostI d e mo)).map fun k => (e, mo, k)) = [] := by
  have hne : (e == cy) = false := beq_eq_false_iff_ne.2 h
  unfold scanY
  rw [List.findSome?_eq_none_iff, List.flatMap_eq_nil_iff]
  have : ∀ mo, scanM true m d cy cm cd e ds mo = none ↔ ((ds.filter fun k => decide (k ≤ mostI d e mo)).map fun k => (e, mo, k)) = [] := by
    intro mo
    unfold scanM skipM sameC
    rw [hne]
    simp only [Bool.false_and, Bool.false_eq_true, if_false, Option.map_eq_none_iff, List.find?_eq_none, List.map_eq_nil_iff, List.filter_eq_nil_iff]
    constructor
    · intro h1 k hk
      have := h1 k hk
      unfold okDay at this
      simpa using this
    · intro h1 k hk
      have := h1 k hk
      unfold okDay
      simpa using this
  exact ⟨fun h1 mo hmo => (this mo).1 (h1 mo hmo), fun h1 mo hmo => (this mo).2 (h1 mo hmo)⟩
def hasF (g : Bool) (dg : List UInt8) (x : Int) (m d : List UInt8) : Prop := ∃ e, inP g dg x 0 e ∧ yearI m d e ≠ []
open Classical in
noncomputable def chkF (g l : Bool) (dg : List UInt8) (x q : Int) (m d : List UInt8) (k0 k1 k2 : Int) : Int :=
  if chkD g l dg x q m d k0 k1 k2 = 0 ∧ d ≠ [] ∧ ¬ hasF g dg x m d then 8 else chkD g l dg x q m d k0 k1 k2
theorem chk_parts {g l : Bool} {dg : List UInt8} {x q : Int} {m d : List UInt8} {k0 k1 k2 : Int} (h : chkD g l dg x q m d k0 k1 k2 = 0) : okY g l dg x q ∧ (m = [] ∨ m.length = 2) ∧ (d = [] ∨ d.length = 2) ∧ (0 < q → m = []) ∧ (d ≠ [] → m ≠ [] ∧ sea m = 0) := by
  obtain ⟨c1, c2, c3, c4⟩ := chk_yr h
  unfold yrD at c1
  by_cases hok : okY g l dg x q
  · rw [if_pos hok] at c1
    refine ⟨hok, ?_, ?_, fun hq => ?_, fun hd => ?_⟩
    · rcases c2 with h | h | h
      · exact .inl h
      · exact .inr (sea_len h).1
      · exact .inr (agrees_len (by omega) h).1
    · rcases c3 with h | ⟨_, _, h⟩
      · exact .inl h
      · exact .inr (agrees_len (by omega) h).1
    · unfold yrB at c1
      simp only [Bool.and_eq_true, Bool.not_eq_true'] at c1
      have := c1.1
      rw [decide_eq_true hq, Bool.true_and] at this
      by_cases hm : m = []
      · exact hm
      · rw [ne_nil_beq hm] at this; cases this
    · rcases c3 with h | ⟨h1, h2, _⟩
      · exact absurd h hd
      · exact ⟨h1, h2⟩
  · rw [if_neg hok] at c1; cases c1
theorem okY_q {g l : Bool} {dg : List UInt8} {x q : Int} (h : okY g l dg x q) : 0 ≤ q := (ok_small h).2.2.1
theorem mosOK_mon {m d : List UInt8} (h : d ≠ [] → m ≠ [] ∧ sea m = 0) : mosOK d (monI m) := by
  refine ⟨Nat.le_trans (monI_len m) (by omega), fun hd mo hmo => ?_⟩
  obtain ⟨h1, h2⟩ := h hd
  unfold monI at hmo
  rw [if_neg h1, if_neg (by omega)] at hmo
  obtain ⟨k, hk, rfl⟩ := List.mem_map.1 hmo
  have := List.mem_range'_1.1 (List.mem_filter.1 hk).1
  omega
theorem fi_Check {g l : Bool} {dg : List UInt8} {x q : Int} {m d : List UInt8} {k0 k1 k2 : Int} (hml : m.length ≤ 18) (hdl : dg.length ≤ 100) (h0 : 0 ≤ k0) (h1 : 0 ≤ k1) (h2 : 0 ≤ k2) :
    fillings_Check 20000000 g l dg x q m d k0 k1 k2 = some (chkF g l dg x q m d k0 k1 k2) := by
  unfold fillings_Check chkF
  rw [df_Check 20000000 (by omega) g l dg x q m d k0 k1 k2 hml hdl h0 h1 h2]
  simp only [ob]
  by_cases hc : chkD g l dg x q m d k0 k1 k2 = 0
  · obtain ⟨hok, hm2, hd2, hq, hdm⟩ := chk_parts hc
    rw [hc]
    simp only [bne_self_eq_false, cond_false]
    by_cases hd : d = []
    · subst hd
      rw [if_neg (by simp)]; rfl
    · rw [ne_nil_beq hd, cond_false]
      have hq0 : q = 0 := by
        have := okY_q hok
        by_cases h : 0 < q
        · exact absurd (hq h) (hdm hd).1
        · omega
      subst hq0
      obtain ⟨s, e, hs⟩ := fi_of 20000000 (by omega) g l dg x 0 m d k0 k1 k2 hm2 hd2
      have hmo := mosOK_mon hdm
      obtain ⟨o, o1, o2⟩ := fi_seek_up hok m d k0 k1 k2 (-9223372036854775808) 0 0 (by omega) (monI m) (dayI d) hmo (dayI_len d)
      have hne : ∀ e, inP g dg x 0 e → e ≠ -9223372036854775808 := fun e he => by have := inP_cal he; unfold inCal at this; omega
      have key : (∃ z, o = some z) ↔ hasF g dg x m d := by
        constructor
        · rintro ⟨z, rfl⟩
          obtain ⟨e, c1, _, c3, _⟩ := o2
          refine ⟨e, c1, fun hn => ?_⟩
          have := (scan_min m d 0 0 (hne e c1) (monI m) (dayI d)).2 hn
          rw [this] at c3; cases c3
        · rintro ⟨e, c1, c2⟩
          cases o with
          | some z => exact ⟨z, rfl⟩
          | none =>
            have := o2 e c1 (by rw [ahead_up]; have := inP_cal c1; unfold inCal at this; omega)
            exact absurd ((scan_min m d 0 0 (hne e c1) (monI m) (dayI d)).1 this) c2
      rw [e]
      by_cases hF : hasF g dg x m d
      · obtain ⟨z, rfl⟩ := key.2 hF
        rw [if_neg (fun h => h.2.2 hF)]
        rcases hs with rfl | rfl | rfl | rfl
        all_goals
          simp only [d4, d8, o1]
          rfl
      · have ho : o = none := by
          cases o with
          | none => rfl
          | some z => exact absurd (key.1 ⟨z, rfl⟩) hF
        subst ho
        rw [if_pos ⟨rfl, hd, hF⟩]
        rcases hs with rfl | rfl | rfl | rfl
        all_goals
          simp only [d4, d8, o1]
          rfl
  · rw [if_neg (fun h => hc h.1)]
    have : (chkD g l dg x q m d k0 k1 k2 != 0) = true := by simp [hc]
    rw [this]; rfl
theorem ref_some {g l : Bool} {dg : List UInt8} {x : Int} (hok : okY g l dg x 0) (m d : List UInt8) (k0 k1 k2 : Int) :
    ∃ r, circaref16_some 20000000 g l dg x 0 m d k0 k1 k2 = some r ∧ (r = 1 ∧ hasF g dg x m d ∨ r = 0 ∧ ¬ hasF g dg x m d) := by
  have hsm := ok_small hok
  obtain ⟨lo, hi, hb, hw, hb0, hb1⟩ := inP_bounds hok
  obtain ⟨s1, s2, s3⟩ := in_span hok
  have hsp := ref_Span 19999700 g l dg x 0 (by omega) hok
  unfold circaref16_some
  rw [show (20000000 : Nat) = 19999700 + 300 from rfl, hsp]
  simp only [ob]
  generalize (sgn g (spanY g dg x 0)).1 = a at *
  generalize (sgn g (spanY g dg x 0)).2 = b at *
  have ha := hb a s1
  have hb' := hb b s2
  have hY := fun y => ref_In 19999700 hok y
  have step : ∀ i y, ((List.range (b - a + 1).toNat).map (fun j : Nat => a + (j : Int)))[i]? = some y → i < (b - a + 1).toNat ∧ y = a + (i : Int) := by
    intro i y h
    rw [List.getElem?_map] at h
    cases hr : (List.range (b - a + 1).toNat)[i]? with
    | none => rw [hr] at h; cases h
    | some j =>
      rw [hr] at h
      have hi := List.getElem?_eq_some_iff.1 hr
      obtain ⟨h1, h2⟩ := hi
      rw [List.getElem_range] at h2
      rw [List.length_range] at h1
      subst h2
      exact ⟨h1, (Option.some.inj h).symm⟩
  have hlen : ((List.range (b - a + 1).toNat).map (fun j : Nat => a + (j : Int))).length = (b - a + 1).toNat := by simp
  have := scan_loop (step := circaref16_some_l0 (19999700 + 300)) (f := fun i => (b, a + (i : Int), g, l, dg, x, 0, m, d, k0, k1, k2)) (L := (List.range (b - a + 1).toNat).map (fun j : Nat => a + (j : Int))) (G := fun y => if inP g dg x 0 y ∧ yearI m d y ≠ [] then some (.inl 1) else none) (e := .inr ())
    (fun i y h => by
      obtain ⟨hi, rfl⟩ := step i y h
      have w1 : IntKind.wrap .i64 (a + (i : Int) + 1) = a + ((i + 1 : Nat) : Int) := by rw [wrap_i64 _ (by omega) (by omega)]; omega
      unfold circaref16_some_l0
      simp only [d4, d8, w1]
      rw [decide_eq_true (show a + (i : Int) ≤ b by omega), hY, ref_year16 (19999700 + 300) (by omega)]
      by_cases hin : inP g dg x 0 (a + (i : Int))
      · rw [if_pos hin]
        by_cases hyr : yearI m d (a + (i : Int)) = []
        · rw [if_neg (fun h => h.2 hyr), hyr]; rfl
        · rw [if_pos ⟨hin, hyr⟩]
          have hp : 0 < (yearI m d (a + (i : Int))).length := List.length_pos_iff.2 hyr
          have hd : decide ((((yearI m d (a + (i : Int))).length : Nat) : Int) > 0) = true := decide_eq_true (by omega)
          simp only [cond_true, ob, hd]
          rfl
      · rw [if_neg hin, if_neg (fun h => hin h.1)]; rfl)
    (by
      unfold circaref16_some_l0
      simp only [d4, d8]
      rw [hlen, decide_eq_false (show ¬ a + (((b - a + 1).toNat : Nat) : Int) ≤ b by omega)]
      rfl)
    (N := 19999700 + 300) (by rw [hlen]; omega)
  rw [show a + ((0 : Nat) : Int) = a by omega] at this
  rw [this]
  cases hfs : (List.findSome? (fun y => if inP g dg x 0 y ∧ yearI m d y ≠ [] then some (Sum.inl (1 : Int)) else none) ((List.range (b - a + 1).toNat).map (fun j : Nat => a + (j : Int))) : Option (Int ⊕ Unit)) with
  | none =>
    refine ⟨0, rfl, .inr ⟨rfl, ?_⟩⟩
    rintro ⟨e, he1, he2⟩
    rw [List.findSome?_eq_none_iff] at hfs
    have hs := s3 e he1
    have := hfs e (List.mem_map.2 ⟨(e - a).toNat, List.mem_range.2 (by omega), by omega⟩)
    rw [if_pos ⟨he1, he2⟩] at this
    cases this
  | some z =>
    obtain ⟨y, hy1, hy2⟩ := List.exists_of_findSome?_eq_some hfs
    by_cases hh : inP g dg x 0 y ∧ yearI m d y ≠ []
    · rw [if_pos hh] at hy2
      obtain rfl := Option.some.inj hy2
      exact ⟨1, rfl, .inl ⟨rfl, y, hh.1, hh.2⟩⟩
    · rw [if_neg hh] at hy2; cases hy2
theorem ref_Check16 {g l : Bool} {dg : List UInt8} {x q : Int} {m d : List UInt8} {k0 k1 k2 : Int} (hdl : dg.length ≤ 100) (h0 : 0 ≤ k0) (h1 : 0 ≤ k1) (h2 : 0 ≤ k2) :
    circaref16_Check 20000000 g l dg x q m d k0 k1 k2 = some (chkF g l dg x q m d k0 k1 k2) := by
  unfold circaref16_Check chkF
  rw [ref_Check15 20000000 (by omega) g l dg x q m d k0 k1 k2 hdl h0 h1 h2]
  simp only [ob]
  by_cases hc : chkD g l dg x q m d k0 k1 k2 = 0
  · obtain ⟨hok, hm2, hd2, hq, hdm⟩ := chk_parts hc
    rw [hc]
    by_cases hd : d = []
    · subst hd
      rw [if_neg (by simp)]; rfl
    · have hq0 : q = 0 := by
        have := okY_q hok
        by_cases h : 0 < q
        · exact absurd (hq h) (hdm hd).1
        · omega
      subst hq0
      obtain ⟨r, r1, r2⟩ := ref_some hok m d k0 k1 k2
      rw [ne_nil_beq hd, r1]
      rcases r2 with ⟨rfl, hF⟩ | ⟨rfl, hF⟩
      · rw [if_neg (fun h => h.2.2 hF)]; rfl
      · rw [if_pos ⟨rfl, hd, hF⟩]; rfl
  · rw [if_neg (fun h => hc h.1)]
    have : (chkD g l dg x q m d k0 k1 k2 == 0) = false := beq_eq_false_iff_ne.2 hc
    rw [this]; rfl
theorem fi_lives : circalaw16_lives 20000000 = some true := by kernel_rfl
def plN (P : Nat × Nat × Nat) (i : Nat) : Nat := if i = 0 then P.1 else if i = 1 then P.2.1 else P.2.2
theorem chkF_cases {g l : Bool} {dg : List UInt8} {x q : Int} {m d : List UInt8} {k0 k1 k2 : Int} (hk : allM k0 k1 k2 (comps m d) = 0) : chkF g l dg x q m d k0 k1 k2 = 0 ∨ chkF g l dg x q m d k0 k1 k2 = 6 ∨ chkF g l dg x q m d k0 k1 k2 = 7 ∨ chkF g l dg x q m d k0 k1 k2 = 8 := by
  unfold chkF
  split
  · exact .inr (.inr (.inr rfl))
  · exact chk_cases hk
theorem chkF_ne {g l : Bool} {dg : List UInt8} {x q : Int} {m d : List UInt8} {k0 k1 k2 : Int} (h : chkD g l dg x q m d k0 k1 k2 ≠ 0) : chkF g l dg x q m d k0 k1 k2 = chkD g l dg x q m d k0 k1 k2 := by
  unfold chkF
  rw [if_neg (fun h' => h h'.1)]
theorem chkF_0 {g l : Bool} {dg : List UInt8} {x q : Int} {m d : List UInt8} {k0 k1 k2 : Int} (h : chkD g l dg x q m d k0 k1 k2 = 0) : chkF g l dg x q m d k0 k1 k2 = 0 ∨ chkF g l dg x q m d k0 k1 k2 = 8 := by
  unfold chkF
  split
  · exact .inr rfl
  · exact .inl h
noncomputable def chkR (r : DR) : Nat := (chkF r.1 r.2.1 r.2.2.1 (r.2.2.2.1 : Int) (r.2.2.2.2.1 : Int) r.2.2.2.2.2.1 r.2.2.2.2.2.2.1 (r.2.2.2.2.2.2.2.1.1 : Int) (r.2.2.2.2.2.2.2.1.2.1 : Int) (r.2.2.2.2.2.2.2.1.2.2 : Int)).toNat
noncomputable def readFD (S : List UInt8) (a : Nat) : (Nat × Nat × Nat) ⊕ DR :=
  match readD S a with
  | .inl k => .inl (k, 5, k)
  | .inr r => if chkR r = 0 then .inr r else .inl (plN r.2.2.2.2.2.2.2.2.1 (chkR r - 6), chkR r, r.2.2.2.2.2.2.2.2.2)
def fiOut (S : List UInt8) : (Nat × Nat × Nat) ⊕ DR → (Int × Int × List UInt8 × Int) ⊕ (Bool × Bool × List UInt8 × Int × Int × List UInt8 × List UInt8 × Int × Int × Int × Int × List UInt8 × Int)
  | .inl (k, E, p) => .inl ((k : Int), (E : Int), S, (p : Int))
  | .inr (g, l, dg, x, s, m, d, M, P, e) => .inr (g, l, dg, (x : Int), (s : Int), m, d, (M.1 : Int), (M.2.1 : Int), (M.2.2 : Int), (P.1 : Int), S, (e : Int))
theorem fi_Read (S : List UInt8) (a : Nat) (h : a ≤ S.length) (hS : S.length < 100000) : fillings_Read 20000000 S (a : Int) = some (fiOut S (readFD S a)) := by
  have hr : dateforms_Read 20000000 S (a : Int) = _ := df_Read 19999700 S a h hS (by omega)
  unfold fillings_Read readFD
  rw [hr]
  cases hd : readD S a with
  | inl k => rfl
  | inr r =>
    obtain ⟨g, l, dg, x, s, mm, d, M, P, e⟩ := r
    have hok := readD_ok h hd
    have hM := hok.all
    have h2 := hok.m2
    have h17 := hok.dg17
    simp only [ob, dfOut, d4, d8]
    rw [fi_Check (g := g) (l := l) (x := (x : Int)) (q := (s : Int)) (d := d) (show mm.length ≤ 18 by omega) (show dg.length ≤ 100 by omega) (show (0 : Int) ≤ (M.1 : Int) by omega) (show (0 : Int) ≤ (M.2.1 : Int) by omega) (show (0 : Int) ≤ (M.2.2 : Int) by omega)]
    simp only [ob]
    have hcs := chkF_cases (g := g) (l := l) (dg := dg) (x := (x : Int)) (q := (s : Int)) (m := mm) (d := d) (k0 := (M.1 : Int)) (k1 := (M.2.1 : Int)) (k2 := (M.2.2 : Int)) (allM_of hM)
    unfold chkR
    simp only []
    rcases hcs with hc | hc | hc | hc <;> rw [hc] <;> rfl
noncomputable def parseRF (S : List UInt8) : Nat ⊕ DR → PD
  | .inl k => pz (k : Int) 5
  | .inr (g, l, dg, x, s, m, d, M, P, e) => if e < S.length then pz (e : Int) 5 else
      if chkR (g, l, dg, x, s, m, d, M, P, e) = 0 then (g, l, dg, (x : Int), (s : Int), m, d, (M.1 : Int), (M.2.1 : Int), (M.2.2 : Int), 0, 0)
      else pz (plN P (chkR (g, l, dg, x, s, m, d, M, P, e) - 6) : Int) (chkR (g, l, dg, x, s, m, d, M, P, e) : Int)
noncomputable def parseF (S : List UInt8) : PD := parseRF S (readD S 0)
theorem fi_Parse (S : List UInt8) (hS : S.length < 100000) : fillings_Parse 20000000 S = some (parseF S) := by
  have hp : dateforms_Parse 20000000 S = _ := df_Parse 19999700 S hS (by omega)
  have hr := fi_Read S 0 (by omega) hS
  rw [show ((0 : Nat) : Int) = 0 from rfl] at hr
  unfold fillings_Parse cursors_Run_fillings_Parse_1 fillings_Parse_1 parseF
  rw [hp, hr]
  unfold parseD readFD
  cases hd : readD S 0 with
  | inl k => rfl
  | inr r =>
    obtain ⟨g, l, dg, x, s, mm, d, M, P, e⟩ := r
    have hok := readD_ok (by omega) hd
    have hM := hok.all
    simp only [ob, d4, d8, parseR, parseRF]
    by_cases he : e < S.length
    · rw [if_pos he, if_pos he]
      rfl
    · rw [if_neg he, if_neg he]
      by_cases hc : chkD g l dg (x : Int) (s : Int) mm d (M.1 : Int) (M.2.1 : Int) (M.2.2 : Int) = 0
      · rw [if_pos hc]
        rcases chkF_0 hc with hf | hf
        · have h0 : chkR (g, l, dg, x, s, mm, d, M, P, e) = 0 := by unfold chkR; simp only []; rw [hf]; rfl
          rw [if_pos h0, if_pos h0]
          have hlt : decide (((e : Nat) : Int) < ((S.length : Nat) : Int)) = false := by simp; omega
          simp only [fiOut, d4, d8, hlt]
          rfl
        · have h0 : chkR (g, l, dg, x, s, mm, d, M, P, e) = 8 := by unfold chkR; simp only []; rw [hf]; rfl
          rw [if_neg (by omega), if_neg (by omega), h0]
          rfl
      · rw [if_neg hc]
        have h0 : chkR (g, l, dg, x, s, mm, d, M, P, e) = (chkD g l dg (x : Int) (s : Int) mm d (M.1 : Int) (M.2.1 : Int) (M.2.2 : Int)).toNat := by unfold chkR; simp only []; rw [chkF_ne hc]
        have hcs := chk_cases (g := g) (l := l) (dg := dg) (x := (x : Int)) (q := (s : Int)) (m := mm) (d := d) (k0 := (M.1 : Int)) (k1 := (M.2.1 : Int)) (k2 := (M.2.2 : Int)) (allM_of hM)
        rw [h0]
        rcases hcs with hc' | hc' | hc' | hc'
        · exact absurd hc' hc
        all_goals (rw [hc']; rfl)
theorem ref_Parse16 (S : List UInt8) (hS : S.length < 100000) : circaref16_Parse 20000000 S = some (parseF S) := by
  have hp : circaref15_Parse 20000000 S = _ := ref_Parse15 19999700 S hS (by omega)
  obtain ⟨Q, hr⟩ := ref_Read15 19999700 S 0 (by omega) hS (by omega)
  rw [show ((0 : Nat) : Int) = 0 from rfl, show 19999700 + 300 = 20000000 from rfl] at hr
  unfold circaref16_Parse parseF
  rw [hp, hr]
  unfold parseD
  cases hd : readD S 0 with
  | inl k => rfl
  | inr r =>
    obtain ⟨g, l, dg, x, s, mm, d, M, P, e⟩ := r
    have hok := readD_ok (by omega) hd
    have hM := hok.all
    have h17 := hok.dg17
    simp only [ob, d4, d8, parseR, parseRF]
    by_cases he : e < S.length
    · rw [if_pos he, if_pos he]
      rfl
    · rw [if_neg he, if_neg he]
      by_cases hc : chkD g l dg (x : Int) (s : Int) mm d (M.1 : Int) (M.2.1 : Int) (M.2.2 : Int) = 0
      · rw [if_pos hc]
        simp only [bne_self_eq_false, cond_false]
        rw [ref_Check16 (g := g) (l := l) (x := (x : Int)) (q := (s : Int)) (m := mm) (d := d) (show dg.length ≤ 100 by omega) (show (0 : Int) ≤ (M.1 : Int) by omega) (show (0 : Int) ≤ (M.2.1 : Int) by omega) (show (0 : Int) ≤ (M.2.2 : Int) by omega)]
        rcases chkF_0 hc with hf | hf
        · have h0 : chkR (g, l, dg, x, s, mm, d, M, P, e) = 0 := by unfold chkR; simp only []; rw [hf]; rfl
          rw [if_pos h0, hf]
          rfl
        · have h0 : chkR (g, l, dg, x, s, mm, d, M, P, e) = 8 := by unfold chkR; simp only []; rw [hf]; rfl
          rw [if_neg (by omega), h0, hf]
          rfl
      · rw [if_neg hc]
        have h0 : chkR (g, l, dg, x, s, mm, d, M, P, e) = (chkD g l dg (x : Int) (s : Int) mm d (M.1 : Int) (M.2.1 : Int) (M.2.2 : Int)).toNat := by unfold chkR; simp only []; rw [chkF_ne hc]
        have hcs := chk_cases (g := g) (l := l) (dg := dg) (x := (x : Int)) (q := (s : Int)) (m := mm) (d := d) (k0 := (M.1 : Int)) (k1 := (M.2.1 : Int)) (k2 := (M.2.2 : Int)) (allM_of hM)
        rw [h0]
        rcases hcs with hc' | hc' | hc' | hc'
        · exact absurd hc' hc
        all_goals (rw [hc']; rfl)
theorem fillingsParse_ok (S : List UInt8) : circalaw16_FillingsParse 20000000 S = some true := by
  unfold circalaw16_FillingsParse
  rw [fi_lives, cond_dec]
  by_cases hl : ((S.length : Nat) : Int) > 60
  · rw [if_pos hl]; rfl
  have hr := fi_Read S 0 (by omega) (by omega)
  obtain ⟨Q, hq⟩ := ref_Read15 19999700 S 0 (by omega) (by omega) (by omega)
  rw [show ((0 : Nat) : Int) = 0 from rfl] at hr
  rw [show ((0 : Nat) : Int) = 0 from rfl, show 19999700 + 300 = 20000000 from rfl] at hq
  rw [if_neg hl, fi_Parse S (by omega), ref_Parse16 S (by omega)]
  simp only [ob, BEq.rfl, Bool.and_self, Bool.not_true, cond_false, bne_self_eq_false]
  unfold cursors_Run_circalaw16_reader_read circalaw16_reader_read
  rw [hr, hq]
  unfold parseF readFD
  cases hd : readD S 0 with
  | inl k => rfl
  | inr r =>
    obtain ⟨g, l, dg, x, s, mm, d, M, P, e⟩ := r
    have hok := readD_ok (by omega) hd
    have hM := hok.all
    have hcs := chkF_cases (g := g) (l := l) (dg := dg) (x := (x : Int)) (q := (s : Int)) (m := mm) (d := d) (k0 := (M.1 : Int)) (k1 := (M.2.1 : Int)) (k2 := (M.2.2 : Int)) (allM_of hM)
    have hcr : chkR (g, l, dg, x, s, mm, d, M, P, e) = 0 ∨ chkR (g, l, dg, x, s, mm, d, M, P, e) = 6 ∨ chkR (g, l, dg, x, s, mm, d, M, P, e) = 7 ∨ chkR (g, l, dg, x, s, mm, d, M, P, e) = 8 := by
      unfold chkR; simp only []
      rcases hcs with h | h | h | h <;> rw [h] <;> simp
    simp only [ob, d4, d8, parseRF]
    by_cases he : e < S.length
    · have hlt : decide (((e : Nat) : Int) < ((S.length : Nat) : Int)) = true := by simp; omega
      rw [if_pos he]
      rcases hcr with h | h | h | h
      · rw [if_pos h]
        simp only [fiOut, d4, d8, hlt, pz]
        rfl
      all_goals
        rw [if_neg (by omega), h]
        rfl
    · have hlt : decide (((e : Nat) : Int) < ((S.length : Nat) : Int)) = false := by simp; omega
      rw [if_neg he]
      rcases hcr with h | h | h | h
      · rw [if_pos h, if_pos h]
        simp only [fiOut, rfOut, d4, d8, hlt, cond_false, ob, BEq.rfl, Bool.and_self, cond_true, bne_self_eq_false]
        have l0 : (l3 P)[0]? = some (P.1 : Int) := rfl
        rw [l0]
        simp only [BEq.rfl, cond_true]
      all_goals
        rw [if_neg (by omega), if_neg (by omega), h]
        rfl
end Go.Sh
