/- Chapter 14: spans of years with X.
   Conditions: none. Printed by program in part. -/
import Derived.Test.YtbghdnhhpanidaaGreatDoorLawYfD
set_option linter.unusedSimpArgs false
set_option linter.unusedVariables false
namespace Go.Sh
open Go.Abs

/-- The X of a mask filled with a digit. -/
def fillv (z : UInt8) (d : List UInt8) : List UInt8 := d.map fun c => if c = 88 then z else c

theorem fillv_len (z : UInt8) (d : List UInt8) : (fillv z d).length = d.length := by simp [fillv]

theorem fillv_dig {z : UInt8} (hz : isDig z = true) {d : List UInt8} (h : ∀ c ∈ d, isDig c = true ∨ c = 88) : ∀ c ∈ fillv z d, isDig c = true := by
  intro c hc
  obtain ⟨b, hb, rfl⟩ := List.mem_map.1 hc
  by_cases hx : b = 88
  · rw [if_pos hx]; exact hz
  · rw [if_neg hx]
    exact (h b hb).resolve_right hx

theorem fillv_get {z : UInt8} {d : List UInt8} {i : Nat} {c : UInt8} (h : d[i]? = some c) : (fillv z d)[i]? = some (if c = 88 then z else c) := by
  simp [fillv, h]

theorem cat_ok {a b : List UInt8} (h : a.length + b.length ≤ 1000000) : cat a b = some (a ++ b) := by
  unfold cat; rw [if_pos (by omega)]

theorem cut1 {l : List UInt8} {i : Nat} {c : UInt8} (h : l[i]? = some c) : List.drop i (List.take (i + 1) l) = [c] := by
  have hlt := lt_of_get h
  rw [List.take_add_one, h, List.drop_left' (by rw [List.length_take]; omega)]
  rfl

theorem take1 {l : List UInt8} {i : Nat} {c : UInt8} (h : l[i]? = some c) : List.take (i + 1) l = List.take i l ++ [c] := by
  rw [List.take_add_one, h]; rfl

/-- The least number but 0 of a mask of 0 and X. -/
def lowest (d : List UInt8) : Nat := 10 ^ (d.reverse.takeWhile (fun c => c != 88)).length

/-- The least and the greatest number of a mask; with a sign, not 0. -/
def spanX (g : Bool) (d : List UInt8) : Nat × Nat := (if g = true ∧ dval 0 (fillv 48 d) = 0 then lowest d else dval 0 (fillv 48 d), dval 0 (fillv 57 d))

theorem mk_Check (n : Nat) (d : List UInt8) (h : ∀ c ∈ d, isDig c = true ∨ c = 88) (h0 : d ≠ []) (hl : d.length ≤ 18) (hn : d.length < n) : masks_Check n d = some 0 := by
  have := iterL_inv (step := masks_Check_l0 n) (fun x => x.1 = d ∧ x.2.1 = d) (fun x => d.length - x.2.2) (fun _ => .inr d) (by
    rintro ⟨a, b, p⟩ ⟨ha, hb⟩
    simp only at ha hb
    rw [ha, hb]
    clear ha hb a b
    rcases Nat.lt_or_ge p d.length with hlt | hge
    · obtain ⟨c, hc⟩ : ∃ c, d[p]? = some c := ⟨d[p], List.getElem?_eq_getElem hlt⟩
      have hbl : Nat.blt p d.length = true := Nat.ble_eq_true_of_le hlt
      have hcx := h c (List.mem_of_getElem? hc)
      have hlow : c.toNat < 128 := by
        rcases hcx with hd | rfl
        · have := (isDig_iff c).1 hd; omega
        · decide
      simp only [masks_Check_l0, hbl, cond_true, dec_low hc hlow]
      refine .inl ⟨(d, d, p + 1), ?_, ⟨rfl, rfl⟩, by simp only; omega, trivial⟩
      by_cases hx : c = 88
      · have e : (((c.toNat : Nat) : Int) != 88) = false := by rw [hx]; rfl
        rw [e]; rfl
      · have e : (((c.toNat : Nat) : Int) != 88) = true := by
          simp only [bne, Bool.not_eq_true', beq_eq_false_iff_ne]
          intro e
          exact hx (UInt8.toNat_inj.1 (by show c.toNat = 88; omega))
        have hd := (isDig_iff c).1 (hcx.resolve_right hx)
        have e1 : decide (((c.toNat : Nat) : Int) < 48) = false := decide_eq_false (by omega)
        have e2 : decide (((c.toNat : Nat) : Int) > 57) = false := decide_eq_false (by omega)
        rw [e, e1, e2]; rfl
    · have hbl : Nat.blt p d.length = false := by
        cases hb : Nat.blt p d.length with
        | false => rfl
        | true => exact absurd (Nat.le_of_ble_eq_true hb) (by omega)
      simp only [masks_Check_l0, hbl, cond_false]
      exact .inr trivial) n (d, d, 0) ⟨rfl, rfl⟩ (by simp only; omega)
  have e : decide (((d.length : Nat) : Int) > 18) = false := decide_eq_false (by omega)
  have e2 : (d == ([] : List UInt8)) = false := beq_eq_false_iff_ne.2 h0
  simp only [masks_Check, e, cond_false, this, ob, e2]

theorem mk_filled (n : Nat) (d : List UInt8) (z : UInt8) (hz : isDig z = true) (h : ∀ c ∈ d, isDig c = true ∨ c = 88) (hl : d.length ≤ 17) (hn : d.length < n) : masks_filled n d ((z.toNat : Nat) : Int) = some ((dval 0 (fillv z d) : Nat) : Int) := by
  have hbl : (List.map (fun (b : UInt8) => ((b.toNat : Nat) : Int)) d).length = d.length := by simp
  have := iterL_inv (step := masks_filled_l0 n) (fun x => ∃ i : Nat, i ≤ d.length ∧ x = (((z.toNat : Nat) : Int), ((dval 0 ((fillv z d).take i) : Nat) : Int), ((d.length : Nat) : Int), (i : Int), List.map (fun (b : UInt8) => ((b.toNat : Nat) : Int)) d)) (fun x => d.length - x.2.2.2.1.toNat) (fun _ => ((dval 0 (fillv z d) : Nat) : Int)) (by
    rintro x ⟨i, hi, rfl⟩
    rcases Nat.lt_or_ge i d.length with hlt | hge
    · obtain ⟨c, hc⟩ : ∃ c, d[i]? = some c := ⟨d[i], List.getElem?_eq_getElem hlt⟩
      have hf := fillv_get (z := z) hc
      have hgi : (List.map (fun (b : UInt8) => ((b.toNat : Nat) : Int)) d)[i]? = some ((c.toNat : Nat) : Int) := by simp [hc]
      have hdl := dval_lt ((fillv z d).take i) 0 0 (fun e he => fillv_dig hz h e (List.mem_of_mem_take he)) (by simp)
      rw [List.length_take, fillv_len, Nat.min_eq_left (by omega), Nat.add_zero] at hdl
      have hp : (10 : Nat) ^ i ≤ 10 ^ 17 := Nat.pow_le_pow_right (by decide) (by omega)
      have h17 : (10 : Nat) ^ 17 = 100000000000000000 := by decide
      have w1 : IntKind.wrap .i64 ((i : Int) + 1) = ((i + 1 : Nat) : Int) := by rw [wrap_i64 _ (by omega) (by omega)]; omega
      have hnext := dval_app ((fillv z d).take i) 0 (if c = 88 then z else c)
      rw [← take1 hf] at hnext
      refine .inl ⟨(((z.toNat : Nat) : Int), ((dval 0 ((fillv z d).take (i + 1)) : Nat) : Int), ((d.length : Nat) : Int), ((i + 1 : Nat) : Int), List.map (fun (b : UInt8) => ((b.toNat : Nat) : Int)) d), ?_, ⟨i + 1, hlt, rfl⟩, by simp only [Int.toNat_natCast]; omega, rfl⟩
      rw [hnext]
      generalize dval 0 ((fillv z d).take i) = a at *
      have w2 : IntKind.wrap .i64 (10 * ((a : Nat) : Int)) = ((10 * a : Nat) : Int) := by rw [wrap_i64 _ (by omega) (by omega)]; omega
      have step : ∀ e : UInt8, isDig e = true → IntKind.wrap .i64 (((10 * a : Nat) : Int) + IntKind.wrap .i64 (IntKind.wrap .u8 (((e.toNat : Nat) : Int) - 48))) = ((a * 10 + (e.toNat - 48) : Nat) : Int) := by
        intro e he
        have he := (isDig_iff e).1 he
        rw [wrap_u8 _ (by omega) (by omega), wrap_i64 (((e.toNat : Nat) : Int) - 48) (by omega) (by omega), wrap_i64 _ (by omega) (by omega)]
        omega
      simp only [masks_filled_l0, nat_dec_lt, hlt, decide_true, cond_true, hbl, ix_nat hlt, ob, hgi, w1, w2]
      by_cases hx : c = 88
      · have e : (((c.toNat : Nat) : Int) == 88) = true := by rw [hx]; rfl
        rw [e, cond_true, if_pos hx, step z hz]
      · have e : (((c.toNat : Nat) : Int) == 88) = false := by
          rw [beq_eq_false_iff_ne]
          intro e
          exact hx (UInt8.toNat_inj.1 (by show c.toNat = 88; omega))
        rw [e, cond_false, if_neg hx, step c ((h c (List.mem_of_getElem? hc)).resolve_right hx)]
    · have : i = d.length := by omega
      subst this
      refine .inr ?_
      rw [List.take_of_length_le (by rw [fillv_len]; exact Nat.le_refl _)]
      simp only [masks_filled_l0, nat_dec_lt, Nat.lt_irrefl, decide_false, cond_false]) n (((z.toNat : Nat) : Int), 0, ((d.length : Nat) : Int), 0, List.map (fun (b : UInt8) => ((b.toNat : Nat) : Int)) d) ⟨0, by omega, by simp [dval_nil]⟩ (by simp; omega)
  simp only [masks_filled, hbl, this, ob]

theorem mk_Least (n : Nat) (d : List UInt8) (h : ∀ c ∈ d, isDig c = true ∨ c = 88) (h0 : d ≠ []) (hl : d.length ≤ 17) (hn : d.length < n) : masks_Least n d = some (((dval 0 (fillv 48 d) : Nat) : Int), 0) := by
  have hf : masks_filled n d 48 = some ((dval 0 (fillv 48 d) : Nat) : Int) := mk_filled n d 48 (by decide) h hl hn
  simp only [masks_Least, mk_Check n d h h0 (by omega) hn, ob, bne_self_eq_false, cond_false, hf]

theorem mk_Greatest (n : Nat) (d : List UInt8) (h : ∀ c ∈ d, isDig c = true ∨ c = 88) (h0 : d ≠ []) (hl : d.length ≤ 17) (hn : d.length < n) : masks_Greatest n d = some (((dval 0 (fillv 57 d) : Nat) : Int), 0) := by
  have hf : masks_filled n d 57 = some ((dval 0 (fillv 57 d) : Nat) : Int) := mk_filled n d 57 (by decide) h hl hn
  simp only [masks_Greatest, mk_Check n d h h0 (by omega) hn, ob, bne_self_eq_false, cond_false, hf]

theorem yspan_0 (m : Nat) : yearforms_Span (m + 300) true false [48, 48, 48, 88] 0 0 = some ((sgn true (spanX true [48, 48, 48, 88])).1, (sgn true (spanX true [48, 48, 48, 88])).2, 0) := by kernel_rfl
theorem rspan_0 (m : Nat) : circaref14_Span (m + 300) true false [48, 48, 48, 88] 0 0 = some (sgn true (spanX true [48, 48, 48, 88])) := by kernel_rfl
theorem yspan_1 (m : Nat) : yearforms_Span (m + 300) true false [48, 48, 88, 48] 0 0 = some ((sgn true (spanX true [48, 48, 88, 48])).1, (sgn true (spanX true [48, 48, 88, 48])).2, 0) := by kernel_rfl
theorem rspan_1 (m : Nat) : circaref14_Span (m + 300) true false [48, 48, 88, 48] 0 0 = some (sgn true (spanX true [48, 48, 88, 48])) := by kernel_rfl
theorem yspan_2 (m : Nat) : yearforms_Span (m + 300) true false [48, 48, 88, 88] 0 0 = some ((sgn true (spanX true [48, 48, 88, 88])).1, (sgn true (spanX true [48, 48, 88, 88])).2, 0) := by kernel_rfl
theorem rspan_2 (m : Nat) : circaref14_Span (m + 300) true false [48, 48, 88, 88] 0 0 = some (sgn true (spanX true [48, 48, 88, 88])) := by kernel_rfl
theorem yspan_3 (m : Nat) : yearforms_Span (m + 300) true false [48, 88, 48, 48] 0 0 = some ((sgn true (spanX true [48, 88, 48, 48])).1, (sgn true (spanX true [48, 88, 48, 48])).2, 0) := by kernel_rfl
theorem rspan_3 (m : Nat) : circaref14_Span (m + 300) true false [48, 88, 48, 48] 0 0 = some (sgn true (spanX true [48, 88, 48, 48])) := by kernel_rfl
theorem yspan_4 (m : Nat) : yearforms_Span (m + 300) true false [48, 88, 48, 88] 0 0 = some ((sgn true (spanX true [48, 88, 48, 88])).1, (sgn true (spanX true [48, 88, 48, 88])).2, 0) := by kernel_rfl
theorem rspan_4 (m : Nat) : circaref14_Span (m + 300) true false [48, 88, 48, 88] 0 0 = some (sgn true (spanX true [48, 88, 48, 88])) := by kernel_rfl
theorem yspan_5 (m : Nat) : yearforms_Span (m + 300) true false [48, 88, 88, 48] 0 0 = some ((sgn true (spanX true [48, 88, 88, 48])).1, (sgn true (spanX true [48, 88, 88, 48])).2, 0) := by kernel_rfl
theorem rspan_5 (m : Nat) : circaref14_Span (m + 300) true false [48, 88, 88, 48] 0 0 = some (sgn true (spanX true [48, 88, 88, 48])) := by kernel_rfl
theorem yspan_6 (m : Nat) : yearforms_Span (m + 300) true false [48, 88, 88, 88] 0 0 = some ((sgn true (spanX true [48, 88, 88, 88])).1, (sgn true (spanX true [48, 88, 88, 88])).2, 0) := by kernel_rfl
theorem rspan_6 (m : Nat) : circaref14_Span (m + 300) true false [48, 88, 88, 88] 0 0 = some (sgn true (spanX true [48, 88, 88, 88])) := by kernel_rfl
theorem yspan_7 (m : Nat) : yearforms_Span (m + 300) true false [88, 48, 48, 48] 0 0 = some ((sgn true (spanX true [88, 48, 48, 48])).1, (sgn true (spanX true [88, 48, 48, 48])).2, 0) := by kernel_rfl
theorem rspan_7 (m : Nat) : circaref14_Span (m + 300) true false [88, 48, 48, 48] 0 0 = some (sgn true (spanX true [88, 48, 48, 48])) := by kernel_rfl
theorem yspan_8 (m : Nat) : yearforms_Span (m + 300) true false [88, 48, 48, 88] 0 0 = some ((sgn true (spanX true [88, 48, 48, 88])).1, (sgn true (spanX true [88, 48, 48, 88])).2, 0) := by kernel_rfl
theorem rspan_8 (m : Nat) : circaref14_Span (m + 300) true false [88, 48, 48, 88] 0 0 = some (sgn true (spanX true [88, 48, 48, 88])) := by kernel_rfl
theorem yspan_9 (m : Nat) : yearforms_Span (m + 300) true false [88, 48, 88, 48] 0 0 = some ((sgn true (spanX true [88, 48, 88, 48])).1, (sgn true (spanX true [88, 48, 88, 48])).2, 0) := by kernel_rfl
theorem rspan_9 (m : Nat) : circaref14_Span (m + 300) true false [88, 48, 88, 48] 0 0 = some (sgn true (spanX true [88, 48, 88, 48])) := by kernel_rfl
theorem yspan_10 (m : Nat) : yearforms_Span (m + 300) true false [88, 48, 88, 88] 0 0 = some ((sgn true (spanX true [88, 48, 88, 88])).1, (sgn true (spanX true [88, 48, 88, 88])).2, 0) := by kernel_rfl
theorem rspan_10 (m : Nat) : circaref14_Span (m + 300) true false [88, 48, 88, 88] 0 0 = some (sgn true (spanX true [88, 48, 88, 88])) := by kernel_rfl
theorem yspan_11 (m : Nat) : yearforms_Span (m + 300) true false [88, 88, 48, 48] 0 0 = some ((sgn true (spanX true [88, 88, 48, 48])).1, (sgn true (spanX true [88, 88, 48, 48])).2, 0) := by kernel_rfl
theorem rspan_11 (m : Nat) : circaref14_Span (m + 300) true false [88, 88, 48, 48] 0 0 = some (sgn true (spanX true [88, 88, 48, 48])) := by kernel_rfl
theorem yspan_12 (m : Nat) : yearforms_Span (m + 300) true false [88, 88, 48, 88] 0 0 = some ((sgn true (spanX true [88, 88, 48, 88])).1, (sgn true (spanX true [88, 88, 48, 88])).2, 0) := by kernel_rfl
theorem rspan_12 (m : Nat) : circaref14_Span (m + 300) true false [88, 88, 48, 88] 0 0 = some (sgn true (spanX true [88, 88, 48, 88])) := by kernel_rfl
theorem yspan_13 (m : Nat) : yearforms_Span (m + 300) true false [88, 88, 88, 48] 0 0 = some ((sgn true (spanX true [88, 88, 88, 48])).1, (sgn true (spanX true [88, 88, 88, 48])).2, 0) := by kernel_rfl
theorem rspan_13 (m : Nat) : circaref14_Span (m + 300) true false [88, 88, 88, 48] 0 0 = some (sgn true (spanX true [88, 88, 88, 48])) := by kernel_rfl
theorem yspan_14 (m : Nat) : yearforms_Span (m + 300) true false [88, 88, 88, 88] 0 0 = some ((sgn true (spanX true [88, 88, 88, 88])).1, (sgn true (spanX true [88, 88, 88, 88])).2, 0) := by kernel_rfl
theorem rspan_14 (m : Nat) : circaref14_Span (m + 300) true false [88, 88, 88, 88] 0 0 = some (sgn true (spanX true [88, 88, 88, 88])) := by kernel_rfl

/-- A mask that can be 0, of four places. -/
theorem zero_mask {d : List UInt8} (hl : d.length = 4) (h : ∀ c ∈ d, isDig c = true ∨ c = 88) (hz : dval 0 (fillv 48 d) = 0) : ∀ c ∈ d, c = 48 ∨ c = 88 := by
  match d, hl with
  | [a, b, c, e], _ =>
    have hd := fillv_dig (z := 48) (by decide) h
    have h2 : dval 0 (fillv 48 [a, b, c, e]) = ((((0 * 10 + ((if a = 88 then (48 : UInt8) else a).toNat - 48)) * 10 + ((if b = 88 then (48 : UInt8) else b).toNat - 48)) * 10 + ((if c = 88 then (48 : UInt8) else c).toNat - 48)) * 10 + ((if e = 88 then (48 : UInt8) else e).toNat - 48)) := by
      simp only [fillv, List.map_cons, List.map_nil, dval_cons, dval_nil, dstep]
    rw [h2] at hz
    have key : ∀ x : UInt8, isDig (if x = 88 then (48 : UInt8) else x) = true → (if x = 88 then (48 : UInt8) else x).toNat - 48 = 0 → x = 48 ∨ x = 88 := by
      intro x hx h0
      by_cases hx8 : x = 88
      · exact .inr hx8
      · rw [if_neg hx8] at hx h0
        have := (isDig_iff x).1 hx
        exact .inl (UInt8.toNat_inj.1 (by show x.toNat = 48; omega))
    simp only [fillv, List.map_cons, List.map_nil, List.mem_cons, List.not_mem_nil, or_false, forall_eq_or_imp, forall_eq] at hd ⊢
    exact ⟨key a hd.1 (by omega), key b hd.2.1 (by omega), key c hd.2.2.1 (by omega), key e hd.2.2.2 (by omega)⟩

theorem mask_cases {d : List UInt8} (hl : d.length = 4) (h : ∀ c ∈ d, c = 48 ∨ c = 88) (hX : hasX d = true) (P : List UInt8 → Prop) (h0 : P [48, 48, 48, 88]) (h1 : P [48, 48, 88, 48]) (h2 : P [48, 48, 88, 88]) (h3 : P [48, 88, 48, 48]) (h4 : P [48, 88, 48, 88]) (h5 : P [48, 88, 88, 48]) (h6 : P [48, 88, 88, 88]) (h7 : P [88, 48, 48, 48]) (h8 : P [88, 48, 48, 88]) (h9 : P [88, 48, 88, 48]) (h10 : P [88, 48, 88, 88]) (h11 : P [88, 88, 48, 48]) (h12 : P [88, 88, 48, 88]) (h13 : P [88, 88, 88, 48]) (h14 : P [88, 88, 88, 88]) : P d := by
  match d, hl with
  | [a, b, c, e], _ =>
    simp only [List.mem_cons, List.not_mem_nil, or_false, forall_eq_or_imp, forall_eq] at h
    obtain ⟨ha, hb, hc, he⟩ := h
    rcases ha with rfl | rfl <;> rcases hb with rfl | rfl <;> rcases hc with rfl | rfl <;> rcases he with rfl | rfl
    · exact absurd hX (by decide)
    · exact h0
    · exact h1
    · exact h2
    · exact h3
    · exact h4
    · exact h5
    · exact h6
    · exact h7
    · exact h8
    · exact h9
    · exact h10
    · exact h11
    · exact h12
    · exact h13
    · exact h14

theorem ok_mask {g l : Bool} {d : List UInt8} {x s : Int} (h : okY g l d x s) (hX : hasX d = true) : l = false ∧ x = 0 ∧ s = 0 ∧ d.length = 4 ∧ ∀ c ∈ d, isDig c = true ∨ c = 88 := by
  cases l with
  | true =>
    have h : okL d x s := by simpa [okY] using h
    rw [hasX_dig h.1.1] at hX
    cases hX
  | false =>
    have h : okS g d x s := by simpa [okY] using h
    obtain ⟨h1, h2, h3, h4, h5, h6, h7⟩ := h
    refine ⟨rfl, h3, ?_, h1, h2⟩
    have : ¬ 0 < s := fun e => h7 ⟨e, hX⟩
    omega

theorem ne_of_len4 {d : List UInt8} (h : d.length = 4) : d ≠ [] := by rintro rfl; simp at h

theorem yf_Span_mask (m : Nat) (g : Bool) (d : List UInt8) (h : okY g false d 0 0) (hX : hasX d = true) : yearforms_Span (m + 300) g false d 0 0 = some ((sgn g (spanX g d)).1, (sgn g (spanX g d)).2, 0) := by
  obtain ⟨_, _, _, hl, hd⟩ := ok_mask h hX
  by_cases hz : g = true ∧ dval 0 (fillv 48 d) = 0
  · obtain ⟨rfl, hz⟩ := hz
    exact mask_cases hl (zero_mask hl hd hz) hX (fun d => yearforms_Span (m + 300) true false d 0 0 = some ((sgn true (spanX true d)).1, (sgn true (spanX true d)).2, 0)) (yspan_0 m) (yspan_1 m) (yspan_2 m) (yspan_3 m) (yspan_4 m) (yspan_5 m) (yspan_6 m) (yspan_7 m) (yspan_8 m) (yspan_9 m) (yspan_10 m) (yspan_11 m) (yspan_12 m) (yspan_13 m) (yspan_14 m)
  · have hs : spanX g d = (dval 0 (fillv 48 d), dval 0 (fillv 57 d)) := by unfold spanX; rw [if_neg hz]
    have h1 := dval_lt (fillv 48 d) 0 0 (fillv_dig (by decide) hd) (by simp)
    have h2 := dval_lt (fillv 57 d) 0 0 (fillv_dig (by decide) hd) (by simp)
    rw [fillv_len, hl] at h1 h2
    have h4 : (10 : Nat) ^ (4 + 0) = 10000 := by decide
    unfold yearforms_Span
    rw [yf_Check _ g false d 0 0 (by omega) (by omega), yf_Masked, if_pos h, hX, mk_Least _ d hd (ne_of_len4 hl) (by omega) (by omega), mk_Greatest _ d hd (ne_of_len4 hl) (by omega) (by omega), hs]
    generalize dval 0 (fillv 48 d) = a at *
    generalize dval 0 (fillv 57 d) = b at *
    simp only [ob, bne_self_eq_false, cond_false, cond_true]
    cases g with
    | true =>
      have e : (((a : Nat) : Int) == 0) = false := beq_eq_false_iff_ne.2 (fun e => hz ⟨rfl, by omega⟩)
      simp only [cond_true, e, cond_false, sgn, if_true]
      rw [wrap_i64 _ (by omega) (by omega), wrap_i64 _ (by omega) (by omega), Int.zero_sub, Int.zero_sub]
    | false => simp [sgn]

theorem ref_sp_loop (n : Nat) (g l : Bool) (d : List UInt8) (x s : Int) (hl : d.length = 4) (hn : 4 < n) : iterL (circaref14_Span_l0 n) n ([], [], 0, g, l, d, x, s) = some (fillv 48 d, fillv 57 d, g, l, d, x, s) := by
  refine iterL_inv (step := circaref14_Span_l0 n) (fun q => ∃ i : Nat, i ≤ 4 ∧ q = ((fillv 48 d).take i, (fillv 57 d).take i, (i : Int), g, l, d, x, s)) (fun q => 4 - q.2.2.1.toNat) (fun _ => (fillv 48 d, fillv 57 d, g, l, d, x, s)) ?_ n _ ⟨0, by omega, by simp⟩ (by simp; omega)
  rintro q ⟨i, hi, rfl⟩
  rcases Nat.lt_or_ge i 4 with hlt | hge
  · obtain ⟨c, hc⟩ : ∃ c, d[i]? = some c := ⟨d[i], List.getElem?_eq_getElem (by omega)⟩
    have hf1 := take1 (fillv_get (z := 48) hc)
    have hf2 := take1 (fillv_get (z := 57) hc)
    have d1 : decide ((i : Int) < 4) = true := decide_eq_true (by omega)
    have w1 : IntKind.wrap .i64 ((i : Int) + 1) = ((i + 1 : Nat) : Int) := by rw [wrap_i64 _ (by omega) (by omega)]; omega
    refine .inl ⟨((fillv 48 d).take (i + 1), (fillv 57 d).take (i + 1), ((i + 1 : Nat) : Int), g, l, d, x, s), ?_, ⟨i + 1, by omega, rfl⟩, by simp only [Int.toNat_natCast]; omega, rfl⟩
    simp only [circaref14_Span_l0, d1, cond_true, w1, bx_nat (show i + 1 ≤ d.length by omega), bx_nat (show i ≤ i + 1 by omega), ob, cut1 hc]
    have ht : ∀ z : UInt8, ((fillv z d).take i).length ≤ 4 := fun z => by rw [List.length_take]; omega
    rw [hf1, hf2]
    by_cases hx : c = 88
    · have e : (([c] : List UInt8) == [88]) = true := by rw [hx]; rfl
      rw [e, cond_true, if_pos hx, if_pos hx, cat_ok (by have := ht 48; simp; omega), cat_ok (by have := ht 57; simp; omega)]
    · have e : (([c] : List UInt8) == [88]) = false := by
        rw [beq_eq_false_iff_ne]; intro e; exact hx (by simpa using e)
      rw [e, cond_false, if_neg hx, if_neg hx, cat_ok (by have := ht 48; simp; omega), cat_ok (by have := ht 57; simp; omega)]
  · have : i = 4 := by omega
    subst this
    refine .inr ?_
    rw [List.take_of_length_le (by rw [fillv_len]; omega), List.take_of_length_le (by rw [fillv_len]; omega)]
    rfl

theorem dval_zero4 {d : List UInt8} (h : d = [48, 48, 48, 48]) : dval 0 d = 0 := by rw [h]; decide

theorem ref_Span_mask (m : Nat) (g : Bool) (d : List UInt8) (h : okY g false d 0 0) (hX : hasX d = true) : circaref14_Span (m + 300) g false d 0 0 = some (sgn g (spanX g d)) := by
  obtain ⟨_, _, _, hl, hd⟩ := ok_mask h hX
  by_cases hz : g = true ∧ dval 0 (fillv 48 d) = 0
  · obtain ⟨rfl, hz⟩ := hz
    exact mask_cases hl (zero_mask hl hd hz) hX (fun d => circaref14_Span (m + 300) true false d 0 0 = some (sgn true (spanX true d))) (rspan_0 m) (rspan_1 m) (rspan_2 m) (rspan_3 m) (rspan_4 m) (rspan_5 m) (rspan_6 m) (rspan_7 m) (rspan_8 m) (rspan_9 m) (rspan_10 m) (rspan_11 m) (rspan_12 m) (rspan_13 m) (rspan_14 m)
  · have hs : spanX g d = (dval 0 (fillv 48 d), dval 0 (fillv 57 d)) := by unfold spanX; rw [if_neg hz]
    have d48 := fillv_dig (z := 48) (by decide) hd
    have d57 := fillv_dig (z := 57) (by decide) hd
    have h1 := dval_lt (fillv 48 d) 0 0 d48 (by simp)
    have h2 := dval_lt (fillv 57 d) 0 0 d57 (by simp)
    rw [fillv_len, hl] at h1 h2
    have h4 : (10 : Nat) ^ (4 + 0) = 10000 := by decide
    have m1 : circaref14_Magnitude (m + 300) (fillv 48 d) 0 = some (((dval 0 (fillv 48 d) : Nat) : Int), 1) := by
      have := refMagn_eq (m + 300) (fillv 48 d) 0 d48 (by rw [fillv_len]; omega) (by omega) (by rw [fillv_len]; omega)
      rw [if_pos (by unfold E16; simp only [Nat.pow_zero, Nat.mul_one]; omega)] at this
      simpa using this
    have m2 : circaref14_Magnitude (m + 300) (fillv 57 d) 0 = some (((dval 0 (fillv 57 d) : Nat) : Int), 1) := by
      have := refMagn_eq (m + 300) (fillv 57 d) 0 d57 (by rw [fillv_len]; omega) (by omega) (by rw [fillv_len]; omega)
      rw [if_pos (by unfold E16; simp only [Nat.pow_zero, Nat.mul_one]; omega)] at this
      simpa using this
    have z11 : ((if true = true then (1 : Int) else 0) == 1) = true := rfl
    have z0 : decide ((0 : Int) > 0) = false := rfl
    unfold circaref14_Span
    rw [ref_Masked _ g false d 0 0 (by omega) (by omega), hX, ref_sp_loop _ g false d 0 0 hl (by omega), hs]
    simp only [ob, if_true, BEq.rfl, cond_true]
    cases g with
    | true =>
      have e : (fillv 48 d == ([48, 48, 48, 48] : List UInt8)) = false := by
        rw [beq_eq_false_iff_ne]
        intro e
        exact hz ⟨rfl, dval_zero4 e⟩
      simp only [cond_true, e, cond_false, m1, m2, z0, sgn, if_true]
      generalize dval 0 (fillv 48 d) = a at *
      generalize dval 0 (fillv 57 d) = b at *
      rw [wrap_i64 _ (by omega) (by omega), wrap_i64 _ (by omega) (by omega), Int.zero_sub, Int.zero_sub]
    | false => simp only [cond_false, m1, m2, z0, sgn, Bool.false_eq_true, if_false]

/-- The span of a right year. -/
def spanY (g : Bool) (d : List UInt8) (x s : Int) : Nat × Nat := if hasX d then spanX g d else spanA d x.toNat s.toNat

theorem yf_Span (m : Nat) (g l : Bool) (d : List UInt8) (x s : Int) (hd : d.length ≤ 100) : yearforms_Span (m + 300) g l d x s = some (if okY g l d x s then ((sgn g (spanY g d x s)).1, (sgn g (spanY g d x s)).2, 0) else (0, 0, 6)) := by
  by_cases h : okY g l d x s
  · rw [if_pos h]
    unfold spanY
    cases hX : hasX d with
    | true =>
      obtain ⟨rfl, rfl, rfl, hl, hdd⟩ := ok_mask h hX
      exact yf_Span_mask m g d h hX
    | false =>
      obtain ⟨k, q, rfl, rfl, hN⟩ := ok_num h hX
      exact yf_Span_num _ g l d k q (by omega) hd h hN
  · rw [if_neg h]
    unfold yearforms_Span
    rw [yf_Check _ g l d x s (by omega) hd, if_neg h]
    rfl

theorem ref_Span (m : Nat) (g l : Bool) (d : List UInt8) (x s : Int) (hd : d.length ≤ 100) (h : okY g l d x s) : circaref14_Span (m + 300) g l d x s = some (sgn g (spanY g d x s)) := by
  unfold spanY
  cases hX : hasX d with
  | true =>
    obtain ⟨rfl, rfl, rfl, hl, hdd⟩ := ok_mask h hX
    exact ref_Span_mask m g d h hX
  | false =>
    obtain ⟨k, q, rfl, rfl, hN⟩ := ok_num h hX
    exact ref_Span_num _ g l d k q (by omega) hd hN

/-! ### The law of checks -/

theorem yf_lives (m : Nat) : circalaw14_lives (m + 300) = some true := by kernel_rfl

theorem ok_small {g l : Bool} {d : List UInt8} {x s : Int} (h : okY g l d x s) : 0 ≤ x ∧ x ≤ 16 ∧ 0 ≤ s ∧ s ≤ 17 ∧ 1 ≤ d.length ∧ d.length ≤ 17 := by
  cases hX : hasX d with
  | true =>
    obtain ⟨rfl, rfl, rfl, hl, _⟩ := ok_mask h hX
    omega
  | false =>
    obtain ⟨k, q, rfl, rfl, hN⟩ := ok_num h hX
    have h1 := hN.wide
    have h2 := hN.sig
    have h3 : 1 ≤ d.length := by
      cases d with
      | nil => exact absurd rfl hN.ne
      | cons c r => simp
    omega

theorem ok_ysmall {g l : Bool} {d : List UInt8} {x s : Int} (h : okY g l d x s) : ysmall d x s = true := by
  obtain ⟨h1, h2, h3, h4, h5, h6⟩ := ok_small h
  unfold ysmall
  rw [decide_eq_true (by omega), Nat.ble_eq_true_of_le (by omega)]
  rfl

theorem masked_eq (d : List UInt8) : (hasX d == ((if hasX d then (1 : Int) else 0) == 1)) = true := by cases hasX d <;> rfl

theorem yearformsCheck_ok (m : Nat) (g l : Bool) (d : List UInt8) (x s : Int) : circalaw14_YearformsCheck (m + 300) g l d x s = some true := by
  unfold circalaw14_YearformsCheck
  rw [yf_lives m]
  by_cases hl : d.length > 30
  · have e : decide (((d.length : Nat) : Int) > 30) = true := decide_eq_true (by omega)
    rw [e]; rfl
  · have e : decide (((d.length : Nat) : Int) > 30) = false := decide_eq_false (by omega)
    rw [e, cond_false, ref_Check _ g l d x s (by omega) (by omega), yf_Check _ g l d x s (by omega) (by omega), yf_Value _ g l d x s (by omega) (by omega), yf_Span m g l d x s (by omega), yf_Masked, ref_Masked _ g l d x s (by omega) (by omega)]
    have hme := masked_eq d
    by_cases h : okY g l d x s
    · simp only [if_pos h, ob, ok_ysmall h, cond_true, bne_self_eq_false, cond_false, hme, BEq.rfl]
    · have hv : ¬ (okY g l d x s ∧ hasX d = false) := fun q => h q.1
      simp only [if_neg h, if_neg hv, ob, hme, bne_self_eq_false, cond_false, cond_true]
      rfl

end Go.Sh
