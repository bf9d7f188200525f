/- Texts: which runes stand in a set of plain bytes.
   Conditions: none. -/
import Derived.Test.YtbghdnhhpanidaaGreatDoorLawCuA
set_option linter.unusedSimpArgs false
set_option linter.unusedVariables false
namespace Go.Sh
open Go.Abs

def asc (l : List UInt8) : Prop := ∀ c ∈ l, c.toNat < 128

theorem encode_hi (r : Int) (h : 128 ≤ r) : ∃ p e, (Utf8.encode r).data.toList = p ++ [e] ∧ 1 ≤ p.length ∧ p.length ≤ 3 ∧ 128 ≤ e.toNat := by
  unfold Utf8.encode
  have hc : 128 ≤ (if Utf8.valid r then r.toNat else Utf8.runeError) := by
    split
    · omega
    · decide
  generalize (if Utf8.valid r then r.toNat else Utf8.runeError) = c at hc
  have he : 128 ≤ (UInt8.ofNat (0x80 + c % 64)).toNat := by
    simp only [UInt8.toNat_ofNat']
    omega
  simp only
  split
  · omega
  · split
    · exact ⟨[_], _, rfl, by simp, by simp, he⟩
    · split
      · exact ⟨[_, _], _, rfl, by simp, by simp, he⟩
      · exact ⟨[_, _, _], _, rfl, by simp, by simp, he⟩

theorem get_asc {l : List UInt8} (h : asc l) {i : Nat} {c : UInt8} (hi : l[i]? = some c) : c.toNat < 128 := h c (List.mem_of_getElem? hi)

theorem indexRune_l0 (n : Nat) (set : List UInt8) (h : asc set) (hn : set.length < n) : iterL (strings_IndexRune_l0 n) n (set, 0) = some (.inr ()) := by
  refine iterL_inv (step := strings_IndexRune_l0 n) (fun x => x.1 = set) (fun x => set.length - x.2) (fun x => .inr ()) ?_ n _ rfl (by simp; omega)
  rintro ⟨s, i⟩ rfl
  simp only [strings_IndexRune_l0]
  by_cases hi : i < s.length
  · have hb : Nat.blt i s.length = true := Nat.ble_eq_true_of_le hi
    obtain ⟨c, hc⟩ : ∃ c, s[i]? = some c := ⟨s[i], List.getElem?_eq_getElem hi⟩
    have hlow := get_asc h hc
    have hne : (((c.toNat : Nat) : Int) == 65533) = false := by rw [beq_eq_false_iff_ne]; omega
    simp only [hb, cond_true, dec_low hc hlow, hne, cond_false]
    exact .inl ⟨_, rfl, rfl, by simp only; omega, trivial⟩
  · have hb : Nat.blt i s.length = false := by
      cases hb : Nat.blt i s.length with
      | false => rfl
      | true => exact absurd (Nat.le_of_ble_eq_true hb) (by omega)
    simp only [hb, cond_false]
    exact .inr trivial

theorem indexByte_none {l : List UInt8} {c : UInt8} (h : c ∉ l) : Lib.indexByte l c < 0 := by
  have h1 := indexByte_neg l c
  have h2 : hasB l c = false := by
    unfold hasB
    rw [List.any_eq_false]
    intro x hx he
    simp only [beq_iff_eq] at he
    exact h (he ▸ hx)
  rw [h2] at h1
  simpa using h1

theorem indexRune_hi (n : Nat) (set : List UInt8) (h : asc set) (hn : set.length < n) (hs : set.length ≤ 100) (r : Int) (hr : 128 ≤ r) : strings_IndexRune n set r = some (-1) := by
  have h0 : decide ((0 : Int) ≤ r) = true := decide_eq_true (by omega)
  have h1 : decide (r < 128) = false := decide_eq_false (by omega)
  simp only [strings_IndexRune, h0, h1, cond_true, cond_false]
  by_cases hrr : r = 65533
  · have : (r == 65533) = true := beq_iff_eq.2 hrr
    simp only [this, cond_true, indexRune_l0 n set h hn, ob]
  · have : (r == 65533) = false := beq_eq_false_iff_ne.2 hrr
    simp only [this, cond_false]
    obtain ⟨v, hv⟩ : ∃ v, unicode_utf8_ValidRune n r = some v := by
      unfold unicode_utf8_ValidRune
      generalize decide ((0 : Int) ≤ r) = d1
      generalize decide (r < 55296) = d2
      generalize decide ((57343 : Int) < r) = d3
      generalize decide (r ≤ 1114111) = d4
      cases d1 <;> cases d2 <;> cases d3 <;> cases d4 <;> exact ⟨_, rfl⟩
    simp only [hv, ob]
    cases v with
    | false => rfl
    | true =>
      simp only [Bool.not_true, cond_false]
      obtain ⟨p, e, hp, hp1, hp3, he⟩ := encode_hi r hr
      simp only [hp]
      have hw : IntKind.wrap .i64 (((p ++ [e]).length : Nat) - 1 : Int) = (p.length : Int) := by
        rw [wrap_i64 _ (by simp <;> omega) (by simp <;> omega)]; simp
      rw [hw]
      obtain ⟨m, rfl⟩ : ∃ m, n = m + 1 := ⟨n - 1, by omega⟩
      have hstep : strings_IndexRune_l1 (m + 1) (set, p ++ [e], (p.length : Int), (p.length : Int)) = some (.inr (.inl (-1))) ∨ strings_IndexRune_l1 (m + 1) (set, p ++ [e], (p.length : Int), (p.length : Int)) = some (.inr (.inr ())) := by
        simp only [strings_IndexRune_l1, nat_dec_lt]
        by_cases hl : p.length < set.length
        · obtain ⟨c, hc⟩ : ∃ c, set[p.length]? = some c := ⟨set[p.length], List.getElem?_eq_getElem hl⟩
          have hlow := get_asc h hc
          have hpe : (p ++ [e])[p.length]? = some e := by simp
          have hne : (((c.toNat : Nat) : Int) != ((e.toNat : Nat) : Int)) = true := by simp only [bne, Bool.not_eq_true', beq_eq_false_iff_ne]; omega
          have hw2 : IntKind.wrap .i64 ((p.length : Int) + 1) = ((p.length + 1 : Nat) : Int) := by rw [wrap_i64 _ (by omega) (by omega)]; omega
          have hx : e ∉ List.drop (p.length + 1) (List.take set.length set) := by
            intro hm
            have := h e (by simpa using List.mem_of_mem_drop hm)
            omega
          left
          simp only [hl, decide_true, cond_true, sx_nat hc, sx_nat hpe, ob, hne, hw2, bx_nat (show p.length + 1 ≤ set.length by omega), strings_IndexByte_eq, indexByte_none hx]
        · right
          simp only [hl, decide_false, cond_false]
      rcases hstep with hs1 | hs1 <;> simp only [iterL, hs1, ob]

theorem indexRune_low' (n : Nat) (set : List UInt8) (c : UInt8) (r : Int) (hr : r = ((c.toNat : Nat) : Int)) (hc : c.toNat < 128) : strings_IndexRune n set r = some (Lib.indexByte set c) := by
  have h0 : decide ((0 : Int) ≤ r) = true := decide_eq_true (by omega)
  have h1 : decide (r < 128) = true := decide_eq_true (by omega)
  have hw : IntKind.wrap .u8 r = r := wrap_u8 _ (by omega) (by omega)
  have hb : strings_IndexByte n set r = some (Lib.indexByte set c) := by rw [hr]; exact strings_IndexByte_eq n set c
  simp only [strings_IndexRune, h0, h1, cond_true, hw, hb, ob]

theorem indexRune_low (n : Nat) (set : List UInt8) (c : UInt8) (hc : c.toNat < 128) : strings_IndexRune n set ((c.toNat : Nat) : Int) = some (Lib.indexByte set c) := indexRune_low' n set c _ rfl hc

theorem containsRune_low (n : Nat) (set : List UInt8) (c : UInt8) (hc : c.toNat < 128) : strings_ContainsRune n set ((c.toNat : Nat) : Int) = some (hasB set c) := by
  simp only [strings_ContainsRune, indexRune_low n set c hc, ob, indexByte_pos]

theorem containsRune_hi (n : Nat) (set : List UInt8) (h : asc set) (hn : set.length < n) (hs : set.length ≤ 100) (r : Int) (hr : 128 ≤ r) : strings_ContainsRune n set r = some false := by
  simp only [strings_ContainsRune, indexRune_hi n set h hn hs r hr, ob]; rfl

end Go.Sh
