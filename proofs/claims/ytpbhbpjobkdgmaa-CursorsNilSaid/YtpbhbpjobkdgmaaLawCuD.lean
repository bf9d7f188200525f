/- Chapter 12: the closed law.
   Conditions: none. -/
import Derived.Test.YtpbhbpjobkdgmaaLawCuC
set_option linter.unusedSimpArgs false
set_option linter.unusedVariables false
namespace Go.Sh
open Go.Abs

theorem ck_play (S : List UInt8) (a b : Int × List UInt8 × Int × Int) : circalaw12_CursorsPlay 500 S [a, b] = some true := cursorsPlay_ok 100 S [a, b] (by simp) (by simp)

theorem ck_l3 (i : Nat) (what least : Int) (T : List (List UInt8)) (hi : i < T.length) : iterL (circalaw12_CursorsKnown_l3 500) 500 ((i : Int), what, least, (-1), T) = some (.inr ((i : Int), what, least, T)) := by
  obtain ⟨t, ht⟩ : ∃ t, T[i]? = some t := ⟨T[i], List.getElem?_eq_getElem hi⟩
  refine iterL_inv (step := circalaw12_CursorsKnown_l3 500) (fun x => ∃ j : Nat, j ≤ 5 ∧ x = ((i : Int), what, least, (j : Int) - 1, T)) (fun x => (4 - x.2.2.2.1).toNat) (fun x => .inr ((i : Int), what, least, T)) ?_ 500 _ ⟨0, by omega, rfl⟩ (by simp)
  rintro x ⟨j, hj, rfl⟩
  simp only [circalaw12_CursorsKnown_l3, cond_dec]
  by_cases h : (j : Int) - 1 < 4
  · have hw : IntKind.wrap .i64 ((j : Int) - 1 + 1) = ((j + 1 : Nat) : Int) - 1 := by rw [wrap_i64 _ (by omega) (by omega)]; omega
    simp only [h, if_true, ix_nat hi, ob, ht, ck_play, Bool.not_true, cond_false, hw]
    exact .inl ⟨_, rfl, ⟨j + 1, by omega, rfl⟩, by simp only; omega, trivial⟩
  · simp only [h, if_false]; exact .inr trivial

theorem ck_l2 (i : Nat) (what : Int) (T : List (List UInt8)) (hi : i < T.length) : iterL (circalaw12_CursorsKnown_l2 500) 500 ((i : Int), what, (-1), T) = some (.inr ((i : Int), what, T)) := by
  refine iterL_inv (step := circalaw12_CursorsKnown_l2 500) (fun x => ∃ j : Nat, j ≤ 5 ∧ x = ((i : Int), what, (j : Int) - 1, T)) (fun x => (4 - x.2.2.1).toNat) (fun x => .inr ((i : Int), what, T)) ?_ 500 _ ⟨0, by omega, rfl⟩ (by simp)
  rintro x ⟨j, hj, rfl⟩
  simp only [circalaw12_CursorsKnown_l2, cond_dec]
  by_cases h : (j : Int) - 1 < 4
  · have hw : IntKind.wrap .i64 ((j : Int) - 1 + 1) = ((j + 1 : Nat) : Int) - 1 := by rw [wrap_i64 _ (by omega) (by omega)]; omega
    simp only [h, if_true, ck_l3 i what _ T hi, ob, hw]
    exact .inl ⟨_, rfl, ⟨j + 1, by omega, rfl⟩, by simp only; omega, trivial⟩
  · simp only [h, if_false]; exact .inr trivial

theorem ck_l1 (i : Nat) (T : List (List UInt8)) (hi : i < T.length) : iterL (circalaw12_CursorsKnown_l1 500) 500 ((i : Int), 0, T) = some (.inr ((i : Int), T)) := by
  refine iterL_inv (step := circalaw12_CursorsKnown_l1 500) (fun x => ∃ j : Nat, j ≤ 8 ∧ x = ((i : Int), (j : Int), T)) (fun x => (8 - x.2.1).toNat) (fun x => .inr ((i : Int), T)) ?_ 500 _ ⟨0, by omega, rfl⟩ (by simp)
  rintro x ⟨j, hj, rfl⟩
  simp only [circalaw12_CursorsKnown_l1, cond_dec]
  by_cases h : (j : Int) < 8
  · have hw : IntKind.wrap .i64 ((j : Int) + 1) = ((j + 1 : Nat) : Int) := by rw [wrap_i64 _ (by omega) (by omega)]; omega
    simp only [h, if_true, ck_l2 i _ T hi, ob, hw]
    exact .inl ⟨_, rfl, ⟨j + 1, by omega, rfl⟩, by simp only; omega, trivial⟩
  · simp only [h, if_false]; exact .inr trivial

theorem ck_l0 (T : List (List UInt8)) (hT : T.length < 400) : iterL (circalaw12_CursorsKnown_l0 500) 500 (0, T) = some (.inr ()) := by
  refine iterL_inv (step := circalaw12_CursorsKnown_l0 500) (fun x => ∃ j : Nat, j ≤ T.length ∧ x = ((j : Int), T)) (fun x => T.length - x.1.toNat) (fun x => .inr ()) ?_ 500 (0, T) ⟨0, by omega, rfl⟩ (by simp; omega)
  rintro x ⟨j, hj, rfl⟩
  simp only [circalaw12_CursorsKnown_l0, nat_dec_lt]
  by_cases h : j < T.length
  · have hw : IntKind.wrap .i64 ((j : Int) + 1) = ((j + 1 : Nat) : Int) := by rw [wrap_i64 _ (by omega) (by omega)]; omega
    simp only [h, decide_true, cond_true, ck_l1 j T h, ob, hw]
    exact .inl ⟨_, rfl, ⟨j + 1, by omega, rfl⟩, by simp only [Int.toNat_natCast]; omega, trivial⟩
  · simp only [h, decide_false, cond_false]; exact .inr trivial

theorem cursorsKnown_ok : circalaw12_CursorsKnown 500 = some true := by
  simp only [circalaw12_CursorsKnown]
  rw [ck_l0 _ (by simp)]
  have : circalaw12_lives 500 = some true := cu_lives 440
  simp only [ob, this]

end Go.Sh
