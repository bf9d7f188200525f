/- Chapter 3: the law on known masks.
   Conditions: none. -/
import Derived.Test.YtpbhbpjobkdgmaaLawMkK
set_option linter.unusedSimpArgs false
set_option linter.unusedVariables false
namespace Go.Sh
open Go.Abs

/-- How many numbers of a mask are below. -/
def below (m : List UInt8) (n B : Int) : Prop := 0 ≤ B ∧ B ≤ 10 ^ cnt m ∧ (∀ i, 0 ≤ i → i < B → nth m.reverse i < n) ∧ (∀ i, B ≤ i → i < 10 ^ cnt m → n ≤ nth m.reverse i)

/-- The greatest of them. -/
def lastB (m : List UInt8) (B : Int) : Int := cond (decide (B = 0)) (-1) (nth m.reverse (B - 1))

theorem known_l1 {m : List UInt8} (hm : chk m = 0) (h4 : m.length ≤ 4) (i : Int) (L : List (List UInt8)) :
    iterL (circalaw03_MasksKnown_l1 20000) 20000 (i, m, -1, 0, -1, L) = some (.inr (i, m, 10 ^ cnt m, L)) := by
  obtain ⟨h18, _, hok⟩ := chk_len hm
  have hc := cnt_le m
  have hp := pow_bound (cnt m) (by omega)
  have hp0 := pow_pos10 (cnt m)
  have hp4 : (10 : Int) ^ m.length ≤ 10000 := by
    have hk : allN (fun i => decide ((10 : Int) ^ i ≤ 10000)) 5 = true := by kernel_rfl
    simpa using allN_ok hk m.length (by omega)
  have nth0 : ∀ i, 0 ≤ i → 0 ≤ nth m.reverse i ∧ nth m.reverse i < 10000 := fun i h => by
    have := nth_range (okR_of hok) i h
    rw [List.length_reverse] at this
    omega
  refine iterL_inv (step := circalaw03_MasksKnown_l1 20000) (fun x => x.1 = i ∧ x.2.1 = m ∧ x.2.2.2.2.2 = L ∧ (-1 ≤ x.2.2.2.2.1 ∧ x.2.2.2.2.1 ≤ 10010) ∧ below m x.2.2.2.2.1 x.2.2.2.1 ∧ x.2.2.1 = lastB m x.2.2.2.1) (fun x => (10010 - x.2.2.2.2.1).toNat)
    (fun x => .inr (i, m, 10 ^ cnt m, L)) ?_ 20000 (i, m, -1, 0, -1, L) ⟨rfl, rfl, rfl, ⟨by simp, by simp⟩, ⟨by simp, by simp only; omega, fun i h0 h1 => by simp only at h1; omega, fun i h0 h1 => by have := nth0 i h0; simp only; omega⟩, by simp [lastB]⟩ (by simp)
  rintro ⟨i', m', last, B, n, L'⟩ ⟨q1, q2, q3, ⟨h0, h1⟩, ⟨b0, b1, hl, hu⟩, hlast⟩
  simp only at q1 q2 q3 h0 h1 b0 b1 hl hu hlast ⊢
  subst q1 q2 q3
  have hl0 : -1 ≤ last ∧ last < 10000 := by
    rw [hlast]; unfold lastB
    by_cases hz : B = 0
    · simp [hz]
    · simp only [decide_eq_false hz, cond_false]
      have := nth0 (B - 1) (by omega); omega
  by_cases hn : n < 10010
  · have e0 : ((0 : Int) != 0) = false := by simp
    have w1 : IntKind.wrap .i64 (last + 1) = last + 1 := wrap_i64 _ (by omega) (by omega)
    have w3 : IntKind.wrap .i64 (n + 1) = n + 1 := wrap_i64 _ (by omega) (by omega)
    have w2 : IntKind.wrap .i64 (B + 1) = B + 1 := wrap_i64 _ (by omega) (by omega)
    obtain ⟨p, hpv, np⟩ := Prev_near hm n
    simp only [circalaw03_MasksKnown_l1, decide_eq_true hn, cond_true, refHas_eq hm n (by omega), Has_eq hm n (by omega), ob_ret, beq_self_eq_true, Bool.not_true, cond_false, w1, w2, w3, hpv]
    refine .inl ?_
    cases hh : hasM m' n with
    | true =>
      have hB := below_idx hm hh b0 b1 hl hu
      obtain ⟨i0, i1, i2⟩ := hasM_idx hh
      rw [← hB] at i0 i1 i2
      have hn0 := (nth0 B b0).1
      have sp : near false m' n (some n) := ⟨hh, Int.le_refl _, fun e _ h => h⟩
      obtain rfl := near_unique np sp
      have sn : near true m' (last + 1) (some n) := by
        refine ⟨hh, ?_, fun e he ha => ?_⟩
        · simp only [ahead]
          rw [hlast]; unfold lastB
          by_cases hz : B = 0
          · simp only [decide_eq_true hz, cond_true]; omega
          · simp only [decide_eq_false hz, cond_false]
            have := hl (B - 1) (by omega) (by omega); omega
        · obtain ⟨j0, j1, j2⟩ := hasM_idx he
          simp only [ahead] at ha ⊢
          have hge : B ≤ idx m'.reverse e := by
            refine Int.not_lt.1 fun h => ?_
            have h9 := mono_le hm j0 (show idx m'.reverse e ≤ B - 1 by omega) (by omega)
            rw [hlast] at ha; unfold lastB at ha
            rw [decide_eq_false (show ¬ B = 0 by omega), cond_false] at ha
            omega
          have := hu _ hge j1
          omega
      obtain ⟨a, hav, na⟩ := Next_near hm (last + 1)
      obtain rfl := near_unique na sn
      have d0 : decide (n ≥ 0) = true := by simp; omega
      have eg : circalaw03_gives 20000 n 0 n true 16 = some true := by simp [circalaw03_gives]
      refine ⟨(i', m', n, B + 1, n + 1, L'), ?_, ⟨rfl, rfl, rfl, ⟨by simp only; omega, by simp only; omega⟩, ⟨by simp only; omega, by simp only; omega, fun i j0 j1 => ?_, fun i j0 j1 => ?_⟩, ?_⟩, by simp only; omega, trivial⟩
      · simp only [cond_true, Nth_eq hm B, if_pos (show 0 ≤ B ∧ B < 10 ^ cnt m' from ⟨b0, i1⟩), ob_ret, hav, res, i2, num_eq, Bool.not_true, cond_false, d0, eg]
      · simp only at j1 ⊢
        by_cases h : i = B
        · rw [h, i2]; omega
        · have := hl i j0 (by omega); omega
      · simp only at j0 ⊢
        have := nth_mono (okR_of hok) B i b0 (by omega) (by rw [cnt_reverse]; exact j1)
        omega
      · simp only [lastB]
        rw [decide_eq_false (show ¬ B + 1 = 0 by omega), cond_false, show B + 1 - 1 = B by omega, i2]
    | false =>
      have hnn : ∀ i, B ≤ i → i < 10 ^ cnt m' → n + 1 ≤ nth m'.reverse i := fun i j0 j1 => by
        have h9 := hu i j0 j1
        rcases Int.lt_or_eq_of_le h9 with h | h
        · omega
        · have := hasM_nth hm (i := i) (by omega)
          rw [← h, hh] at this; cases this
      have eg : circalaw03_gives 20000 (res p).1 (res p).2 last (decide (last ≥ 0)) 16 = some true := by
        by_cases hz : B = 0
        · have hl1 : last = -1 := by rw [hlast]; unfold lastB; rw [decide_eq_true hz]; rfl
          have sp : near false m' n none := fun e he ha => by
            obtain ⟨j0, j1, j2⟩ := hasM_idx he
            have := hnn _ (by omega) j1
            simp only [ahead] at ha; omega
          obtain rfl := near_unique np sp
          simp [circalaw03_gives, res, hl1]
        · have hl1 : last = nth m'.reverse (B - 1) := by rw [hlast]; unfold lastB; rw [decide_eq_false hz]; rfl
          have hlt := hl (B - 1) (by omega) (by omega)
          have sp : near false m' n (some last) := by
            rw [hl1]
            refine ⟨hasM_nth hm (by omega), by simp only [ahead]; omega, fun e he ha => ?_⟩
            obtain ⟨j0, j1, j2⟩ := hasM_idx he
            simp only [ahead] at ha ⊢
            have hlt2 : idx m'.reverse e < B := Int.not_le.1 fun h => by
              have := hnn _ h j1; omega
            have := mono_le hm j0 (show idx m'.reverse e ≤ B - 1 by omega) (by omega)
            omega
          obtain rfl := near_unique np sp
          have d0 : decide (last ≥ 0) = true := by
            have := (nth0 (B - 1) (by omega)).1
            simp; omega
          simp [circalaw03_gives, res, d0]
      refine ⟨(i', m', last, B, n + 1, L'), ?_, ⟨rfl, rfl, rfl, ⟨by simp only; omega, by simp only; omega⟩, ⟨b0, b1, fun i j0 j1 => ?_, hnn⟩, hlast⟩, by simp only; omega, trivial⟩
      · simp only [cond_false, ob_ret, eg, Bool.not_true]
      · have := hl i j0 j1
        simp only; omega
  · have hB : B = 10 ^ cnt m' := by
      refine Int.le_antisymm b1 (Int.not_lt.1 fun h => ?_)
      have h1 := hu B (Int.le_refl _) h
      have h2 := (nth0 B b0).2
      omega
    refine .inr ?_
    simp only [circalaw03_MasksKnown_l1, decide_eq_false hn, cond_false, hB]

theorem known_all : ∀ m ∈ ([[88], [55], [88, 88], [48, 88], [88, 48], [57, 88], [49, 88, 48, 88], [88, 88, 51, 49], [48, 48, 88, 57]] : List (List UInt8)), chk m = 0 ∧ m.length ≤ 4 := by decide

/-- MasksKnown. -/
theorem masksKnown_ok : circalaw03_MasksKnown 20000 = some true := by
  have h0 := iterL_inv (step := circalaw03_MasksKnown_l0 20000) (fun x => x.2 = ([[88], [55], [88, 88], [48, 88], [88, 48], [57, 88], [49, 88, 48, 88], [88, 88, 51, 49], [48, 48, 88, 57]] : List (List UInt8)) ∧ 0 ≤ x.1 ∧ x.1 ≤ 9) (fun x => (9 - x.1).toNat)
    (fun x => .inr ()) ?_ 20000 (0, [[88], [55], [88, 88], [48, 88], [88, 48], [57, 88], [49, 88, 48, 88], [88, 88, 51, 49], [48, 48, 88, 57]]) ⟨rfl, by simp, by simp⟩ (by simp)
  · unfold circalaw03_MasksKnown
    rw [h0, ob_ret]
    show _ = some true
    kernel_rfl
  rintro ⟨i, L⟩ ⟨q, i0, i9⟩
  simp only at q i0 i9 ⊢
  obtain ⟨j, rfl⟩ : ∃ j : Nat, i = j := ⟨i.toNat, by omega⟩
  have hlen : L.length = 9 := by rw [q]; rfl
  by_cases hj : j < 9
  · obtain ⟨m, hmj⟩ : ∃ c, L[j]? = some c := ⟨L[j]'(by omega), List.getElem?_eq_getElem (by omega)⟩
    obtain ⟨hm, h4⟩ := known_all m (by rw [← q]; exact List.mem_of_getElem? hmj)
    have d : decide ((j : Int) < (((List.length L : Nat) : Int))) = true := by rw [hlen]; simp; omega
    have w : IntKind.wrap .i64 ((j : Int) + 1) = (j : Int) + 1 := wrap_i64 _ (by omega) (by omega)
    refine .inl ⟨((j : Int) + 1, L), ?_, ⟨q, by simp only; omega, by simp only; omega⟩, by simp only; omega, trivial⟩
    simp only [circalaw03_MasksKnown_l0, d, cond_true, ix_nat (show j < L.length by omega), ob_ret, hmj, known_l1 hm h4, Count_eq hm, num_eq, Bool.not_true, cond_false, w]
  · have d : decide ((j : Int) < (((List.length L : Nat) : Int))) = false := by rw [hlen]; simp; omega
    refine .inr ?_
    simp only [circalaw03_MasksKnown_l0, d, cond_false]

end Go.Sh
