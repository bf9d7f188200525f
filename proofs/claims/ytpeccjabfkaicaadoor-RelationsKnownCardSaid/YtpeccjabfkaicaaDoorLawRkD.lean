/- Chapter 31: RelationsKnown, the law.
   Conditions: none. -/
import Derived.Test.YtpeccjabfkaicaaDoorLawRkC
set_option linter.unusedVariables false
set_option linter.unusedSimpArgs false
set_option maxRecDepth 100000
namespace Go.Sh
open Go.Abs

/-- The runs of the law. -/
def L11 : List (Int × Int × Int × Int) := [(0, 0, 0, 0), (0, 1, 0, 0), (1, 0, 1, 0), ((-1), 0, (-1), 0), ((-1), 0, 1, 0), ((-1), 1, 1, 0), (0, 0, 2, 0),
  (0, 9223372036854775807, 0, 9223372036854775807), (0, -9223372036854775808, 0, -9223372036854775808), (0, 0, 0, 1), (0, 1, 0, 1)]

theorem L11_len : L11.length = 11 := rfl
theorem L11_i64 : ∀ r ∈ L11, i64 r.2.1 ∧ i64 r.2.2.2 := by
  intro r hr
  simp only [L11, List.mem_cons, List.not_mem_nil, or_false] at hr
  rcases hr with rfl | rfl | rfl | rfl | rfl | rfl | rfl | rfl | rfl | rfl | rfl <;> (unfold i64; refine ⟨⟨?_, ?_⟩, ?_, ?_⟩ <;> decide)

theorem L11_at {i : Nat} (hi : i < 11) : ∃ r, L11[i]? = some r ∧ i64 r.2.1 ∧ i64 r.2.2.2 := by
  have h : i < L11.length := by rw [L11_len]; exact hi
  exact ⟨_, List.getElem?_eq_getElem h, L11_i64 _ (List.getElem_mem h)⟩

theorem k3_step {i j : Nat} (hi : i < 11) (hj : j < 11) : circalaw31_RelationsKnown_l3 300 ((i : Int), (j : Int), L11) = some (.inl ((i : Int), ((j + 1 : Nat) : Int), L11)) := by
  obtain ⟨r, hr, r1, r2⟩ := L11_at hi
  obtain ⟨s, hs, s1, s2⟩ := L11_at hj
  have x1 : ix 11 (i : Int) = some i := ix_nat hi
  have x2 : ix 11 (j : Int) = some j := ix_nat hj
  have w1 : IntKind.wrap .i64 ((j : Int) + 1) = ((j + 1 : Nat) : Int) := by rw [wrap_i64 _ (by omega) (by omega)]; omega
  have ho := relationsOf_ok 0 r.1 r.2.1 r.2.2.1 r.2.2.2 s.1 s.2.1 s.2.2.1 s.2.2.2 r1 r2 s1 s2
  rw [Nat.zero_add] at ho
  have d1 : decide ((j : Int) < ((11 : Nat) : Int)) = true := decide_eq_true (by omega)
  have hn := L11_len
  generalize L11 = T at *
  unfold circalaw31_RelationsKnown_l3
  simp only []
  rw [hn]
  simp only [d1, cond_true, x1, x2, hr, hs, ob_go]
  simp only [ho, ob_go, Bool.not_true, cond_false, w1]

theorem k3_loop {i : Nat} (hi : i < 11) : iterL (circalaw31_RelationsKnown_l3 300) 300 ((i : Int), 0, L11) = some (.inr ((i : Int), L11)) := by
  have := fold_loop (step := circalaw31_RelationsKnown_l3 300) (f := fun k (_ : Unit) => ((i : Int), (k : Int), L11))
    (y := fun _ => (Sum.inr ((i : Int), L11) : Bool ⊕ (Int × List (Int × Int × Int × Int)))) (u := fun _ _ => ()) (n := 11)
    (fun k _ hk => k3_step hi hk)
    (fun _ => by
      have hn := L11_len
      generalize L11 = T at *
      unfold circalaw31_RelationsKnown_l3
      simp only []
      rw [hn, decide_eq_false (show ¬ ((11 : Nat) : Int) < ((11 : Nat) : Int) by omega)]; rfl)
    (N := 300) (by omega) ()
  exact this

theorem known_l2 : iterL (circalaw31_RelationsKnown_l2 300) 300 (0, L11) = some (Sum.inr ()) := by
  have := fold_loop (step := circalaw31_RelationsKnown_l2 300) (f := fun k (_ : Unit) => ((k : Int), L11))
    (y := fun _ => (Sum.inr () : Bool ⊕ Unit)) (u := fun _ _ => ()) (n := 11)
    (fun k _ hk => by
      have hl := k3_loop hk
      have hn := L11_len
      have w1 : IntKind.wrap .i64 ((k : Int) + 1) = ((k + 1 : Nat) : Int) := by rw [wrap_i64 _ (by omega) (by omega)]; omega
      generalize L11 = T at *
      unfold circalaw31_RelationsKnown_l2
      generalize iterL (circalaw31_RelationsKnown_l3 300) 300 = F at *
      simp only []
      rw [hn, decide_eq_true (show (k : Int) < ((11 : Nat) : Int) by omega)]
      simp only [cond_true, hl, ob_go, w1])
    (fun _ => by
      have hn := L11_len
      generalize L11 = T at *
      unfold circalaw31_RelationsKnown_l2
      simp only []
      rw [hn, decide_eq_false (show ¬ ((11 : Nat) : Int) < ((11 : Nat) : Int) by omega)]; rfl)
    (N := 300) (by omega) ()
  exact this

theorem kn_count : relations_Set_Count 300 16382 = some 13 := by kernel_rfl
theorem kn_run (a b : Int) : circalaw31_run 300 a b = some (0, a, 0, b) := rfl
theorem kn_is1 : circalaw31_is 300 0 9223372036854775807 0 9223372036854775807 0 (-9223372036854775808) 0 9223372036854775807 6 = some 1 := by kernel_rfl
theorem kn_is2 : circalaw31_is 300 0 (-9223372036854775808) 0 (-9223372036854775808) 0 9223372036854775807 0 9223372036854775807 1 = some 1 := by kernel_rfl
theorem kn_is3 : circalaw31_is 300 0 (-9223372036854775808) 0 9223372036854775806 0 9223372036854775807 0 9223372036854775807 2 = some 1 := by kernel_rfl
theorem kn_is4 : circalaw31_is 300 0 3 0 9223372036854775807 0 3 1 0 4 = some 1 := by kernel_rfl
theorem kn_is5 : circalaw31_is 300 0 9223372036854775807 1 0 0 0 0 9223372036854775807 11 = some 1 := by kernel_rfl
theorem kn_one : ((IntKind.wrap .i64 ((IntKind.wrap .i64 ((IntKind.wrap .i64 ((IntKind.wrap .i64 ((1 : Int) * 1)) * 1)) * 1)) * 1)) == (0 : Int)) = false := by decide +kernel
theorem kn_409 : ((409 : Int) != 409) = false := rfl
theorem kn_13 : ((13 : Int) != 13) = false := rfl
theorem kn_names : circalaw31_RelationsNames 300 0 14 = some true := by kernel_rfl
theorem kn_sets1 : circalaw31_RelationsSets 300 1 2 = some true := by kernel_rfl
theorem kn_sets2 : circalaw31_RelationsSets 300 16384 0 = some true := by kernel_rfl
theorem kn_text1 : circalaw31_RelationsText 300 0 [110, 111, 110, 101] = some true := by kernel_rfl
theorem kn_text2 : circalaw31_RelationsText 300 16382 [66, 101, 102, 111, 114, 101, 44, 44, 65, 102, 116, 101, 114] = some true := by kernel_rfl

theorem relationsKnown_ok : circalaw31_RelationsKnown 300 = some true := by
  have h0 := known_l0
  have ht : circaref31_Table 300 = some Tb := table_eq
  have h2 := known_l2
  have hl : circalaw31_lives 300 = some true := re_lives 0
  unfold L11 at h2
  unfold circalaw31_RelationsKnown
  generalize Tb = TB at *
  generalize iterL (circalaw31_RelationsKnown_l0 300) 300 = F0 at *
  generalize iterL (circalaw31_RelationsKnown_l2 300) 300 = F2 at *
  generalize circaref31_Table 300 = T at *
  rw [ht, ob_go, h0, ob_go]
  simp only [kn_409, cond_false, kn_count, kn_13, kn_run, kn_is1, kn_is2, kn_is3, kn_is4, kn_is5, kn_one, h2, kn_names, kn_sets1, kn_sets2, kn_text1, kn_text2, hl, ob_go, cond_true]

end Go.Sh
