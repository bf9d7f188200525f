/- Chapter 13: the closed law on marks.
   Conditions: none. -/
import Derived.Test.YtpbhbpjobkdgmaaLawSpread
set_option linter.unusedSimpArgs false
set_option linter.unusedVariables false
namespace Go.Sh
open Go.Abs

theorem iterL_steps {X Y : Type} {step : X → Option (X ⊕ Y)} {f : Nat → X} {y : Y} : ∀ {m n : Nat}, (∀ i, i < m → step (f i) = some (.inl (f (i + 1)))) → step (f m) = some (.inr y) → m < n → iterL step n (f 0) = some y := by
  intro m n h he hn
  have go : ∀ (j i : Nat), i + j = m → ∀ n, j < n → iterL step n (f i) = some y := by
    intro j
    induction j with
    | zero =>
      intro i hi n hn
      obtain ⟨n, rfl⟩ : ∃ q, n = q + 1 := ⟨n - 1, by omega⟩
      have : i = m := by omega
      subst this
      simp [iterL, he]
    | succ j ih =>
      intro i hi n hn
      obtain ⟨n, rfl⟩ : ∃ q, n = q + 1 := ⟨n - 1, by omega⟩
      simp only [iterL, h i (by omega)]
      exact ih (i + 1) (by omega) n (by omega)
  exact go m 0 (by omega) n hn

theorem wrap_u8 (x : Int) : 0 ≤ IntKind.wrap .u8 x ∧ IntKind.wrap .u8 x < 256 := by
  show 0 ≤ x % 256 ∧ x % 256 < 256
  omega

theorem wrap_i64 (x : Int) (h0 : 0 ≤ x) (h1 : x < 100000) : IntKind.wrap .i64 x = x := by
  simp only [IntKind.wrap, IntKind.signed, IntKind.bits]
  simp
  omega

theorem bytes_any (x y z : Int) : circalaw13_MarksBytes 5000 (IntKind.wrap .u8 x) (IntKind.wrap .u8 y) (IntKind.wrap .u8 z) = some true :=
  marksBytes_ok _ _ _ (wrap_u8 x).1 (wrap_u8 x).2 (wrap_u8 y).1 (wrap_u8 y).2 (wrap_u8 z).1 (wrap_u8 z).2

theorem known_l0 : iterL (circalaw13_MarksKnown_l0 5000) 5000 0 = some (.inr ()) := by
  refine iterL_steps (f := fun i => (i : Int)) (m := 256) (fun i hi => ?_) (by kernel_rfl) (by omega)
  have h : ((i : Int) < 256) := by omega
  have e := wrap_i64 ((i : Int) + 1) (by omega) (by omega)
  simp [circalaw13_MarksKnown_l0, h, bytes_any, ob, e]

theorem known_l2 (x : Int) (l m : List Int) (hl : l.length = 3) (hm : m.length = 3) (pl : ∀ x ∈ l, 0 ≤ x) (pm : ∀ x ∈ m, 0 ≤ x) : iterL (circalaw13_MarksKnown_l2 5000) 5000 (x, 1, l, m) = some (.inr x) := by
  show iterL (circalaw13_MarksKnown_l2 5000) 5000 ((fun i : Nat => (x, ((i : Int) + 1), l, m)) 0) = _
  refine iterL_steps (n := 5000) (f := fun i => (x, ((i : Int) + 1), l, m)) (m := 3) (fun i hi => ?_) ?_ (by omega)
  · have h : ((i : Int) + 1 < 4) := by omega
    have e := wrap_i64 ((i : Int) + 1 + 1) (by omega) (by omega)
    have s := marksSpread_ok l m ((i : Int) + 1) hl hm pl pm
    have p := marksPlain_ok l ((i : Int) + 1) hl pl
    by_cases hx : x < 64 <;> simp [circalaw13_MarksKnown_l2, h, s, p, ob, e, hx]
  · simp [circalaw13_MarksKnown_l2]

theorem known_l1 : iterL (circalaw13_MarksKnown_l1 5000) 5000 0 = some (.inr ()) := by
  refine iterL_steps (f := fun i => (i : Int)) (m := 4096) (fun i hi => ?_) (by kernel_rfl) (by omega)
  have h : ((i : Int) < 4096) := by omega
  have e := wrap_i64 ((i : Int) + 1) (by omega) (by omega)
  unfold circalaw13_MarksKnown_l1
  rw [known_l2 _ _ _ rfl rfl (by intro x hx; simp only [List.mem_cons, List.not_mem_nil, or_false] at hx; rcases hx with rfl | rfl | rfl <;> exact (wrap_u8 _).1) (by intro x hx; simp only [List.mem_cons, List.not_mem_nil, or_false] at hx; rcases hx with rfl | rfl | rfl <;> exact (wrap_u8 _).1)]
  simp [h, ob, e]

theorem marksKnown_ok : circalaw13_MarksKnown 5000 = some true := by
  unfold circalaw13_MarksKnown
  rw [known_l0, known_l1, lives13]
  rfl

end Go.Sh
