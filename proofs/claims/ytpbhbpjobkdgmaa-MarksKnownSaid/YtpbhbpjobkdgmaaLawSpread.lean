/- Chapter 13: the law on spreading marks.
   Conditions: none. -/
import Derived.Test.YtpbhbpjobkdgmaaLawSp0
import Derived.Test.YtpbhbpjobkdgmaaLawSp1
import Derived.Test.YtpbhbpjobkdgmaaLawSp2
import Derived.Test.YtpbhbpjobkdgmaaLawSp3
set_option linter.unusedSimpArgs false
set_option linter.unusedVariables false
set_option maxRecDepth 100000
namespace Go.Sh
open Go.Abs

theorem sp3 (x y z u v w : Nat) (x1 : x < 4) (y1 : y < 4) (z1 : z < 4) (u1 : u < 4) (v1 : v < 4) (w1 : w < 4) : isT (coreMarksSpread (some true) 5000 [x, y, z] [u, v, w] 3) = true := by
  have hx : x = 0 ∨ x = 1 ∨ x = 2 ∨ x = 3 := by omega
  have hy : y = 0 ∨ y = 1 ∨ y = 2 ∨ y = 3 := by omega
  rcases hx with rfl | rfl | rfl | rfl <;> rcases hy with rfl | rfl | rfl | rfl
  · exact allN_ok (allN_ok (allN_ok (allN_ok sp3_00 z z1) u u1) v v1) w w1
  · exact allN_ok (allN_ok (allN_ok (allN_ok sp3_01 z z1) u u1) v v1) w w1
  · exact allN_ok (allN_ok (allN_ok (allN_ok sp3_02 z z1) u u1) v v1) w w1
  · exact allN_ok (allN_ok (allN_ok (allN_ok sp3_03 z z1) u u1) v v1) w w1
  · exact allN_ok (allN_ok (allN_ok (allN_ok sp3_10 z z1) u u1) v v1) w w1
  · exact allN_ok (allN_ok (allN_ok (allN_ok sp3_11 z z1) u u1) v v1) w w1
  · exact allN_ok (allN_ok (allN_ok (allN_ok sp3_12 z z1) u u1) v v1) w w1
  · exact allN_ok (allN_ok (allN_ok (allN_ok sp3_13 z z1) u u1) v v1) w w1
  · exact allN_ok (allN_ok (allN_ok (allN_ok sp3_20 z z1) u u1) v v1) w w1
  · exact allN_ok (allN_ok (allN_ok (allN_ok sp3_21 z z1) u u1) v v1) w w1
  · exact allN_ok (allN_ok (allN_ok (allN_ok sp3_22 z z1) u u1) v v1) w w1
  · exact allN_ok (allN_ok (allN_ok (allN_ok sp3_23 z z1) u u1) v v1) w w1
  · exact allN_ok (allN_ok (allN_ok (allN_ok sp3_30 z z1) u u1) v v1) w w1
  · exact allN_ok (allN_ok (allN_ok (allN_ok sp3_31 z z1) u u1) v v1) w w1
  · exact allN_ok (allN_ok (allN_ok (allN_ok sp3_32 z z1) u u1) v v1) w w1
  · exact allN_ok (allN_ok (allN_ok (allN_ok sp3_33 z z1) u u1) v v1) w w1

theorem spread_good (x y z u v w k : Int) (hk : 1 ≤ k ∧ k < 4) (x0 : 0 ≤ x) (y0 : 0 ≤ y) (z0 : 0 ≤ z) (u0 : 0 ≤ u) (v0 : 0 ≤ v) (w0 : 0 ≤ w) (x1 : x < 4) (y1 : y < 4) (z1 : z < 4) (u1 : u < 4) (v1 : v < 4) (w1 : w < 4)
    (c1 : k = 1 → y = 0) (c2 : k < 3 → z = 0) (d1 : k = 1 → v = 0) (d2 : k < 3 → w = 0) : coreMarksSpread (some true) 5000 [x, y, z] [u, v, w] k = some true := by
  have hk : k = 1 ∨ k = 2 ∨ k = 3 := by omega
  rcases hk with rfl | rfl | rfl
  · obtain rfl := c1 rfl
    obtain rfl := c2 (by omega)
    obtain rfl := d1 rfl
    obtain rfl := d2 (by omega)
    have h := allN_ok (allN_ok sp1 x.toNat (by omega)) u.toNat (by omega)
    rw [Int.toNat_of_nonneg x0, Int.toNat_of_nonneg u0] at h
    exact isT_ok h
  · obtain rfl := c2 (by omega)
    obtain rfl := d2 (by omega)
    have h := allN_ok (allN_ok (allN_ok (allN_ok sp2 x.toNat (by omega)) y.toNat (by omega)) u.toNat (by omega)) v.toNat (by omega)
    rw [Int.toNat_of_nonneg x0, Int.toNat_of_nonneg y0, Int.toNat_of_nonneg u0, Int.toNat_of_nonneg v0] at h
    exact isT_ok h
  · have h := sp3 x.toNat y.toNat z.toNat u.toNat v.toNat w.toNat (by omega) (by omega) (by omega) (by omega) (by omega) (by omega)
    rw [Int.toNat_of_nonneg x0, Int.toNat_of_nonneg y0, Int.toNat_of_nonneg z0, Int.toNat_of_nonneg u0, Int.toNat_of_nonneg v0, Int.toNat_of_nonneg w0] at h
    exact isT_ok h


theorem marksSpread_ok (a b : List Int) (k : Int) (la : a.length = 3) (lb : b.length = 3) (ha : ∀ x ∈ a, 0 ≤ x) (hb : ∀ x ∈ b, 0 ≤ x) : circalaw13_MarksSpread 5000 a b k = some true := by
  obtain ⟨x, y, z, rfl⟩ := three la
  obtain ⟨u, v, w, rfl⟩ := three lb
  have hx := ha x (by simp)
  have hy := ha y (by simp)
  have hz := ha z (by simp)
  have hu := hb u (by simp)
  have hv := hb v (by simp)
  have hw := hb w (by simp)
  obtain ⟨e, e1, e2, e3⟩ := all_eq x y z k hx hy hz
  obtain ⟨f, f1, f2, f3⟩ := all_eq u v w k hu hv hw
  rw [core_spread, lives13]
  by_cases he : e = 0
  · by_cases hf : f = 0
    · obtain ⟨g1, g2, g3, g4, g5, g6⟩ := e3 he
      obtain ⟨_, k2, k3, k4, k5, k6⟩ := f3 hf
      exact spread_good x y z u v w k g1 hx hy hz hu hv hw g2 g3 g4 k2 k3 k4 g5 g6 k5 k6
    · subst he
      have q : (f != 0) = true := by simp [hf]
      have s : marks_Spread 5000 [x, y, z] [u, v, w] k = some ([0, 0, 0], f) := by
        show ob (marks_All 5000 [x, y, z] k) _ = _
        rw [e2]
        show ob (marks_All 5000 [u, v, w] k) _ = _
        rw [f2]
        show cond (f != 0) _ _ = _
        rw [q]; rfl
      simp [coreMarksSpread, e1, e2, f1, s, ob, hf, q]
  · have q : (e != 0) = true := by simp [he]
    have s : marks_Spread 5000 [x, y, z] [u, v, w] k = some ([0, 0, 0], e) := by
      show ob (marks_All 5000 [x, y, z] k) _ = _
      rw [e2]
      show cond (e != 0) _ _ = _
      rw [q]; rfl
    have q2 : (e == 0) = false := by simp [he]
    simp [coreMarksSpread, e1, e2, s, ob, he, q, q2]


end Go.Sh
