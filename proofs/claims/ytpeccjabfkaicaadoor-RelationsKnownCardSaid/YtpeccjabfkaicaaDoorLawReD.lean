/- Chapter 31: the relation of a first run to a third one is in the composition.
   Conditions: none. Printed by program. -/
import Derived.Test.YtpeccjabfkaicaaDoorLawReC
namespace Go.Sh
open Go.Abs

/-- Is a relation in a set? -/
def inT (v t : Int) : Bool := v.toNat.testBit t.toNat

theorem RR_cases {A B C D : Int} (h1 : A ≤ B) (h2 : C ≤ D) :
    (RR A B C D = 1 ∧ B + 1 < C) ∨ (RR A B C D = 2 ∧ B + 1 = C) ∨ (RR A B C D = 3 ∧ A < C ∧ C ≤ B ∧ B < D) ∨ (RR A B C D = 4 ∧ A = C ∧ B < D) ∨ (RR A B C D = 5 ∧ C < A ∧ B < D) ∨ (RR A B C D = 6 ∧ C < A ∧ B = D) ∨ (RR A B C D = 7 ∧ A = C ∧ B = D) ∨
    (RR A B C D = 8 ∧ A < C ∧ B = D) ∨ (RR A B C D = 9 ∧ A < C ∧ D < B) ∨ (RR A B C D = 10 ∧ A = C ∧ D < B) ∨ (RR A B C D = 11 ∧ C < A ∧ A ≤ D ∧ D < B) ∨ (RR A B C D = 12 ∧ D + 1 = A) ∨ (RR A B C D = 13 ∧ D + 1 < A) := by
  obtain ⟨i, hi1, hi2, h | h⟩ := RH_some h1 h2
  · have e := RH_is h1 h2 h
    rcases h with ⟨rfl, q⟩ | ⟨rfl, q⟩ | ⟨rfl, q⟩ | ⟨rfl, q⟩ | ⟨rfl, q⟩ | ⟨rfl, q⟩ | ⟨rfl, q⟩
    · exact .inl ⟨e, q⟩
    · exact .inr (.inl ⟨e, q⟩)
    · exact .inr (.inr (.inl ⟨e, q⟩))
    · exact .inr (.inr (.inr (.inl ⟨e, q⟩)))
    · exact .inr (.inr (.inr (.inr (.inl ⟨e, q⟩))))
    · exact .inr (.inr (.inr (.inr (.inr (.inl ⟨e, q⟩)))))
    · exact .inr (.inr (.inr (.inr (.inr (.inr (.inl ⟨e, q⟩))))))
  · have e := RH_is h2 h1 h
    have e2 := RR_conv h2 h1
    rw [e] at e2
    rcases h with ⟨rfl, q⟩ | ⟨rfl, q⟩ | ⟨rfl, q⟩ | ⟨rfl, q⟩ | ⟨rfl, q⟩ | ⟨rfl, q⟩ | ⟨rfl, q⟩
    · exact .inr (.inr (.inr (.inr (.inr (.inr (.inr (.inr (.inr (.inr (.inr (.inr (⟨e2, by omega⟩))))))))))))
    · exact .inr (.inr (.inr (.inr (.inr (.inr (.inr (.inr (.inr (.inr (.inr (.inl ⟨e2, by omega⟩)))))))))))
    · exact .inr (.inr (.inr (.inr (.inr (.inr (.inr (.inr (.inr (.inr (.inl ⟨e2, by omega⟩))))))))))
    · exact .inr (.inr (.inr (.inr (.inr (.inr (.inr (.inr (.inr (.inl ⟨e2, by omega⟩)))))))))
    · exact .inr (.inr (.inr (.inr (.inr (.inr (.inr (.inr (.inl ⟨e2, by omega⟩))))))))
    · exact .inr (.inr (.inr (.inr (.inr (.inr (.inr (.inl ⟨e2, by omega⟩)))))))
    · exact .inr (.inr (.inr (.inr (.inr (.inr (.inl ⟨e2, by omega⟩))))))

theorem three_1 {A B C D E F : Int} (h1 : A ≤ B) (h2 : C ≤ D) (h3 : E ≤ F) (hr : RR A B C D = 1) : inT (tabF 1 (RR C D E F)) (RR A B E F) = true := by
  rcases RR_cases h1 h2 with ⟨e, q⟩ | ⟨e, q⟩ | ⟨e, q⟩ | ⟨e, q⟩ | ⟨e, q⟩ | ⟨e, q⟩ | ⟨e, q⟩ | ⟨e, q⟩ | ⟨e, q⟩ | ⟨e, q⟩ | ⟨e, q⟩ | ⟨e, q⟩ | ⟨e, q⟩ <;> rw [e] at hr <;> first | (exact absurd hr (by decide)) | skip
  clear hr e
  rcases RR_cases h2 h3 with ⟨e, p⟩ | ⟨e, p⟩ | ⟨e, p⟩ | ⟨e, p⟩ | ⟨e, p⟩ | ⟨e, p⟩ | ⟨e, p⟩ | ⟨e, p⟩ | ⟨e, p⟩ | ⟨e, p⟩ | ⟨e, p⟩ | ⟨e, p⟩ | ⟨e, p⟩ <;> rw [e] <;> clear e <;>
    rcases RR_cases h1 h3 with ⟨e, o⟩ | ⟨e, o⟩ | ⟨e, o⟩ | ⟨e, o⟩ | ⟨e, o⟩ | ⟨e, o⟩ | ⟨e, o⟩ | ⟨e, o⟩ | ⟨e, o⟩ | ⟨e, o⟩ | ⟨e, o⟩ | ⟨e, o⟩ | ⟨e, o⟩ <;> rw [e] <;> clear e <;> first | decide +kernel | (exfalso; clear h1 h2 h3; omega) | (exfalso; omega)

theorem three_2 {A B C D E F : Int} (h1 : A ≤ B) (h2 : C ≤ D) (h3 : E ≤ F) (hr : RR A B C D = 2) : inT (tabF 2 (RR C D E F)) (RR A B E F) = true := by
  rcases RR_cases h1 h2 with ⟨e, q⟩ | ⟨e, q⟩ | ⟨e, q⟩ | ⟨e, q⟩ | ⟨e, q⟩ | ⟨e, q⟩ | ⟨e, q⟩ | ⟨e, q⟩ | ⟨e, q⟩ | ⟨e, q⟩ | ⟨e, q⟩ | ⟨e, q⟩ | ⟨e, q⟩ <;> rw [e] at hr <;> first | (exact absurd hr (by decide)) | skip
  clear hr e
  rcases RR_cases h2 h3 with ⟨e, p⟩ | ⟨e, p⟩ | ⟨e, p⟩ | ⟨e, p⟩ | ⟨e, p⟩ | ⟨e, p⟩ | ⟨e, p⟩ | ⟨e, p⟩ | ⟨e, p⟩ | ⟨e, p⟩ | ⟨e, p⟩ | ⟨e, p⟩ | ⟨e, p⟩ <;> rw [e] <;> clear e <;>
    rcases RR_cases h1 h3 with ⟨e, o⟩ | ⟨e, o⟩ | ⟨e, o⟩ | ⟨e, o⟩ | ⟨e, o⟩ | ⟨e, o⟩ | ⟨e, o⟩ | ⟨e, o⟩ | ⟨e, o⟩ | ⟨e, o⟩ | ⟨e, o⟩ | ⟨e, o⟩ | ⟨e, o⟩ <;> rw [e] <;> clear e <;> first | decide +kernel | (exfalso; clear h1 h2 h3; omega) | (exfalso; omega)

theorem three_3 {A B C D E F : Int} (h1 : A ≤ B) (h2 : C ≤ D) (h3 : E ≤ F) (hr : RR A B C D = 3) : inT (tabF 3 (RR C D E F)) (RR A B E F) = true := by
  rcases RR_cases h1 h2 with ⟨e, q⟩ | ⟨e, q⟩ | ⟨e, q⟩ | ⟨e, q⟩ | ⟨e, q⟩ | ⟨e, q⟩ | ⟨e, q⟩ | ⟨e, q⟩ | ⟨e, q⟩ | ⟨e, q⟩ | ⟨e, q⟩ | ⟨e, q⟩ | ⟨e, q⟩ <;> rw [e] at hr <;> first | (exact absurd hr (by decide)) | skip
  clear hr e
  rcases RR_cases h2 h3 with ⟨e, p⟩ | ⟨e, p⟩ | ⟨e, p⟩ | ⟨e, p⟩ | ⟨e, p⟩ | ⟨e, p⟩ | ⟨e, p⟩ | ⟨e, p⟩ | ⟨e, p⟩ | ⟨e, p⟩ | ⟨e, p⟩ | ⟨e, p⟩ | ⟨e, p⟩ <;> rw [e] <;> clear e <;>
    rcases RR_cases h1 h3 with ⟨e, o⟩ | ⟨e, o⟩ | ⟨e, o⟩ | ⟨e, o⟩ | ⟨e, o⟩ | ⟨e, o⟩ | ⟨e, o⟩ | ⟨e, o⟩ | ⟨e, o⟩ | ⟨e, o⟩ | ⟨e, o⟩ | ⟨e, o⟩ | ⟨e, o⟩ <;> rw [e] <;> clear e <;> first | decide +kernel | (exfalso; clear h1 h2 h3; omega) | (exfalso; omega)

theorem three_4 {A B C D E F : Int} (h1 : A ≤ B) (h2 : C ≤ D) (h3 : E ≤ F) (hr : RR A B C D = 4) : inT (tabF 4 (RR C D E F)) (RR A B E F) = true := by
  rcases RR_cases h1 h2 with ⟨e, q⟩ | ⟨e, q⟩ | ⟨e, q⟩ | ⟨e, q⟩ | ⟨e, q⟩ | ⟨e, q⟩ | ⟨e, q⟩ | ⟨e, q⟩ | ⟨e, q⟩ | ⟨e, q⟩ | ⟨e, q⟩ | ⟨e, q⟩ | ⟨e, q⟩ <;> rw [e] at hr <;> first | (exact absurd hr (by decide)) | skip
  clear hr e
  rcases RR_cases h2 h3 with ⟨e, p⟩ | ⟨e, p⟩ | ⟨e, p⟩ | ⟨e, p⟩ | ⟨e, p⟩ | ⟨e, p⟩ | ⟨e, p⟩ | ⟨e, p⟩ | ⟨e, p⟩ | ⟨e, p⟩ | ⟨e, p⟩ | ⟨e, p⟩ | ⟨e, p⟩ <;> rw [e] <;> clear e <;>
    rcases RR_cases h1 h3 with ⟨e, o⟩ | ⟨e, o⟩ | ⟨e, o⟩ | ⟨e, o⟩ | ⟨e, o⟩ | ⟨e, o⟩ | ⟨e, o⟩ | ⟨e, o⟩ | ⟨e, o⟩ | ⟨e, o⟩ | ⟨e, o⟩ | ⟨e, o⟩ | ⟨e, o⟩ <;> rw [e] <;> clear e <;> first | decide +kernel | (exfalso; clear h1 h2 h3; omega) | (exfalso; omega)

theorem three_5 {A B C D E F : Int} (h1 : A ≤ B) (h2 : C ≤ D) (h3 : E ≤ F) (hr : RR A B C D = 5) : inT (tabF 5 (RR C D E F)) (RR A B E F) = true := by
  rcases RR_cases h1 h2 with ⟨e, q⟩ | ⟨e, q⟩ | ⟨e, q⟩ | ⟨e, q⟩ | ⟨e, q⟩ | ⟨e, q⟩ | ⟨e, q⟩ | ⟨e, q⟩ | ⟨e, q⟩ | ⟨e, q⟩ | ⟨e, q⟩ | ⟨e, q⟩ | ⟨e, q⟩ <;> rw [e] at hr <;> first | (exact absurd hr (by decide)) | skip
  clear hr e
  rcases RR_cases h2 h3 with ⟨e, p⟩ | ⟨e, p⟩ | ⟨e, p⟩ | ⟨e, p⟩ | ⟨e, p⟩ | ⟨e, p⟩ | ⟨e, p⟩ | ⟨e, p⟩ | ⟨e, p⟩ | ⟨e, p⟩ | ⟨e, p⟩ | ⟨e, p⟩ | ⟨e, p⟩ <;> rw [e] <;> clear e <;>
    rcases RR_cases h1 h3 with ⟨e, o⟩ | ⟨e, o⟩ | ⟨e, o⟩ | ⟨e, o⟩ | ⟨e, o⟩ | ⟨e, o⟩ | ⟨e, o⟩ | ⟨e, o⟩ | ⟨e, o⟩ | ⟨e, o⟩ | ⟨e, o⟩ | ⟨e, o⟩ | ⟨e, o⟩ <;> rw [e] <;> clear e <;> first | decide +kernel | (exfalso; clear h1 h2 h3; omega) | (exfalso; omega)

theorem three_6 {A B C D E F : Int} (h1 : A ≤ B) (h2 : C ≤ D) (h3 : E ≤ F) (hr : RR A B C D = 6) : inT (tabF 6 (RR C D E F)) (RR A B E F) = true := by
  rcases RR_cases h1 h2 with ⟨e, q⟩ | ⟨e, q⟩ | ⟨e, q⟩ | ⟨e, q⟩ | ⟨e, q⟩ | ⟨e, q⟩ | ⟨e, q⟩ | ⟨e, q⟩ | ⟨e, q⟩ | ⟨e, q⟩ | ⟨e, q⟩ | ⟨e, q⟩ | ⟨e, q⟩ <;> rw [e] at hr <;> first | (exact absurd hr (by decide)) | skip
  clear hr e
  rcases RR_cases h2 h3 with ⟨e, p⟩ | ⟨e, p⟩ | ⟨e, p⟩ | ⟨e, p⟩ | ⟨e, p⟩ | ⟨e, p⟩ | ⟨e, p⟩ | ⟨e, p⟩ | ⟨e, p⟩ | ⟨e, p⟩ | ⟨e, p⟩ | ⟨e, p⟩ | ⟨e, p⟩ <;> rw [e] <;> clear e <;>
    rcases RR_cases h1 h3 with ⟨e, o⟩ | ⟨e, o⟩ | ⟨e, o⟩ | ⟨e, o⟩ | ⟨e, o⟩ | ⟨e, o⟩ | ⟨e, o⟩ | ⟨e, o⟩ | ⟨e, o⟩ | ⟨e, o⟩ | ⟨e, o⟩ | ⟨e, o⟩ | ⟨e, o⟩ <;> rw [e] <;> clear e <;> first | decide +kernel | (exfalso; clear h1 h2 h3; omega) | (exfalso; omega)

theorem three_7 {A B C D E F : Int} (h1 : A ≤ B) (h2 : C ≤ D) (h3 : E ≤ F) (hr : RR A B C D = 7) : inT (tabF 7 (RR C D E F)) (RR A B E F) = true := by
  rcases RR_cases h1 h2 with ⟨e, q⟩ | ⟨e, q⟩ | ⟨e, q⟩ | ⟨e, q⟩ | ⟨e, q⟩ | ⟨e, q⟩ | ⟨e, q⟩ | ⟨e, q⟩ | ⟨e, q⟩ | ⟨e, q⟩ | ⟨e, q⟩ | ⟨e, q⟩ | ⟨e, q⟩ <;> rw [e] at hr <;> first | (exact absurd hr (by decide)) | skip
  clear hr e
  rcases RR_cases h2 h3 with ⟨e, p⟩ | ⟨e, p⟩ | ⟨e, p⟩ | ⟨e, p⟩ | ⟨e, p⟩ | ⟨e, p⟩ | ⟨e, p⟩ | ⟨e, p⟩ | ⟨e, p⟩ | ⟨e, p⟩ | ⟨e, p⟩ | ⟨e, p⟩ | ⟨e, p⟩ <;> rw [e] <;> clear e <;>
    rcases RR_cases h1 h3 with ⟨e, o⟩ | ⟨e, o⟩ | ⟨e, o⟩ | ⟨e, o⟩ | ⟨e, o⟩ | ⟨e, o⟩ | ⟨e, o⟩ | ⟨e, o⟩ | ⟨e, o⟩ | ⟨e, o⟩ | ⟨e, o⟩ | ⟨e, o⟩ | ⟨e, o⟩ <;> rw [e] <;> clear e <;> first | decide +kernel | (exfalso; clear h1 h2 h3; omega) | (exfalso; omega)

theorem three_8 {A B C D E F : Int} (h1 : A ≤ B) (h2 : C ≤ D) (h3 : E ≤ F) (hr : RR A B C D = 8) : inT (tabF 8 (RR C D E F)) (RR A B E F) = true := by
  rcases RR_cases h1 h2 with ⟨e, q⟩ | ⟨e, q⟩ | ⟨e, q⟩ | ⟨e, q⟩ | ⟨e, q⟩ | ⟨e, q⟩ | ⟨e, q⟩ | ⟨e, q⟩ | ⟨e, q⟩ | ⟨e, q⟩ | ⟨e, q⟩ | ⟨e, q⟩ | ⟨e, q⟩ <;> rw [e] at hr <;> first | (exact absurd hr (by decide)) | skip
  clear hr e
  rcases RR_cases h2 h3 with ⟨e, p⟩ | ⟨e, p⟩ | ⟨e, p⟩ | ⟨e, p⟩ | ⟨e, p⟩ | ⟨e, p⟩ | ⟨e, p⟩ | ⟨e, p⟩ | ⟨e, p⟩ | ⟨e, p⟩ | ⟨e, p⟩ | ⟨e, p⟩ | ⟨e, p⟩ <;> rw [e] <;> clear e <;>
    rcases RR_cases h1 h3 with ⟨e, o⟩ | ⟨e, o⟩ | ⟨e, o⟩ | ⟨e, o⟩ | ⟨e, o⟩ | ⟨e, o⟩ | ⟨e, o⟩ | ⟨e, o⟩ | ⟨e, o⟩ | ⟨e, o⟩ | ⟨e, o⟩ | ⟨e, o⟩ | ⟨e, o⟩ <;> rw [e] <;> clear e <;> first | decide +kernel | (exfalso; clear h1 h2 h3; omega) | (exfalso; omega)

theorem three_9 {A B C D E F : Int} (h1 : A ≤ B) (h2 : C ≤ D) (h3 : E ≤ F) (hr : RR A B C D = 9) : inT (tabF 9 (RR C D E F)) (RR A B E F) = true := by
  rcases RR_cases h1 h2 with ⟨e, q⟩ | ⟨e, q⟩ | ⟨e, q⟩ | ⟨e, q⟩ | ⟨e, q⟩ | ⟨e, q⟩ | ⟨e, q⟩ | ⟨e, q⟩ | ⟨e, q⟩ | ⟨e, q⟩ | ⟨e, q⟩ | ⟨e, q⟩ | ⟨e, q⟩ <;> rw [e] at hr <;> first | (exact absurd hr (by decide)) | skip
  clear hr e
  rcases RR_cases h2 h3 with ⟨e, p⟩ | ⟨e, p⟩ | ⟨e, p⟩ | ⟨e, p⟩ | ⟨e, p⟩ | ⟨e, p⟩ | ⟨e, p⟩ | ⟨e, p⟩ | ⟨e, p⟩ | ⟨e, p⟩ | ⟨e, p⟩ | ⟨e, p⟩ | ⟨e, p⟩ <;> rw [e] <;> clear e <;>
    rcases RR_cases h1 h3 with ⟨e, o⟩ | ⟨e, o⟩ | ⟨e, o⟩ | ⟨e, o⟩ | ⟨e, o⟩ | ⟨e, o⟩ | ⟨e, o⟩ | ⟨e, o⟩ | ⟨e, o⟩ | ⟨e, o⟩ | ⟨e, o⟩ | ⟨e, o⟩ | ⟨e, o⟩ <;> rw [e] <;> clear e <;> first | decide +kernel | (exfalso; clear h1 h2 h3; omega) | (exfalso; omega)

theorem three_10 {A B C D E F : Int} (h1 : A ≤ B) (h2 : C ≤ D) (h3 : E ≤ F) (hr : RR A B C D = 10) : inT (tabF 10 (RR C D E F)) (RR A B E F) = true := by
  rcases RR_cases h1 h2 with ⟨e, q⟩ | ⟨e, q⟩ | ⟨e, q⟩ | ⟨e, q⟩ | ⟨e, q⟩ | ⟨e, q⟩ | ⟨e, q⟩ | ⟨e, q⟩ | ⟨e, q⟩ | ⟨e, q⟩ | ⟨e, q⟩ | ⟨e, q⟩ | ⟨e, q⟩ <;> rw [e] at hr <;> first | (exact absurd hr (by decide)) | skip
  clear hr e
  rcases RR_cases h2 h3 with ⟨e, p⟩ | ⟨e, p⟩ | ⟨e, p⟩ | ⟨e, p⟩ | ⟨e, p⟩ | ⟨e, p⟩ | ⟨e, p⟩ | ⟨e, p⟩ | ⟨e, p⟩ | ⟨e, p⟩ | ⟨e, p⟩ | ⟨e, p⟩ | ⟨e, p⟩ <;> rw [e] <;> clear e <;>
    rcases RR_cases h1 h3 with ⟨e, o⟩ | ⟨e, o⟩ | ⟨e, o⟩ | ⟨e, o⟩ | ⟨e, o⟩ | ⟨e, o⟩ | ⟨e, o⟩ | ⟨e, o⟩ | ⟨e, o⟩ | ⟨e, o⟩ | ⟨e, o⟩ | ⟨e, o⟩ | ⟨e, o⟩ <;> rw [e] <;> clear e <;> first | decide +kernel | (exfalso; clear h1 h2 h3; omega) | (exfalso; omega)

theorem three_11 {A B C D E F : Int} (h1 : A ≤ B) (h2 : C ≤ D) (h3 : E ≤ F) (hr : RR A B C D = 11) : inT (tabF 11 (RR C D E F)) (RR A B E F) = true := by
  rcases RR_cases h1 h2 with ⟨e, q⟩ | ⟨e, q⟩ | ⟨e, q⟩ | ⟨e, q⟩ | ⟨e, q⟩ | ⟨e, q⟩ | ⟨e, q⟩ | ⟨e, q⟩ | ⟨e, q⟩ | ⟨e, q⟩ | ⟨e, q⟩ | ⟨e, q⟩ | ⟨e, q⟩ <;> rw [e] at hr <;> first | (exact absurd hr (by decide)) | skip
  clear hr e
  rcases RR_cases h2 h3 with ⟨e, p⟩ | ⟨e, p⟩ | ⟨e, p⟩ | ⟨e, p⟩ | ⟨e, p⟩ | ⟨e, p⟩ | ⟨e, p⟩ | ⟨e, p⟩ | ⟨e, p⟩ | ⟨e, p⟩ | ⟨e, p⟩ | ⟨e, p⟩ | ⟨e, p⟩ <;> rw [e] <;> clear e <;>
    rcases RR_cases h1 h3 with ⟨e, o⟩ | ⟨e, o⟩ | ⟨e, o⟩ | ⟨e, o⟩ | ⟨e, o⟩ | ⟨e, o⟩ | ⟨e, o⟩ | ⟨e, o⟩ | ⟨e, o⟩ | ⟨e, o⟩ | ⟨e, o⟩ | ⟨e, o⟩ | ⟨e, o⟩ <;> rw [e] <;> clear e <;> first | decide +kernel | (exfalso; clear h1 h2 h3; omega) | (exfalso; omega)

theorem three_12 {A B C D E F : Int} (h1 : A ≤ B) (h2 : C ≤ D) (h3 : E ≤ F) (hr : RR A B C D = 12) : inT (tabF 12 (RR C D E F)) (RR A B E F) = true := by
  rcases RR_cases h1 h2 with ⟨e, q⟩ | ⟨e, q⟩ | ⟨e, q⟩ | ⟨e, q⟩ | ⟨e, q⟩ | ⟨e, q⟩ | ⟨e, q⟩ | ⟨e, q⟩ | ⟨e, q⟩ | ⟨e, q⟩ | ⟨e, q⟩ | ⟨e, q⟩ | ⟨e, q⟩ <;> rw [e] at hr <;> first | (exact absurd hr (by decide)) | skip
  clear hr e
  rcases RR_cases h2 h3 with ⟨e, p⟩ | ⟨e, p⟩ | ⟨e, p⟩ | ⟨e, p⟩ | ⟨e, p⟩ | ⟨e, p⟩ | ⟨e, p⟩ | ⟨e, p⟩ | ⟨e, p⟩ | ⟨e, p⟩ | ⟨e, p⟩ | ⟨e, p⟩ | ⟨e, p⟩ <;> rw [e] <;> clear e <;>
    rcases RR_cases h1 h3 with ⟨e, o⟩ | ⟨e, o⟩ | ⟨e, o⟩ | ⟨e, o⟩ | ⟨e, o⟩ | ⟨e, o⟩ | ⟨e, o⟩ | ⟨e, o⟩ | ⟨e, o⟩ | ⟨e, o⟩ | ⟨e, o⟩ | ⟨e, o⟩ | ⟨e, o⟩ <;> rw [e] <;> clear e <;> first | decide +kernel | (exfalso; clear h1 h2 h3; omega) | (exfalso; omega)

theorem three_13 {A B C D E F : Int} (h1 : A ≤ B) (h2 : C ≤ D) (h3 : E ≤ F) (hr : RR A B C D = 13) : inT (tabF 13 (RR C D E F)) (RR A B E F) = true := by
  rcases RR_cases h1 h2 with ⟨e, q⟩ | ⟨e, q⟩ | ⟨e, q⟩ | ⟨e, q⟩ | ⟨e, q⟩ | ⟨e, q⟩ | ⟨e, q⟩ | ⟨e, q⟩ | ⟨e, q⟩ | ⟨e, q⟩ | ⟨e, q⟩ | ⟨e, q⟩ | ⟨e, q⟩ <;> rw [e] at hr <;> first | (exact absurd hr (by decide)) | skip
  clear hr e
  rcases RR_cases h2 h3 with ⟨e, p⟩ | ⟨e, p⟩ | ⟨e, p⟩ | ⟨e, p⟩ | ⟨e, p⟩ | ⟨e, p⟩ | ⟨e, p⟩ | ⟨e, p⟩ | ⟨e, p⟩ | ⟨e, p⟩ | ⟨e, p⟩ | ⟨e, p⟩ | ⟨e, p⟩ <;> rw [e] <;> clear e <;>
    rcases RR_cases h1 h3 with ⟨e, o⟩ | ⟨e, o⟩ | ⟨e, o⟩ | ⟨e, o⟩ | ⟨e, o⟩ | ⟨e, o⟩ | ⟨e, o⟩ | ⟨e, o⟩ | ⟨e, o⟩ | ⟨e, o⟩ | ⟨e, o⟩ | ⟨e, o⟩ | ⟨e, o⟩ <;> rw [e] <;> clear e <;> first | decide +kernel | (exfalso; clear h1 h2 h3; omega) | (exfalso; omega)

end Go.Sh
