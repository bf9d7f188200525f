/- Small tools for plain proofs about printed functions: loops, wrapped numbers, bytes of strings.
   Conditions: none. -/
import Derived.Test.YtpeccjabfkaicaaDoorAbsX
import Derived.Laws.RangeString
import Derived.Laws.RangeAny
namespace Go.Sh
open Go.Abs

/-- A loop, by what is to come of each of its states. -/
theorem iterL_inv {X Y : Type} {step : X → Option (X ⊕ Y)} (I : X → Prop) (μ : X → Nat) (G : X → Y)
    (h : ∀ x, I x → (∃ x', step x = some (.inl x') ∧ I x' ∧ μ x' < μ x ∧ G x' = G x) ∨ step x = some (.inr (G x))) :
    ∀ (n : Nat) (x : X), I x → μ x < n → iterL step n x = some (G x)
  | 0, x, _, hm => by omega
  | n + 1, x, hx, hm => by
    rcases h x hx with ⟨x', h1, h2, h3, h4⟩ | h1
    · simp only [iterL, h1]
      rw [iterL_inv I μ G h n x' h2 (by omega), h4]
    · simp only [iterL, h1]

/-- A loop, by what holds of what it comes to. -/
theorem iterL_prop {X Y : Type} {step : X → Option (X ⊕ Y)} (I : X → Prop) (μ : X → Nat) (Q : Y → Prop)
    (h : ∀ x, I x → (∃ x', step x = some (.inl x') ∧ I x' ∧ μ x' < μ x) ∨ ∃ y, step x = some (.inr y) ∧ Q y) :
    ∀ (n : Nat) (x : X), I x → μ x < n → ∃ y, iterL step n x = some y ∧ Q y
  | 0, x, _, hm => by omega
  | n + 1, x, hx, hm => by
    rcases h x hx with ⟨x', h1, h2, h3⟩ | ⟨y, h1, h2⟩
    · simp only [iterL, h1]
      exact iterL_prop I μ Q h n x' h2 (by omega)
    · exact ⟨y, by simp only [iterL, h1], h2⟩

theorem iterL_steps {X Y : Type} {step : X → Option (X ⊕ Y)} {f : Nat → X} {y : Y} : ∀ {m n : Nat}, (∀ i, i < m → step (f i) = some (.inl (f (i + 1)))) → step (f m) = some (.inr y) → m < n → iterL step n (f 0) = some y := by
  intro m n h he hn
  have go : ∀ (j i : Nat), i + j = m → ∀ n, j < n → iterL step n (f i) = some y := by
    intro j
    induction j with
    | zero =>
      intro i hi n hn
      obtain ⟨n, rfl⟩ : ∃ q, n = q + 1 := ⟨n - 1, by omega⟩
      have : i = m := by omega
      subst this
      simp [iterL, he]
    | succ j ih =>
      intro i hi n hn
      obtain ⟨n, rfl⟩ : ∃ q, n = q + 1 := ⟨n - 1, by omega⟩
      simp only [iterL, h i (by omega)]
      exact ih (i + 1) (by omega) n (by omega)
  exact go m 0 (by omega) n hn

theorem wrap_u8_range (x : Int) : 0 ≤ IntKind.wrap .u8 x ∧ IntKind.wrap .u8 x < 256 := by
  show 0 ≤ x % 256 ∧ x % 256 < 256
  omega

theorem wrap_u8 (x : Int) (h0 : 0 ≤ x) (h1 : x < 256) : IntKind.wrap .u8 x = x := by
  show x % 256 = x
  omega

theorem wrap_u8_eq (x : Int) : IntKind.wrap .u8 x = x % 256 := rfl

theorem wrap_i64 (x : Int) (h0 : -9223372036854775808 ≤ x) (h1 : x < 9223372036854775808) : IntKind.wrap .i64 x = x := by
  simp only [IntKind.wrap, IntKind.signed, IntKind.bits]
  simp
  omega

theorem sx_nat {l : List UInt8} {i : Nat} {c : UInt8} (h : l[i]? = some c) : sx l (i : Int) = some c := by
  simp [sx, h]

theorem ix_nat {n i : Nat} (h : i < n) : ix n (i : Int) = some i := by
  simp [ix]; omega

theorem bx_nat {n i : Nat} (h : i ≤ n) : bx n (i : Int) = some i := by
  simp [bx]; omega

theorem dec_low {l : List UInt8} {i : Nat} {c : UInt8} (h : l[i]? = some c) (hc : c.toNat < 128) : dec l i = (c.toNat, 1) := by
  have hlt : i < l.length := by
    rcases Nat.lt_or_ge i l.length with h' | h'
    · exact h'
    · rw [List.getElem?_eq_none h'] at h; cases h
  have hs : i < (ByteArray.mk l.toArray).size := hlt
  have hg : (ByteArray.mk l.toArray)[i]'hs = c := by
    rw [List.getElem?_eq_getElem hlt] at h
    simp only [Option.some.injEq] at h
    exact h
  unfold dec
  rw [decode_ascii _ i hs (by rw [hg]; exact hc), hg]

theorem dec_high {l : List UInt8} {i : Nat} {c : UInt8} (h : l[i]? = some c) (hc : 128 ≤ c.toNat) : 128 ≤ (dec l i).1 ∧ 1 ≤ (dec l i).2 := by
  have hlt : i < l.length := by
    rcases Nat.lt_or_ge i l.length with h' | h'
    · exact h'
    · rw [List.getElem?_eq_none h'] at h; cases h
  have hs : i < (ByteArray.mk l.toArray).size := hlt
  have hg : (ByteArray.mk l.toArray)[i]'hs = c := by
    rw [List.getElem?_eq_getElem hlt] at h
    simp only [Option.some.injEq] at h
    exact h
  unfold dec
  exact decode_high _ i hs (by rw [hg]; exact hc)

theorem lt_of_get {α : Type} {l : List α} {i : Nat} {c : α} (h : l[i]? = some c) : i < l.length := by
  rcases Nat.lt_or_ge i l.length with h' | h'
  · exact h'
  · rw [List.getElem?_eq_none h'] at h; cases h

theorem drop_get {α : Type} {l : List α} {i : Nat} {c : α} (h : l[i]? = some c) : l.drop i = c :: l.drop (i + 1) := by
  have hlt := lt_of_get h
  rw [List.getElem?_eq_getElem hlt] at h
  simp only [Option.some.injEq] at h
  rw [← h, List.drop_eq_getElem_cons hlt]

end Go.Sh
