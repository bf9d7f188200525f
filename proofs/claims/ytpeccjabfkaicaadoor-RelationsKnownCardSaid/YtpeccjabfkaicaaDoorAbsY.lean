/- Opening a law's arguments: slices of integers, wherever they lie.
   Conditions: none; generic over the program. -/
import Derived.Test.YtpeccjabfkaicaaDoorAbsX
import Derived.ChangeSame
import Derived.ChangeSlices
namespace Go.Abs
open Go.RowKit Go.ChangeShapes Go.WideShapes

/-- A slice whose rows are there, and are only read. -/
def RowAt (w : World) (v : Value) (t : List Lf) (l : List (den t)) : Option Rf → Prop
  | none => l = [] ∧ ∃ a, v = .slice a 0 0
  | some q => q.fz = true ∧ v = .slice (some ⟨q.r, q.o, none⟩) q.n q.k ∧ ∃ o, w.heap[q.r]? = some o ∧ BR none0 q (.rows t l) o

def entryI (L : List (Option Rf)) : Inj := fun b => L[b]?

theorem RowAt.bw {w : World} {v : Value} {t : List Lf} {l : List (den t)} {ρ : Option Rf} (h : RowAt w v t l ρ) {L : List (Option Rf)} {b : Nat} (hb : L[b]? = some ρ) : BW (entryI L) w b (.rows t l) := by
  cases ρ with
  | none => obtain ⟨rfl, _⟩ := h; exact .inr ⟨hb, t, rfl⟩
  | some q => obtain ⟨_, _, o, h1, h2⟩ := h; exact .inl ⟨q, o, hb, h1, h2⟩

theorem RowAt.vr {w : World} {v : Value} {t : List Lf} {l : List (den t)} {ρ : Option Rf} (h : RowAt w v t l ρ) {L : List (Option Rf)} {b : Nat} (hb : L[b]? = some ρ) : VR (entryI L) (.ws b) v := by
  unfold VR
  cases ρ with
  | none => obtain ⟨_, a, rfl⟩ := h; exact .inr ⟨hb, a, rfl⟩
  | some q => obtain ⟨_, rfl, _⟩ := h; exact .inl ⟨q, hb, rfl⟩

theorem RowAt.ok {w : World} {v : Value} {t : List Lf} {l : List (den t)} {q : Rf} (h : RowAt w v t l (some q)) : q.fz = true ∧ q.r < w.heap.size := by
  obtain ⟨h1, _, o, h2, _⟩ := h
  exact ⟨h1, lt_of_heap h2⟩

theorem WR.entry {w : World} {L : List (Option Rf)} {H : List (Nat × Blk)} (hz : ∀ (b : Nat) (q : Rf), L[b]? = some (some q) → q.fz = true ∧ q.r < w.heap.size) (hH : ∀ b blk, look H b = some blk → BW (entryI L) w b blk) : WR (entryI L) H L.length w := by
  refine ⟨fun b b' q q' h1 h2 _ => .inr ⟨(hz b q h1).1, (hz b' q' h2).1⟩, fun b q h => ?_, fun b q h => (hz b q h).2, fun b blk h _ => hH b blk h⟩
  unfold entryI at h
  rcases Nat.lt_or_ge b L.length with h' | h'
  · exact h'
  · rw [List.getElem?_eq_none h'] at h
    simp at h

theorem entry1 {w : World} {x0 : Value} {t0 : List Lf} {l0 : List (den t0)} {ρ0 : Option Rf} (z0 : RowAt w x0 t0 l0 ρ0) : WR (entryI [ρ0]) [(0, .rows t0 l0)] 1 w := by
  refine WR.entry (L := [ρ0]) (fun b q h => ?_) fun b blk h => ?_
  · match b, h with
    | 0, h =>
      simp only [List.getElem?_cons_zero, Option.some.injEq] at h
      subst h; exact z0.ok
    | b + 1, h => simp at h
  · rw [look_cons] at h
    split at h
    · rename_i e; subst e
      simp only [Option.some.injEq] at h; subst h
      exact z0.bw rfl
    · cases h

theorem entry2 {w : World} {x0 x1 : Value} {t0 t1 : List Lf} {l0 : List (den t0)} {l1 : List (den t1)} {ρ0 ρ1 : Option Rf} (z0 : RowAt w x0 t0 l0 ρ0) (z1 : RowAt w x1 t1 l1 ρ1) :
    WR (entryI [ρ0, ρ1]) [(0, .rows t0 l0), (1, .rows t1 l1)] 2 w := by
  refine WR.entry (L := [ρ0, ρ1]) (fun b q h => ?_) fun b blk h => ?_
  · match b, h with
    | 0, h =>
      simp only [List.getElem?_cons_zero, Option.some.injEq] at h
      subst h; exact z0.ok
    | 1, h =>
      simp only [List.getElem?_cons_succ, List.getElem?_cons_zero, Option.some.injEq] at h
      subst h; exact z1.ok
    | b + 2, h => simp at h
  · rw [look_cons] at h
    split at h
    · rename_i e; subst e
      simp only [Option.some.injEq] at h; subst h
      exact z0.bw rfl
    · rw [look_cons] at h
      split at h
      · rename_i e; subst e
        simp only [Option.some.injEq] at h; subst h
        exact z1.bw rfl
      · cases h

section
variable {H : Type} {enc : TypeId × Value → H} {P : Program} {w : World} {held : Bool}

theorem open_slice_ints {t e : TypeId} {k : IntKind} {fuel : Nat} {v : Value} {x : DataW H × List MemPlace} (ht : P.underlying t = some (.slice e)) (he : P.underlying e = some (.int k)) (hc : P.cellsOf e = 1)
    (h : DataW.trod enc P w 0 (fun _ => true) held fuel t [v] = some x) : ∃ (l : List Int) (ρ : Option Rf), (∀ y ∈ l, (Lit.int k y).wf = true) ∧ RowAt w v [.i k] l ρ := by
  rcases open_ints ht he hc h with ⟨hcs, _⟩ | ⟨a, len, cap, zs, hcs, _, hl, _, hzl, _, hcell, hwf⟩
  · simp only [List.cons.injEq, and_true] at hcs
    subst hcs
    exact ⟨[], none, by simp, rfl, none, rfl⟩
  · simp only [List.cons.injEq, and_true] at hcs
    subst hcs
    simp only [if_true] at hzl
    by_cases h0 : cap = 0
    · have hlen : len = 0 := by omega
      subst h0 hlen
      exact ⟨[], none, by simp, rfl, some a, rfl⟩
    · obtain ⟨b, off, rfl, hat⟩ := ints_at hcell (by omega)
      have hobj : ∃ cs e' fr, w.heap[b]? = some (.cells cs e' fr) := by
        have := hat 0 (by omega)
        unfold World.cell? at this
        simp only at this
        split at this
        · rename_i cs e' fr hh; exact ⟨cs, e', fr, hh⟩
        · cases this
      obtain ⟨cs, e', fr, hh⟩ := hobj
      have hget : ∀ j, j < zs.length → cs[off + j]? = some (.int k (zs.getD j 0)) := fun j hj => by rw [← cell?_of_heap hh]; exact hat j hj
      have hlenl : (zs.take len).length = len := by rw [List.length_take]; omega
      refine ⟨zs.take len, some ⟨b, len, cap, off, true⟩, fun y hy => hwf y (List.mem_of_mem_take hy), rfl, rfl, _, hh, cs, e', fr, rfl, hlenl, hl, ?_, ?_, .inl rfl⟩
      · have := hget (cap - 1) (by omega)
        have hlt : off + (cap - 1) < cs.size := by
          rcases Nat.lt_or_ge (off + (cap - 1)) cs.size with h' | h'
          · exact h'
          · rw [Array.getElem?_eq_none h'] at this; cases this
        simp only [List.length_cons, List.length_nil]
        omega
      · have hv : ∀ l : List Int, l.flatMap (vals [.i k]) = l.map (Value.int k) := by
          intro l
          induction l with
          | nil => rfl
          | cons x l ih => rw [List.flatMap_cons, ih]; rfl
        rw [hv, hlenl]
        apply List.ext_getElem?
        intro j
        simp only [List.length_cons, List.length_nil, Nat.zero_add, Nat.mul_one]
        by_cases hj : j < len
        · rw [List.getElem?_take_of_lt hj, List.getElem?_drop, List.getElem?_map, List.getElem?_take_of_lt hj]
          have := hget j (by omega)
          have hz : zs[j]? = some (zs.getD j 0) := by rw [List.getD_eq_getElem?_getD, List.getElem?_eq_getElem (by omega)]; rfl
          rw [hz, Array.getElem?_toList, this]
          rfl
        · rw [List.getElem?_eq_none (by rw [List.length_take]; omega), List.getElem?_eq_none (by rw [List.length_map, List.length_take]; omega)]

/-- A struct that holds a slice of integers, and nothing else. -/
theorem open_struct_ints {t e : TypeId} {f0 : Field} {k : IntKind} {v : Value} {r : Reach} {b0 : Nat} {d : DataW H} {ps : List MemPlace} (ht : P.underlying t = some (.struct #[f0])) (hs : P.underlying f0.type = some (.slice e))
    (he : P.underlying e = some (.int k)) (hc : P.cellsOf e = 1) (ho : f0.offset = 0) (hC : P.cellsOf t = 1) (hC0 : P.cellsOf f0.type = 1) (hval : Value.okWide P w r b0 t v) (hd : DataW.Trod enc P w 0 (fun _ => true) held t v d ps) :
    ∃ (x0 : Value) (l : List Int) (ρ : Option Rf), v = .agg #[x0] ∧ (∀ y ∈ l, (Lit.int k y).wf = true) ∧ RowAt w x0 [.i k] l ρ := by
  simp only [Value.okWide, ht] at hval
  obtain ⟨cs, rfl, hsz, _⟩ := hval
  obtain ⟨fuel, hf⟩ := hd
  obtain ⟨y0, n, _, _, h0⟩ := trod_struct1 ht hf
  rw [hC] at hsz
  obtain ⟨x0, rfl⟩ : ∃ x0, cs = #[x0] := by
    obtain ⟨l⟩ := cs
    match l, hsz with
    | [x0], _ => exact ⟨x0, rfl⟩
  rw [ho, hC0] at h0
  obtain ⟨l, ρ, h1, h2⟩ := open_slice_ints hs he hc (v := x0) (by simpa [Value.cells] using h0)
  exact ⟨x0, l, ρ, rfl, h1, h2⟩
end

end Go.Abs
