/- Opening a law's arguments: arrays of integers.
   Conditions: none; generic over the program. -/
import Derived.Test.YtpeccjabfkaicaaDoorAbsR
import Derived.OpenShut
import Derived.WideShapes
namespace Go.Abs
open Go.RowKit Go.ChangeShapes Go.WideShapes

theorem open_ints_array {H : Type} {enc : TypeId × Value → H} {P : Program} {w : World} {base : Nat} {spare : Nat → Bool} {held : Bool} {r : Reach} {b0 : Nat} {t e : TypeId} {n : Nat} {k : IntKind} {v : Value} {d : DataW H} {ps : List MemPlace}
    (ht : P.underlying t = some (.array n e)) (he : P.underlying e = some (.int k)) (hc : P.cellsOf e = 1) (hC : P.cellsOf t = n) (hval : Value.okWide P w r b0 t v) (hd : DataW.Trod enc P w base spare held t v d ps) :
    ∃ l : List Int, l.length = n ∧ v = .agg (l.map (Value.int k)).toArray ∧ ps = [] ∧ ∀ x ∈ l, (Lit.int k x).wf = true := by
  simp only [Value.okWide, ht] at hval
  obtain ⟨cs, rfl, h2, _⟩ := hval
  obtain ⟨fuel, hf⟩ := hd
  obtain ⟨xs, m, _, hx, hl, hxl, hi⟩ := DataW.trod_array ht hf
  have hcell : ∀ i, i < n → ∃ q, cs.toList[i]? = some (.int k q) ∧ (Lit.int k q).wf = true ∧ ∃ y, xs[i]? = some y ∧ y.2 = [] := by
    intro i hin
    have hlt : i < xs.length := by omega
    have h := hi i hin
    rw [List.getElem?_eq_getElem hlt] at h
    obtain ⟨q, h3, h4, h5⟩ := DataW.trod_int he h
    rw [hc, Nat.mul_one] at h3
    refine ⟨q, ?_, h5, xs[i], List.getElem?_eq_getElem hlt, by rw [h4]⟩
    have := congrArg (fun l : List Value => l[0]?) h3
    simpa [Value.cells] using this
  have hlen : cs.toList.length = n := by rw [Array.length_toList, h2, hC]
  refine ⟨cs.toList.map intOf, by simpa using hlen, ?_, ?_, ?_⟩
  · have : cs.toList = (cs.toList.map intOf).map (Value.int k) := by
      apply List.ext_getElem?
      intro i
      by_cases hin : i < n
      · obtain ⟨q, h3, _⟩ := hcell i hin
        simp only [List.getElem?_map, h3, Option.map_some, intOf]
      · rw [List.getElem?_eq_none (by omega), List.getElem?_eq_none (by simp; simpa using (by omega : cs.toList.length ≤ i))]
    rw [← this]
  · simp only [Prod.mk.injEq] at hx
    rw [hx.2]
    refine List.flatMap_eq_nil_iff.2 fun y hy => ?_
    obtain ⟨i, hlt, rfl⟩ := List.getElem_of_mem hy
    obtain ⟨_, _, _, z, h3, h4⟩ := hcell i (by omega)
    rw [List.getElem?_eq_getElem hlt] at h3
    simp only [Option.some.injEq] at h3
    rw [h3]; exact h4
  · intro x hx
    obtain ⟨c, hc1, rfl⟩ := List.mem_map.1 hx
    obtain ⟨i, hlt, rfl⟩ := List.getElem_of_mem hc1
    obtain ⟨q, h3, h4, _⟩ := hcell i (by omega)
    rw [List.getElem?_eq_getElem hlt] at h3
    simp only [Option.some.injEq] at h3
    rw [h3]; exact h4

end Go.Abs
