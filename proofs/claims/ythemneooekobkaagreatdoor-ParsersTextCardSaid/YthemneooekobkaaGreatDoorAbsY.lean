
/- Opening a law's arguments: slices of integers, wherever they lie.
   Conditions: none; generic over the program. -/
import Derived.Test.YthemneooekobkaaGreatDoorAbsX
import Derived.ChangeSame
import Derived.ChangeSlices
set_option linter.unusedSimpArgs false
set_option linter.unusedVariables false
namespace Go.Abs
open Go.RowKit Go.ChangeShapes Go.WideShapes
def zj (w:World) (v:Value) (t:List Lf) (l:List (den t)):Option Rf->Prop
 | none=>l=[]/\∃a,v=.slice a 0 0
 | some q=>q.fz=true/\v=.slice (some ⟨q.r,q.o,none⟩) q.n q.k/\∃o,w.heap[q.r]?=some o/\BR jI q (.rows t l) o
def xc (L:List (Option Rf)):Inj:=λb=>L[b]?
theorem zj.bw {w:World} {v:Value} {t:List Lf} {l:List (den t)} {ρ:Option Rf} (h:zj w v t l ρ) {L:List (Option Rf)} {b:Nat} (C:L[b]?=some ρ):BW (xc L) w b (.rows t l):=by
 cases ρ with
 | none=>obtain ⟨rfl,_⟩:=h;exact .inr ⟨C,t,rfl⟩
 | some q=>obtain ⟨_,_,o,F,E⟩:=h;exact .inl ⟨q,o,C,F,E⟩
theorem zj.vr {w:World} {v:Value} {t:List Lf} {l:List (den t)} {ρ:Option Rf} (h:zj w v t l ρ) {L:List (Option Rf)} {b:Nat} (C:L[b]?=some ρ):VR (xc L) (.ws b) v:=by
 unfold VR;cases ρ with
 | none=>obtain ⟨_,a,rfl⟩:=h;exact .inr ⟨C,a,rfl⟩
 | some q=>obtain ⟨_,rfl,_⟩:=h;exact .inl ⟨q,C,rfl⟩
theorem zj.ok {w:World} {v:Value} {t:List Lf} {l:List (den t)} {q:Rf} (h:zj w v t l (some q)):q.fz=true/\q.r<w.heap.size:=by
 obtain ⟨E,_,o,C,_⟩:=h;exact ⟨E,rV C⟩
theorem WR.entry {w:World} {L:List (Option Rf)} {H:List (Nat×Blk)} (E:∀(b:Nat) (q:Rf),L[b]?=some (some q)->q.fz=true/\q.r<w.heap.size) (F:∀b blk,look H b=some blk->BW (xc L) w b blk):WR (xc L) H L.length w:=by
 refine ⟨λb O q G Q J _=>.inr ⟨(E b q Q).1,(E O G J).1⟩,λb q h=>?_,λb q h=>(E b q h).2,λb blk h _=>F b blk h⟩;unfold xc at h;rcases aI b L.length with C | C
 ·exact C
 ·rw [fV C] at h;simp at h
theorem XG {w:World} {x0:Value} {c:List Lf} {d:List (den c)} {a:Option Rf} (f:zj w x0 c d a):WR (xc [a]) [(0,.rows c d)] 1 w:=by
 refine WR.entry (L:=[a]) (λb q h=>?_) λb blk h=>?_
 ·match b,h with
  | 0,h=>
   simp only [lC,aw] at h;subst h;exact f.ok
  | b+1,h=>simp at h
 ·rw [aX] at h;split at h
  ·rename_i e;subst e;simp only [aw] at h;subst h;exact f.bw rfl
  ·cases h
end Go.Abs
