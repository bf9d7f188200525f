
/- Opening a law's arguments: slices of integers, wherever they lie.
   Conditions: none; generic over the program. -/
import Derived.Test.YthemneooekobkaaGreatDoorAbsX
import Derived.ChangeSame
import Derived.ChangeSlices
set_option linter.unusedSimpArgs false
set_option linter.unusedVariables false
namespace Go.Abs
open Go.RowKit Go.ChangeShapes Go.WideShapes
def zH (w:World) (v:Value) (t:List Lf) (l:List (den t)):Option Rf->Prop
 | none=>l=[]/\∃a,v=.slice a 0 0
 | some q=>q.fz=true/\v=.slice (some ⟨q.r,q.o,none⟩) q.n q.k/\∃o,w.heap[q.r]?=some o/\BR gS q (.rows t l) o
def y7 (L:List (Option Rf)):Inj:=λb=>L[b]?
theorem zH.bw {w:World} {v:Value} {t:List Lf} {l:List (den t)} {ρ:Option Rf} (h:zH w v t l ρ) {L:List (Option Rf)} {b:Nat} (C:L[b]?=some ρ):BW (y7 L) w b (.rows t l):=by
 cases ρ with
 | none=>obtain ⟨rfl,_⟩:=h;exact .inr ⟨C,t,rfl⟩
 | some q=>obtain ⟨_,_,o,F,E⟩:=h;exact .inl ⟨q,o,C,F,E⟩
theorem zH.vr {w:World} {v:Value} {t:List Lf} {l:List (den t)} {ρ:Option Rf} (h:zH w v t l ρ) {L:List (Option Rf)} {b:Nat} (C:L[b]?=some ρ):VR (y7 L) (.ws b) v:=by
 unfold VR;cases ρ with
 | none=>obtain ⟨_,a,rfl⟩:=h;exact .inr ⟨C,a,rfl⟩
 | some q=>obtain ⟨_,rfl,_⟩:=h;exact .inl ⟨q,C,rfl⟩
theorem zH.ok {w:World} {v:Value} {t:List Lf} {l:List (den t)} {q:Rf} (h:zH w v t l (some q)):q.fz=true/\q.r<w.heap.size:=by
 obtain ⟨E,_,o,C,_⟩:=h;exact ⟨E,pU C⟩
theorem WR.entry {w:World} {L:List (Option Rf)} {H:List (Nat×Blk)} (C:∀(b:Nat) (q:Rf),L[b]?=some (some q)->q.fz=true/\q.r<w.heap.size) (F:∀b blk,look H b=some blk->BW (y7 L) w b blk):WR (y7 L) H L.length w:=by
 refine ⟨λb O q Q G J _=>.inr ⟨(C b q G).1,(C O Q J).1⟩,λb q h=>?_,λb q h=>(C b q h).2,λb blk h _=>F b blk h⟩;unfold y7 at h;rcases aH b L.length with E | E
 ·exact E
 ·rw [ga E] at h;simp at h
theorem Ym {w:World} {x0:Value} {c:List Lf} {f:List (den c)} {a:Option Rf} (d:zH w x0 c f a):WR (y7 [a]) [(0,.rows c f)] 1 w:=by
 refine WR.entry (L:=[a]) (λb q h=>?_) λb blk h=>?_
 ·match b,h with
  | 0,h=>
   simp only [lR,av] at h;subst h;exact d.ok
  | b+1,h=>simp at h
 ·rw [aV] at h;split at h
  ·rename_i e;subst e;simp only [av] at h;subst h;exact d.bw rfl
  ·cases h
end Go.Abs
