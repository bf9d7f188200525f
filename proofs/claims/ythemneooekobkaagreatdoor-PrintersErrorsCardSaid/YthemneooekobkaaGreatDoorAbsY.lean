
/- Opening a law's arguments: slices of integers, wherever they lie.
   Conditions: none; generic over the program. -/
import Derived.Test.YthemneooekobkaaGreatDoorAbsX
import Derived.ChangeSame
import Derived.ChangeSlices
set_option linter.unusedSimpArgs false
set_option linter.unusedVariables false
namespace Go.Abs
open Go.RowKit Go.ChangeShapes Go.WideShapes
def wy (w:World) (v:Value) (t:List Lf) (l:List (den t)):Option Rf->Prop
 | none=>l=[]/\∃a,v=.slice a 0 0
 | some q=>q.fz=true/\v=.slice (some ⟨q.r,q.o,none⟩) q.n q.k/\∃o,w.heap[q.r]?=some o/\BR fm q (.rows t l) o
def uI (L:List (Option Rf)):Inj:=λb=>L[b]?
theorem wy.bw {w:World} {v:Value} {t:List Lf} {l:List (den t)} {ρ:Option Rf} (h:wy w v t l ρ) {L:List (Option Rf)} {b:Nat} (A:L[b]?=some ρ):BW (uI L) w b (.rows t l):=by
 cases ρ with
 | none=>obtain ⟨rfl,_⟩:=h;exact .inr ⟨A,t,rfl⟩
 | some q=>obtain ⟨_,_,o,E,C⟩:=h;exact .inl ⟨q,o,A,E,C⟩
theorem wy.vr {w:World} {v:Value} {t:List Lf} {l:List (den t)} {ρ:Option Rf} (h:wy w v t l ρ) {L:List (Option Rf)} {b:Nat} (A:L[b]?=some ρ):VR (uI L) (.ws b) v:=by
 unfold VR;cases ρ with
 | none=>obtain ⟨_,a,rfl⟩:=h;exact .inr ⟨A,a,rfl⟩
 | some q=>obtain ⟨_,rfl,_⟩:=h;exact .inl ⟨q,A,rfl⟩
theorem wy.ok {w:World} {v:Value} {t:List Lf} {l:List (den t)} {q:Rf} (h:wy w v t l (some q)):q.fz=true/\q.r<w.heap.size:=by
 obtain ⟨C,_,o,A,_⟩:=h;exact ⟨C,mS A⟩
theorem WR.entry {w:World} {L:List (Option Rf)} {H:List (Nat×Blk)} (C:∀(b:Nat) (q:Rf),L[b]?=some (some q)->q.fz=true/\q.r<w.heap.size) (G:∀b blk,look H b=some blk->BW (uI L) w b blk):WR (uI L) H L.length w:=by
 refine ⟨λb J q F M E _=>.inr ⟨(C b q M).1,(C J F E).1⟩,λb q h=>?_,λb q h=>(C b q h).2,λb blk h _=>G b blk h⟩;unfold uI at h;rcases aH b L.length with A | A
 ·exact A
 ·rw [eF A] at h;simp at h
theorem Sj {w:World} {x0:Value} {c:List Lf} {d:List (den c)} {a:Option Rf} (f:wy w x0 c d a):WR (uI [a]) [(0,.rows c d)] 1 w:=by
 refine WR.entry (L:=[a]) (λb q h=>?_) λb blk h=>?_
 ·match b,h with
  | 0,h=>
   simp only [kb,am] at h;subst h;exact f.ok
  | b+1,h=>simp at h
 ·rw [aP] at h;split at h
  ·rename_i e;subst e;simp only [am] at h;subst h;exact f.bw rfl
  ·cases h
end Go.Abs
