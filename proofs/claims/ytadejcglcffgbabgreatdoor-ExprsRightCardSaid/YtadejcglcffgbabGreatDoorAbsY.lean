
import Derived.Test.YtadejcglcffgbabGreatDoorAbsX
import Derived.ChangeSame
import Derived.ChangeSlices
set_option linter.unusedSimpArgs false
set_option linter.unusedVariables false
set_option linter.defProp false
namespace Go.Abs
open Go.RowKit Go.ChangeShapes Go.WideShapes
def ut(w:World)(v:Value)(t:List Lf)(l:List (den t)):Option Rf->Prop
 | none=>l=[]/\∃a,v=.slice a 0 0
 | some q=>q.fz=true/\v=.slice (some ⟨q.r,q.o,none⟩) q.n q.k/\∃o,w.heap[q.r]?=some o/\BR ii q (.rows t l) o
def tt(L:List (Option Rf)):Inj:=λb=>L[b]?
def ut.bw{w:World}{v:Value}{t:List Lf}{l:List (den t)}{ρ:Option Rf}(h:ut w v t l ρ){L:List (Option Rf)}{b:Nat}(A:L[b]?=some ρ):BW (tt L) w b (.rows t l):=by
 cases ρ with
 | none=>obtain⟨rfl,_⟩:=h;exact .inr ⟨A,t,rfl⟩
 | some q=>obtain⟨_,_,o,E,C⟩:=h;exact .inl ⟨q,o,A,E,C⟩
def ut.vr{w:World}{v:Value}{t:List Lf}{l:List (den t)}{ρ:Option Rf}(h:ut w v t l ρ){L:List (Option Rf)}{b:Nat}(A:L[b]?=some ρ):VR (tt L) (.ws b) v:=by
 unfold VR;cases ρ with
 | none=>obtain⟨_,a,rfl⟩:=h;exact .inr ⟨A,a,rfl⟩
 | some q=>obtain⟨_,rfl,_⟩:=h;exact .inl ⟨q,A,rfl⟩
def ut.ok{w:World}{v:Value}{t:List Lf}{l:List (den t)}{q:Rf}(h:ut w v t l (some q)):q.fz=true/\q.r<w.heap.size:=by
 obtain⟨C,_,o,A,_⟩:=h;exact⟨C,lX A⟩
def WR.entry{w:World}{L:List (Option Rf)}{H:List (Nat×Blk)}(A:∀(b:Nat) (q:Rf),L[b]?=some (some q)->q.fz=true/\q.r<w.heap.size)(F:∀b blk,look H b=some blk->BW (tt L) w b blk):WR (tt L) H L.length w:=by
 refine⟨λb E q M J G _=>.inr ⟨(A b q J).1,(A E M G).1⟩,λb q h=>?_,λb q h=>(A b q h).2,λb blk h _=>F b blk h⟩;unfold tt at h;rcases aI b L.length with C | C
 ·exact C
 ·rw[dX C]at h;simp at h
def Nj{w:World}{x0:Value}{c:List Lf}{f:List (den c)}{a:Option Rf}(d:ut w x0 c f a):WR (tt [a]) [(0,.rows c f)] 1 w:=by
 refine WR.entry (L:=[a]) (λb q h=>?_) λb blk h=>?_
 ·match b,h with
  | 0,h=>
   simp only[iE,aq]at h;subst h;exact d.ok
  | b+1,h=>simp at h
 ·rw[aO]at h;split at h
  ·rename_i e;subst e;simp only[aq]at h;subst h;exact d.bw rfl
  ·cases h
end Go.Abs
