
import Derived.Test.YtibehcmomiplnaaGreatDoorAbsX
import Derived.ChangeSame
import Derived.ChangeSlices
set_option linter.unusedSimpArgs false
set_option linter.unusedVariables false
set_option linter.defProp false
namespace Go.Abs
open Go.RowKit Go.ChangeShapes Go.WideShapes
def wt(w:World)(v:Value)(t:List Lf)(l:List (den t)):Option Rf->Prop
 | none=>l=[]/\∃a,v=.slice a 0 0
 | some q=>q.fz=true/\v=.slice (some ⟨q.r,q.o,none⟩) q.n q.k/\∃o,w.heap[q.r]?=some o/\BR gX q (.rows t l) o
def yO(L:List (Option Rf)):Inj:=λb=>L[b]?
def wt.bw{w:World}{v:Value}{t:List Lf}{l:List (den t)}{ρ:Option Rf}(h:wt w v t l ρ){L:List (Option Rf)}{b:Nat}(C:L[b]?=some ρ):BW (yO L) w b (.rows t l):=by
 cases ρ with
 | none=>obtain⟨rfl,_⟩:=h;exact .inr ⟨C,t,rfl⟩
 | some q=>obtain⟨_,_,o,E,F⟩:=h;exact .inl ⟨q,o,C,E,F⟩
def wt.vr{w:World}{v:Value}{t:List Lf}{l:List (den t)}{ρ:Option Rf}(h:wt w v t l ρ){L:List (Option Rf)}{b:Nat}(C:L[b]?=some ρ):VR (yO L) (.ws b) v:=by
 unfold VR;cases ρ with
 | none=>obtain⟨_,a,rfl⟩:=h;exact .inr ⟨C,a,rfl⟩
 | some q=>obtain⟨_,rfl,_⟩:=h;exact .inl ⟨q,C,rfl⟩
def wt.ok{w:World}{v:Value}{t:List Lf}{l:List (den t)}{q:Rf}(h:wt w v t l (some q)):q.fz=true/\q.r<w.heap.size:=by
 obtain⟨C,_,o,E,_⟩:=h;exact⟨C,qg E⟩
def WR.entry{w:World}{L:List (Option Rf)}{H:List (Nat×Blk)}(C:∀(b:Nat) (q:Rf),L[b]?=some (some q)->q.fz=true/\q.r<w.heap.size)(Q:∀b blk,look H b=some blk->BW (yO L) w b blk):WR (yO L) H L.length w:=by
 refine⟨λb J q F G O _=>.inr ⟨(C b q G).1,(C J F O).1⟩,λb q h=>?_,λb q h=>(C b q h).2,λb blk h _=>Q b blk h⟩;unfold yO at h;rcases aN b L.length with E | E
 ·exact E
 ·rw[gh E]at h;simp at h
def VZ{w:World}{x0 k:Value}{d f:List Lf}{i:List (den d)}{j:List (den f)}{a c:Option Rf}(g:wt w x0 d i a)(z1:wt w k f j c):
  WR (yO [a,c]) [(0,.rows d i),(1,.rows f j)] 2 w:=by
 refine WR.entry (L:=[a,c]) (λb q h=>?_) λb blk h=>?_
 ·match b,h with
  | 0,h=>
   simp only[lw,ar]at h;subst h;exact g.ok
  | 1,h=>
   simp only[E7,lw,ar]at h;subst h;exact z1.ok
  | b+2,h=>simp at h
 ·rw[aV]at h;split at h
  ·rename_i e;subst e;simp only[ar]at h;subst h;exact g.bw rfl
  ·rw[aV]at h;split at h
   ·rename_i e;subst e;simp only[ar]at h;subst h;exact z1.bw rfl
   ·cases h
end Go.Abs
