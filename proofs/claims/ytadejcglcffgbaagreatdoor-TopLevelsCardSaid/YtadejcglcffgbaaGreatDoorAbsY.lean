
import Derived.Test.YtadejcglcffgbaaGreatDoorAbsX
import Derived.ChangeSame
import Derived.ChangeSlices
set_option linter.unusedSimpArgs false
set_option linter.unusedVariables false
set_option linter.defProp false
namespace Go.Abs
open Go.RowKit Go.ChangeShapes Go.WideShapes
def zg(w:World)(v:Value)(t:List Lf)(l:List (den t)):Option Rf->Prop
 | none=>l=[]/\∃a,v=.slice a 0 0
 | some q=>q.fz=true/\v=.slice (some ⟨q.r,q.o,none⟩) q.n q.k/\∃o,w.heap[q.r]?=some o/\BR gQ q (.rows t l) o
def yB(L:List (Option Rf)):Inj:=λb=>L[b]?
def zg.bw{w:World}{v:Value}{t:List Lf}{l:List (den t)}{ρ:Option Rf}(h:zg w v t l ρ){L:List (Option Rf)}{b:Nat}(C:L[b]?=some ρ):BW (yB L) w b (.rows t l):=by
 cases ρ with
 | none=>obtain⟨rfl,_⟩:=h;exact .inr ⟨C,t,rfl⟩
 | some q=>obtain⟨_,_,o,E,F⟩:=h;exact .inl ⟨q,o,C,E,F⟩
def zg.vr{w:World}{v:Value}{t:List Lf}{l:List (den t)}{ρ:Option Rf}(h:zg w v t l ρ){L:List (Option Rf)}{b:Nat}(C:L[b]?=some ρ):VR (yB L) (.ws b) v:=by
 unfold VR;cases ρ with
 | none=>obtain⟨_,a,rfl⟩:=h;exact .inr ⟨C,a,rfl⟩
 | some q=>obtain⟨_,rfl,_⟩:=h;exact .inl ⟨q,C,rfl⟩
def zg.ok{w:World}{v:Value}{t:List Lf}{l:List (den t)}{q:Rf}(h:zg w v t l (some q)):q.fz=true/\q.r<w.heap.size:=by
 obtain⟨E,_,o,C,_⟩:=h;exact⟨E,nM C⟩
def WR.entry{w:World}{L:List (Option Rf)}{H:List (Nat×Blk)}(C:∀(b:Nat) (q:Rf),L[b]?=some (some q)->q.fz=true/\q.r<w.heap.size)(G:∀b blk,look H b=some blk->BW (yB L) w b blk):WR (yB L) H L.length w:=by
 refine⟨λb Q q J O F _=>.inr ⟨(C b q O).1,(C Q J F).1⟩,λb q h=>?_,λb q h=>(C b q h).2,λb blk h _=>G b blk h⟩;unfold yB at h;rcases aJ b L.length with E | E
 ·exact E
 ·rw[f7 E]at h;simp at h
def Yz{w:World}{x0:Value}{c:List Lf}{d:List (den c)}{a:Option Rf}(f:zg w x0 c d a):WR (yB [a]) [(0,.rows c d)] 1 w:=by
 refine WR.entry (L:=[a]) (λb q h=>?_) λb blk h=>?_
 ·match b,h with
  | 0,h=>
   simp only[lF,aq]at h;subst h;exact f.ok
  | b+1,h=>simp at h
 ·rw[aS]at h;split at h
  ·rename_i e;subst e;simp only[aq]at h;subst h;exact f.bw rfl
  ·cases h
end Go.Abs
