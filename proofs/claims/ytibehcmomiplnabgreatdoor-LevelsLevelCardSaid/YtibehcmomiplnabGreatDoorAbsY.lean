
import Derived.Test.YtibehcmomiplnabGreatDoorAbsX
import Derived.ChangeSame
import Derived.ChangeSlices
set_option linter.unusedSimpArgs false
set_option linter.unusedVariables false
set_option linter.defProp false
namespace Go.Abs
open Go.RowKit Go.ChangeShapes Go.WideShapes
def BD(w:World)(v:Value)(t:List Lf)(l:List (den t)):Option Rf->Prop
 | none=>l=[]/\∃a,v=.slice a 0 0
 | some q=>q.fz=true/\v=.slice (some ⟨q.r,q.o,none⟩) q.n q.k/\∃o,w.heap[q.r]?=some o/\BR iI q (.rows t l) o
def Ag(L:List (Option Rf)):Inj:=λb=>L[b]?
def BD.bw{w:World}{v:Value}{t:List Lf}{l:List (den t)}{ρ:Option Rf}(h:BD w v t l ρ){L:List (Option Rf)}{b:Nat}(C:L[b]?=some ρ):BW (Ag L) w b (.rows t l):=by
 cases ρ with
 | none=>obtain⟨rfl,_⟩:=h;exact .inr ⟨C,t,rfl⟩
 | some q=>obtain⟨_,_,o,E,F⟩:=h;exact .inl ⟨q,o,C,E,F⟩
def BD.vr{w:World}{v:Value}{t:List Lf}{l:List (den t)}{ρ:Option Rf}(h:BD w v t l ρ){L:List (Option Rf)}{b:Nat}(C:L[b]?=some ρ):VR (Ag L) (.ws b) v:=by
 unfold VR;cases ρ with
 | none=>obtain⟨_,a,rfl⟩:=h;exact .inr ⟨C,a,rfl⟩
 | some q=>obtain⟨_,rfl,_⟩:=h;exact .inl ⟨q,C,rfl⟩
def BD.ok{w:World}{v:Value}{t:List Lf}{l:List (den t)}{q:Rf}(h:BD w v t l (some q)):q.fz=true/\q.r<w.heap.size:=by
 obtain⟨C,_,o,E,_⟩:=h;exact⟨C,rz E⟩
def WR.entry{w:World}{L:List (Option Rf)}{H:List (Nat×Blk)}(E:∀(b:Nat) (q:Rf),L[b]?=some (some q)->q.fz=true/\q.r<w.heap.size)(J:∀b blk,look H b=some blk->BW (Ag L) w b blk):WR (Ag L) H L.length w:=by
 refine⟨λb F q G O Q _=>.inr ⟨(E b q O).1,(E F G Q).1⟩,λb q h=>?_,λb q h=>(E b q h).2,λb blk h _=>J b blk h⟩;unfold Ag at h;rcases aN b L.length with C | C
 ·exact C
 ·rw[gS C]at h;simp at h
def ZS{w:World}{x0:Value}{c:List Lf}{d:List (den c)}{a:Option Rf}(f:BD w x0 c d a):WR (Ag [a]) [(0,.rows c d)] 1 w:=by
 refine WR.entry (L:=[a]) (λb q h=>?_) λb blk h=>?_
 ·match b,h with
  | 0,h=>
   simp only[mV,aw]at h;subst h;exact f.ok
  | b+1,h=>simp at h
 ·rw[bh]at h;split at h
  ·rename_i e;subst e;simp only[aw]at h;subst h;exact f.bw rfl
  ·cases h
end Go.Abs
