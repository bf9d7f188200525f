
/- Opening a law's arguments: arrays of integers.
   Conditions: none; generic over the program. -/
import Derived.Test.YtaogbalpingjhaaGreatDoorAbsR
import Derived.OpenShut
import Derived.WideShapes
set_option linter.unusedSimpArgs false
set_option linter.unusedVariables false
namespace Go.Abs
open Go.RowKit Go.ChangeShapes Go.WideShapes
theorem n6 {H:Type} {enc:TypeId×Value->H} {P:Program} {w:World} {base:Nat} {j:Nat->Bool} {s:Bool} {r:Reach} {b0:Nat} {t e:TypeId} {n:Nat} {k:IntKind} {v:Value} {d:DataW H} {E:List MemPlace}
  (D:P.underlying t=some (.array n e)) (J:P.underlying e=some (.int k)) (hc:P.cellsOf e=1) (I:P.cellsOf t=n) (g:Value.okWide P w r b0 t v) (M:DataW.Trod enc P w base j s t v d E):
  ∃l:List Int,l.length=n/\v=.agg (l.map (Value.int k)).toArray/\E=[]/\∀x∈l,(Lit.int k x).wf=true:=by
 simp only [Value.okWide,D] at g;obtain ⟨p,rfl,K,_⟩:=g;obtain ⟨fuel,L⟩:=M;obtain ⟨C,m,_,hx,N,G,hi⟩:=DataW.trod_array D L;have a:∀i,i<n->∃q,p.toList[i]?=some (.int k q)/\(Lit.int k q).wf=true/\∃y,C[i]?=some y/\y.2=[]:=by
  intro i o;have b:i<C.length:=by omega
  have h:=hi i o;rw [bG b] at h;obtain ⟨q,f,u,F⟩:=DataW.trod_int J h;rw [hc,qo] at f;refine ⟨q,?_,F,C[i],bG b,by rw [u]⟩;have:=ck (λl:List Value=>l[0]?) f;simpa [Value.cells] using this
 have A:p.toList.length=n:=by rw [Du,K,I]
 refine ⟨p.toList.map intOf,by simpa using A,?_,?_,?_⟩
 ·have:p.toList=(p.toList.map intOf).map (Value.int k):=by
   apply xf;intro i;by_cases o:i<n
   ·obtain ⟨q,f,_⟩:=a i o;simp only [l6,f,dC,intOf]
   ·rw [eX (by omega),eX (by simp;simpa using (by omega:p.toList.length<=i))]
  rw [<-this]
 ·simp only [bf] at hx;rw [hx.2];refine NN.2 λy hy=>?_;obtain ⟨i,b,rfl⟩:=List.getElem_of_mem hy;obtain ⟨_,_,_,z,f,u⟩:=a i (by omega);rw [bG b] at f;simp only [ah] at f;rw [f];exact u
 ·intro x hx;obtain ⟨c,B,rfl⟩:=dH.1 hx;obtain ⟨i,b,rfl⟩:=List.getElem_of_mem B;obtain ⟨q,f,u,_⟩:=a i (by omega);rw [bG b] at f;simp only [ah] at f;rw [f];exact u
end Go.Abs
