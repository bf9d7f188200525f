
import Derived.Test.YtadejcglcffgbaaGreatDoorAbsPat
import Derived.Test.YtadejcglcffgbaaGreatDoorAbsT
import Derived.Laws.AppendOwn
set_option linter.unusedSimpArgs false
set_option linter.unusedVariables false
set_option linter.defProp false
namespace Go.Abs
open Go.RowKit
variable {P:Program}
def O7{f:Nat}{t:List Lf}{e:TypeId}(h:∀(a:Option Addr) (c:Nat) (w:World),(a=none->c=0)->Calls P f #[.slice a 0 c] w λex w'=>∃D,ex=.returned D/\w'.ownsRow w.heap.size e t.length D 0 []/\Below w.heap.size w w'):
  xh P f [.ws 0] [(0,.rows t [])] 1 1 1 { val:=.ws 1,pan:=false,H:=[(1,.rows t [])],news:=[1] }:=by
 intro ι0 w V s L hg hx;have A:=s.blk 0 (.rows t []) rfl (by simp);obtain⟨v,rfl,Q⟩:∃v,V=#[v]/\VR ι0 (.ws 0) v:=by
  simp only[VRs]at hx;obtain⟨y,ys,J,z,rfl⟩:=hx;exact⟨y,by apply lq;simpa using J,z⟩
 have hv':∃a c,v=.slice a 0 c/\(a=none->c=0):=by
  simp only[VR]at Q;rcases Q with⟨q,i,rfl⟩ | ⟨_,a,rfl⟩
  ·rcases A with⟨C,o,l,ho,F⟩ | ⟨l,_⟩
   ·rw[i]at l;simp only[aq]at l;subst l;obtain⟨cs,e,fz,rfl,Y,_⟩:=F;exact⟨some _,q.k,by rw[<-Y];rfl,λh=>by cases h⟩
   ·rw[i]at l;cases l
  ·exact⟨a,0,rfl,λ_=>rfl⟩
 obtain⟨a,c,rfl,hc⟩:=hv';refine(h a c w hc).mono λex w' ⟨D,J,z,T⟩=>?_;subst J;have u:=Below.fr T;have S:=u.size;have K:∀q,ι0 1≠some q:=λq i=>by have:=s.low 1 q i;omega
 obtain⟨X,x,W,x3⟩:∃X:Option Rf,(∀q,X=some q->w.heap.size<=q.r/\q.r<w'.heap.size/\q.fz=false)/\BW (λb=>if b=1 then some X else ι0 b) w' 1 (.rows t [])/\VR (λb=>if b=1 then some X else ι0 b) (.ws 1) D:=by
  obtain⟨_,z⟩:=z;rcases z with⟨rfl,_⟩ | ⟨g,cap,G,rfl,M,n,N,R,hcs,_⟩
  ·refine⟨none,(λq i=>(by cases i)),.inr ⟨by simp,t,rfl⟩,?_⟩;simp only[VR];exact .inr ⟨by simp,none,rfl⟩
  ·refine⟨some ⟨g,0,cap,0,false⟩,(λq i=>by cases i;exact⟨M,nM n,rfl⟩),.inl ⟨⟨g,0,cap,0,false⟩,_,by simp,n,G,e,(0,0),rfl,rfl,jr _,by simp only[cK];omega,by simp,.inr λj _ hj=>by simp at hj⟩,?_⟩;simp only[VR];exact .inl ⟨⟨g,0,cap,0,false⟩,by simp,rfl⟩
 have m:∀{b:Nat} {q:Option Rf},b≠1->(if b=1 then some X else ι0 b)=some q->ι0 b=some q:=λ{b q} A h=>by rw[ab A]at h;exact h
 have new:∀{q:Option Rf},(if(1:Nat)=1 then some X else ι0 1)=some q->X=q:=λ{q} h=>by simpa using h
 refine⟨λb=>if b=1 then some X else ι0 b,λb A _=>by simp only[];rw[ab (by omega)],λb q i=>?_,⟨λb B q C i l Z=>?_,λb q i=>?_,λb q i=>?_,λb blk E hd=>?_⟩,λb q i O=>?_,⟨u.os,u.tape,u.output,u.size,λk hk _=>u.blk k hk (λ_ _ h=>by cases h)⟩,?_⟩
 ·by_cases d:b=1
  ·subst d;exact .inr (x q (new i)).1
  ·exact .inl ⟨q,m d i,rfl⟩
 ·by_cases d:b=1
  ·by_cases p:B=1
   ·exact .inl (by rw[d,p])
   ·subst d;have I:=(x q (new i)).1;have U:=s.dom B C (m p l);omega
  ·by_cases p:B=1
   ·subst p;have I:=(x C (new l)).1;have U:=s.dom b q (m d i);omega
   ·exact s.inj b B q C (m d i) (m p l) Z
 ·by_cases d:b=1
  ·simp only[C3];omega
  ·have:=s.low b q (m d i);simp only[C3];omega
 ·by_cases d:b=1
  ·subst d;exact(x q (new i)).2.1
  ·have:=s.dom b q (m d i);omega
 ·simp only[aS]at E;split at E
  ·rename_i I;subst I;cases E;exact W
  ·cases E
 ·by_cases d:b=1
  ·subst d;have:=(x q (new i)).2.2;rw[O]at this;cases this
  ·exact L b q (m d i) O
 ·exact⟨rfl,x3⟩
def Wt{f:Nat}{t:List Lf}(c:FF P f [.ws 0] [.rows t] 1 1 [⟨.ws 1,[(1,.rows t)],[1],false⟩]){F:Type}(b:F){e:TypeId}
  (h:∀(a:Option Addr) (c:Nat) (w:World),(a=none->c=0)->Calls P f #[.slice a 0 c] w λex w'=>∃g,ex=.returned g/\w'.ownsRow w.heap.size e t.length g 0 []/\Below w.heap.size w w')
  (d:F=(List (den t)->Option (List (den t))):=by kernel_rfl)
  (hs:(λl=>cast d b l)=(λl=>cond (Nat.ble l.length bJ) (some l) none):=by kernel_rfl)
  (k:(λ(x:den t) (l:List (den t))=>(show Option (List (den t))from c.sh (show List (den t)from x::l)))=(λx l=>cond (Nat.ble (0+List.length (x::l)) bJ) (some (x::l)) none):=by kernel_rfl):
  FF P f [.ws 0] [.rows t] 1 1 [⟨.ws 1,[(1,.rows t)],[1],false⟩]:=
 ⟨λl=>(show Option (List (den t))from cast d b l),c.ord,c.hc,c.chk,λa y e=>by
  have fin:∀(a y:List (den t)),cast d b a=some y->xh P f (argF [.ws 0] [.rows t] a) (memF [.ws 0] [.rows t] a) 1 1 1 (outO 1 1 [⟨.ws 1,[(1,.rows t)],[1],false⟩] y):=by
   intro a y e;have e':cond (Nat.ble a.length bJ) (some a) none=some y:=(congrFun hs a).symm.trans e;obtain⟨j,i⟩:=dU e';cases i;cases a with
   | nil=>exact O7 h
   | cons x l=>
    refine c.ok _ _ ?_;have:=congrFun (congrFun k x) l;simp only[cK,j,aj]at this;exact this
  exact fin a y e⟩
end Go.Abs
