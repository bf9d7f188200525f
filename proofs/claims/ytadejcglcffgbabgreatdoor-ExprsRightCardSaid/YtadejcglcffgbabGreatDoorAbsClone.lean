
import Derived.Test.YtadejcglcffgbabGreatDoorAbsPat
import Derived.Test.YtadejcglcffgbabGreatDoorAbsT
import Derived.Laws.AppendOwn
set_option linter.unusedSimpArgs false
set_option linter.unusedVariables false
set_option linter.defProp false
namespace Go.Abs
open Go.RowKit
variable {P:Program}
def FH{f:Nat}{t:List Lf}{e:TypeId}(h:∀(a:Option Addr) (c:Nat) (w:World),(a=none->c=0)->Calls P f #[.slice a 0 c] w λex w'=>∃C,ex=.returned C/\w'.ownsRow w.heap.size e t.length C 0 []/\Below w.heap.size w w'):
  sa P f [.ws 0] [(0,.rows t [])] 1 1 1 { val:=.ws 1,pan:=false,H:=[(1,.rows t [])],news:=[1] }:=by
 intro ι0 w xs s G hg hx;have E:=s.blk 0 (.rows t []) rfl (by simp);obtain⟨v,rfl,Q⟩:∃v,xs=#[v]/\VR ι0 (.ws 0) v:=by
  simp only[VRs]at hx;obtain⟨y,ys,F,x,rfl⟩:=hx;exact⟨y,by apply kH;simpa using F,x⟩
 have hv':∃a c,v=.slice a 0 c/\(a=none->c=0):=by
  simp only[VR]at Q;rcases Q with⟨q,i,rfl⟩ | ⟨_,a,rfl⟩
  ·rcases E with⟨B,o,l,ho,J⟩ | ⟨l,_⟩
   ·rw[i]at l;simp only[aq]at l;subst l;obtain⟨cs,e,fz,rfl,W,_⟩:=J;exact⟨some _,q.k,by rw[<-W];rfl,λh=>by cases h⟩
   ·rw[i]at l;cases l
  ·exact⟨a,0,rfl,λ_=>rfl⟩
 obtain⟨a,c,rfl,hc⟩:=hv';refine(h a c w hc).mono λex w' ⟨C,F,x,Y⟩=>?_;subst F;have u:=Below.fr Y;have T:=u.size;have K:∀q,ι0 1≠some q:=λq i=>by have:=s.low 1 q i;omega
 obtain⟨X,z,x2,x3⟩:∃X:Option Rf,(∀q,X=some q->w.heap.size<=q.r/\q.r<w'.heap.size/\q.fz=false)/\BW (λb=>if b=1 then some X else ι0 b) w' 1 (.rows t [])/\VR (λb=>if b=1 then some X else ι0 b) (.ws 1) C:=by
  obtain⟨_,x⟩:=x;rcases x with⟨rfl,_⟩ | ⟨g,cap,I,rfl,M,n,R,O,S,_⟩
  ·refine⟨none,(λq i=>(by cases i)),.inr ⟨by simp,t,rfl⟩,?_⟩;simp only[VR];exact .inr ⟨by simp,none,rfl⟩
  ·refine⟨some ⟨g,0,cap,0,false⟩,(λq i=>by cases i;exact⟨M,lX n,rfl⟩),.inl ⟨⟨g,0,cap,0,false⟩,_,by simp,n,I,e,(0,0),rfl,rfl,oL _,by simp only[bV];omega,by simp,.inr λj _ hj=>by simp at hj⟩,?_⟩;simp only[VR];exact .inl ⟨⟨g,0,cap,0,false⟩,by simp,rfl⟩
 have m:∀{b:Nat} {q:Option Rf},b≠1->(if b=1 then some X else ι0 b)=some q->ι0 b=some q:=λ{b q} E h=>by rw[ab E]at h;exact h
 have new:∀{q:Option Rf},(if(1:Nat)=1 then some X else ι0 1)=some q->X=q:=λ{q} h=>by simpa using h
 refine⟨λb=>if b=1 then some X else ι0 b,λb E _=>by simp only[];rw[ab (by omega)],λb q i=>?_,⟨λb D q B i l V=>?_,λb q i=>?_,λb q i=>?_,λb blk A hd=>?_⟩,λb q i N=>?_,⟨u.os,u.tape,u.output,u.size,λk Z _=>u.blk k Z (λ_ _ h=>by cases h)⟩,?_⟩
 ·by_cases d:b=1
  ·subst d;exact .inr (z q (new i)).1
  ·exact .inl ⟨q,m d i,rfl⟩
 ·by_cases d:b=1
  ·by_cases p:D=1
   ·exact .inl (by rw[d,p])
   ·subst d;have L:=(z q (new i)).1;have U:=s.dom D B (m p l);omega
  ·by_cases p:D=1
   ·subst p;have L:=(z B (new l)).1;have U:=s.dom b q (m d i);omega
   ·exact s.inj b D q B (m d i) (m p l) V
 ·by_cases d:b=1
  ·simp only[y6];omega
  ·have:=s.low b q (m d i);simp only[y6];omega
 ·by_cases d:b=1
  ·subst d;exact(z q (new i)).2.1
  ·have:=s.dom b q (m d i);omega
 ·simp only[aO]at A;split at A
  ·rename_i L;subst L;cases A;exact x2
  ·cases A
 ·by_cases d:b=1
  ·subst d;have:=(z q (new i)).2.2;rw[N]at this;cases this
  ·exact G b q (m d i) N
 ·exact⟨rfl,x3⟩
def MN{f:Nat}{t:List Lf}(c:FF P f [.ws 0] [.rows t] 1 1 [⟨.ws 1,[(1,.rows t)],[1],false⟩]){F:Type}(b:F){e:TypeId}
  (h:∀(a:Option Addr) (c:Nat) (w:World),(a=none->c=0)->Calls P f #[.slice a 0 c] w λex w'=>∃g,ex=.returned g/\w'.ownsRow w.heap.size e t.length g 0 []/\Below w.heap.size w w')
  (d:F=(List (den t)->Option (List (den t))):=by kernel_rfl)
  (hs:(λl=>cast d b l)=(λl=>cond (Nat.ble l.length bE) (some l) none):=by kernel_rfl)
  (k:(λ(x:den t) (l:List (den t))=>(show Option (List (den t))from c.sh (show List (den t)from x::l)))=(λx l=>cond (Nat.ble (0+List.length (x::l)) bE) (some (x::l)) none):=by kernel_rfl):
  FF P f [.ws 0] [.rows t] 1 1 [⟨.ws 1,[(1,.rows t)],[1],false⟩]:=
 ⟨λl=>(show Option (List (den t))from cast d b l),c.ord,c.hc,c.chk,λa y e=>by
  have fin:∀(a y:List (den t)),cast d b a=some y->sa P f (argF [.ws 0] [.rows t] a) (memF [.ws 0] [.rows t] a) 1 1 1 (outO 1 1 [⟨.ws 1,[(1,.rows t)],[1],false⟩] y):=by
   intro a y e;have e':cond (Nat.ble a.length bE) (some a) none=some y:=(congrFun hs a).symm.trans e;obtain⟨j,i⟩:=dU e';cases i;cases a with
   | nil=>exact FH h
   | cons x l=>
    refine c.ok _ _ ?_;have:=congrFun (congrFun k x) l;simp only[bV,j,am]at this;exact this
  exact fin a y e⟩
end Go.Abs
