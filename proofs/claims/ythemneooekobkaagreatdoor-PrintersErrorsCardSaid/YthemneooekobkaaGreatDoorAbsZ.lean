
/- Opening a law's arguments: rows of numbers, bools and strings; slices of such rows.
   Conditions: none; generic over the program. -/
import Derived.Test.YthemneooekobkaaGreatDoorAbsY
set_option linter.unusedSimpArgs false
set_option linter.unusedVariables false
namespace Go.Abs
open Go.RowKit Go.ChangeShapes Go.WideShapes
def Lf.wf:(a:Lf)->a.den->Prop
 | .i k,n=>(Lit.int k n).wf=true
 | .bo,_=>True
 | .s,l=>l.length<=maxLen
def qw:(t:List Lf)->den t->Prop
 | [],_=>True
 | [a],x=>a.wf x
 | a::b::l,x=>a.wf x.1/\qw (b::l) x.2
def xe:(t u:List Lf)->den t->den u->den (t++u)
 | [],_,_,y=>y
 | [a],[],x,_=>x
 | [a],b::u,x,y=>(x,y)
 | a::b::t,u,x,y=>(x.1,xe (b::t) u x.2 y)
theorem qN:∀(t u:List Lf) (x:den t) (y:den u),vals (t++u) (xe t u x y)=vals t x++vals u y
 | [],u,x,y=>rfl
 | [a],[],x,y=>rfl
 | [a],b::u,x,y=>rfl
 | a::b::t,u,x,y=>by
  show a.val x.1::vals (b::t++u) (xe (b::t) u x.2 y)=_;rw [qN (b::t) u x.2 y];rfl
theorem vk:∀(t u:List Lf) (x:den t) (y:den u),qw t x->qw u y->qw (t++u) (xe t u x y)
 | [],u,x,y,_,h=>h
 | [a],[],x,y,h,_=>h
 | [a],b::u,x,y,h,c=>⟨h,c⟩
 | a::b::t,u,x,y,h,c=>⟨h.1,vk (b::t) u x.2 y h.2 c⟩
def offF (ok:TypeId->Bool) (b:TypeId->Nat) (a:Nat):Nat->List Field->Bool
 | o,[]=>Nat.beq o a
 | o,f::l=>Nat.beq f.offset o&&(ok f.type&&offF ok b a (o+b f.type) l)
def yU (P:Program):Nat->TypeId->Bool
 | 0,_=>false
 | d+1,t=>match P.underlying t with
  | some (.int _)=>true
  | some .bool=>true
  | some .string=>true
  | some (.array n e)=>yU P d e&&Nat.beq (P.cellsOf t) (n*P.cellsOf e)
  | some (.struct a)=>offF (yU P d) P.cellsOf (P.cellsOf t) 0 a.toList
  | _=>false
section
variable {H:Type} {enc:TypeId×Value->H} {P:Program} {w:World} {base:Nat} {spare:Nat->Bool} {held:Bool}
theorem wT {α:Type} (a:List α) (o n:Nat):a.drop o=(a.drop o).take n++a.drop (o+n):=by
 rw [<-wN];exact (uG n _).symm
theorem wS {d fuel:Nat} (ih:∀{e:TypeId} {tr:List Lf} {g:List Value} {x:DataW H×List MemPlace},ri P d e=some tr->yU P d e=true->DataW.trod enc P w base spare held fuel e g=some x->∃r:den tr,g=vals tr r/\qw tr r)
  (g:List Value):∀(h:List Field) (o:Nat) (tr:List Lf) (l:List (DataW H×List MemPlace)),Ii (ri P d) h=some tr->offF (yU P d) P.cellsOf g.length o h=true->
   (h.mapM λf=>DataW.trod enc P w base spare held fuel f.type ((g.drop f.offset).take (P.cellsOf f.type)))=some l->∃r:den tr,g.drop o=vals tr r/\qw tr r
 | [],o,tr,l,c,j,i=>by
  simp only [Ii,am] at c;subst c;have:=bm j;exact ⟨(),by rw [this];simp [vals],trivial⟩
 | f::h,o,tr,l,c,j,i=>by
  simp only [Ii] at c;split at c
  case h_2=>cases c
  rename_i a B;split at c
  case h_2=>cases c
  rename_i b t;simp only [am] at c;subst c;simp only [offF,ay] at j;obtain ⟨k,z,s⟩:=j;have k:=bm k;subst k;rw [uC] at i;simp only [Option.bind_eq_bind,yO] at i;obtain ⟨y,hy,C,m,_⟩:=i;obtain ⟨n,A,u⟩:=ih B z hy;obtain ⟨p,q,v⟩:=wS ih g h _ b C t s m;exact ⟨xe a b n p,by rw [qN,<-A,<-q];exact wT g _ _,vk a b n p u v⟩
theorem zK {b:Nat} {l:List Lf} {e:TypeId} {fuel:Nat} (ih:∀{a:List Value} {x:DataW H×List MemPlace},DataW.trod enc P w base spare held fuel e a=some x->∃r:den l,a=vals l r/\qw l r)
  (a:List Value) (z:Nat) (k:a.length=b*z):∀(n i:Nat),i+n=b->(∀j,i<=j->j<b->∃y,DataW.trod enc P w base spare held fuel e ((a.drop (j*z)).take z)=some y)->∃r:den (repL n l),a.drop (i*z)=vals (repL n l) r/\qw (repL n l) r
 | 0,i,hi,_=>by
  have:i=b:=by omega
  subst this;exact ⟨(),by rw [rl (by omega)];rfl,trivial⟩
 | n+1,i,hi,h=>by
  obtain ⟨y,hy⟩:=h i (by omega) (by omega);obtain ⟨c,p,o⟩:=ih hy;obtain ⟨d,f,m⟩:=zK ih a z k n (i+1) (by omega) (λj q g=>h j (by omega) g);refine ⟨xe l (repL n l) c d,?_,vk _ _ c d o m⟩;show _=vals (l++repL n l) _;rw [qN,<-p,<-f,xN];exact wT a _ _
theorem ub:∀(d fuel:Nat) {e:TypeId} {tr:List Lf} {p:List Value} {x:DataW H×List MemPlace},ri P d e=some tr->yU P d e=true->
  DataW.trod enc P w base spare held fuel e p=some x->∃r:den tr,p=vals tr r/\qw tr r
 | 0,_,_,_,_,_,h,_,_=>by simp [ri] at h
 | _+1,0,_,_,_,_,_,_,h=>by simp [DataW.trod] at h
 | d+1,fuel+1,e,tr,p,x,a,g,c=>by
  unfold ri at a;unfold yU at g;cases i:P.underlying e with
  | none=>rw [i] at a;cases a
  | some o=>
   rw [i] at a g;cases o with
   | int k=>
    simp only [am] at a;subst a;obtain ⟨m,rfl,_,E⟩:=Ee i c;exact ⟨m,rfl,E⟩
   | bool=>
    simp only [am] at a;subst a;obtain ⟨b,rfl,_⟩:=DataW.trod_bool i c;exact ⟨b,rfl,trivial⟩
   | string=>
    simp only [am] at a;subst a;obtain ⟨s,rfl,_,hs⟩:=DataW.trod_string i c;exact ⟨s.data.toList,by simp [vals,Lf.val],hs⟩
   | array n z=>
    simp only at a g;split at a
    case h_2=>cases a
    rename_i l _ B;simp only [am] at a;subst a;simp only [ay] at g;have D:=bm g.2;unfold DataW.trod at c;rw [i] at c;simp only at c;split at c
    case isFalse=>cases c
    rename_i f;simp only [BM] at c;obtain ⟨v,q,_⟩:=c
    have:=zK (fuel:=fuel) (l:=l) (e:=z) (λh=>ub d fuel B g.1 h) p (P.cellsOf z) (by rw [f,D]) n 0 (by omega) (λj _ A=>by
     have y:=mapM_some_get q j j (by simp [A]);have u:=mapM_some_length q;have t:j<v.length:=by rw [u];simpa using A
     rw [bH t] at y;exact ⟨_,y⟩)
    simpa using this
   | struct C=>
    simp only at a g;unfold DataW.trod at c;rw [i] at c;simp only at c;split at c
    case isFalse=>cases c
    rename_i f;simp only [BM] at c;obtain ⟨v,q,_⟩:=c;have:=wS (d:=d) (fuel:=fuel) (λG F hc=>ub d fuel G F hc) p C.toList 0 tr v a (by rw [f];exact g) q;simpa using this
   | _=>cases a
end
section
variable {H:Type} {enc:TypeId×Value->H} {P:Program} {w:World} {held:Bool}
theorem uM {t e:TypeId} {tr:List Lf} {d fuel:Nat} {v:Value} {x:DataW H×List MemPlace} (S:P.underlying t=some (.slice e)) (Y:ri P d e=some tr) (X:yU P d e=true) (hc:P.cellsOf e=tr.length) (hp:0<tr.length)
  (h:DataW.trod enc P w 0 (λ_=>true) held fuel t [v]=some x):∃(l:List (den tr)) (ρ:Option Rf),(∀y∈l,qw tr y)/\l.length<=maxLen/\wy w v tr l ρ:=by
 rcases DataW.trod_slice S h with ⟨p,_⟩ | ⟨a,len,cap,L,rest,n,_,p,_,_,Q,hm,R,K,J,_⟩
 ·simp only [EV,sN] at p;subst p;exact ⟨[],none,by simp,by simp,rfl,none,rfl⟩
 ·simp only [EV,sN] at p;subst p;by_cases h0:cap=0
  ·have A:len=0:=by omega
   subst h0 A;exact ⟨[],none,by simp,by simp,rfl,some a,rfl⟩
  have f:∀i,i<cap->∃r:den tr,w.cells? 0 (a.add (i*tr.length)) tr.length=some (vals tr r)/\qw tr r:=by
   intro i hi;have:∃y,(w.cells? 0 (a.add (i*P.cellsOf e)) (P.cellsOf e)).bind (DataW.trod enc P w 0 (λ_=>true) held n e)=some y:=by
    by_cases M:i<len
    ·rw [K i M,bH (by omega)];exact ⟨_,rfl⟩
    ·obtain ⟨W,N⟩:=J rfl;have:=N (i - len) (by omega);rw [show len+(i - len)=i by omega] at this;rw [this,bH (by omega)];exact ⟨_,rfl⟩
   obtain ⟨y,hy⟩:=this;rw [yO] at hy;obtain ⟨o,c,q⟩:=hy;obtain ⟨r,rfl,V⟩:=ub d n Y X q;rw [hc] at c;exact ⟨r,c,V⟩
  obtain ⟨b,off,C⟩:=a;have z:C=none:=by
   obtain ⟨r,c,_⟩:=f 0 (by omega);have q:=(CM c).2.2 0 hp;have E:(vals tr r)[0]?=some ((vals tr r)[0]'(by rw [fA];exact hp)):=bH _;rw [E] at q;simpa [Addr.add] using World.cell?_spot q
  subst z;have g:∀i,i<cap->∀r:den tr,w.cells? 0 ((⟨b,off,none⟩:Addr).add (i*tr.length)) tr.length=some (vals tr r)->∀j,j<tr.length->w.cell? ⟨b,off+(i*tr.length+j),none⟩=(vals tr r)[j]?:=by
   intro i hi r c j B;have:=(CM c).2.2 j B;rw [<-this];congr 1;unfold Addr.add;by_cases G:i*tr.length=0
   ·by_cases k:j=0
    ·simp [G,k]
    ·simp [G,k]
   ·by_cases k:j=0
    ·simp [G,k]
    ·simp [G,k,il]
  have F:∃o D fr,w.heap[b]?=some (.cells o D fr):=by
   obtain ⟨r,c,_⟩:=f 0 (by omega);have:=g 0 (by omega) r c 0 hp;rw [bH (by rw [fA];exact hp)] at this;unfold World.cell? at this;simp only at this;split at this
   ·rename_i o D fr I;exact ⟨o,D,fr,I⟩
   ·cases this
  obtain ⟨o,D,fr,I⟩:=F;have s:∀i,i<cap->∀r:den tr,w.cells? 0 ((⟨b,off,none⟩:Addr).add (i*tr.length)) tr.length=some (vals tr r)->∀j,j<tr.length->o[off+(i*tr.length+j)]?=(vals tr r)[j]?:=λi hi r c j B=>by
   rw [<-aX I];exact g i hi r c j B
  have u:off+cap*tr.length<=o.size:=by
   obtain ⟨r,c,_⟩:=f (cap - 1) (by omega);have:=s (cap - 1) (by omega) r c (tr.length - 1) (by omega);rw [bH (by rw [fA];omega)] at this;have Z:off+((cap - 1)*tr.length+(tr.length - 1))<o.size:=by
    rcases aH (off+((cap - 1)*tr.length+(tr.length - 1))) o.size with O | O
    ·exact O
    ·rw [tz O] at this;cases this
   have e1:cap*tr.length=(cap - 1)*tr.length+tr.length:=by rw [<-xN];congr 1;omega
   omega
  have rows:∀m,m<=cap->∃l:List (den tr),l.length=m/\(∀y∈l,qw tr y)/\(o.toList.drop off).take (m*tr.length)=l.flatMap (vals tr):=by
   intro m
   induction m with
   | zero=>intro _;exact ⟨[],rfl,by simp,by simp⟩
   | succ m ih=>
    intro T;obtain ⟨l,c,q,E⟩:=ih (by omega);obtain ⟨r,U,h5⟩:=f m (by omega);refine ⟨l++[r],by simp [c],λy hy=>?_,?_⟩
    ·simp only [kA,cA,pi,qm] at hy;rcases hy with hy | rfl
     ·exact q y hy
     ·exact h5
    ·rw [Eo,<-E,xN,List.take_add,m8,List.flatMap_nil,tn];congr 1;apply xj;intro j;by_cases B:j<tr.length
     ·rw [oc B,ke,ke,nW,<-s m (by omega) r U j B]
     ·rw [eF (by rw [dx];omega),eF (by rw [fA];omega)]
  obtain ⟨l,c,q,E⟩:=rows len Q;exact ⟨l,some ⟨b,len,cap,off,true⟩,q,by omega,rfl,rfl,_,I,o,D,fr,rfl,c,Q,u,by rw [c];exact E,.inl rfl⟩
end
end Go.Abs
