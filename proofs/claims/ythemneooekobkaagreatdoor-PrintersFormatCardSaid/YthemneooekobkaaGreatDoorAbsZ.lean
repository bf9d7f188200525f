
/- Opening a law's arguments: rows of numbers, bools and strings; slices of such rows.
   Conditions: none; generic over the program. -/
import Derived.Test.YthemneooekobkaaGreatDoorAbsY
set_option linter.unusedSimpArgs false
set_option linter.unusedVariables false
namespace Go.Abs
open Go.RowKit Go.ChangeShapes Go.WideShapes
def Lf.wf:(a:Lf)->a.den->Prop
 | .i k,n=>(Lit.int k n).wf=true
 | .bo,_=>True
 | .s,l=>l.length<=maxLen
def ug:(t:List Lf)->den t->Prop
 | [],_=>True
 | [a],x=>a.wf x
 | a::b::l,x=>a.wf x.1/\ug (b::l) x.2
def AP:(t u:List Lf)->den t->den u->den (t++u)
 | [],_,_,y=>y
 | [a],[],x,_=>x
 | [a],b::u,x,y=>(x,y)
 | a::b::t,u,x,y=>(x.1,AP (b::t) u x.2 y)
theorem uo:∀(t u:List Lf) (x:den t) (y:den u),vals (t++u) (AP t u x y)=vals t x++vals u y
 | [],u,x,y=>rfl
 | [a],[],x,y=>rfl
 | [a],b::u,x,y=>rfl
 | a::b::t,u,x,y=>by
  show a.val x.1::vals (b::t++u) (AP (b::t) u x.2 y)=_;rw [uo (b::t) u x.2 y];rfl
theorem xM:∀(t u:List Lf) (x:den t) (y:den u),ug t x->ug u y->ug (t++u) (AP t u x y)
 | [],u,x,y,_,h=>h
 | [a],[],x,y,h,_=>h
 | [a],b::u,x,y,h,c=>⟨h,c⟩
 | a::b::t,u,x,y,h,c=>⟨h.1,xM (b::t) u x.2 y h.2 c⟩
def offF (ok:TypeId->Bool) (b:TypeId->Nat) (a:Nat):Nat->List Field->Bool
 | o,[]=>Nat.beq o a
 | o,f::l=>Nat.beq f.offset o&&(ok f.type&&offF ok b a (o+b f.type) l)
def Bc (P:Program):Nat->TypeId->Bool
 | 0,_=>false
 | d+1,t=>match P.underlying t with
  | some (.int _)=>true
  | some .bool=>true
  | some .string=>true
  | some (.array n e)=>Bc P d e&&Nat.beq (P.cellsOf t) (n*P.cellsOf e)
  | some (.struct a)=>offF (Bc P d) P.cellsOf (P.cellsOf t) 0 a.toList
  | _=>false
section
variable {H:Type} {enc:TypeId×Value->H} {P:Program} {w:World} {base:Nat} {spare:Nat->Bool} {held:Bool}
theorem zM {α:Type} (a:List α) (o n:Nat):a.drop o=(a.drop o).take n++a.drop (o+n):=by
 rw [<-jv];exact (ur n _).symm
theorem zX {d fuel:Nat} (ih:∀{e:TypeId} {tr:List Lf} {g:List Value} {x:DataW H×List MemPlace},uI P d e=some tr->Bc P d e=true->DataW.trod enc P w base spare held fuel e g=some x->∃r:den tr,g=vals tr r/\ug tr r)
  (g:List Value):∀(h:List Field) (o:Nat) (tr:List Lf) (m:List (DataW H×List MemPlace)),MM (uI P d) h=some tr->offF (Bc P d) P.cellsOf g.length o h=true->
   (h.mapM λf=>DataW.trod enc P w base spare held fuel f.type ((g.drop f.offset).take (P.cellsOf f.type)))=some m->∃r:den tr,g.drop o=vals tr r/\ug tr r
 | [],o,tr,m,c,i,j=>by
  simp only [MM,av] at c;subst c;have:=bB i;exact ⟨(),by rw [this];simp [vals],trivial⟩
 | f::h,o,tr,m,c,i,j=>by
  simp only [MM] at c;split at c
  case h_2=>cases c
  rename_i a v;split at c
  case h_2=>cases c
  rename_i b u;simp only [av] at c;subst c;simp only [offF,az] at i;obtain ⟨k,t,q⟩:=i;have k:=bB k;subst k;rw [zb] at j;simp only [Option.bind_eq_bind,C5] at j;obtain ⟨y,hy,s,l,_⟩:=j;obtain ⟨n,C,z⟩:=ih v t hy;obtain ⟨p,B,A⟩:=zX ih g h _ b s u q l;exact ⟨AP a b n p,by rw [uo,<-C,<-B];exact zM g _ _,xM a b n p z A⟩
theorem D1 {b:Nat} {l:List Lf} {e:TypeId} {fuel:Nat} (ih:∀{a:List Value} {x:DataW H×List MemPlace},DataW.trod enc P w base spare held fuel e a=some x->∃r:den l,a=vals l r/\ug l r)
  (a:List Value) (z:Nat) (o:a.length=b*z):∀(n i:Nat),i+n=b->(∀j,i<=j->j<b->∃y,DataW.trod enc P w base spare held fuel e ((a.drop (j*z)).take z)=some y)->∃r:den (repL n l),a.drop (i*z)=vals (repL n l) r/\ug (repL n l) r
 | 0,i,hi,_=>by
  have:i=b:=by omega
  subst this;exact ⟨(),by rw [jt (by omega)];rfl,trivial⟩
 | n+1,i,hi,h=>by
  obtain ⟨y,hy⟩:=h i (by omega) (by omega);obtain ⟨c,f,m⟩:=ih hy;obtain ⟨d,p,g⟩:=D1 ih a z o n (i+1) (by omega) (λj q k=>h j (by omega) k);refine ⟨AP l (repL n l) c d,?_,xM _ _ c d m g⟩;show _=vals (l++repL n l) _;rw [uo,<-f,<-p,BH];exact zM a _ _
theorem wG:∀(d fuel:Nat) {e:TypeId} {tr:List Lf} {p:List Value} {x:DataW H×List MemPlace},uI P d e=some tr->Bc P d e=true->
  DataW.trod enc P w base spare held fuel e p=some x->∃r:den tr,p=vals tr r/\ug tr r
 | 0,_,_,_,_,_,h,_,_=>by simp [uI] at h
 | _+1,0,_,_,_,_,_,_,h=>by simp [DataW.trod] at h
 | d+1,fuel+1,e,tr,p,x,a,g,c=>by
  unfold uI at a;unfold Bc at g;cases i:P.underlying e with
  | none=>rw [i] at a;cases a
  | some o=>
   rw [i] at a g;cases o with
   | int k=>
    simp only [av] at a;subst a;obtain ⟨m,rfl,_,E⟩:=IT i c;exact ⟨m,rfl,E⟩
   | bool=>
    simp only [av] at a;subst a;obtain ⟨b,rfl,_⟩:=DataW.trod_bool i c;exact ⟨b,rfl,trivial⟩
   | string=>
    simp only [av] at a;subst a;obtain ⟨s,rfl,_,hs⟩:=DataW.trod_string i c;exact ⟨s.data.toList,by simp [vals,Lf.val],hs⟩
   | array n y=>
    simp only at a g;split at a
    case h_2=>cases a
    rename_i l _ G;simp only [av] at a;subst a;simp only [az] at g;have D:=bB g.2;unfold DataW.trod at c;rw [i] at c;simp only at c;split at c
    case isFalse=>cases c
    rename_i f;simp only [F8] at c;obtain ⟨v,q,_⟩:=c
    have:=D1 (fuel:=fuel) (l:=l) (e:=y) (λh=>wG d fuel G g.1 h) p (P.cellsOf y) (by rw [f,D]) n 0 (by omega) (λj _ z=>by
     have A:=mapM_some_get q j j (by simp [z]);have u:=mapM_some_length q;have t:j<v.length:=by rw [u];simpa using z
     rw [aT t] at A;exact ⟨_,A⟩)
    simpa using this
   | struct F=>
    simp only at a g;unfold DataW.trod at c;rw [i] at c;simp only at c;split at c
    case isFalse=>cases c
    rename_i f;simp only [F8] at c;obtain ⟨v,q,_⟩:=c;have:=zX (d:=d) (fuel:=fuel) (λC B hc=>wG d fuel C B hc) p F.toList 0 tr v a (by rw [f];exact g) q;simpa using this
   | _=>cases a
end
section
variable {H:Type} {enc:TypeId×Value->H} {P:Program} {w:World} {held:Bool}
theorem zo {t e:TypeId} {tr:List Lf} {d fuel:Nat} {v:Value} {x:DataW H×List MemPlace} (V:P.underlying t=some (.slice e)) (Z:uI P d e=some tr) (ho:Bc P d e=true) (hc:P.cellsOf e=tr.length) (hp:0<tr.length)
  (h:DataW.trod enc P w 0 (λ_=>true) held fuel t [v]=some x):∃(l:List (den tr)) (ρ:Option Rf),(∀y∈l,ug tr y)/\l.length<=maxLen/\zH w v tr l ρ:=by
 rcases DataW.trod_slice V h with ⟨o,_⟩ | ⟨a,len,cap,K,rest,n,_,o,_,_,R,hm,Q,L,J,_⟩
 ·simp only [DC,uj] at o;subst o;exact ⟨[],none,by simp,by simp,rfl,none,rfl⟩
 ·simp only [DC,uj] at o;subst o;by_cases h0:cap=0
  ·have A:len=0:=by omega
   subst h0 A;exact ⟨[],none,by simp,by simp,rfl,some a,rfl⟩
  have f:∀i,i<cap->∃r:den tr,w.cells? 0 (a.add (i*tr.length)) tr.length=some (vals tr r)/\ug tr r:=by
   intro i hi;have:∃y,(w.cells? 0 (a.add (i*P.cellsOf e)) (P.cellsOf e)).bind (DataW.trod enc P w 0 (λ_=>true) held n e)=some y:=by
    by_cases M:i<len
    ·rw [L i M,aT (by omega)];exact ⟨_,rfl⟩
    ·obtain ⟨T,O⟩:=J rfl;have:=O (i - len) (by omega);rw [show len+(i - len)=i by omega] at this;rw [this,aT (by omega)];exact ⟨_,rfl⟩
   obtain ⟨y,hy⟩:=this;rw [C5] at hy;obtain ⟨p,c,q⟩:=hy;obtain ⟨r,rfl,X⟩:=wG d n Z ho q;rw [hc] at c;exact ⟨r,c,X⟩
  obtain ⟨b,off,E⟩:=a;have z:E=none:=by
   obtain ⟨r,c,_⟩:=f 0 (by omega);have q:=(FH c).2.2 0 hp;have D:(vals tr r)[0]?=some ((vals tr r)[0]'(by rw [g9];exact hp)):=aT _;rw [D] at q;simpa [Addr.add] using World.cell?_spot q
  subst z;have g:∀i,i<cap->∀r:den tr,w.cells? 0 ((⟨b,off,none⟩:Addr).add (i*tr.length)) tr.length=some (vals tr r)->∀j,j<tr.length->w.cell? ⟨b,off+(i*tr.length+j),none⟩=(vals tr r)[j]?:=by
   intro i hi r c j B;have:=(FH c).2.2 j B;rw [<-this];congr 1;unfold Addr.add;by_cases G:i*tr.length=0
   ·by_cases k:j=0
    ·simp [G,k]
    ·simp [G,k]
   ·by_cases k:j=0
    ·simp [G,k]
    ·simp [G,k,gO]
  have C:∃p F fr,w.heap[b]?=some (.cells p F fr):=by
   obtain ⟨r,c,_⟩:=f 0 (by omega);have:=g 0 (by omega) r c 0 hp;rw [aT (by rw [g9];exact hp)] at this;unfold World.cell? at this;simp only at this;split at this
   ·rename_i p F fr I;exact ⟨p,F,fr,I⟩
   ·cases this
  obtain ⟨p,F,fr,I⟩:=C;have s:∀i,i<cap->∀r:den tr,w.cells? 0 ((⟨b,off,none⟩:Addr).add (i*tr.length)) tr.length=some (vals tr r)->∀j,j<tr.length->p[off+(i*tr.length+j)]?=(vals tr r)[j]?:=λi hi r c j B=>by
   rw [<-bi I];exact g i hi r c j B
  have u:off+cap*tr.length<=p.size:=by
   obtain ⟨r,c,_⟩:=f (cap - 1) (by omega);have:=s (cap - 1) (by omega) r c (tr.length - 1) (by omega);rw [aT (by rw [g9];omega)] at this;have Y:off+((cap - 1)*tr.length+(tr.length - 1))<p.size:=by
    rcases aH (off+((cap - 1)*tr.length+(tr.length - 1))) p.size with N | N
    ·exact N
    ·rw [wx N] at this;cases this
   have e1:cap*tr.length=(cap - 1)*tr.length+tr.length:=by rw [<-BH];congr 1;omega
   omega
  have rows:∀m,m<=cap->∃l:List (den tr),l.length=m/\(∀y∈l,ug tr y)/\(p.toList.drop off).take (m*tr.length)=l.flatMap (vals tr):=by
   intro m
   induction m with
   | zero=>intro _;exact ⟨[],rfl,by simp,by simp⟩
   | succ m ih=>
    intro W;obtain ⟨l,c,q,D⟩:=ih (by omega);obtain ⟨r,S,U⟩:=f m (by omega);refine ⟨l++[r],by simp [c],λy hy=>?_,?_⟩
    ·simp only [lg,cN,o7,qi] at hy;rcases hy with hy | rfl
     ·exact q y hy
     ·exact U
    ·rw [Ik,<-D,BH,List.take_add,pV,List.flatMap_nil,kR];congr 1;apply zP;intro j;by_cases B:j<tr.length
     ·rw [qf B,lV,lV,qJ,<-s m (by omega) r S j B]
     ·rw [ga (by rw [cV];omega),ga (by rw [g9];omega)]
  obtain ⟨l,c,q,D⟩:=rows len R;exact ⟨l,some ⟨b,len,cap,off,true⟩,q,by omega,rfl,rfl,_,I,p,F,fr,rfl,c,R,u,by rw [c];exact D,.inl rfl⟩
end
end Go.Abs
