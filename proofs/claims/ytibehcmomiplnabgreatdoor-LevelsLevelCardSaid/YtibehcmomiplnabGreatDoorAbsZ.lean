
import Derived.Test.YtibehcmomiplnabGreatDoorAbsY
set_option linter.unusedSimpArgs false
set_option linter.unusedVariables false
set_option linter.defProp false
namespace Go.Abs
open Go.RowKit Go.ChangeShapes Go.WideShapes
def Lf.wf:(a:Lf)->a.den->Prop
 | .i k,n=>(Lit.int k n).wf=true
 | .bo,_=>True
 | .s,l=>l.length<=maxLen
def vP:(t:List Lf)->den t->Prop
 | [],_=>True
 | [a],x=>a.wf x
 | a::b::l,x=>a.wf x.1/\vP (b::l) x.2
def CL:(t u:List Lf)->den t->den u->den (t++u)
 | [],_,_,y=>y
 | [a],[],x,_=>x
 | [a],b::u,x,y=>(x,y)
 | a::b::t,u,x,y=>(x.1,CL (b::t) u x.2 y)
def vV:∀(t u:List Lf) (x:den t) (y:den u),vals (t++u) (CL t u x y)=vals t x++vals u y
 | [],u,x,y=>rfl
 | [a],[],x,y=>rfl
 | [a],b::u,x,y=>rfl
 | a::b::t,u,x,y=>by
  show a.val x.1::vals (b::t++u) (CL (b::t) u x.2 y)=_;rw[vV (b::t) u x.2 y];rfl
def Az:∀(t u:List Lf) (x:den t) (y:den u),vP t x->vP u y->vP (t++u) (CL t u x y)
 | [],u,x,y,_,h=>h
 | [a],[],x,y,h,_=>h
 | [a],b::u,x,y,h,c=>⟨h,c⟩
 | a::b::t,u,x,y,h,c=>⟨h.1,Az (b::t) u x.2 y h.2 c⟩
def offF(ok:TypeId->Bool)(b:TypeId->Nat)(a:Nat):Nat->List Field->Bool
 | o,[]=>Nat.beq o a
 | o,f::l=>Nat.beq f.offset o&&(ok f.type&&offF ok b a (o+b f.type) l)
def Eu(P:Program):Nat->TypeId->Bool
 | 0,_=>false
 | d+1,t=>match P.underlying t with
  | some (.int _)=>true
  | some .bool=>true
  | some .string=>true
  | some (.array n e)=>Eu P d e&&Nat.beq (P.cellsOf t) (n*P.cellsOf e)
  | some (.struct a)=>offF (Eu P d) P.cellsOf (P.cellsOf t) 0 a.toList
  | _=>false
section
variable {H:Type} {enc:TypeId×Value->H} {P:Program} {w:World} {base:Nat} {spare:Nat->Bool} {held:Bool}
def Cb{α:Type}(a:List α)(o n:Nat):a.drop o=(a.drop o).take n++a.drop (o+n):=by
 rw[<-km];exact(vJ n _).symm
def C9 {d fuel:Nat} (ih:∀{e:TypeId} {tr:List Lf} {g:List Value} {x:DataW H×List MemPlace},wZ P d e=some tr->Eu P d e=true->DataW.trod enc P w base spare held fuel e g=some x->∃r:den tr,g=vals tr r/\vP tr r)
  (g:List Value):∀(h:List Field) (o:Nat) (tr:List Lf) (l:List (DataW H×List MemPlace)),QB (wZ P d) h=some tr->offF (Eu P d) P.cellsOf g.length o h=true->
   (h.mapM λf=>DataW.trod enc P w base spare held fuel f.type ((g.drop f.offset).take (P.cellsOf f.type)))=some l->∃r:den tr,g.drop o=vals tr r/\vP tr r
 | [],o,tr,l,c,j,i=>by
  simp only [QB,aw] at c;subst c;have:=bO j;exact ⟨(),by rw [this];simp [vals],trivial⟩
 | f::h,o,tr,l,c,j,i=>by
  simp only [QB] at c;split at c
  case h_2=>cases c
  rename_i a s;split at c
  case h_2=>cases c
  rename_i b q;simp only [aw] at c;subst c;simp only [offF,aD] at j;obtain ⟨k,A,t⟩:=j;have k:=bO k;subst k;rw [AN] at i;simp only [Option.bind_eq_bind,Fa] at i;obtain ⟨y,hy,u,m,_⟩:=i;obtain ⟨p,C,z⟩:=ih s A hy;obtain ⟨n,v,B⟩:=C9 ih g h _ b u q t m;exact ⟨CL a b p n,by rw [vV,<-C,<-v];exact Cb g _ _,Az a b p n z B⟩
def FA{b:Nat}{l:List Lf}{e:TypeId}{fuel:Nat}(ih:∀{a:List Value} {x:DataW H×List MemPlace},DataW.trod enc P w base spare held fuel e a=some x->∃r:den l,a=vals l r/\vP l r)
  (a:List Value) (z:Nat) (g:a.length=b*z):∀(n i:Nat),i+n=b->(∀j,i<=j->j<b->∃y,DataW.trod enc P w base spare held fuel e ((a.drop (j*z)).take z)=some y)->∃r:den (repL n l),a.drop (i*z)=vals (repL n l) r/\vP (repL n l) r
 | 0,i,hi,_=>by
  have:i=b:=by omega
  subst this;exact⟨(),by rw[kW (by omega)];rfl,trivial⟩
 | n+1,i,hi,h=>by
  obtain⟨y,hy⟩:=h i (by omega) (by omega);obtain⟨d,f,k⟩:=ih hy;obtain⟨c,m,o⟩:=FA ih a z g n (i+1) (by omega) (λj q p=>h j (by omega) p);refine⟨CL l (repL n l) d c,?_,Az _ _ d c k o⟩;show _=vals (l++repL n l) _;rw[vV,<-f,<-m,Dw];exact Cb a _ _
def yZ:∀(d fuel:Nat) {e:TypeId} {tr:List Lf} {o:List Value} {x:DataW H×List MemPlace},wZ P d e=some tr->Eu P d e=true->
  DataW.trod enc P w base spare held fuel e o=some x->∃r:den tr,o=vals tr r/\vP tr r
 | 0,_,_,_,_,_,h,_,_=>by simp[wZ]at h
 | _+1,0,_,_,_,_,_,_,h=>by simp[DataW.trod]at h
 | d+1,fuel+1,e,tr,o,x,a,g,c=>by
  unfold wZ at a;unfold Eu at g;cases i:P.underlying e with
  | none=>rw[i]at a;cases a
  | some p=>
   rw[i]at a g;cases p with
   | int k=>
    simp only[aw]at a;subst a;obtain⟨m,rfl,_,F⟩:=KP i c;exact⟨m,rfl,F⟩
   | bool=>
    simp only[aw]at a;subst a;obtain⟨b,rfl,_⟩:=DataW.trod_bool i c;exact⟨b,rfl,trivial⟩
   | string=>
    simp only[aw]at a;subst a;obtain⟨s,rfl,_,hs⟩:=DataW.trod_string i c;exact⟨s.data.toList,by simp[vals,Lf.val],hs⟩
   | array n y=>
    simp only at a g;split at a
    case h_2=>cases a
    rename_i l _ B;simp only[aw]at a;subst a;simp only[aD]at g;have G:=bO g.2;unfold DataW.trod at c;rw[i]at c;simp only at c;split at c
    case isFalse=>cases c
    rename_i f;simp only[IC]at c;obtain⟨t,q,_⟩:=c
    have:=FA (fuel:=fuel) (l:=l) (e:=y) (λh=>yZ d fuel B g.1 h) o (P.cellsOf y) (by rw[f,G]) n 0 (by omega) (λj _ A=>by
     have z:=mapM_some_get q j j (by simp[A]);have u:=mapM_some_length q;have v:j<t.length:=by rw[u];simpa using A
     rw[ba v]at z;exact⟨_,z⟩)
    simpa using this
   | struct E=>
    simp only at a g;unfold DataW.trod at c;rw[i]at c;simp only at c;split at c
    case isFalse=>cases c
    rename_i f;simp only[IC]at c;obtain⟨t,q,_⟩:=c;have:=C9 (d:=d) (fuel:=fuel) (λD C hc=>yZ d fuel D C hc) o E.toList 0 tr t a (by rw[f];exact g) q;simpa using this
   | _=>cases a
end
section
variable {H:Type} {enc:TypeId×Value->H} {P:Program} {w:World} {held:Bool}
def zK{t e:TypeId}{tr:List Lf}{d fuel:Nat}{v:Value}{x:DataW H×List MemPlace}(ht:P.underlying t=some (.slice e))(hr:wZ P d e=some tr)(ho:Eu P d e=true)(hc:P.cellsOf e=tr.length)(hp:0<tr.length)
  (h:DataW.trod enc P w 0 (λ_=>true) held fuel t [v]=some x):∃(l:List (den tr)) (ρ:Option Rf),(∀y∈l,vP tr y)/\l.length<=maxLen/\BD w v tr l ρ:=by
 rcases DataW.trod_slice ht h with⟨hcs,_⟩ | ⟨a,len,cap,elems,rest,n,_,hcs,_,_,hl,hm,hlen,hel,hsp,_⟩
 ·simp only[J6,vv]at hcs;subst hcs;exact⟨[],none,by simp,by simp,rfl,none,rfl⟩
 ·simp only[J6,vv]at hcs;subst hcs;by_cases h0:cap=0
  ·have hlen0:len=0:=by omega
   subst h0 hlen0;exact⟨[],none,by simp,by simp,rfl,some a,rfl⟩
  have each:∀i,i<cap->∃r:den tr,w.cells? 0 (a.add (i*tr.length)) tr.length=some (vals tr r)/\vP tr r:=by
   intro i hi;have:∃y,(w.cells? 0 (a.add (i*P.cellsOf e)) (P.cellsOf e)).bind (DataW.trod enc P w 0 (λ_=>true) held n e)=some y:=by
    by_cases hi2:i<len
    ·rw[hel i hi2,ba (by omega)];exact⟨_,rfl⟩
    ·obtain⟨hrl,hr'⟩:=hsp rfl;have:=hr' (i - len) (by omega);rw[show len+(i - len)=i by omega]at this;rw[this,ba (by omega)];exact⟨_,rfl⟩
   obtain⟨y,hy⟩:=this;rw[Fa]at hy;obtain⟨cs,h1,h2⟩:=hy;obtain⟨r,rfl,hw⟩:=yZ d n hr ho h2;rw[hc]at h1;exact⟨r,h1,hw⟩
  obtain⟨b,off,spot⟩:=a;have hspot:spot=none:=by
   obtain⟨r,h1,_⟩:=each 0 (by omega);have h2:=(IM h1).2.2 0 hp;have h3:(vals tr r)[0]?=some ((vals tr r)[0]'(by rw[iK];exact hp)):=ba _;rw[h3]at h2;simpa[Addr.add]using World.cell?_spot h2
  subst hspot;have cellAt:∀i,i<cap->∀r:den tr,w.cells? 0 ((⟨b,off,none⟩:Addr).add (i*tr.length)) tr.length=some (vals tr r)->∀j,j<tr.length->w.cell? ⟨b,off+(i*tr.length+j),none⟩=(vals tr r)[j]?:=by
   intro i hi r h1 j hj;have:=(IM h1).2.2 j hj;rw[<-this];congr 1;unfold Addr.add;by_cases hz:i*tr.length=0
   ·by_cases hj0:j=0
    ·simp[hz,hj0]
    ·simp[hz,hj0]
   ·by_cases hj0:j=0
    ·simp[hz,hj0]
    ·simp[hz,hj0,iy]
  have hobj:∃cs e' fr,w.heap[b]?=some (.cells cs e' fr):=by
   obtain⟨r,h1,_⟩:=each 0 (by omega);have:=cellAt 0 (by omega) r h1 0 hp;rw[ba (by rw[iK];exact hp)]at this;unfold World.cell? at this;simp only at this;split at this
   ·rename_i cs e' fr hh;exact⟨cs,e',fr,hh⟩
   ·cases this
  obtain⟨cs,e',fr,hh⟩:=hobj;have hget:∀i,i<cap->∀r:den tr,w.cells? 0 ((⟨b,off,none⟩:Addr).add (i*tr.length)) tr.length=some (vals tr r)->∀j,j<tr.length->cs[off+(i*tr.length+j)]?=(vals tr r)[j]?:=λi hi r h1 j hj=>by
   rw[<-bB hh];exact cellAt i hi r h1 j hj
  have hsize:off+cap*tr.length<=cs.size:=by
   obtain⟨r,h1,_⟩:=each (cap - 1) (by omega);have:=hget (cap - 1) (by omega) r h1 (tr.length - 1) (by omega);rw[ba (by rw[iK];omega)]at this;have hlt:off+((cap - 1)*tr.length+(tr.length - 1))<cs.size:=by
    rcases aN (off+((cap - 1)*tr.length+(tr.length - 1))) cs.size with h' | h'
    ·exact h'
    ·rw[ym h']at this;cases this
   have e1:cap*tr.length=(cap - 1)*tr.length+tr.length:=by rw[<-Dw];congr 1;omega
   omega
  have rows:∀m,m<=cap->∃l:List (den tr),l.length=m/\(∀y∈l,vP tr y)/\(cs.toList.drop off).take (m*tr.length)=l.flatMap (vals tr):=by
   intro m
   induction m with
   | zero=>intro _;exact⟨[],rfl,by simp,by simp⟩
   | succ m ih=>
    intro hm';obtain⟨l,h1,h2,h3⟩:=ih (by omega);obtain⟨r,h4,h5⟩:=each m (by omega);refine⟨l++[r],by simp[h1],λy hy=>?_,?_⟩
    ·simp only[md,ck,nB,ov]at hy;rcases hy with hy | rfl
     ·exact h2 y hy
     ·exact h5
    ·rw[Kz,<-h3,Dw,List.take_add,pV,List.flatMap_nil,mi];congr 1;apply CS;intro j;by_cases hj:j<tr.length
     ·rw[m7 hj,mQ,mQ,sa,<-hget m (by omega) r h4 j hj]
     ·rw[gS (by rw[dN];omega),gS (by rw[iK];omega)]
  obtain⟨l,h1,h2,h3⟩:=rows len hl;exact⟨l,some ⟨b,len,cap,off,true⟩,h2,by omega,rfl,rfl,_,hh,cs,e',fr,rfl,h1,hl,hsize,by rw[h1];exact h3,.inl rfl⟩
end
end Go.Abs
