
import Derived.Test.YtibehcmomiplnaaGreatDoorAbsY
set_option linter.unusedSimpArgs false
set_option linter.unusedVariables false
set_option linter.defProp false
namespace Go.Abs
open Go.RowKit Go.ChangeShapes Go.WideShapes
def Lf.wf:(a:Lf)->a.den->Prop
 | .i k,n=>(Lit.int k n).wf=true
 | .bo,_=>True
 | .s,l=>l.length<=maxLen
def sW:(t:List Lf)->den t->Prop
 | [],_=>True
 | [a],x=>a.wf x
 | a::b::l,x=>a.wf x.1/\sW (b::l) x.2
def Aw:(t u:List Lf)->den t->den u->den (t++u)
 | [],_,_,y=>y
 | [a],[],x,_=>x
 | [a],b::u,x,y=>(x,y)
 | a::b::t,u,x,y=>(x.1,Aw (b::t) u x.2 y)
def ui:∀(t u:List Lf) (x:den t) (y:den u),vals (t++u) (Aw t u x y)=vals t x++vals u y
 | [],u,x,y=>rfl
 | [a],[],x,y=>rfl
 | [a],b::u,x,y=>rfl
 | a::b::t,u,x,y=>by
  show a.val x.1::vals (b::t++u) (Aw (b::t) u x.2 y)=_;rw[ui (b::t) u x.2 y];rfl
def xK:∀(t u:List Lf) (x:den t) (y:den u),sW t x->sW u y->sW (t++u) (Aw t u x y)
 | [],u,x,y,_,h=>h
 | [a],[],x,y,h,_=>h
 | [a],b::u,x,y,h,c=>⟨h,c⟩
 | a::b::t,u,x,y,h,c=>⟨h.1,xK (b::t) u x.2 y h.2 c⟩
def offF(ok:TypeId->Bool)(b:TypeId->Nat)(a:Nat):Nat->List Field->Bool
 | o,[]=>Nat.beq o a
 | o,f::l=>Nat.beq f.offset o&&(ok f.type&&offF ok b a (o+b f.type) l)
def CE(P:Program):Nat->TypeId->Bool
 | 0,_=>false
 | d+1,t=>match P.underlying t with
  | some (.int _)=>true
  | some .bool=>true
  | some .string=>true
  | some (.array n e)=>CE P d e&&Nat.beq (P.cellsOf t) (n*P.cellsOf e)
  | some (.struct a)=>offF (CE P d) P.cellsOf (P.cellsOf t) 0 a.toList
  | _=>false
section
variable {H:Type} {enc:TypeId×Value->H} {P:Program} {w:World} {base:Nat} {spare:Nat->Bool} {held:Bool}
def Ao{α:Type}(a:List α)(o n:Nat):a.drop o=(a.drop o).take n++a.drop (o+n):=by
 rw[<-kZ];exact(tH n _).symm
def AI {d fuel:Nat} (ih:∀{e:TypeId} {tr:List Lf} {g:List Value} {x:DataW H×List MemPlace},uL P d e=some tr->CE P d e=true->DataW.trod enc P w base spare held fuel e g=some x->∃r:den tr,g=vals tr r/\sW tr r)
  (g:List Value):∀(h:List Field) (o:Nat) (tr:List Lf) (l:List (DataW H×List MemPlace)),Lj (uL P d) h=some tr->offF (CE P d) P.cellsOf g.length o h=true->
   (h.mapM λf=>DataW.trod enc P w base spare held fuel f.type ((g.drop f.offset).take (P.cellsOf f.type)))=some l->∃r:den tr,g.drop o=vals tr r/\sW tr r
 | [],o,tr,l,c,i,j=>by
  simp only [Lj,ar] at c;subst c;have:=bB i;exact ⟨(),by rw [this];simp [vals],trivial⟩
 | f::h,o,tr,l,c,i,j=>by
  simp only [Lj] at c;split at c
  case h_2=>cases c
  rename_i a B;split at c
  case h_2=>cases c
  rename_i b A;simp only [ar] at c;subst c;simp only [offF,aA] at i;obtain ⟨k,q,s⟩:=i;have k:=bB k;subst k;rw [zk] at j;simp only [Option.bind_eq_bind,C6] at j;obtain ⟨y,hy,z,m,_⟩:=j;obtain ⟨p,t,u⟩:=ih B q hy;obtain ⟨n,v,C⟩:=AI ih g h _ b z A s m;exact ⟨Aw a b p n,by rw [ui,<-t,<-v];exact Ao g _ _,xK a b p n u C⟩
def E6{b:Nat}{l:List Lf}{e:TypeId}{fuel:Nat}(ih:∀{a:List Value} {x:DataW H×List MemPlace},DataW.trod enc P w base spare held fuel e a=some x->∃r:den l,a=vals l r/\sW l r)
  (a:List Value) (z:Nat) (k:a.length=b*z):∀(n i:Nat),i+n=b->(∀j,i<=j->j<b->∃y,DataW.trod enc P w base spare held fuel e ((a.drop (j*z)).take z)=some y)->∃r:den (repL n l),a.drop (i*z)=vals (repL n l) r/\sW (repL n l) r
 | 0,i,hi,_=>by
  have:i=b:=by omega
  subst this;exact⟨(),by rw[l9 (by omega)];rfl,trivial⟩
 | n+1,i,hi,h=>by
  obtain⟨y,hy⟩:=h i (by omega) (by omega);obtain⟨c,f,m⟩:=ih hy;obtain⟨d,o,g⟩:=E6 ih a z k n (i+1) (by omega) (λj q p=>h j (by omega) p);refine⟨Aw l (repL n l) c d,?_,xK _ _ c d m g⟩;show _=vals (l++repL n l) _;rw[ui,<-f,<-o,CO];exact Ao a _ _
def wF:∀(d fuel:Nat) {e:TypeId} {tr:List Lf} {p:List Value} {x:DataW H×List MemPlace},uL P d e=some tr->CE P d e=true->
  DataW.trod enc P w base spare held fuel e p=some x->∃r:den tr,p=vals tr r/\sW tr r
 | 0,_,_,_,_,_,h,_,_=>by simp[uL]at h
 | _+1,0,_,_,_,_,_,_,h=>by simp[DataW.trod]at h
 | d+1,fuel+1,e,tr,p,x,a,g,c=>by
  unfold uL at a;unfold CE at g;cases i:P.underlying e with
  | none=>rw[i]at a;cases a
  | some o=>
   rw[i]at a g;cases o with
   | int k=>
    simp only[ar]at a;subst a;obtain⟨m,rfl,_,B⟩:=IB i c;exact⟨m,rfl,B⟩
   | bool=>
    simp only[ar]at a;subst a;obtain⟨b,rfl,_⟩:=DataW.trod_bool i c;exact⟨b,rfl,trivial⟩
   | string=>
    simp only[ar]at a;subst a;obtain⟨s,rfl,_,hs⟩:=DataW.trod_string i c;exact⟨s.data.toList,by simp[vals,Lf.val],hs⟩
   | array n A=>
    simp only at a g;split at a
    case h_2=>cases a
    rename_i l _ G;simp only[ar]at a;subst a;simp only[aA]at g;have D:=bB g.2;unfold DataW.trod at c;rw[i]at c;simp only at c;split at c
    case isFalse=>cases c
    rename_i f;simp only[Gi]at c;obtain⟨v,q,_⟩:=c
    have:=E6 (fuel:=fuel) (l:=l) (e:=A) (λh=>wF d fuel G g.1 h) p (P.cellsOf A) (by rw[f,D]) n 0 (by omega) (λj _ z=>by
     have y:=mapM_some_get q j j (by simp[z]);have u:=mapM_some_length q;have t:j<v.length:=by rw[u];simpa using z
     rw[bq t]at y;exact⟨_,y⟩)
    simpa using this
   | struct C=>
    simp only at a g;unfold DataW.trod at c;rw[i]at c;simp only at c;split at c
    case isFalse=>cases c
    rename_i f;simp only[Gi]at c;obtain⟨v,q,_⟩:=c;have:=AI (d:=d) (fuel:=fuel) (λF E hc=>wF d fuel F E hc) p C.toList 0 tr v a (by rw[f];exact g) q;simpa using this
   | _=>cases a
end
section
variable {H:Type} {enc:TypeId×Value->H} {P:Program} {w:World} {held:Bool}
def zf{t e:TypeId}{tr:List Lf}{d fuel:Nat}{v:Value}{x:DataW H×List MemPlace}(ht:P.underlying t=some (.slice e))(hr:uL P d e=some tr)(ho:CE P d e=true)(hc:P.cellsOf e=tr.length)(hp:0<tr.length)
  (h:DataW.trod enc P w 0 (λ_=>true) held fuel t [v]=some x):∃(l:List (den tr)) (ρ:Option Rf),(∀y∈l,sW tr y)/\l.length<=maxLen/\wt w v tr l ρ:=by
 rcases DataW.trod_slice ht h with⟨hcs,_⟩ | ⟨a,len,cap,elems,rest,n,_,hcs,_,_,hl,hm,hlen,hel,hsp,_⟩
 ·simp only[EV,ud]at hcs;subst hcs;exact⟨[],none,by simp,by simp,rfl,none,rfl⟩
 ·simp only[EV,ud]at hcs;subst hcs;by_cases h0:cap=0
  ·have hlen0:len=0:=by omega
   subst h0 hlen0;exact⟨[],none,by simp,by simp,rfl,some a,rfl⟩
  have each:∀i,i<cap->∃r:den tr,w.cells? 0 (a.add (i*tr.length)) tr.length=some (vals tr r)/\sW tr r:=by
   intro i hi;have:∃y,(w.cells? 0 (a.add (i*P.cellsOf e)) (P.cellsOf e)).bind (DataW.trod enc P w 0 (λ_=>true) held n e)=some y:=by
    by_cases hi2:i<len
    ·rw[hel i hi2,bq (by omega)];exact⟨_,rfl⟩
    ·obtain⟨hrl,hr'⟩:=hsp rfl;have:=hr' (i - len) (by omega);rw[show len+(i - len)=i by omega]at this;rw[this,bq (by omega)];exact⟨_,rfl⟩
   obtain⟨y,hy⟩:=this;rw[C6]at hy;obtain⟨cs,h1,h2⟩:=hy;obtain⟨r,rfl,hw⟩:=wF d n hr ho h2;rw[hc]at h1;exact⟨r,h1,hw⟩
  obtain⟨b,off,spot⟩:=a;have hspot:spot=none:=by
   obtain⟨r,h1,_⟩:=each 0 (by omega);have h2:=(Ht h1).2.2 0 hp;have h3:(vals tr r)[0]?=some ((vals tr r)[0]'(by rw[ia];exact hp)):=bq _;rw[h3]at h2;simpa[Addr.add]using World.cell?_spot h2
  subst hspot;have cellAt:∀i,i<cap->∀r:den tr,w.cells? 0 ((⟨b,off,none⟩:Addr).add (i*tr.length)) tr.length=some (vals tr r)->∀j,j<tr.length->w.cell? ⟨b,off+(i*tr.length+j),none⟩=(vals tr r)[j]?:=by
   intro i hi r h1 j hj;have:=(Ht h1).2.2 j hj;rw[<-this];congr 1;unfold Addr.add;by_cases hz:i*tr.length=0
   ·by_cases hj0:j=0
    ·simp[hz,hj0]
    ·simp[hz,hj0]
   ·by_cases hj0:j=0
    ·simp[hz,hj0]
    ·simp[hz,hj0,gR]
  have hobj:∃cs e' fr,w.heap[b]?=some (.cells cs e' fr):=by
   obtain⟨r,h1,_⟩:=each 0 (by omega);have:=cellAt 0 (by omega) r h1 0 hp;rw[bq (by rw[ia];exact hp)]at this;unfold World.cell? at this;simp only at this;split at this
   ·rename_i cs e' fr hh;exact⟨cs,e',fr,hh⟩
   ·cases this
  obtain⟨cs,e',fr,hh⟩:=hobj;have hget:∀i,i<cap->∀r:den tr,w.cells? 0 ((⟨b,off,none⟩:Addr).add (i*tr.length)) tr.length=some (vals tr r)->∀j,j<tr.length->cs[off+(i*tr.length+j)]?=(vals tr r)[j]?:=λi hi r h1 j hj=>by
   rw[<-bh hh];exact cellAt i hi r h1 j hj
  have hsize:off+cap*tr.length<=cs.size:=by
   obtain⟨r,h1,_⟩:=each (cap - 1) (by omega);have:=hget (cap - 1) (by omega) r h1 (tr.length - 1) (by omega);rw[bq (by rw[ia];omega)]at this;have hlt:off+((cap - 1)*tr.length+(tr.length - 1))<cs.size:=by
    rcases aN (off+((cap - 1)*tr.length+(tr.length - 1))) cs.size with h' | h'
    ·exact h'
    ·rw[wo h']at this;cases this
   have e1:cap*tr.length=(cap - 1)*tr.length+tr.length:=by rw[<-CO];congr 1;omega
   omega
  have rows:∀m,m<=cap->∃l:List (den tr),l.length=m/\(∀y∈l,sW tr y)/\(cs.toList.drop off).take (m*tr.length)=l.flatMap (vals tr):=by
   intro m
   induction m with
   | zero=>intro _;exact⟨[],rfl,by simp,by simp⟩
   | succ m ih=>
    intro hm';obtain⟨l,h1,h2,h3⟩:=ih (by omega);obtain⟨r,h4,h5⟩:=each m (by omega);refine⟨l++[r],by simp[h1],λy hy=>?_,?_⟩
    ·simp only[ln,cN,pC,qw]at hy;rcases hy with hy | rfl
     ·exact h2 y hy
     ·exact h5
    ·rw[HI,<-h3,CO,List.take_add,oQ,List.flatMap_nil,ko];congr 1;apply AT;intro j;by_cases hj:j<tr.length
     ·rw[ma hj,lW,lW,qB,<-hget m (by omega) r h4 j hj]
     ·rw[gh (by rw[cS];omega),gh (by rw[ia];omega)]
  obtain⟨l,h1,h2,h3⟩:=rows len hl;exact⟨l,some ⟨b,len,cap,off,true⟩,h2,by omega,rfl,rfl,_,hh,cs,e',fr,rfl,h1,hl,hsize,by rw[h1];exact h3,.inl rfl⟩
end
end Go.Abs
