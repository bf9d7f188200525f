
/- Opening a law's arguments: rows of numbers, bools and strings; slices of such rows.
   Conditions: none; generic over the program. -/
import Derived.Test.YthemneooekobkaaGreatDoorAbsY
set_option linter.unusedSimpArgs false
set_option linter.unusedVariables false
namespace Go.Abs
open Go.RowKit Go.ChangeShapes Go.WideShapes
def Lf.wf:(a:Lf)->a.den->Prop
 | .i k,n=>(Lit.int k n).wf=true
 | .bo,_=>True
 | .s,l=>l.length<=maxLen
def tg:(t:List Lf)->den t->Prop
 | [],_=>True
 | [a],x=>a.wf x
 | a::b::l,x=>a.wf x.1/\tg (b::l) x.2
def zF:(t u:List Lf)->den t->den u->den (t++u)
 | [],_,_,y=>y
 | [a],[],x,_=>x
 | [a],b::u,x,y=>(x,y)
 | a::b::t,u,x,y=>(x.1,zF (b::t) u x.2 y)
theorem tt:∀(t u:List Lf) (x:den t) (y:den u),vals (t++u) (zF t u x y)=vals t x++vals u y
 | [],u,x,y=>rfl
 | [a],[],x,y=>rfl
 | [a],b::u,x,y=>rfl
 | a::b::t,u,x,y=>by
  show a.val x.1::vals (b::t++u) (zF (b::t) u x.2 y)=_;rw [tt (b::t) u x.2 y];rfl
theorem wI:∀(t u:List Lf) (x:den t) (y:den u),tg t x->tg u y->tg (t++u) (zF t u x y)
 | [],u,x,y,_,h=>h
 | [a],[],x,y,h,_=>h
 | [a],b::u,x,y,h,c=>⟨h,c⟩
 | a::b::t,u,x,y,h,c=>⟨h.1,wI (b::t) u x.2 y h.2 c⟩
def offF (ok:TypeId->Bool) (b:TypeId->Nat) (a:Nat):Nat->List Field->Bool
 | o,[]=>Nat.beq o a
 | o,f::l=>Nat.beq f.offset o&&(ok f.type&&offF ok b a (o+b f.type) l)
def BD (P:Program):Nat->TypeId->Bool
 | 0,_=>false
 | d+1,t=>match P.underlying t with
  | some (.int _)=>true
  | some .bool=>true
  | some .string=>true
  | some (.array n e)=>BD P d e&&Nat.beq (P.cellsOf t) (n*P.cellsOf e)
  | some (.struct a)=>offF (BD P d) P.cellsOf (P.cellsOf t) 0 a.toList
  | _=>false
section
variable {H:Type} {enc:TypeId×Value->H} {P:Program} {w:World} {base:Nat} {spare:Nat->Bool} {held:Bool}
theorem Af {α:Type} (a:List α) (o n:Nat):a.drop o=(a.drop o).take n++a.drop (o+n):=by
 rw [<-jm];exact (tA n _).symm
theorem Ag {d fuel:Nat} (ih:∀{e:TypeId} {tr:List Lf} {g:List Value} {x:DataW H×List MemPlace},tX P d e=some tr->BD P d e=true->DataW.trod enc P w base spare held fuel e g=some x->∃r:den tr,g=vals tr r/\tg tr r)
  (g:List Value):∀(h:List Field) (o:Nat) (tr:List Lf) (m:List (DataW H×List MemPlace)),Md (tX P d) h=some tr->offF (BD P d) P.cellsOf g.length o h=true->
   (h.mapM λf=>DataW.trod enc P w base spare held fuel f.type ((g.drop f.offset).take (P.cellsOf f.type)))=some m->∃r:den tr,g.drop o=vals tr r/\tg tr r
 | [],o,tr,m,c,j,i=>by
  simp only [Md,aw] at c;subst c;have:=bB j;exact ⟨(),by rw [this];simp [vals],trivial⟩
 | f::h,o,tr,m,c,j,i=>by
  simp only [Md] at c;split at c
  case h_2=>cases c
  rename_i a z;split at c
  case h_2=>cases c
  rename_i b q;simp only [aw] at c;subst c;simp only [offF,aD] at j;obtain ⟨k,B,u⟩:=j;have k:=bB k;subst k;rw [yx] at i;simp only [Option.bind_eq_bind,AQ] at i;obtain ⟨y,hy,s,l,_⟩:=i;obtain ⟨n,v,t⟩:=ih z B hy;obtain ⟨p,A,C⟩:=Ag ih g h _ b s q u l;exact ⟨zF a b n p,by rw [tt,<-v,<-A];exact Af g _ _,wI a b n p t C⟩
theorem C4 {b:Nat} {l:List Lf} {e:TypeId} {fuel:Nat} (ih:∀{a:List Value} {x:DataW H×List MemPlace},DataW.trod enc P w base spare held fuel e a=some x->∃r:den l,a=vals l r/\tg l r)
  (a:List Value) (z:Nat) (o:a.length=b*z):∀(n i:Nat),i+n=b->(∀j,i<=j->j<b->∃y,DataW.trod enc P w base spare held fuel e ((a.drop (j*z)).take z)=some y)->∃r:den (repL n l),a.drop (i*z)=vals (repL n l) r/\tg (repL n l) r
 | 0,i,hi,_=>by
  have:i=b:=by omega
  subst this;exact ⟨(),by rw [jk (by omega)];rfl,trivial⟩
 | n+1,i,hi,h=>by
  obtain ⟨y,hy⟩:=h i (by omega) (by omega);obtain ⟨c,p,f⟩:=ih hy;obtain ⟨d,k,m⟩:=C4 ih a z o n (i+1) (by omega) (λj q g=>h j (by omega) g);refine ⟨zF l (repL n l) c d,?_,wI _ _ c d f m⟩;show _=vals (l++repL n l) _;rw [tt,<-p,<-k,AH];exact Af a _ _
theorem wA:∀(d fuel:Nat) {e:TypeId} {tr:List Lf} {o:List Value} {x:DataW H×List MemPlace},tX P d e=some tr->BD P d e=true->
  DataW.trod enc P w base spare held fuel e o=some x->∃r:den tr,o=vals tr r/\tg tr r
 | 0,_,_,_,_,_,h,_,_=>by simp [tX] at h
 | _+1,0,_,_,_,_,_,_,h=>by simp [DataW.trod] at h
 | d+1,fuel+1,e,tr,o,x,a,g,c=>by
  unfold tX at a;unfold BD at g;cases i:P.underlying e with
  | none=>rw [i] at a;cases a
  | some p=>
   rw [i] at a g;cases p with
   | int k=>
    simp only [aw] at a;subst a;obtain ⟨m,rfl,_,E⟩:=Hi i c;exact ⟨m,rfl,E⟩
   | bool=>
    simp only [aw] at a;subst a;obtain ⟨b,rfl,_⟩:=DataW.trod_bool i c;exact ⟨b,rfl,trivial⟩
   | string=>
    simp only [aw] at a;subst a;obtain ⟨s,rfl,_,hs⟩:=DataW.trod_string i c;exact ⟨s.data.toList,by simp [vals,Lf.val],hs⟩
   | array n y=>
    simp only at a g;split at a
    case h_2=>cases a
    rename_i l _ G;simp only [aw] at a;subst a;simp only [aD] at g;have C:=bB g.2;unfold DataW.trod at c;rw [i] at c;simp only at c;split at c
    case isFalse=>cases c
    rename_i f;simp only [FW] at c;obtain ⟨v,q,_⟩:=c
    have:=C4 (fuel:=fuel) (l:=l) (e:=y) (λh=>wA d fuel G g.1 h) o (P.cellsOf y) (by rw [f,C]) n 0 (by omega) (λj _ z=>by
     have A:=mapM_some_get q j j (by simp [z]);have u:=mapM_some_length q;have t:j<v.length:=by rw [u];simpa using z
     rw [aW t] at A;exact ⟨_,A⟩)
    simpa using this
   | struct D=>
    simp only at a g;unfold DataW.trod at c;rw [i] at c;simp only at c;split at c
    case isFalse=>cases c
    rename_i f;simp only [FW] at c;obtain ⟨v,q,_⟩:=c;have:=Ag (d:=d) (fuel:=fuel) (λF B hc=>wA d fuel F B hc) o D.toList 0 tr v a (by rw [f];exact g) q;simpa using this
   | _=>cases a
end
section
variable {H:Type} {enc:TypeId×Value->H} {P:Program} {w:World} {held:Bool}
theorem yR {t e:TypeId} {tr:List Lf} {d fuel:Nat} {v:Value} {x:DataW H×List MemPlace} (T:P.underlying t=some (.slice e)) (X:tX P d e=some tr) (ho:BD P d e=true) (hc:P.cellsOf e=tr.length) (hp:0<tr.length)
  (h:DataW.trod enc P w 0 (λ_=>true) held fuel t [v]=some x):∃(l:List (den tr)) (ρ:Option Rf),(∀y∈l,tg tr y)/\l.length<=maxLen/\zj w v tr l ρ:=by
 rcases DataW.trod_slice T h with ⟨p,_⟩ | ⟨a,len,cap,N,rest,n,_,p,_,_,R,hm,Q,J,O,_⟩
 ·simp only [D1,tH] at p;subst p;exact ⟨[],none,by simp,by simp,rfl,none,rfl⟩
 ·simp only [D1,tH] at p;subst p;by_cases Z:cap=0
  ·have u:len=0:=by omega
   subst Z u;exact ⟨[],none,by simp,by simp,rfl,some a,rfl⟩
  have g:∀i,i<cap->∃r:den tr,w.cells? 0 (a.add (i*tr.length)) tr.length=some (vals tr r)/\tg tr r:=by
   intro i hi;have:∃y,(w.cells? 0 (a.add (i*P.cellsOf e)) (P.cellsOf e)).bind (DataW.trod enc P w 0 (λ_=>true) held n e)=some y:=by
    by_cases M:i<len
    ·rw [J i M,aW (by omega)];exact ⟨_,rfl⟩
    ·obtain ⟨U,K⟩:=O rfl;have:=K (i - len) (by omega);rw [show len+(i - len)=i by omega] at this;rw [this,aW (by omega)];exact ⟨_,rfl⟩
   obtain ⟨y,hy⟩:=this;rw [AQ] at hy;obtain ⟨k,c,q⟩:=hy;obtain ⟨r,rfl,V⟩:=wA d n X ho q;rw [hc] at c;exact ⟨r,c,V⟩
  obtain ⟨b,off,C⟩:=a;have z:C=none:=by
   obtain ⟨r,c,_⟩:=g 0 (by omega);have q:=(Gj c).2.2 0 hp;have D:(vals tr r)[0]?=some ((vals tr r)[0]'(by rw [gO];exact hp)):=aW _;rw [D] at q;simpa [Addr.add] using World.cell?_spot q
  subst z;have f:∀i,i<cap->∀r:den tr,w.cells? 0 ((⟨b,off,none⟩:Addr).add (i*tr.length)) tr.length=some (vals tr r)->∀j,j<tr.length->w.cell? ⟨b,off+(i*tr.length+j),none⟩=(vals tr r)[j]?:=by
   intro i hi r c j B;have:=(Gj c).2.2 j B;rw [<-this];congr 1;unfold Addr.add;by_cases G:i*tr.length=0
   ·by_cases o:j=0
    ·simp [G,o]
    ·simp [G,o]
   ·by_cases o:j=0
    ·simp [G,o]
    ·simp [G,o,gq]
  have F:∃k E fr,w.heap[b]?=some (.cells k E fr):=by
   obtain ⟨r,c,_⟩:=g 0 (by omega);have:=f 0 (by omega) r c 0 hp;rw [aW (by rw [gO];exact hp)] at this;unfold World.cell? at this;simp only at this;split at this
   ·rename_i k E fr I;exact ⟨k,E,fr,I⟩
   ·cases this
  obtain ⟨k,E,fr,I⟩:=F;have s:∀i,i<cap->∀r:den tr,w.cells? 0 ((⟨b,off,none⟩:Addr).add (i*tr.length)) tr.length=some (vals tr r)->∀j,j<tr.length->k[off+(i*tr.length+j)]?=(vals tr r)[j]?:=λi hi r c j B=>by
   rw [<-bA I];exact f i hi r c j B
  have A:off+cap*tr.length<=k.size:=by
   obtain ⟨r,c,_⟩:=g (cap - 1) (by omega);have:=s (cap - 1) (by omega) r c (tr.length - 1) (by omega);rw [aW (by rw [gO];omega)] at this;have W:off+((cap - 1)*tr.length+(tr.length - 1))<k.size:=by
    rcases aI (off+((cap - 1)*tr.length+(tr.length - 1))) k.size with L | L
    ·exact L
    ·rw [vU L] at this;cases this
   have e1:cap*tr.length=(cap - 1)*tr.length+tr.length:=by rw [<-AH];congr 1;omega
   omega
  have rows:∀m,m<=cap->∃l:List (den tr),l.length=m/\(∀y∈l,tg tr y)/\(k.toList.drop off).take (m*tr.length)=l.flatMap (vals tr):=by
   intro m
   induction m with
   | zero=>intro _;exact ⟨[],rfl,by simp,by simp⟩
   | succ m ih=>
    intro hm';obtain ⟨l,c,q,D⟩:=ih (by omega);obtain ⟨r,S,Y⟩:=g m (by omega);refine ⟨l++[r],by simp [c],λy hy=>?_,?_⟩
    ·simp only [lk,cq,oL,qe] at hy;rcases hy with hy | rfl
     ·exact q y hy
     ·exact Y
    ·rw [Hf,<-D,AH,List.take_add,om,List.flatMap_nil,kC];congr 1;apply zZ;intro j;by_cases B:j<tr.length
     ·rw [qF B,mw,mw,qM,<-s m (by omega) r S j B]
     ·rw [fV (by rw [cP];omega),fV (by rw [gO];omega)]
  obtain ⟨l,c,q,D⟩:=rows len R;exact ⟨l,some ⟨b,len,cap,off,true⟩,q,by omega,rfl,rfl,_,I,k,E,fr,rfl,c,R,A,by rw [c];exact D,.inl rfl⟩
end
end Go.Abs
