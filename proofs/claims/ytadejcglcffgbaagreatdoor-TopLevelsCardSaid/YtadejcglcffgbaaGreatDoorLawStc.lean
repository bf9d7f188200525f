
import Derived.Test.YtadejcglcffgbaaGreatDoorLawStb
set_option linter.unusedVariables false
set_option linter.unusedSimpArgs false
set_option maxRecDepth 100000
open Go.IntKind(wrap)
set_option linter.defProp false
namespace Go.Sh
open Go.Abs
abbrev TR:=ah
def natI(x:Int)(b:Nat):Prop:=0<=x/\x<(b:Int)
def wfD(a0 a2 c a f b g d e:Int):Prop:=natI a0 256/\natI a2 65536/\natI c 256/\natI a 256/\natI f 256/\natI b 256/\natI g 256/\natI d 256/\natI e 256
def natI.nat{x:Int}{b:Nat}(h:natI x b):∃n:Nat,x=(n:Int)/\n<b:=⟨x.toNat,by have:=h.1;omega,by have:=h.1;have:=h.2;omega⟩
def DofI{a0 a2 i f c a b j k:Int}(g:Bool)(h:wfD a0 a2 i f c a b j k):∃x:TD,aH 20000000 a0 g a2 i f c a b j k=some x/\smT x/\cF x=0:=by
 obtain⟨r,A,K,J,u,o,w,y,v⟩:=h;obtain⟨a0,rfl,b0⟩:=r.nat;obtain⟨a2,rfl,b2⟩:=A.nat;obtain⟨i,rfl,F⟩:=K.nat;obtain⟨f,rfl,I⟩:=J.nat;obtain⟨c,rfl,t⟩:=u.nat;obtain⟨a,rfl,z⟩:=o.nat;obtain⟨b,rfl,C⟩:=w.nat;obtain⟨j,rfl,G⟩:=y.nat;obtain⟨k,rfl,B⟩:=v.nat;obtain⟨L,l,dg,x,q,s,d,k0,k1,k2,e,hc,H,p⟩:=X1 19999700 a0 a2 i f c a b j k g b2 F I t z C G B;obtain⟨E,n,m,_⟩:=o9 hc;obtain⟨_,_,_,_,_,D⟩:=iJ E;refine⟨_,e,⟨?_,by show dg.length<=100;omega,?_,by simp,by simp,by simp⟩,I3 hc p⟩
 ·rcases n with h | h
  ·rw[h];simp
  ·show s.length<=18;omega
 ·rcases m with h | h
  ·rw[h];simp
  ·show d.length<=18;omega
def QE:((List.range 13).all λj=>sea (monT j)==0)=true:=by decide +kernel
def Y2(a0 a2 i f a h n k m:Nat)(g:Bool)(o:a2<65536)(u:i<256)(t:f<256)(v:a<256)(p:h<256)(y:a%40<=12):
  ∃r:TD,aH 20000000 (a0:Int) g (a2:Int) (i:Int) (f:Int) (a:Int) (h:Int) (n:Int) (k:Int) (m:Int)=some r/\seT r=0:=by
 obtain⟨w,l,dg,x,q,s,d,e,_,_,_,_,c,b,_⟩:=LS 19999700 a0 a2 i f a h n k m g o u t v p;refine⟨_,e,?_⟩;show sea s=0;by_cases j:q=0
 ·rw[b j];have:=(bS.1 QE) (a%40) (ju.2 (by omega));simpa using this
 ·rw[(c j).1];decide
def ExI{a0 a2 k j f b i m n:Int}(g:Bool)(h:wfD a0 a2 k j f b i m n):
  ∃x:TD,bE 20000000 a0 g a2 k j f b i m n=some x/\smT x/\cF x=0/\exT x=true/\(Int.tmod f 40<=12->seT x=0):=by
 obtain⟨D,N,v,u,F,q,I,K,G⟩:=h;obtain⟨a0,rfl,b0⟩:=D.nat;obtain⟨a2,rfl,b2⟩:=N.nat;obtain⟨k,rfl,A⟩:=v.nat;obtain⟨j,rfl,B⟩:=u.nat;obtain⟨f,rfl,w⟩:=F.nat;obtain⟨b,rfl,M⟩:=q.nat;obtain⟨i,rfl,V⟩:=I.nat;obtain⟨m,rfl,W⟩:=K.nat;obtain⟨n,rfl,U⟩:=G.nat;obtain⟨P,l,dg,x,E,d,k0,k1,k2,e,hc,T,t,p,s⟩:=IC 19999700 a0 a2 k j f b i m n g b0 b2 A B w M;refine⟨_,e,⟨t,s,p,by simp,by simp,by simp⟩,hc,T,λH=>?_⟩;have z:Int.tmod (f:Int) 40=((f%40:Nat):Int):=rfl;rw[z]at H;have Q:Int.tmod (b:Int) 40=((b%40:Nat):Int):=rfl;have R:Int.tdiv ((b%40:Nat):Int) 2=((b%40 / 2:Nat):Int):=rfl;have L:wrap .u8 ((b%40 / 2:Nat):Int)=((b%40 / 2:Nat):Int):=gK _ (by omega) (by omega);have S:=λ(J c6:Nat) (q:c6<256)=>Y2 J a2 k j f c6 i m n g b2 A B w q (by omega);have e':bE 20000000 (a0:Int) g (a2:Int) (k:Int) (j:Int) (f:Int) (b:Int) (i:Int) (m:Int) (n:Int)=some (P,l,dg,x,0,E,d,((k0:Nat):Int),((k1:Nat):Int),((k2:Nat):Int)):=e;have key:∀(o:Option TD) (y:TD),(∃r:TD,o=some r/\seT r=0)->(ob o λa=>(cond (decide ((d4 a).1>0)) (some (a.1,a.2.1,a.2.2.1,a.2.2.2.1,(0:Int),(d4 a).2.1,(d4 a).2.2.1,(d4 a).2.2.2.1,(d8 a).1,(d8 a).2)) (some (a.1,a.2.1,a.2.2.1,a.2.2.2.1,(d4 a).1,(d4 a).2.1,(d4 a).2.2.1,(d4 a).2.2.2.1,(d8 a).1,(d8 a).2))))=some y->seT y=0:=by
  rintro o y ⟨r,rfl,O⟩ hy;simp only[ob]at hy;cases C:decide ((d4 r).1>0)<;>rw[C]at hy<;>simp only[aj,af,aq]at hy<;>subst hy<;>exact O
 unfold bE at e';rw[z,Q,R,L]at e';rw[au (show¬((f%40:Nat):Int)>33 by omega)]at e';simp only[af]at e';have X:(0:Int)=((0:Nat):Int):=rfl;cases v:(Int.tmod (a0:Int) 6==3)<;>rw[v]at e'<;>simp only[aj,af]at e'
 ·cases u:(Int.tmod (a0:Int) 6==4)<;>rw[u]at e'<;>simp only[aj,af]at e'
  ·cases c:decide (((b%40:Nat):Int)>31)<;>rw[c]at e'<;>simp only[aj,af]at e'
   ·exact key _ _ (S a0 b (by omega)) e'
   ·exact key _ _ (S a0 (b%40 / 2) (by omega)) e'
  ·cases c:decide (((b%40:Nat):Int)>31)<;>rw[c]at e'<;>simp only[aj,af]at e'
   ·exact key _ _ (S 0 b (by omega)) e'
   ·exact key _ _ (S 0 (b%40 / 2) (by omega)) e'
 ·cases c:decide (((b%40:Nat):Int)>31)<;>rw[c]at e'<;>simp only[aj,af]at e'
  ·exact key _ _ (S 0 b (by omega)) e'
  ·exact key _ _ (S 0 (b%40 / 2) (by omega)) e'
def IT{a0 a2 f c o d m i j:Int}(g:Bool)(h:wfD a0 a2 f c o d m i j):∃x:TD,ck 20000000 a0 g a2 f c o d m i j=some x/\smT x/\plT x=true:=by
 obtain⟨a,rfl,r⟩:=h.2.2.2.2.1.nat;have p:Int.tmod (a:Int) 40=((a%40:Nat):Int):=rfl;have l:Int.tmod ((a%40:Nat):Int) 12=((a%40%12:Nat):Int):=rfl;unfold ck;rw[p,l];by_cases s:12<a%40
 ·rw[ar (show((a%40:Nat):Int)>12 by omega),aj];have w:w8 (((a%40%12:Nat):Int)+1)=((a%40%12+1:Nat):Int):=by
   show wrap .u8 _=_;rw[gK _ (by omega) (by omega)];omega
  rw[w];have q:wfD a0 a2 f c ((a%40%12+1:Nat):Int) d m i j:=⟨h.1,h.2.1,h.2.2.1,h.2.2.2.1,⟨by omega,by omega⟩,h.2.2.2.2.2⟩;obtain⟨x,e,hs,hc,n,b⟩:=ExI g q;have k:seT x=0:=b (by
   show(((a%40%12+1)%40:Nat):Int)<=12;omega)
  exact⟨x,by rw[e];rfl,hs,mX.2 ⟨hc,n,by omega⟩⟩
 ·rw[au (show¬((a%40:Nat):Int)>12 by omega),af];obtain⟨x,e,hs,hc,n,b⟩:=ExI g h;have k:seT x=0:=b (by rw[p];omega);exact⟨x,by rw[e];rfl,hs,mX.2 ⟨hc,n,by omega⟩⟩
def BofI{k a0 a2 j i f b c m n:Int}(g:Bool)(N:natI k 256)(h:wfD a0 a2 j i f b c m n):
  ∃(K:Int) (x:TD),cj 20000000 k a0 g a2 j i f b c m n=some (K,x)/\smT x/\rH K x=0/\(K=1\/((K=2\/K=3)/\x=d0)):=by
 obtain⟨r,D,Q,P,u,q,w,y,v⟩:=h;obtain⟨k,rfl,bk⟩:=N.nat;obtain⟨a0,rfl,b0⟩:=r.nat;obtain⟨a2,rfl,b2⟩:=D.nat;obtain⟨j,rfl,J⟩:=Q.nat;obtain⟨i,rfl,O⟩:=P.nat;obtain⟨f,rfl,t⟩:=u.nat;obtain⟨b,rfl,C⟩:=q.nat;obtain⟨c,rfl,S⟩:=w.nat;obtain⟨m,rfl,V⟩:=y.nat;obtain⟨n,rfl,T⟩:=v.nat;obtain⟨K,U,l,dg,x,R,d,k0,k1,k2,e,hc,p,a,o,z⟩:=B_of 19999700 k a0 a2 j i f b c m n g b0 b2 J O t C;refine⟨K,_,e,⟨p,o,a,by simp,by simp,by simp⟩,hc,z.imp id λ⟨H,M,L,A,E,G,B,F,s,I⟩=>⟨H,?_⟩⟩;subst M L A E G B F s I;rfl
def OM{g l:Bool}{dg:aa}{x:Int}{m d:aa}{k0 k1 k2:Int}(h:chkD g l dg x 0 m d k0 k1 k2=0)(f:m≠[])(hp:0<=k0/\0<=k1):chkD g l dg x 0 m [] k0 k1 0=0:=by
 obtain⟨c,e,c3,c4⟩:=Dj h;unfold chkD;have a:bH m []=2:=by unfold bH;simp[f]
 have b:allM k0 k1 0 2=0:=by
  unfold allM at c4 ⊢;by_cases hx:3<k0\/3<k1\/3<k2\/(bH m d<2/\k1≠0)\/(bH m d<3/\k2≠0)
  ·rw[ae hx]at c4;cases c4
  ·rw[ab (by omega)]
 rw[c,a,b];have:(!(m==[])&&(!(decide (0<sea m))&&!(ei m 12)))=false:=by
  rcases e with h | h | h
  ·rw[h];rfl
  ·rw[ar h];simp
  ·rw[h];simp
 rw[this];rfl
def Le{g l:Bool}{dg:aa}{x:Int}{m d:aa}{k0 k1 k2:Int}(h:chkD g l dg x 0 m d k0 k1 k2=0):chkD g l dg x 0 [] [] k0 0 0=0:=by
 obtain⟨b,e,c3,c4⟩:=Dj h;have hy:yrD g l dg x 0 []=true:=by
  unfold yrD at b ⊢;by_cases a:okY g l dg x 0
  ·rw[ae a];unfold yrB;rfl
  ·rw[ab a]at b;cases b
 have c:allM k0 0 0 1=0:=by
  unfold allM at c4 ⊢;by_cases hx:3<k0\/3<k1\/3<k2\/(bH m d<2/\k1≠0)\/(bH m d<3/\k2≠0)
  ·rw[ae hx]at c4;cases c4
  ·rw[ab (by omega)]
 unfold chkD;rw[hy,show bH [] []=1 from rfl,c];rfl
def zo{g l:Bool}{dg:aa}{x q:Int}{m:aa}{k0 k1 k2:Int}(h:chkD g l dg x q m [] k0 k1 k2=0):chkF g l dg x q m [] k0 k1 k2=0:=by
 unfold chkF;rw[ab (λh=>h.2.1 rfl),h]
def Gu(x:TD):1<=coT x/\coT x<=3:=kX _ _
def cutI{x:TD}(hs:smT x)(hp:plT x=true){n:Nat}(D:1<=n)(o:n<=coT x):∃y:TD,kb 20000000 x (n:Int)=some y/\smT y/\plT y=true/\coT y=n:=by
 obtain⟨hc,z,r⟩:=mX.1 hp;obtain⟨v,E⟩:=Oa hc z;have c:=pJ hc;obtain⟨g,l,dg,e,q,m,d,k0,k1,k2⟩:=x;obtain⟨j,h,u,f,i,w⟩:=hs;simp only at j h u f i w c v E;subst v;have B:=Gu (g,l,dg,e,0,m,d,k0,k1,k2);have b:exD dg m d 0=true:=z;obtain⟨_,_,A⟩:=tJ hc;have k:coT (g,l,dg,e,0,m,d,k0,k1,k2)=bH m d:=rfl;unfold kb;by_cases C:n<3
 ·rw[ar (show(n:Int)<3 by omega),aj];by_cases F:n<2
  ·rw[ar (show(n:Int)<2 by omega),aj];have p:n=1:=by omega
   subst p;have a:=Le c;exact⟨_,rfl,⟨by simp,h,by simp,f,by simp,by simp⟩,mX.2 ⟨zo a,(LD b).2,by show¬0<sea [];decide⟩,rfl⟩
  ·rw[au (show¬(n:Int)<2 by omega),af];have p:n=2:=by omega
   subst p;have t:m≠[]:=by
    rintro rfl;rw[k]at o;unfold bH at o;by_cases s:d=[]
    ·simp[s]at o
    ·exact absurd rfl (A s).1
   have a:=OM c t ⟨f,i⟩;exact⟨_,rfl,⟨j,h,by simp,f,i,by simp⟩,mX.2 ⟨zo a,(LD b).1,r⟩,by show bH m []=2;unfold bH;simp[t]⟩
 ·rw[au (show¬(n:Int)<3 by omega),af,au (show¬(n:Int)<2 by omega),af];exact⟨_,rfl,⟨j,h,u,f,i,w⟩,hp,by omega⟩
def Ob{p:TD}{all:Bool}(hp:plT p=true):itE p false d0 all=0:=by
 obtain⟨hc,a,_⟩:=mX.1 hp;rw[PW hc,a];have:eqD d0 d0=true:=i7.2 rfl;rw[this];simp
def En{x y:TD}{all:Bool}(hx:plT x=true)(hy:plT y=true)(hc:coT x=coT y)(a:(dyT x).1<=(dyT y).1):itE x true y all=0:=by
 obtain⟨c,b,_⟩:=mX.1 hx;obtain⟨d,e,_⟩:=mX.1 hy;rw[WL c d,b];have:ordB x y=true:=by unfold ordB;rw[hx,hy,ar hc,ar a];rfl
 rw[this];simp
def ZJ{a0 a2 z q o k m A C:Int}(g:Bool){b0 b2 w D l p t B s:Int}(f:Bool)(R:Int)(all:Bool)(a:wfD a0 a2 z q o k m A C)(E:wfD b0 b2 w D l p t B s):
  ∃x r y,ic 20000000 a0 g a2 z q o k m A C R b0 f b2 w D l p t B s all=some (x,r,y)/\smT x/\smT y/\itE x r y all=0:=by
 unfold ic;cases(Int.tmod R 2==1)
 ·rw[af];cases all
  ·obtain⟨x,e,hs,hc⟩:=DofI g a;refine⟨x,false,d0,by rw[af,e];rfl,hs,oa,?_⟩;have:eqD d0 d0=true:=i7.2 rfl;rw[PW hc,this];simp
  ·obtain⟨x,e,hs,hc,Q,_⟩:=ExI g a;refine⟨x,false,d0,by rw[aj,e];rfl,hs,oa,?_⟩;have:eqD d0 d0=true:=i7.2 rfl;rw[PW hc,this,Q];simp
 ·rw[aj];obtain⟨x,ex,sx,N⟩:=IT g a;obtain⟨y,J,M,K⟩:=IT f E;rw[ex,J];simp only[ob,rcoT];have G:(cond (decide (((coT y:Nat):Int)<((coT x:Nat):Int))) ((coT y:Nat):Int) ((coT x:Nat):Int))=((min (coT x) (coT y):Nat):Int):=by
   by_cases h:coT y<coT x
   ·rw[ar (by omega),aj];omega
   ·rw[au (by omega),af];omega
  rw[G];have V:=Gu x;have S:=Gu y;obtain⟨u,P,d,b,U⟩:=cutI sx N (n:=min (coT x) (coT y)) (by omega) (by omega);obtain⟨v,I,c,i,T⟩:=cutI M K (n:=min (coT x) (coT y)) (by omega) (by omega);obtain⟨O,F,_⟩:=mX.1 b;obtain⟨L,H,_⟩:=mX.1 i;rw[P,I];simp only[rdT d O F,rdT c L H,u2];by_cases j:(dyT u).1>(dyT v).1
  ·rw[ar j];exact⟨v,true,u,rfl,c,d,En i b (by omega) (by omega)⟩
  ·rw[au j];exact⟨u,true,v,rfl,d,c,En b i (by omega) (by omega)⟩
def wfR(r:TR):Prop:=wfD r.1 r.2.2.1 r.2.2.2.1 (d4 r).1 (d4 r).2.1 (d4 r).2.2.1 (d4 r).2.2.2.1 (d8 r).1 (d8 r).2.1/\
 wfD (d8 r).2.2.2.1 (d4 (d8 r)).2.1 (d4 (d8 r)).2.2.1 (d4 (d8 r)).2.2.2.1 (d16 r).1 (d16 r).2.1 (d16 r).2.2.1 (d16 r).2.2.2.1 (d4 (d16 r))
def Ak{A:Type}{f:Nat->A->Int}:∀{L:List A} {k:Nat},(∀i t,L[i]?=some t->f (k+i) t=0)->oL f k L=none
 | [],_,_=>rfl
 | t::r,k,h=>by
  have a:=h 0 t rfl;rw[dK]at a;rw[oL,ab (λh=>h a)];exact Ak λi u b=>by rw[ig,oP 1 i];exact h (i+1) u b
structure RightE(k:Int)(D:TD)(KF:Int)(DF:TD)(KT:Int)(DT:TD)(e l:Bool)(I:List TI):Prop where
 sm:smE D DF DT I
 first:fj k D KF DF KT DT e l I=(0,0)
 len:I.length<=5
 kind:1<=k/\k<=4
 its:∀t∈I,itI t (k==4)=0
def OT{k:Int}(n:k=3\/k=4){e l:Bool}{I:List TI}(s:1<=I.length)(p:I.length<=5)(hs:∀t∈I,smI t/\itI t (k==4)=0)(j:e=true->∃t,I[0]?=some t/\endB t=true)
  (q:l=true->∃t,I[I.length - 1]?=some t/\endB t=true) (g:e=true->l=true->I.length≠1):RightE k d0 0 d0 0 d0 e l I:=by
 refine⟨⟨oa,oa,oa,λt d=>(hs t d).1⟩,?_,p,by omega,λt d=>(hs t d).2⟩;have r:unuB k d0 0 d0 0 d0 e l I.length=false:=by
  have o:eqD d0 d0=true:=i7.2 rfl;unfold unuB;rw[o];rcases n with rfl | rfl<;>rfl
 unfold fj;rw[ab (by omega),ab (by rw[r];simp),ab (by omega),ab (by omega),ab (by omega),ab (by omega)];unfold ye;rw[Ak λi t d=>?_];rw[cK];have m:i<I.length:=(nc.1 d).1;unfold errI;rw[(hs t (fk d)).2,ab (λh=>h rfl),ab];intro h;simp only[iq,aB,ch,jX]at h;rcases h with⟨⟨a,b⟩,c⟩ | ⟨⟨a,b⟩,c⟩ | ⟨a,b,c⟩
 ·obtain⟨u,f,u2⟩:=j a;subst b;rw[d]at f;cases f;rw[u2]at c;cases c
 ·obtain⟨u,f,u2⟩:=q a;rw[show I.length - 1=i by omega,d]at f;cases f;rw[u2]at c;cases c
 ·exact g a b c
def Aa{p:TD}{all:Bool}(hs:smT p)(hp:plT p=true):smI (mkI p false d0)/\itI (mkI p false d0) all=0/\endB (mkI p false d0)=true:=
 ⟨⟨hs,oa⟩,Ob hp,by unfold endB;show(!false&&plT p)=true;rw[hp];rfl⟩
def SV(n x0:Nat)(m:Int)(k:Bool)(t:Int)(o:TD)(q:Int)(u:TD)(l:Int)(v:TD)(s f:Bool){L:List TR}(g:Int)(d:TD)(e:Int)(h:TD)(x16:Int)(j:TD)(a c:Bool)(b I:List TI)
  {r:TR} {p:TD} (x:0<x0) (z:L[0]?=some r) (w:0<I.length) (hp:ck n r.1 r.2.1 r.2.2.1 r.2.2.2.1 (d4 r).1 (d4 r).2.1 (d4 r).2.2.1 (d4 r).2.2.2.1 (d8 r).1 (d8 r).2.1=some p):
  iG n x0 m k t o q u l v s f L g d e h x16 j a c b I=some (x0,m,t,o,q,u,l,v,s,f,L,g,d,e,h,x16,j,a,c,b,if k=true then I.set 0 (mkI p false d0)else I)/\
  gY n x0 m k L t o q u l v s f g d e h x16 j a c b I=some (x0,m,L,t,o,q,u,l,v,s,f,g,d,e,h,x16,j,a,c,b,if k=true then I.set 0 (mkI p false d0)else I):=by
 unfold iG gY;cases k
 ·exact⟨rfl,rfl⟩
 ·have A:ix x0 (0:Int)=some 0:=cT (i:=0) x;have y:ix I.length (0:Int)=some 0:=cT (i:=0) w;simp only[aj,A,y,z,hp,ob,bu w,aN];constructor<;>trivial
def Si(n x0 m:Nat)(j:Bool)(s:Int)(l:TD)(o:Int)(t:TD)(k:Int)(u:TD)(q f:Bool){L:List TR}(g:Int)(d:TD)(e:Int)(h:TD)(x16:Int)(i:TD)(a c:Bool)(b I:List TI)
  {r:TR} {p:TD} (w:m<x0) (x:L[m]?=some r) (v:m<I.length) (hp:ck n r.1 r.2.1 r.2.2.1 r.2.2.2.1 (d4 r).1 (d4 r).2.1 (d4 r).2.2.1 (d4 r).2.2.2.1 (d8 r).1 (d8 r).2.1=some p):
  iD n x0 (m:Int) j s l o t k u q f L g d e h x16 i a c b I=some ((m:Int),s,l,o,t,k,u,q,f,g,d,e,h,x16,i,a,c,b,if j=true then I.set m (mkI p false d0)else I)/\
  hO n x0 (m:Int) j L s l o t k u q f g d e h x16 i a c b I=some ((m:Int),s,l,o,t,k,u,q,f,g,d,e,h,x16,i,a,c,b,if j=true then I.set m (mkI p false d0)else I):=by
 unfold iD hO;cases j
 ·exact⟨rfl,rfl⟩
 ·simp only[aj,cT w,cT v,x,hp,ob,bu v,aN];constructor<;>trivial
def HU{L:List TR}(E:∀r∈L,wfR r){n:Nat}(J:n<=L.length)(K:n<=5)(k:Int)(e l:Bool)(a:List TI):
  ∃I:List TI,I.length=n/\(∀t∈I,smI t/\itI t (k==4)=0)/\
   av (de 20000000) 20000000 (n,0,L,k,e,l,a,([]:List TI))=some (n,0,d0,0,d0,0,d0,false,false,L,k,d0,0,d0,0,d0,e,l,a,I)/\
   av (cH 20000000) 20000000 (n,0,L,k,e,l,a,([]:List TI))=some (n,L,0,d0,0,d0,0,d0,false,false,k,d0,0,d0,0,d0,e,l,a,I):=by
 have m:∀i (r:TR) (acc:List TI),i<n->L[i]?=some r->acc.length=i->∃b:TI,(smI b/\itI b (k==4)=0)/\
   de 20000000 (n,(i:Int),L,k,e,l,a,acc)=some (.inl (n,((i+1:Nat):Int),L,k,e,l,a,acc++[b]))/\
   cH 20000000 (n,(i:Int),L,k,e,l,a,acc)=some (.inl (n,((i+1:Nat):Int),L,k,e,l,a,acc++[b])):=by
  intro i r acc hi p g;obtain⟨B,C⟩:=E r (fk p);obtain⟨x,f,y,q,sx,G,v⟩:=ZJ r.2.1 (d4 (d8 r)).1 (d8 r).2.2.1 (k==4) B C;refine⟨mkI x f y,⟨⟨sx,G⟩,v⟩,?_,?_⟩
  ·unfold de;simp only[u8,u7,u6,u5,u4,u3,u2];rw[ar (show(i:Int)<((n:Nat):Int)by omega),cT hi];simp only[aj,ob,p,q];rw[oe (by omega),show Nat.ble (acc.length+1) bJ=true from cD (by unfold bJ;omega)];rfl
  ·unfold cH;simp only[u8,u7,u6,u5,u4,u3,u2];rw[ar (show(i:Int)<((n:Nat):Int)by omega),cT hi];simp only[aj,ob,p,q];rw[oe (by omega),show Nat.ble (acc.length+1) bJ=true from cD (by unfold bJ;omega)];rfl
 have c:∀acc:List TI,de 20000000 (n,(n:Int),L,k,e,l,a,acc)=some (.inr (n,0,d0,0,d0,0,d0,false,false,L,k,d0,0,d0,0,d0,e,l,a,acc)):=λacc=>by
  unfold de;simp only[u8,u7,u6,u5,u4,u3,u2];rw[au (show¬((n:Nat):Int)<((n:Nat):Int)by omega)];rfl
 have d:∀acc:List TI,cH 20000000 (n,(n:Int),L,k,e,l,a,acc)=some (.inr (n,L,0,d0,0,d0,0,d0,false,false,k,d0,0,d0,0,d0,e,l,a,acc)):=λacc=>by
  unfold cH;simp only[u8,u7,u6,u5,u4,u3,u2];rw[au (show¬((n:Nat):Int)<((n:Nat):Int)by omega)];rfl
 have j:∀(r i:Nat) (acc:List TI),i+r=n->acc.length=i->(∀t∈acc,smI t/\itI t (k==4)=0)->∀N,r<N->∃I:List TI,I.length=n/\(∀t∈I,smI t/\itI t (k==4)=0)/\
   av (de 20000000) N (n,(i:Int),L,k,e,l,a,acc)=some (n,0,d0,0,d0,0,d0,false,false,L,k,d0,0,d0,0,d0,e,l,a,I)/\
   av (cH 20000000) N (n,(i:Int),L,k,e,l,a,acc)=some (n,L,0,d0,0,d0,0,d0,false,false,k,d0,0,d0,0,d0,e,l,a,I):=by
  intro r
  induction r with
  | zero=>
   intro i acc hi g o N A;obtain⟨N,rfl⟩:∃k,N=k+1:=⟨N - 1,by omega⟩;obtain rfl:i=n:=by omega
   exact⟨acc,g,o,by rw[av,c],by rw[av,d]⟩
  | succ r ih=>
   intro i acc hi g o N A;obtain⟨N,rfl⟩:∃k,N=k+1:=⟨N - 1,by omega⟩;obtain⟨b,s,z,H⟩:=m i _ acc (by omega) (bu (show i<L.length by omega)) g
   obtain⟨I,o1,D,u,F⟩:=ih (i+1) (acc++[b]) (by omega) (by simp[g]) (λx hx=>by
    rcases kQ.1 hx with h | h
    ·exact o x h
    ·rw[lV.1 h];exact s) N (by omega)
   exact⟨I,o1,D,by rw[av,z];exact u,by rw[av,H];exact F⟩
 exact j n 0 [] (by omega) rfl (λt w=>by cases w) 20000000 (by omega)
def WQ(n x0:Nat)(a:Int)(b:Bool)(P:List TR)(g f e c:Int)(L:List TR)(d:List TI):
  jd n x0 a b P g f e c L d=some (x0,a,b||(a==1||a==2),P,g,f,e,c,L,d)/\
  iL n x0 a b P g f e c d=some (x0,a,b||(a==1||a==2),P,g,f,e,c,d):=by
 unfold jd iL kv jO;cases b<;>cases(a==1)<;>exact⟨rfl,rfl⟩
def RF(n x0:Nat)(c:Int)(a:Bool)(P:List TR)(g f e b:Int)(L:List TR)(d:List TI):
  iO n x0 c a P g f e b L d=some (x0,a||c==4,P,g,f,e,b,L,d)/\
  g9 n x0 c a P g f e b d=some (x0,a||c==4,P,g,f,e,b,d):=by
 unfold iO g9;cases a<;>exact⟨rfl,rfl⟩
def R2(n x0:Nat)(b:Bool)(L:List TR)(e l:Bool)(a c:List TI):
  iu n x0 b L e l a c=some (x0,L,(if b then 4 else 3),e,l,a,c)/\gW n x0 b L e l a c=some (x0,L,(if b then 4 else 3),e,l,a,c):=by
 unfold iu gW;cases b<;>exact⟨rfl,rfl⟩
def S9(n:Nat)(x0 j:Int)(l:TD)(m:Int)(r:TD)(q:Int)(o:TD)(i p:Bool)(k:Int)(e:TD)(d:Int)(g:TD)(c:Int)(f:TD)(a x16:Bool)(h b:List TI):
  fV n x0 j l m r q o i p k e d g c f a x16 h b=some ((x0==0)&&a,j,l,m,r,q,o,i,p,k,e,d,g,c,f,a,x16,h,b):=by
 unfold fV;cases(x0==0)<;>rfl
def S3(n:Nat)(x0:Bool)(j:Int)(l:TD)(m:Int)(r:TD)(q:Int)(o:TD)(i p:Bool)(k:Int)(d:TD)(c:Int)(f:TD)(b:Int)(e:TD)(g x16:Bool)(h a:List TI):
  fS n x0 j l m r q o i p k d c f b e g x16 h a=some (j,l,m,r,q,o,i,p,k,d,c,f,b,e,g,!x0&&x16,h,a):=by
 unfold fS;cases x0<;>rfl
def qV{x:TD}(hs:smT x)(hc:cF x=0):RightE 1 x 0 d0 0 d0 false false []:=by
 refine⟨⟨hs,oa,oa,λt b=>by cases b⟩,?_,by simp,by omega,by simp⟩;have c:eqD d0 d0=true:=i7.2 rfl;have a:unuB 1 x 0 d0 0 d0 false false ([]:List TI).length=false:=by unfold unuB;rw[c];rfl
 unfold fj;rw[ab (by omega),ab (by rw[a];simp),ae rfl,hc]
def o5{KF KT:Int}{x y:TD}(hx:smT x)(hy:smT y)(h:nA KF x KT y=0):RightE 2 d0 KF x KT y false false []:=by
 refine⟨⟨oa,hx,hy,λt b=>by cases b⟩,?_,by simp,by omega,by simp⟩;have c:eqD d0 d0=true:=i7.2 rfl;have a:unuB 2 d0 KF x KT y false false ([]:List TI).length=false:=by unfold unuB;rw[c];rfl
 unfold fj;rw[ab (by omega),ab (by rw[a];simp),ab (by omega),ae rfl,h]
def F9(x:TD):rH 1 x=if cF x=0 then if exT x=true then 0 else 11 else cF x:=by
 unfold rH chkB;rw[ae rfl];rfl
def tH{x:TD}(h:rH 1 x=0):cF x=0/\exT x=true:=by
 rw[F9]at h;by_cases hc:cF x=0
 ·rw[ae hc]at h;by_cases a:exT x=true
  ·exact⟨hc,a⟩
  ·rw[ab a]at h;cases h
 ·rw[ab hc]at h;exact absurd h hc
def Hh{x:TD}(hc:cF x=0)(a:exT x=true):rH 1 x=0:=by
 rw[F9,ae hc,ae a]
def A9{KF KT:Int}{x y:TD}(b:rH KF x=0)(a:rH KT y=0):nA KF x KT y=if KF≠1/\KT≠1 then 11 else if KF≠1\/KT≠1 then 0 else if(dyT x).1>(dyT y).2 then 11 else 0:=by
 unfold nA FG;rw[b,a,ab (λh=>h rfl),ab (λh=>h rfl)]
def SZ{n x0:Nat}{L:List TR}{r:TR}(o:0<x0)(u:L[0]?=some r)(p:n=20000000)(B:wfR r){KF KT:Int}{x y:TD}(sx:smT x)(l:smT y)(c:rH KF x=0)(f:rH KT y=0)(X:List TI):
  ∃b d a g,iz n x0 (nA KF x KT y != 0) L KF x KT y X=some (b,d,a,g,X)/\gX n x0 (nA KF x KT y != 0) L KF x KT y X=some (b,d,a,g,X)/\
   smT d/\smT g/\nA b d a g=0:=by
 subst p;unfold iz gX;by_cases hp:nA KF x KT y=0
 ·rw[show(nA KF x KT y != 0)=false from by simp[hp]];exact⟨KF,x,KT,y,rfl,rfl,sx,l,hp⟩
 ·rw[show(nA KF x KT y != 0)=true from by simp[hp],aj,aj];unfold kx jN;by_cases j:KF=1
  ·subst j;have k:KT=1:=by
    rw[A9 c f]at hp;by_cases h:KT=1
    ·exact h
    ·rw[ab (by simp),ae (.inr h)]at hp;exact absurd rfl hp
   subst k;obtain⟨D,A⟩:=tH c;obtain⟨q,w⟩:=tH f;have F:=SB D A;have E:=SB q w;have s:(dyT x).1>(dyT y).2:=by
    rw[A9 c f,ab (by simp),ab (by simp)]at hp;by_cases h:(dyT x).1>(dyT y).2
    ·exact h
    ·rw[ab h]at hp;exact absurd rfl hp
   refine⟨1,y,1,x,rfl,rfl,l,sx,?_⟩;rw[A9 f c,ab (by simp),ab (by simp),ab (by omega)]
  ·obtain⟨z,e,m,v,t,_⟩:=ExI (d4 (d8 r)).1 B.2;have e':bE 20000000 (d8 r).2.2.2.1 (d4 (d8 r)).1 (d4 (d8 r)).2.1 (d4 (d8 r)).2.2.1 (d4 (d8 r)).2.2.2.1 (d16 r).1 (d16 r).2.1 (d16 r).2.2.1 (d16 r).2.2.2.1 (d4 (d16 r))=some z:=e;have C:ix x0 (0:Int)=some 0:=cT (i:=0) o;rw[show(KF != 1)=true from by simp[j],aj,C];simp only[ob,u,e',u5,u4,u3,u2];refine⟨KF,x,1,z,rfl,rfl,sx,m,?_⟩;rw[A9 c (Hh v t),ab (by simp),ae (.inl j)]
def Me{L:List TR}(K:∀r∈L,wfR r){n:Nat}(J:1<=n)(G:n<=L.length)(H:n<=5){k:Int}(B:k=3\/k=4)(e l:Bool){I:List TI}(y:I.length=n)(hit:∀t∈I,smI t/\itI t (k==4)=0)
  {p q:TD} (x:smT p) (u:plT p=true) (C:smT q) (s:plT q=true):
  RightE k d0 0 d0 0 d0 e (!(decide (n=1)&&e)&&l) (if l=true then(if e=true then I.set 0 (mkI p false d0)else I).set (n - 1) (mkI q false d0)else if e=true then I.set 0 (mkI p false d0)else I):=by
 obtain⟨z,F,o⟩:=Aa (all:=(k==4)) x u;obtain⟨w,v,m⟩:=Aa (all:=(k==4)) C s;have i:∀t∈(if e=true then I.set 0 (mkI p false d0)else I),smI t/\itI t (k==4)=0:=by
  intro t c;split at c
  ·rcases LE c with h | h
   ·exact hit t h
   ·rw[h];exact⟨z,F⟩
  ·exact hit t c
 have d:(if e=true then I.set 0 (mkI p false d0)else I).length=n:=by split<;>simp[y]
 have b:e=true->(if e=true then I.set 0 (mkI p false d0)else I)[0]?=some (mkI p false d0):=by
  intro h;rw[ae h,Lh (by omega)]
 generalize E:(if e=true then I.set 0 (mkI p false d0)else I)=A at i d b;have j:(if l=true then A.set (n - 1) (mkI q false d0)else A).length=n:=by split<;>simp[d]
 have D:∀t∈(if l=true then A.set (n - 1) (mkI q false d0)else A),smI t/\itI t (k==4)=0:=by
  intro t c;split at c
  ·rcases LE c with h | h
   ·exact i t h
   ·rw[h];exact⟨w,v⟩
  ·exact i t c
 refine OT B (by omega) (by omega) D (λf=>?_) (λa=>?_) (λf a=>?_)
 ·by_cases a:l=true
  ·rw[ae a];by_cases g:n=1
   ·subst g;exact⟨mkI q false d0,by rw[Lh (by omega)],m⟩
   ·exact⟨mkI p false d0,by rw[List.getElem?_set_ne (by omega)];exact b f,o⟩
  ·rw[ab a];exact⟨_,b f,o⟩
 ·simp only[aB]at a;rw[ae a.2,FI,d];exact⟨mkI q false d0,by rw[Lh (by omega)],m⟩
 ·rw[f]at a;simp only[Dc,aB,jX,tK]at a;rw[j];exact a.1
def Vs:wfR ((0,false,0,0,0,0,0,0,0,0,0,0,false,0,0,0,0,0,0,0,0):TR):=by
 have z:natI 0 256:=⟨by omega,by omega⟩;have z2:natI 0 65536:=⟨by omega,by omega⟩;exact⟨⟨z,z2,z,z,z,z,z,z,z⟩,⟨z,z2,z,z,z,z,z,z,z⟩⟩
def min5(m:Nat):cond (decide ((5:Int)<((m:Nat):Int))) 5 ((m:Nat):Int)=((min 5 m:Nat):Int):=by
 by_cases h:5<m
 ·rw[ar (by omega),aj];omega
 ·rw[au (by omega),af];omega
def Xs(k:Nat):((((k%8:Nat):Int)==0)||((((k%8:Nat):Int)==1)||(((k%8:Nat):Int)==2)))=decide (k%8<3)/\((((k%8:Nat):Int)==3)||(((k%8:Nat):Int)==4))=decide (k%8=3\/k%8=4):=by
 have h:k%8<8:=rt _ (by omega);generalize k%8=j at *;rcases(by omega:j=0\/j=1\/j=2\/j=3\/j=4\/j=5\/j=6\/j=7)with rfl | rfl | rfl | rfl | rfl | rfl | rfl | rfl<;>decide
def E_of{K J G B:Int}(hK:natI K 256)(h0:natI J 256)(h1:natI G 256)(hB:natI B 256){L:List TR}(hL:∀r∈L,wfR r):
  ∃k D KF DF KT DT e l I,kU 20000000 K J G B L=some (k,D,KF,DF,KT,DT,e,l,I)/\RightE k D KF DF KT DT e l I:=by
 obtain⟨K,rfl,bK⟩:=hK.nat;have H:Int.tmod (K:Int) 8=((K%8:Nat):Int):=rfl;obtain⟨k1,k2⟩:=Xs K;unfold kU lA;rw[show(len L==0)=decide (L.length=0)from NN _];generalize s:(if L=[]then[(0,false,0,0,0,0,0,0,0,0,0,0,false,0,0,0,0,0,0,0,0)]else L:List TR)=M;have d:∀r∈M,wfR r:=by
  intro r c;rw[<-s]at c;split at c
  ·rw[lV.1 c];exact Vs
  ·exact hL r c
 have hMl:1<=M.length:=by
  rw[<-s];split
  ·simp
  ·rename_i h;exact List.length_pos_iff.2 h
 have u:min 5 M.length<=M.length:=Gg _ _;have y:1<=min 5 M.length:=by omega
 have m:min 5 M.length<=5:=Nat.min_le_left _ _;obtain⟨r,c⟩:∃r,M[0]?=some r:=⟨M[0],bu (by omega)⟩;obtain⟨Z,o⟩:∃r,M[min 5 M.length - 1]?=some r:=⟨M[min 5 M.length - 1],bu (by omega)⟩;have t:=d r (fk c);have hw':=d Z (fk o);obtain⟨x,ex,sx,cx⟩:=DofI r.2.1 t.1;obtain⟨KF,Y,v,f,E,_⟩:=BofI r.2.1 h0 t.1;obtain⟨KT,bt,w,g,C,_⟩:=BofI (d4 (d8 r)).1 h1 t.2;obtain⟨p,ep,X,W⟩:=IT r.2.1 t.1;obtain⟨q,eq,sq,V⟩:=IT Z.2.1 hw'.1;have N:ix (min 5 M.length) (0:Int)=some 0:=cT (i:=0) (by omega);have A:bx M.length (cond (decide ((5:Int)<len M)) 5 (len M))=some (min 5 M.length):=by
  rw[show(cond (decide ((5:Int)<len M)) 5 (len M))=((min 5 M.length:Nat):Int)from min5 _,eM u]
 have a:w64 (((min 5 M.length:Nat):Int) - 1)=((min 5 M.length - 1:Nat):Int):=Lx (by omega) (by omega);have F:(((min 5 M.length - 1:Nat):Int)==0)=decide (min 5 M.length=1):=by
  rw[NN];congr 1;exact propext (by omega)
 by_cases b:L=[]
 ·rw[ae b]at s;subst b;rw[show decide (([]:List TR).length=0)=true from rfl,aj];simp only[obs,sm,ob,u7,u6,u5,u4,u3,u2,s,A,H,(WQ _ _ _ _ _ _ _ _ _ _ _).1,u10,u9,u8,k1];by_cases hs:K%8<3
  ·rw[ar hs];simp only[aj,N,c,ex];exact⟨_,_,_,_,_,_,_,_,_,rfl,qV sx cx⟩
  rw[au hs];simp only[af,(RF _ _ _ _ _ _ _ _ _ _ _).1,u9,u8,u7,u6,u5,u4,u3,u2,k2];by_cases z:K%8=3\/K%8=4
  ·rw[ar z];have ebf':cj 20000000 J r.1 r.2.1 r.2.2.1 r.2.2.2.1 (d4 r).1 (d4 r).2.1 (d4 r).2.2.1 (d4 r).2.2.2.1 (d8 r).1 (d8 r).2.1=some (KF,Y):=v;have ebt':cj 20000000 G (d8 r).2.2.2.1 (d4 (d8 r)).1 (d4 (d8 r)).2.1 (d4 (d8 r)).2.2.1 (d4 (d8 r)).2.2.2.1 (d16 r).1 (d16 r).2.1 (d16 r).2.2.1 (d16 r).2.2.2.1 (d4 (d16 r))=some (KT,bt):=w;obtain⟨S,x',Q,y',j1,_,P,U,hp⟩:=SZ (n:=20000000) (x0:=min 5 M.length) (by omega) c rfl t f g E C ([]:List TI);simp only[aj,N,c,ebf',ebt',Oq f g,j1,u5,u4,u3,u2];exact⟨_,_,_,_,_,_,_,_,_,rfl,o5 P U hp⟩
  rw[au z];generalize(Int.tmod B 2==1)=e;generalize(Int.tmod (w8 (Int.tdiv B 2)) 2==1)=l;rw[H];generalize(((K%8:Nat):Int)==7)=j;obtain⟨I,o1,R,O,_⟩:=HU d u m (if j=true then 4 else 3) e l [];have T:(if j=true then(4:Int)else 3)=3\/(if j=true then(4:Int)else 3)=4:=by cases j<;>simp
  simp only[af,(R2 _ _ _ _ _ _ _ _).1,O,a,u7,u6,u5,u4,u3,u2];simp only[u20,u19,u18,u17,u16,u15,u14,u13,u12,u11,u10,u9,u8,u7,u6,u5,u4,u3,u2];rw[(SV 20000000 _ _ _ _ _ _ _ _ _ _ _ _ _ _ _ _ _ _ _ _ _ (by omega) c (by omega) ep).1];simp only[u21,u20,u19,u18,u17,u16,u15,u14,u13,u12,u11,u10,u9,u8,u7,u6,u5,u4,u3,u2];rw[a,(Si 20000000 (min 5 M.length) (min 5 M.length - 1) _ _ _ _ _ _ _ _ _ _ _ _ _ _ _ _ _ _ _ (by omega) o (by split<;>simp[o1]<;>omega) eq).1];simp only[u21,u20,u19,u18,u17,u16,u15,u14,u13,u12,u11,u10,u9,u8,u7,u6,u5,u4,u3,u2,S9,S3,F];exact⟨_,_,_,_,_,_,_,_,_,rfl,Me d y u m T e l o1 R X W sq V⟩
 ·rw[ab b]at s;subst s;rw[au (show¬L.length=0 fromλh=>b (sZ h)),af];simp only[obs,sm,ob,u7,u6,u5,u4,u3,u2,A,H,(WQ _ _ _ _ _ _ _ _ _ [] _).2,u10,u9,u8,k1];by_cases hs:K%8<3
  ·rw[ar hs];simp only[aj,N,c,ex];exact⟨_,_,_,_,_,_,_,_,_,rfl,qV sx cx⟩
  rw[au hs];simp only[af,(RF _ _ _ _ _ _ _ _ _ [] _).2,u9,u8,u7,u6,u5,u4,u3,u2,k2];by_cases z:K%8=3\/K%8=4
  ·rw[ar z];have ebf':cj 20000000 J r.1 r.2.1 r.2.2.1 r.2.2.2.1 (d4 r).1 (d4 r).2.1 (d4 r).2.2.1 (d4 r).2.2.2.1 (d8 r).1 (d8 r).2.1=some (KF,Y):=v;have ebt':cj 20000000 G (d8 r).2.2.2.1 (d4 (d8 r)).1 (d4 (d8 r)).2.1 (d4 (d8 r)).2.2.1 (d4 (d8 r)).2.2.2.1 (d16 r).1 (d16 r).2.1 (d16 r).2.2.1 (d16 r).2.2.2.1 (d4 (d16 r))=some (KT,bt):=w;obtain⟨S,x',Q,y',_,j1,P,U,hp⟩:=SZ (n:=20000000) (x0:=min 5 L.length) (by omega) c rfl t f g E C ([]:List TI);simp only[aj,N,c,ebf',ebt',Oq f g,j1,u5,u4,u3,u2];exact⟨_,_,_,_,_,_,_,_,_,rfl,o5 P U hp⟩
  rw[au z];generalize(Int.tmod B 2==1)=e;generalize(Int.tmod (w8 (Int.tdiv B 2)) 2==1)=l;rw[H];generalize(((K%8:Nat):Int)==7)=j;obtain⟨I,o1,R,_,O⟩:=HU d u m (if j=true then 4 else 3) e l [];have T:(if j=true then(4:Int)else 3)=3\/(if j=true then(4:Int)else 3)=4:=by cases j<;>simp
  simp only[af,(R2 _ _ _ _ _ _ _ _).2,O,a,u7,u6,u5,u4,u3,u2];simp only[u20,u19,u18,u17,u16,u15,u14,u13,u12,u11,u10,u9,u8,u7,u6,u5,u4,u3,u2];rw[(SV 20000000 _ _ _ _ _ _ _ _ _ _ _ _ _ _ _ _ _ _ _ _ _ (by omega) c (by omega) ep).2];simp only[u21,u20,u19,u18,u17,u16,u15,u14,u13,u12,u11,u10,u9,u8,u7,u6,u5,u4,u3,u2];rw[a,(Si 20000000 (min 5 L.length) (min 5 L.length - 1) _ _ _ _ _ _ _ _ _ _ _ _ _ _ _ _ _ _ _ (by omega) o (by split<;>simp[o1]<;>omega) eq).2];simp only[u21,u20,u19,u18,u17,u16,u15,u14,u13,u12,u11,u10,u9,u8,u7,u6,u5,u4,u3,u2,S9,S3,F];exact⟨_,_,_,_,_,_,_,_,_,rfl,Me d y u m T e l o1 R X W sq V⟩
noncomputable instance decTI:DecidableEq TI:=λa b=>Classical.propDecidable (a=b)
def K9{t u:TI}:((eqD (iF t) (iF u))&&(((d8 t).2.2.1==(d8 u).2.2.1)&&((eqD (d8 t).2.2.2 (d8 u).2.2.2)&&true)))=decide (t=u):=by
 rw[vG,decide_eq_true_iff];have hs:∀a b c:Bool,(a&&(b&&(c&&true)))=true↔a=true/\b=true/\c=true:=by decide
 rw[hs,i7,i7,bL];obtain⟨a1,a2,o,i,s,k,y,p,r,e,b,c⟩:=t;obtain⟨m,l,v,h,n,w,j,x,q,d,f,g⟩:=u;simp only[bC,and_assoc]
noncomputable def difI(J:List TI)(i:Nat)(t:TI):Int:=if J[i]?=some t then 0 else 1
def LH{J:List TI}:∀(I:List TI) (i:Nat),i+I.length=J.length->(oL (difI J) i I=none↔I=J.drop i)
 | [],i,h=>by
  rw[oL,mB (by simp at h;omega)];simp
 | t::r,i,h=>by
  have hi:i<J.length:=by simp at h;omega
  have b:J[i]?=some J[i]:=bu hi;rw[oL,rD hi];unfold difI;by_cases a:J[i]?=some t
  ·rw[ae a,ab (by simp)];have:=LH (J:=J) r (i+1) (by simp at h;omega);unfold difI at this;rw[this];rw[b]at a;simp only[aq]at a;simp[a]
  ·rw[ab a,ae (by simp)];rw[b]at a;simp only[aq]at a;simp only[Ej];constructor
   ·intro h;cases h
   ·rintro⟨h,_⟩;exact absurd h.symm a
def I4(I J:List TI)(h:I.length=J.length){A:Type}(a b:A):(match oL (difI J) 0 I with | some _=>a | none=>b)=if I=J then b else a:=by
 have:=LH (J:=J) I 0 (by omega);rw[cS]at this;cases hs:oL (difI J) 0 I with
 | none=>rw[ae (this.1 hs)]
 | some p=>rw[ab (λh=>by rw[this.2 h]at hs;cases hs)]
def Ry{I J:List TI}(hn:I.length<=1000000):dc 20000000 I J=some (decide (I=J)):=by
 unfold dc;rw[show((((List.length I):Nat):Int) != (((List.length J):Nat):Int))=!decide (I.length=J.length)from co _ (natB _ _)];by_cases h:I.length=J.length
 ·rw[ar h];have:=rS (step:=aT 20000000) (st:=λi=>(((I.length:Nat):Int),(i:Int),I,J)) (L:=I) (f:=difI J) (yes:=λ_ _=>.inl false) (no:=.inr ()) ?_ ?_ I.length 0 (by omega) 20000000 (by omega)
  ·rw[cS]at this;have this:av (aT 20000000) 20000000 (((I.length:Nat):Int),((0:Nat):Int),I,J)=some (if I=J then .inr ()else .inl false):=this.trans (co some (I4 I J h (.inl false:Bool⊕Unit) (.inr ())));show cond false _ (ob (av (aT 20000000) 20000000 (((I.length:Nat):Int),((0:Nat):Int),I,J)) _)=_;rw[this];by_cases he:I=J
   ·rw[ae he,ar he];rfl
   ·rw[ab he,au he];rfl
  ·intro i t ht;have hi:i<I.length:=(nc.1 ht).1;have hj:J[i]?=some (J[i]'(by omega)):=bu (by omega);generalize J[i]'(by omega)=u at hj;unfold aT;simp only[];rw[ar (show(i:Int)<((I.length:Nat):Int)by omega),cT hi,cT (show i<J.length by omega)];simp only[aj,ob,ht,hj];have hq:∀b,b=decide (t=u)->cond (!b) (some (.inr (.inl false))) (some (.inl (((I.length:Nat):Int),(wrap .i64 ((i:Int)+1)),I,J)))=(some (if difI J i t≠0 then .inr (.inl false)else .inl (((I.length:Nat):Int),(((i+1:Nat):Int)),I,J)):Option ((Int×Int×List TI×List TI)⊕(Bool⊕Unit))):=by
    intro b hb;subst hb;rw[show wrap .i64 ((i:Int)+1)=((i+1:Nat):Int)from oe (by omega)];unfold difI;rw[hj];by_cases he:t=u
    ·rw[ar he,ab (by simp[he])];rfl
    ·rw[au he,ae (by simp only[aq];rw[ab (λh=>he h.symm)];simp)];rfl
   refine hq _ ?_;rw[<-K9]
  ·unfold aT;simp only[];rw[au (show¬((I.length:Nat):Int)<((I.length:Nat):Int)by omega)];rfl
 ·rw[au h,au (λhe=>h (co _ he))];rfl
def O2{A X Y:Type}{step:X->Option (X⊕Y)}{st:Nat->X}{L:List A}{no:Y}(b:∀i t,L[i]?=some t->step (st i)=some (.inl (st (i+1))))(a:step (st L.length)=some (.inr no)){N:Nat}(c:L.length<N):
  av step N (st 0)=some no:=by
 have:=rS (step:=step) (st:=st) (L:=L) (f:=λ_ _=>0) (yes:=λ_ _=>no) (no:=no) (λi t d=>by rw[b i t d];rfl) a L.length 0 (by omega) N c;rw[this];cases oL (λ_ _=>0) 0 (List.drop 0 L)<;>rfl
def J1{A B X Y:Type}{step:X->Option (X⊕Y)}{st:Nat->List B->X}{fin:List B->Y}{L:List A}{f:A->List B}{c:Nat}(h:∀t,(f t).length<=2)
  (e:∀i t acc,L[i]?=some t->acc.length<=c+2*i->step (st i acc)=some (.inl (st (i+1) (acc++f t)))) (d:∀acc,step (st L.length acc)=some (.inr (fin acc))):
  ∀(r i:Nat) (acc:List B),i+r=L.length->acc.length<=c+2*i->∀N,r<N->av step N (st i acc)=some (fin (acc++(L.drop i).flatMap f)):=by
 intro r
 induction r with
 | zero=>
  intro i acc hi b N g;obtain⟨N,rfl⟩:∃k,N=k+1:=⟨N - 1,by omega⟩;rw[av,show i=L.length by omega,d,xe];simp
 | succ r ih=>
  intro i acc hi b N g;obtain⟨N,rfl⟩:∃k,N=k+1:=⟨N - 1,by omega⟩;have a:i<L.length:=by omega
  rw[av,e i _ acc (bu a) b,rD a,nY,<-f8];refine ih (i+1) _ (by omega) ?_ N (by omega);have:=h L[i];rw[aZ];omega
def datI(t:TI):List TD:=if rT t=true then[iF t,iT t]else[iF t]
def I8(t:TI):(datI t).length<=2:=by unfold datI;split<;>simp
def datE(k:Int)(D:TD)(KF:Int)(DF:TD)(KT:Int)(DT:TD)(I:List TI):List TD:=
 if k=1 then[D]else if k=2 then(if KF=1 then(if KT=1 then[DF,DT]else[DF])else if KT=1 then[DT]else[])else if k=3\/k=4 then I.flatMap datI else[]
def Wu{B:Type}{acc:List B}(h:acc.length<=3000000):Nat.ble (acc.length+1) bJ=true:=cD (by unfold bJ;omega)
def Cj{I:List TI}(b:I.length<=1000000):av (eO 20000000) 20000000 (len I,0,I,([]:List TD))=some (I.flatMap datI):=by
 have:=J1 (step:=eO 20000000) (st:=λi acc=>(len I,(i:Int),I,acc)) (fin:=λacc=>acc) (L:=I) (f:=datI) (c:=0) I8 ?_ ?_ I.length 0 [] (by omega) (by simp) 20000000 (by omega)
 ·rw[cS,dO]at this;exact this
 ·intro i t acc a d;have hi:i<I.length:=(nc.1 a).1;unfold eO;simp only[u4,u3,u2];rw[ar (show(i:Int)<len I by show(i:Int)<((I.length:Nat):Int);omega),cT hi];simp only[aj,ob,a,Wu (acc:=acc) (by omega),Wu (acc:=acc++[iF t]) (by simp;omega)];rw[oe (by omega)];unfold datI;show cond (rT t) _ _=_;cases rT t
  ·rfl
  ·show(some (Sum.inl (len I,((i+1:Nat):Int),I,(acc++[iF t])++[iT t])):Option ((Int×Int×List TI×List TD)⊕List TD))=_;rw[f8];rfl
 ·intro acc;unfold eO;simp only[u4,u3,u2];rw[au (show¬((I.length:Nat):Int)<len I by show¬((I.length:Nat):Int)<((I.length:Nat):Int);omega)];rfl
def ZO(L:List TD):aw 20000000 L=some (L.length,L.length):=by
 unfold aw;rw[eM (aU _)];show ob (bx L.length ((L.length:Nat):Int)) _=_;rw[eM (aU _)];rfl
def Io{I:List TI}(c:I.length<=1000000)(k:Int)(D:TD)(KF:Int)(DF:TD)(KT:Int)(DT:TD)(e l:Bool):
  dD 20000000 k D KF DF KT DT e l I=some ((datE k D KF DF KT DT I).length,(datE k D KF DF KT DT I).length,datE k D KF DF KT DT I):=by
 unfold dD datE;rw[Cj c];simp only[ZO,ob,u2];by_cases k1:k=1
 ·rw[ae k1,show(k==1)=true from by simp[k1]];rfl
 by_cases k2:k=2
 ·rw[ab k1,ae k2,show(k==1)=false from by simp[k1],show(k==2)=true from by simp[k2]];by_cases b:KF=1
  ·rw[ae b,show(KF==1)=true from by simp[b]];by_cases a:KT=1
   ·rw[ae a,show(KT==1)=true from by simp[a]];rfl
   ·rw[ab a,show(KT==1)=false from by simp[a]];rfl
  ·rw[ab b,show(KF==1)=false from by simp[b]];by_cases a:KT=1
   ·rw[ae a,show(KT==1)=true from by simp[a]];rfl
   ·rw[ab a,show(KT==1)=false from by simp[a]];rfl
 rw[ab k1,ab k2,show(k==1)=false from by simp[k1],show(k==2)=false from by simp[k2]];by_cases k3:k=3
 ·rw[ae (.inl k3),show(k==3)=true from by simp[k3]];rfl
 by_cases k4:k=4
 ·rw[ae (.inr k4),show(k==3)=false from by simp[k3],show(k==4)=true from by simp[k4]];rfl
 rw[ab (by omega),show(k==3)=false from by simp[k3],show(k==4)=false from by simp[k4]];rfl
def CY(n:Nat)(t S R:aa)(a:Int)(q:t.length<4611686018427387904)(p:t.length<n):
  av (eh n) n (t,0,R,S,a)=some (((lcp R t:Nat):Int),S,a):=by
 have:=gy (step:=eh n)
  (λx=>∃j:Nat,j<=t.length/\x=(t,(j:Int),R,S,a)) (λx=>t.length - x.2.1.toNat)
  (λx=>(((x.2.1.toNat+lcp (R.drop x.2.1.toNat) (t.drop x.2.1.toNat):Nat):Int),S,a)) ?_ n (t,0,R,S,a) ⟨0,by omega,rfl⟩ (by simp;omega)
 ·simpa using this
 rintro x ⟨j,o,rfl⟩;simp only[bX,eh,Ub];by_cases g:j<t.length/\j<R.length
 ·obtain⟨i,k⟩:=g;obtain⟨c,hc⟩:∃c,t[j]?=some c:=⟨t[j],bu i⟩;obtain⟨d,h⟩:∃d,R[j]?=some d:=⟨R[j],bu k⟩;have f:wrap .i64 ((j:Int)+1)=((j+1:Nat):Int):=by rw[wrap_i64 _ (by omega) (by omega)];omega
  have e:(decide ((j:Int)<((min t.length R.length:Nat):Int)))=true:=by simp only[ch];omega
  have b:(decide ((j:Int)<((min R.length t.length:Nat):Int)))=true:=by simp only[ch];omega
  simp only[e,b,aj,lj hc,lj h,ob,zr,gm hc,gm h,lcp];cases l:d==c with
  | true=>
   refine .inl ⟨_,rfl,⟨j+1,by omega,by rw[f]⟩,?_,?_⟩
   ·simp only[f,bX];omega
   ·simp only[f,bX,bC,tw,aN];omega
  | false=>exact .inr (by simp)
 ·have e:(decide ((j:Int)<((min t.length R.length:Nat):Int)))=false:=by simp only[tK];omega
  have b:(decide ((j:Int)<((min R.length t.length:Nat):Int)))=false:=by simp only[tK];omega
  refine .inr ?_;have m:lcp (R.drop j) (t.drop j)=0:=by
   by_cases i:j<t.length
   ·rw[mB (show R.length<=j by omega)];rfl
   ·rw[mB (show t.length<=j by omega)];cases R.drop j<;>rfl
  simp only[e,b,m,af,dK]
def AW(n:Nat)(t S:aa)(a:Nat)(h:a<=S.length)(b:S.length<4611686018427387904)(f:t.length<4611686018427387904)(d:t.length<n):
  cf n t S (a:Int)=some (if(S.drop a).take t.length=t then .inl (S,((a+t.length:Nat):Int))else .inr (((a+lcp (S.drop a) t:Nat):Int),5,S,(a:Int))):=by
 have e:=yk (S.drop a) t;rw[ci]at e;simp only[cf,nH n t S a h b,ob];by_cases hp:(S.drop a).take t.length=t
 ·simp[hp]
 ·have c:wrap .i64 ((a:Int)+((lcp (S.drop a) t:Nat):Int))=((a+lcp (S.drop a) t:Nat):Int):=by rw[wrap_i64 _ (by omega) (by omega)];omega
  simp only[hp,aF,af,uo n S a h,CY n t S (S.drop a) (a:Int) f d,DW,c,wq];simp
def tdR(r:DR):TD:=(r.1,r.2.1,r.2.2.1,(r.2.2.2.1:Int),(r.2.2.2.2.1:Int),r.2.2.2.2.2.1,r.2.2.2.2.2.2.1,(r.2.2.2.2.2.2.2.1.1:Int),(r.2.2.2.2.2.2.2.1.2.1:Int),(r.2.2.2.2.2.2.2.1.2.2:Int))
def oC{S:aa}{a:Nat}(h:a<=S.length){r:DR}(f:fL S a=.inr r):smT (tdR r)/\cF (tdR r)=0/\a<=enR r/\enR r<=S.length:=by
 obtain⟨c,b⟩:=Iu h f;obtain⟨g,l,dg,x,s,m,d,M,P,e⟩:=r;have ok:=HC h c;have:=ok.dg17;have:=ok.m2;have:=ok.d2;refine⟨⟨by show m.length<=18;omega,by show dg.length<=100;omega,by show d.length<=18;omega,by show(0:Int)<=(M.1:Int);omega,by show(0:Int)<=(M.2.1:Int);omega,by show(0:Int)<=(M.2.2:Int);omega⟩,?_,ok.le,ok.end_⟩;have hc:=AG (g:=g) (l:=l) (dg:=dg) (x:=(x:Int)) (q:=(s:Int)) (m:=m) (d:=d) (k0:=(M.1:Int)) (k1:=(M.2.1:Int)) (k2:=(M.2.2:Int)) (ya ok.all);unfold chkR at b;simp only[]at b;show chkF g l dg (x:Int) (s:Int) m d (M.1:Int) (M.2.1:Int) (M.2.2:Int)=0;omega
def dts(l:aa):Bool:=l.take 2==[46,46]
def xb{l:aa}:dts l=true↔∃r,l=46::46::r:=by
 unfold dts;rw[bL];constructor
 ·exact Ko
 ·rintro⟨r,rfl⟩;rfl
def ud{S:aa}{p:Nat}(h:dts (S.drop p)=true):p+2<=S.length:=by
 obtain⟨r,a⟩:=xb.1 h;have:=co List.length a;simp at this;omega
noncomputable def qL(S:aa)(b:UInt8)(p:Nat):(Nat×Nat×Nat)⊕(TI×Nat×Nat):=
 match fL S p with
 | .inl f=>.inl f
 | .inr r=>if dts (S.drop (enR r))=true/\(S.drop (enR r+2)).head?≠some b then
   match fL S (enR r+2)with
   | .inl f=>.inl f
   | .inr a=>.inr (mkI (tdR r) true (tdR a),plR r,enR a)
  else .inr (mkI (tdR r) false d0,plR r,enR r)
def C9{S:aa}{l:UInt8}{p:Nat}(h:p<=S.length){t:TI}{a d:Nat}(b:qL S l p=.inr (t,a,d)):smI t/\p<=d/\d<=S.length:=by
 unfold qL at b;cases e:fL S p with
 | inl f=>rw[e]at b;cases b
 | inr r=>
  obtain⟨g,_,n,j⟩:=oC h e;rw[e]at b;simp only[]at b;split at b
  ·rename_i i;have:=ud i.1;cases c:fL S (enR r+2)with
   | inl f=>rw[c]at b;cases b
   | inr o=>
    obtain⟨k,_,l3,m⟩:=oC (by omega) c;rw[c]at b;cases b;exact⟨⟨g,k⟩,by omega,m⟩
  ·cases b;exact⟨⟨g,oa⟩,n,j⟩
noncomputable def pR(S:aa)(c:UInt8):Nat->Nat->List Nat->List TI->(Nat×Nat×Nat)⊕(Nat×List Nat×List TI)
 | 0,p,_,_=>.inl (p,3,p)
 | r+1,p,P,I=>match qL S c p with
  | .inl f=>.inl f
  | .inr (t,a,b)=>if(S.drop b).head?=some 44 then pR S c r (b+1) (P++[a]) (I++[t])else .inr (b,P++[a],I++[t])
def n7{S:aa}{p:Nat}{c:UInt8}(h:(S.drop p).head?=some c):p+1<=S.length:=by
 cases b:S.drop p with
 | nil=>rw[b]at h;cases h
 | cons a r=>
  have:=co List.length b;simp at this;omega
def E6{S:aa}{i:UInt8}:∀(r p:Nat) (P:List Nat) (I:List TI),p<=S.length->P.length=I.length->(∀t∈I,smI t)->∀{d:Nat} {c:List Nat} {b:List TI},pR S i r p P I=.inr (d,c,b)->
  d<=S.length/\c.length=b.length/\I.length<b.length/\b.length<=I.length+r/\(∀t∈b,smI t)
 | 0,p,P,I,_,_,_,d,c,b,e=>by cases e
 | r+1,p,P,I,h,j,hs,d,c,b,e=>by
  rw[pR]at e;cases g:qL S i p with
  | inl f=>rw[g]at e;cases e
  | inr q=>
   obtain⟨t,a,n⟩:=q;obtain⟨m,z,l⟩:=C9 h g;rw[g]at e;simp only[]at e;have hs':∀u∈I++[t],smI u:=λu y=>by
    rcases kQ.1 y with h | h
    ·exact hs u h
    ·rw[lV.1 h];exact m
   split at e
   ·rename_i x;obtain⟨w,s,k,o,v⟩:=E6 r (n+1) (P++[a]) (I++[t]) (n7 x) (by simp[j]) hs' e;rw[aZ,C3]at k o;exact⟨w,s,by omega,by omega,v⟩
   ·cases e;exact⟨l,by simp[j],by simp,by simp,hs'⟩
def dts3(S:aa)(p:Nat)(c:UInt8):((S.drop p).take [46,46,c].length==[46,46,c])=(dts (S.drop p)&&decide ((S.drop (p+2)).head?=some c)):=by
 rw[<-kK];generalize S.drop p=l;unfold dts
 match l with
 | []=>rfl
 | [a]=>simp
 | [a,b]=>simp
 | a::b::d::r=>
  rw[vG];simp[and_assoc]
def endC(K:Int):UInt8:=if K=4 then 125 else 93
def yu{K:Int}(a:K=3\/K=4)(n:Nat):eS n K=some ([if K=4 then 123 else 91],[endC K]):=by
 rcases a with rfl | rfl<;>rfl
def WP(c:UInt8){S:aa}{p:Nat}(h:p<=S.length)(b i:Int)(g:Bool)(e:List Int)(a:TD)(f d:List TI):
  mn 20000000 [c] b S (p:Int) i g e a f d=some ([c],b,dts (S.drop p)&&!decide ((S.drop (p+2)).head?=some c),S,(p:Int),i,g,e,a,f,d):=by
 unfold mn;rw[NB _ _ _ _ h];have hc:cat [46,46] [c]=some [46,46,c]:=rfl;simp only[ob,hc,NB _ _ _ _ h,dts3];show cond (dts (S.drop p)) _ _=_;cases j:dts (S.drop p)
 ·rfl
 ·cases decide ((S.drop (p+2)).head?=some c)<;>rfl
def tk1(l:aa)(c:UInt8):l.take [c].length=[c]↔l.head?=some c:=by
 cases l<;>simp
def EB(S:aa)(r:DR):Wc S (.inr r)=.inr ((tdR r).1,(tdR r).2.1,(tdR r).2.2.1,(tdR r).2.2.2.1,(tdR r).2.2.2.2.1,(tdR r).2.2.2.2.2.1,(tdR r).2.2.2.2.2.2.1,(tdR r).2.2.2.2.2.2.2.1,(tdR r).2.2.2.2.2.2.2.2.1,(tdR r).2.2.2.2.2.2.2.2.2,((plR r:Nat):Int),S,((enR r:Nat):Int)):=rfl
def WE(b:Bool)(c:UInt8){S:aa}{p:Nat}(h:p<=S.length)(n:S.length<100000)(m:b=true->dts (S.drop p)=true)(e k:Int)(i:Bool)(d:List Int)(j:TD)(g a:List TI):
  mq 20000000 [c] e b S (p:Int) k i d j g a=some (if b=true then(match fL S (p+2)with
   | .inl f=>.inl ((f.1:Int),(f.2.1:Int),S,(f.2.2:Int))
   | .inr r=>.inr ([c],e,S,((enR r:Nat):Int),k,i,d,j,true,tdR r,g,a))else .inr ([c],e,S,(p:Int),k,i,d,j,false,d0,g,a)):=by
 unfold mq;cases b
 ·rfl
 ·have l:=m rfl;have s:=ud l;have q:(S.drop p).take [(46:UInt8),46].length=[46,46]:=by
   obtain⟨r,o⟩:=xb.1 l;rw[o];rfl
  rw[aj,AW _ _ _ _ h (by omega) (by simp) (by simp),ae q,ae rfl];show obs (iy 20000000 S ((p+2:Nat):Int)) _ _=_;rw[GB S (p+2) s n];cases fL S (p+2)with
  | inl f=>rfl
  | inr r=>rfl
def AV{α:Type}{I:List α}(h:I.length<=256):Nat.ble (I.length+1) bJ=true:=cD (by unfold bJ;omega)
abbrev pA(P:List Nat):List Int:=P.map λk:Nat=>(k:Int)
def UQ(c:UInt8){S:aa}{p:Nat}(h:p<=S.length)(u:S.length<100000)(K:Int)(e:Bool){P:List Nat}(J:List TI){I:List TI}(A:I.length<256)(B:P.length=I.length):
  fA 20000000 ([c],S,(p:Int),K,e,pA P,J,I)=some (match qL S c p with
   | .inl f=>.inr (.inl ((f.1:Int),(f.2.1:Int),S,(f.2.2:Int)))
   | .inr (t,a,b)=>if(S.drop b).head?=some 44 then .inl ([c],S,((b+1:Nat):Int),K,e,pA (P++[a]),J,I++[t])
    else .inr (.inr ([c],S,((if dts (S.drop b)then b+2 else b:Nat):Int),0,d0,0,d0,0,d0,false,false,K,d0,0,d0,0,d0,e,dts (S.drop b),pA (P++[a]),J,I++[t]))):=by
 have fin:∀(t:TI) (a b:Nat),b<=S.length->(ob (aC 20000000 [44] S (b:Int)) (u3 λo g l=>(cond o (some (.inl ([c],g,l,K,e,(pA P++([(a:Int)]:List (Int))),J,(I++([t]:List TI))))) (ob (aC 20000000 [46,46] g l) (u3 λn k i=>(cond n (some (.inr (.inr ([c],k,i,0,d0,0,d0,0,d0,false,false,K,d0,0,d0,0,d0,e,true,(pA P++([(a:Int)]:List (Int))),J,(I++([t]:List TI)))))) (some (.inr (.inr ([c],k,i,0,d0,0,d0,0,d0,false,false,K,d0,0,d0,0,d0,e,false,(pA P++([(a:Int)]:List (Int))),J,(I++([t]:List TI))))))))))):Option ((aa×aa×Int×Int×Bool×List (Int)×List TI×List TI)⊕((Int×Int×aa×Int)⊕(aa×aa×Int×Int×TD×Int×TD×Int×TD×Bool×Bool×Int×TD×Int×TD×Int×TD×Bool×Bool×List (Int)×List TI×List TI)))) =
   some (if(S.drop b).head?=some 44 then .inl ([c],S,((b+1:Nat):Int),K,e,pA (P++[a]),J,I++[t])
    else .inr (.inr ([c],S,((if dts (S.drop b)then b+2 else b:Nat):Int),0,d0,0,d0,0,d0,false,false,K,d0,0,d0,0,d0,e,dts (S.drop b),pA (P++[a]),J,I++[t]))):=by
  intro t a b j;have v:pA (P++[a])=pA P++[(a:Int)]:=by simp[pA]
  rw[nH _ _ _ _ j (by omega),v];simp only[ob,u3,u2,tk1];by_cases hc:(S.drop b).head?=some 44
  ·rw[ae hc,ae hc];rfl
  ·rw[ab hc,ab hc];simp only[af];rw[nH _ _ _ _ j (by omega)];cases d:dts (S.drop b)
   ·rw[ab (show¬(S.drop b).take [(46:UInt8),46].length=[46,46]fromλh=>by unfold dts at d;rw[show(S.drop b).take 2=[46,46]from h]at d;cases d)];rfl
   ·rw[ae (show(S.drop b).take [(46:UInt8),46].length=[46,46]from eq_of_beq d)];rfl
 unfold fA;simp only[u8,u7,u6,u5,u4,u3,u2];rw[show(len I==256)=false from by show(((I.length:Nat):Int)==256)=false;simp;omega,af,GB S p h u];unfold qL;cases x:fL S p with
 | inl f=>rfl
 | inr r=>
  obtain⟨z,_,C,m⟩:=oC h x;rw[EB];simp only[obs,sm,ob];rw[show(d4 (d8 ((tdR r).1,(tdR r).2.1,(tdR r).2.2.1,(tdR r).2.2.2.1,(tdR r).2.2.2.2.1,(tdR r).2.2.2.2.2.1,(tdR r).2.2.2.2.2.2.1,(tdR r).2.2.2.2.2.2.2.1,(tdR r).2.2.2.2.2.2.2.2.1,(tdR r).2.2.2.2.2.2.2.2.2,((plR r:Nat):Int),S,((enR r:Nat):Int))))=((enR r:Nat):Int)from rfl,WP c m];simp only[u11,u10,u9,u8,u7,u6,u5,u4,u3,u2];rw[WE _ c m u (λh=>by simp at h;exact h.1)];have q:(dts (S.drop (enR r))&&!decide ((S.drop (enR r+2)).head?=some c))=true↔(dts (S.drop (enR r))=true/\(S.drop (enR r+2)).head?≠some c):=by simp
  by_cases d:dts (S.drop (enR r))=true/\(S.drop (enR r+2)).head?≠some c
  ·rw[ae (q.2 d),ae d];cases w:fL S (enR r+2)with
   | inl f=>rfl
   | inr s=>
    obtain⟨D,_,l3,y⟩:=oC (ud d.1) w;simp only[u12,u11,u10,u9,u8,u7,u6,u5,u4,u3,u2];rw[AV (by omega),AV (by simp;omega)];exact fin (mkI (tdR r) true (tdR s)) (plR r) (enR s) y
  ·rw[ab (λh=>d (q.1 h)),ab d];simp only[u12,u11,u10,u9,u8,u7,u6,u5,u4,u3,u2];rw[AV (by omega),AV (by simp;omega)];exact fin (mkI (tdR r) false d0) (plR r) (enR r) m
def Uw(c:UInt8)(S:aa)(p K:Int)(e:Bool)(P:List Int)(J:List TI){I:List TI}(a:I.length=256):
  fA 20000000 ([c],S,p,K,e,P,J,I)=some (.inr (.inl (p,3,S,p))):=by
 unfold fA;simp only[u8,u7,u6,u5,u4,u3,u2];rw[show(len I==256)=true from by show(((I.length:Nat):Int)==256)=true;rw[a];rfl];rfl
def Zx(S:aa)(c:UInt8)(K:Int)(e:Bool)(J:List TI):(Nat×Nat×Nat)⊕(Nat×List Nat×List TI)->(Int×Int×aa×Int)⊕(aa×aa×Int×Int×TD×Int×TD×Int×TD×Bool×Bool×Int×TD×Int×TD×Int×TD×Bool×Bool×List (Int)×List TI×List TI)
 | .inl f=>.inl ((f.1:Int),(f.2.1:Int),S,(f.2.2:Int))
 | .inr (p,P,I)=>.inr ([c],S,((if dts (S.drop p)then p+2 else p:Nat):Int),0,d0,0,d0,0,d0,false,false,K,d0,0,d0,0,d0,e,dts (S.drop p),pA P,J,I)
def Tu(c:UInt8){S:aa}(i:S.length<100000)(K:Int)(e:Bool)(J:List TI):∀(r p:Nat) (P:List Nat) (I:List TI),I.length+r=256->p<=S.length->P.length=I.length->∀N,r<N->
  av (fA 20000000) N ([c],S,(p:Int),K,e,pA P,J,I)=some (Zx S c K e J (pR S c r p P I)):=by
 intro r
 induction r with
 | zero=>
  intro p P I j hp b N g;obtain⟨N,rfl⟩:∃k,N=k+1:=⟨N - 1,by omega⟩;rw[av,Uw c S _ K e _ J (by omega)];rfl
 | succ r ih=>
  intro p P I j hp b N g;obtain⟨N,rfl⟩:∃k,N=k+1:=⟨N - 1,by omega⟩;rw[av,UQ c hp i K e J (by omega) b,pR];cases h:qL S c p with
  | inl f=>rfl
  | inr q=>
   obtain⟨t,a,d⟩:=q;obtain⟨_,m,l⟩:=C9 hp h;simp only[];by_cases hc:(S.drop d).head?=some 44
   ·rw[ae hc,ae hc];exact ih (d+1) (P++[a]) (I++[t]) (by simp;omega) (n7 hc) (by simp[b]) N (by omega)
   ·rw[ab hc,ab hc];rfl
def uF{X a Y b:Type}{s:X->Option (X⊕Y)}{s':a->Option (a⊕b)}(f:X->a)(g:Y->b)(h:∀x,s' (f x)=(s x).map (Sum.map f g)):∀(n:Nat) (x:X),av s' n (f x)=(av s n x).map g
 | 0,_=>rfl
 | n+1,x=>by
  rw[av,av,h];cases s x with
  | none=>rfl
  | some z=>
   cases z with
   | inl y=>exact uF f g h n y
   | inr y=>rfl
def VK(n:Nat)(K:Int)(D:TD)(KF:Int)(DF:TD)(KT:Int)(DT:TD)(c:Nat)(e l:Bool)(L:List TI):nj n K D KF DF KT DT L.length c e l L=lT n K D KF DF KT DT e l L:=by
 unfold nj lT;have:=uF (s:=fK n) (s':=ko n) (u12 λx0 f d g p o k h m j b a=>(d.length,c,x0,f,d,g,p,o,k,h,m,d.length,c,j,b,a)) id (by
  rintro⟨x0,f,d,g,p,o,k,h,m,j,b,a⟩;unfold fK ko;simp only[u16,u15,u14,u13,u12,u11,u10,u9,u8,u7,u6,u5,u4,u3,u2];cases decide (f<x0)
  ·rfl
  ·simp only[aj];cases ix d.length f with
   | none=>rfl
   | some i=>
    simp only[ob];cases d[i]? with
    | none=>rfl
    | some t=>
     simp only[ob];cases ge n (iF t) (d8 t).2.2.1 (d8 t).2.2.2 g with
     | none=>rfl
     | some v=>
      simp only[ob];rw[show mT n v 10 10 10 (iF t) (d8 t).2.2.1 (d8 t).2.2.2 g p o k h m d.length c j b f a d=gF n v 10 10 10 (iF t) (d8 t).2.2.1 (d8 t).2.2.2 g p o k h m j b f a d from rfl];cases gF n v 10 10 10 (iF t) (d8 t).2.2.1 (d8 t).2.2.2 g p o k h m j b f a d with
      | none=>rfl
      | some z=>
       simp only[ob];cases(z != 0)<;>rfl) n (len L,0,L,K,D,KF,DF,KT,DT,e,l,w64 (len L - 1))
 simp only[u12,u11,u10,u9,u8,u7,u6,u5,u4,u3,u2]at this;rw[show(L.length,c,((L.length:Nat):Int),(0:Int),L,K,D,KF,DF,KT,DT,L.length,c,e,l,w64 (((L.length:Nat):Int) - 1))=(L.length,c,len L,0,L,K,D,KF,DF,KT,DT,L.length,c,e,l,w64 (len L - 1))from rfl,this];rw[Option.map_id];rfl
def MH(n:Nat)(K:Int)(D:TD)(KF:Int)(DF:TD)(KT:Int)(DT:TD)(c:Nat)(e l:Bool)(L:List TI):gp n K D KF DF KT DT L.length c e l L=lR n K D KF DF KT DT e l L:=by
 unfold gp lR;rw[VK,show oW n K D KF DF KT DT L.length c e l L=mE n K D KF DF KT DT e l L from rfl]
def JS{K:Int}{D:TD}{KF:Int}{DF:TD}{KT:Int}{DT:TD}{e l:Bool}{L:List TI}(h:smE D DF DT L)(c:Nat):
  gp 20000000 K D KF DF KT DT L.length c e l L=some (fj K D KF DF KT DT e l L):=(MH _ _ _ _ _ _ _ _ _ _ _).trans (Hm h)
noncomputable def setE(K:Int)(e l:Bool)(I:List TI):Int×Int:=fj K d0 0 d0 0 d0 e l I
noncomputable def endL(S:aa)(K:Int)(e:Bool)(p:Nat)(P:List Nat)(I:List TI):(Nat×Nat×Nat)⊕(Int×Bool×Bool×List TI×Nat):=
 if(S.drop (if dts (S.drop p)then p+2 else p)).head?=some (endC K)then
  if(setE K e (dts (S.drop p)) I).2=0 then .inr (K,e,dts (S.drop p),I,(if dts (S.drop p)then p+2 else p)+1)
  else .inl (P.getD (setE K e (dts (S.drop p)) I).1.toNat 0,10,(if dts (S.drop p)then p+2 else p)+1)
 else .inl ((if dts (S.drop p)then p+2 else p),5,(if dts (S.drop p)then p+2 else p))
noncomputable def E3(S:aa)(a:Nat)(K:Int):(Nat×Nat×Nat)⊕(Int×Bool×Bool×List TI×Nat):=
 match pR S (endC K) 256 (if dts (S.drop (a+1))then a+3 else a+1) [] []with
 | .inl f=>.inl f
 | .inr (p,P,I)=>endL S K (dts (S.drop (a+1))) p P I
noncomputable def wT(S:aa)(a:Nat):(Nat×Nat×Nat)⊕(Int×Bool×Bool×List TI×Nat):=
 if(S.drop a).head?=some 91 then E3 S a 3 else if(S.drop a).head?=some 123 then E3 S a 4 else .inl (a,5,a)
def VQ{K:Int}(b:K=3\/K=4){e l:Bool}{I:List TI}(a:1<=I.length):∃i:Nat,(setE K e l I).1=(i:Int)/\i<I.length:=by
 have hi:∃i:Nat,(ye K e l I).1=(i:Int)/\i<I.length:=by
  unfold ye;have:∀(J:List TI) (k:Nat) (p:Nat×Int),oL (errI K e l I.length) k J=some p->p.1<k+J.length:=by
   intro J
   induction J with
   | nil=>intro k p h;cases h
   | cons t r ih=>
    intro k p h;rw[oL]at h;split at h
    ·cases h;simp
    ·have:=ih (k+1) p h;simp;omega
  cases hs:oL (errI K e l I.length) 0 I with
  | none=>exact⟨0,rfl,by omega⟩
  | some p=>exact⟨p.1,rfl,by have:=this I 0 p hs;omega⟩
 unfold setE fj;rw[ab (by omega)];split
 ·exact⟨0,rfl,by omega⟩
 ·rw[ab (by omega),ab (by omega),ab (by omega)];split
  ·exact⟨0,rfl,by omega⟩
  ·exact hi
def U6{I:List TI}(h:∀t∈I,smI t):smE d0 d0 d0 I:=⟨oa,oa,oa,h⟩
def X6(n:Nat)(I:List TI):bq n I=some (I.length,I.length):=by
 unfold bq;rw[eM (aU _)];show ob (bx I.length ((I.length:Nat):Int)) _=_;rw[eM (aU _)];rfl
def UU(S:aa):(Nat×Nat×Nat)⊕(Int×Bool×Bool×List TI×Nat)->(Int×Int×aa×Int)⊕(Int×TD×Int×TD×Int×TD×Nat×Nat×Bool×Bool×aa×Int×List TI)
 | .inl f=>.inl ((f.1:Int),(f.2.1:Int),S,(f.2.2:Int))
 | .inr (K,e,l,I,p)=>.inr (K,d0,0,d0,0,d0,I.length,I.length,e,l,S,(p:Int),I)
def XH {S:aa} (G:S.length<100000) {K:Int} (A:K=3\/K=4) (e:Bool) {p:Nat} (hp:p<=S.length) {P:List Nat} {I:List TI} (E:P.length=I.length) (C:1<=I.length) (hs:∀t∈I,smI t):
  (obs (cf 20000000 [endC K] S ((if dts (S.drop p) then p+2 else p:Nat):Int)) (u2 λb c=>(ob (bq 20000000 I) (u2 λf d=>(ob (gp 20000000 K d0 0 d0 0 d0 f d e (dts (S.drop p)) I) (u2 λx v=>(cond (v != 0) (ob (ix (List.length (pA P)) x) λs=>(ob ((pA P)[s]?) λj=>(ob (aO 20000000 j 10 b c) (u2 λw n=>(some (.inl (w,n,b,c))))))) (some (.inr (K,d0,0,d0,0,d0,f,d,e,(dts (S.drop p)),b,c,I))))))))) (u4 λk u o m=>(some (.inl (k,u,o,m))))) =
   some (UU S (endL S K e p P I)):=by
 have B:(if dts (S.drop p) then p+2 else p:Nat)<=S.length:=by
  split
  ·rename_i h;exact ud h
  ·exact hp
 unfold endL;generalize (if dts (S.drop p) then p+2 else p:Nat)=q at *;generalize dts (S.drop p)=l;rw [AW _ _ _ _ B (by omega) (by simp) (by simp)];simp only [tk1];by_cases hc:(S.drop q).head?=some (endC K)
 ·rw [ae hc,ae hc];simp only [obs,sm,ob,u2,X6,JS (U6 hs)];obtain ⟨i,D,F⟩:=VQ A (e:=e) (l:=l) C;show cond ((setE K e l I).2 != 0) (ob (ix (pA P).length (setE K e l I).1) _) _=_;by_cases g:(setE K e l I).2=0
  ·rw [ae g,show ((setE K e l I).2 != 0)=false from by simp [g]];rfl
  ·have hi:i<(pA P).length:=by simp [pA];omega
   rw [ab g,show ((setE K e l I).2 != 0)=true from by simp [g],D,cT hi];have z:(pA P)[i]?=some ((P.getD i 0:Nat):Int):=by
    have hi':i<P.length:=by omega
    simp [pA,bu hi']
   simp only [aj,ob,z];rfl
 ·rw [ab hc,ab hc];have:lcp (S.drop q) [endC K]=0:=by
   cases y:S.drop q with
   | nil=>rfl
   | cons a r=>
    rw [y] at hc;simp only [lcp];rw [show (a==endC K)=false from by rw [aK];rintro rfl;exact hc rfl];rfl
  rw [this];rfl
def UZ{S:aa}{a:Nat}(h:a<=S.length)(hS:S.length<100000):nP 20000000 S (a:Int)=some (UU S (wT S a)):=by
 have b:∀(K:Int) (z:K=3\/K=4) (i:a+1<=S.length),(ob (nI 20000000 (K==4) S ((a+1:Nat):Int) ([]:List TI) ([]:List TI)) (u5 λv7 v8 v9 T E=>(ob (eS 20000000 v9) (u2 λ_ Z=>(ob (aC 20000000 [46,46] v7 v8) (u3 λG L v15=>(obs (av (fA 20000000) 20000000 (Z,L,v15,v9,G,([]:List (Int)),T,E)) (u4 λN B Q v19=>(some (.inl (N,B,Q,v19)))) (u22 λM U X _ _ _ _ _ _ _ _ x w l s m v n u o _ e=>(obs (cf 20000000 M U X) (u2 λd g=>(ob (bq 20000000 e) (u2 λy k=>(ob (gp 20000000 x w l s m v y k n u e) (u2 λv37 Y=>(cond (Y != 0) (ob (ix (List.length o) v37) λR=>(ob (o[R]?) λA=>(ob (aO 20000000 A 10 d g) (u2 λv41 H=>(some (.inl (v41,H,d,g))))))) (some (.inr (x,w,l,s,m,v,y,k,n,u,d,g,e))))))))) (u4 λD V J F=>(some (.inl (D,V,J,F))))))))))))) =
   some (UU S (E3 S a K)):=by
  intro K z i;have hj:nI 20000000 (K==4) S ((a+1:Nat):Int) ([]:List TI) ([]:List TI)=some (S,((a+1:Nat):Int),K,[],[]):=by
   rcases z with rfl | rfl<;>rfl
  have C:aC 20000000 [46,46] S ((a+1:Nat):Int)=some (dts (S.drop (a+1)),S,((if dts (S.drop (a+1))then a+3 else a+1:Nat):Int)):=by
   rw[nH _ _ _ _ i (by omega)];cases j:dts (S.drop (a+1))
   ·rw[ab (show¬(S.drop (a+1)).take [(46:UInt8),46].length=[46,46]fromλh=>by unfold dts at j;rw[show(S.drop (a+1)).take 2=[46,46]from h]at j;cases j)];rfl
   ·rw[ae (show(S.drop (a+1)).take [(46:UInt8),46].length=[46,46]from eq_of_beq j)];rfl
  have hp:(if dts (S.drop (a+1))then a+3 else a+1:Nat)<=S.length:=by
   split
   ·rename_i h;have:=ud h;omega
   ·exact i
  have hl:=Tu (endC K) hS K (dts (S.drop (a+1))) [] 256 (if dts (S.drop (a+1))then a+3 else a+1) [] [] (by simp) hp rfl 20000000 (by omega);simp only[hj,yu z,C,ob,u5,u4,u3,u2];rw[show av (fA 20000000) 20000000 ([endC K],S,((if dts (S.drop (a+1))then a+3 else a+1:Nat):Int),K,dts (S.drop (a+1)),([]:List Int),([]:List TI),([]:List TI))=_ from hl];unfold E3;cases hr:pR S (endC K) 256 (if dts (S.drop (a+1))then a+3 else a+1) [] []with
  | inl f=>rfl
  | inr q=>
   obtain⟨p,P,I⟩:=q;obtain⟨q1,q2,q3,q4,q5⟩:=E6 256 _ [] [] hp rfl (λt C=>by cases C) hr;have q3':1<=I.length:=by rw[cE]at q3;omega
   exact XH hS z (dts (S.drop (a+1))) q1 q2 q3' q5
 unfold nP wT;rw[C2 _ _ _ _ h (by omega)];cases j:S.drop a with
 | nil=>rfl
 | cons c r=>
  have i:a+1<=S.length:=by
   have:=co List.length j;simp at this;omega
  simp only[oO,aq];by_cases W:c=91
  ·subst W;rw[ae rfl];exact b 3 (.inl rfl) i
  ·by_cases O:c=123
   ·subst O;rw[ae rfl];exact b 4 (.inr rfl) i
   ·rw[ab W,ab O];have:hasB [91,123] c=false:=by
     unfold hasB;simp only[vI,List.any_nil,DN,qO,aK];exact⟨λh=>W h.symm,λh=>O h.symm⟩
    rw[this];rfl
def rat(l:aa):Nat:=match l with | c::_=>c.toNat | []=>0
def Xr(l:aa)(c:UInt8)(hc:c≠0):(((rat l:Nat):Int)==((c.toNat:Nat):Int))=decide (l.head?=some c):=by
 cases l with
 | nil=>
  rw[au (by simp)];rw[aK];intro h;have b:c.toNat=0:=by
   have:((0:Nat):Int)=((c.toNat:Nat):Int):=h;omega
  exact hc (iE.1 (by rw[b];rfl))
 | cons a r=>
  show(((a.toNat:Nat):Int)==((c.toNat:Nat):Int))=_;rw[zr];rw[vG];simp
def Jr{S:aa}{e:UInt8}{p:Nat}(h:p<=S.length){f:Nat×Nat×Nat}(a:qL S e p=.inl f):f.2.1≠0:=by
 unfold qL at a;cases c:fL S p with
 | inl g=>rw[c]at a;cases a;exact xI (k:=f.1) (E:=f.2.1) (p:=f.2.2) h c
 | inr r=>
  rw[c]at a;simp only[]at a;split at a
  ·rename_i d;cases b:fL S (enR r+2)with
   | inl g=>rw[b]at a;cases a;exact xI (k:=f.1) (E:=f.2.1) (p:=f.2.2) (ud d.1) b
   | inr i=>rw[b]at a;cases a
  ·cases a
def zE{S:aa}{c:UInt8}:∀(r p:Nat) (P:List Nat) (I:List TI),p<=S.length->∀{f:Nat×Nat×Nat},pR S c r p P I=.inl f->f.2.1≠0
 | 0,p,P,I,_,f,e=>by cases e;simp
 | r+1,p,P,I,h,f,e=>by
  rw[pR]at e;cases b:qL S c p with
  | inl g=>rw[b]at e;cases e;exact Jr h b
  | inr q=>
   obtain⟨t,a,d⟩:=q;rw[b]at e;simp only[]at e;split at e
   ·rename_i i;exact zE r (d+1) _ _ (n7 i) e
   ·cases e
def Ll{S:aa}{a:Nat}(h:a<=S.length){f:Nat×Nat×Nat}(b:wT S a=.inl f):f.2.1≠0:=by
 have c:∀i:Int,a+1<=S.length->E3 S a i=.inl f->f.2.1≠0:=by
  intro i j b;unfold E3 at b;have hp:(if dts (S.drop (a+1))then a+3 else a+1:Nat)<=S.length:=by
   split
   ·rename_i h;have:=ud h;omega
   ·exact j
  cases d:pR S (endC i) 256 (if dts (S.drop (a+1))then a+3 else a+1) [] []with
  | inl g=>rw[d]at b;cases b;exact zE 256 _ _ _ hp d
  | inr q=>
   obtain⟨e,P,J⟩:=q;rw[d]at b;simp only[]at b;unfold endL at b;generalize(if dts (S.drop e)then e+2 else e:Nat)=k at b;split at b
   ·split at b
    ·cases b
    ·cases b;simp
   ·cases b;simp
 unfold wT at b;split at b
 ·rename_i d;exact c 3 (n7 d) b
 ·split at b
  ·rename_i d;exact c 4 (n7 d) b
  ·cases b;simp
noncomputable def IG(S:aa):(Nat×Nat)⊕(Int×Bool×Bool×List TI):=match wT S 0 with
 | .inl f=>.inl (f.1,f.2.1)
 | .inr (K,e,l,I,p)=>if p<S.length then .inl (p,5)else .inr (K,e,l,I)
def brk(c:UInt8):Bool:=c==33||c==44||c==46||c==47||c==91||c==93||c==123||c==125
def TY:∀c,(!brk c||(!isYC c&&(!isMk c&&(!(c==45)&&!isDX c))))=true:=jz (λc=>!brk c||(!isYC c&&(!isMk c&&(!(c==45)&&!isDX c)))) (by decide +kernel)
def IP{c:UInt8}(h:brk c=true):isYC c=false/\isMk c=false/\(c==45)=false/\isDX c=false:=by
 have:=TY c;rw[h]at this;simpa[aB]using this
def Xn{c:UInt8}(h:isDX c=true):brk c=false:=by
 cases a:brk c
 ·rfl
 ·rw[(IP a).2.2.2]at h;cases h
def endT(l:aa):Prop:=∀c,l.head?=some c->brk c=true
def Uj{l:aa}(h:endT l):dl isYC l/\dl isMk l/\dl (λc=>c==45) l:=⟨λc hc=>(IP (h c hc)).1,λc hc=>(IP (h c hc)).2.1,λc hc=>(IP (h c hc)).2.2.1⟩
def Hl:endT []:=λc h=>by cases h
def rL{c:UInt8}{l:aa}(h:brk c=true):endT (c::l):=λa b=>by
 simp only[oO,aq]at b;rw[<-b];exact h
def Ox{g l:Bool}{d:aa}{x s:Nat}(h:okY g l d (x:Int) (s:Int))(r:aa):dl brk (ir g l d (x:Int) (s:Int)++r):=by
 have a:d≠[]:=by
  have:=(iJ h).2.2.2.2.1;rintro rfl;simp at this
 rw[lP];cases l with
 | true=>exact eG (by decide)
 | false=>
  cases g with
  | true=>exact eG (by decide)
  | false=>
   simp only[bQ,aF,dO,f8];exact wc a (OC h) (λc=>Xn)
def gx(x:TD):aa:=tU x.1 x.2.1 x.2.2.1 x.2.2.2.1 x.2.2.2.2.1 x.2.2.2.2.2.1 x.2.2.2.2.2.2.1 x.2.2.2.2.2.2.2.1.toNat x.2.2.2.2.2.2.2.2.1.toNat x.2.2.2.2.2.2.2.2.2.toNat
def pa{x:TD}(hs:smT x)(hc:cF x=0):∃(g l:Bool) (dg:aa) (e q:Nat) (m d:aa) (a b c:Nat),x=(g,l,dg,(e:Int),(q:Int),m,d,(a:Int),(b:Int),(c:Int))/\OkD g l dg e q m d a b c:=by
 have h:=pJ hc;obtain⟨g,l,dg,e,q,m,d,k0,k1,k2⟩:=x;obtain⟨r,p,a,b,c,i,f,k,j,n,o⟩:=IZ hs.2.2.2.1 hs.2.2.2.2.1 hs.2.2.2.2.2 h;simp only at i f k j n;subst i f k j n;exact⟨_,_,_,_,_,_,_,_,_,_,rfl,o⟩
def dfT{x:TD}(hs:smT x)(hc:cF x=0):ap10 (bR 20000000) x=some (gx x,0):=by
 have:=HG 19999700 x.1 x.2.1 x.2.2.1 x.2.2.2.1 x.2.2.2.2.1 x.2.2.2.2.2.1 x.2.2.2.2.2.2.1 x.2.2.2.2.2.2.2.1 x.2.2.2.2.2.2.2.2.1 x.2.2.2.2.2.2.2.2.2 hs.1 hs.2.1 hs.2.2.2.1 hs.2.2.2.2.1 hs.2.2.2.2.2;rw[ae (pJ hc)]at this;exact this
def pO{x:TD}(hs:smT x)(hc:cF x=0):(gx x).length<=37:=by
 obtain⟨g,l,dg,e,q,m,d,a,b,c,rfl,ok⟩:=pa hs hc;exact Nx ok
def nS{x:TD}(hs:smT x)(hc:cF x=0)(r:aa):dl brk (gx x++r):=by
 obtain⟨g,l,dg,e,q,m,d,a,b,c,rfl,ok⟩:=pa hs hc;show dl brk (tU g l dg (e:Int) (q:Int) m d a b c++r);unfold tU cU;rw[f8,f8,f8];exact Md _ (by decide) (by decide) (by decide) (Ox ok.yr _)
def rR{l:aa}(h:dl brk l):dts l=false:=by
 cases a:dts l
 ·rfl
 ·obtain⟨r,rfl⟩:=xb.1 a;exact absurd (h 46 rfl) (by decide)
def zA{x:TD}(hs:smT x)(hc:cF x=0){S:aa}{a:Nat}{post:aa}(h:S.drop a=gx x++post)(hp:endT post):∃r,fL S a=.inr r/\tdR r=x/\enR r=a+(gx x).length:=by
 obtain⟨g,l,dg,e,q,m,d,k0,k1,k2,rfl,ok⟩:=pa hs hc;obtain⟨b,j,c⟩:=Uj hp;obtain⟨P,i⟩:=KC ok (S:=S) (a:=a) (post:=post) h b j c;refine⟨(g,l,dg,e,q,m,d,(k0,k1,k2),P,a+(tU g l dg (e:Int) (q:Int) m d k0 k1 k2).length),?_,rfl,rfl⟩;unfold fL;rw[i];have f:chkR (g,l,dg,e,q,m,d,(k0,k1,k2),P,a+(tU g l dg (e:Int) (q:Int) m d k0 k1 k2).length)=0:=by
  unfold chkR;simp only[];have:chkF g l dg (e:Int) (q:Int) m d (k0:Int) (k1:Int) (k2:Int)=0:=hc;rw[this];rfl
 simp only[];rw[ae f]
structure OkI(t:TI):Prop where
 sm:smI t
 a:cF (iF t)=0
 b:rT t=true->cF (iT t)=0
 n:rT t=false->iT t=d0
def eY(t:TI):aa:=if rT t then gx (iF t)++([46,46]++gx (iT t))else gx (iF t)
def Eo{t:TI}(h:OkI t):(eY t).length<=76:=by
 have e:=pO h.sm.1 h.a;unfold eY;split
 ·rename_i c;have d:=pO h.sm.2 (h.b c);simp only[aZ,aG,cE];omega
 ·omega
def MA{t:TI}(h:OkI t)(r:aa):dl brk (eY t++r):=by
 unfold eY;split
 ·rw[f8];exact nS h.sm.1 h.a _
 ·exact nS h.sm.1 h.a _
def wS{t:TI}(ok:OkI t){f:UInt8}(i:brk f=true){S:aa}{p:Nat}{post:aa}(h:S.drop p=eY t++post)(hp:endT post)(q:dts post=true->(post.drop 2).head?=some f):
  ∃a,qL S f p=.inr (t,a,p+(eY t).length):=by
 unfold eY at h ⊢;unfold qL;cases c:rT t with
 | true=>
  rw[c,ae rfl,f8,f8]at h;obtain⟨r,j,g,d⟩:=zA ok.sm.1 ok.a h (rL (by decide));have e:S.drop (enR r)=[46,46]++(gx (iT t)++post):=by rw[d];exact hZ h
  have m:S.drop (enR r+2)=gx (iT t)++post:=hZ (u:=[46,46]) e;have o:dts (S.drop (enR r))=true:=by rw[e];rfl
  have v:(S.drop (enR r+2)).head?≠some f:=by
   rw[m];intro x;have:=nS ok.sm.2 (ok.b c) post f x;rw[i]at this;cases this
  obtain⟨z,s,y,w⟩:=zA ok.sm.2 (ok.b c) m hp;refine⟨plR r,?_⟩;rw[j];simp only[];rw[ae ⟨o,v⟩,s];simp only[aN];rw[g,y,w,d];have:mkI (iF t) true (iT t)=t:=by rw[<-c]
  rw[this];have:p+(gx (iF t)).length+2+(gx (iT t)).length=p+(gx (iF t)++([46,46]++gx (iT t))).length:=by simp only[aZ,aG,cE];omega
  rw[this]
 | false=>
  rw[c]at h;simp only[bQ,aF]at h;obtain⟨r,j,g,d⟩:=zA ok.sm.1 ok.a h hp;have e:S.drop (enR r)=post:=by rw[d];exact hZ h
  refine⟨plR r,?_⟩;rw[j];simp only[];rw[ab,g,d]
  ·have:mkI (iF t) false d0=t:=by rw[<-c,<-ok.n c]
   rw[this];simp only[bQ,aF]
  ·rintro⟨l,k⟩;rw[e]at l;rw[<-kK,e]at k;exact k (q l)
def lC(I:List TI):aa:=(I.map λt=>44::eY t).flatten
def wF{f:UInt8}(b:brk f=true)(c:f≠44){post:aa}(hp:endT post)(d:post.head?≠some 44)(j:dts post=true->(post.drop 2).head?=some f):∀(I:List TI) (t:TI) (r p:Nat) {S:aa} (P:List Nat) (J:List TI),OkI t->(∀u∈I,OkI u)->I.length<r->S.drop p=eY t++(lC I++post)->
  ∃i,pR S f r p P J=.inr (p+(eY t++lC I).length,i,J++t::I)
 | [],t,r+1,p,S,P,J,ok,_,k,h=>by
  obtain⟨a,g⟩:=wS ok b (post:=post) (by simpa[lC]using h) hp j;refine⟨P++[a],?_⟩;rw[pR,g];simp only[];have e:S.drop (p+(eY t).length)=post:=hZ (by simpa[lC]using h);rw[e,ab d];simp[lC]
 | u::I,t,r+1,p,S,P,J,ok,oks,k,h=>by
  have s:lC (u::I)++post=44::(eY u++(lC I++post)):=by simp[lC]
  rw[s]at h
  obtain⟨a,g⟩:=wS ok b (post:=44::(eY u++(lC I++post))) h (rL (by decide)) (λl=>by
   obtain⟨r,o⟩:=xb.1 l;cases o)
  have e:S.drop (p+(eY t).length)=44::(eY u++(lC I++post)):=hZ h;have m:S.drop (p+(eY t).length+1)=eY u++(lC I++post):=hZ (u:=[44]) e;obtain⟨i,q⟩:=wF b c hp d j I u r (p+(eY t).length+1) (P++[a]) (J++[t]) (oks u l7) (λv n=>oks v (fD _ n)) (by simp at k;omega) m;refine⟨i,?_⟩;rw[pR,g];simp only[];rw[e,oO,ae rfl,q];have:p+(eY t).length+1+(eY u++lC I).length=p+(eY t++lC (u::I)).length:=by simp[lC];omega
  rw[this];simp
def tz(K:Int)(e l:Bool)(I:List TI):aa:=
 (if K=4 then 123 else 91)::((if e then[46,46]else[])++(Lib.join (I.map eY) [44]++((if l then[46,46]else[])++[endC K])))
def Ee(t:TI)(I:List TI):Lib.join ((t::I).map eY) [44]=eY t++lC I:=by
 rw[gN,Lib.join_cons];unfold Lib.joinTail lC;rw[tq];rfl
def J6{K:Int}(q:K=3\/K=4){e l:Bool}{I:List TI}(z:1<=I.length)(w:I.length<=256)(ok:∀t∈I,OkI t)(B:(setE K e l I).2=0){S:aa}{a:Nat}{post:aa}(h:S.drop a=tz K e l I++post):
  wT S a=.inr (K,e,l,I,a+(tz K e l I).length):=by
 obtain⟨t,J,rfl⟩:∃t J,I=t::J:=by
  cases I with
  | nil=>simp at z
  | cons t J=>exact⟨t,J,rfl⟩
 have f:brk (endC K)=true:=by unfold endC;split<;>decide
 have c:endC K≠44:=by unfold endC;split<;>decide
 have g:endC K≠46:=by unfold endC;split<;>decide
 unfold tz at h ⊢;rw[Ee]at h ⊢;have m:S.drop (a+1)=(if e then[46,46]else[])++((eY t++lC J)++((if l then[46,46]else[])++(endC K::post))):=by
  have:=hZ (u:=[if K=4 then 123 else 91]) (v:=((if e then[46,46]else[])++((eY t++lC J)++((if l then[46,46]else[])++[endC K])))++post) (by rw[h];rfl);rw[show a+1=a+[if K=4 then(123:UInt8)else 91].length from rfl,this];simp only[f8,List.singleton_append]
 have C:dts (S.drop (a+1))=e:=by
  rw[m];cases e
  ·simp only[bQ,aF,dO];rw[f8];exact rR (MA (ok t l7) _)
  ·rfl
 have n:S.drop (if e then a+3 else a+1)=eY t++(lC J++((if l then[46,46]else[])++(endC K::post))):=by
  rw[<-f8];cases e
  ·simpa using m
  ·have:=hZ (u:=[46,46]) m;simpa using this
 have x:endT ((if l then[46,46]else[])++(endC K::post)):=by
  cases l
  ·exact rL f
  ·exact rL (by decide)
 have k:((if l then[46,46]else[])++(endC K::post)).head?≠some 44:=by
  cases l
  ·simp[c]
  ·simp
 have d:dts ((if l then[46,46]else[])++(endC K::post))=l:=by
  cases l
  ·cases i:dts ((if false then[46,46]else[])++(endC K::post))
   ·rfl
   ·obtain⟨r,o⟩:=xb.1 i;simp at o;exact absurd o.1 g
  ·rfl
 obtain⟨P,A⟩:=wF f c x k (λi=>by rw[d]at i;subst i;rfl) J t 256 (if e then a+3 else a+1) [] [] (ok t l7) (λu D=>ok u (fD _ D)) (by simp at w;omega) n;have j:S.drop ((if e then a+3 else a+1)+(eY t++lC J).length)=(if l then[46,46]else[])++(endC K::post):=by
  apply hZ;rw[n,f8]
 have b:E3 S a K=.inr (K,e,l,t::J,a+(((if K=4 then 123 else 91)::((if e then[46,46]else[])++((eY t++lC J)++((if l then[46,46]else[])++[endC K]))):aa).length)):=by
  unfold E3;rw[C,A];simp only[dO];unfold endL;rw[j,d];generalize s:(if e then a+3 else a+1)+(eY t++lC J).length=X at j ⊢;have y:S.drop (if l then X+2 else X)=endC K::post:=by
   cases l
   ·simpa using j
   ·have:=hZ (u:=[46,46]) j;simpa using this
  rw[y,oO,ae rfl,ae B];have:(if l then X+2 else X)+1=a+(((if K=4 then 123 else 91)::((if e then[46,46]else[])++((eY t++lC J)++((if l then[46,46]else[])++[endC K]))):aa).length):=by
   rw[<-s];cases e<;>cases l<;>simp<;>omega
  rw[this]
 unfold wT;have p:(S.drop a).head?=some (if K=4 then 123 else 91):=by rw[h];rfl
 rw[p];rcases q with rfl | rfl
 ·rw[ae (show some (if(3:Int)=4 then(123:UInt8)else 91)=some 91 from rfl)];exact b
 ·rw[ab (show¬some (if(4:Int)=4 then(123:UInt8)else 91)=some 91 by decide),ae (show some (if(4:Int)=4 then(123:UInt8)else 91)=some 123 from rfl)];exact b
def xR{x y:TD}{r all:Bool}(h:itE x r y all=0):cF x=0/\(r=true->cF y=0)/\(r=false->y=d0)/\itE x r y false=0:=by
 by_cases hc:cF x=0
 ·refine⟨hc,?_⟩;cases r
  ·rw[PW hc]at h ⊢;have hy:eqD y d0=true:=by
    cases a:eqD y d0
    ·rw[a]at h;simp at h
    ·rfl
   exact⟨λh=>(by cases h),λ_=>i7.1 hy,by rw[hy];simp⟩
  ·by_cases hy:cF y=0
   ·rw[WL hc hy]at h ⊢;have b:ordB x y=true:=by
     cases a:ordB x y
     ·rw[a]at h;simp at h
     ·rfl
    exact⟨λ_=>hy,λh=>(by cases h),by rw[b];simp⟩
   ·rw[Wj hc hy]at h;exact absurd h hy
 ·rw[Zr hc]at h;exact absurd h hc
def XD{t:TI}{all:Bool}(hs:smI t)(h:itI t all=0):OkI t:=by
 obtain⟨a,b,c,_⟩:=xR h;exact⟨hs,a,b,c⟩
def GP{x y:TD}(r:Bool)(hx:smT x)(hy:smT y):gH 20000000 x r y=some (if itE x r y false=0 then(eY (mkI x r y),0)else([],itE x r y false)):=by
 unfold gH;rw[F3 r hx hy,ae (.inl rfl),show((3:Int)==4)=false from rfl];simp only[ob];by_cases h:itE x r y false=0
 ·obtain⟨a,b,c,_⟩:=xR h;rw[ae h,h,dfT hx a];simp only[eT,af,u2];cases r
  ·rfl
  ·have e:=pO hx a;have d:=pO hy (b rfl);simp only[aj,dfT hy (b rfl)];rw[eK (by simp only[aG,cE];omega)];simp only[];rw[eK (by simp only[aZ,aG,cE];omega)];rfl
 ·rw[ab h,show(itE x r y false != 0)=true from by simp[h]];rfl
def EX:∀{I:List TI},(∀t∈I,OkI t)->(lC I).length<=77*I.length
 | [],_=>by simp[lC]
 | t::I,h=>by
  have c:=Eo (h t l7);have b:=EX (I:=I) λu a=>h u (fD _ a);have:lC (t::I)=(44::eY t)++lC I:=by simp[lC]
  rw[this];simp only[aZ,aG];omega
def D9{I:List TI}(h:∀t∈I,OkI t):(Lib.join (I.map eY) [44]).length<=77*I.length:=by
 cases I with
 | nil=>simp[Lib.join_nil]
 | cons t I=>
  have c:=Eo (h t l7);have b:=EX (I:=I) λu a=>h u (fD _ a);rw[Ee];simp only[aZ,aG];omega
def OG{I:List TI}{i:Nat}{t:TI}(h:I[i]?=some t)(w:aa)(b:w=eY t):((I.take i).map eY++List.replicate (I.length - i) []).set i w=(I.take (i+1)).map eY++List.replicate (I.length - (i+1)) []:=by
 have hi:i<I.length:=(nc.1 h).1;obtain⟨k,a⟩:∃k,I.length - i=k+1:=⟨I.length - i - 1,by omega⟩;have c:((I.take i).map eY).length=i:=by simp;omega
 rw[a,tg,show I.length - (i+1)=k by omega,qX,h,b];rw[List.set_append_right _ _ (by omega),c,Be];simp
def KR{I:List TI}(hs:∀t∈I,OkI t/\itI t false=0)(h:I.length<=1000)(K:Int)(D:TD)(KF:Int)(DF:TD)(KT:Int)(DT:TD)(e l:Bool):∀(r i:Nat),i+r=I.length->∀N,r<N->
  av (cw 20000000) N (len I,(i:Int),I,K,D,KF,DF,KT,DT,e,l,(I.take i).map eY++List.replicate (I.length - i) [])=some (I,K,D,KF,DF,KT,DT,e,l,I.map eY):=by
 intro r
 induction r with
 | zero=>
  intro i hi N d;obtain⟨N,rfl⟩:∃k,N=k+1:=⟨N - 1,by omega⟩;obtain rfl:i=I.length:=by omega
  have:cw 20000000 (len I,((I.length:Nat):Int),I,K,D,KF,DF,KT,DT,e,l,(I.take I.length).map eY++List.replicate (I.length - I.length) [])=some (.inr (I,K,D,KF,DF,KT,DT,e,l,I.map eY)):=by
   unfold cw;simp only[u12,u11,u10,u9,u8,u7,u6,u5,u4,u3,u2];rw[au (show¬((I.length:Nat):Int)<len I by show¬((I.length:Nat):Int)<((I.length:Nat):Int);omega),Be,oV];simp
  rw[av,this]
 | succ r ih=>
  intro i hi N d;obtain⟨N,rfl⟩:∃k,N=k+1:=⟨N - 1,by omega⟩;have a:i<I.length:=by omega
  have b:I[i]?=some I[i]:=bu a;obtain⟨ok,c⟩:=hs _ (AO a);generalize I[i]=t at b ok c;have g:((I.take i).map eY++List.replicate (I.length - i) ([]:aa)).length=I.length:=by simp;omega
  have:cw 20000000 (len I,(i:Int),I,K,D,KF,DF,KT,DT,e,l,(I.take i).map eY++List.replicate (I.length - i) [])=some (.inl (len I,((i+1:Nat):Int),I,K,D,KF,DF,KT,DT,e,l,(I.take (i+1)).map eY++List.replicate (I.length - (i+1)) [])):=by
   unfold cw;simp only[u12,u11,u10,u9,u8,u7,u6,u5,u4,u3,u2];rw[ar (show(i:Int)<len I by show(i:Int)<((I.length:Nat):Int);omega),cT a];simp only[aj,ob,b];rw[show gH 20000000 (iF t) (d8 t).2.2.1 (d8 t).2.2.2=some (eY t,0)from(GP (rT t) ok.sm.1 ok.sm.2).trans (by rw[ae (show itE (iF t) (rT t) (iT t) false=0 from c)])];simp only[g];rw[cT a];simp only[];obtain⟨w,f⟩:∃w,((I.take i).map eY++List.replicate (I.length - i) ([]:aa))[i]?=some w:=⟨_,bu (by omega)⟩;rw[f];simp only[u2];rw[OG b _ rfl,oe (by omega)]
  rw[av,this];exact ih (i+1) (by omega) N (by omega)
structure SetP(K:Int)(D:TD)(KF:Int)(DF:TD)(KT:Int)(DT:TD)(e l:Bool)(I:List TI):Prop where
 kind:K=3\/K=4
 d:D=d0
 kf:KF=0
 df:DF=d0
 kt:KT=0
 dt:DT=d0
 one:1<=I.length
 most:I.length<=256
 its:∀t∈I,itI t (K==4)=0
 set:(setE K e l I).2=0
def zT{A:Type}{f:Nat->A->Int}:∀{L:List A} {k:Nat},oL f k L=none->∀t∈L,∃i,f i t=0
 | u::L,k,h,t,a=>by
  rw[oL]at h;split at h
  ·cases h
  ·rename_i b;rcases cb.1 a with rfl | a
   ·exact⟨k,Nv.1 b⟩
   ·exact zT h t a
def Hf{A:Type}{f:Nat->A->Int}:∀{L:List A} {k:Nat} {p:Nat×Int},oL f k L=some p->p.2≠0
 | u::L,k,p,h=>by
  rw[oL]at h;split at h
  ·rename_i a;cases h;exact a
  ·exact Hf h
def XX{K:Int}{e l:Bool}{n i:Nat}{t:TI}(h:errI K e l n i t=0):itI t (K==4)=0:=by
 unfold errI at h;split at h
 ·rename_i a;exact absurd h a
 ·rename_i a;exact Nv.1 a
def E5{K:Int}(g:K=3\/K=4){D:TD}{KF:Int}{DF:TD}{KT:Int}{DT:TD}{e l:Bool}{I:List TI}(h:(fj K D KF DF KT DT e l I).2=0):SetP K D KF DF KT DT e l I:=by
 have n:=h;unfold fj at h;rw[ab (by omega)]at h;split at h
 ·simp at h
 ·rename_i f;rw[ab (by omega),ab (by omega)]at h;split at h
  ·simp at h
  ·split at h
   ·simp at h
   ·unfold ye at h;have k:D=d0/\KF=0/\DF=d0/\KT=0/\DT=d0:=by
     unfold unuB at f;have k1:(K==1)=false:=by rcases g with rfl | rfl<;>rfl
     have k2:(K==2)=false:=by rcases g with rfl | rfl<;>rfl
     have k3:(K==3||(K==4||(decide (I.length=0)&&(!e&&!l))))=true:=by rcases g with rfl | rfl<;>rfl
     rw[k1,k2,k3]at f;generalize m:eqD D d0=z1 at f;generalize j:eqD DF d0=z2 at f;generalize o:eqD DT d0=r at f;simp only[sL,dL,DN,Dc,iq,jX,not_or,Bool.not_eq_false,aB,bL]at f;obtain⟨a,⟨b,c⟩,d,e⟩:=f;exact⟨i7.1 (m.trans a),b,i7.1 (j.trans c),d,i7.1 (o.trans e)⟩
    obtain⟨rfl,rfl,rfl,rfl,rfl⟩:=k;cases hs:oL (errI K e l I.length) 0 I with
    | some p=>rw[hs]at h;exact absurd h (Hf hs)
    | none=>
     refine⟨g,rfl,rfl,rfl,rfl,rfl,by omega,by omega,λt q=>?_,n⟩;obtain⟨i,hi⟩:=zT hs t q;exact XX hi
def If{K:Int}{D:TD}{KF:Int}{DF:TD}{KT:Int}{DT:TD}{e l:Bool}{I:List TI}(p:SetP K D KF DF KT DT e l I)(hs:∀t∈I,smI t):∀t∈I,OkI t/\itI t false=0:=
 λt a=>⟨XD (hs t a) (p.its t a),(xR (p.its t a)).2.2.2⟩
def DI(K:Int):Prop:=K=3\/K=4
instance (K:Int):Decidable (DI K):=inferInstanceAs (Decidable (K=3\/K=4))
def TQ{K:Int}{D:TD}{KF:Int}{DF:TD}{KT:Int}{DT:TD}{e l:Bool}{I:List TI}(h:smE D DF DT I):
  lZ 20000000 K D KF DF KT DT e l I=some (if DI K then(if(fj K D KF DF KT DT e l I).2=0 then(tz K e l I,0)else([],(fj K D KF DF KT DT e l I).2))else([],18)):=by
 have c:∀r:DI K,(ob (fU 20000000 K D KF DF KT DT e l I) λj=>(cond (j != 0) (some ([],j)) (cond (decide ((0:Int)<=(len I))&&(decide ((len I)<=(len I))&&decide ((len I)<=(67108864:Int)))) (ob (av (cw 20000000) 20000000 ((len I),0,I,K,D,KF,DF,KT,DT,e,l,(List.replicate (Int.toNat (len I)) ([]:aa)))) (u10 λ_ C _ _ _ _ _ v k a=>(ob (eS 20000000 C) (u2 λf b=>(cond v (ob (cat f ([46,46]:aa)) λg=>(cond k (ob (cat ([46,46]:aa) b) λs=>(cond (Nat.ble (List.length a) 140737488355328&&Nat.ble (List.length (Lib.join a ([44]:aa))) 140737488355328) (ob (cat g (Lib.join a ([44]:aa))) λo=>(ob (cat o s) λy=>(some (y,0)))) none)) (cond (Nat.ble (List.length a) 140737488355328&&Nat.ble (List.length (Lib.join a ([44]:aa))) 140737488355328) (ob (cat g (Lib.join a ([44]:aa))) λp=>(ob (cat p b) λu=>(some (u,0)))) none))) (cond k (ob (cat ([46,46]:aa) b) λq=>(cond (Nat.ble (List.length a) 140737488355328&&Nat.ble (List.length (Lib.join a ([44]:aa))) 140737488355328) (ob (cat f (Lib.join a ([44]:aa))) λz=>(ob (cat z q) λx=>(some (x,0)))) none)) (cond (Nat.ble (List.length a) 140737488355328&&Nat.ble (List.length (Lib.join a ([44]:aa))) 140737488355328) (ob (cat f (Lib.join a ([44]:aa))) λA=>(ob (cat A b) λB=>(some (B,0)))) none))))))) none))) =
   some (if(fj K D KF DF KT DT e l I).2=0 then(tz K e l I,(0:Int))else([],(fj K D KF DF KT DT e l I).2)):=by
  intro r;rw[wh h];simp only[ob];by_cases i:(fj K D KF DF KT DT e l I).2=0
  ·have P:=E5 r i;have J:=P.most;have oks:=If P h.2.2.2;have H:=D9 λt G=>(oks t G).1;rw[ae i,i];have d:=KR oks (by omega) K D KF DF KT DT e l I.length 0 (by omega) 20000000 (by omega);simp only[eT,af];have c3:(decide ((0:Int)<=(len I))&&(decide ((len I)<=(len I))&&decide ((len I)<=(67108864:Int))))=true:=by
    have:len I=((I.length:Nat):Int):=rfl;rw[this];simp only[aB,ch];omega
   rw[c3,aj,show(List.replicate (Int.toNat (len I)) ([]:aa))=(I.take 0).map eY++List.replicate (I.length - 0) []from by simp];rw[show av (cw 20000000) 20000000 (len I,(0:Int),I,K,D,KF,DF,KT,DT,e,l,(I.take 0).map eY++List.replicate (I.length - 0) [])=_ from d];have E:(Nat.ble (List.length (I.map eY)) 140737488355328&&Nat.ble (List.length (Lib.join (I.map eY) ([44]:aa))) 140737488355328)=true:=by
    simp only[aB];exact⟨cD (by simp;omega),cD (by omega)⟩
   simp only[u10,u9,u8,u7,u6,u5,u4,u3,u2,yu r,E,aj];unfold tz;generalize F:(if K=4 then(123:UInt8)else 91)=b1;generalize endC K=b2;generalize Lib.join (I.map eY) [44]=w at H;cases e<;>cases l<;>simp only[aj,af]
   ·rw[eK (by simp only[aG,cE];omega)];simp only[];rw[eK (by simp only[aZ,aG,cE];omega)];simp
   ·rw[eK (by simp only[aG,cE];omega)];simp only[];rw[eK (by simp only[aG,cE];omega)];simp only[];rw[eK (by simp only[aZ,aG,cE];omega)];simp
   ·rw[eK (by simp only[aG,cE];omega)];simp only[];rw[eK (by simp only[aZ,aG,cE];omega)];simp only[];rw[eK (by simp only[aZ,aG,cE];omega)];simp
   ·rw[eK (by simp only[aG,cE];omega)];simp only[];rw[eK (by simp only[aG,cE];omega)];simp only[];rw[eK (by simp only[aZ,aG,cE];omega)];simp only[];rw[eK (by simp only[aZ,aG,cE];omega)];simp
  ·rw[ab i,show((fj K D KF DF KT DT e l I).2 != 0)=true from by simp[i]];rfl
 unfold lZ;by_cases n:K=3
 ·rw[show(K != 3)=false from by simp[n],ae (.inl n)];exact c (.inl n)
 ·rw[show(K != 3)=true from by simp[n],aj];by_cases m:K=4
  ·rw[show(K != 4)=false from by simp[m],ae (.inr m)];exact c (.inr m)
  ·rw[show(K != 4)=true from by simp[m],ab (by rintro(h | h)<;>contradiction)];rfl
def B8(n:Nat)(K:Int)(D:TD)(KF:Int)(DF:TD)(KT:Int)(DT:TD)(c:Nat)(e l:Bool)(L:List TI):gn n K D KF DF KT DT L.length c e l L=fU n K D KF DF KT DT e l L:=by
 unfold gn fU;rw[MH]
def FQ(n N:Nat)(i K:Int)(D:TD)(KF:Int)(DF:TD)(KT:Int)(DT:TD)(c:Nat)(e l:Bool)(L:List TI)(ws:List (aa)):
  av (fX n) N (L.length,c,len L,i,L,K,D,KF,DF,KT,DT,L.length,c,e,l,ws)=(av (cw n) N (len L,i,L,K,D,KF,DF,KT,DT,e,l,ws)).map (u10 λd k q p m g o h b a=>(d,k,q,p,m,g,o,d.length,c,h,b,a)):=
 uF (s:=cw n) (s':=fX n) (u12 λx0 f d k q p m g o h b a=>(d.length,c,x0,f,d,k,q,p,m,g,o,d.length,c,h,b,a)) _ (by
  rintro⟨x0,f,d,k,q,p,m,g,o,h,b,a⟩;unfold cw fX;simp only[u16,u15,u14,u13,u12,u11,u10,u9,u8,u7,u6,u5,u4,u3,u2];cases decide (f<x0)
  ·rfl
  ·simp only[aj];cases ix d.length f with
   | none=>rfl
   | some i=>
    simp only[ob];cases d[i]? with
    | none=>rfl
    | some t=>
     simp only[ob];cases gH n (iF t) (d8 t).2.2.1 (d8 t).2.2.2 with
     | none=>rfl
     | some v=>
      simp only[ob];cases ix a.length f with
      | none=>rfl
      | some j=>
       simp only[ob];cases a[j]?<;>rfl) N (len L,i,L,K,D,KF,DF,KT,DT,e,l,ws)
def W8(n:Nat)(K:Int)(D:TD)(KF:Int)(DF:TD)(KT:Int)(DT:TD)(c:Nat)(e l:Bool)(L:List TI):mr n K D KF DF KT DT L.length c e l L=lZ n K D KF DF KT DT e l L:=by
 unfold mr lZ;rw[B8,show av (fX n) n (L.length,c,((L.length:Nat):Int),0,L,K,D,KF,DF,KT,DT,L.length,c,e,l,List.replicate (Int.toNat ((L.length:Nat):Int)) [])=_ from FQ n n 0 K D KF DF KT DT c e l L _];rw[show List.replicate (Int.toNat ((L.length:Nat):Int)) ([]:aa)=List.replicate (Int.toNat (len L)) []from rfl];cases av (cw n) n (len L,0,L,K,D,KF,DF,KT,DT,e,l,List.replicate (Int.toNat (len L)) [])with
 | none=>rfl
 | some y=>rfl
def J9{K:Int}(d:DI K){e l:Bool}{I:List TI}(b:1<=I.length)(a:I.length<=256)(ok:∀t∈I,OkI t)(c:(setE K e l I).2=0):IG (tz K e l I)=.inr (K,e,l,I):=by
 unfold IG;rw[J6 d b a ok c (post:=[]) (by rw[cS,lH])];simp only[];rw[ab (by omega)]
def ZP{c:UInt8}(h:mkOf c≠0):mt (mkOf c)=[c]:=by
 unfold mkOf at h ⊢;by_cases b:c=63
 ·subst b;rfl
 ·rw[ab b]at h ⊢;by_cases a:c=126
  ·subst a;rfl
  ·rw[ab a]at h ⊢;by_cases d:c=37
   ·subst d;rfl
   ·rw[ab d]at h;exact absurd rfl h
def Ti(l:aa):l=mt (mkS l)++l.drop (mkN l):=by
 cases l with
 | nil=>rfl
 | cons c r=>
  unfold mkN;show c::r=mt (mkOf c)++_;by_cases h:mkOf c=0
  ·rw[ae (show mkS (c::r)=0 from h),h];rfl
  ·rw[ab (show¬mkS (c::r)=0 from h),ZP h];rfl
def Jk(S:aa)(p:Nat):S.drop p=mt (mkS (S.drop p))++S.drop (mkE S p):=by
 have:=Ti (S.drop p);rw[kK]at this;exact this
def LK(S:aa)(p:Nat):mkE S p=p+(mt (mkS (S.drop p))).length:=by
 unfold mkE mkN;have a:=Ir (S.drop p);generalize mkS (S.drop p)=k at *;rcases(by omega:k=0\/k=1\/k=2\/k=3)with rfl | rfl | rfl | rfl<;>rfl
def EG{S:aa}{p:Nat}(h:¬twoN (S.drop p)<2):S.drop p=(S.drop p).take 2++S.drop (p+2)/\((S.drop p).take 2).length=2/\∀c∈(S.drop p).take 2,isDX c=true:=by
 have b:=DD h;have a:twoN (S.drop p)=2:=by
  have:twoN (S.drop p)<=2:=by
   unfold twoN;have:∀(k:Nat) (l:aa),cR isDX k l<=k:=by
    intro k
    induction k with
    | zero=>intro l;cases l<;>simp[cR]
    | succ k ih=>
     intro l;cases l with
     | nil=>simp[cR]
     | cons c r=>
      simp only[cR];split
      ·have:=ih r;omega
      ·omega
   exact this 2 _
  omega
 refine⟨by rw[<-kK];exact(tN 2 _).symm,by simp;omega,?_⟩;have:=zN (p:=isDX) 2 (S.drop p);rw[show cR isDX 2 (S.drop p)=2 from a]at this;exact this
def zy{S:aa}{p:Nat}(h:¬gB 45 (S.drop p)=0):S.drop p=45::S.drop (p+1):=by
 cases a:S.drop p with
 | nil=>rw[a]at h;exact absurd rfl h
 | cons c r=>
  rw[a,uU]at h;by_cases hc:c=45
  ·subst hc;rw[<-kK,a];rfl
  ·rw[ab hc]at h;exact absurd rfl h
def vb{S:aa}{p k:Nat}{w:aa}(h:S.drop (mkE S p)=w++S.drop (mkE S p+k)):S.drop p=cU (mkS (S.drop p)) (mkS (S.drop (mkE S p+k))) w++S.drop (mkE S (mkE S p+k)):=by
 unfold cU;rw[f8,f8,<-Jk,<-h,<-Jk]
def OH{S:aa}{a:Nat}{g l:Bool}{dg:aa}{x s:Nat}{m d:aa}{M P:Nat×Nat×Nat}{e:Nat}(b:uD S a=.inr (g,l,dg,x,s,m,d,M,P,e)):
  ∃A B,MkD A B m d/\M=spM A B/\P.1=a+(mt A.1).length/\S.drop a=rawD A B g l dg (x:Int) (s:Int) m d++S.drop e:=by
 unfold uD at b;cases hy:us (S.drop (mkE S a))with
 | inl k=>rw[hy]at b;cases b
 | inr y=>
  obtain⟨J,D,q,C,s',k⟩:=y;obtain⟨H,O,_⟩:=yn hy;have I:S.drop (mkE S a)=ir J D q (C:Int) (s':Int)++S.drop (mkE S a+k):=by
   rw[<-H,<-kK];exact(tN k _).symm
  have w0:=vb I;have c:=λp=>Ir (S.drop p);rw[hy]at b;simp only[]at b;by_cases o:0<s'\/gB 45 (S.drop (mkE S (mkE S a+k)))=0
  ·rw[ae o]at b;simp only[oS,bC]at b;obtain⟨rfl,rfl,rfl,rfl,rfl,rfl,rfl,rfl,rfl,rfl⟩:=b;refine⟨(mkS (S.drop a),0,0),(mkS (S.drop (mkE S a+k)),0,0),⟨c _,by simp,by simp,c _,by simp,by simp,λ_=>⟨rfl,rfl⟩,λ_=>⟨rfl,rfl⟩⟩,rfl,LK S a,?_⟩;unfold rawD;simpa using w0
  ·rw[ab o]at b;have z:=zy (λh=>o (.inr h));unfold rd2 at b;simp only[]at b;generalize E:mkE S (mkE S a+k)=i at *;by_cases t:twoN (S.drop (mkE S (i+1)))<2
   ·rw[ae t]at b;cases b
   rw[ab t]at b;obtain⟨N,v,Q⟩:=EG t;have w:=vb N;have f:(S.drop (mkE S (i+1))).take 2≠[]:=λh=>by rw[h]at v;simp at v
   by_cases u:gB 45 (S.drop (mkE S (mkE S (i+1)+2)))=0
   ·rw[ae u]at b;simp only[oS,bC]at b;obtain⟨rfl,rfl,rfl,rfl,rfl,rfl,rfl,rfl,rfl,rfl⟩:=b;refine⟨(mkS (S.drop a),mkS (S.drop (i+1)),0),(mkS (S.drop (mkE S a+k)),mkS (S.drop (mkE S (i+1)+2)),0),⟨c _,c _,by simp,c _,c _,by simp,λh=>absurd h f,λ_=>⟨rfl,rfl⟩⟩,rfl,LK S a,?_⟩;unfold rawD;rw[ab f,ae rfl,lH,f8,fi,<-w,<-z];exact w0
   ·rw[ab u]at b;have L:=zy u;unfold rd3 at b;generalize K:mkE S (mkE S (i+1)+2)=n at *;by_cases r:twoN (S.drop (mkE S (n+1)))<2
    ·rw[ae r]at b;cases b
    rw[ab r]at b;obtain⟨F,u2,u3⟩:=EG r;have G:=vb F;have j:(S.drop (mkE S (n+1))).take 2≠[]:=λh=>by rw[h]at u2;simp at u2
    simp only[oS,bC]at b;obtain⟨rfl,rfl,rfl,rfl,rfl,rfl,rfl,rfl,rfl,rfl⟩:=b;refine⟨(mkS (S.drop a),mkS (S.drop (i+1)),mkS (S.drop (n+1))),(mkS (S.drop (mkE S a+k)),mkS (S.drop (mkE S (i+1)+2)),mkS (S.drop (mkE S (n+1)+2))),⟨c _,c _,c _,c _,c _,c _,λh=>absurd h f,λh=>absurd h j⟩,rfl,LK S a,?_⟩;unfold rawD;rw[ab f,ab j,f8,f8,fi,fi,<-G,<-L,<-w,<-z];exact w0
def okC(c:UInt8):Bool:=isDX c||(isMk c||(c==45||(c==89||(c==69||c==83))))
def isLv(c:UInt8):Bool:=c==69||(c==83||isMk c)
def Tm:∀c:UInt8,(!okC c||decide (c.toNat<128))=true:=jz (λc=>!okC c||decide (c.toNat<128)) (by decide +kernel)
def Yy{c:UInt8}(h:okC c=true):c.toNat<128:=by
 have:=Tm c;rw[h]at this;simpa using this
def dgC(c:UInt8):UInt8:=if bD c then 100 else c
def Yk:∀c:UInt8,(!decide (c.toNat<128)||(decide (0<=pG (c.toNat:Int))&&(Lib.encodeRune (pG (c.toNat:Int))==[dgC c])))=true:=
 jz (λc=>!decide (c.toNat<128)||(decide (0<=pG (c.toNat:Int))&&(Lib.encodeRune (pG (c.toNat:Int))==[dgC c]))) (by decide +kernel)
def Kw:∀{l:aa},(∀c∈l,c.toNat<128)->zD l=l.map dgC:=by
 have a:∀(n:Nat) (l:aa),l.length=n->(∀c∈l,c.toNat<128)->Lib.mapGoD pG n l=l.map dgC:=by
  intro n
  induction n with
  | zero=>intro l b _;rw[sZ b];rfl
  | succ n ih=>
   intro l b h;cases l with
   | nil=>simp at b
   | cons c r=>
    have e:Lib.decodeL (c::r)=(c.toNat,1):=Cc (l:=c::r) (i:=0) rfl (h c l7);rw[Lib.mapGoD,ab (by simp),e];have:=Yk c;rw[ar (h c l7)]at this;simp only[dL,sL,aB,ch,bL]at this;rw[ae this.1,this.2];rw[show(c::r).drop 1=r from rfl,ih r (by simpa using b) (λd e=>h d (fD _ e))];rfl
 intro l h;exact a l.length l rfl h
def yU(s a:aa):Lib.containsAny s a=s.any (a.contains ·):=by
 induction s with
 | nil=>rfl
 | cons b l ih=>
  unfold Lib.containsAny at ih ⊢;have d:=Lib.indexAny_ge a l;rw[Lib.indexAny,vI];cases c:a.contains b
  ·rw[ab (by simp),sL,<-ih];by_cases h:Lib.indexAny l a=-1
   ·rw[ae (by simp[h]),h]
   ·rw[ab (by simp[h])];congr 1;exact propext (by omega)
  ·simp
def yM(u:aa):aa:=match u with | c::r=>if c=45 then r else c::r | []=>[]
def kH:List (aa):=[[100,100,100,88],[100,100,88,88],[100,100,100,100,45,88,88],[100,100,100,100,45,100,100,45,88,88],[100,100,100,100,45,88,88,45,88,88]]
def simB(v:aa):Bool:=kH.contains (v.map dgC)
def PI(n:Nat)(u:aa):jc n u=some (yM u):=by
 unfold jc ga fm yM;cases u with
 | nil=>rfl
 | cons c r=>
  have a:bx (c::r).length (1:Int)=some 1:=eM (i:=1) (by simp);rw[ar (show(((c::r).length:Nat):Int)>=1 by rw[aG];omega),aj,a];simp only[ob,mU,mV,cS];by_cases hc:c=45
  ·subst hc;rw[ae rfl];simp
  ·rw[ab hc,show(([c]:aa)==[45])=false from by simp[hc]];rfl
def Zo(n:Nat)(u:aa):da n u=some (decide (u.head?=some 89)):=by
 unfold da fp;cases u with
 | nil=>rfl
 | cons c r=>
  have a:bx (c::r).length (1:Int)=some 1:=eM (i:=1) (by simp);rw[ar (show(((c::r).length:Nat):Int)>=1 by rw[aG];omega),aj,a];simp only[ob,mU,mV,cS,oO,aq];rw[show(([c]:aa)==[89])=decide (c=89)from by rw[vG];simp]
def zj(v:aa):dq 20000000 v kH=some (kH.contains v):=by
 have g:∀(r i:Nat),i+r=5->∀N,r<N->av (bv 20000000) N (v,5,(i:Int),kH)=some (if(kH.drop i).contains v then .inl ((i+(kH.drop i).idxOf v:Nat):Int)else .inr ()):=by
  intro r
  induction r with
  | zero=>
   intro i hi N e;obtain⟨N,rfl⟩:∃k,N=k+1:=⟨N - 1,by omega⟩;obtain rfl:i=5:=by omega
   rw[av];rfl
  | succ r ih=>
   intro i hi N e;obtain⟨N,rfl⟩:∃k,N=k+1:=⟨N - 1,by omega⟩;have a:i<kH.length:=by show i<5;omega
   have f:=bu a;have:bv 20000000 (v,5,(i:Int),kH)=some (if v=kH[i]then .inr (.inl (i:Int))else .inl (v,5,((i+1:Nat):Int),kH)):=by
    unfold bv;simp only[];rw[ar (show(i:Int)<5 by omega),aj,cT a];simp only[ob,f];rw[show wrap .i64 ((i:Int)+1)=((i+1:Nat):Int)from oe (by omega),gZ];split<;>rfl
   rw[av,this,rD a];by_cases b:v=kH[i]
   ·rw[ae b];simp only[];rw[<-b];simp
   ·rw[ab b];simp only[];rw[ih (i+1) (by omega) N (by omega)];have d:(kH[i]==v)=false:=by simp;exactλh=>b h.symm
    have c:(v==kH[i])=false:=by simp;exact b
    rw[List.contains_cons,c,sL,List.idxOf_cons,d];simp only[af];rw[show i+1+List.idxOf v (List.drop (i+1) kH)=i+(List.idxOf v (List.drop (i+1) kH)+1)by omega]
 have:=g 5 0 rfl 20000000 (by omega);unfold dq fc;rw[show av (bv 20000000) 20000000 (v,(((List.length kH):Nat):Int),0,kH)=_ from this];rw[cS];cases h:kH.contains v
 ·rfl
 ·simp only[aN,ob];rw[ar (by omega)]
def lvl(u:aa)(b X:Bool)(code:Int):Int:=
 if u.any isLv then 2 else if 24<code then 2 else if(X&&!simB (yM u))=true then 2
 else if b=true\/X=true\/0<code\/u.head?=some 45\/u.head?=some 89 then 1 else 0
structure Body(T u:aa)(k:Nat):Prop where
 eq:T=u++mt k
 k4:k<4
 last:∃v z,u=v++[z]/\isMk z=false
 asc:∀c∈T,c.toNat<128
 len:T.length<=1000
def Body.ascu{T u:aa}{k:Nat}(h:Body T u k):∀c∈u,c.toNat<128:=λc hc=>h.asc c (by rw[h.eq];exact List.mem_append_left _ hc)
def Body.lenu{T u:aa}{k:Nat}(h:Body T u k):u.length<=1000:=by
 have:=h.len;rw[h.eq,aZ]at this;omega
def SQ(c:UInt8):([63,126,37]:aa).contains c=isMk c:=by
 have:=jz (λc=>([63,126,37]:aa).contains c==isMk c) (by decide +kernel) c;simpa using this
def ZN{k:Nat}(h:k<4):∀c∈mt k,isMk c=true/\c≠69/\c≠83/\c≠88:=by
 rcases(by omega:k=0\/k=1\/k=2\/k=3)with rfl | rfl | rfl | rfl<;>simp[mt,isMk,mkOf]
def O4{p:UInt8->Bool}:∀{l:aa},(∀c∈l,p c=true)->l.dropWhile p=[]
 | [],_=>rfl
 | c::l,h=>by rw[List.dropWhile_cons,h c l7];exact O4 λd a=>h d (fD _ a)
def Du{T u:aa}{k:Nat}(h:Body T u k):Lib.trimRightS T [63,126,37]=u:=by
 obtain⟨v,z,rfl,b⟩:=h.last;unfold Lib.trimRightS;rw[h.eq,List.reverse_append,List.reverse_append];have:List.dropWhile (λx=>([63,126,37]:aa).contains x) ((mt k).reverse++([z].reverse++v.reverse))=[z].reverse++v.reverse:=by
  rw[List.dropWhile_append];have a:List.dropWhile (λx=>([63,126,37]:aa).contains x) (mt k).reverse=[]:=by
   refine O4 λc hc=>?_;rw[SQ];exact(ZN h.k4 c (Gy.1 hc)).1
  rw[a];simp only[List.isEmpty_nil,aN,List.reverse_singleton,List.singleton_append];rw[List.dropWhile_cons,SQ,b];simp
 rw[this];simp
def Wv(c:UInt8):([63,126,37,69,83]:aa).contains c=isLv c:=by
 have:=jz (λc=>([63,126,37,69,83]:aa).contains c==isLv c) (by decide +kernel) c;simpa using this
def Re(u:aa):(u==yM u)=!decide (u.head?=some 45):=by
 unfold yM;cases u with
 | nil=>rfl
 | cons c r=>
  simp only[oO,aq];by_cases hc:c=45
  ·subst hc;rw[ae rfl,ar rfl];simp only[dL,aK,ne_eq];intro h;have:=co List.length h;simp at this
  ·rw[ab hc,au hc];simp
def NW(u:aa):(yM u).length<=u.length:=by
 unfold yM;split
 ·split<;>simp
 ·simp
def Oz{u:aa}:∀c∈yM u,c∈u:=by
 unfold yM;split
 ·split
  ·intro c hc;exact fD _ hc
  ·intro c hc;exact hc
 ·intro c hc;exact hc
def Lq{T u:aa}{k:Nat}(h:Body T u k):(u==T)=decide (k=0):=by
 rw[h.eq];rcases(by have:=h.k4;omega:k=0\/k=1\/k=2\/k=3)with rfl | rfl | rfl | rfl
 ·simp[mt]
 all_goals
  rw[show decide _=false from rfl,aK];intro e;have:=co List.length e;simp[mt]at this
def YT{T u:aa}{k:Nat}(h:Body T u k){x:TD}(hs:smT x):lY 20000000 T x=some (lvl u (decide (k≠0)) (hasX x.2.2.1||(hasX x.2.2.2.2.2.1||hasX x.2.2.2.2.2.2.1)) (seT x)):=by
 have g:ap10 (bn 20000000) x=some (seT x,decide (0<seT x)):=o8 20000000 _ _ _ _ _ _ _ _ _ _ hs.1;have m:=h.len;have i:=h.lenu;have f:=NW u;have j:yD T [63,126,37]=true:=by
  unfold yD;rw[cD (by omega)];rfl
 have l:By (yM u)=true:=cD (by omega);have c3:yE u [63,126,37,69,83]=true:=by
  unfold yE;rw[cD (show u.length<=4294967280 by omega)];have:Oi u=true:=bS.2 λc hc=>cD (h.ascu c hc);rw[this];rfl
 unfold lY;rw[g,fmT hs];simp only[ob,u2,j,aj,Du h,PI,l,c3,Kw (λc hc=>h.ascu c (Oz c hc)),yU,Wv,Zo];rw[show([[100,100,100,88],[100,100,88,88],[100,100,100,100,45,88,88],[100,100,100,100,45,100,100,45,88,88],[100,100,100,100,45,88,88,45,88,88]]:List (aa))=kH from rfl,zj];simp only[Re,Lq h,Bool.not_not];unfold lvl simB;rw[show(List.any u λx=>isLv x)=u.any isLv from rfl];generalize(hasX x.2.2.1||(hasX x.2.2.2.2.2.1||hasX x.2.2.2.2.2.2.1))=X;generalize kH.contains ((yM u).map dgC)=F;cases u.any isLv
 ·simp only[af,bQ,aF];by_cases b:24<seT x
  ·rw[ae b,ar (show 0<seT x by omega),ar (show seT x>=25 by omega)];rfl
  ·rw[ab b,au (show¬seT x>=25 by omega)];have a:(cond (decide (u.head?=some 45)) (some (1:Int)) (cond (decide (u.head?=some 89)) (some 1) (cond (!decide (k=0)) (some 1) (cond (decide (0<seT x)) (some 1) (cond X (some 1) (some 0))))))=some (if decide (k≠0)=true\/X=true\/0<seT x\/u.head?=some 45\/u.head?=some 89 then 1 else 0):=by
    by_cases a1:u.head?=some 45
    ·rw[ar a1,ae (by simp[a1])];rfl
    rw[au a1];by_cases a2:u.head?=some 89
    ·rw[ar a2,ae (by simp[a2])];rfl
    rw[au a2];by_cases e:k=0
    ·rw[ar e];by_cases d:0<seT x
     ·rw[ar d,ae (by simp[d])];rfl
     rw[au d];cases X
     ·rw[ab (by simp[a1,a2,e,d])];rfl
     ·rw[ae (by simp)];rfl
    ·rw[au e,ae (by simp[e])];rfl
   cases X
   ·simp only[af,Aq,bQ,aF];simp only[af,bQ]at a;rw[<-a];cases decide (0<seT x)<;>rfl
   ·cases F
    ·cases decide (0<seT x)<;>rfl
    ·simp only[aj,dL,af,H8,bQ,aF];simp only[aj]at a;rw[<-a];cases decide (0<seT x)<;>rfl
 ·rfl
def qP{k:Nat}(h:k<4):(mt k).all okC=true:=by
 rcases(by omega:k=0\/k=1\/k=2\/k=3)with rfl | rfl | rfl | rfl<;>decide
def x_mk{k:Nat}(h:k<4):(mt k).any (·==88)=false:=by
 rcases(by omega:k=0\/k=1\/k=2\/k=3)with rfl | rfl | rfl | rfl<;>decide
def XB:((List.range 100).all λk=>(Lib.decDigits k).all λc=>okC c&&(!isMk c&&!(c==88)))=true:=by decide +kernel
def DC{k:Nat}(h:k<100){letter:UInt8}(a:letter=69\/letter=83):(fZ letter k).all (λc=>okC c&&(!isMk c&&!(c==88)))=true:=by
 unfold fZ;split
 ·rw[m7,(bS.1 XB) k (ju.2 h)];rcases a with rfl | rfl<;>decide
 ·rfl
def MU{c:UInt8}(h:isDX c=true):okC c=true:=by unfold okC;rw[h];rfl
def yO{g l:Bool}{dg:aa}{x q:Nat}(h:okY g l dg (x:Int) (q:Int)):ir g l dg (x:Int) (q:Int)≠[]/\(∀c∈ir g l dg (x:Int) (q:Int),okC c=true/\isMk c=false)/\(ir g l dg (x:Int) (q:Int)).any (·==88)=hasX dg:=by
 obtain⟨k,p,n,m,i,o⟩:=iJ h;have hx:x<100:=by omega
 have f:q<100:=by omega
 have d:=DC hx (letter:=69) (.inl rfl);have b:=DC f (letter:=83) (.inr rfl);have a:=OC h;have e:dg≠[]:=by
  rintro rfl;simp at i
 rw[lP];refine⟨by cases l<;>cases g<;>simp[e],λc hc=>?_,?_⟩
 ·simp only[kQ,or_assoc]at hc;rcases hc with hc | hc | hc | hc | hc
  ·cases l
   ·cases hc
   ·rw[lV.1 hc];decide
  ·cases g
   ·cases hc
   ·rw[lV.1 hc];decide
  ·exact⟨MU (a c hc),J5 (a c hc)⟩
  ·have:=(bS.1 d) c hc;simp only[aB,jX]at this;exact⟨this.1,this.2.1⟩
  ·have:=(bS.1 b) c hc;simp only[aB,jX]at this;exact⟨this.1,this.2.1⟩
 ·have no:∀w:aa,w.all (λc=>okC c&&(!isMk c&&!(c==88)))=true->w.any (·==88)=false:=by
   intro w j;rw[sW];intro c hc;have:=(bS.1 j) c hc;simp only[aB,jX]at this;rw[this.2.2];simp
  simp only[vM,no _ d,no _ b,DN];unfold hasX;cases l<;>cases g<;>simp
def FB{w:aa}(h:w≠[])(b:∀c∈w,isMk c=false)(v:aa):∃a z,v++w=a++[z]/\isMk z=false:=
 ⟨v++w.dropLast,w.getLast h,by rw[f8,List.dropLast_concat_getLast],b _ (List.getLast_mem h)⟩
def Ro{A B:Nat×Nat×Nat}{g l:Bool}{dg:aa}{x q:Nat}{m d:aa}(hs:ShD g l dg x q m d)(Z:MkD A B m d):
  ∃u k,Body (rawD A B g l dg (x:Int) (q:Int) m d) u k/\u.any (·==88)=(hasX dg||(hasX m||hasX d))/\(u.any isLv=false->A=(0,0,0)/\(m≠[]->B.1=0)/\(d≠[]->B.2.1=0))/\k=(if m=[]then B.1 else if d=[]then B.2.1 else B.2.2):=by
 obtain⟨V,E,t⟩:=yO hs.yr;have yl:=xG hs.yr;obtain⟨j,p,C⟩:=A;obtain⟨i,r,G⟩:=B;obtain⟨a0,a1,a2,b0,b1,b2,zm,zd⟩:=Z;simp only at a0 a1 a2 b0 b1 b2 zm zd;unfold rawD cU;simp only;generalize ir g l dg (x:Int) (q:Int)=Y at *;have b:∀w:aa,w.all okC=true->∀c∈w,c.toNat<128:=λw W c hc=>Yy ((bS.1 W) c hc);have y:Y.all okC=true:=bS.2 λc hc=>(E c hc).1;have n:∀k,k<4->(mt k).length<=1:=λk h=>by
  rcases(by omega:k=0\/k=1\/k=2\/k=3)with rfl | rfl | rfl | rfl<;>simp[mt]
 have X:=n j a0;have O:=n p a1;have T:=n C a2;have P:=n i b0;have U:=n r b1;have I:=n G b2;have a:∀k,k<4->(mt k).any isLv=false->k=0:=λk h=>by
  rcases(by omega:k=0\/k=1\/k=2\/k=3)with rfl | rfl | rfl | rfl<;>decide
 have o:∀w:aa,w.any (λx=>x==88)=hasX w:=λw=>rfl;by_cases f:m=[]
 ·have e:d=[]:=hs.day.resolve_right (λz=>z.1 f);subst f e;obtain⟨rfl,rfl⟩:=zm rfl;obtain⟨rfl,rfl⟩:=zd rfl;simp only[aN,lH];refine⟨mt j++Y,i,⟨rfl,b0,FB V (λc hc=>(E c hc).2) _,b _ (by rw[EK,EK,qP a0,y,qP b0];rfl),by simp only[aZ];omega⟩,?_,?_,rfl⟩
  ·rw[vM,x_mk a0,t];simp[hasX]
  ·intro h;rw[vM,qO]at h;exact⟨by rw[a _ a0 h.1],λh=>absurd rfl h,λh=>absurd rfl h⟩
 ·obtain⟨M,mx⟩:=hs.mon.resolve_left f;have H:m.all okC=true:=bS.2 λc hc=>MU (mx c hc);rw[ab f,ab f];by_cases e:d=[]
  ·subst e;obtain⟨rfl,rfl⟩:=zd rfl;simp only[aN,lH];refine⟨mt j++Y++mt i++(45::(mt p++m)),r,⟨by simp,b1,?_,b _ ?_,by simp only[aZ,aG];omega⟩,?_,?_,rfl⟩
   ·have:=FB f (λc hc=>J5 (mx c hc)) (mt j++Y++mt i++(45::mt p));simpa using this
   ·simp only[EK,m7,qP a0,y,qP b0,qP a1,H,qP b1,show okC 45=true from by decide];rfl
   ·simp only[vM,vI,x_mk a0,x_mk b0,x_mk a1,t];simp only[o];simp[hasX]
   ·intro h;simp only[vM,vI,qO]at h;obtain⟨⟨⟨v,R⟩,D⟩,h4,s,J⟩:=h;exact⟨by rw[a _ a0 v,a _ a1 s],λ_=>a _ b0 D,λh=>absurd rfl h⟩
  ·obtain⟨_,Q,F⟩:=hs.day.resolve_left e;have L:d.all okC=true:=bS.2 λc hc=>MU (F c hc);rw[ab e,ab e];refine⟨mt j++Y++mt i++(45::(mt p++m++mt r))++(45::(mt C++d)),G,⟨by simp,b2,?_,b _ ?_,by simp only[aZ,aG];omega⟩,?_,?_,rfl⟩
   ·have:=FB e (λc hc=>J5 (F c hc)) (mt j++Y++mt i++(45::(mt p++m++mt r))++(45::mt C));simpa using this
   ·simp only[EK,m7,qP a0,y,qP b0,qP a1,H,qP b1,qP a2,L,qP b2,show okC 45=true from by decide];rfl
   ·simp only[vM,vI,x_mk a0,x_mk b0,x_mk a1,x_mk b1,x_mk a2,t];simp only[o];simp[Bool.or_assoc]
   ·intro h;simp only[vM,vI,qO]at h;obtain⟨⟨⟨⟨v,R⟩,D⟩,h4,⟨s,J⟩,N⟩,h8,K,S⟩:=h;exact⟨by rw[a _ a0 v,a _ a1 s,a _ a2 K],λ_=>a _ b0 D,λ_=>a _ b1 N⟩
def mkX(x:TD):Bool:=hasX x.2.2.1||(hasX x.2.2.2.2.2.1||hasX x.2.2.2.2.2.2.1)
def lvT(T:aa)(x:TD):Int:=lvl (Lib.trimRightS T [63,126,37]) (!(Lib.trimRightS T [63,126,37]==T)) (mkX x) (seT x)
def ZM{T u:aa}{k:Nat}(h:Body T u k){x:TD}(hs:smT x):lY 20000000 T x=some (lvT T x):=by
 rw[YT h hs];unfold lvT mkX;rw[Du h,Lq h];simp
def Q4{S:aa}{a:Nat}(h:a<=S.length){r:DR}(n:fL S a=.inr r):∃A B u k,MkD A B (tdR r).2.2.2.2.2.1 (tdR r).2.2.2.2.2.2.1/\plR r=a+(mt A.1).length/\
  (S.drop a).take (enR r - a)=rawD A B r.1 r.2.1 r.2.2.1 (r.2.2.2.1:Int) (r.2.2.2.2.1:Int) r.2.2.2.2.2.1 r.2.2.2.2.2.2.1/\r.2.2.2.2.2.2.2.1=spM A B/\Body ((S.drop a).take (enR r - a)) u k/\
  lY 20000000 ((S.drop a).take (enR r - a)) (tdR r)=some (lvT ((S.drop a).take (enR r - a)) (tdR r)):=by
 obtain⟨i,D,z,p⟩:=oC h n;obtain⟨w,_⟩:=Iu h n;obtain⟨H,F,t,q,v,m',d',k0,k1,k2,b,ok⟩:=pa i D;obtain⟨g,l,dg,x,s,m,d,M,P,e⟩:=r;have ok:ShD g l dg x s m d:=by
  unfold tdR at b;simp only[bC]at b;obtain⟨rfl,rfl,rfl,hx,j,rfl,rfl,_⟩:=b;have hx:x=q:=by omega
  have j:s=v:=by omega
  subst hx j;exact ok.sh
 obtain⟨A,B,mk,C,y,o⟩:=OH w;have E:(rawD A B g l dg (x:Int) (s:Int) m d).length=e - a:=by
  have:=co List.length o;simp only[aZ,ci]at this;have:a<=e:=z;have:e<=S.length:=p;omega
 have c:(S.drop a).take (e - a)=rawD A B g l dg (x:Int) (s:Int) m d:=by rw[o,<-E,GE]
 obtain⟨u,k,f,G,_⟩:=Ro ok mk;refine⟨A,B,u,k,mk,y,c,C,by rw[show enR (g,l,dg,x,s,m,d,M,P,e)=e from rfl,c];exact f,?_⟩
 ·rw[show enR (g,l,dg,x,s,m,d,M,P,e)=e from rfl,c];exact ZM f i
def mx(a b:Int):Int:=if a>b then a else b
def lvR(S:aa)(p:Nat)(r:DR):Int:=lvT ((S.drop p).take (enR r - p)) (tdR r)
def Ez(u:aa)(b X:Bool)(c:Int):0<=lvl u b X c/\lvl u b X c<=2:=by
 unfold lvl
 repeat' split
 all_goals omega
def N7(S:aa)(p:Nat)(r:DR):0<=lvR S p r/\lvR S p r<=2:=Ez _ _ _ _
def bcT{x:TD}(h:smT x)(K:Int):ap10 (ip 20000000 K) x=some (rH K x):=wk h.1 h.2.1 h.2.2.1 h.2.2.2.1 h.2.2.2.2.1 h.2.2.2.2.2
def CU(n:Nat)(a:Int)(S:aa)(p:Int)(I:List TI)(K:Int)(D:TD)(KF:Int)(DF:TD)(KT:Int)(DT:TD)(e l:Bool)(lv:Int):
  cX n a S p I K D KF DF KT DT e l lv=some (K,D,KF,DF,KT,DT,e,l,mx a lv):=by
 unfold cX mx;rw[bW]
def LO(I:List TI)(K:Int)(D:TD)(KF:Int)(DF:TD)(KT:Int)(DT:TD)(e l:Bool)(lv:Int){S:aa}{p:Nat}(h:p<=S.length)(c:S.length<100000):
  dB 20000000 I K D KF DF KT DT e l lv S (p:Int)=some (match fL S p with
   | .inl f=>.inl ((f.1:Int),(f.2.1:Int),K,D,KF,DF,KT,DT,e,l,lv,S,(f.2.2:Int))
   | .inr r=>.inr (tdR r,((plR r:Nat):Int),K,D,KF,DF,KT,DT,e,l,mx (lvR S p r) lv,S,((enR r:Nat):Int))):=by
 unfold dB;rw[uo _ _ _ h,GB S p h c];cases a:fL S p with
 | inl f=>rfl
 | inr r=>
  obtain⟨i,j,k,b⟩:=oC h a;obtain⟨_,_,_,_,_,_,_,_,_,d⟩:=Q4 h a;rw[EB];simp only[obs,sm,ob];rw[show(d4 (d8 ((tdR r).1,(tdR r).2.1,(tdR r).2.2.1,(tdR r).2.2.2.1,(tdR r).2.2.2.2.1,(tdR r).2.2.2.2.2.1,(tdR r).2.2.2.2.2.2.1,(tdR r).2.2.2.2.2.2.2.1,(tdR r).2.2.2.2.2.2.2.2.1,(tdR r).2.2.2.2.2.2.2.2.2,((plR r:Nat):Int),S,((enR r:Nat):Int))))=((enR r:Nat):Int)from rfl,uo _ _ _ b];simp only[];have g:w64 (len (S.drop p) - len (S.drop (enR r)))=((enR r - p:Nat):Int):=by
   show wrap .i64 (((S.drop p).length:Int) - ((S.drop (enR r)).length:Int))=_;rw[ci,ci,wrap_i64 _ (by omega) (by omega)];omega
  rw[g,eM (by rw[ci];omega)];simp only[cS];rw[show lY 20000000 ((S.drop p).take (enR r - p)) (iF ((tdR r).1,(tdR r).2.1,(tdR r).2.2.1,(tdR r).2.2.2.1,(tdR r).2.2.2.2.1,(tdR r).2.2.2.2.2.1,(tdR r).2.2.2.2.2.2.1,(tdR r).2.2.2.2.2.2.2.1,(tdR r).2.2.2.2.2.2.2.2.1,(tdR r).2.2.2.2.2.2.2.2.2,((plR r:Nat):Int),S,((enR r:Nat):Int)))=_ from d];simp only[CU,u9,u8,u7,u6,u5,u4,u3,u2];rfl
def Ig{x:TD}(h:smT x)(hc:cF x=0)(a K:Int)(D:TD)(KF:Int)(DF:TD)(KT:Int)(DT:TD)(e l:Bool)(lv:Int)(S:aa)(p:Int)(I:List TI):
  cY 20000000 x a K D KF DF KT DT e l lv S p I=some (if exT x=true then .inr (1,x)else .inl (a,11)):=by
 unfold cY;rw[bcT h,F9,ae hc];cases exT x<;>rfl
noncomputable def toP(S:aa)(p:Nat)(KF:Int)(DF:TD)(lv:Int):(Nat×Nat)⊕(Int×TD×Int×Nat):=
 if KF=1/\p=S.length then .inr (3,d0,mx 1 lv,p)
 else if KF=1/\dts (S.drop p)=true then .inr (2,d0,mx 1 lv,p+2)
 else match fL S p with
  | .inl f=>.inl (f.1,f.2.1)
  | .inr r=>if exT (tdR r)=true then(if enR r<S.length\/nA KF DF 1 (tdR r)=0 then .inr (1,tdR r,mx (lvR S p r) (if KF=1 then lv else mx 1 lv),enR r)else .inl (plR r,11))else .inl (plR r,11)
def YB(S:aa)(D:TD)(KF:Int)(DF:TD)(e l:Bool):(Nat×Nat)⊕(Int×TD×Int×Nat)->(Int×TD×Int×TD×Int×TD×Bool×Bool×Int×aa×Int)⊕(Int×Int×Int×TD×Int×TD×Int×TD×Bool×Bool×Int×aa×Int)->Prop
 | .inl f,y=>∃z,y=.inr ((f.1:Int),(f.2:Int),z)
 | .inr (KT,DT,lv,p),y=>y=.inl (2,D,KF,DF,KT,DT,e,l,lv,S,(p:Int))
def Ip{S:aa}{p:Nat}(h:p<=S.length):(peek (S.drop p)).2=decide (p<S.length):=by
 by_cases hp:p<S.length
 ·rw[ar hp,gm (bu hp)];rfl
 ·rw[au hp,mB (by omega)];rfl
def U5(I:List TI)(K:Int){DF:TD}(U:smT DF)(KF:Int)(lv:Int){S:aa}{p:Nat}(h:p<=S.length)(hS:S.length<100000):
  ∃y,fO 20000000 I K d0 KF DF 0 d0 false false lv S (p:Int)=some y/\YB S d0 KF DF false false (toP S p KF DF lv) y:=by
 have q:∀(m:Int) (t:m=if KF=1 then lv else mx 1 lv) (Y:¬(KF=1/\p=S.length)) (l:¬(KF=1/\dts (S.drop p)=true)),∃y,(obs (dB 20000000 I 2 d0 KF DF 0 d0 false false m S (p:Int)) (u13 λN T O x G z M A H B P L Q=>(some (.inr (N,T,O,x,G,z,M,A,H,B,P,L,Q)))) (u13 λV u k j d c w v e i g a b=>(obs (cY 20000000 V u k j d c w v e i g a b I) (u2 λE D=>(some (.inr (E,D,k,j,d,c,w,v,e,i,g,a,b)))) (u2 λn o=>(ob (bm 20000000 a b) (u2 λ_ R=>(cond (!R) (ob (ap10 (ap10 (iv 20000000 d) c n) o) λF=>(cond (F != 0) (ob (aO 20000000 u 11 a b) (u2 λJ C=>(some (.inr (J,C,k,j,d,c,n,o,e,i,g,a,b))))) (some (.inl (k,j,d,c,n,o,e,i,g,a,b))))) (some (.inl (k,j,d,c,n,o,e,i,g,a,b))))))))))=some y/\YB S d0 KF DF false false (toP S p KF DF lv) y:=by
  intro m t Y l;unfold toP;rw[LO I 2 d0 KF DF 0 d0 false false m h hS,ab Y,ab l];cases hr:fL S p with
  | inl f=>exact⟨_,rfl,_,rfl⟩
  | inr r=>
   obtain⟨Z,c1,l1,X⟩:=oC h hr;simp only[obs,sm,ob,u13,u12,u11,u10,u9,u8,u7,u6,u5,u4,u3,u2];rw[Ig Z c1];cases hx:exT (tdR r)
   ·exact⟨_,rfl,_,rfl⟩
   ·simp only[aN,pY _ _ _ X,Ip X];by_cases W:enR r<S.length
    ·rw[ar W,ae (.inl W)];exact⟨_,rfl,by rw[<-t];rfl⟩
    ·rw[au W];simp only[kL,aj];rw[MM U Z];simp only[];by_cases hp:nA KF DF 1 (tdR r)=0
     ·rw[ae (.inr hp),show(nA KF DF 1 (tdR r) != 0)=false from by simp[hp]];exact⟨_,rfl,by rw[<-t];rfl⟩
     ·rw[ab (by rintro(h | h)<;>contradiction),show(nA KF DF 1 (tdR r) != 0)=true from by simp[hp]];exact⟨_,rfl,_,rfl⟩
 unfold fO;by_cases s:KF=1
 ·rw[show(KF==1)=true from by simp[s],aj,pY _ _ _ h];simp only[ob,u2,Ip h,CU];by_cases hp:p<S.length
  ·rw[ar hp];simp only[dL,af];rw[nH _ _ _ _ h (by omega)];cases l:dts (S.drop p)
   ·rw[ab (show¬(S.drop p).take [(46:UInt8),46].length=[46,46]fromλh=>by unfold dts at l;rw[show(S.drop p).take 2=[46,46]from h]at l;cases l)];exact q lv (by rw[ae s]) (by omega) (by rw[l];simp)
   ·rw[ae (show(S.drop p).take [(46:UInt8),46].length=[46,46]from eq_of_beq l)];refine⟨_,rfl,?_⟩;unfold toP;rw[ab (by omega),ae ⟨s,l⟩];rfl
  ·rw[au hp];refine⟨_,rfl,?_⟩;unfold toP;rw[ae ⟨s,by omega⟩];rfl
 ·rw[show(KF==1)=false from by simp[s],af,CU];simp only[ob,u9,u8,u7,u6,u5,u4,u3,u2];exact q (mx 1 lv) (by rw[ab s]) (by simp[s]) (by simp[s])
noncomputable def toX(S:aa)(p:Nat)(KF:Int)(DF:TD)(lv:Int):(Nat×Nat)⊕(Int×TD×Int):=match toP S p KF DF lv with
 | .inl f=>.inl f
 | .inr (KT,DT,L,q)=>if q<S.length then .inl (q,5)else .inr (KT,DT,L)
noncomputable def kW(S:aa):(Nat×Nat)⊕(Int×TD×Int×TD×Int×TD×Int)⊕(Int×Bool×Bool×List TI):=
 if S.head?=some 91\/S.head?=some 123 then(match IG S with | .inl f=>.inl f | .inr q=>.inr (.inr q))
 else if S.head?=some 47 then(match toX S 1 3 d0 0 with | .inl f=>.inl f | .inr (KT,DT,L)=>.inr (.inl (2,d0,3,d0,KT,DT,L)))
 else if dts S=true then(if(S.drop 2).head?=some 47 then(match toX S 3 2 d0 0 with | .inl f=>.inl f | .inr (KT,DT,L)=>.inr (.inl (2,d0,2,d0,KT,DT,L)))else .inl (2,5))
 else match fL S 0 with
  | .inl f=>.inl (f.1,f.2.1)
  | .inr r=>if(S.drop (enR r)).head?=some 47 then(if exT (tdR r)=true then(match toX S (enR r+1) 1 (tdR r) (lvR S 0 r)with | .inl f=>.inl f | .inr (KT,DT,L)=>.inr (.inl (2,d0,1,tdR r,KT,DT,L)))else .inl (plR r,11))
   else if enR r<S.length then .inl (enR r,5)else .inr (.inl (1,tdR r,0,d0,0,d0,lvR S 0 r))
def Tj:(Nat×Nat)⊕(Int×TD×Int×TD×Int×TD×Int)⊕(Int×Bool×Bool×List TI)->(Int×TD×Int×TD×Int×TD×Bool×Bool×Int×Int×Int×List TI)⊕(Int×TD×Int×TD×Int×TD×Nat×Nat×Bool×Bool×Int×Int×Int×List TI)
 | .inl f=>.inl (0,d0,0,d0,0,d0,false,false,0,(f.1:Int),(f.2:Int),[])
 | .inr (.inl (K,D,KF,DF,KT,DT,L))=>.inl (K,D,KF,DF,KT,DT,false,false,L,0,0,[])
 | .inr (.inr (K,e,l,I))=>.inr (K,d0,0,d0,0,d0,I.length,I.length,e,l,2,0,0,I)
def xC{S:aa}{p:Nat}(h:p<=S.length){f:Nat×Nat×Nat}(a:fL S p=.inl f):f.2.1≠0:=xI (k:=f.1) (E:=f.2.1) (p:=f.2.2) h a
def GO{S:aa}{p:Nat}(h:p<=S.length){KF:Int}{DF:TD}{lv:Int}{f:Nat×Nat}(a:toP S p KF DF lv=.inl f):f.2≠0:=by
 unfold toP at a;split at a
 ·cases a
 ·split at a
  ·cases a
  ·cases b:fL S p with
   | inl g=>rw[b]at a;cases a;exact xC h b
   | inr r=>
    rw[b]at a;simp only[]at a;split at a
    ·split at a
     ·cases a
     ·cases a;simp
    ·cases a;simp
def E7(l:aa)(c:UInt8)(hc:c≠0):((peek l).1==((c.toNat:Nat):Int))=decide (l.head?=some c):=by
 have:=Xr l c hc;cases l with
 | nil=>exact this
 | cons a r=>exact this
def Hr{S:aa}{p:Nat}(h:p<=S.length)(a:S.length<100000)(c:UInt8):aC 20000000 [c] S (p:Int)=some (decide ((S.drop p).head?=some c),S,((if(S.drop p).head?=some c then p+1 else p:Nat):Int)):=by
 rw[nH _ _ _ _ h (by omega)];simp only[tk1];by_cases hc:(S.drop p).head?=some c
 ·rw[ae hc,ae hc,ar hc];rfl
 ·rw[ab hc,ab hc,au hc]
def ON{S:aa}{p:Nat}(h:p<=S.length)(b:S.length<100000):aC 20000000 [46,46] S (p:Int)=some (dts (S.drop p),S,((if dts (S.drop p)=true then p+2 else p:Nat):Int)):=by
 rw[nH _ _ _ _ h (by omega)];cases a:dts (S.drop p)
 ·rw[ab (show¬(S.drop p).take [(46:UInt8),46].length=[46,46]fromλh=>by unfold dts at a;rw[show(S.drop p).take 2=[46,46]from h]at a;cases a)];rfl
 ·rw[ae (show(S.drop p).take [(46:UInt8),46].length=[46,46]from eq_of_beq a)];rfl
def J7{S:aa}{p:Nat}(h:p<=S.length)(c:S.length<100000):cf 20000000 [47] S (p:Int)=some (if(S.drop p).head?=some 47 then .inl (S,((p+1:Nat):Int))else .inr ((p:Int),5,S,(p:Int))):=by
 rw[AW _ _ _ _ h (by omega) (by simp) (by simp)];simp only[tk1];by_cases hc:(S.drop p).head?=some 47
 ·rw[ae hc,ae hc];rfl
 ·rw[ab hc,ab hc];have:lcp (S.drop p) [47]=0:=by
   cases b:S.drop p with
   | nil=>rfl
   | cons a r=>
    rw[b]at hc;simp only[lcp];rw[show(a==47)=false from by rw[aK];rintro rfl;exact hc rfl];rfl
  rw[this];rfl
def WY(S:aa):(Nat×Nat)⊕(Int×TD×Int×TD×Int×TD×Int×Nat)⊕(Int×Bool×Bool×List TI×Nat)->((Int×Int×Int×TD×Int×TD×Int×TD×Bool×Bool×Int×aa×Int)⊕(Int×TD×Int×TD×Int×TD×Nat×Nat×Bool×Bool×Int×aa×Int×List TI)⊕(Int×TD×Int×TD×Int×TD×Bool×Bool×Int×aa×Int)⊕(Int×TD×Int×TD×Int×TD×Bool×Bool×Int×aa×Int×List TI))->Prop
 | .inl f,y=>∃z,y=.inl ((f.1:Int),(f.2:Int),z)
 | .inr (.inl (K,D,KF,DF,KT,DT,L,p)),y=>y=.inr (.inr (.inl (K,D,KF,DF,KT,DT,false,false,L,S,(p:Int))))\/y=.inr (.inr (.inr (K,D,KF,DF,KT,DT,false,false,L,S,(p:Int),[])))
 | .inr (.inr (K,e,l,I,p)),y=>y=.inr (.inl (K,d0,0,d0,0,d0,I.length,I.length,e,l,2,S,(p:Int),I))
noncomputable def BL(S:aa):(Nat×Nat)⊕(Int×TD×Int×TD×Int×TD×Int×Nat)⊕(Int×Bool×Bool×List TI×Nat):=
 if S.head?=some 91\/S.head?=some 123 then(match wT S 0 with | .inl f=>.inl (f.1,f.2.1) | .inr q=>.inr (.inr q))
 else if S.head?=some 47 then(match toP S 1 3 d0 0 with | .inl f=>.inl f | .inr (KT,DT,L,q)=>.inr (.inl (2,d0,3,d0,KT,DT,L,q)))
 else if dts S=true then(if(S.drop 2).head?=some 47 then(match toP S 3 2 d0 0 with | .inl f=>.inl f | .inr (KT,DT,L,q)=>.inr (.inl (2,d0,2,d0,KT,DT,L,q)))else .inl (2,5))
 else match fL S 0 with
  | .inl f=>.inl (f.1,f.2.1)
  | .inr r=>if(S.drop (enR r)).head?=some 47 then(if exT (tdR r)=true then(match toP S (enR r+1) 1 (tdR r) (lvR S 0 r)with | .inl f=>.inl f | .inr (KT,DT,L,q)=>.inr (.inl (2,d0,1,tdR r,KT,DT,L,q)))else .inl (plR r,11))
   else .inr (.inl (1,tdR r,0,d0,0,d0,lvR S 0 r,enR r))
def mx0{a:Int}(h:0<=a):mx a 0=a:=by unfold mx;split<;>omega
def U2{S:aa}(i:S.length<100000):∃y,iw 20000000 [] 0 d0 0 d0 0 d0 false false 0 S 0=some y/\WY S (BL S) y:=by
 have z0:(0:Int)=((0:Nat):Int):=rfl;have Q:=pY 20000000 S 0 (jr _);rw[cS,show((0:Nat):Int)=0 from rfl]at Q;have R:=UZ (S:=S) (a:=0) (jr _) i;rw[show((0:Nat):Int)=0 from rfl]at R;have O:=Hr (S:=S) (p:=0) (jr _) i 47;rw[cS,show((0:Nat):Int)=0 from rfl]at O;have T:=ON (S:=S) (p:=0) (jr _) i;rw[cS,show((0:Nat):Int)=0 from rfl]at T;have P:=LO [] 0 d0 0 d0 0 d0 false false 0 (S:=S) (p:=0) (jr _) i;rw[show((0:Nat):Int)=0 from rfl]at P;have K:((peek S).1==91)=decide (S.head?=some 91):=E7 S 91 (by decide);have k:((peek S).1==123)=decide (S.head?=some 123):=E7 S 123 (by decide);have set:(S.head?=some 91\/S.head?=some 123)->∃y,(obs (nP 20000000 S 0) (u4 λv1 W v3 Z=>(some (.inl (v1,W,0,d0,0,d0,0,d0,false,false,0,v3,Z)))) (u13 λv5 U Y v8 v9 D v I w x o m l=>(ob (fY 20000000 2 o m l v5 U Y v8 v9 D v I w x 0) (u11 λC M B E G J H s A t F=>(some (.inr (.inl (C,M,B,E,G,J,H,s,A,t,F,o,m,l))))))))=some y/\WY S (BL S) y:=by
  intro h;rw[R];unfold BL;rw[ae h];cases wT S 0 with
  | inl f=>exact⟨_,rfl,_,rfl⟩
  | inr q=>exact⟨_,rfl,rfl⟩
 unfold iw;rw[Q];simp only[ob,u2,K,k];by_cases g:S.head?=some 91
 ·rw[ar g,aj];exact set (.inl g)
 rw[au g,af];by_cases b:S.head?=some 123
 ·rw[ar b,aj];exact set (.inr b)
 rw[au b,af,O];clear set;unfold BL;rw[ab (show¬(S.head?=some 91\/S.head?=some 123)fromλh=>h.elim g b)];simp only[u3,u2];by_cases e:S.head?=some 47
 ·simp only[ar e,ae e,aj];have u:1<=S.length:=by
   have:=n7 (S:=S) (p:=0) (c:=47) (by rw[cS];exact e);omega
  obtain⟨y,n,d⟩:=U5 [] 0 oa 3 0 (S:=S) (p:=1) u i;rw[show(((0+1:Nat)):Int)=((1:Nat):Int)from rfl,n];cases j:toP S 1 3 d0 0 with
  | inl f=>
   rw[j]at d;obtain⟨z,rfl⟩:=d;exact⟨_,rfl,_,rfl⟩
  | inr q=>
   rw[j]at d;obtain⟨KT,DT,L,q⟩:=q;subst d;exact⟨_,rfl,.inl rfl⟩
 ·simp only[au e,ab e,af];rw[show(((0:Nat)):Int)=0 from rfl,T];simp only[];cases V:dts S
  ·rw[ab (by simp),ab (by simp),af,show(((0:Nat)):Int)=0 from rfl,P];cases hr:fL S 0 with
   | inl f=>exact⟨_,rfl,_,rfl⟩
   | inr r=>
    obtain⟨N,c1,l1,X⟩:=oC (jr _) hr;simp only[obs,sm,ob,u13,u12,u11,u10,u9,u8,u7,u6,u5,u4,u3,u2];rw[Hr X i,mx0 (N7 S 0 r).1];simp only[];by_cases hs:(S.drop (enR r)).head?=some 47
    ·simp only[ar hs,ae hs,dL,af];rw[Ig N c1];cases hx:exT (tdR r)
     ·exact⟨_,rfl,_,rfl⟩
     ·obtain⟨y,n,d⟩:=U5 [] 0 N 1 (lvR S 0 r) (S:=S) (p:=enR r+1) (n7 hs) i;simp only[aN];rw[n];cases j:toP S (enR r+1) 1 (tdR r) (lvR S 0 r)with
      | inl f=>
       rw[j]at d;obtain⟨z,rfl⟩:=d;exact⟨_,rfl,_,rfl⟩
      | inr q=>
       rw[j]at d;obtain⟨KT,DT,L,q⟩:=q;subst d;exact⟨_,rfl,.inl rfl⟩
    ·simp only[au hs,ab hs];exact⟨_,rfl,.inr rfl⟩
  ·rw[ae rfl,ae rfl,aj];have u:2<=S.length:=by
    have:=ud (S:=S) (p:=0) (by rw[cS];exact V);omega
   rw[show(((0+2:Nat)):Int)=((2:Nat):Int)from rfl,J7 u i];by_cases hs:(S.drop 2).head?=some 47
   ·simp only[ae hs];obtain⟨y,n,d⟩:=U5 [] 0 oa 2 0 (S:=S) (p:=3) (n7 hs) i;rw[show(((2+1:Nat)):Int)=((3:Nat):Int)from rfl];simp only[obs,sm,ob,u2,n];cases j:toP S 3 2 d0 0 with
    | inl f=>
     rw[j]at d;obtain⟨z,rfl⟩:=d;exact⟨_,rfl,_,rfl⟩
    | inr q=>
     rw[j]at d;obtain⟨KT,DT,L,q⟩:=q;subst d;exact⟨_,rfl,.inl rfl⟩
   ·simp only[ab hs];exact⟨_,rfl,_,rfl⟩
def Ov{S:aa}{f:Nat×Nat}(a:BL S=.inl f):f.2≠0:=by
 unfold BL at a;split at a
 ·cases b:wT S 0 with
  | inl g=>rw[b]at a;cases a;exact Ll (jr _) b
  | inr q=>rw[b]at a;cases a
 ·split at a
  ·rename_i h;cases b:toP S 1 3 d0 0 with
   | inl g=>
    rw[b]at a;cases a;exact GO (n7 (S:=S) (p:=0) (by rw[cS];exact h)) b
   | inr q=>rw[b]at a;cases a
  ·split at a
   ·split at a
    ·rename_i h;cases b:toP S 3 2 d0 0 with
     | inl g=>rw[b]at a;cases a;exact GO (n7 h) b
     | inr q=>rw[b]at a;cases a
    ·cases a;simp
   ·cases b:fL S 0 with
    | inl g=>rw[b]at a;cases a;exact xC (jr _) b
    | inr r=>
     rw[b]at a;simp only[]at a;split at a
     ·rename_i h;split at a
      ·cases c:toP S (enR r+1) 1 (tdR r) (lvR S 0 r)with
       | inl g=>rw[c]at a;cases a;exact GO (n7 h) c
       | inr q=>rw[c]at a;cases a
      ·cases a;simp
     ·cases a
def Fj(S:aa):kW S=match BL S with
  | .inl f=>.inl f
  | .inr (.inl (K,D,KF,DF,KT,DT,L,q))=>if q<S.length then .inl (q,5)else .inr (.inl (K,D,KF,DF,KT,DT,L))
  | .inr (.inr (K,e,l,I,q))=>if q<S.length then .inl (q,5)else .inr (.inr (K,e,l,I)):=by
 unfold kW BL IG toX;split
 ·cases wT S 0 with
  | inl f=>rfl
  | inr q=>
   obtain⟨_,_,_,_,p⟩:=q;by_cases hp:p<S.length<;>simp[hp]
 ·split
  ·cases toP S 1 3 d0 0 with
   | inl f=>rfl
   | inr q=>
    obtain⟨_,_,_,p⟩:=q;by_cases hp:p<S.length<;>simp[hp]
  ·split
   ·split
    ·cases toP S 3 2 d0 0 with
     | inl f=>rfl
     | inr q=>
      obtain⟨_,_,_,p⟩:=q;by_cases hp:p<S.length<;>simp[hp]
    ·rfl
   ·cases fL S 0 with
    | inl f=>rfl
    | inr r=>
     simp only[];split
     ·split
      ·cases toP S (enR r+1) 1 (tdR r) (lvR S 0 r)with
       | inl f=>rfl
       | inr q=>
        obtain⟨_,_,_,p⟩:=q;by_cases hp:p<S.length<;>simp[hp]
      ·rfl
     ·rfl
def HV{S:aa}(d:S.length<=16384):gq 20000000 S=some (Tj (kW S)):=by
 obtain⟨y,c,a⟩:=U2 (S:=S) (by omega);unfold gq eH;rw[show decide (len S>16384)=false from au (by show¬(16384:Int)<((S.length:Nat):Int);omega),af,c,Fj];cases b:BL S with
 | inl f=>
  have g:=Ov b;rw[b]at a;obtain⟨z,rfl⟩:=a;simp only[obs,sm,ob,u13,u12,u11,u10,u9,u8,u7,u6,u5,u4,u3,u2];rw[show(((f.2:Nat):Int) != 0)=true from by simp;omega];rfl
 | inr q=>
  rw[b]at a;cases q with
  | inl q=>
   obtain⟨K,D,KF,DF,KT,DT,L,p⟩:=q;simp only[];rcases a with rfl | rfl
   ·simp only[obs,sm,ob,u13,u12,u11,u10,u9,u8,u7,u6,u5,u4,u3,u2];by_cases hp:p<S.length
    ·rw[ae hp,ar (show(p:Int)<((S.length:Nat):Int)by omega)];rfl
    ·rw[ab hp,au (show¬(p:Int)<((S.length:Nat):Int)by omega)];rfl
   ·simp only[obs,sm,ob,u14,u13,u12,u11,u10,u9,u8,u7,u6,u5,u4,u3,u2];by_cases hp:p<S.length
    ·rw[ae hp,ar (show(p:Int)<((S.length:Nat):Int)by omega)];rfl
    ·rw[ab hp,au (show¬(p:Int)<((S.length:Nat):Int)by omega)];rfl
  | inr q=>
   obtain⟨K,e,l,I,p⟩:=q;subst a;simp only[obs,sm,ob,u16,u15,u14,u13,u12,u11,u10,u9,u8,u7,u6,u5,u4,u3,u2];by_cases hp:p<S.length
   ·rw[ae hp,ar (show(p:Int)<((S.length:Nat):Int)by omega)];rfl
   ·rw[ab hp,au (show¬(p:Int)<((S.length:Nat):Int)by omega)];rfl
def lvX(x:TD):Int:=lvT (gx x) x
def K4{x:TD}(hs:smT x)(hc:cF x=0):∃r,fL (gx x) 0=.inr r/\tdR r=x/\enR r=(gx x).length/\lvR (gx x) 0 r=lvX x:=by
 obtain⟨r,d,c,b⟩:=zA hs hc (S:=gx x) (a:=0) (post:=[]) (by simp) Hl;rw[cK]at b;refine⟨r,d,c,b,?_⟩;unfold lvR lvX;rw[c,b,tu,cS,oV]
def ow(x:TD):0<=lvX x/\lvX x<=2:=Ez _ _ _ _
def kw(K:Int)(x:TD):aa:=if K=2 then[46,46]else if K=3 then[]else gx x
def okB(K:Int)(x:TD):Prop:=(K=1/\cF x=0/\exT x=true)\/((K=2\/K=3)/\x=d0)
def RX{K:Int}{x:TD}(h:rH K x=0):okB K x:=by
 by_cases c:K=1
 ·subst c;obtain⟨a,b⟩:=tH h;exact .inl ⟨rfl,a,b⟩
 ·unfold rH chkB at h;rw[ab c]at h;split at h
  ·rename_i d;split at h
   ·rename_i e;exact .inr ⟨d,i7.1 e⟩
   ·cases h
  ·cases h
def nQ{KF KT:Int}{x y:TD}(h:nA KF x KT y=0):okB KF x/\okB KT y/\(KF=1\/KT=1):=by
 unfold nA FG at h;by_cases b:rH KF x=0
 ·rw[ab (λz=>z b)]at h;by_cases a:rH KT y=0
  ·rw[ab (λz=>z a)]at h;split at h
   ·cases h
   ·rename_i c;exact⟨RX b,RX a,by omega⟩
  ·rw[ae a]at h;exact absurd h a
 ·rw[ae b]at h;exact absurd h b
inductive RightP:Int->TD->Int->TD->Int->TD->Bool->Bool->List TI->Prop where
 | single {x:TD} (hs:smT x) (hc:cF x=0):RightP 1 x 0 d0 0 d0 false false []
 | interval {KF:Int} {x:TD} {KT:Int} {y:TD} (hx:smT x) (hy:smT y) (hp:nA KF x KT y=0):RightP 2 d0 KF x KT y false false []
 | set {K:Int} {e l:Bool} {I:List TI} (P:SetP K d0 0 d0 0 d0 e l I) (hs:∀t∈I,smI t):RightP K d0 0 d0 0 d0 e l I
def uB{k:Int}{D:TD}{KF:Int}{DF:TD}{KT:Int}{DT:TD}{e l:Bool}{I:List TI}(hs:smE D DF DT I)(h:(fj k D KF DF KT DT e l I).2=0):RightP k D KF DF KT DT e l I:=by
 by_cases j:k=3\/k=4
 ·have P:=E5 j h;obtain⟨rfl,rfl,rfl,rfl,rfl⟩:D=d0/\KF=0/\DF=d0/\KT=0/\DT=d0:=⟨P.d,P.kf,P.df,P.kt,P.dt⟩;exact .set P hs.2.2.2
 ·unfold fj at h;split at h
  ·simp at h
  ·split at h
   ·simp at h
   ·rename_i o a;unfold unuB at a;generalize z1:eqD D d0=q at a;generalize z2:eqD DF d0=n at a;generalize f:eqD DT d0=p at a;by_cases k1:k=1
    ·subst k1;rw[ae rfl]at h;simp at a;obtain⟨⟨⟨a1,a2⟩,c,b⟩,i,g,m⟩:=a;subst a1 c i g m;rw[i7.1 (z2.trans a2),i7.1 (f.trans b)];exact .single hs.1 h
    ·have k2:k=2:=by omega
     subst k2;rw[ab (by omega),ae rfl]at h;simp at a;obtain⟨a1,a2,c,b⟩:=a;subst a2 c b;rw[i7.1 (z1.trans a1)];exact .interval hs.2.1 hs.2.2.1 h
def pf(k:Int)(D:TD)(KF:Int)(DF:TD)(KT:Int)(DT:TD)(e l:Bool)(I:List TI):aa:=
 if k=1 then gx D else if k=2 then kw KF DF++47::kw KT DT else tz k e l I
def lvE(k:Int)(D:TD)(KF:Int)(DF:TD)(KT:Int)(DT:TD):Int:=
 if k=1 then lvX D else if k=2 then mx (if KT=1 then lvX DT else 1) (if KF=1 then lvX DF else 1)else 2
def exOf(k:Int)(D:TD)(KF:Int)(DF:TD)(KT:Int)(DT:TD)(e l:Bool)(I:List TI)(L:Int):(Nat×Nat)⊕(Int×TD×Int×TD×Int×TD×Int)⊕(Int×Bool×Bool×List TI):=
 if k=1\/k=2 then .inr (.inl (k,D,KF,DF,KT,DT,L))else .inr (.inr (k,e,l,I))
def Ad{x:TD}(hs:smT x)(hc:cF x=0)(r:aa)(c:UInt8)(a:brk c=true):(gx x++r).head?≠some c:=λh=>by
 have:=nS hs hc r c h;rw[a]at this;cases this
def RA{x:TD}(hs:smT x)(hc:cF x=0):gx x≠[]:=by
 obtain⟨g,l,dg,e,q,m,d,a,b,c,rfl,ok⟩:=pa hs hc;obtain⟨f,_,_⟩:=yO ok.yr;intro h;have h:tU g l dg (e:Int) (q:Int) m d a b c=[]:=h;unfold tU cU at h;have:=co List.length h;simp only[aZ,cE]at this;exact f (sZ (by omega))
def BV{KF:Int}{DF:TD}{KT:Int}{DT:TD}(hx:smT DF)(hy:smT DT)(hp:nA KF DF KT DT=0){S:aa}{p:Nat}(i:p<=S.length)(h:S.drop p=kw KT DT)(lv:Int):
  toX S p KF DF lv=.inr (KT,DT,mx (if KT=1 then lvX DT else 1) (if KF=1 then lv else mx 1 lv)):=by
 obtain⟨s,n,b1⟩:=nQ hp;have b:=co List.length h;rw[ci]at b;unfold toX toP;rcases n with⟨rfl,hc,m⟩ | ⟨l,rfl⟩
 ·have f:kw 1 DT=gx DT:=by unfold kw;rw[ab (by omega),ab (by omega)]
  rw[f]at h b;have k:¬(KF=1/\p=S.length):=by
   rintro⟨_,e⟩;exact RA hy hc (sZ (by omega))
  have d:¬(KF=1/\dts (S.drop p)=true):=by
   rintro⟨_,e⟩;rw[h]at e;have:=nS hy hc [];rw[lH]at this;rw[rR this]at e;cases e
  obtain⟨r,q,g,j⟩:=zA hy hc (S:=S) (a:=p) (post:=[]) (by rw[h,lH]) Hl;rw[ab k,ab d,q];simp only[];rw[g,ae m,ae (.inr hp)];simp only[aN];rw[ab (by omega)];have:lvR S p r=lvX DT:=by
   unfold lvR lvX;rw[g,j,h];rw[show p+(gx DT).length - p=(gx DT).length by omega,oV]
  rw[this]
 ·have o:KF=1:=by omega
  subst o;rcases l with rfl | rfl
  ·have f:S.drop p=[46,46]:=h;have d:dts (S.drop p)=true:=by rw[f];rfl
   have t:=ud d;have c:(kw 2 d0).length=2:=rfl;rw[ab (by omega),ae ⟨rfl,d⟩];simp only[];rw[ab (by omega)];rfl
  ·have c:(kw 3 d0).length=0:=rfl;rw[ae ⟨rfl,by omega⟩];simp only[];rw[ab (by omega)];rfl
def Dy{x:TD}(hs:smT x)(hc:cF x=0):kW (gx x)=.inr (.inl (1,x,0,d0,0,d0,lvX x)):=by
 obtain⟨r,f,e,d,r4⟩:=K4 hs hc;have a:=nS hs hc [];rw[lH]at a;have b:=λc a=>Ad hs hc [] c a;rw[lH]at b;generalize gx x=T at *;unfold kW;rw[ab (by rintro(h | h);exact b 91 (by decide) h;exact b 123 (by decide) h),ab (b 47 (by decide)),rR a,ab (by simp),f];simp only[];rw[d,xe,ab (by simp),ab (by omega),e,r4]
def Jw{DF:TD}(hx:smT DF)(hc:cF DF=0)(m:exT DF=true){KT:Int}{DT:TD}(hy:smT DT)(hp:nA 1 DF KT DT=0):kW (gx DF++47::kw KT DT)=.inr (.inl (2,d0,1,DF,KT,DT,mx (if KT=1 then lvX DT else 1) (lvX DF))):=by
 have b:=nS hx hc (47::kw KT DT);have i:=λc b=>Ad hx hc (47::kw KT DT) c b;generalize f:gx DF++47::kw KT DT=S at *;obtain⟨r,o,j,d⟩:=zA hx hc (S:=S) (a:=0) (post:=47::kw KT DT) (by rw[cS,f]) (rL (by decide));rw[cK]at d;have e:S.drop (enR r)=47::kw KT DT:=by rw[d,<-f,List.drop_left]
 have l:S.drop (enR r+1)=kw KT DT:=by rw[<-kK,e];rfl
 have n:lvR S 0 r=lvX DF:=by
  unfold lvR lvX;rw[j,d,tu,cS,<-f,GE]
 have g:enR r+1<=S.length:=by
  have:=co List.length e;rw[ci,aG]at this;omega
 have k:=BV hx hy hp g l (lvX DF);rw[ae rfl]at k;unfold kW;rw[ab (by rintro(h | h);exact i 91 (by decide) h;exact i 123 (by decide) h),ab (i 47 (by decide)),rR b,ab (by simp),o];simp only[];rw[e,oO,ae rfl,j,ae m,n,k]
def J8{DT:TD}(hy:smT DT)(hp:nA 2 d0 1 DT=0):kW (46::46::47::gx DT)=.inr (.inl (2,d0,2,d0,1,DT,mx (lvX DT) 1)):=by
 have a:=BV oa hy hp (S:=46::46::47::gx DT) (p:=3) (by simp only[aG];omega) (by simp only[oi,cS];unfold kw;rw[ab (by omega),ab (by omega)]) 0;rw[ae rfl,ab (by omega)]at a;generalize gx DT=T at *;unfold kW;rw[ab (by simp),ab (by simp)];have b:dts (46::46::47::T)=true:=rfl;rw[ae b,ae (by rfl),a];rfl
def M3{DT:TD}(hy:smT DT)(hp:nA 3 d0 1 DT=0):kW (47::gx DT)=.inr (.inl (2,d0,3,d0,1,DT,mx (lvX DT) 1)):=by
 have a:=BV oa hy hp (S:=47::gx DT) (p:=1) (by simp only[aG];omega) (by simp only[oi,cS];unfold kw;rw[ab (by omega),ab (by omega)]) 0;rw[ae rfl,ab (by omega)]at a;generalize gx DT=T at *;unfold kW;rw[ab (by simp),ae (by rfl),a];rfl
def yT{k:Int}{D:TD}{KF:Int}{DF:TD}{KT:Int}{DT:TD}{e l:Bool}{I:List TI}(h:RightP k D KF DF KT DT e l I):kW (pf k D KF DF KT DT e l I)=exOf k D KF DF KT DT e l I (lvE k D KF DF KT DT):=by
 cases h with
 | single hs hc=>
  unfold pf exOf lvE;rw[ae (by omega),ae (by omega),ae (by omega),Dy hs hc]
 | interval hx hy hp=>
  obtain⟨j,p,b1⟩:=nQ hp;unfold pf exOf lvE;rw[ab (by omega),ae (by omega),ae (by omega),ab (by omega),ae (by omega)];rcases j with⟨rfl,hc,i⟩ | ⟨d,rfl⟩
  ·have b:kw 1 DF=gx DF:=by unfold kw;rw[ab (by omega),ab (by omega)]
   rw[b,Jw hx hc i hy hp,ae (show(1:Int)=1 from rfl)]
  ·have o:KT=1:=by omega
   subst o;have b:kw 1 DT=gx DT:=by unfold kw;rw[ab (by omega),ab (by omega)]
   rw[b,ae (show(1:Int)=1 from rfl),ab (by omega)];rcases d with rfl | rfl
   ·have g:kw 2 d0=[46,46]:=by unfold kw;rw[ae rfl]
    rw[g];exact J8 hy hp
   ·have m:kw 3 d0=[]:=by unfold kw;rw[ab (by omega),ae rfl]
    rw[m];exact M3 hy hp
 | set P hs=>
  have ok:=λt b=>(If P hs t b).1;have d:=P.kind;have c:¬(k=1\/k=2):=by omega
  have f:pf k d0 0 d0 0 d0 e l I=tz k e l I:=by
   unfold pf;rw[ab (by omega),ab (by omega)]
  have a:∀L,exOf k d0 0 d0 0 d0 e l I L=.inr (.inr (k,e,l,I)):=λL=>by
   unfold exOf;rw[ab c]
  rw[f,a];have n:(tz k e l I).head?=some 91\/(tz k e l I).head?=some 123:=by
   unfold tz;rw[oO];split
   ·exact .inr rfl
   ·exact .inl rfl
  have hp:=J9 d P.one P.most ok P.set;generalize tz k e l I=T at *;unfold kW;rw[ae n,hp]
def uP{K:Int}{x:TD}(hs:smT x)(h:okB K x):(kw K x).length<=37:=by
 rcases h with⟨rfl,hc,c⟩ | ⟨a,rfl⟩
 ·have b:kw 1 x=gx x:=by unfold kw;rw[ab (by omega),ab (by omega)]
  rw[b];exact pO hs hc
 ·rcases a with rfl | rfl<;>decide
def okDs(L:List TD):Prop:=∀x∈L,smT x/\cF x=0
def OI{k:Int}{D:TD}{KF:Int}{DF:TD}{KT:Int}{DT:TD}{e l:Bool}{I:List TI}(h:RightP k D KF DF KT DT e l I):okDs (datE k D KF DF KT DT I):=by
 intro x hx;cases h with
 | single hs hc=>
  unfold datE at hx;rw[ae rfl]at hx;rw[lV.1 hx];exact⟨hs,hc⟩
 | interval m n hp=>
  obtain⟨o,p,_⟩:=nQ hp;have g:KF=1->cF DF=0:=λh=>by
   rcases o with⟨_,hc,_⟩ | ⟨d,_⟩
   ·exact hc
   ·omega
  have j:KT=1->cF DT=0:=λh=>by
   rcases p with⟨_,hc,_⟩ | ⟨d,_⟩
   ·exact hc
   ·omega
  unfold datE at hx;rw[ab (by omega),ae rfl]at hx;split at hx
  ·rename_i i;split at hx
   ·rename_i f;rcases cb.1 hx with rfl | hx
    ·exact⟨m,g i⟩
    ·rw[lV.1 hx];exact⟨n,j f⟩
   ·rw[lV.1 hx];exact⟨m,g i⟩
  ·split at hx
   ·rename_i f;rw[lV.1 hx];exact⟨n,j f⟩
   ·cases hx
 | set P hs=>
  have d:=P.kind;unfold datE at hx;rw[ab (by omega),ab (by omega),ae d]at hx;obtain⟨t,r,c⟩:=Gi.1 hx;have ok:=(If P hs t r).1;unfold datI at c;split at c
  ·rename_i q;rcases cb.1 c with rfl | c
   ·exact⟨ok.sm.1,ok.a⟩
   ·rw[lV.1 c];exact⟨ok.sm.2,ok.b q⟩
  ·rw[lV.1 c];exact⟨ok.sm.1,ok.a⟩
def mxL(w:Int)(L:List TD):Int:=L.foldl (λw x=>mx (lvX x) w) w
def M1:∀{L:List TD},mxL 2 L=2
 | []=>rfl
 | x::L=>by
  have:=ow x;show mxL (mx (lvX x) 2) L=2;rw[show mx (lvX x) 2=2 from by unfold mx;rw[ab (by omega)]];exact M1
def J0(k KF KT:Int):Int:=if k>2 then 2 else if k=2/\(KF≠1\/KT≠1)then 1 else 0
def VB{k:Int}{D:TD}{KF:Int}{DF:TD}{KT:Int}{DT:TD}{e l:Bool}{I:List TI}(h:RightP k D KF DF KT DT e l I):mxL (J0 k KF KT) (datE k D KF DF KT DT I)=lvE k D KF DF KT DT:=by
 cases h with
 | single hs hc=>
  have:=ow D;unfold J0 datE lvE;rw[ab (by omega),ab (by omega),ae rfl,ae rfl];have:mxL 0 [D]=mx (lvX D) 0:=by simp only[mxL,List.foldl]
  rw[this];unfold mx;split<;>omega
 | interval o p hp=>
  obtain⟨_,_,m⟩:=nQ hp;have q:=ow DF;have j:=ow DT;have g:datE 2 d0 KF DF KT DT []=if KF=1 then(if KT=1 then[DF,DT]else[DF])else if KT=1 then[DT]else[]:=by
   unfold datE;rw[ab (by omega),ae rfl]
  have f:lvE 2 d0 KF DF KT DT=mx (if KT=1 then lvX DT else 1) (if KF=1 then lvX DF else 1):=by
   unfold lvE;rw[ab (by omega),ae rfl]
  have i:J0 2 KF KT=if KF≠1\/KT≠1 then 1 else 0:=by
   unfold J0;rw[ab (by omega)];simp
  rw[g,f,i];generalize d:lvX DF=X at *;generalize c:lvX DT=Y at *;by_cases b:KF=1
  ·by_cases a:KT=1
   ·rw[ab (by omega),ae b,ae a,ae a,ae b];have:mxL 0 [DF,DT]=mx Y (mx X 0):=by rw[<-d,<-c];simp only[mxL,List.foldl]
    rw[this];have:mx X 0=X:=by unfold mx;split<;>omega
    rw[this]
   ·rw[ae (by omega),ae b,ab a,ab a,ae b];have:mxL 1 [DF]=mx X 1:=by rw[<-d];simp only[mxL,List.foldl]
    rw[this];unfold mx;split<;>split<;>omega
  ·have a:KT=1:=by omega
   rw[ae (by omega),ab b,ae a,ae a,ab b];have:mxL 1 [DT]=mx Y 1:=by rw[<-c];simp only[mxL,List.foldl]
   rw[this]
 | set P hs=>
  have n:=P.kind;unfold J0 lvE;rw[ae (by omega),M1,ab (by omega),ab (by omega)]
def Qg{k:Int}{D:TD}{KF:Int}{DF:TD}{KT:Int}{DT:TD}{e l:Bool}{I:List TI}(h:RightE k D KF DF KT DT e l I):RightP k D KF DF KT DT e l I:=uB h.sm (by rw[h.first])
def yj:∀I:List TI,(I.flatMap datI).length<=2*I.length
 | []=>by simp
 | t::I=>by
  have:=I8 t;have:=yj I;rw[nY,aZ,aG];omega
def NZ(k:Int)(D:TD)(KF:Int)(DF:TD)(KT:Int)(DT:TD){I:List TI}(h:I.length<=5):(datE k D KF DF KT DT I).length<=10:=by
 have:=yj I;unfold datE;split
 ·simp
 ·split
  ·split
   ·split<;>simp
   ·split<;>simp
  ·split
   ·omega
   ·simp
def rV{k:Int}{D:TD}{KF:Int}{DF:TD}{KT:Int}{DT:TD}{e l:Bool}{I:List TI}(h:RightP k D KF DF KT DT e l I)(i:I.length<=5):(pf k D KF DF KT DT e l I).length<=16384:=by
 cases h with
 | single hs hc=>
  have:=pO hs hc;unfold pf;rw[ae rfl];omega
 | interval hx hy hp=>
  obtain⟨a,b,_⟩:=nQ hp;have f:=uP hx a;have d:=uP hy b;unfold pf;rw[ab (by omega),ae rfl,aZ,aG];omega
 | set P hs=>
  have g:=P.kind;unfold pf;rw[ab (by omega),ab (by omega)];have:=D9 (I:=I) λt c=>(If P hs t c).1;unfold tz;cases e<;>cases l<;>simp<;>omega
def few{k:Int}{D:TD}{KF:Int}{DF:TD}{KT:Int}{DT:TD}{e l:Bool}{I:List TI}(h:RightP k D KF DF KT DT e l I)(a:k=1\/k=2):e=false/\l=false/\I=[]:=by
 cases h with
 | single hs hc=>exact⟨rfl,rfl,rfl⟩
 | interval hx hy hp=>exact⟨rfl,rfl,rfl⟩
 | set P hs=>have:=P.kind;omega
def sets{k:Int}{D:TD}{KF:Int}{DF:TD}{KT:Int}{DT:TD}{e l:Bool}{I:List TI}(h:RightP k D KF DF KT DT e l I)(a:¬(k=1\/k=2)):D=d0/\KF=0/\DF=d0/\KT=0/\DT=d0/\(k=3\/k=4):=by
 cases h with
 | single hs hc=>omega
 | interval hx hy hp=>omega
 | set P hs=>exact⟨rfl,rfl,rfl,rfl,rfl,P.kind⟩
def TW{K:Int}{x:TD}(h:okB K x):rH K x=0:=by
 rcases h with⟨rfl,hc,b⟩ | ⟨a,rfl⟩
 ·exact Hh hc b
 ·rcases a with rfl | rfl<;>kernel_rfl
def HY{K:Int}{x:TD}(hs:smT x)(h:okB K x):ap10 (jn 20000000 K) x=some (kw K x,0):=by
 have b:chkB K x.1 x.2.1 x.2.2.1 x.2.2.2.1 x.2.2.2.2.1 x.2.2.2.2.2.1 x.2.2.2.2.2.2.1 x.2.2.2.2.2.2.2.1 x.2.2.2.2.2.2.2.2.1 x.2.2.2.2.2.2.2.2.2=0:=TW h;have:=Vl (K:=K) (g:=x.1) (l:=x.2.1) (x:=x.2.2.2.1) (q:=x.2.2.2.2.1) hs.1 hs.2.1 hs.2.2.1 hs.2.2.2.1 hs.2.2.2.2.1 hs.2.2.2.2.2;rw[ae b]at this;refine this.trans ?_;unfold kw gx;by_cases a:K=2
 ·simp only[a,aN]
 ·simp only[a,aF]
def FD{KF:Int}{x:TD}{KT:Int}{y:TD}(hx:smT x)(hy:smT y)(hp:nA KF x KT y=0)(K:Int)(D:TD)(e l:Bool)(I:List TI):
  il 20000000 K D KF x KT y e l I=some (kw KF x++47::kw KT y,0):=by
 obtain⟨a,b,_⟩:=nQ hp;have d:=uP hx a;have c:=uP hy b;unfold il;rw[HY hx a,HY hy b];simp only[ob,u2];rw[eK (by simp only[aG,cE];omega)];simp only[];rw[eK (by simp only[aZ,aG,cE];omega)];simp only[f8,fi,dO]
def AU{k:Int}{D:TD}{KF:Int}{DF:TD}{KT:Int}{DT:TD}{e l:Bool}{I:List TI}(h:RightP k D KF DF KT DT e l I):(fj k D KF DF KT DT e l I).2=0:=by
 cases h with
 | single hs hc=>rw[(qV hs hc).first]
 | interval hx hy hp=>rw[(o5 hx hy hp).first]
 | set P hs=>exact P.set
def Ud{k:Int}{D:TD}{KF:Int}{DF:TD}{KT:Int}{DT:TD}{e l:Bool}{I:List TI}(h:RightP k D KF DF KT DT e l I):smE D DF DT I:=by
 cases h with
 | single hs hc=>exact⟨hs,oa,oa,λt a=>by cases a⟩
 | interval hx hy hp=>exact⟨oa,hx,hy,λt a=>by cases a⟩
 | set P hs=>exact⟨oa,oa,oa,hs⟩
def K7{k:Int}{D:TD}{KF:Int}{DF:TD}{KT:Int}{DT:TD}{e l:Bool}{I:List TI}(hs:smE D DF DT I):
  dV 20000000 k D KF DF KT DT e l I=some (if(fj k D KF DF KT DT e l I).2=0 then(pf k D KF DF KT DT e l I,0)else([],(fj k D KF DF KT DT e l I).2)):=by
 unfold dV;rw[wh hs];by_cases a:(fj k D KF DF KT DT e l I).2=0
 ·rw[ae a,a];have P:=uB hs a;simp only[ob,eT,af,ks];cases P with
  | single hx hc=>
   rw[show((1:Int)==1)=true from rfl,aj];unfold jg pf;rw[ae rfl,dfT hx hc];simp only[ob,u2]
  | interval hx hy hp=>
   rw[show((2:Int)==1)=false from rfl,af,show((2:Int)==2)=true from rfl,aj,FD hx hy hp];unfold pf;rw[ab (by omega),ae rfl]
  | set P hi=>
   have b:=P.kind;have c:=TQ (K:=k) (KF:=0) (KT:=0) (e:=e) (l:=l) hs;rw[ae (show DI k from b),ae a]at c;rw[c];unfold pf;rw[ab (by rcases b with rfl | rfl<;>omega),ab (by rcases b with rfl | rfl<;>omega)];generalize tz k e l I=w;rcases b with rfl | rfl<;>rfl
 ·rw[ab a];simp only[ob];rw[show((fj k D KF DF KT DT e l I).2 != 0)=true from bne_iff_ne.2 a,aj]
def xJ{k:Int}{D:TD}{KF:Int}{DF:TD}{KT:Int}{DT:TD}{e l:Bool}{I:List TI}(h:RightP k D KF DF KT DT e l I):
  dV 20000000 k D KF DF KT DT e l I=some (pf k D KF DF KT DT e l I,0):=by
 rw[K7 (Ud h),ae (AU h)]
def JH(n:Nat)(K:Int)(D:TD)(KF:Int)(DF:TD)(KT:Int)(DT:TD)(c d:Nat)(e l:Bool)(L:List TI):kA n K D KF DF KT DT c d e l L=il n K D KF DF KT DT e l L:=rfl
def Ld(n:Nat)(K:Int)(D:TD)(KF:Int)(DF:TD)(KT:Int)(DT:TD)(c d:Nat)(e l:Bool)(L:List TI):jM n K D KF DF KT DT c d e l L=jg n K D KF DF KT DT e l L:=rfl
def Ie(n:Nat)(K:Int)(D:TD)(KF:Int)(DF:TD)(KT:Int)(DT:TD)(c:Nat)(e l:Bool)(L:List TI):eI n K D KF DF KT DT L.length c e l L=dV n K D KF DF KT DT e l L:=by
 unfold eI dV;rw[B8];simp only[JH,Ld,W8]
def Zd{a b:Int}:a<=mx a b/\b<=mx a b:=by unfold mx;split<;>omega
def ofX:(Nat×Nat)⊕(Int×TD×Int×TD×Int×TD×Int)⊕(Int×Bool×Bool×List TI)->Int×Int×Int
 | .inl f=>(0,(f.1:Int),(f.2:Int))
 | .inr (.inl (K,D,KF,DF,KT,DT,L))=>(L,0,0)
 | .inr (.inr (K,e,l,I))=>(2,0,0)
def DJ{S:aa}(a:S.length<=16384):jC 20000000 S=some (ofX (kW S)):=by
 unfold jC;rw[HV a];generalize kW S=y;rcases y with f | ⟨K,D,KF,DF,KT,DT,L⟩ | ⟨K,e,l,I⟩<;>rfl
def Em{S:aa}(d:S.length<=16384)(n:Int):dS 20000000 S n=some (cond ((ofX (kW S)).2.2==0) (decide ((ofX (kW S)).1<=n)) false):=by
 unfold dS;rw[DJ d];generalize ofX (kW S)=y;obtain⟨a,b,c⟩:=y;simp only[ob,u3,u2];cases c==0<;>rfl
def BC{k:Int}{D:TD}{KF:Int}{DF:TD}{KT:Int}{DT:TD}{e l:Bool}{I:List TI}(h:RightP k D KF DF KT DT e l I):ofX (kW (pf k D KF DF KT DT e l I))=(lvE k D KF DF KT DT,0,0):=by
 rw[yT h];unfold exOf;by_cases a:k=1\/k=2
 ·rw[ae a];rfl
 ·rw[ab a];show((2:Int),(0:Int),(0:Int))=_;unfold lvE;rw[ab (by omega),ab (by omega)]
def NP{k:Int}(a:DI k)(D:TD)(KF:Int)(DF:TD)(KT:Int)(DT:TD):lvE k D KF DF KT DT=2:=by
 have a:k=3\/k=4:=a;unfold lvE;rw[ab (by omega),ab (by omega)]
def Gv{k:Int}{D:TD}{KF:Int}{DF:TD}{KT:Int}{DT:TD}{e l:Bool}{I:List TI}(h:RightP k D KF DF KT DT e l I)(a:¬DI k):(pf k D KF DF KT DT e l I).length<=16384:=by
 cases h with
 | single hs hc=>exact rV (.single hs hc) (by simp)
 | interval hx hy hp=>exact rV (.interval hx hy hp) (by simp)
 | set P hs=>exact absurd P.kind a
def QU{k:Int}{D:TD}{KF:Int}{DF:TD}{KT:Int}{DT:TD}{e l:Bool}{I:List TI}(hs:smE D DF DT I):
  jm 20000000 k D KF DF KT DT e l I=some (if(fj k D KF DF KT DT e l I).2=0 then(lvE k D KF DF KT DT,0)else(0,(fj k D KF DF KT DT e l I).2)):=by
 unfold jm;rw[wh hs];by_cases a:(fj k D KF DF KT DT e l I).2=0
 ·rw[ae a,a];have P:=uB hs a;simp only[ob,eT,af];by_cases b:DI k
  ·rw[NP b];rcases b with rfl | rfl<;>rfl
  ·have d:(k==3)=false:=aK.2 λh=>b (.inl h);have c:(k==4)=false:=aK.2 λh=>b (.inr h);have f:=Gv P b;rw[d,c,af,af,xJ P];simp only[u2];rw[DJ f,BC P]
 ·rw[ab a];simp only[ob];rw[show((fj k D KF DF KT DT e l I).2 != 0)=true from bne_iff_ne.2 a,aj]
def J4{k:Int}{D:TD}{KF:Int}{DF:TD}{KT:Int}{DT:TD}{e l:Bool}{I:List TI}(h:RightP k D KF DF KT DT e l I):
  jm 20000000 k D KF DF KT DT e l I=some (lvE k D KF DF KT DT,0):=by
 rw[QU (Ud h),ae (AU h)]
def ym{X Y:Type}{step:X->Option (X⊕Y)}{x:X}{y:Y}{N:Nat}(h:step x=some (.inr y)):av step (N+1) x=some y:=by rw[av,h]
def xN{X Y:Type}{step:X->Option (X⊕Y)}{x a:X}{N:Nat}(h:step x=some (.inl a)):av step (N+1) x=av step N a:=by rw[av,h]
def orL(L:List (Nat×Bool))(a:Nat):Nat:=L.foldl (λa p=>if p.2 then a ||| p.1 else a) a
def or64{a b:Nat}(d:a<2 ^ 62)(c:b<2 ^ 62):bits .or .i64 (a:Int) (b:Int)=((a ||| b:Nat):Int):=by
 show wrap .i64 ((BitVec.ofInt 64 (a:Int) ||| BitVec.ofInt 64 (b:Int)).toNat:Int)=_;rw[ug,ug,BitVec.toNat_or,HA,HA,qj (show a<2 ^ 64 by omega),qj (show b<2 ^ 64 by omega)];have:=AP (n:=62) d c;exact wrap_i64 _ (by omega) (by omega)
def SI:∀(L:List (Nat×Bool)) (a:Nat),a<2 ^ 62->(∀p∈L,p.1<2 ^ 62)->orL L a<2 ^ 62
 | [],a,h,_=>h
 | p::L,a,h,b=>by
  show orL L (if p.2 then a ||| p.1 else a)<2 ^ 62;refine SI L _ ?_ (λq c=>b q (fD _ c));split
  ·exact AP h (b p l7)
  ·exact h
def inL(L:List (Nat×Bool)):List (Int×Bool):=L.map λp=>((p.1:Int),p.2)
def On(L:List (Nat×Bool))(j:L.length<1000)(g:∀p∈L,p.1<2 ^ 62):∀(r i a:Nat),a<2 ^ 62->i+r=L.length->∀N,r<N->
  av (dX 20000000) N (len (inL L),(i:Int),inL L,(a:Int))=some ((orL (L.drop i) a:Nat):Int):=by
 intro r;have c:len (inL L)=((L.length:Nat):Int):=by show(((inL L).length:Nat):Int)=_;unfold inL;rw[tt]
 induction r with
 | zero=>
  intro i a e hi N h;obtain⟨N,rfl⟩:∃k,N=k+1:=⟨N - 1,by omega⟩;obtain rfl:i=L.length:=by omega
  rw[xe];refine ym ?_;unfold dX;simp only[u4,u3,u2];rw[c,au (by omega)];rfl
 | succ r ih=>
  intro i a e hi N h;obtain⟨N,rfl⟩:∃k,N=k+1:=⟨N - 1,by omega⟩;have b:i<L.length:=by omega
  have f:(inL L)[i]?=some ((L[i].1:Int),L[i].2):=by unfold inL;rw[nX,bu b];rfl
  have d:=g _ (AO b);rw[rD b];generalize L[i]=p at f d ⊢;have st:dX 20000000 (len (inL L),(i:Int),inL L,(a:Int))=some (.inl (len (inL L),((i+1:Nat):Int),inL L,(((if p.2 then a ||| p.1 else a):Nat):Int))):=by
   unfold dX;simp only[u4,u3,u2];rw[c,ar (by omega),aj,cT (by unfold inL;rw[tt];exact b)];simp only[ob,f];rw[oe (by omega),or64 e d];cases p.2<;>rfl
  rw[xN st];have:=ih (i+1) (if p.2 then a ||| p.1 else a) (by split;exact AP e d;exact e) (by omega) N (by omega);exact this
def Xd(L:List (Nat×Bool))(c:L.length<1000)(b:∀p∈L,p.1<2 ^ 62){a:Nat}(d:a<2 ^ 62):ay 20000000 (inL L) (a:Int)=some ((orL L a:Nat):Int):=by
 have:=On L c b L.length 0 a d (by omega) 20000000 (by omega);rw[cS]at this;unfold ay;rw[show((0:Nat):Int)=0 from rfl]at this;rw[this];rfl
def FT:∀(L:List (Nat×Bool)) (a:Nat),orL L a=a ||| orL L 0
 | [],a=>by show a=a ||| 0;simp
 | p::L,a=>by
  show orL L (if p.2 then a ||| p.1 else a)=a ||| orL L (if p.2 then 0 ||| p.1 else 0);rw[FT L (if p.2 then a ||| p.1 else a),FT L (if p.2 then 0 ||| p.1 else 0)];cases p.2<;>simp[CH]
def apI(k:Nat)(a b c:Int):Bool:=(decide (1<k)&&b != a)||(decide (2<k)&&c != a)
def apT(x:TD):Bool:=apI (coT x) (d4 x).2.2.2.1 (d8 x).1 (d8 x).2
def mkB(x:TD):Bool:=!((d4 x).2.2.2.1==0&&((d8 x).1==0&&((d8 x).2==0&&true)))
def fxL(x:TD):List (Nat×Bool):=[(1,mkB x),(2,apT x),(4,mkX x),(8,x.1||x.2.1),(16,decide (0<x.2.2.2.1)||decide (0<(d4 x).1)),(32,decide (0<seT x)&&decide (seT x<25)),(64,decide (0<seT x)&&decide (25<=seT x))]
def fxN(x:TD):Nat:=orL (fxL x) 0
def Zy(x:TD):fxN x<2 ^ 62:=SI _ 0 (by decide) (by
 intro p hp;unfold fxL at hp;simp only[cb,ov,oK]at hp;rcases hp with rfl | rfl | rfl | rfl | rfl | rfl | rfl<;>simp)
def TG(x:TD){a:Nat}(b:a<2 ^ 62):ay 20000000 (inL (fxL x)) (a:Int)=some ((a ||| fxN x:Nat):Int):=by
 rw[Xd (fxL x) (by show 7<1000;omega) ?_ b,FT];rfl;intro p hp;unfold fxL at hp;simp only[cb,ov,oK]at hp;rcases hp with rfl | rfl | rfl | rfl | rfl | rfl | rfl<;>simp
def Ug{N:Nat}(m:3<N){k:Nat}(n:1<=k/\k<=3)(code:Int)(a:Bool)(g e:Nat)(c f d:Int)(x:TD)(L:List TD):
  av (bV 20000000) N (code,a,(k:Int),false,1,g,e,c,f,d,x,L)=some (code,a,apI k (d4 x).2.2.2.1 (d8 x).1 (d8 x).2,g,e,c,f,d,x,L):=by
 obtain⟨N,rfl⟩:∃j,N=j+3:=⟨N - 3,by omega⟩;have fin:∀(b:Bool) (j:Nat),k<=j->bV 20000000 (code,a,(k:Int),b,(j:Int),g,e,c,f,d,x,L)=some (.inr (code,a,b,g,e,c,f,d,x,L)):=λb j h=>by
  unfold bV;simp only[u12,u11,u10,u9,u8,u7,u6,u5,u4,u3,u2];rw[au (by omega)];rfl
 have i:1<k->bV 20000000 (code,a,(k:Int),false,1,g,e,c,f,d,x,L)=some (.inl (code,a,(k:Int),(d8 x).1 != (d4 x).2.2.2.1,2,g,e,c,f,d,x,L)):=λh=>by
  unfold bV;simp only[u12,u11,u10,u9,u8,u7,u6,u5,u4,u3,u2];rw[ar (by omega)];rfl
 have l:2<k->∀b,bV 20000000 (code,a,(k:Int),b,2,g,e,c,f,d,x,L)=some (.inl (code,a,(k:Int),b||(d8 x).2 != (d4 x).2.2.2.1,3,g,e,c,f,d,x,L)):=λh b=>by
  unfold bV;simp only[u12,u11,u10,u9,u8,u7,u6,u5,u4,u3,u2];rw[ar (by omega)];cases b<;>rfl
 unfold apI;rcases(by omega:k=1\/k=2\/k=3)with rfl | rfl | rfl
 ·rw[show(1:Int)=((1:Nat):Int)from rfl]at *;exact ym (fin false 1 (by omega))
 ·rw[xN (i (by omega))];rw[show(2:Int)=((2:Nat):Int)from rfl];rw[ym (fin _ 2 (by omega))];simp
 ·rw[xN (i (by omega)),xN (l (by omega) _)];rw[show(3:Int)=((3:Nat):Int)from rfl];rw[ym (fin _ 3 (by omega))];simp
def V0(x:TD):1<=coT x/\coT x<=3:=kX _ _
def dsT{x:TD}(h:smT x):ap10 (bn 20000000) x=some (seT x,decide (0<seT x)):=o8 20000000 _ _ _ _ _ _ _ _ _ _ h.1
def dcoT(x:TD):ap10 (aV 20000000) x=some ((coT x:Nat):Int):=qt 20000000 (by omega) _ _ _ _ _ _ _ _ _ _
def Xp{x:TD}(hs:smT x)(hc:cF x=0):0<=x.2.2.2.1/\x.2.2.2.1<=16/\0<=(d4 x).1/\(d4 x).1<=17:=by
 obtain⟨g,l,dg,e,q,m,d,a,b,c,rfl,ok⟩:=pa hs hc;have h:=ok.x16;have f:=ok.q17;show 0<=(e:Int)/\(e:Int)<=16/\0<=(q:Int)/\(q:Int)<=17;omega
def Lc{L:List TD}(j:okDs L)(n:L.length<=1000000)(c:Nat)(i:Nat){x:TD}(e:L[i]?=some x){a:Nat}(f:a<2 ^ 62):
  bi 20000000 (L.length,c,((L.length:Nat):Int),(i:Int),(a:Int),L)=some (.inl (L.length,c,((L.length:Nat):Int),((i+1:Nat):Int),((a ||| fxN x:Nat):Int),L)):=by
 obtain⟨b,rfl⟩:=nc.1 e;obtain⟨hs,hc⟩:=j _ (AO b);obtain⟨p,m,q,o⟩:=Xp hs hc;unfold bi;simp only[u6,u5,u4,u3,u2];rw[ar (by omega),aj,cT b];simp only[ob,e];generalize L[i]=x at *;have d:ay 20000000 [(1,!((d4 x).2.2.2.1==0&&((d8 x).1==0&&((d8 x).2==0&&true)))),(2,apI (coT x) (d4 x).2.2.2.1 (d8 x).1 (d8 x).2),(4,hasX x.2.2.1||(hasX x.2.2.2.2.2.1||hasX x.2.2.2.2.2.2.1)),(8,x.1||x.2.1),(16,decide (0<x.2.2.2.1)||decide (0<(d4 x).1)),(32,decide (0<seT x)&&decide (seT x<25)),(64,decide (0<seT x)&&decide (seT x>=25))] (a:Int)=some ((a ||| fxN x:Nat):Int):=TG x f;rw[dsT hs];simp only[u2];rw[dcoT];simp only[Ug (show 3<20000000 by omega) (V0 x),u10,u9,u8,u7,u6,u5,u4,u3,u2];rw[fmT hs];simp only[];have h:decide (w64 (x.2.2.2.1+(d4 x).1)>0)=(decide (0<x.2.2.2.1)||decide (0<(d4 x).1)):=by
  rw[show w64 (x.2.2.2.1+(d4 x).1)=x.2.2.2.1+(d4 x).1 from wrap_i64 _ (by omega) (by omega),<-Bool.decide_or];exact uR.2 (by omega)
 rw[h,oe (by omega)];generalize x.1=l at *;generalize x.2.1=g at *;generalize decide (0<seT x)=k at *;cases l<;>cases g<;>cases k<;>simp only[aj,af,pT,Aq,Bool.or_true,DN,Bool.or_self,Ek]at d ⊢<;>rw[d]
def orD(L:List TD)(a:Nat):Nat:=L.foldl (λa x=>a ||| fxN x) a
def JL{L:List TD}(g:okDs L)(f:L.length<=1000000)(c:Nat):∀(r i a:Nat),a<2 ^ 62->i+r=L.length->∀N,r<N->
  av (bi 20000000) N (L.length,c,((L.length:Nat):Int),(i:Int),(a:Int),L)=some ((orD (L.drop i) a:Nat):Int):=by
 intro r
 induction r with
 | zero=>
  intro i a d hi N e;obtain⟨N,rfl⟩:∃k,N=k+1:=⟨N - 1,by omega⟩;obtain rfl:i=L.length:=by omega
  rw[xe];refine ym ?_;unfold bi;simp only[u6,u5,u4,u3,u2];rw[au (by omega)];rfl
 | succ r ih=>
  intro i a d hi N e;obtain⟨N,rfl⟩:∃k,N=k+1:=⟨N - 1,by omega⟩;have b:i<L.length:=by omega
  rw[xN (Lc g f c i (bu b) d),rD b];exact ih (i+1) _ (AP d (Zy _)) (by omega) N (by omega)
def topL(k KF KT:Int):List (Nat×Bool):=[(128,k==2&&(KF != 1||KT != 1)),(256,k==3||k==4)]
def fxE(k:Int)(D:TD)(KF:Int)(DF:TD)(KT:Int)(DT:TD)(I:List TI):Nat:=orD (datE k D KF DF KT DT I) (orL (topL k KF KT) 0)
def YL(u s:Bool):ay 20000000 [(128,u),(256,s)] 0=some ((orL [(128,u),(256,s)] 0:Nat):Int):=
 Xd [(128,u),(256,s)] (by show 2<1000;omega) (by intro p hp;simp only[cb,ov,oK]at hp;rcases hp with rfl | rfl<;>simp) (a:=0) (by decide)
def UR(u s:Bool):orL [(128,u),(256,s)] 0<2 ^ 62:=by cases u<;>cases s<;>decide
def VY{k:Int}{D:TD}{KF:Int}{DF:TD}{KT:Int}{DT:TD}{e l:Bool}{I:List TI}(h:RightP k D KF DF KT DT e l I):I.length<=256:=by
 cases h with
 | single=>simp
 | interval=>simp
 | set P=>exact P.most
def Sj{k:Int}{D:TD}{KF:Int}{DF:TD}{KT:Int}{DT:TD}{e l:Bool}{I:List TI}(h:RightP k D KF DF KT DT e l I):(datE k D KF DF KT DT I).length<=1000000:=by
 have b:=VY h;have a:=yj I;unfold datE
 repeat' split
 all_goals first | omega | simp
def Gh{k:Int}{D:TD}{KF:Int}{DF:TD}{KT:Int}{DT:TD}{e l:Bool}{I:List TI}(hs:smE D DF DT I):
  cN 20000000 k D KF DF KT DT e l I=some (if(fj k D KF DF KT DT e l I).2=0 then(((fxE k D KF DF KT DT I:Nat):Int),0)else(0,(fj k D KF DF KT DT e l I).2)):=by
 unfold cN;rw[wh hs];by_cases a:(fj k D KF DF KT DT e l I).2=0
 ·rw[ae a,a];have P:=uB hs a;have c:=Io (I:=I) (by have:=VY P;omega) k D KF DF KT DT e l;have b:=λ(u s:Bool)=>JL (OI P) (Sj P) (datE k D KF DF KT DT I).length (datE k D KF DF KT DT I).length 0 _ (UR u s) (by omega) 20000000 (by have:=Sj P;omega);rw[c];unfold fxE topL;generalize datE k D KF DF KT DT I=L at *;simp only[cS,show((0:Nat):Int)=0 from rfl]at b;simp only[ob,eT,af,YL,u3,u2,b];generalize(k==2)=d;generalize(k==3)=f;generalize(k==4)=g;generalize(KF != 1)=z1;generalize(KT != 1)=z2;cases d<;>cases f<;>cases z1<;>rfl
 ·rw[ab a];simp only[ob];rw[show((fj k D KF DF KT DT e l I).2 != 0)=true from bne_iff_ne.2 a,aj]
def CC{k:Int}{D:TD}{KF:Int}{DF:TD}{KT:Int}{DT:TD}{e l:Bool}{I:List TI}(h:RightP k D KF DF KT DT e l I):
  cN 20000000 k D KF DF KT DT e l I=some (((fxE k D KF DF KT DT I:Nat):Int),0):=by
 rw[Gh (Ud h),ae (AU h)]
def SJ:∀(L:List TD) (w:Int),w<=mxL w L/\∀x∈L,lvX x<=mxL w L
 | [],w=>⟨sQ _,λx hx=>by cases hx⟩
 | y::L,w=>by
  obtain⟨d,c⟩:=SJ L (mx (lvX y) w);have f:=Zd (a:=lvX y) (b:=w);have e:mxL w (y::L)=mxL (mx (lvX y) w) L:=rfl;rw[e];refine⟨by omega,λx hx=>?_⟩;rcases cb.1 hx with rfl | hx
  ·omega
  ·exact c x hx
def HH:kR 20000000=some true:=by kernel_rfl
def FA(c:Nat){I J:List TI}(hn:I.length<=1000000):ct 20000000 I.length c I J=some (decide (I=J)):=by
 unfold ct;rw[show((((List.length I):Nat):Int) != (((List.length J):Nat):Int))=!decide (I.length=J.length)from co _ (natB _ _)];by_cases h:I.length=J.length
 ·rw[ar h];have:=rS (step:=aP 20000000) (st:=λi=>(I.length,c,((I.length:Nat):Int),(i:Int),I,J)) (L:=I) (f:=difI J) (yes:=λ_ _=>.inl false) (no:=.inr ()) ?_ ?_ I.length 0 (by omega) 20000000 (by omega)
  ·rw[cS]at this;have this:av (aP 20000000) 20000000 (I.length,c,((I.length:Nat):Int),((0:Nat):Int),I,J)=some (if I=J then .inr ()else .inl false):=this.trans (co some (I4 I J h (.inl false:Bool⊕Unit) (.inr ())));show cond false _ (ob (av (aP 20000000) 20000000 (I.length,c,((I.length:Nat):Int),((0:Nat):Int),I,J)) _)=_;rw[this];by_cases he:I=J
   ·rw[ae he,ar he];rfl
   ·rw[ab he,au he];rfl
  ·intro i t ht;have hi:i<I.length:=(nc.1 ht).1;have hj:J[i]?=some (J[i]'(by omega)):=bu (by omega);generalize J[i]'(by omega)=u at hj;unfold aP;simp only[];rw[ar (show(i:Int)<((I.length:Nat):Int)by omega),cT hi,cT (show i<J.length by omega)];simp only[aj,ob,ht,hj];have hq:∀b,b=decide (t=u)->cond (!b) (some (.inr (.inl false))) (some (.inl (I.length,c,((I.length:Nat):Int),(wrap .i64 ((i:Int)+1)),I,J)))=(some (if difI J i t≠0 then .inr (.inl false)else .inl (I.length,c,((I.length:Nat):Int),(((i+1:Nat):Int)),I,J)):Option ((Nat×Nat×Int×Int×List TI×List TI)⊕(Bool⊕Unit))):=by
    intro b hb;subst hb;rw[show wrap .i64 ((i:Int)+1)=((i+1:Nat):Int)from oe (by omega)];unfold difI;rw[hj];by_cases he:t=u
    ·rw[ar he,ab (by simp[he])];rfl
    ·rw[au he,ae (by simp only[aq];rw[ab (λh=>he h.symm)];simp)];rfl
   refine hq _ ?_;rw[<-K9]
  ·unfold aP;simp only[];rw[au (show¬((I.length:Nat):Int)<((I.length:Nat):Int)by omega)];rfl
 ·rw[au h,au (λhe=>h (co _ he))];rfl
def yV(k:Int)(D:TD)(KF:Int)(DF:TD)(KT:Int)(DT:TD)(c:Nat)(e l:Bool){I:List TI}(a:I.length<=1000000):
  ng 20000000 k D KF DF KT DT I.length c e l k D KF DF KT DT e l I I=some true:=by
 have b:∀x:TD,eqD x x=true:=λx=>i7.2 rfl;unfold ng;rw[FA c a,ar rfl];simp only[b,tQ,aj,M5,ob]
def U0{k:Int}{D:TD}{KF:Int}{DF:TD}{KT:Int}{DT:TD}{e l:Bool}{I:List TI}(a:I.length<=1000000):
  rZ 20000000 k D KF DF KT DT e l I=some (k,D,KF,DF,KT,DT,I.length,I.length,e,l,I):=by
 unfold rZ eU;rw[show Nat.ble (List.length I) bJ=true from cD (by unfold bJ;omega)];simp only[aj,ob];rw[X6]
def VH(n:Nat)(k:Int)(D:TD)(KF:Int)(DF:TD)(KT:Int)(DT:TD)(c:Nat)(e l:Bool)(I:List TI):dR n k D KF DF KT DT I.length c e l I=dD n k D KF DF KT DT e l I:=by
 have:=uF (s:=eO n) (s':=iR n) (λx=>(x.2.2.1.length,c,x.1,x.2.1,x.2.2.1,x.2.2.2)) id (by
  rintro⟨x0,d,a,b⟩;unfold eO iR;simp only[u6,u5,u4,u3,u2];cases decide (d<x0)
  ·rfl
  ·simp only[aj];cases ix a.length d with
   | none=>rfl
   | some i=>
    simp only[ob];cases a[i]? with
    | none=>rfl
    | some t=>
     simp only[];cases Nat.ble (b.length+1) bJ
     ·rfl
     ·simp only[aj];cases(d8 t).2.2.1
      ·rfl
      ·simp only[aj];cases Nat.ble ((b++[iF t]).length+1) bJ<;>rfl) n (((I.length:Nat):Int),0,I,[])
 simp only[Option.map_id,id]at this;unfold dR dD;rw[this]
def Uc(n:Nat):jQ n=bV n:=rfl
def Vt(n:Nat):bO n=bi n:=by
 unfold bO bi;rw[Uc]
def JB(n:Nat)(k:Int)(D:TD)(KF:Int)(DF:TD)(KT:Int)(DT:TD)(c:Nat)(e l:Bool)(I:List TI):fN n k D KF DF KT DT I.length c e l I=cN n k D KF DF KT DT e l I:=by
 unfold fN cN;rw[B8,VH,Vt]
def U1(n:Nat)(k:Int)(D:TD)(KF:Int)(DF:TD)(KT:Int)(DT:TD)(c:Nat)(e l:Bool)(I:List TI):mf n k D KF DF KT DT I.length c e l I=jm n k D KF DF KT DT e l I:=by
 unfold mf jm;rw[B8,Ie]
def EW(k:Int)(D:TD)(KF:Int)(DF:TD)(KT:Int)(DT:TD)(e l:Bool){I:List TI}(a:I.length<=1000000):
  sD 20000000 k D KF DF KT DT e l k D KF DF KT DT e l I I=some true:=by
 have b:∀x:TD,eqD x x=true:=λx=>i7.2 rfl;unfold sD;rw[Ry a,ar rfl];simp only[b,tQ,aj,M5,ob]
def F5{x:TD}(hs:smT x)(hc:cF x=0){v:Int}(c:lvX x<=v):dS 20000000 (gx x) v=some true:=by
 have P:=RightP.single hs hc;have a:pf 1 x 0 d0 0 d0 false false []=gx x:=by unfold pf;rw[ae rfl]
 have b:=rV P (by simp);have h:=BC P;rw[a]at b h;have e:lvE 1 x 0 d0 0 d0=lvX x:=by unfold lvE;rw[ae rfl]
 rw[e]at h;clear P a e;generalize gx x=t at *;generalize lvX x=y at *;rw[Em b,h];show some (cond ((0:Int)==0) (decide (y<=v)) false)=some true;rw[ar c];rfl
def Vi{X:List TD}(f:okDs X)(h:X.length<=1000000)(c:Nat){v:Int}(e:∀x∈X,lvX x<=v):av (cG 20000000) 20000000 (v,X.length,c,0,X)=some (.inr ()):=by
 refine O2 (step:=cG 20000000) (st:=λi=>(v,X.length,c,(i:Int),X)) (L:=X) ?_ ?_ (by omega)
 ·intro i x hx;have hi:i<X.length:=(nc.1 hx).1;have d:=fk hx;obtain⟨a,b⟩:=f x d;unfold cG;simp only[u5,u4,u3,u2];rw[ar (show(i:Int)<((X.length:Nat):Int)by omega),cT hi];have g:ap10 (bR 20000000) x=some (gx x,0):=dfT a b;simp only[aj,ob,hx,g,u2,eT,af,F5 a b (e x d),dL,fcT a,b];rw[oe (by omega)]
 ·unfold cG;simp only[u5,u4,u3,u2];rw[au (show¬((X.length:Nat):Int)<((X.length:Nat):Int)by omega)];rfl
def LL{k:Int}{D:TD}{KF:Int}{DF:TD}{KT:Int}{DT:TD}:0<=lvE k D KF DF KT DT/\lvE k D KF DF KT DT<=2:=by
 have b:=ow D;have a:=ow DF;have c:=ow DT;unfold lvE mx
 repeat' split
 all_goals omega
def Dm{K y p B:Int}(H:natI K 256)(E:natI y 256)(M:natI p 256)(S:natI B 256){L:List TR}(N:∀r∈L,wfR r):
  ln 20000000 K y p B L=some true:=by
 obtain⟨k,D,KF,DF,KT,DT,e,l,I,Q,s⟩:=E_of H E M S N;have P:=Qg s;have q:=s.len;have f:I.length<=1000000:=by omega
 have A:(pf k D KF DF KT DT e l I).length<=16384:=rV P q;have hp:=HV A;rw[yT P]at hp;have j:=λn=>Em A n;rw[BC P]at j;have m:=Io f k D KF DF KT DT e l;have o:=NZ k D KF DF KT DT q;have z:=(SJ (datE k D KF DF KT DT I) (J0 k KF KT)).2;rw[VB P]at z;have t:=λc=>Vi (OI P) (by omega) c z;have U:=LL (k:=k) (D:=D) (KF:=KF) (DF:=DF) (KT:=KT) (DT:=DT);have d:=J4 P;have b:=CC P;have C:=xJ P;have i:=(Ie 20000000 k D KF DF KT DT I.length e l I).trans C;have g:=(U1 20000000 k D KF DF KT DT I.length e l I).trans d;have h:=(JB 20000000 k D KF DF KT DT I.length e l I).trans b;have cp:=U0 (k:=k) (D:=D) (KF:=KF) (DF:=DF) (KT:=KT) (DT:=DT) (e:=e) (l:=l) f;have G:=EW k D KF DF KT DT e l f;have T:=yV k D KF DF KT DT I.length e l f;unfold ln;rw[Q];simp only[ob,u11,u10,u9,u8,u7,u6,u5,u4,u3,u2,cp,i,hp];generalize pf k D KF DF KT DT e l I=w at *;generalize datE k D KF DF KT DT I=X at *;generalize fxE k D KF DF KT DT I=F at *;generalize O:lvE k D KF DF KT DT=v at *;have u:dS 20000000 w v=some true:=by
  rw[j];show some (cond ((0:Int)==0) (decide (v<=v)) false)=some true;rw[ar (by omega)];rfl
 have x:dS 20000000 w (w64 (v - 1))=some false:=by
  rw[j];show some (cond ((0:Int)==0) (decide (v<=wrap .i64 (v - 1))) false)=some false;rw[wrap_i64 _ (by omega) (by omega),au (by omega)];rfl
 unfold exOf;by_cases a:k=1\/k=2
 ·obtain⟨rfl,rfl,rfl⟩:=few P a;rw[ae a];simp only[Tj,obs,sm,ob,u12,u11,u10,u9,u8,u7,u6,u5,u4,u3,u2,d,b,G,u,x,m,t,HH,eT,dL,af];rfl
 ·obtain⟨rfl,rfl,rfl,rfl,rfl,R⟩:=sets P a;rw[ab a];have J:v=2:=by rw[<-O];exact NP R _ _ _ _ _
  subst J;simp only[Tj,obs,sm,ob,u14,u13,u12,u11,u10,u9,u8,u7,u6,u5,u4,u3,u2,g,h,b,T,u,x,m,t,HH,eT,dL,af];rfl
def pP{n:Int}(h:(Lit.int .u8 n).wf=true):natI n 256:=⟨(Go.bounds_u8 h).1,by have:=(Go.bounds_u8 h).2;omega⟩
def SK{n:Int}(h:(Lit.int .u16 n).wf=true):natI n 65536:=⟨(Go.bounds_u16 h).1,by have:=(Go.bounds_u16 h).2;omega⟩
def XW{y:den [.i .u8,.bo,.i .u16,.i .u8,.i .u8,.i .u8,.i .u8,.i .u8,.i .u8,.i .u8,.i .u8,.i .u8,.bo,.i .u16,.i .u8,.i .u8,.i .u8,.i .u8,.i .u8,.i .u8,.i .u8]}
  (h:tY [.i .u8,.bo,.i .u16,.i .u8,.i .u8,.i .u8,.i .u8,.i .u8,.i .u8,.i .u8,.i .u8,.i .u8,.bo,.i .u16,.i .u8,.i .u8,.i .u8,.i .u8,.i .u8,.i .u8,.i .u8] y):wfR y:=by
 obtain⟨j,_,a,m,l,o,d,e,f,p,_,k0,_,k2,k3,k4,c,k,g,b,n⟩:=h;exact⟨⟨pP j,SK a,pP m,pP l,pP o,pP d,pP e,pP f,pP p⟩,⟨pP k0,SK k2,pP k3,pP k4,pP c,pP k,pP g,pP b,pP n⟩⟩
end Go.Sh
