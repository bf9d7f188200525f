
import Derived.Test.YtibehcmomiplnaaGreatDoorLawSrb
set_option linter.unusedVariables false
set_option linter.unusedSimpArgs false
set_option maxRecDepth 100000
open Go.IntKind(wrap)
set_option linter.defProp false
namespace Go.Sh
open Go.Abs
abbrev TR:=ak
def natI(x:Int)(b:Nat):Prop:=0<=x/\x<(b:Int)
def wfD(a0 a2 c g a f b e d:Int):Prop:=natI a0 256/\natI a2 65536/\natI c 256/\natI g 256/\natI a 256/\natI f 256/\natI b 256/\natI e 256/\natI d 256
def natI.nat{x:Int}{b:Nat}(h:natI x b):∃n:Nat,x=(n:Int)/\n<b:=⟨x.toNat,by have:=h.1;omega,by have:=h.1;have:=h.2;omega⟩
def DofI{a0 a2 j c f k i b a:Int}(g:Bool)(h:wfD a0 a2 j c f k i b a):∃x:TD,aK 20000000 a0 g a2 j c f k i b a=some x/\smT x/\cF x=0:=by
 obtain⟨F,G,J,A,w,y,K,H,D⟩:=h;obtain⟨a0,rfl,b0⟩:=F.nat;obtain⟨a2,rfl,b2⟩:=G.nat;obtain⟨j,rfl,s⟩:=J.nat;obtain⟨c,rfl,u⟩:=A.nat;obtain⟨f,rfl,z⟩:=w.nat;obtain⟨k,rfl,t⟩:=y.nat;obtain⟨i,rfl,r⟩:=K.nat;obtain⟨b,rfl,o⟩:=H.nat;obtain⟨a,rfl,B⟩:=D.nat;obtain⟨L,l,dg,x,q,C,d,k0,k1,k2,e,hc,p,I⟩:=Wz 19999700 a0 a2 j c f k i b a g b2 s u z t r o B;obtain⟨v,n,m,_⟩:=pR hc;obtain⟨_,_,_,_,_,E⟩:=jb v;refine⟨_,e,⟨?_,by show dg.length<=100;omega,?_,by simp,by simp,by simp⟩,If hc I⟩
 ·rcases n with h | h
  ·rw[h];simp
  ·show C.length<=18;omega
 ·rcases m with h | h
  ·rw[h];simp
  ·show d.length<=18;omega
def Qg:((List.range 13).all λj=>sea (monT j)==0)=true:=by decide +kernel
def ZJ(a0 a2 f i a h j n k:Nat)(g:Bool)(p:a2<65536)(o:f<256)(v:i<256)(t:a<256)(u:h<256)(w:a%40<=12):
  ∃r:TD,aK 20000000 (a0:Int) g (a2:Int) (f:Int) (i:Int) (a:Int) (h:Int) (j:Int) (n:Int) (k:Int)=some r/\seT r=0:=by
 obtain⟨y,l,dg,x,q,s,d,e,_,_,_,_,b,c,_⟩:=OG 19999700 a0 a2 f i a h j n k g p o v t u;refine⟨_,e,?_⟩;show sea s=0;by_cases m:q=0
 ·rw[c m];have:=(bO.1 Qg) (a%40) (gS.2 (by omega));simpa using this
 ·rw[(b m).1];decide
def ExI{a0 a2 n k f b m j i:Int}(g:Bool)(h:wfD a0 a2 n k f b m j i):
  ∃x:TD,bJ 20000000 a0 g a2 n k f b m j i=some x/\smT x/\cF x=0/\exT x=true/\(Int.tmod f 40<=12->seT x=0):=by
 obtain⟨M,N,v,s,G,q,R,O,I⟩:=h;obtain⟨a0,rfl,b0⟩:=M.nat;obtain⟨a2,rfl,b2⟩:=N.nat;obtain⟨n,rfl,w⟩:=v.nat;obtain⟨k,rfl,z⟩:=s.nat;obtain⟨f,rfl,B⟩:=G.nat;obtain⟨b,rfl,D⟩:=q.nat;obtain⟨m,rfl,V⟩:=R.nat;obtain⟨j,rfl,U⟩:=O.nat;obtain⟨i,rfl,W⟩:=I.nat;obtain⟨Q,l,dg,x,H,d,k0,k1,k2,e,hc,C,t,p,u⟩:=Jk 19999700 a0 a2 n k f b m j i g b0 b2 w z B D;refine⟨_,e,⟨t,u,p,by simp,by simp,by simp⟩,hc,C,λL=>?_⟩;have A:Int.tmod (f:Int) 40=((f%40:Nat):Int):=rfl;rw[A]at L;have E:Int.tmod (b:Int) 40=((b%40:Nat):Int):=rfl;have T:Int.tdiv ((b%40:Nat):Int) 2=((b%40 / 2:Nat):Int):=rfl;have F:wrap .u8 ((b%40 / 2:Nat):Int)=((b%40 / 2:Nat):Int):=gD _ (by omega) (by omega);have S:=λ(P c6:Nat) (q:c6<256)=>ZJ P a2 n k f c6 m j i g b2 w z B q (by omega);have e':bJ 20000000 (a0:Int) g (a2:Int) (n:Int) (k:Int) (f:Int) (b:Int) (m:Int) (j:Int) (i:Int)=some (Q,l,dg,x,0,H,d,((k0:Nat):Int),((k1:Nat):Int),((k2:Nat):Int)):=e;have key:∀(o:Option TD) (y:TD),(∃r:TD,o=some r/\seT r=0)->(ob o λa=>(cond (decide ((d4 a).1>0)) (some (a.1,a.2.1,a.2.2.1,a.2.2.2.1,(0:Int),(d4 a).2.1,(d4 a).2.2.1,(d4 a).2.2.2.1,(d8 a).1,(d8 a).2)) (some (a.1,a.2.1,a.2.2.1,a.2.2.2.1,(d4 a).1,(d4 a).2.1,(d4 a).2.2.1,(d4 a).2.2.2.1,(d8 a).1,(d8 a).2))))=some y->seT y=0:=by
  rintro o y ⟨r,rfl,K⟩ hy;simp only[ob]at hy;cases J:decide ((d4 r).1>0)<;>rw[J]at hy<;>simp only[aj,ah,ar]at hy<;>subst hy<;>exact K
 unfold bJ at e';rw[A,E,T,F]at e';rw[aw (show¬((f%40:Nat):Int)>33 by omega)]at e';simp only[ah]at e';have X:(0:Int)=((0:Nat):Int):=rfl;cases v:(Int.tmod (a0:Int) 6==3)<;>rw[v]at e'<;>simp only[aj,ah]at e'
 ·cases s:(Int.tmod (a0:Int) 6==4)<;>rw[s]at e'<;>simp only[aj,ah]at e'
  ·cases c:decide (((b%40:Nat):Int)>31)<;>rw[c]at e'<;>simp only[aj,ah]at e'
   ·exact key _ _ (S a0 b (by omega)) e'
   ·exact key _ _ (S a0 (b%40 / 2) (by omega)) e'
  ·cases c:decide (((b%40:Nat):Int)>31)<;>rw[c]at e'<;>simp only[aj,ah]at e'
   ·exact key _ _ (S 0 b (by omega)) e'
   ·exact key _ _ (S 0 (b%40 / 2) (by omega)) e'
 ·cases c:decide (((b%40:Nat):Int)>31)<;>rw[c]at e'<;>simp only[aj,ah]at e'
  ·exact key _ _ (S 0 b (by omega)) e'
  ·exact key _ _ (S 0 (b%40 / 2) (by omega)) e'
def H6{a0 a2 i n o m f k j:Int}(g:Bool)(h:wfD a0 a2 i n o m f k j):∃x:TD,cn 20000000 a0 g a2 i n o m f k j=some x/\smT x/\plT x=true:=by
 obtain⟨a,rfl,s⟩:=h.2.2.2.2.1.nat;have p:Int.tmod (a:Int) 40=((a%40:Nat):Int):=rfl;have d:Int.tmod ((a%40:Nat):Int) 12=((a%40%12:Nat):Int):=rfl;unfold cn;rw[p,d];by_cases r:12<a%40
 ·rw[au (show((a%40:Nat):Int)>12 by omega),aj];have w:w8 (((a%40%12:Nat):Int)+1)=((a%40%12+1:Nat):Int):=by
   show wrap .u8 _=_;rw[gD _ (by omega) (by omega)];omega
  rw[w];have q:wfD a0 a2 i n ((a%40%12+1:Nat):Int) m f k j:=⟨h.1,h.2.1,h.2.2.1,h.2.2.2.1,⟨by omega,by omega⟩,h.2.2.2.2.2⟩;obtain⟨x,e,hs,hc,c,b⟩:=ExI g q;have l:seT x=0:=b (by
   show(((a%40%12+1)%40:Nat):Int)<=12;omega)
  exact⟨x,by rw[e];rfl,hs,nj.2 ⟨hc,c,by omega⟩⟩
 ·rw[aw (show¬((a%40:Nat):Int)>12 by omega),ah];obtain⟨x,e,hs,hc,c,b⟩:=ExI g h;have l:seT x=0:=b (by rw[p];omega);exact⟨x,by rw[e];rfl,hs,nj.2 ⟨hc,c,by omega⟩⟩
def BofI{k a0 a2 m f i n j c b:Int}(g:Bool)(G:natI k 256)(h:wfD a0 a2 m f i n j c b):
  ∃(K:Int) (x:TD),ci 20000000 k a0 g a2 m f i n j c b=some (K,x)/\smT x/\qD K x=0/\(K=1\/((K=2\/K=3)/\x=d0)):=by
 obtain⟨H,I,N,y,u,v,O,L,E⟩:=h;obtain⟨k,rfl,bk⟩:=G.nat;obtain⟨a0,rfl,b0⟩:=H.nat;obtain⟨a2,rfl,b2⟩:=I.nat;obtain⟨m,rfl,q⟩:=N.nat;obtain⟨f,rfl,t⟩:=y.nat;obtain⟨i,rfl,w⟩:=u.nat;obtain⟨n,rfl,s⟩:=v.nat;obtain⟨j,rfl,S⟩:=O.nat;obtain⟨c,rfl,R⟩:=L.nat;obtain⟨b,rfl,T⟩:=E.nat;obtain⟨K,V,l,dg,x,U,d,k0,k1,k2,e,hc,o,a,p,J⟩:=B_of 19999700 k a0 a2 m f i n j c b g b0 b2 q t w s;refine⟨K,_,e,⟨o,p,a,by simp,by simp,by simp⟩,hc,J.imp id λ⟨r,z,C,F,B,M,Q,P,D,A⟩=>⟨r,?_⟩⟩;subst z C F B M Q P D A;rfl
def Po{g l:Bool}{dg:aa}{x:Int}{m d:aa}{k0 k1 k2:Int}(h:chkD g l dg x 0 m d k0 k1 k2=0)(b:m≠[])(hp:0<=k0/\0<=k1):chkD g l dg x 0 m [] k0 k1 0=0:=by
 obtain⟨e,a,c3,c4⟩:=Eg h;unfold chkD;have f:aR m []=2:=by unfold aR;simp[b]
 have c:allM k0 k1 0 2=0:=by
  unfold allM at c4 ⊢;by_cases hx:3<k0\/3<k1\/3<k2\/(aR m d<2/\k1≠0)\/(aR m d<3/\k2≠0)
  ·rw[af hx]at c4;cases c4
  ·rw[ae (by omega)]
 rw[e,f,c];have:(!(m==[])&&(!(decide (0<sea m))&&!(dW m 12)))=false:=by
  rcases a with h | h | h
  ·rw[h];rfl
  ·rw[au h];simp
  ·rw[h];simp
 rw[this];rfl
def Ny{g l:Bool}{dg:aa}{x:Int}{m d:aa}{k0 k1 k2:Int}(h:chkD g l dg x 0 m d k0 k1 k2=0):chkD g l dg x 0 [] [] k0 0 0=0:=by
 obtain⟨b,e,c3,c4⟩:=Eg h;have hy:yrD g l dg x 0 []=true:=by
  unfold yrD at b ⊢;by_cases a:okY g l dg x 0
  ·rw[af a];unfold yrB;rfl
  ·rw[ae a]at b;cases b
 have c:allM k0 0 0 1=0:=by
  unfold allM at c4 ⊢;by_cases hx:3<k0\/3<k1\/3<k2\/(aR m d<2/\k1≠0)\/(aR m d<3/\k2≠0)
  ·rw[af hx]at c4;cases c4
  ·rw[ae (by omega)]
 unfold chkD;rw[hy,show aR [] []=1 from rfl,c];rfl
def AB{g l:Bool}{dg:aa}{x q:Int}{m:aa}{k0 k1 k2:Int}(h:chkD g l dg x q m [] k0 k1 k2=0):chkF g l dg x q m [] k0 k1 k2=0:=by
 unfold chkF;rw[ae (λh=>h.2.1 rfl),h]
def FT(x:TD):1<=coT x/\coT x<=3:=kx _ _
def cutI{x:TD}(hs:smT x)(hp:plT x=true){n:Nat}(C:1<=n)(p:n<=coT x):∃y:TD,kr 20000000 x (n:Int)=some y/\smT y/\plT y=true/\coT y=n:=by
 obtain⟨hc,s,r⟩:=nj.1 hp;obtain⟨t,E⟩:=O9 hc s;have c:=lI hc;obtain⟨g,l,dg,e,q,m,d,k0,k1,k2⟩:=x;obtain⟨k,h,u,f,i,z⟩:=hs;simp only at k h u f i z c t E;subst t;have B:=FT (g,l,dg,e,0,m,d,k0,k1,k2);have b:exD dg m d 0=true:=s;obtain⟨_,_,A⟩:=tR hc;have o:coT (g,l,dg,e,0,m,d,k0,k1,k2)=aR m d:=rfl;unfold kr;by_cases F:n<3
 ·rw[au (show(n:Int)<3 by omega),aj];by_cases D:n<2
  ·rw[au (show(n:Int)<2 by omega),aj];have j:n=1:=by omega
   subst j;have a:=Ny c;exact⟨_,rfl,⟨by simp,h,by simp,f,by simp,by simp⟩,nj.2 ⟨AB a,(LO b).2,by show¬0<sea [];decide⟩,rfl⟩
  ·rw[aw (show¬(n:Int)<2 by omega),ah];have j:n=2:=by omega
   subst j;have w:m≠[]:=by
    rintro rfl;rw[o]at p;unfold aR at p;by_cases v:d=[]
    ·simp[v]at p
    ·exact absurd rfl (A v).1
   have a:=Po c w ⟨f,i⟩;exact⟨_,rfl,⟨k,h,by simp,f,i,by simp⟩,nj.2 ⟨AB a,(LO b).1,r⟩,by show aR m []=2;unfold aR;simp[w]⟩
 ·rw[aw (show¬(n:Int)<3 by omega),ah,aw (show¬(n:Int)<2 by omega),ah];exact⟨_,rfl,⟨k,h,u,f,i,z⟩,hp,by omega⟩
def NC{p:TD}{all:Bool}(hp:plT p=true):itE p false d0 all=0:=by
 obtain⟨hc,a,_⟩:=nj.1 hp;rw[QA hc,a];have:eqD d0 d0=true:=fY.2 rfl;rw[this];simp
def DD{x y:TD}{all:Bool}(hx:plT x=true)(hy:plT y=true)(hc:coT x=coT y)(d:(dyT x).1<=(dyT y).1):itE x true y all=0:=by
 obtain⟨c,a,_⟩:=nj.1 hx;obtain⟨b,e,_⟩:=nj.1 hy;rw[V1 c b,a];have:ordB x y=true:=by unfold ordB;rw[hx,hy,au hc,au d];rfl
 rw[this];simp
def ZG{a0 a2 C t A D B s p:Int}(g:Bool){b0 b2 l o q m k j w:Int}(f:Bool)(R:Int)(all:Bool)(i:wfD a0 a2 C t A D B s p)(K:wfD b0 b2 l o q m k j w):
  ∃x r y,iv 20000000 a0 g a2 C t A D B s p R b0 f b2 l o q m k j w all=some (x,r,y)/\smT x/\smT y/\itE x r y all=0:=by
 unfold iv;cases(Int.tmod R 2==1)
 ·rw[ah];cases all
  ·obtain⟨x,e,hs,hc⟩:=DofI g i;refine⟨x,false,d0,by rw[ah,e];rfl,hs,mq,?_⟩;have:eqD d0 d0=true:=fY.2 rfl;rw[QA hc,this];simp
  ·obtain⟨x,e,hs,hc,E,_⟩:=ExI g i;refine⟨x,false,d0,by rw[aj,e];rfl,hs,mq,?_⟩;have:eqD d0 d0=true:=fY.2 rfl;rw[QA hc,this,E];simp
 ·rw[aj];obtain⟨x,ex,sx,L⟩:=H6 g i;obtain⟨y,I,G,O⟩:=H6 f K;rw[ex,I];simp only[ob,rcoT];have N:(cond (decide (((coT y:Nat):Int)<((coT x:Nat):Int))) ((coT y:Nat):Int) ((coT x:Nat):Int))=((min (coT x) (coT y):Nat):Int):=by
   by_cases h:coT y<coT x
   ·rw[au (by omega),aj];omega
   ·rw[aw (by omega),ah];omega
  rw[N];have V:=FT x;have U:=FT y;obtain⟨u,H,c,d,S⟩:=cutI sx L (n:=min (coT x) (coT y)) (by omega) (by omega);obtain⟨v,J,a,b,T⟩:=cutI G O (n:=min (coT x) (coT y)) (by omega) (by omega);obtain⟨Q,M,_⟩:=nj.1 d;obtain⟨F,P,_⟩:=nj.1 b;rw[H,J];simp only[rdT c Q M,rdT a F P,u2];by_cases z:(dyT u).1>(dyT v).1
  ·rw[au z];exact⟨v,true,u,rfl,a,c,DD b d (by omega) (by omega)⟩
  ·rw[aw z];exact⟨u,true,v,rfl,c,a,DD d b (by omega) (by omega)⟩
def wfR(r:TR):Prop:=wfD r.1 r.2.2.1 r.2.2.2.1 (d4 r).1 (d4 r).2.1 (d4 r).2.2.1 (d4 r).2.2.2.1 (d8 r).1 (d8 r).2.1/\
 wfD (d8 r).2.2.2.1 (d4 (d8 r)).2.1 (d4 (d8 r)).2.2.1 (d4 (d8 r)).2.2.2.1 (d16 r).1 (d16 r).2.1 (d16 r).2.2.1 (d16 r).2.2.2.1 (d4 (d16 r))
def zO{A:Type}{f:Nat->A->Int}:∀{L:List A} {k:Nat},(∀i t,L[i]?=some t->f (k+i) t=0)->pB f k L=none
 | [],_,_=>rfl
 | t::r,k,h=>by
  have a:=h 0 t rfl;rw[dP]at a;rw[pB,ae (λh=>h a)];exact zO λi u b=>by rw[gR,o8 1 i];exact h (i+1) u b
structure RightE(k:Int)(D:TD)(KF:Int)(DF:TD)(KT:Int)(DT:TD)(e l:Bool)(I:List TI):Prop where
 sm:smE D DF DT I
 first:iE k D KF DF KT DT e l I=(0,0)
 len:I.length<=5
 kind:1<=k/\k<=4
 its:∀t∈I,itI t (k==4)=0
def ND{k:Int}(p:k=3\/k=4){e l:Bool}{I:List TI}(s:1<=I.length)(r:I.length<=5)(hs:∀t∈I,smI t/\itI t (k==4)=0)(m:e=true->∃t,I[0]?=some t/\endB t=true)
  (q:l=true->∃t,I[I.length - 1]?=some t/\endB t=true) (g:e=true->l=true->I.length≠1):RightE k d0 0 d0 0 d0 e l I:=by
 refine⟨⟨mq,mq,mq,λt d=>(hs t d).1⟩,?_,r,by omega,λt d=>(hs t d).2⟩;have j:unuB k d0 0 d0 0 d0 e l I.length=false:=by
  have o:eqD d0 d0=true:=fY.2 rfl;unfold unuB;rw[o];rcases p with rfl | rfl<;>rfl
 unfold iE;rw[ae (by omega),ae (by rw[j];simp),ae (by omega),ae (by omega),ae (by omega),ae (by omega)];unfold xF;rw[zO λi t d=>?_];rw[cU];have n:i<I.length:=(pY.1 d).1;unfold errI;rw[(hs t (fh d)).2,ae (λh=>h rfl),ae];intro h;simp only[iG,aA,cb,kv]at h;rcases h with⟨⟨a,b⟩,c⟩ | ⟨⟨a,b⟩,c⟩ | ⟨a,b,c⟩
 ·obtain⟨u,f,u2⟩:=m a;subst b;rw[d]at f;cases f;rw[u2]at c;cases c
 ·obtain⟨u,f,u2⟩:=q a;rw[show I.length - 1=i by omega,d]at f;cases f;rw[u2]at c;cases c
 ·exact g a b c
def AH{p:TD}{all:Bool}(hs:smT p)(hp:plT p=true):smI (mkI p false d0)/\itI (mkI p false d0) all=0/\endB (mkI p false d0)=true:=
 ⟨⟨hs,mq⟩,NC hp,by unfold endB;show(!false&&plT p)=true;rw[hp];rfl⟩
def SV(n x0:Nat)(t:Int)(k:Bool)(o:Int)(m:TD)(u:Int)(q:TD)(l:Int)(v:TD)(s f:Bool){L:List TR}(a:Int)(e:TD)(j:Int)(b:TD)(x16:Int)(h:TD)(d g:Bool)(c I:List TI)
  {r:TR} {p:TD} (z:0<x0) (y:L[0]?=some r) (w:0<I.length) (hp:cn n r.1 r.2.1 r.2.2.1 r.2.2.2.1 (d4 r).1 (d4 r).2.1 (d4 r).2.2.1 (d4 r).2.2.2.1 (d8 r).1 (d8 r).2.1=some p):
  iM n x0 t k o m u q l v s f L a e j b x16 h d g c I=some (x0,t,o,m,u,q,l,v,s,f,L,a,e,j,b,x16,h,d,g,c,if k=true then I.set 0 (mkI p false d0)else I)/\
  g9 n x0 t k L o m u q l v s f a e j b x16 h d g c I=some (x0,t,L,o,m,u,q,l,v,s,f,a,e,j,b,x16,h,d,g,c,if k=true then I.set 0 (mkI p false d0)else I):=by
 unfold iM g9;cases k
 ·exact⟨rfl,rfl⟩
 ·have A:ix x0 (0:Int)=some 0:=cG (i:=0) z;have x:ix I.length (0:Int)=some 0:=cG (i:=0) w;simp only[aj,A,x,y,hp,ob,bq w,aQ];constructor<;>trivial
def RZ(n x0 m:Nat)(j:Bool)(o:Int)(l:TD)(t:Int)(q:TD)(k:Int)(u:TD)(s f:Bool){L:List TR}(a:Int)(e:TD)(i:Int)(b:TD)(x16:Int)(h:TD)(d g:Bool)(c I:List TI)
  {r:TR} {p:TD} (x:m<x0) (w:L[m]?=some r) (v:m<I.length) (hp:cn n r.1 r.2.1 r.2.2.1 r.2.2.2.1 (d4 r).1 (d4 r).2.1 (d4 r).2.2.1 (d4 r).2.2.2.1 (d8 r).1 (d8 r).2.1=some p):
  iP n x0 (m:Int) j o l t q k u s f L a e i b x16 h d g c I=some ((m:Int),o,l,t,q,k,u,s,f,a,e,i,b,x16,h,d,g,c,if j=true then I.set m (mkI p false d0)else I)/\
  ib n x0 (m:Int) j L o l t q k u s f a e i b x16 h d g c I=some ((m:Int),o,l,t,q,k,u,s,f,a,e,i,b,x16,h,d,g,c,if j=true then I.set m (mkI p false d0)else I):=by
 unfold iP ib;cases j
 ·exact⟨rfl,rfl⟩
 ·simp only[aj,cG x,cG v,w,hp,ob,bq v,aQ];constructor<;>trivial
def Jh{L:List TR}(H:∀r∈L,wfR r){n:Nat}(K:n<=L.length)(J:n<=5)(k:Int)(e l:Bool)(a:List TI):
  ∃I:List TI,I.length=n/\(∀t∈I,smI t/\itI t (k==4)=0)/\
   av (dh 20000000) 20000000 (n,0,L,k,e,l,a,([]:List TI))=some (n,0,d0,0,d0,0,d0,false,false,L,k,d0,0,d0,0,d0,e,l,a,I)/\
   av (cK 20000000) 20000000 (n,0,L,k,e,l,a,([]:List TI))=some (n,L,0,d0,0,d0,0,d0,false,false,k,d0,0,d0,0,d0,e,l,a,I):=by
 have m:∀i (r:TR) (acc:List TI),i<n->L[i]?=some r->acc.length=i->∃b:TI,(smI b/\itI b (k==4)=0)/\
   dh 20000000 (n,(i:Int),L,k,e,l,a,acc)=some (.inl (n,((i+1:Nat):Int),L,k,e,l,a,acc++[b]))/\
   cK 20000000 (n,(i:Int),L,k,e,l,a,acc)=some (.inl (n,((i+1:Nat):Int),L,k,e,l,a,acc++[b])):=by
  intro i r acc hi p j;obtain⟨v,E⟩:=H r (fh p);obtain⟨x,f,y,q,sx,u,s⟩:=ZG r.2.1 (d4 (d8 r)).1 (d8 r).2.2.1 (k==4) v E;refine⟨mkI x f y,⟨⟨sx,u⟩,s⟩,?_,?_⟩
  ·unfold dh;simp only[u8,u7,u6,u5,u4,u3,u2];rw[au (show(i:Int)<((n:Nat):Int)by omega),cG hi];simp only[aj,ob,p,q];rw[ox (by omega),show Nat.ble (acc.length+1) dj=true from cr (by unfold dj;omega)];rfl
  ·unfold cK;simp only[u8,u7,u6,u5,u4,u3,u2];rw[au (show(i:Int)<((n:Nat):Int)by omega),cG hi];simp only[aj,ob,p,q];rw[ox (by omega),show Nat.ble (acc.length+1) dj=true from cr (by unfold dj;omega)];rfl
 have d:∀acc:List TI,dh 20000000 (n,(n:Int),L,k,e,l,a,acc)=some (.inr (n,0,d0,0,d0,0,d0,false,false,L,k,d0,0,d0,0,d0,e,l,a,acc)):=λacc=>by
  unfold dh;simp only[u8,u7,u6,u5,u4,u3,u2];rw[aw (show¬((n:Nat):Int)<((n:Nat):Int)by omega)];rfl
 have c:∀acc:List TI,cK 20000000 (n,(n:Int),L,k,e,l,a,acc)=some (.inr (n,L,0,d0,0,d0,0,d0,false,false,k,d0,0,d0,0,d0,e,l,a,acc)):=λacc=>by
  unfold cK;simp only[u8,u7,u6,u5,u4,u3,u2];rw[aw (show¬((n:Nat):Int)<((n:Nat):Int)by omega)];rfl
 have g:∀(r i:Nat) (acc:List TI),i+r=n->acc.length=i->(∀t∈acc,smI t/\itI t (k==4)=0)->∀N,r<N->∃I:List TI,I.length=n/\(∀t∈I,smI t/\itI t (k==4)=0)/\
   av (dh 20000000) N (n,(i:Int),L,k,e,l,a,acc)=some (n,0,d0,0,d0,0,d0,false,false,L,k,d0,0,d0,0,d0,e,l,a,I)/\
   av (cK 20000000) N (n,(i:Int),L,k,e,l,a,acc)=some (n,L,0,d0,0,d0,0,d0,false,false,k,d0,0,d0,0,d0,e,l,a,I):=by
  intro r
  induction r with
  | zero=>
   intro i acc hi j o N F;obtain⟨N,rfl⟩:∃k,N=k+1:=⟨N - 1,by omega⟩;obtain rfl:i=n:=by omega
   exact⟨acc,j,o,by rw[av,d],by rw[av,c]⟩
  | succ r ih=>
   intro i acc hi j o N F;obtain⟨N,rfl⟩:∃k,N=k+1:=⟨N - 1,by omega⟩;obtain⟨b,z,C,B⟩:=m i _ acc (by omega) (bq (show i<L.length by omega)) j
   obtain⟨I,o1,G,D,A⟩:=ih (i+1) (acc++[b]) (by omega) (by simp[j]) (λx hx=>by
    rcases ln.1 hx with h | h
    ·exact o x h
    ·rw[tK.1 h];exact z) N (by omega)
   exact⟨I,o1,G,by rw[av,C];exact D,by rw[av,B];exact A⟩
 exact g n 0 [] (by omega) rfl (λt w=>by cases w) 20000000 (by omega)
def WP(n x0:Nat)(a:Int)(b:Bool)(P:List TR)(f c d e:Int)(L:List TR)(g:List TI):
  jr n x0 a b P f c d e L g=some (x0,a,b||(a==1||a==2),P,f,c,d,e,L,g)/\
  i7 n x0 a b P f c d e g=some (x0,a,b||(a==1||a==2),P,f,c,d,e,g):=by
 unfold jr i7 kL ke;cases b<;>cases(a==1)<;>exact⟨rfl,rfl⟩
def SI(n x0:Nat)(d:Int)(a:Bool)(P:List TR)(f b c e:Int)(L:List TR)(g:List TI):
  iU n x0 d a P f b c e L g=some (x0,a||d==4,P,f,b,c,e,L,g)/\
  hZ n x0 d a P f b c e g=some (x0,a||d==4,P,f,b,c,e,g):=by
 unfold iU hZ;cases a<;>exact⟨rfl,rfl⟩
def RV(n x0:Nat)(b:Bool)(L:List TR)(e l:Bool)(a c:List TI):
  iR n x0 b L e l a c=some (x0,L,(if b then 4 else 3),e,l,a,c)/\ig n x0 b L e l a c=some (x0,L,(if b then 4 else 3),e,l,a,c):=by
 unfold iR ig;cases b<;>exact⟨rfl,rfl⟩
def Tn(n:Nat)(x0 k:Int)(o:TD)(i:Int)(p:TD)(m:Int)(j:TD)(l r:Bool)(q:Int)(e:TD)(h:Int)(b:TD)(d:Int)(g:TD)(a x16:Bool)(f c:List TI):
  fX n x0 k o i p m j l r q e h b d g a x16 f c=some ((x0==0)&&a,k,o,i,p,m,j,l,r,q,e,h,b,d,g,a,x16,f,c):=by
 unfold fX;cases(x0==0)<;>rfl
def SH(n:Nat)(x0:Bool)(k:Int)(o:TD)(i:Int)(p:TD)(m:Int)(j:TD)(l r:Bool)(q:Int)(e:TD)(h:Int)(a:TD)(d:Int)(g:TD)(b x16:Bool)(f c:List TI):
  ge n x0 k o i p m j l r q e h a d g b x16 f c=some (k,o,i,p,m,j,l,r,q,e,h,a,d,g,b,!x0&&x16,f,c):=by
 unfold ge;cases x0<;>rfl
def se{x:TD}(hs:smT x)(hc:cF x=0):RightE 1 x 0 d0 0 d0 false false []:=by
 refine⟨⟨hs,mq,mq,λt c=>by cases c⟩,?_,by simp,by omega,by simp⟩;have b:eqD d0 d0=true:=fY.2 rfl;have a:unuB 1 x 0 d0 0 d0 false false ([]:List TI).length=false:=by unfold unuB;rw[b];rfl
 unfold iE;rw[ae (by omega),ae (by rw[a];simp),af rfl,hc]
def pj{KF KT:Int}{x y:TD}(hx:smT x)(hy:smT y)(h:np KF x KT y=0):RightE 2 d0 KF x KT y false false []:=by
 refine⟨⟨mq,hx,hy,λt c=>by cases c⟩,?_,by simp,by omega,by simp⟩;have b:eqD d0 d0=true:=fY.2 rfl;have a:unuB 2 d0 KF x KT y false false ([]:List TI).length=false:=by unfold unuB;rw[b];rfl
 unfold iE;rw[ae (by omega),ae (by rw[a];simp),ae (by omega),af rfl,h]
def FI(x:TD):qD 1 x=if cF x=0 then if exT x=true then 0 else 11 else cF x:=by
 unfold qD chkB;rw[af rfl];rfl
def tJ{x:TD}(h:qD 1 x=0):cF x=0/\exT x=true:=by
 rw[FI]at h;by_cases hc:cF x=0
 ·rw[af hc]at h;by_cases a:exT x=true
  ·exact⟨hc,a⟩
  ·rw[ae a]at h;cases h
 ·rw[ae hc]at h;exact absurd h hc
def wz{x:TD}(hc:cF x=0)(a:exT x=true):qD 1 x=0:=by
 rw[FI,af hc,af a]
def vF{KF KT:Int}{x y:TD}(a:qD KF x=0)(b:qD KT y=0):np KF x KT y=if KF≠1/\KT≠1 then 11 else if KF≠1\/KT≠1 then 0 else if(dyT x).1>(dyT y).2 then 11 else 0:=by
 unfold np GY;rw[a,b,ae (λh=>h rfl),ae (λh=>h rfl)]
def R1{n x0:Nat}{L:List TR}{r:TR}(t:0<x0)(s:L[0]?=some r)(w:n=20000000)(m:wfR r){KF KT:Int}{x y:TD}(sx:smT x)(l:smT y)(c:qD KF x=0)(g:qD KT y=0)(X:List TI):
  ∃a d b f,iQ n x0 (np KF x KT y != 0) L KF x KT y X=some (a,d,b,f,X)/\ie n x0 (np KF x KT y != 0) L KF x KT y X=some (a,d,b,f,X)/\
   smT d/\smT f/\np a d b f=0:=by
 subst w;unfold iQ ie;by_cases hp:np KF x KT y=0
 ·rw[show(np KF x KT y != 0)=false from by simp[hp]];exact⟨KF,x,KT,y,rfl,rfl,sx,l,hp⟩
 ·rw[show(np KF x KT y != 0)=true from by simp[hp],aj,aj];unfold kN ka;by_cases k:KF=1
  ·subst k;have j:KT=1:=by
    rw[vF c g]at hp;by_cases h:KT=1
    ·exact h
    ·rw[ae (by simp),af (.inr h)]at hp;exact absurd rfl hp
   subst j;obtain⟨C,p⟩:=tJ c;obtain⟨A,q⟩:=tJ g;have F:=SR C p;have E:=SR A q;have D:(dyT x).1>(dyT y).2:=by
    rw[vF c g,ae (by simp),ae (by simp)]at hp;by_cases h:(dyT x).1>(dyT y).2
    ·exact h
    ·rw[ae h]at hp;exact absurd rfl hp
   refine⟨1,y,1,x,rfl,rfl,l,sx,?_⟩;rw[vF g c,ae (by simp),ae (by simp),ae (by omega)]
  ·obtain⟨z,e,o,v,B,_⟩:=ExI (d4 (d8 r)).1 m.2;have e':bJ 20000000 (d8 r).2.2.2.1 (d4 (d8 r)).1 (d4 (d8 r)).2.1 (d4 (d8 r)).2.2.1 (d4 (d8 r)).2.2.2.1 (d16 r).1 (d16 r).2.1 (d16 r).2.2.1 (d16 r).2.2.2.1 (d4 (d16 r))=some z:=e;have u:ix x0 (0:Int)=some 0:=cG (i:=0) t;rw[show(KF != 1)=true from by simp[k],aj,u];simp only[ob,s,e',u5,u4,u3,u2];refine⟨KF,x,1,z,rfl,rfl,sx,o,?_⟩;rw[vF c (wz v B),ae (by simp),af (.inl k)]
def PG{L:List TR}(K:∀r∈L,wfR r){n:Nat}(G:1<=n)(J:n<=L.length)(H:n<=5){k:Int}(z:k=3\/k=4)(e l:Bool){I:List TI}(y:I.length=n)(hit:∀t∈I,smI t/\itI t (k==4)=0)
  {p q:TD} (C:smT p) (u:plT p=true) (w:smT q) (x:plT q=true):
  RightE k d0 0 d0 0 d0 e (!(decide (n=1)&&e)&&l) (if l=true then(if e=true then I.set 0 (mkI p false d0)else I).set (n - 1) (mkI q false d0)else if e=true then I.set 0 (mkI p false d0)else I):=by
 obtain⟨v,F,m⟩:=AH (all:=(k==4)) C u;obtain⟨B,E,o⟩:=AH (all:=(k==4)) w x;have g:∀t∈(if e=true then I.set 0 (mkI p false d0)else I),smI t/\itI t (k==4)=0:=by
  intro t b;split at b
  ·rcases Pl b with h | h
   ·exact hit t h
   ·rw[h];exact⟨v,F⟩
  ·exact hit t b
 have c:(if e=true then I.set 0 (mkI p false d0)else I).length=n:=by split<;>simp[y]
 have d:e=true->(if e=true then I.set 0 (mkI p false d0)else I)[0]?=some (mkI p false d0):=by
  intro h;rw[af h,MC (by omega)]
 generalize s:(if e=true then I.set 0 (mkI p false d0)else I)=A at g c d;have i:(if l=true then A.set (n - 1) (mkI q false d0)else A).length=n:=by split<;>simp[c]
 have D:∀t∈(if l=true then A.set (n - 1) (mkI q false d0)else A),smI t/\itI t (k==4)=0:=by
  intro t b;split at b
  ·rcases Pl b with h | h
   ·exact g t h
   ·rw[h];exact⟨B,E⟩
  ·exact g t b
 refine ND z (by omega) (by omega) D (λf=>?_) (λa=>?_) (λf a=>?_)
 ·by_cases a:l=true
  ·rw[af a];by_cases j:n=1
   ·subst j;exact⟨mkI q false d0,by rw[MC (by omega)],o⟩
   ·exact⟨mkI p false d0,by rw[List.getElem?_set_ne (by omega)];exact d f,m⟩
  ·rw[ae a];exact⟨_,d f,m⟩
 ·simp only[aA]at a;rw[af a.2,Gg,c];exact⟨mkI q false d0,by rw[MC (by omega)],o⟩
 ·rw[f]at a;simp only[yy,aA,kv,ug]at a;rw[i];exact a.1
def UI:wfR ((0,false,0,0,0,0,0,0,0,0,0,0,false,0,0,0,0,0,0,0,0):TR):=by
 have z:natI 0 256:=⟨by omega,by omega⟩;have z2:natI 0 65536:=⟨by omega,by omega⟩;exact⟨⟨z,z2,z,z,z,z,z,z,z⟩,⟨z,z2,z,z,z,z,z,z,z⟩⟩
def min5(m:Nat):cond (decide ((5:Int)<((m:Nat):Int))) 5 ((m:Nat):Int)=((min 5 m:Nat):Int):=by
 by_cases h:5<m
 ·rw[au (by omega),aj];omega
 ·rw[aw (by omega),ah];omega
def Xe(k:Nat):((((k%8:Nat):Int)==0)||((((k%8:Nat):Int)==1)||(((k%8:Nat):Int)==2)))=decide (k%8<3)/\((((k%8:Nat):Int)==3)||(((k%8:Nat):Int)==4))=decide (k%8=3\/k%8=4):=by
 have h:k%8<8:=rk _ (by omega);generalize k%8=j at *;rcases(by omega:j=0\/j=1\/j=2\/j=3\/j=4\/j=5\/j=6\/j=7)with rfl | rfl | rfl | rfl | rfl | rfl | rfl | rfl<;>decide
def E_of{K N J B:Int}(hK:natI K 256)(h0:natI N 256)(h1:natI J 256)(hB:natI B 256){L:List TR}(hL:∀r∈L,wfR r):
  ∃k D KF DF KT DT e l I,jD 20000000 K N J B L=some (k,D,KF,DF,KT,DT,e,l,I)/\RightE k D KF DF KT DT e l I:=by
 obtain⟨K,rfl,bK⟩:=hK.nat;have G:Int.tmod (K:Int) 8=((K%8:Nat):Int):=rfl;obtain⟨k1,k2⟩:=Xe K;unfold jD lk;rw[show(len L==0)=decide (L.length=0)from O5 _];generalize t:(if L=[]then[(0,false,0,0,0,0,0,0,0,0,0,0,false,0,0,0,0,0,0,0,0)]else L:List TR)=M;have d:∀r∈M,wfR r:=by
  intro r c;rw[<-t]at c;split at c
  ·rw[tK.1 c];exact UI
  ·exact hL r c
 have hMl:1<=M.length:=by
  rw[<-t];split
  ·simp
  ·rename_i h;exact List.length_pos_iff.2 h
 have A:min 5 M.length<=M.length:=GH _ _;have v:1<=min 5 M.length:=by omega
 have m:min 5 M.length<=5:=Nat.min_le_left _ _;obtain⟨r,c⟩:∃r,M[0]?=some r:=⟨M[0],bq (by omega)⟩;obtain⟨r',o⟩:∃r,M[min 5 M.length - 1]?=some r:=⟨M[min 5 M.length - 1],bq (by omega)⟩;have s:=d r (fh c);have hw':=d r' (fh o);obtain⟨x,ex,sx,V⟩:=DofI r.2.1 s.1;obtain⟨KF,Z,y,j,F,_⟩:=BofI r.2.1 h0 s.1;obtain⟨KT,bt,z,g,w,_⟩:=BofI (d4 (d8 r)).1 h1 s.2;obtain⟨p,ep,sp,W⟩:=H6 r.2.1 s.1;obtain⟨q,eq,X,Y⟩:=H6 r'.2.1 hw'.1;have H:ix (min 5 M.length) (0:Int)=some 0:=cG (i:=0) (by omega);have C:bx M.length (cond (decide ((5:Int)<len M)) 5 (len M))=some (min 5 M.length):=by
  rw[show(cond (decide ((5:Int)<len M)) 5 (len M))=((min 5 M.length:Nat):Int)from min5 _,ef A]
 have a:w64 (((min 5 M.length:Nat):Int) - 1)=((min 5 M.length - 1:Nat):Int):=FV (by omega) (by omega);have u:(((min 5 M.length - 1:Nat):Int)==0)=decide (min 5 M.length=1):=by
  rw[O5];congr 1;exact propext (by omega)
 by_cases b:L=[]
 ·rw[af b]at t;subst b;rw[show decide (([]:List TR).length=0)=true from rfl,aj];simp only[obs,sm,ob,u7,u6,u5,u4,u3,u2,t,C,G,(WP _ _ _ _ _ _ _ _ _ _ _).1,u10,u9,u8,k1];by_cases hs:K%8<3
  ·rw[au hs];simp only[aj,H,c,ex];exact⟨_,_,_,_,_,_,_,_,_,rfl,se sx V⟩
  rw[aw hs];simp only[ah,(SI _ _ _ _ _ _ _ _ _ _ _).1,u9,u8,u7,u6,u5,u4,u3,u2,k2];by_cases E:K%8=3\/K%8=4
  ·rw[au E];have ebf':ci 20000000 N r.1 r.2.1 r.2.2.1 r.2.2.2.1 (d4 r).1 (d4 r).2.1 (d4 r).2.2.1 (d4 r).2.2.2.1 (d8 r).1 (d8 r).2.1=some (KF,Z):=y;have ebt':ci 20000000 J (d8 r).2.2.2.1 (d4 (d8 r)).1 (d4 (d8 r)).2.1 (d4 (d8 r)).2.2.1 (d4 (d8 r)).2.2.2.1 (d16 r).1 (d16 r).2.1 (d16 r).2.2.1 (d16 r).2.2.2.1 (d4 (d16 r))=some (KT,bt):=z;obtain⟨O,x',S,y',j1,_,R,Q,hp⟩:=R1 (n:=20000000) (x0:=min 5 M.length) (by omega) c rfl s j g F w ([]:List TI);simp only[aj,H,c,ebf',ebt',N3 j g,j1,u5,u4,u3,u2];exact⟨_,_,_,_,_,_,_,_,_,rfl,pj R Q hp⟩
  rw[aw E];generalize(Int.tmod B 2==1)=e;generalize(Int.tmod (w8 (Int.tdiv B 2)) 2==1)=l;rw[G];generalize(((K%8:Nat):Int)==7)=f;obtain⟨I,o1,U,T,_⟩:=Jh d A m (if f=true then 4 else 3) e l [];have P:(if f=true then(4:Int)else 3)=3\/(if f=true then(4:Int)else 3)=4:=by cases f<;>simp
  simp only[ah,(RV _ _ _ _ _ _ _ _).1,T,a,u7,u6,u5,u4,u3,u2];simp only[u20,u19,u18,u17,u16,u15,u14,u13,u12,u11,u10,u9,u8,u7,u6,u5,u4,u3,u2];rw[(SV 20000000 _ _ _ _ _ _ _ _ _ _ _ _ _ _ _ _ _ _ _ _ _ (by omega) c (by omega) ep).1];simp only[u21,u20,u19,u18,u17,u16,u15,u14,u13,u12,u11,u10,u9,u8,u7,u6,u5,u4,u3,u2];rw[a,(RZ 20000000 (min 5 M.length) (min 5 M.length - 1) _ _ _ _ _ _ _ _ _ _ _ _ _ _ _ _ _ _ _ (by omega) o (by split<;>simp[o1]<;>omega) eq).1];simp only[u21,u20,u19,u18,u17,u16,u15,u14,u13,u12,u11,u10,u9,u8,u7,u6,u5,u4,u3,u2,Tn,SH,u];exact⟨_,_,_,_,_,_,_,_,_,rfl,PG d v A m P e l o1 U sp W X Y⟩
 ·rw[ae b]at t;subst t;rw[aw (show¬L.length=0 fromλh=>b (tu h)),ah];simp only[obs,sm,ob,u7,u6,u5,u4,u3,u2,C,G,(WP _ _ _ _ _ _ _ _ _ [] _).2,u10,u9,u8,k1];by_cases hs:K%8<3
  ·rw[au hs];simp only[aj,H,c,ex];exact⟨_,_,_,_,_,_,_,_,_,rfl,se sx V⟩
  rw[aw hs];simp only[ah,(SI _ _ _ _ _ _ _ _ _ [] _).2,u9,u8,u7,u6,u5,u4,u3,u2,k2];by_cases E:K%8=3\/K%8=4
  ·rw[au E];have ebf':ci 20000000 N r.1 r.2.1 r.2.2.1 r.2.2.2.1 (d4 r).1 (d4 r).2.1 (d4 r).2.2.1 (d4 r).2.2.2.1 (d8 r).1 (d8 r).2.1=some (KF,Z):=y;have ebt':ci 20000000 J (d8 r).2.2.2.1 (d4 (d8 r)).1 (d4 (d8 r)).2.1 (d4 (d8 r)).2.2.1 (d4 (d8 r)).2.2.2.1 (d16 r).1 (d16 r).2.1 (d16 r).2.2.1 (d16 r).2.2.2.1 (d4 (d16 r))=some (KT,bt):=z;obtain⟨O,x',S,y',_,j1,R,Q,hp⟩:=R1 (n:=20000000) (x0:=min 5 L.length) (by omega) c rfl s j g F w ([]:List TI);simp only[aj,H,c,ebf',ebt',N3 j g,j1,u5,u4,u3,u2];exact⟨_,_,_,_,_,_,_,_,_,rfl,pj R Q hp⟩
  rw[aw E];generalize(Int.tmod B 2==1)=e;generalize(Int.tmod (w8 (Int.tdiv B 2)) 2==1)=l;rw[G];generalize(((K%8:Nat):Int)==7)=f;obtain⟨I,o1,U,_,T⟩:=Jh d A m (if f=true then 4 else 3) e l [];have P:(if f=true then(4:Int)else 3)=3\/(if f=true then(4:Int)else 3)=4:=by cases f<;>simp
  simp only[ah,(RV _ _ _ _ _ _ _ _).2,T,a,u7,u6,u5,u4,u3,u2];simp only[u20,u19,u18,u17,u16,u15,u14,u13,u12,u11,u10,u9,u8,u7,u6,u5,u4,u3,u2];rw[(SV 20000000 _ _ _ _ _ _ _ _ _ _ _ _ _ _ _ _ _ _ _ _ _ (by omega) c (by omega) ep).2];simp only[u21,u20,u19,u18,u17,u16,u15,u14,u13,u12,u11,u10,u9,u8,u7,u6,u5,u4,u3,u2];rw[a,(RZ 20000000 (min 5 L.length) (min 5 L.length - 1) _ _ _ _ _ _ _ _ _ _ _ _ _ _ _ _ _ _ _ (by omega) o (by split<;>simp[o1]<;>omega) eq).2];simp only[u21,u20,u19,u18,u17,u16,u15,u14,u13,u12,u11,u10,u9,u8,u7,u6,u5,u4,u3,u2,Tn,SH,u];exact⟨_,_,_,_,_,_,_,_,_,rfl,PG d v A m P e l o1 U sp W X Y⟩
noncomputable instance decTI:DecidableEq TI:=λa b=>Classical.propDecidable (a=b)
def Uc{t u:TI}:((eqD (iF t) (iF u))&&(((d8 t).2.2.1==(d8 u).2.2.1)&&((eqD (d8 t).2.2.2 (d8 u).2.2.2)&&true)))=decide (t=u):=by
 rw[uJ,decide_eq_true_iff];have hs:∀a b c:Bool,(a&&(b&&(c&&true)))=true↔a=true/\b=true/\c=true:=by decide
 rw[hs,fY,fY,bu];obtain⟨a1,a2,o,y,l,x,m,v,q,d,b,c⟩:=t;obtain⟨i,p,w,n,k,h,r,s,j,e,f,g⟩:=u;simp only[bm,and_assoc]
noncomputable def difI(J:List TI)(i:Nat)(t:TI):Int:=if J[i]?=some t then 0 else 1
def LW{J:List TI}:∀(I:List TI) (i:Nat),i+I.length=J.length->(pB (difI J) i I=none↔I=J.drop i)
 | [],i,h=>by
  rw[pB,l9 (by simp at h;omega)];simp
 | t::r,i,h=>by
  have hi:i<J.length:=by simp at h;omega
  have b:J[i]?=some J[i]:=bq hi;rw[pB,uN hi];unfold difI;by_cases a:J[i]?=some t
  ·rw[af a,ae (by simp)];have:=LW (J:=J) r (i+1) (by simp at h;omega);unfold difI at this;rw[this];rw[b]at a;simp only[ar]at a;simp[a]
  ·rw[ae a,af (by simp)];rw[b]at a;simp only[ar]at a;simp only[EV];constructor
   ·intro h;cases h
   ·rintro⟨h,_⟩;exact absurd h.symm a
def RG(I J:List TI)(h:I.length=J.length){A:Type}(a b:A):(match pB (difI J) 0 I with | some _=>a | none=>b)=if I=J then b else a:=by
 have:=LW (J:=J) I 0 (by omega);rw[dk]at this;cases hs:pB (difI J) 0 I with
 | none=>rw[af (this.1 hs)]
 | some p=>rw[ae (λh=>by rw[this.2 h]at hs;cases hs)]
def uw{I J:List TI}(h:I.length=J.length)(hn:I.length<=1000000)(k:Int)(D:TD)(KF:Int)(DF:TD)(KT:Int)(DT:TD)(e l:Bool)(k':Int)(D':TD)(KF':Int)(DF':TD)(KT':Int)(DT':TD)(e' l':Bool):
  av (fb 20000000) 20000000 (0,I,J,k,D,KF,DF,KT,DT,e,l,k',D',KF',DF',KT',DT',e',l')=some (if I=J then .inr ()else .inl 0):=by
 have e2:(match pB (difI J) 0 I with | some p=>(.inl 0:Int⊕Unit) | none=>.inr ())=if I=J then .inr ()else .inl 0:=RG I J h _ _
 rw[<-e2];have:=Av (step:=fb 20000000) (st:=λi=>((i:Int),I,J,k,D,KF,DF,KT,DT,e,l,k',D',KF',DF',KT',DT',e',l')) (L:=I) (f:=difI J) (yes:=λ_ _=>.inl (0:Int)) (no:=.inr ()) ?_ ?_ I.length 0 (by omega) 20000000 (by omega)
 ·rw[dk]at this;exact this
 ·intro i t ht;have hi:i<I.length:=(pY.1 ht).1;have hj:J[i]?=some (J[i]'(by omega)):=bq (by omega);generalize J[i]'(by omega)=u at hj;unfold fb;simp only[u19,u18,u17,u16,u15,u14,u13,u12,u11,u10,u9,u8,u7,u6,u5,u4,u3,u2];rw[au (show(i:Int)<len I by show(i:Int)<((I.length:Nat):Int);omega),cG hi,cG (show i<J.length by omega)];simp only[aj,ob,ht,hj,Uc];rw[ox (by omega)];unfold difI;rw[hj];by_cases he:t=u
  ·rw[au he,ae (by simp[he])];rfl
  ·rw[aw he,af (by simp only[ar];rw[ae (λh=>he h.symm)];simp)];rfl
 ·unfold fb;simp only[u19,u18,u17,u16,u15,u14,u13,u12,u11,u10,u9,u8,u7,u6,u5,u4,u3,u2];rw[aw (show¬((I.length:Nat):Int)<len I by show¬((I.length:Nat):Int)<((I.length:Nat):Int);omega)];rfl
def JZ{A B X Y:Type}{step:X->Option (X⊕Y)}{st:Nat->List B->X}{fin:List B->Y}{L:List A}{f:A->List B}{c:Nat}(d:∀t,(f t).length<=2)
  (e:∀i t acc,L[i]?=some t->acc.length<=c+2*i->step (st i acc)=some (.inl (st (i+1) (acc++f t)))) (h:∀acc,step (st L.length acc)=some (.inr (fin acc))):
  ∀(r i:Nat) (acc:List B),i+r=L.length->acc.length<=c+2*i->∀N,r<N->av step N (st i acc)=some (fin (acc++(L.drop i).flatMap f)):=by
 intro r
 induction r with
 | zero=>
  intro i acc hi b N g;obtain⟨N,rfl⟩:∃k,N=k+1:=⟨N - 1,by omega⟩;rw[av,show i=L.length by omega,h,AX];simp
 | succ r ih=>
  intro i acc hi b N g;obtain⟨N,rfl⟩:∃k,N=k+1:=⟨N - 1,by omega⟩;have a:i<L.length:=by omega
  rw[av,e i _ acc (bq a) b,uN a,oQ,<-fa];refine ih (i+1) _ (by omega) ?_ N (by omega);have:=d L[i];rw[aH];omega
def datI(t:TI):List TD:=if rT t=true then[iF t,iT t]else[iF t]
def QZ(t:TI):(datI t).length<=2:=by unfold datI;split<;>simp
def datE(k:Int)(D:TD)(KF:Int)(DF:TD)(KT:Int)(DT:TD)(I:List TI):List TD:=
 if k=1 then[D]else if k=2 then(if KF=1 then(if KT=1 then[DF,DT]else[DF])else if KT=1 then[DT]else[])else if k=3\/k=4 then I.flatMap datI else[]
def Wc{B:Type}{acc:List B}(h:acc.length<=3000000):Nat.ble (acc.length+1) dj=true:=cr (by unfold dj;omega)
def zA{I:List TI}(d:I.length<=1000000){k:Int}(D:TD)(KF:Int)(DF:TD)(KT:Int)(DT:TD)(e l:Bool)(g:k=3\/k=4):
  av (az 20000000) 20000000 (0,I,k,D,KF,DF,KT,DT,e,l,([]:List TD))=some (I.flatMap datI):=by
 have:=JZ (step:=az 20000000) (st:=λi acc=>((i:Int),I,k,D,KF,DF,KT,DT,e,l,acc)) (fin:=λacc=>acc) (L:=I) (f:=datI) (c:=0) QZ ?_ ?_ I.length 0 [] (by omega) (by simp) 20000000 (by omega)
 ·rw[dk,dQ]at this;exact this
 ·intro i t acc b h;have hi:i<I.length:=(pY.1 b).1;unfold az;simp only[u11,u10,u9,u8,u7,u6,u5,u4,u3,u2];rw[au (show(i:Int)<len I by show(i:Int)<((I.length:Nat):Int);omega),cG hi];simp only[aj,ob,b,Wc (acc:=acc) (by omega),Wc (acc:=acc++[iF t]) (by simp;omega)];rw[ox (by omega)];have a:(cond (rT t) (some (.inl (((i+1:Nat):Int),I,k,D,KF,DF,KT,DT,e,l,(acc++[iF t])++[iT t]))) (some (.inl (((i+1:Nat):Int),I,k,D,KF,DF,KT,DT,e,l,acc++[iF t]))):Option ((Int×List TI×Int×TD×Int×TD×Int×TD×Bool×Bool×List TD)⊕(List TD)))=some (.inl (((i+1:Nat):Int),I,k,D,KF,DF,KT,DT,e,l,acc++datI t)):=by
   unfold datI;cases rT t
   ·rfl
   ·rw[aj,fa];rfl
  by_cases k3:k=3
  ·rw[show(k==3)=true from by simp[k3]];exact a
  ·rw[show(k==3)=false from by simp[k3],show(k==4)=true from by simp;omega];exact a
 ·intro acc;unfold az;simp only[u11,u10,u9,u8,u7,u6,u5,u4,u3,u2];rw[aw (show¬((I.length:Nat):Int)<len I by show¬((I.length:Nat):Int)<((I.length:Nat):Int);omega)];rfl
def o6{I:List TI}{k:Int}(D:TD)(KF:Int)(DF:TD)(KT:Int)(DT:TD)(e l:Bool)(b:k≠3)(a:k≠4)(acc:List TD):
  av (az 20000000) 20000000 (0,I,k,D,KF,DF,KT,DT,e,l,acc)=some acc:=by
 have:az 20000000 (0,I,k,D,KF,DF,KT,DT,e,l,acc)=some (.inr acc):=by
  unfold az;simp only[u11,u10,u9,u8,u7,u6,u5,u4,u3,u2];rw[show(k==3)=false from by simp[b],show(k==4)=false from by simp[a]];cases decide ((0:Int)<len I)<;>rfl
 rw[show 20000000=19999999+1 from rfl,av,this]
def GW{I:List TI}(d:I.length<=1000000)(k:Int)(D:TD)(KF:Int)(DF:TD)(KT:Int)(DT:TD)(e l:Bool):kJ 20000000 k D KF DF KT DT e l I=some (datE k D KF DF KT DT I):=by
 unfold kJ datE;by_cases k1:k=1
 ·rw[af k1,show(k==1)=true from by simp[k1],show(k==2)=false from by simp[k1]];simp only[aj,ah,ob,o6 D KF DF KT DT e l (by omega:k≠3) (by omega:k≠4)]
 by_cases k2:k=2
 ·rw[ae k1,af k2,show(k==1)=false from by simp[k1],show(k==2)=true from by simp[k2]];simp only[aj,ah,ob,o6 D KF DF KT DT e l (by omega:k≠3) (by omega:k≠4)];by_cases c:KF=1
  ·rw[af c,show(KF==1)=true from by simp[c]];by_cases a:KT=1
   ·rw[af a,show(KT==1)=true from by simp[a]];rfl
   ·rw[ae a,show(KT==1)=false from by simp[a]];rfl
  ·rw[ae c,show(KF==1)=false from by simp[c]];by_cases a:KT=1
   ·rw[af a,show(KT==1)=true from by simp[a]];rfl
   ·rw[ae a,show(KT==1)=false from by simp[a]];rfl
 rw[ae k1,ae k2,show(k==1)=false from by simp[k1],show(k==2)=false from by simp[k2]];simp only[ah];by_cases b:k=3\/k=4
 ·rw[af b,zA d D KF DF KT DT e l b];rfl
 ·rw[ae b,o6 D KF DF KT DT e l (by omega) (by omega)];rfl
def BN(n:Nat)(t S R:aa)(a:Int)(p:t.length<4611686018427387904)(o:t.length<n):
  av (eC n) n (t,0,R,S,a)=some (((lcp R t:Nat):Int),S,a):=by
 have:=gp (step:=eC n)
  (λx=>∃j:Nat,j<=t.length/\x=(t,(j:Int),R,S,a)) (λx=>t.length - x.2.1.toNat)
  (λx=>(((x.2.1.toNat+lcp (R.drop x.2.1.toNat) (t.drop x.2.1.toNat):Nat):Int),S,a)) ?_ n (t,0,R,S,a) ⟨0,by omega,rfl⟩ (by simp;omega)
 ·simpa using this
 rintro x ⟨j,q,rfl⟩;simp only[bX,eC,UF];by_cases g:j<t.length/\j<R.length
 ·obtain⟨h,l⟩:=g;obtain⟨c,hc⟩:∃c,t[j]?=some c:=⟨t[j],bq h⟩;obtain⟨d,i⟩:∃d,R[j]?=some d:=⟨R[j],bq l⟩;have f:wrap .i64 ((j:Int)+1)=((j+1:Nat):Int):=by rw[wrap_i64 _ (by omega) (by omega)];omega
  have e:(decide ((j:Int)<((min t.length R.length:Nat):Int)))=true:=by simp only[cb];omega
  have b:(decide ((j:Int)<((min R.length t.length:Nat):Int)))=true:=by simp only[cb];omega
  simp only[e,b,aj,lD hc,lD i,ob,AU,gg hc,gg i,lcp];cases m:d==c with
  | true=>
   refine .inl ⟨_,rfl,⟨j+1,by omega,by rw[f]⟩,?_,?_⟩
   ·simp only[f,bX];omega
   ·simp only[f,bX,bm,ud,aQ];omega
  | false=>exact .inr (by simp)
 ·have e:(decide ((j:Int)<((min t.length R.length:Nat):Int)))=false:=by simp only[ug];omega
  have b:(decide ((j:Int)<((min R.length t.length:Nat):Int)))=false:=by simp only[ug];omega
  refine .inr ?_;have k:lcp (R.drop j) (t.drop j)=0:=by
   by_cases h:j<t.length
   ·rw[l9 (show R.length<=j by omega)];rfl
   ·rw[l9 (show t.length<=j by omega)];cases R.drop j<;>rfl
  simp only[e,b,k,ah,dP]
def CL(n:Nat)(t S:aa)(a:Nat)(h:a<=S.length)(e:S.length<4611686018427387904)(f:t.length<4611686018427387904)(b:t.length<n):
  cg n t S (a:Int)=some (if(S.drop a).take t.length=t then .inl (S,((a+t.length:Nat):Int))else .inr (((a+lcp (S.drop a) t:Nat):Int),5,S,(a:Int))):=by
 have d:=yp (S.drop a) t;rw[cj]at d;simp only[cg,nO n t S a h e,ob];by_cases hp:(S.drop a).take t.length=t
 ·simp[hp]
 ·have c:wrap .i64 ((a:Int)+((lcp (S.drop a) t:Nat):Int))=((a+lcp (S.drop a) t:Nat):Int):=by rw[wrap_i64 _ (by omega) (by omega)];omega
  simp only[hp,aG,ah,uy n S a h,BN n t S (S.drop a) (a:Int) f b,Fp,c,wB];simp
def tdR(r:DR):TD:=(r.1,r.2.1,r.2.2.1,(r.2.2.2.1:Int),(r.2.2.2.2.1:Int),r.2.2.2.2.2.1,r.2.2.2.2.2.2.1,(r.2.2.2.2.2.2.2.1.1:Int),(r.2.2.2.2.2.2.2.1.2.1:Int),(r.2.2.2.2.2.2.2.1.2.2:Int))
def mD{S:aa}{a:Nat}(h:a<=S.length){r:DR}(f:ek S a=.inr r):smT (tdR r)/\cF (tdR r)=0/\a<=enR r/\enR r<=S.length:=by
 obtain⟨c,b⟩:=IC h f;obtain⟨g,l,dg,x,s,m,d,M,P,e⟩:=r;have ok:=Ij h c;have:=ok.dg17;have:=ok.m2;have:=ok.d2;refine⟨⟨by show m.length<=18;omega,by show dg.length<=100;omega,by show d.length<=18;omega,by show(0:Int)<=(M.1:Int);omega,by show(0:Int)<=(M.2.1:Int);omega,by show(0:Int)<=(M.2.2:Int);omega⟩,?_,ok.le,ok.end_⟩;have hc:=AD (g:=g) (l:=l) (dg:=dg) (x:=(x:Int)) (q:=(s:Int)) (m:=m) (d:=d) (k0:=(M.1:Int)) (k1:=(M.2.1:Int)) (k2:=(M.2.2:Int)) (vk ok.all);unfold chkR at b;simp only[]at b;show chkF g l dg (x:Int) (s:Int) m d (M.1:Int) (M.2.1:Int) (M.2.2:Int)=0;omega
def dts(l:aa):Bool:=l.take 2==[46,46]
def xG{l:aa}:dts l=true↔∃r,l=46::46::r:=by
 unfold dts;rw[bu];constructor
 ·exact Ku
 ·rintro⟨r,rfl⟩;rfl
def so{S:aa}{p:Nat}(h:dts (S.drop p)=true):p+2<=S.length:=by
 obtain⟨r,a⟩:=xG.1 h;have:=cT List.length a;simp at this;omega
noncomputable def qX(S:aa)(b:UInt8)(p:Nat):(Nat×Nat×Nat)⊕(TI×Nat×Nat):=
 match ek S p with
 | .inl f=>.inl f
 | .inr r=>if dts (S.drop (enR r))=true/\(S.drop (enR r+2)).head?≠some b then
   match ek S (enR r+2)with
   | .inl f=>.inl f
   | .inr a=>.inr (mkI (tdR r) true (tdR a),plR r,enR a)
  else .inr (mkI (tdR r) false d0,plR r,enR r)
def D3{S:aa}{k:UInt8}{p:Nat}(h:p<=S.length){t:TI}{a d:Nat}(b:qX S k p=.inr (t,a,d)):smI t/\p<=d/\d<=S.length:=by
 unfold qX at b;cases c:ek S p with
 | inl f=>rw[c]at b;cases b
 | inr r=>
  obtain⟨g,_,n,i⟩:=mD h c;rw[c]at b;simp only[]at b;split at b
  ·rename_i m;have:=so m.1;cases e:ek S (enR r+2)with
   | inl f=>rw[e]at b;cases b
   | inr o=>
    obtain⟨j,_,l3,l⟩:=mD (by omega) e;rw[e]at b;cases b;exact⟨⟨g,j⟩,by omega,l⟩
  ·cases b;exact⟨⟨g,mq⟩,n,i⟩
noncomputable def oW(S:aa)(c:UInt8):Nat->Nat->List Nat->List TI->(Nat×Nat×Nat)⊕(Nat×List Nat×List TI)
 | 0,p,_,_=>.inl (p,3,p)
 | r+1,p,P,I=>match qX S c p with
  | .inl f=>.inl f
  | .inr (t,a,b)=>if(S.drop b).head?=some 44 then oW S c r (b+1) (P++[a]) (I++[t])else .inr (b,P++[a],I++[t])
def jA{S:aa}{p:Nat}{c:UInt8}(h:(S.drop p).head?=some c):p+1<=S.length:=by
 cases b:S.drop p with
 | nil=>rw[b]at h;cases h
 | cons a r=>
  have:=cT List.length b;simp at this;omega
def xa{S:aa}{i:UInt8}:∀(r p:Nat) (P:List Nat) (I:List TI),p<=S.length->P.length=I.length->(∀t∈I,smI t)->∀{c:Nat} {d:List Nat} {b:List TI},oW S i r p P I=.inr (c,d,b)->
  c<=S.length/\d.length=b.length/\I.length<b.length/\b.length<=I.length+r/\(∀t∈b,smI t)
 | 0,p,P,I,_,_,_,c,d,b,e=>by cases e
 | r+1,p,P,I,h,j,hs,c,d,b,e=>by
  rw[oW]at e;cases g:qX S i p with
  | inl f=>rw[g]at e;cases e
  | inr q=>
   obtain⟨t,a,o⟩:=q;obtain⟨s,z,l⟩:=D3 h g;rw[g]at e;simp only[]at e;have hs':∀u∈I++[t],smI u:=λu k=>by
    rcases ln.1 k with h | h
    ·exact hs u h
    ·rw[tK.1 h];exact s
   split at e
   ·rename_i n;obtain⟨x,y,w,v,m⟩:=xa r (o+1) (P++[a]) (I++[t]) (jA n) (by simp[j]) hs' e;rw[aH,List.length_singleton]at w v;exact⟨x,y,by omega,by omega,m⟩
   ·cases e;exact⟨l,by simp[j],by simp,by simp,hs'⟩
def dts3(S:aa)(p:Nat)(c:UInt8):((S.drop p).take [46,46,c].length==[46,46,c])=(dts (S.drop p)&&decide ((S.drop (p+2)).head?=some c)):=by
 rw[<-kZ];generalize S.drop p=l;unfold dts
 match l with
 | []=>rfl
 | [a]=>simp
 | [a,b]=>simp
 | a::b::d::r=>
  rw[uJ];simp[and_assoc]
def endC(K:Int):UInt8:=if K=4 then 125 else 93
def ye{K:Int}(a:K=3\/K=4)(n:Nat):eT n K=some ([if K=4 then 123 else 91],[endC K]):=by
 rcases a with rfl | rfl<;>rfl
def X7(c:UInt8){S:aa}{p:Nat}(h:p<=S.length)(d f:Int)(a:Bool)(b:List Int)(e:TD)(i g:List TI):
  mE 20000000 [c] d S (p:Int) f a b e i g=some ([c],d,dts (S.drop p)&&!decide ((S.drop (p+2)).head?=some c),S,(p:Int),f,a,b,e,i,g):=by
 unfold mE;rw[Ox _ _ _ _ h];have hc:cat [46,46] [c]=some [46,46,c]:=rfl;simp only[ob,hc,Ox _ _ _ _ h,dts3];show cond (dts (S.drop p)) _ _=_;cases j:dts (S.drop p)
 ·rfl
 ·cases decide ((S.drop (p+2)).head?=some c)<;>rfl
def tk1(l:aa)(c:UInt8):l.take [c].length=[c]↔l.head?=some c:=by
 cases l<;>simp
def EA(S:aa)(r:DR):WE S (.inr r)=.inr ((tdR r).1,(tdR r).2.1,(tdR r).2.2.1,(tdR r).2.2.2.1,(tdR r).2.2.2.2.1,(tdR r).2.2.2.2.2.1,(tdR r).2.2.2.2.2.2.1,(tdR r).2.2.2.2.2.2.2.1,(tdR r).2.2.2.2.2.2.2.2.1,(tdR r).2.2.2.2.2.2.2.2.2,((plR r:Nat):Int),S,((enR r:Nat):Int)):=rfl
def WI(b:Bool)(c:UInt8){S:aa}{p:Nat}(h:p<=S.length)(s:S.length<100000)(m:b=true->dts (S.drop p)=true)(g d:Int)(e:Bool)(i:List Int)(j:TD)(k a:List TI):
  mH 20000000 [c] g b S (p:Int) d e i j k a=some (if b=true then(match ek S (p+2)with
   | .inl f=>.inl ((f.1:Int),(f.2.1:Int),S,(f.2.2:Int))
   | .inr r=>.inr ([c],g,S,((enR r:Nat):Int),d,e,i,j,true,tdR r,k,a))else .inr ([c],g,S,(p:Int),d,e,i,j,false,d0,k,a)):=by
 unfold mH;cases b
 ·rfl
 ·have l:=m rfl;have o:=so l;have q:(S.drop p).take [(46:UInt8),46].length=[46,46]:=by
   obtain⟨r,n⟩:=xG.1 l;rw[n];rfl
  rw[aj,CL _ _ _ _ h (by omega) (by simp) (by simp),af q,af rfl];show obs (iN 20000000 S ((p+2:Nat):Int)) _ _=_;rw[Hh S (p+2) o s];cases ek S (p+2)with
  | inl f=>rfl
  | inr r=>rfl
def BC{α:Type}{I:List α}(h:I.length<=256):Nat.ble (I.length+1) dj=true:=cr (by unfold dj;omega)
abbrev pG(P:List Nat):List Int:=P.map λk:Nat=>(k:Int)
def VC(c:UInt8){S:aa}{p:Nat}(h:p<=S.length)(q:S.length<100000)(K:Int)(e:Bool){P:List Nat}(J:List TI){I:List TI}(z:I.length<256)(C:P.length=I.length):
  fF 20000000 ([c],S,(p:Int),K,e,pG P,J,I)=some (match qX S c p with
   | .inl f=>.inr (.inl ((f.1:Int),(f.2.1:Int),S,(f.2.2:Int)))
   | .inr (t,a,b)=>if(S.drop b).head?=some 44 then .inl ([c],S,((b+1:Nat):Int),K,e,pG (P++[a]),J,I++[t])
    else .inr (.inr ([c],S,((if dts (S.drop b)then b+2 else b:Nat):Int),0,d0,0,d0,0,d0,false,false,K,d0,0,d0,0,d0,e,dts (S.drop b),pG (P++[a]),J,I++[t]))):=by
 have fin:∀(t:TI) (a b:Nat),b<=S.length->(ob (aD 20000000 [44] S (b:Int)) (u3 λn g k=>(cond n (some (.inl ([c],g,k,K,e,(pG P++([(a:Int)]:List (Int))),J,(I++([t]:List TI))))) (ob (aD 20000000 [46,46] g k) (u3 λo i l=>(cond o (some (.inr (.inr ([c],i,l,0,d0,0,d0,0,d0,false,false,K,d0,0,d0,0,d0,e,true,(pG P++([(a:Int)]:List (Int))),J,(I++([t]:List TI)))))) (some (.inr (.inr ([c],i,l,0,d0,0,d0,0,d0,false,false,K,d0,0,d0,0,d0,e,false,(pG P++([(a:Int)]:List (Int))),J,(I++([t]:List TI))))))))))):Option ((aa×aa×Int×Int×Bool×List (Int)×List TI×List TI)⊕((Int×Int×aa×Int)⊕(aa×aa×Int×Int×TD×Int×TD×Int×TD×Bool×Bool×Int×TD×Int×TD×Int×TD×Bool×Bool×List (Int)×List TI×List TI)))) =
   some (if(S.drop b).head?=some 44 then .inl ([c],S,((b+1:Nat):Int),K,e,pG (P++[a]),J,I++[t])
    else .inr (.inr ([c],S,((if dts (S.drop b)then b+2 else b:Nat):Int),0,d0,0,d0,0,d0,false,false,K,d0,0,d0,0,d0,e,dts (S.drop b),pG (P++[a]),J,I++[t]))):=by
  intro t a b j;have y:pG (P++[a])=pG P++[(a:Int)]:=by simp[pG]
  rw[nO _ _ _ _ j (by omega),y];simp only[ob,u3,u2,tk1];by_cases hc:(S.drop b).head?=some 44
  ·rw[af hc,af hc];rfl
  ·rw[ae hc,ae hc];simp only[ah];rw[nO _ _ _ _ j (by omega)];cases d:dts (S.drop b)
   ·rw[ae (show¬(S.drop b).take [(46:UInt8),46].length=[46,46]fromλh=>by unfold dts at d;rw[show(S.drop b).take 2=[46,46]from h]at d;cases d)];rfl
   ·rw[af (show(S.drop b).take [(46:UInt8),46].length=[46,46]from eq_of_beq d)];rfl
 unfold fF;simp only[u8,u7,u6,u5,u4,u3,u2];rw[show(len I==256)=false from by show(((I.length:Nat):Int)==256)=false;simp;omega,ah,Hh S p h q];unfold qX;cases v:ek S p with
 | inl f=>rfl
 | inr r=>
  obtain⟨B,_,D,m⟩:=mD h v;rw[EA];simp only[obs,sm,ob];rw[show(d4 (d8 ((tdR r).1,(tdR r).2.1,(tdR r).2.2.1,(tdR r).2.2.2.1,(tdR r).2.2.2.2.1,(tdR r).2.2.2.2.2.1,(tdR r).2.2.2.2.2.2.1,(tdR r).2.2.2.2.2.2.2.1,(tdR r).2.2.2.2.2.2.2.2.1,(tdR r).2.2.2.2.2.2.2.2.2,((plR r:Nat):Int),S,((enR r:Nat):Int))))=((enR r:Nat):Int)from rfl,X7 c m];simp only[u11,u10,u9,u8,u7,u6,u5,u4,u3,u2];rw[WI _ c m q (λh=>by simp at h;exact h.1)];have u:(dts (S.drop (enR r))&&!decide ((S.drop (enR r+2)).head?=some c))=true↔(dts (S.drop (enR r))=true/\(S.drop (enR r+2)).head?≠some c):=by simp
  by_cases d:dts (S.drop (enR r))=true/\(S.drop (enR r+2)).head?≠some c
  ·rw[af (u.2 d),af d];cases x:ek S (enR r+2)with
   | inl f=>rfl
   | inr s=>
    obtain⟨A,_,l3,w⟩:=mD (so d.1) x;simp only[u12,u11,u10,u9,u8,u7,u6,u5,u4,u3,u2];rw[BC (by omega),BC (by simp;omega)];exact fin (mkI (tdR r) true (tdR s)) (plR r) (enR s) w
  ·rw[ae (λh=>d (u.1 h)),ae d];simp only[u12,u11,u10,u9,u8,u7,u6,u5,u4,u3,u2];rw[BC (by omega),BC (by simp;omega)];exact fin (mkI (tdR r) false d0) (plR r) (enR r) m
def Vh(c:UInt8)(S:aa)(p K:Int)(e:Bool)(P:List Int)(J:List TI){I:List TI}(a:I.length=256):
  fF 20000000 ([c],S,p,K,e,P,J,I)=some (.inr (.inl (p,3,S,p))):=by
 unfold fF;simp only[u8,u7,u6,u5,u4,u3,u2];rw[show(len I==256)=true from by show(((I.length:Nat):Int)==256)=true;rw[a];rfl];rfl
def Zp(S:aa)(c:UInt8)(K:Int)(e:Bool)(J:List TI):(Nat×Nat×Nat)⊕(Nat×List Nat×List TI)->(Int×Int×aa×Int)⊕(aa×aa×Int×Int×TD×Int×TD×Int×TD×Bool×Bool×Int×TD×Int×TD×Int×TD×Bool×Bool×List (Int)×List TI×List TI)
 | .inl f=>.inl ((f.1:Int),(f.2.1:Int),S,(f.2.2:Int))
 | .inr (p,P,I)=>.inr ([c],S,((if dts (S.drop p)then p+2 else p:Nat):Int),0,d0,0,d0,0,d0,false,false,K,d0,0,d0,0,d0,e,dts (S.drop p),pG P,J,I)
def Vj(c:UInt8){S:aa}(j:S.length<100000)(K:Int)(e:Bool)(J:List TI):∀(r p:Nat) (P:List Nat) (I:List TI),I.length+r=256->p<=S.length->P.length=I.length->∀N,r<N->
  av (fF 20000000) N ([c],S,(p:Int),K,e,pG P,J,I)=some (Zp S c K e J (oW S c r p P I)):=by
 intro r
 induction r with
 | zero=>
  intro p P I g hp b N i;obtain⟨N,rfl⟩:∃k,N=k+1:=⟨N - 1,by omega⟩;rw[av,Vh c S _ K e _ J (by omega)];rfl
 | succ r ih=>
  intro p P I g hp b N i;obtain⟨N,rfl⟩:∃k,N=k+1:=⟨N - 1,by omega⟩;rw[av,VC c hp j K e J (by omega) b,oW];cases h:qX S c p with
  | inl f=>rfl
  | inr q=>
   obtain⟨t,a,d⟩:=q;obtain⟨_,m,l⟩:=D3 hp h;simp only[];by_cases hc:(S.drop d).head?=some 44
   ·rw[af hc,af hc];exact ih (d+1) (P++[a]) (I++[t]) (by simp;omega) (jA hc) (by simp[b]) N (by omega)
   ·rw[ae hc,ae hc];rfl
def yh{X a Y b:Type}{s:X->Option (X⊕Y)}{s':a->Option (a⊕b)}(f:X->a)(g:Y->b)(h:∀x,s' (f x)=(s x).map (Sum.map f g)):∀(n:Nat) (x:X),av s' n (f x)=(av s n x).map g
 | 0,_=>rfl
 | n+1,x=>by
  rw[av,av,h];cases s x with
  | none=>rfl
  | some z=>
   cases z with
   | inl y=>exact yh f g h n y
   | inr y=>rfl
def Ur(n:Nat)(K:Int)(D:TD)(KF:Int)(DF:TD)(KT:Int)(DT:TD)(c:Nat)(e l:Bool)(L:List TI):nV n K D KF DF KT DT L.length c e l L=mc n K D KF DF KT DT e l L:=by
 unfold nV mc;have:=yh (s:=fK n) (s':=kI n) (u12 λx0 f d g m h j k p o a b=>(d.length,c,x0,f,d,g,m,h,j,k,p,d.length,c,o,a,b)) id (by
  rintro⟨x0,f,d,g,m,h,j,k,p,o,a,b⟩;unfold fK kI;simp only[u16,u15,u14,u13,u12,u11,u10,u9,u8,u7,u6,u5,u4,u3,u2];cases decide (f<x0)
  ·rfl
  ·simp only[aj];cases ix d.length f with
   | none=>rfl
   | some i=>
    simp only[ob];cases d[i]? with
    | none=>rfl
    | some t=>
     simp only[ob];cases gj n (iF t) (d8 t).2.2.1 (d8 t).2.2.2 g with
     | none=>rfl
     | some v=>
      simp only[ob];rw[show nz n v 10 10 10 (iF t) (d8 t).2.2.1 (d8 t).2.2.2 g m h j k p d.length c o a f b d=gK n v 10 10 10 (iF t) (d8 t).2.2.1 (d8 t).2.2.2 g m h j k p o a f b d from rfl];cases gK n v 10 10 10 (iF t) (d8 t).2.2.1 (d8 t).2.2.2 g m h j k p o a f b d with
      | none=>rfl
      | some z=>
       simp only[ob];cases(z != 0)<;>rfl) n (len L,0,L,K,D,KF,DF,KT,DT,e,l,w64 (len L - 1))
 simp only[u12,u11,u10,u9,u8,u7,u6,u5,u4,u3,u2]at this;rw[show(L.length,c,((L.length:Nat):Int),(0:Int),L,K,D,KF,DF,KT,DT,L.length,c,e,l,w64 (((L.length:Nat):Int) - 1))=(L.length,c,len L,0,L,K,D,KF,DF,KT,DT,L.length,c,e,l,w64 (len L - 1))from rfl,this];rw[Option.map_id];rfl
def NY(n:Nat)(K:Int)(D:TD)(KF:Int)(DF:TD)(KT:Int)(DT:TD)(c:Nat)(e l:Bool)(L:List TI):gn n K D KF DF KT DT L.length c e l L=mw n K D KF DF KT DT e l L:=by
 unfold gn mw;rw[Ur,show o5 n K D KF DF KT DT L.length c e l L=mM n K D KF DF KT DT e l L from rfl]
def Kz{K:Int}{D:TD}{KF:Int}{DF:TD}{KT:Int}{DT:TD}{e l:Bool}{L:List TI}(h:smE D DF DT L)(c:Nat):
  gn 20000000 K D KF DF KT DT L.length c e l L=some (iE K D KF DF KT DT e l L):=(NY _ _ _ _ _ _ _ _ _ _ _).trans (H5 h)
noncomputable def setE(K:Int)(e l:Bool)(I:List TI):Int×Int:=iE K d0 0 d0 0 d0 e l I
noncomputable def endL(S:aa)(K:Int)(e:Bool)(p:Nat)(P:List Nat)(I:List TI):(Nat×Nat×Nat)⊕(Int×Bool×Bool×List TI×Nat):=
 if(S.drop (if dts (S.drop p)then p+2 else p)).head?=some (endC K)then
  if(setE K e (dts (S.drop p)) I).2=0 then .inr (K,e,dts (S.drop p),I,(if dts (S.drop p)then p+2 else p)+1)
  else .inl (P.getD (setE K e (dts (S.drop p)) I).1.toNat 0,10,(if dts (S.drop p)then p+2 else p)+1)
 else .inl ((if dts (S.drop p)then p+2 else p),5,(if dts (S.drop p)then p+2 else p))
noncomputable def zy(S:aa)(a:Nat)(K:Int):(Nat×Nat×Nat)⊕(Int×Bool×Bool×List TI×Nat):=
 match oW S (endC K) 256 (if dts (S.drop (a+1))then a+3 else a+1) [] []with
 | .inl f=>.inl f
 | .inr (p,P,I)=>endL S K (dts (S.drop (a+1))) p P I
noncomputable def vb(S:aa)(a:Nat):(Nat×Nat×Nat)⊕(Int×Bool×Bool×List TI×Nat):=
 if(S.drop a).head?=some 91 then zy S a 3 else if(S.drop a).head?=some 123 then zy S a 4 else .inl (a,5,a)
def TT{K:Int}(b:K=3\/K=4){e l:Bool}{I:List TI}(a:1<=I.length):∃i:Nat,(setE K e l I).1=(i:Int)/\i<I.length:=by
 have hi:∃i:Nat,(xF K e l I).1=(i:Int)/\i<I.length:=by
  unfold xF;have:∀(J:List TI) (k:Nat) (p:Nat×Int),pB (errI K e l I.length) k J=some p->p.1<k+J.length:=by
   intro J
   induction J with
   | nil=>intro k p h;cases h
   | cons t r ih=>
    intro k p h;rw[pB]at h;split at h
    ·cases h;simp
    ·have:=ih (k+1) p h;simp;omega
  cases hs:pB (errI K e l I.length) 0 I with
  | none=>exact⟨0,rfl,by omega⟩
  | some p=>exact⟨p.1,rfl,by have:=this I 0 p hs;omega⟩
 unfold setE iE;rw[ae (by omega)];split
 ·exact⟨0,rfl,by omega⟩
 ·rw[ae (by omega),ae (by omega),ae (by omega)];split
  ·exact⟨0,rfl,by omega⟩
  ·exact hi
def U5{I:List TI}(h:∀t∈I,smI t):smE d0 d0 d0 I:=⟨mq,mq,mq,h⟩
def Yl(n:Nat)(I:List TI):bM n I=some (I.length,I.length):=by
 unfold bM;rw[ef (bg _)];show ob (bx I.length ((I.length:Nat):Int)) _=_;rw[ef (bg _)];rfl
def Ul(S:aa):(Nat×Nat×Nat)⊕(Int×Bool×Bool×List TI×Nat)->(Int×Int×aa×Int)⊕(Int×TD×Int×TD×Int×TD×Nat×Nat×Bool×Bool×aa×Int×List TI)
 | .inl f=>.inl ((f.1:Int),(f.2.1:Int),S,(f.2.2:Int))
 | .inr (K,e,l,I,p)=>.inr (K,d0,0,d0,0,d0,I.length,I.length,e,l,S,(p:Int),I)
def W0 {S:aa} (E:S.length<100000) {K:Int} (D:K=3\/K=4) (e:Bool) {p:Nat} (hp:p<=S.length) {P:List Nat} {I:List TI} (G:P.length=I.length) (y:1<=I.length) (hs:∀t∈I,smI t):
  (obs (cg 20000000 [endC K] S ((if dts (S.drop p) then p+2 else p:Nat):Int)) (u2 λb c=>(ob (bM 20000000 I) (u2 λf d=>(ob (gn 20000000 K d0 0 d0 0 d0 f d e (dts (S.drop p)) I) (u2 λk w=>(cond (w != 0) (ob (ix (List.length (pG P)) k) λj=>(ob ((pG P)[j]?) λs=>(ob (aS 20000000 s 10 b c) (u2 λv u=>(some (.inl (v,u,b,c))))))) (some (.inr (K,d0,0,d0,0,d0,f,d,e,(dts (S.drop p)),b,c,I))))))))) (u4 λm x o n=>(some (.inl (m,x,o,n))))) =
   some (Ul S (endL S K e p P I)):=by
 have A:(if dts (S.drop p) then p+2 else p:Nat)<=S.length:=by
  split
  ·rename_i h;exact so h
  ·exact hp
 unfold endL;generalize (if dts (S.drop p) then p+2 else p:Nat)=q at *;generalize dts (S.drop p)=l;rw [CL _ _ _ _ A (by omega) (by simp) (by simp)];simp only [tk1];by_cases hc:(S.drop q).head?=some (endC K)
 ·rw [af hc,af hc];simp only [obs,sm,ob,u2,Yl,Kz (U5 hs)];obtain ⟨i,z,F⟩:=TT D (e:=e) (l:=l) y;show cond ((setE K e l I).2 != 0) (ob (ix (pG P).length (setE K e l I).1) _) _=_;by_cases g:(setE K e l I).2=0
  ·rw [af g,show ((setE K e l I).2 != 0)=false from by simp [g]];rfl
  ·have hi:i<(pG P).length:=by simp [pG];omega
   rw [ae g,show ((setE K e l I).2 != 0)=true from by simp [g],z,cG hi];have C:(pG P)[i]?=some ((P.getD i 0:Nat):Int):=by
    have hi':i<P.length:=by omega
    simp [pG,bq hi']
   simp only [aj,ob,C];rfl
 ·rw [ae hc,ae hc];have:lcp (S.drop q) [endC K]=0:=by
   cases B:S.drop q with
   | nil=>rfl
   | cons a r=>
    rw [B] at hc;simp only [lcp];rw [show (a==endC K)=false from by rw [aL];rintro rfl;exact hc rfl];rfl
  rw [this];rfl
def UH{S:aa}{a:Nat}(h:a<=S.length)(hS:S.length<100000):n9 20000000 S (a:Int)=some (Ul S (vb S a)):=by
 have b:∀(K:Int) (z:K=3\/K=4) (j:a+1<=S.length),(ob (n6 20000000 (K==4) S ((a+1:Nat):Int) ([]:List TI) ([]:List TI)) (u5 λv7 v8 v9 F J=>(ob (eT 20000000 v9) (u2 λ_ D=>(ob (aD 20000000 [46,46] v7 v8) (u3 λN C E=>(obs (av (fF 20000000) 20000000 (D,C,E,v9,N,([]:List (Int)),F,J)) (u4 λB G U v19=>(some (.inl (B,G,U,v19)))) (u22 λQ X V _ _ _ _ _ _ _ _ m s n y w x u o l _ e=>(obs (cg 20000000 Q X V) (u2 λd g=>(ob (bM 20000000 e) (u2 λv k=>(ob (gn 20000000 m s n y w x v k u o e) (u2 λL v38=>(cond (v38 != 0) (ob (ix (List.length l) L) λA=>(ob (l[A]?) λY=>(ob (aS 20000000 Y 10 d g) (u2 λv41 Z=>(some (.inl (v41,Z,d,g))))))) (some (.inr (m,s,n,y,w,x,v,k,u,o,d,g,e))))))))) (u4 λM v44 T R=>(some (.inl (M,v44,T,R))))))))))))) =
   some (Ul S (zy S a K)):=by
  intro K z j;have hj:n6 20000000 (K==4) S ((a+1:Nat):Int) ([]:List TI) ([]:List TI)=some (S,((a+1:Nat):Int),K,[],[]):=by
   rcases z with rfl | rfl<;>rfl
  have O:aD 20000000 [46,46] S ((a+1:Nat):Int)=some (dts (S.drop (a+1)),S,((if dts (S.drop (a+1))then a+3 else a+1:Nat):Int)):=by
   rw[nO _ _ _ _ j (by omega)];cases i:dts (S.drop (a+1))
   ·rw[ae (show¬(S.drop (a+1)).take [(46:UInt8),46].length=[46,46]fromλh=>by unfold dts at i;rw[show(S.drop (a+1)).take 2=[46,46]from h]at i;cases i)];rfl
   ·rw[af (show(S.drop (a+1)).take [(46:UInt8),46].length=[46,46]from eq_of_beq i)];rfl
  have hp:(if dts (S.drop (a+1))then a+3 else a+1:Nat)<=S.length:=by
   split
   ·rename_i h;have:=so h;omega
   ·exact j
  have hl:=Vj (endC K) hS K (dts (S.drop (a+1))) [] 256 (if dts (S.drop (a+1))then a+3 else a+1) [] [] (by simp) hp rfl 20000000 (by omega);simp only[hj,ye z,O,ob,u5,u4,u3,u2];rw[show av (fF 20000000) 20000000 ([endC K],S,((if dts (S.drop (a+1))then a+3 else a+1:Nat):Int),K,dts (S.drop (a+1)),([]:List Int),([]:List TI),([]:List TI))=_ from hl];unfold zy;cases hr:oW S (endC K) 256 (if dts (S.drop (a+1))then a+3 else a+1) [] []with
  | inl f=>rfl
  | inr q=>
   obtain⟨p,P,I⟩:=q;obtain⟨q1,q2,q3,q4,q5⟩:=xa 256 _ [] [] hp rfl (λt O=>by cases O) hr;have q3':1<=I.length:=by rw[aX]at q3;omega
   exact W0 hS z (dts (S.drop (a+1))) q1 q2 q3' q5
 unfold n9 vb;rw[B9 _ _ _ _ h (by omega)];cases i:S.drop a with
 | nil=>rfl
 | cons c r=>
  have j:a+1<=S.length:=by
   have:=cT List.length i;simp at this;omega
  simp only[pA,ar];by_cases H:c=91
  ·subst H;rw[af rfl];exact b 3 (.inl rfl) j
  ·by_cases W:c=123
   ·subst W;rw[af rfl];exact b 4 (.inr rfl) j
   ·rw[ae H,ae W];have:hasB [91,123] c=false:=by
     unfold hasB;simp only[vV,List.any_nil,Ie,qZ,aL];exact⟨λh=>H h.symm,λh=>W h.symm⟩
    rw[this];rfl
def rat(l:aa):Nat:=match l with | c::_=>c.toNat | []=>0
def XO(l:aa)(c:UInt8)(hc:c≠0):(((rat l:Nat):Int)==((c.toNat:Nat):Int))=decide (l.head?=some c):=by
 cases l with
 | nil=>
  rw[aw (by simp)];rw[aL];intro h;have b:c.toNat=0:=by
   have:((0:Nat):Int)=((c.toNat:Nat):Int):=h;omega
  exact hc (iL.1 (by rw[b];rfl))
 | cons a r=>
  show(((a.toNat:Nat):Int)==((c.toNat:Nat):Int))=_;rw[AU];rw[uJ];simp
def KG{S:aa}{d:UInt8}{p:Nat}(h:p<=S.length){f:Nat×Nat×Nat}(a:qX S d p=.inl f):f.2.1≠0:=by
 unfold qX at a;cases b:ek S p with
 | inl g=>rw[b]at a;cases a;exact xZ (k:=f.1) (E:=f.2.1) (p:=f.2.2) h b
 | inr r=>
  rw[b]at a;simp only[]at a;split at a
  ·rename_i e;cases c:ek S (enR r+2)with
   | inl g=>rw[c]at a;cases a;exact xZ (k:=f.1) (E:=f.2.1) (p:=f.2.2) (so e.1) c
   | inr i=>rw[c]at a;cases a
  ·cases a
def AE{S:aa}{c:UInt8}:∀(r p:Nat) (P:List Nat) (I:List TI),p<=S.length->∀{f:Nat×Nat×Nat},oW S c r p P I=.inl f->f.2.1≠0
 | 0,p,P,I,_,f,e=>by cases e;simp
 | r+1,p,P,I,h,f,e=>by
  rw[oW]at e;cases b:qX S c p with
  | inl g=>rw[b]at e;cases e;exact KG h b
  | inr q=>
   obtain⟨t,a,d⟩:=q;rw[b]at e;simp only[]at e;split at e
   ·rename_i i;exact AE r (d+1) _ _ (jA i) e
   ·cases e
structure SetOK(S:aa)(K:Int)(e l:Bool)(I:List TI)(p:Nat):Prop where
 kind:K=3\/K=4
 sm:∀t∈I,smI t
 ok:(setE K e l I).2=0
 one:1<=I.length
 most:I.length<=256
 le:p<=S.length
def QQ{S:aa}{a:Nat}(h:a<=S.length){K:Int}{e l:Bool}{I:List TI}{p:Nat}(b:vb S a=.inr (K,e,l,I,p)):SetOK S K e l I p:=by
 have c:∀g:Int,g=3\/g=4->a+1<=S.length->zy S a g=.inr (K,e,l,I,p)->SetOK S K e l I p:=by
  intro g j n b;unfold zy at b;have hp:(if dts (S.drop (a+1))then a+3 else a+1:Nat)<=S.length:=by
   split
   ·rename_i h;have:=so h;omega
   ·exact n
  cases d:oW S (endC g) 256 (if dts (S.drop (a+1))then a+3 else a+1) [] []with
  | inl f=>rw[d]at b;cases b
  | inr q=>
   obtain⟨i,P,J⟩:=q;obtain⟨v,w,s,o,k⟩:=xa 256 _ [] [] hp rfl (λt m=>by cases m) d;rw[d]at b;simp only[]at b;unfold endL at b;generalize(if dts (S.drop i)then i+2 else i:Nat)=u at b;split at b
   ·rename_i hc;split at b
    ·rename_i r;cases b;rw[aX]at s o;exact⟨j,k,r,by omega,by omega,jA hc⟩
    ·cases b
   ·cases b
 unfold vb at b;split at b
 ·rename_i d;exact c 3 (.inl rfl) (jA d) b
 ·split at b
  ·rename_i d;exact c 4 (.inr rfl) (jA d) b
  ·cases b
def EW{S:aa}{a:Nat}(h:a<=S.length){f:Nat×Nat×Nat}(b:vb S a=.inl f):f.2.1≠0:=by
 have c:∀i:Int,a+1<=S.length->zy S a i=.inl f->f.2.1≠0:=by
  intro i j b;unfold zy at b;have hp:(if dts (S.drop (a+1))then a+3 else a+1:Nat)<=S.length:=by
   split
   ·rename_i h;have:=so h;omega
   ·exact j
  cases d:oW S (endC i) 256 (if dts (S.drop (a+1))then a+3 else a+1) [] []with
  | inl g=>rw[d]at b;cases b;exact AE 256 _ _ _ hp d
  | inr q=>
   obtain⟨e,P,J⟩:=q;rw[d]at b;simp only[]at b;unfold endL at b;generalize(if dts (S.drop e)then e+2 else e:Nat)=k at b;split at b
   ·split at b
    ·cases b
    ·cases b;simp
   ·cases b;simp
 unfold vb at b;split at b
 ·rename_i d;exact c 3 (jA d) b
 ·split at b
  ·rename_i d;exact c 4 (jA d) b
  ·cases b;simp
noncomputable def DZ(S:aa):(Nat×Nat)⊕(Int×Bool×Bool×List TI):=match vb S 0 with
 | .inl f=>.inl (f.1,f.2.1)
 | .inr (K,e,l,I,p)=>if p<S.length then .inl (p,5)else .inr (K,e,l,I)
def brk(c:UInt8):Bool:=c==33||c==44||c==46||c==47||c==91||c==93||c==123||c==125
def UD:∀c,(!brk c||(!isYC c&&(!isMk c&&(!(c==45)&&!isDX c))))=true:=jG (λc=>!brk c||(!isYC c&&(!isMk c&&(!(c==45)&&!isDX c)))) (by decide +kernel)
def HT{c:UInt8}(h:brk c=true):isYC c=false/\isMk c=false/\(c==45)=false/\isDX c=false:=by
 have:=UD c;rw[h]at this;simpa[aA]using this
def X1{c:UInt8}(h:isDX c=true):brk c=false:=by
 cases a:brk c
 ·rfl
 ·rw[(HT a).2.2.2]at h;cases h
def endT(l:aa):Prop:=∀c,l.head?=some c->brk c=true
def Pe{l:aa}(h:endT l):cV isYC l/\cV isMk l/\cV (λc=>c==45) l:=⟨λc hc=>(HT (h c hc)).1,λc hc=>(HT (h c hc)).2.1,λc hc=>(HT (h c hc)).2.2.1⟩
def BZ:endT []:=λc h=>by cases h
def rD{c:UInt8}{l:aa}(h:brk c=true):endT (c::l):=λa b=>by
 simp only[pA,ar]at b;rw[<-b];exact h
def Ed{g l:Bool}{d:aa}{x s:Nat}(h:okY g l d (x:Int) (s:Int))(r:aa):cV brk (gB g l d (x:Int) (s:Int)++r):=by
 have a:d≠[]:=by
  have:=(jb h).2.2.2.2.1;rintro rfl;simp at this
 rw[kM];cases l with
 | true=>exact eI (by decide)
 | false=>
  cases g with
  | true=>exact eI (by decide)
  | false=>
   simp only[bU,aG,dQ,fa];exact wy a (Oy h) (λc=>X1)
def gP(x:TD):aa:=qG x.1 x.2.1 x.2.2.1 x.2.2.2.1 x.2.2.2.2.1 x.2.2.2.2.2.1 x.2.2.2.2.2.2.1 x.2.2.2.2.2.2.2.1.toNat x.2.2.2.2.2.2.2.2.1.toNat x.2.2.2.2.2.2.2.2.2.toNat
def lG{x:TD}(hs:smT x)(hc:cF x=0):∃(g l:Bool) (dg:aa) (e q:Nat) (m d:aa) (a b c:Nat),x=(g,l,dg,(e:Int),(q:Int),m,d,(a:Int),(b:Int),(c:Int))/\OkD g l dg e q m d a b c:=by
 have h:=lI hc;obtain⟨g,l,dg,e,q,m,d,k0,k1,k2⟩:=x;obtain⟨r,p,a,b,c,f,k,i,n,j,o⟩:=EH hs.2.2.2.1 hs.2.2.2.2.1 hs.2.2.2.2.2 h;simp only at f k i n j;subst f k i n j;exact⟨_,_,_,_,_,_,_,_,_,_,rfl,o⟩
def dfT{x:TD}(hs:smT x)(hc:cF x=0):ap10 (cQ 20000000) x=some (gP x,0):=by
 have:=Ix 19999700 x.1 x.2.1 x.2.2.1 x.2.2.2.1 x.2.2.2.2.1 x.2.2.2.2.2.1 x.2.2.2.2.2.2.1 x.2.2.2.2.2.2.2.1 x.2.2.2.2.2.2.2.2.1 x.2.2.2.2.2.2.2.2.2 hs.1 hs.2.1 hs.2.2.2.1 hs.2.2.2.2.1 hs.2.2.2.2.2;rw[af (lI hc)]at this;exact this
def rfT{x:TD}(hs:smT x)(hc:cF x=0):ap10 (cL 20000000) x=some (gP x):=
 EI 19999700 hs.2.2.2.1 hs.2.2.2.2.1 hs.2.2.2.2.2 (lI hc)
def lR{x:TD}(hs:smT x)(hc:cF x=0):(gP x).length<=37:=by
 obtain⟨g,l,dg,e,q,m,d,a,b,c,rfl,ok⟩:=lG hs hc;exact Nw ok
def oH{x:TD}(hs:smT x)(hc:cF x=0)(r:aa):cV brk (gP x++r):=by
 obtain⟨g,l,dg,e,q,m,d,a,b,c,rfl,ok⟩:=lG hs hc;show cV brk (qG g l dg (e:Int) (q:Int) m d a b c++r);unfold qG cD;rw[fa,fa,fa];exact Hr _ (by decide) (by decide) (by decide) (Ed ok.yr _)
def pI{l:aa}(h:cV brk l):dts l=false:=by
 cases a:dts l
 ·rfl
 ·obtain⟨r,rfl⟩:=xG.1 a;exact absurd (h 46 rfl) (by decide)
def AK{x:TD}(hs:smT x)(hc:cF x=0){S:aa}{a:Nat}{post:aa}(h:S.drop a=gP x++post)(hp:endT post):∃r,ek S a=.inr r/\tdR r=x/\enR r=a+(gP x).length:=by
 obtain⟨g,l,dg,e,q,m,d,k0,k1,k2,rfl,ok⟩:=lG hs hc;obtain⟨f,i,j⟩:=Pe hp;obtain⟨P,c⟩:=KA ok (S:=S) (a:=a) (post:=post) h f i j;refine⟨(g,l,dg,e,q,m,d,(k0,k1,k2),P,a+(qG g l dg (e:Int) (q:Int) m d k0 k1 k2).length),?_,rfl,rfl⟩;unfold ek;rw[c];have b:chkR (g,l,dg,e,q,m,d,(k0,k1,k2),P,a+(qG g l dg (e:Int) (q:Int) m d k0 k1 k2).length)=0:=by
  unfold chkR;simp only[];have:chkF g l dg (e:Int) (q:Int) m d (k0:Int) (k1:Int) (k2:Int)=0:=hc;rw[this];rfl
 simp only[];rw[af b]
structure OkI(t:TI):Prop where
 sm:smI t
 a:cF (iF t)=0
 b:rT t=true->cF (iT t)=0
 n:rT t=false->iT t=d0
def du(t:TI):aa:=if rT t then gP (iF t)++([46,46]++gP (iT t))else gP (iF t)
def xX{t:TI}(h:OkI t):(du t).length<=76:=by
 have d:=lR h.sm.1 h.a;unfold du;split
 ·rename_i c;have e:=lR h.sm.2 (h.b c);simp only[aH,aC,aX];omega
 ·omega
def Na{t:TI}(h:OkI t)(r:aa):cV brk (du t++r):=by
 unfold du;split
 ·rw[fa];exact oH h.sm.1 h.a _
 ·exact oH h.sm.1 h.a _
def yu{t:TI}(ok:OkI t){e:UInt8}(g:brk e=true){S:aa}{p:Nat}{post:aa}(h:S.drop p=du t++post)(hp:endT post)(w:dts post=true->(post.drop 2).head?=some e):
  ∃a,qX S e p=.inr (t,a,p+(du t).length):=by
 unfold du at h ⊢;unfold qX;cases c:rT t with
 | true=>
  rw[c,af rfl,fa,fa]at h;obtain⟨r,i,j,f⟩:=AK ok.sm.1 ok.a h (rD (by decide));have d:S.drop (enR r)=[46,46]++(gP (iT t)++post):=by rw[f];exact gZ h
  have m:S.drop (enR r+2)=gP (iT t)++post:=gZ (u:=[46,46]) d;have y:dts (S.drop (enR r))=true:=by rw[d];rfl
  have o:(S.drop (enR r+2)).head?≠some e:=by
   rw[m];intro q;have:=oH ok.sm.2 (ok.b c) post e q;rw[g]at this;cases this
  obtain⟨z,v,s,x⟩:=AK ok.sm.2 (ok.b c) m hp;refine⟨plR r,?_⟩;rw[i];simp only[];rw[af ⟨y,o⟩,v];simp only[aQ];rw[j,s,x,f];have:mkI (iF t) true (iT t)=t:=by rw[<-c]
  rw[this];have:p+(gP (iF t)).length+2+(gP (iT t)).length=p+(gP (iF t)++([46,46]++gP (iT t))).length:=by simp only[aH,aC,aX];omega
  rw[this]
 | false=>
  rw[c]at h;simp only[bU,aG]at h;obtain⟨r,i,j,f⟩:=AK ok.sm.1 ok.a h hp;have d:S.drop (enR r)=post:=by rw[f];exact gZ h
  refine⟨plR r,?_⟩;rw[i];simp only[];rw[ae,j,f]
  ·have:mkI (iF t) false d0=t:=by rw[<-c,<-ok.n c]
   rw[this];simp only[bU,aG]
  ·rintro⟨k,l⟩;rw[d]at k;rw[<-kZ,d]at l;exact l (w k)
def lT(I:List TI):aa:=(I.map λt=>44::du t).flatten
def xn{f:UInt8}(c:brk f=true)(b:f≠44){post:aa}(hp:endT post)(d:post.head?≠some 44)(k:dts post=true->(post.drop 2).head?=some f):∀(I:List TI) (t:TI) (r p:Nat) {S:aa} (P:List Nat) (J:List TI),OkI t->(∀u∈I,OkI u)->I.length<r->S.drop p=du t++(lT I++post)->
  ∃i,oW S f r p P J=.inr (p+(du t++lT I).length,i,J++t::I)
 | [],t,r+1,p,S,P,J,ok,_,j,h=>by
  obtain⟨a,g⟩:=yu ok c (post:=post) (by simpa[lT]using h) hp k;refine⟨P++[a],?_⟩;rw[oW,g];simp only[];have e:S.drop (p+(du t).length)=post:=gZ (by simpa[lT]using h);rw[e,ae d];simp[lT]
 | u::I,t,r+1,p,S,P,J,ok,oks,j,h=>by
  have n:lT (u::I)++post=44::(du u++(lT I++post)):=by simp[lT]
  rw[n]at h
  obtain⟨a,g⟩:=yu ok c (post:=44::(du u++(lT I++post))) h (rD (by decide)) (λq=>by
   obtain⟨r,l⟩:=xG.1 q;cases l)
  have e:S.drop (p+(du t).length)=44::(du u++(lT I++post)):=gZ h;have o:S.drop (p+(du t).length+1)=du u++(lT I++post):=gZ (u:=[44]) e;obtain⟨i,s⟩:=xn c b hp d k I u r (p+(du t).length+1) (P++[a]) (J++[t]) (oks u nl) (λv m=>oks v (fV _ m)) (by simp at j;omega) o;refine⟨i,?_⟩;rw[oW,g];simp only[];rw[e,pA,af rfl,s];have:p+(du t).length+1+(du u++lT I).length=p+(du t++lT (u::I)).length:=by simp[lT];omega
  rw[this];simp
def sg(K:Int)(e l:Bool)(I:List TI):aa:=
 (if K=4 then 123 else 91)::((if e then[46,46]else[])++(Lib.join (I.map du) [44]++((if l then[46,46]else[])++[endC K])))
def En(t:TI)(I:List TI):Lib.join ((t::I).map du) [44]=du t++lT I:=by
 rw[gJ,Lib.join_cons];unfold Lib.joinTail lT;rw[uh];rfl
def KO{K:Int}(B:K=3\/K=4){e l:Bool}{I:List TI}(q:1<=I.length)(y:I.length<=256)(ok:∀t∈I,OkI t)(C:(setE K e l I).2=0){S:aa}{a:Nat}{post:aa}(h:S.drop a=sg K e l I++post):
  vb S a=.inr (K,e,l,I,a+(sg K e l I).length):=by
 obtain⟨t,J,rfl⟩:∃t J,I=t::J:=by
  cases I with
  | nil=>simp at q
  | cons t J=>exact⟨t,J,rfl⟩
 have f:brk (endC K)=true:=by unfold endC;split<;>decide
 have c:endC K≠44:=by unfold endC;split<;>decide
 have g:endC K≠46:=by unfold endC;split<;>decide
 unfold sg at h ⊢;rw[En]at h ⊢;have k:S.drop (a+1)=(if e then[46,46]else[])++((du t++lT J)++((if l then[46,46]else[])++(endC K::post))):=by
  have:=gZ (u:=[if K=4 then 123 else 91]) (v:=((if e then[46,46]else[])++((du t++lT J)++((if l then[46,46]else[])++[endC K])))++post) (by rw[h];rfl);rw[show a+1=a+[if K=4 then(123:UInt8)else 91].length from rfl,this];simp only[fa,List.singleton_append]
 have p:dts (S.drop (a+1))=e:=by
  rw[k];cases e
  ·simp only[bU,aG,dQ];rw[fa];exact pI (Na (ok t nl) _)
  ·rfl
 have n:S.drop (if e then a+3 else a+1)=du t++(lT J++((if l then[46,46]else[])++(endC K::post))):=by
  rw[<-fa];cases e
  ·simpa using k
  ·have:=gZ (u:=[46,46]) k;simpa using this
 have x:endT ((if l then[46,46]else[])++(endC K::post)):=by
  cases l
  ·exact rD f
  ·exact rD (by decide)
 have m:((if l then[46,46]else[])++(endC K::post)).head?≠some 44:=by
  cases l
  ·simp[c]
  ·simp
 have d:dts ((if l then[46,46]else[])++(endC K::post))=l:=by
  cases l
  ·cases i:dts ((if false then[46,46]else[])++(endC K::post))
   ·rfl
   ·obtain⟨r,o⟩:=xG.1 i;simp at o;exact absurd o.1 g
  ·rfl
 obtain⟨P,z⟩:=xn f c x m (λi=>by rw[d]at i;subst i;rfl) J t 256 (if e then a+3 else a+1) [] [] (ok t nl) (λu A=>ok u (fV _ A)) (by simp at y;omega) n;have j:S.drop ((if e then a+3 else a+1)+(du t++lT J).length)=(if l then[46,46]else[])++(endC K::post):=by
  apply gZ;rw[n,fa]
 have b:zy S a K=.inr (K,e,l,t::J,a+(((if K=4 then 123 else 91)::((if e then[46,46]else[])++((du t++lT J)++((if l then[46,46]else[])++[endC K]))):aa).length)):=by
  unfold zy;rw[p,z];simp only[dQ];unfold endL;rw[j,d];generalize w:(if e then a+3 else a+1)+(du t++lT J).length=X at j ⊢;have D:S.drop (if l then X+2 else X)=endC K::post:=by
   cases l
   ·simpa using j
   ·have:=gZ (u:=[46,46]) j;simpa using this
  rw[D,pA,af rfl,af C];have:(if l then X+2 else X)+1=a+(((if K=4 then 123 else 91)::((if e then[46,46]else[])++((du t++lT J)++((if l then[46,46]else[])++[endC K]))):aa).length):=by
   rw[<-w];cases e<;>cases l<;>simp<;>omega
  rw[this]
 unfold vb;have s:(S.drop a).head?=some (if K=4 then 123 else 91):=by rw[h];rfl
 rw[s];rcases B with rfl | rfl
 ·rw[af (show some (if(3:Int)=4 then(123:UInt8)else 91)=some 91 from rfl)];exact b
 ·rw[ae (show¬some (if(4:Int)=4 then(123:UInt8)else 91)=some 91 by decide),af (show some (if(4:Int)=4 then(123:UInt8)else 91)=some 123 from rfl)];exact b
def zp{x y:TD}{r all:Bool}(h:itE x r y all=0):cF x=0/\(r=true->cF y=0)/\(r=false->y=d0)/\itE x r y false=0:=by
 by_cases hc:cF x=0
 ·refine⟨hc,?_⟩;cases r
  ·rw[QA hc]at h ⊢;have hy:eqD y d0=true:=by
    cases a:eqD y d0
    ·rw[a]at h;simp at h
    ·rfl
   exact⟨λh=>(by cases h),λ_=>fY.1 hy,by rw[hy];simp⟩
  ·by_cases hy:cF y=0
   ·rw[V1 hc hy]at h ⊢;have b:ordB x y=true:=by
     cases a:ordB x y
     ·rw[a]at h;simp at h
     ·rfl
    exact⟨λ_=>hy,λh=>(by cases h),by rw[b];simp⟩
   ·rw[XJ hc hy]at h;exact absurd h hy
 ·rw[Y2 hc]at h;exact absurd h hc
def VP{t:TI}{all:Bool}(hs:smI t)(h:itI t all=0):OkI t:=by
 obtain⟨a,b,c,_⟩:=zp h;exact⟨hs,a,b,c⟩
def Gf{x y:TD}(r:Bool)(hx:smT x)(hy:smT y):gO 20000000 x r y=some (if itE x r y false=0 then(du (mkI x r y),0)else([],itE x r y false)):=by
 unfold gO;rw[Hf r hx hy,af (.inl rfl),show((3:Int)==4)=false from rfl];simp only[ob];by_cases h:itE x r y false=0
 ·obtain⟨a,b,c,_⟩:=zp h;rw[af h,h,dfT hx a];simp only[fG,ah,u2];cases r
  ·rfl
  ·have e:=lR hx a;have d:=lR hy (b rfl);simp only[aj,dfT hy (b rfl)];rw[bI (by simp only[aC,aX];omega)];simp only[];rw[bI (by simp only[aH,aC,aX];omega)];rfl
 ·rw[ae h,show(itE x r y false != 0)=true from by simp[h]];rfl
def Lx{t:TI}(ok:OkI t):iD 20000000 (iF t) (rT t) (iT t)=some (du t):=by
 unfold iD du;rw[rfT ok.sm.1 ok.a];cases c:rT t
 ·rfl
 ·have e:=lR ok.sm.1 ok.a;have d:=lR ok.sm.2 (ok.b c);simp only[aj,ob,rfT ok.sm.2 (ok.b c)];rw[bI (by simp only[aC,aX];omega)];simp only[];rw[bI (by simp only[aH,aC,aX];omega)];simp only[aQ,fa]
def E9:∀{I:List TI},(∀t∈I,OkI t)->(lT I).length<=77*I.length
 | [],_=>by simp[lT]
 | t::I,h=>by
  have b:=xX (h t nl);have c:=E9 (I:=I) λu a=>h u (fV _ a);have:lT (t::I)=(44::du t)++lT I:=by simp[lT]
  rw[this];simp only[aH,aC];omega
def uM{I:List TI}(h:∀t∈I,OkI t):(Lib.join (I.map du) [44]).length<=77*I.length:=by
 cases I with
 | nil=>simp[Lib.join_nil]
 | cons t I=>
  have b:=xX (h t nl);have c:=E9 (I:=I) λu a=>h u (fV _ a);rw[En];simp only[aH,aC];omega
def MR{I:List TI}{i:Nat}{t:TI}(h:I[i]?=some t)(w:aa)(b:w=du t):((I.take i).map du++List.replicate (I.length - i) []).set i w=(I.take (i+1)).map du++List.replicate (I.length - (i+1)) []:=by
 have hi:i<I.length:=(pY.1 h).1;obtain⟨k,c⟩:∃k,I.length - i=k+1:=⟨I.length - i - 1,by omega⟩;have a:((I.take i).map du).length=i:=by simp;omega
 rw[c,tC,show I.length - (i+1)=k by omega,qJ,h,b];rw[List.set_append_right _ _ (by omega),a,Cd];simp
def O0{I:List TI}(hs:∀t∈I,OkI t/\itI t false=0)(h:I.length<=1000)(K:Int)(D:TD)(KF:Int)(DF:TD)(KT:Int)(DT:TD)(e l:Bool):∀(r i:Nat),i+r=I.length->∀N,r<N->
  av (ct 20000000) N (len I,(i:Int),I,K,D,KF,DF,KT,DT,e,l,(I.take i).map du++List.replicate (I.length - i) [])=some (I,K,D,KF,DF,KT,DT,e,l,I.map du):=by
 intro r
 induction r with
 | zero=>
  intro i hi N g;obtain⟨N,rfl⟩:∃k,N=k+1:=⟨N - 1,by omega⟩;obtain rfl:i=I.length:=by omega
  have:ct 20000000 (len I,((I.length:Nat):Int),I,K,D,KF,DF,KT,DT,e,l,(I.take I.length).map du++List.replicate (I.length - I.length) [])=some (.inr (I,K,D,KF,DF,KT,DT,e,l,I.map du)):=by
   unfold ct;simp only[u12,u11,u10,u9,u8,u7,u6,u5,u4,u3,u2];rw[aw (show¬((I.length:Nat):Int)<len I by show¬((I.length:Nat):Int)<((I.length:Nat):Int);omega),Cd,oq];simp
  rw[av,this]
 | succ r ih=>
  intro i hi N g;obtain⟨N,rfl⟩:∃k,N=k+1:=⟨N - 1,by omega⟩;have a:i<I.length:=by omega
  have b:I[i]?=some I[i]:=bq a;obtain⟨ok,c⟩:=hs _ (He a);generalize I[i]=t at b ok c;have f:((I.take i).map du++List.replicate (I.length - i) ([]:aa)).length=I.length:=by simp;omega
  have:ct 20000000 (len I,(i:Int),I,K,D,KF,DF,KT,DT,e,l,(I.take i).map du++List.replicate (I.length - i) [])=some (.inl (len I,((i+1:Nat):Int),I,K,D,KF,DF,KT,DT,e,l,(I.take (i+1)).map du++List.replicate (I.length - (i+1)) [])):=by
   unfold ct;simp only[u12,u11,u10,u9,u8,u7,u6,u5,u4,u3,u2];rw[au (show(i:Int)<len I by show(i:Int)<((I.length:Nat):Int);omega),cG a];simp only[aj,ob,b];rw[show gO 20000000 (iF t) (d8 t).2.2.1 (d8 t).2.2.2=some (du t,0)from(Gf (rT t) ok.sm.1 ok.sm.2).trans (by rw[af (show itE (iF t) (rT t) (iT t) false=0 from c)])];simp only[f];rw[cG a];simp only[];obtain⟨w,d⟩:∃w,((I.take i).map du++List.replicate (I.length - i) ([]:aa))[i]?=some w:=⟨_,bq (by omega)⟩;rw[d];simp only[u2];rw[MR b _ rfl,ox (by omega)]
  rw[av,this];exact ih (i+1) (by omega) N (by omega)
structure SetP(K:Int)(D:TD)(KF:Int)(DF:TD)(KT:Int)(DT:TD)(e l:Bool)(I:List TI):Prop where
 kind:K=3\/K=4
 d:D=d0
 kf:KF=0
 df:DF=d0
 kt:KT=0
 dt:DT=d0
 one:1<=I.length
 most:I.length<=256
 its:∀t∈I,itI t (K==4)=0
 set:(setE K e l I).2=0
def AO{A:Type}{f:Nat->A->Int}:∀{L:List A} {k:Nat},pB f k L=none->∀t∈L,∃i,f i t=0
 | u::L,k,h,t,a=>by
  rw[pB]at h;split at h
  ·cases h
  ·rename_i b;rcases cN.1 a with rfl | a
   ·exact⟨k,OA.1 b⟩
   ·exact AO h t a
def Ir{A:Type}{f:Nat->A->Int}:∀{L:List A} {k:Nat} {p:Nat×Int},pB f k L=some p->p.2≠0
 | u::L,k,p,h=>by
  rw[pB]at h;split at h
  ·rename_i a;cases h;exact a
  ·exact Ir h
def We{K:Int}{e l:Bool}{n i:Nat}{t:TI}(h:errI K e l n i t=0):itI t (K==4)=0:=by
 unfold errI at h;split at h
 ·rename_i a;exact absurd h a
 ·rename_i a;exact OA.1 a
def yd{K:Int}(g:K=3\/K=4){D:TD}{KF:Int}{DF:TD}{KT:Int}{DT:TD}{e l:Bool}{I:List TI}(h:(iE K D KF DF KT DT e l I).2=0):SetP K D KF DF KT DT e l I:=by
 have o:=h;unfold iE at h;rw[ae (by omega)]at h;split at h
 ·simp at h
 ·rename_i f;rw[ae (by omega),ae (by omega)]at h;split at h
  ·simp at h
  ·split at h
   ·simp at h
   ·unfold xF at h;have j:D=d0/\KF=0/\DF=d0/\KT=0/\DT=d0:=by
     unfold unuB at f;have k1:(K==1)=false:=by rcases g with rfl | rfl<;>rfl
     have k2:(K==2)=false:=by rcases g with rfl | rfl<;>rfl
     have k3:(K==3||(K==4||(decide (I.length=0)&&(!e&&!l))))=true:=by rcases g with rfl | rfl<;>rfl
     rw[k1,k2,k3]at f;generalize k:eqD D d0=z1 at f;generalize q:eqD DF d0=z2 at f;generalize m:eqD DT d0=r at f;simp only[tq,dT,Ie,yy,iG,kv,not_or,Bool.not_eq_false,aA,bu]at f;obtain⟨a,⟨b,c⟩,d,e⟩:=f;exact⟨fY.1 (k.trans a),b,fY.1 (q.trans c),d,fY.1 (m.trans e)⟩
    obtain⟨rfl,rfl,rfl,rfl,rfl⟩:=j;cases hs:pB (errI K e l I.length) 0 I with
    | some p=>rw[hs]at h;exact absurd h (Ir hs)
    | none=>
     refine⟨g,rfl,rfl,rfl,rfl,rfl,by omega,by omega,λt n=>?_,o⟩;obtain⟨i,hi⟩:=AO hs t n;exact We hi
def IW{K:Int}{D:TD}{KF:Int}{DF:TD}{KT:Int}{DT:TD}{e l:Bool}{I:List TI}(p:SetP K D KF DF KT DT e l I)(hs:∀t∈I,smI t):∀t∈I,OkI t/\itI t false=0:=
 λt a=>⟨VP (hs t a) (p.its t a),(zp (p.its t a)).2.2.2⟩
def GU(K:Int):Prop:=K=3\/K=4
instance (K:Int):Decidable (GU K):=inferInstanceAs (Decidable (K=3\/K=4))
def Un{K:Int}{D:TD}{KF:Int}{DF:TD}{KT:Int}{DT:TD}{e l:Bool}{I:List TI}(h:smE D DF DT I):
  mb 20000000 K D KF DF KT DT e l I=some (if GU K then(if(iE K D KF DF KT DT e l I).2=0 then(sg K e l I,0)else([],(iE K D KF DF KT DT e l I).2))else([],18)):=by
 have c:∀z:GU K,(ob (iY 20000000 K D KF DF KT DT e l I) λj=>(cond (j != 0) (some ([],j)) (cond (decide ((0:Int)<=(len I))&&(decide ((len I)<=(len I))&&decide ((len I)<=(67108864:Int)))) (ob (av (ct 20000000) 20000000 ((len I),0,I,K,D,KF,DF,KT,DT,e,l,(List.replicate (Int.toNat (len I)) ([]:aa)))) (u10 λ_ C _ _ _ _ _ r k a=>(ob (eT 20000000 C) (u2 λd b=>(cond r (ob (cat d ([46,46]:aa)) λg=>(cond k (ob (cat ([46,46]:aa) b) λB=>(cond (Nat.ble (List.length a) 140737488355328&&Nat.ble (List.length (Lib.join a ([44]:aa))) 140737488355328) (ob (cat g (Lib.join a ([44]:aa))) λx=>(ob (cat x B) λA=>(some (A,0)))) none)) (cond (Nat.ble (List.length a) 140737488355328&&Nat.ble (List.length (Lib.join a ([44]:aa))) 140737488355328) (ob (cat g (Lib.join a ([44]:aa))) λs=>(ob (cat s b) λp=>(some (p,0)))) none))) (cond k (ob (cat ([46,46]:aa) b) λo=>(cond (Nat.ble (List.length a) 140737488355328&&Nat.ble (List.length (Lib.join a ([44]:aa))) 140737488355328) (ob (cat d (Lib.join a ([44]:aa))) λu=>(ob (cat u o) λq=>(some (q,0)))) none)) (cond (Nat.ble (List.length a) 140737488355328&&Nat.ble (List.length (Lib.join a ([44]:aa))) 140737488355328) (ob (cat d (Lib.join a ([44]:aa))) λy=>(ob (cat y b) λv=>(some (v,0)))) none))))))) none))) =
   some (if(iE K D KF DF KT DT e l I).2=0 then(sg K e l I,(0:Int))else([],(iE K D KF DF KT DT e l I).2)):=by
  intro z;rw[Ii h];simp only[ob];by_cases i:(iE K D KF DF KT DT e l I).2=0
  ·have P:=yd z i;have J:=P.most;have oks:=IW P h.2.2.2;have H:=uM λt E=>(oks t E).1;rw[af i,i];have f:=O0 oks (by omega) K D KF DF KT DT e l I.length 0 (by omega) 20000000 (by omega);simp only[fG,ah];have c3:(decide ((0:Int)<=(len I))&&(decide ((len I)<=(len I))&&decide ((len I)<=(67108864:Int))))=true:=by
    have:len I=((I.length:Nat):Int):=rfl;rw[this];simp only[aA,cb];omega
   rw[c3,aj,show(List.replicate (Int.toNat (len I)) ([]:aa))=(I.take 0).map du++List.replicate (I.length - 0) []from by simp];rw[show av (ct 20000000) 20000000 (len I,(0:Int),I,K,D,KF,DF,KT,DT,e,l,(I.take 0).map du++List.replicate (I.length - 0) [])=_ from f];have G:(Nat.ble (List.length (I.map du)) 140737488355328&&Nat.ble (List.length (Lib.join (I.map du) ([44]:aa))) 140737488355328)=true:=by
    simp only[aA];exact⟨cr (by simp;omega),cr (by omega)⟩
   simp only[u10,u9,u8,u7,u6,u5,u4,u3,u2,ye z,G,aj];unfold sg;generalize F:(if K=4 then(123:UInt8)else 91)=b1;generalize endC K=b2;generalize Lib.join (I.map du) [44]=w at H;cases e<;>cases l<;>simp only[aj,ah]
   ·rw[bI (by simp only[aC,aX];omega)];simp only[];rw[bI (by simp only[aH,aC,aX];omega)];simp
   ·rw[bI (by simp only[aC,aX];omega)];simp only[];rw[bI (by simp only[aC,aX];omega)];simp only[];rw[bI (by simp only[aH,aC,aX];omega)];simp
   ·rw[bI (by simp only[aC,aX];omega)];simp only[];rw[bI (by simp only[aH,aC,aX];omega)];simp only[];rw[bI (by simp only[aH,aC,aX];omega)];simp
   ·rw[bI (by simp only[aC,aX];omega)];simp only[];rw[bI (by simp only[aC,aX];omega)];simp only[];rw[bI (by simp only[aH,aC,aX];omega)];simp only[];rw[bI (by simp only[aH,aC,aX];omega)];simp
  ·rw[ae i,show((iE K D KF DF KT DT e l I).2 != 0)=true from by simp[i]];rfl
 unfold mb;by_cases n:K=3
 ·rw[show(K != 3)=false from by simp[n],af (.inl n)];exact c (.inl n)
 ·rw[show(K != 3)=true from by simp[n],aj];by_cases m:K=4
  ·rw[show(K != 4)=false from by simp[m],af (.inr m)];exact c (.inr m)
  ·rw[show(K != 4)=true from by simp[m],ae (by rintro(h | h)<;>contradiction)];rfl
def OL(ws:List (aa))(w:aa)(h:ws≠[]):Lib.join (ws++[w]) [44]=Lib.join ws [44]++[44]++w:=by
 cases ws with
 | nil=>exact absurd rfl h
 | cons a r=>
  rw[eX,Lib.join_cons,Lib.join_cons];unfold Lib.joinTail;simp
def KP{I:List TI}(hs:∀t∈I,OkI t)(n:I.length<=1000)(pre:aa)(hp:pre.length<=10)(K:Int)(D:TD)(KF:Int)(DF:TD)(KT:Int)(DT:TD)(e l:Bool):∀(r i:Nat),i+r=I.length->∀N,r<N->
  av (bV 20000000) N (pre++Lib.join ((I.take i).map du) [44],(i:Int),I,K,D,KF,DF,KT,DT,e,l)=some (pre++Lib.join (I.map du) [44],I,K,D,KF,DF,KT,DT,e,l):=by
 intro r
 induction r with
 | zero=>
  intro i hi N g;obtain⟨N,rfl⟩:∃k,N=k+1:=⟨N - 1,by omega⟩;obtain rfl:i=I.length:=by omega
  have:∀s,bV 20000000 (s,((I.length:Nat):Int),I,K,D,KF,DF,KT,DT,e,l)=some (.inr (s,I,K,D,KF,DF,KT,DT,e,l)):=by
   intro s;unfold bV;simp only[u11,u10,u9,u8,u7,u6,u5,u4,u3,u2];rw[aw (show¬((I.length:Nat):Int)<len I by show¬((I.length:Nat):Int)<((I.length:Nat):Int);omega)];rfl
  rw[av,this,oq]
 | succ r ih=>
  intro i hi N g;obtain⟨N,rfl⟩:∃k,N=k+1:=⟨N - 1,by omega⟩;have a:i<I.length:=by omega
  have b:I[i]?=some I[i]:=bq a;have ok:=hs _ (He a);generalize I[i]=t at b ok;have o:=uM (I:=I.take i) λu f=>hs u (List.mem_of_mem_take f);have m:(I.take i).length<=1000:=by rw[cS];omega
  have p:=xX ok;have d:(I.take (i+1)).map du=(I.take i).map du++[du t]:=by rw[qJ,b];simp
  have:bV 20000000 (pre++Lib.join ((I.take i).map du) [44],(i:Int),I,K,D,KF,DF,KT,DT,e,l)=some (.inl (pre++Lib.join ((I.take (i+1)).map du) [44],((i+1:Nat):Int),I,K,D,KF,DF,KT,DT,e,l)):=by
   unfold bV;simp only[u11,u10,u9,u8,u7,u6,u5,u4,u3,u2];rw[au (show(i:Int)<len I by show(i:Int)<((I.length:Nat):Int);omega),cG a];have hit:iD 20000000 (iF t) (d8 t).2.2.1 (d8 t).2.2.2=some (du t):=Lx ok;simp only[aj,ob,b,hit];rw[d];by_cases j:i=0
   ·subst j;rw[aw (show¬((0:Nat):Int)>0 by omega),ah,bI (by simp only[aH];omega),ox (by omega)];simp[Lib.join_nil,Lib.join_one]
   ·have c:(I.take i).map du≠[]:=by
     intro h;have:=cT List.length h;rw[vN,cS,aX]at this;omega
    rw[au (show(i:Int)>0 by omega),aj,bI (by simp only[aH,aC,aX];omega)];simp only[];rw[bI (by simp only[aH,aC,aX];omega),ox (by omega),OL _ _ c];simp
  rw[av,this];exact ih (i+1) (by omega) N (by omega)
def Nc{K:Int}(i:GU K){I:List TI}(hs:∀t∈I,OkI t)(h:I.length<=1000)(D:TD)(KF:Int)(DF:TD)(KT:Int)(DT:TD)(e l:Bool):lB 20000000 K D KF DF KT DT e l I=some (sg K e l I):=by
 have k:=uM hs;have b:=λ(pre:aa) (hp:pre.length<=10)=>KP hs h pre hp K D KF DF KT DT e l I.length 0 (by omega) 20000000 (by omega);have j:Lib.join ((I.take 0).map du) [44]=[]:=rfl;rw[j]at b;simp only[ko]at b;unfold lB sg;have g:=b [123,46,46] (by simp);have d:=b [123] (by simp);have l3:=b [91,46,46] (by simp);have f:=b [91] (by simp);rw[show((0:Nat):Int)=0 from rfl]at g d l3 f;rw[g,d,l3,f];generalize Lib.join (I.map du) [44]=w at k;have a:∀p q:aa,p.length<=10->q.length<=10->cat (p++w) q=some (p++w++q):=λp q hp m=>bI (by simp only[aH];omega);have c:∀p q r:aa,p.length<=10->q.length<=10->r.length<=10->cat (p++w++q) r=some (p++w++q++r):=λp q r hp m n=>bI (by simp only[aH];omega);rcases i with rfl | rfl
 ·rw[show((3:Int)==4)=false from rfl];cases e<;>cases l<;>simp only[aj,ah,ob,u10,u9,u8,u7,u6,u5,u4,u3,u2]
  ·simp only[show((3:Int)==4)=false from rfl,show((4:Int)==4)=true from rfl,aj,ah];rw[a _ _ (by simp) (by simp)];simp[endC]
  ·rw[a _ _ (by simp) (by simp)];simp only[show((3:Int)==4)=false from rfl,show((4:Int)==4)=true from rfl,aj,ah];rw[c _ _ _ (by simp) (by simp) (by simp)];simp[endC]
  ·simp only[show((3:Int)==4)=false from rfl,show((4:Int)==4)=true from rfl,aj,ah];rw[a _ _ (by simp) (by simp)];simp[endC]
  ·rw[a _ _ (by simp) (by simp)];simp only[show((3:Int)==4)=false from rfl,show((4:Int)==4)=true from rfl,aj,ah];rw[c _ _ _ (by simp) (by simp) (by simp)];simp[endC]
 ·rw[show((4:Int)==4)=true from rfl];cases e<;>cases l<;>simp only[aj,ah,ob,u10,u9,u8,u7,u6,u5,u4,u3,u2]
  ·simp only[show((3:Int)==4)=false from rfl,show((4:Int)==4)=true from rfl,aj,ah];rw[a _ _ (by simp) (by simp)];simp[endC]
  ·rw[a _ _ (by simp) (by simp)];simp only[show((3:Int)==4)=false from rfl,show((4:Int)==4)=true from rfl,aj,ah];rw[c _ _ _ (by simp) (by simp) (by simp)];simp[endC]
  ·simp only[show((3:Int)==4)=false from rfl,show((4:Int)==4)=true from rfl,aj,ah];rw[a _ _ (by simp) (by simp)];simp[endC]
  ·rw[a _ _ (by simp) (by simp)];simp only[show((3:Int)==4)=false from rfl,show((4:Int)==4)=true from rfl,aj,ah];rw[c _ _ _ (by simp) (by simp) (by simp)];simp[endC]
def NZ(n:Nat)(K:Int)(D:TD)(KF:Int)(DF:TD)(KT:Int)(DT:TD)(c:Nat)(e l:Bool)(L:List TI):jR n K D KF DF KT DT L.length c e l L=iY n K D KF DF KT DT e l L:=by
 unfold jR iY;rw[NY]
def Gq(n N:Nat)(i K:Int)(D:TD)(KF:Int)(DF:TD)(KT:Int)(DT:TD)(c:Nat)(e l:Bool)(L:List TI)(ws:List (aa)):
  av (fZ n) N (L.length,c,len L,i,L,K,D,KF,DF,KT,DT,L.length,c,e,l,ws)=(av (ct n) N (len L,i,L,K,D,KF,DF,KT,DT,e,l,ws)).map (u10 λb g o h k m q p d a=>(b,g,o,h,k,m,q,b.length,c,p,d,a)):=
 yh (s:=ct n) (s':=fZ n) (u12 λx0 f b g o h k m q p d a=>(b.length,c,x0,f,b,g,o,h,k,m,q,b.length,c,p,d,a)) _ (by
  rintro⟨x0,f,b,g,o,h,k,m,q,p,d,a⟩;unfold ct fZ;simp only[u16,u15,u14,u13,u12,u11,u10,u9,u8,u7,u6,u5,u4,u3,u2];cases decide (f<x0)
  ·rfl
  ·simp only[aj];cases ix b.length f with
   | none=>rfl
   | some i=>
    simp only[ob];cases b[i]? with
    | none=>rfl
    | some t=>
     simp only[ob];cases gO n (iF t) (d8 t).2.2.1 (d8 t).2.2.2 with
     | none=>rfl
     | some v=>
      simp only[ob];cases ix a.length f with
      | none=>rfl
      | some j=>
       simp only[ob];cases a[j]?<;>rfl) N (len L,i,L,K,D,KF,DF,KT,DT,e,l,ws)
def X5(n:Nat)(K:Int)(D:TD)(KF:Int)(DF:TD)(KT:Int)(DT:TD)(c:Nat)(e l:Bool)(L:List TI):na n K D KF DF KT DT L.length c e l L=mb n K D KF DF KT DT e l L:=by
 unfold na mb;rw[NZ,show av (fZ n) n (L.length,c,((L.length:Nat):Int),0,L,K,D,KF,DF,KT,DT,L.length,c,e,l,List.replicate (Int.toNat ((L.length:Nat):Int)) [])=_ from Gq n n 0 K D KF DF KT DT c e l L _];rw[show List.replicate (Int.toNat ((L.length:Nat):Int)) ([]:aa)=List.replicate (Int.toNat (len L)) []from rfl];cases av (ct n) n (len L,0,L,K,D,KF,DF,KT,DT,e,l,List.replicate (Int.toNat (len L)) [])with
 | none=>rfl
 | some y=>rfl
def LX(K:Int)(D:TD)(KF:Int)(DF:TD)(KT:Int)(DT:TD)(e l:Bool){I:List TI}(a:I.length<=1000000):fW 20000000 K D KF DF KT DT e l K D KF DF KT DT e l I I=some 1:=by
 unfold fW;rw[uw rfl a,af rfl];have b:∀x:TD,eqD x x=true:=λx=>fY.2 rfl;simp only[b,lP,fG,ah,Bool.and_self,dT,obs,sm,ob]
def J5{K:Int}(c:GU K){e l:Bool}{I:List TI}(a:1<=I.length)(d:I.length<=256)(ok:∀t∈I,OkI t)(b:(setE K e l I).2=0):DZ (sg K e l I)=.inr (K,e,l,I):=by
 unfold DZ;rw[KO c a d ok b (post:=[]) (by rw[dk,ko])];simp only[];rw[ae (by omega)]
def YC{c:UInt8}(h:mkOf c≠0):mt (mkOf c)=[c]:=by
 unfold mkOf at h ⊢;by_cases a:c=63
 ·subst a;rfl
 ·rw[ae a]at h ⊢;by_cases d:c=126
  ·subst d;rfl
  ·rw[ae d]at h ⊢;by_cases b:c=37
   ·subst b;rfl
   ·rw[ae b]at h;exact absurd rfl h
def TO(l:aa):l=mt (mkS l)++l.drop (mkN l):=by
 cases l with
 | nil=>rfl
 | cons c r=>
  unfold mkN;show c::r=mt (mkOf c)++_;by_cases h:mkOf c=0
  ·rw[af (show mkS (c::r)=0 from h),h];rfl
  ·rw[ae (show¬mkS (c::r)=0 from h),YC h];rfl
def ID(S:aa)(p:Nat):S.drop p=mt (mkS (S.drop p))++S.drop (mkE S p):=by
 have:=TO (S.drop p);rw[kZ]at this;exact this
def Nz(S:aa)(p:Nat):mkE S p=p+(mt (mkS (S.drop p))).length:=by
 unfold mkE mkN;have a:=HG (S.drop p);generalize mkS (S.drop p)=k at *;rcases(by omega:k=0\/k=1\/k=2\/k=3)with rfl | rfl | rfl | rfl<;>rfl
def Ea{S:aa}{p:Nat}(h:¬twoN (S.drop p)<2):S.drop p=(S.drop p).take 2++S.drop (p+2)/\((S.drop p).take 2).length=2/\∀c∈(S.drop p).take 2,isDX c=true:=by
 have b:=EB h;have a:twoN (S.drop p)=2:=by
  have:twoN (S.drop p)<=2:=by
   unfold twoN;have:∀(k:Nat) (l:aa),cR isDX k l<=k:=by
    intro k
    induction k with
    | zero=>intro l;cases l<;>simp[cR]
    | succ k ih=>
     intro l;cases l with
     | nil=>simp[cR]
     | cons c r=>
      simp only[cR];split
      ·have:=ih r;omega
      ·omega
   exact this 2 _
  omega
 refine⟨by rw[<-kZ];exact(tH 2 _).symm,by simp;omega,?_⟩;have:=AW (p:=isDX) 2 (S.drop p);rw[show cR isDX 2 (S.drop p)=2 from a]at this;exact this
def A4{S:aa}{p:Nat}(h:¬gF 45 (S.drop p)=0):S.drop p=45::S.drop (p+1):=by
 cases a:S.drop p with
 | nil=>rw[a]at h;exact absurd rfl h
 | cons c r=>
  rw[a,vp]at h;by_cases hc:c=45
  ·subst hc;rw[<-kZ,a];rfl
  ·rw[ae hc]at h;exact absurd rfl h
def vq{S:aa}{p k:Nat}{w:aa}(h:S.drop (mkE S p)=w++S.drop (mkE S p+k)):S.drop p=cD (mkS (S.drop p)) (mkS (S.drop (mkE S p+k))) w++S.drop (mkE S (mkE S p+k)):=by
 unfold cD;rw[fa,fa,<-ID,<-h,<-ID]
def NH{S:aa}{a:Nat}{g l:Bool}{dg:aa}{x s:Nat}{m d:aa}{M P:Nat×Nat×Nat}{e:Nat}(b:uu S a=.inr (g,l,dg,x,s,m,d,M,P,e)):
  ∃A B,MkD A B m d/\M=spM A B/\P.1=a+(mt A.1).length/\S.drop a=rawD A B g l dg (x:Int) (s:Int) m d++S.drop e:=by
 unfold uu at b;cases hy:va (S.drop (mkE S a))with
 | inl k=>rw[hy]at b;cases b
 | inr y=>
  obtain⟨L,K,q,C,s',k⟩:=y;obtain⟨E,Q,_⟩:=yj hy;have D:S.drop (mkE S a)=gB L K q (C:Int) (s':Int)++S.drop (mkE S a+k):=by
   rw[<-E,<-kZ];exact(tH k _).symm
  have w0:=vq D;have c:=λp=>HG (S.drop p);rw[hy]at b;simp only[]at b;by_cases r:0<s'\/gF 45 (S.drop (mkE S (mkE S a+k)))=0
  ·rw[af r]at b;simp only[nh,bm]at b;obtain⟨rfl,rfl,rfl,rfl,rfl,rfl,rfl,rfl,rfl,rfl⟩:=b;refine⟨(mkS (S.drop a),0,0),(mkS (S.drop (mkE S a+k)),0,0),⟨c _,by simp,by simp,c _,by simp,by simp,λ_=>⟨rfl,rfl⟩,λ_=>⟨rfl,rfl⟩⟩,rfl,Nz S a,?_⟩;unfold rawD;simpa using w0
  ·rw[ae r]at b;have v:=A4 (λh=>r (.inr h));unfold rd2 at b;simp only[]at b;generalize H:mkE S (mkE S a+k)=i at *;by_cases t:twoN (S.drop (mkE S (i+1)))<2
   ·rw[af t]at b;cases b
   rw[ae t]at b;obtain⟨N,z,O⟩:=Ea t;have w:=vq N;have f:(S.drop (mkE S (i+1))).take 2≠[]:=λh=>by rw[h]at z;simp at z
   by_cases u:gF 45 (S.drop (mkE S (mkE S (i+1)+2)))=0
   ·rw[af u]at b;simp only[nh,bm]at b;obtain⟨rfl,rfl,rfl,rfl,rfl,rfl,rfl,rfl,rfl,rfl⟩:=b;refine⟨(mkS (S.drop a),mkS (S.drop (i+1)),0),(mkS (S.drop (mkE S a+k)),mkS (S.drop (mkE S (i+1)+2)),0),⟨c _,c _,by simp,c _,c _,by simp,λh=>absurd h f,λ_=>⟨rfl,rfl⟩⟩,rfl,Nz S a,?_⟩;unfold rawD;rw[ae f,af rfl,ko,fa,eX,<-w,<-v];exact w0
   ·rw[ae u]at b;have F:=A4 u;unfold rd3 at b;generalize I:mkE S (mkE S (i+1)+2)=n at *;by_cases o:twoN (S.drop (mkE S (n+1)))<2
    ·rw[af o]at b;cases b
    rw[ae o]at b;obtain⟨G,u2,u3⟩:=Ea o;have J:=vq G;have j:(S.drop (mkE S (n+1))).take 2≠[]:=λh=>by rw[h]at u2;simp at u2
    simp only[nh,bm]at b;obtain⟨rfl,rfl,rfl,rfl,rfl,rfl,rfl,rfl,rfl,rfl⟩:=b;refine⟨(mkS (S.drop a),mkS (S.drop (i+1)),mkS (S.drop (n+1))),(mkS (S.drop (mkE S a+k)),mkS (S.drop (mkE S (i+1)+2)),mkS (S.drop (mkE S (n+1)+2))),⟨c _,c _,c _,c _,c _,c _,λh=>absurd h f,λh=>absurd h j⟩,rfl,Nz S a,?_⟩;unfold rawD;rw[ae f,ae j,fa,fa,eX,eX,<-J,<-F,<-w,<-v];exact w0
def okC(c:UInt8):Bool:=isDX c||(isMk c||(c==45||(c==89||(c==69||c==83))))
def isLv(c:UInt8):Bool:=c==69||(c==83||isMk c)
def Tz:∀c:UInt8,(!okC c||decide (c.toNat<128))=true:=jG (λc=>!okC c||decide (c.toNat<128)) (by decide +kernel)
def Xd{c:UInt8}(h:okC c=true):c.toNat<128:=by
 have:=Tz c;rw[h]at this;simpa using this
def dgC(c:UInt8):UInt8:=if bH c then 100 else c
def Xj:∀c:UInt8,(!decide (c.toNat<128)||(decide (0<=pS (c.toNat:Int))&&(Lib.encodeRune (pS (c.toNat:Int))==[dgC c])))=true:=
 jG (λc=>!decide (c.toNat<128)||(decide (0<=pS (c.toNat:Int))&&(Lib.encodeRune (pS (c.toNat:Int))==[dgC c]))) (by decide +kernel)
def JY:∀{l:aa},(∀c∈l,c.toNat<128)->zQ l=l.map dgC:=by
 have a:∀(n:Nat) (l:aa),l.length=n->(∀c∈l,c.toNat<128)->Lib.mapGoD pS n l=l.map dgC:=by
  intro n
  induction n with
  | zero=>intro l b _;rw[tu b];rfl
  | succ n ih=>
   intro l b h;cases l with
   | nil=>simp at b
   | cons c r=>
    have e:Lib.decodeL (c::r)=(c.toNat,1):=C7 (l:=c::r) (i:=0) rfl (h c nl);rw[Lib.mapGoD,ae (by simp),e];have:=Xj c;rw[au (h c nl)]at this;simp only[dT,tq,aA,cb,bu]at this;rw[af this.1,this.2];rw[show(c::r).drop 1=r from rfl,ih r (by simpa using b) (λd e=>h d (fV _ e))];rfl
 intro l h;exact a l.length l rfl h
def ze(s a:aa):Lib.containsAny s a=s.any (a.contains ·):=by
 induction s with
 | nil=>rfl
 | cons b l ih=>
  unfold Lib.containsAny at ih ⊢;have c:=Lib.indexAny_ge a l;rw[Lib.indexAny,vV];cases d:a.contains b
  ·rw[ae (by simp),tq,<-ih];by_cases h:Lib.indexAny l a=-1
   ·rw[af (by simp[h]),h]
   ·rw[ae (by simp[h])];congr 1;exact propext (by omega)
  ·simp
def xR(u:aa):aa:=match u with | c::r=>if c=45 then r else c::r | []=>[]
def kY:List (aa):=[[100,100,100,88],[100,100,88,88],[100,100,100,100,45,88,88],[100,100,100,100,45,100,100,45,88,88],[100,100,100,100,45,88,88,45,88,88]]
def simB(v:aa):Bool:=kY.contains (v.map dgC)
def Q3(n:Nat)(u:aa):js n u=some (xR u):=by
 unfold js gi fA xR;cases u with
 | nil=>rfl
 | cons c r=>
  have a:bx (c::r).length (1:Int)=some 1:=ef (i:=1) (by simp);rw[au (show(((c::r).length:Nat):Int)>=1 by rw[aC];omega),aj,a];simp only[ob,nq,nr,dk];by_cases hc:c=45
  ·subst hc;rw[af rfl];simp
  ·rw[ae hc,show(([c]:aa)==[45])=false from by simp[hc]];rfl
def Y0(n:Nat)(u:aa):da n u=some (decide (u.head?=some 89)):=by
 unfold da fJ;cases u with
 | nil=>rfl
 | cons c r=>
  have a:bx (c::r).length (1:Int)=some 1:=ef (i:=1) (by simp);rw[au (show(((c::r).length:Nat):Int)>=1 by rw[aC];omega),aj,a];simp only[ob,nq,nr,dk,pA,ar];rw[show(([c]:aa)==[89])=decide (c=89)from by rw[uJ];simp]
def zE(v:aa):dB 20000000 v kY=some (kY.contains v):=by
 have d:∀(r i:Nat),i+r=5->∀N,r<N->av (br 20000000) N (v,5,(i:Int),kY)=some (if(kY.drop i).contains v then .inl ((i+(kY.drop i).idxOf v:Nat):Int)else .inr ()):=by
  intro r
  induction r with
  | zero=>
   intro i hi N e;obtain⟨N,rfl⟩:∃k,N=k+1:=⟨N - 1,by omega⟩;obtain rfl:i=5:=by omega
   rw[av];rfl
  | succ r ih=>
   intro i hi N e;obtain⟨N,rfl⟩:∃k,N=k+1:=⟨N - 1,by omega⟩;have a:i<kY.length:=by show i<5;omega
   have f:=bq a;have:br 20000000 (v,5,(i:Int),kY)=some (if v=kY[i]then .inr (.inl (i:Int))else .inl (v,5,((i+1:Nat):Int),kY)):=by
    unfold br;simp only[];rw[au (show(i:Int)<5 by omega),aj,cG a];simp only[ob,f];rw[show wrap .i64 ((i:Int)+1)=((i+1:Nat):Int)from ox (by omega),ii];split<;>rfl
   rw[av,this,uN a];by_cases b:v=kY[i]
   ·rw[af b];simp only[];rw[<-b];simp
   ·rw[ae b];simp only[];rw[ih (i+1) (by omega) N (by omega)];have c:(kY[i]==v)=false:=by simp;exactλh=>b h.symm
    have g:(v==kY[i])=false:=by simp;exact b
    rw[List.contains_cons,g,tq,List.idxOf_cons,c];simp only[ah];rw[show i+1+List.idxOf v (List.drop (i+1) kY)=i+(List.idxOf v (List.drop (i+1) kY)+1)by omega]
 have:=d 5 0 rfl 20000000 (by omega);unfold dB fk;rw[show av (br 20000000) 20000000 (v,(((List.length kY):Nat):Int),0,kY)=_ from this];rw[dk];cases h:kY.contains v
 ·rfl
 ·simp only[aQ,ob];rw[au (by omega)]
def lvl(u:aa)(b X:Bool)(code:Int):Int:=
 if u.any isLv then 2 else if 24<code then 2 else if(X&&!simB (xR u))=true then 2
 else if b=true\/X=true\/0<code\/u.head?=some 45\/u.head?=some 89 then 1 else 0
structure Body(T u:aa)(k:Nat):Prop where
 eq:T=u++mt k
 k4:k<4
 last:∃v z,u=v++[z]/\isMk z=false
 asc:∀c∈T,c.toNat<128
 len:T.length<=1000
def Body.ascu{T u:aa}{k:Nat}(h:Body T u k):∀c∈u,c.toNat<128:=λc hc=>h.asc c (by rw[h.eq];exact List.mem_append_left _ hc)
def Body.lenu{T u:aa}{k:Nat}(h:Body T u k):u.length<=1000:=by
 have:=h.len;rw[h.eq,aH]at this;omega
def SK(c:UInt8):([63,126,37]:aa).contains c=isMk c:=by
 have:=jG (λc=>([63,126,37]:aa).contains c==isMk c) (by decide +kernel) c;simpa using this
def YJ{k:Nat}(h:k<4):∀c∈mt k,isMk c=true/\c≠69/\c≠83/\c≠88:=by
 rcases(by omega:k=0\/k=1\/k=2\/k=3)with rfl | rfl | rfl | rfl<;>simp[mt,isMk,mkOf]
def MU{p:UInt8->Bool}:∀{l:aa},(∀c∈l,p c=true)->l.dropWhile p=[]
 | [],_=>rfl
 | c::l,h=>by rw[List.dropWhile_cons,h c nl];exact MU λd a=>h d (fV _ a)
def Dx{T u:aa}{k:Nat}(h:Body T u k):Lib.trimRightS T [63,126,37]=u:=by
 obtain⟨v,z,rfl,b⟩:=h.last;unfold Lib.trimRightS;rw[h.eq,List.reverse_append,List.reverse_append];have:List.dropWhile (λx=>([63,126,37]:aa).contains x) ((mt k).reverse++([z].reverse++v.reverse))=[z].reverse++v.reverse:=by
  rw[List.dropWhile_append];have a:List.dropWhile (λx=>([63,126,37]:aa).contains x) (mt k).reverse=[]:=by
   refine MU λc hc=>?_;rw[SK];exact(YJ h.k4 c (Hg.1 hc)).1
  rw[a];simp only[List.isEmpty_nil,aQ,List.reverse_singleton,List.singleton_append];rw[List.dropWhile_cons,SK,b];simp
 rw[this];simp
def XG(c:UInt8):([63,126,37,69,83]:aa).contains c=isLv c:=by
 have:=jG (λc=>([63,126,37,69,83]:aa).contains c==isLv c) (by decide +kernel) c;simpa using this
def Q6(u:aa):(u==xR u)=!decide (u.head?=some 45):=by
 unfold xR;cases u with
 | nil=>rfl
 | cons c r=>
  simp only[pA,ar];by_cases hc:c=45
  ·subst hc;rw[af rfl,au rfl];simp only[dT,aL,ne_eq];intro h;have:=cT List.length h;simp at this
  ·rw[ae hc,aw hc];simp
def OW(u:aa):(xR u).length<=u.length:=by
 unfold xR;split
 ·split<;>simp
 ·simp
def Pn{u:aa}:∀c∈xR u,c∈u:=by
 unfold xR;split
 ·split
  ·intro c hc;exact fV _ hc
  ·intro c hc;exact hc
 ·intro c hc;exact hc
def On{T u:aa}{k:Nat}(h:Body T u k):(u==T)=decide (k=0):=by
 rw[h.eq];rcases(by have:=h.k4;omega:k=0\/k=1\/k=2\/k=3)with rfl | rfl | rfl | rfl
 ·simp[mt]
 all_goals
  rw[show decide _=false from rfl,aL];intro e;have:=cT List.length e;simp[mt]at this
def Zs{T u:aa}{k:Nat}(h:Body T u k){x:TD}(hs:smT x):me 20000000 T x=some (lvl u (decide (k≠0)) (hasX x.2.2.1||(hasX x.2.2.2.2.2.1||hasX x.2.2.2.2.2.2.1)) (seT x)):=by
 have i:ap10 (bS 20000000) x=some (seT x,decide (0<seT x)):=rS 20000000 _ _ _ _ _ _ _ _ _ _ hs.1;have m:=h.len;have l:=h.lenu;have g:=OW u;have j:yZ T [63,126,37]=true:=by
  unfold yZ;rw[cr (by omega)];rfl
 have f:CU (xR u)=true:=cr (by omega);have c3:xY u [63,126,37,69,83]=true:=by
  unfold xY;rw[cr (show u.length<=4294967280 by omega)];have:MI u=true:=bO.2 λc hc=>cr (h.ascu c hc);rw[this];rfl
 unfold me;rw[i,fmT hs];simp only[ob,u2,j,aj,Dx h,Q3,f,c3,JY (λc hc=>h.ascu c (Pn c hc)),ze,XG,Y0];rw[show([[100,100,100,88],[100,100,88,88],[100,100,100,100,45,88,88],[100,100,100,100,45,100,100,45,88,88],[100,100,100,100,45,88,88,45,88,88]]:List (aa))=kY from rfl,zE];simp only[Q6,On h,Bool.not_not];unfold lvl simB;rw[show(List.any u λx=>isLv x)=u.any isLv from rfl];generalize(hasX x.2.2.1||(hasX x.2.2.2.2.2.1||hasX x.2.2.2.2.2.2.1))=X;generalize kY.contains ((xR u).map dgC)=F;cases u.any isLv
 ·simp only[ah,bU,aG];by_cases b:24<seT x
  ·rw[af b,au (show 0<seT x by omega),au (show seT x>=25 by omega)];rfl
  ·rw[ae b,aw (show¬seT x>=25 by omega)];have a:(cond (decide (u.head?=some 45)) (some (1:Int)) (cond (decide (u.head?=some 89)) (some 1) (cond (!decide (k=0)) (some 1) (cond (decide (0<seT x)) (some 1) (cond X (some 1) (some 0))))))=some (if decide (k≠0)=true\/X=true\/0<seT x\/u.head?=some 45\/u.head?=some 89 then 1 else 0):=by
    by_cases a1:u.head?=some 45
    ·rw[au a1,af (by simp[a1])];rfl
    rw[aw a1];by_cases a2:u.head?=some 89
    ·rw[au a2,af (by simp[a2])];rfl
    rw[aw a2];by_cases d:k=0
    ·rw[au d];by_cases e:0<seT x
     ·rw[au e,af (by simp[e])];rfl
     rw[aw e];cases X
     ·rw[ae (by simp[a1,a2,d,e])];rfl
     ·rw[af (by simp)];rfl
    ·rw[aw d,af (by simp[d])];rfl
   cases X
   ·simp only[ah,EM,bU,aG];simp only[ah,bU]at a;rw[<-a];cases decide (0<seT x)<;>rfl
   ·cases F
    ·cases decide (0<seT x)<;>rfl
    ·simp only[aj,dT,ah,I1,bU,aG];simp only[aj]at a;rw[<-a];cases decide (0<seT x)<;>rfl
 ·rfl
def ra{k:Nat}(h:k<4):(mt k).all okC=true:=by
 rcases(by omega:k=0\/k=1\/k=2\/k=3)with rfl | rfl | rfl | rfl<;>decide
def x_mk{k:Nat}(h:k<4):(mt k).any (·==88)=false:=by
 rcases(by omega:k=0\/k=1\/k=2\/k=3)with rfl | rfl | rfl | rfl<;>decide
def Wl:((List.range 100).all λk=>(Lib.decDigits k).all λc=>okC c&&(!isMk c&&!(c==88)))=true:=by decide +kernel
def D6{k:Nat}(h:k<100){letter:UInt8}(a:letter=69\/letter=83):(eQ letter k).all (λc=>okC c&&(!isMk c&&!(c==88)))=true:=by
 unfold eQ;split
 ·rw[nH,(bO.1 Wl) k (gS.2 h)];rcases a with rfl | rfl<;>decide
 ·rfl
def NQ{c:UInt8}(h:isDX c=true):okC c=true:=by unfold okC;rw[h];rfl
def xN{g l:Bool}{dg:aa}{x q:Nat}(h:okY g l dg (x:Int) (q:Int)):gB g l dg (x:Int) (q:Int)≠[]/\(∀c∈gB g l dg (x:Int) (q:Int),okC c=true/\isMk c=false)/\(gB g l dg (x:Int) (q:Int)).any (·==88)=hasX dg:=by
 obtain⟨o,m,p,n,e,k⟩:=jb h;have hx:x<100:=by omega
 have i:q<100:=by omega
 have d:=D6 hx (letter:=69) (.inl rfl);have a:=D6 i (letter:=83) (.inr rfl);have b:=Oy h;have j:dg≠[]:=by
  rintro rfl;simp at e
 rw[kM];refine⟨by cases l<;>cases g<;>simp[j],λc hc=>?_,?_⟩
 ·simp only[ln,or_assoc]at hc;rcases hc with hc | hc | hc | hc | hc
  ·cases l
   ·cases hc
   ·rw[tK.1 hc];decide
  ·cases g
   ·cases hc
   ·rw[tK.1 hc];decide
  ·exact⟨NQ (b c hc),JX (b c hc)⟩
  ·have:=(bO.1 d) c hc;simp only[aA,kv]at this;exact⟨this.1,this.2.1⟩
  ·have:=(bO.1 a) c hc;simp only[aA,kv]at this;exact⟨this.1,this.2.1⟩
 ·have no:∀w:aa,w.all (λc=>okC c&&(!isMk c&&!(c==88)))=true->w.any (·==88)=false:=by
   intro w f;rw[sY];intro c hc;have:=(bO.1 f) c hc;simp only[aA,kv]at this;rw[this.2.2];simp
  simp only[vR,no _ d,no _ a,Ie];unfold hasX;cases l<;>cases g<;>simp
def G2{w:aa}(h:w≠[])(b:∀c∈w,isMk c=false)(v:aa):∃a z,v++w=a++[z]/\isMk z=false:=
 ⟨v++w.dropLast,w.getLast h,by rw[fa,List.dropLast_concat_getLast],b _ (List.getLast_mem h)⟩
def H9{A B:Nat×Nat×Nat}{g l:Bool}{dg:aa}{x q:Nat}{m d:aa}(hs:ShD g l dg x q m d)(T:MkD A B m d):
  ∃u k,Body (rawD A B g l dg (x:Int) (q:Int) m d) u k/\u.any (·==88)=(hasX dg||(hasX m||hasX d))/\(u.any isLv=false->A=(0,0,0)/\(m≠[]->B.1=0)/\(d≠[]->B.2.1=0))/\k=(if m=[]then B.1 else if d=[]then B.2.1 else B.2.2):=by
 obtain⟨K,H,y⟩:=xN hs.yr;have yl:=r7 hs.yr;obtain⟨i,o,s⟩:=A;obtain⟨f,r,G⟩:=B;obtain⟨a0,a1,a2,b0,b1,b2,zm,zd⟩:=T;simp only at a0 a1 a2 b0 b1 b2 zm zd;unfold rawD cD;simp only;generalize gB g l dg (x:Int) (q:Int)=Y at *;have b:∀w:aa,w.all okC=true->∀c∈w,c.toNat<128:=λw I c hc=>Xd ((bO.1 I) c hc);have D:Y.all okC=true:=bO.2 λc hc=>(H c hc).1;have j:∀k,k<4->(mt k).length<=1:=λk h=>by
  rcases(by omega:k=0\/k=1\/k=2\/k=3)with rfl | rfl | rfl | rfl<;>simp[mt]
 have P:=j i a0;have V:=j o a1;have X:=j s a2;have S:=j f b0;have N:=j r b1;have Z:=j G b2;have a:∀k,k<4->(mt k).any isLv=false->k=0:=λk h=>by
  rcases(by omega:k=0\/k=1\/k=2\/k=3)with rfl | rfl | rfl | rfl<;>decide
 have p:∀w:aa,w.any (λx=>x==88)=hasX w:=λw=>rfl;by_cases n:m=[]
 ·have e:d=[]:=hs.day.resolve_right (λz=>z.1 n);subst n e;obtain⟨rfl,rfl⟩:=zm rfl;obtain⟨rfl,rfl⟩:=zd rfl;simp only[aQ,ko];refine⟨mt i++Y,f,⟨rfl,b0,G2 K (λc hc=>(H c hc).2) _,b _ (by rw[E5,E5,ra a0,D,ra b0];rfl),by simp only[aH];omega⟩,?_,?_,rfl⟩
  ·rw[vR,x_mk a0,y];simp[hasX]
  ·intro h;rw[vR,qZ]at h;exact⟨by rw[a _ a0 h.1],λh=>absurd rfl h,λh=>absurd rfl h⟩
 ·obtain⟨M,mx⟩:=hs.mon.resolve_left n;have F:m.all okC=true:=bO.2 λc hc=>NQ (mx c hc);rw[ae n,ae n];by_cases e:d=[]
  ·subst e;obtain⟨rfl,rfl⟩:=zd rfl;simp only[aQ,ko];refine⟨mt i++Y++mt f++(45::(mt o++m)),r,⟨by simp,b1,?_,b _ ?_,by simp only[aH,aC];omega⟩,?_,?_,rfl⟩
   ·have:=G2 n (λc hc=>JX (mx c hc)) (mt i++Y++mt f++(45::mt o));simpa using this
   ·simp only[E5,nH,ra a0,D,ra b0,ra a1,F,ra b1,show okC 45=true from by decide];rfl
   ·simp only[vR,vV,x_mk a0,x_mk b0,x_mk a1,y];simp only[p];simp[hasX]
   ·intro h;simp only[vR,vV,qZ]at h;obtain⟨⟨⟨t,U⟩,C⟩,L,v,J⟩:=h;exact⟨by rw[a _ a0 t,a _ a1 v],λ_=>a _ b0 C,λh=>absurd rfl h⟩
  ·obtain⟨_,R,E⟩:=hs.day.resolve_left e;have Do:d.all okC=true:=bO.2 λc hc=>NQ (E c hc);rw[ae e,ae e];refine⟨mt i++Y++mt f++(45::(mt o++m++mt r))++(45::(mt s++d)),G,⟨by simp,b2,?_,b _ ?_,by simp only[aH,aC];omega⟩,?_,?_,rfl⟩
   ·have:=G2 e (λc hc=>JX (E c hc)) (mt i++Y++mt f++(45::(mt o++m++mt r))++(45::mt s));simpa using this
   ·simp only[E5,nH,ra a0,D,ra b0,ra a1,F,ra b1,ra a2,Do,ra b2,show okC 45=true from by decide];rfl
   ·simp only[vR,vV,x_mk a0,x_mk b0,x_mk a1,x_mk b1,x_mk a2,y];simp only[p];simp[Bool.or_assoc]
   ·intro h;simp only[vR,vV,qZ]at h;obtain⟨⟨⟨⟨t,U⟩,C⟩,L,⟨v,J⟩,W⟩,h8,Q,O⟩:=h;exact⟨by rw[a _ a0 t,a _ a1 v,a _ a2 Q],λ_=>a _ b0 C,λ_=>a _ b1 W⟩
def mkX(x:TD):Bool:=hasX x.2.2.1||(hasX x.2.2.2.2.2.1||hasX x.2.2.2.2.2.2.1)
def lvT(T:aa)(x:TD):Int:=lvl (Lib.trimRightS T [63,126,37]) (!(Lib.trimRightS T [63,126,37]==T)) (mkX x) (seT x)
def YI{T u:aa}{k:Nat}(h:Body T u k){x:TD}(hs:smT x):me 20000000 T x=some (lvT T x):=by
 rw[Zs h hs];unfold lvT mkX;rw[Dx h,On h];simp
def Q5{S:aa}{a:Nat}(h:a<=S.length){r:DR}(n:ek S a=.inr r):∃A B u k,MkD A B (tdR r).2.2.2.2.2.1 (tdR r).2.2.2.2.2.2.1/\plR r=a+(mt A.1).length/\
  (S.drop a).take (enR r - a)=rawD A B r.1 r.2.1 r.2.2.1 (r.2.2.2.1:Int) (r.2.2.2.2.1:Int) r.2.2.2.2.2.1 r.2.2.2.2.2.2.1/\r.2.2.2.2.2.2.2.1=spM A B/\Body ((S.drop a).take (enR r - a)) u k/\
  me 20000000 ((S.drop a).take (enR r - a)) (tdR r)=some (lvT ((S.drop a).take (enR r - a)) (tdR r)):=by
 obtain⟨o,D,E,w⟩:=mD h n;obtain⟨q,_⟩:=IC h n;obtain⟨H,G,z,t,y,m',d',k0,k1,k2,b,ok⟩:=lG o D;obtain⟨g,l,dg,x,s,m,d,M,P,e⟩:=r;have ok:ShD g l dg x s m d:=by
  unfold tdR at b;simp only[bm]at b;obtain⟨rfl,rfl,rfl,hx,i,rfl,rfl,_⟩:=b;have hx:x=t:=by omega
  have i:s=y:=by omega
  subst hx i;exact ok.sh
 obtain⟨A,B,mk,v,C,f⟩:=NH q;have p:(rawD A B g l dg (x:Int) (s:Int) m d).length=e - a:=by
  have:=cT List.length f;simp only[aH,cj]at this;have:a<=e:=E;have:e<=S.length:=w;omega
 have c:(S.drop a).take (e - a)=rawD A B g l dg (x:Int) (s:Int) m d:=by rw[f,<-p,FH]
 obtain⟨u,k,j,F,_⟩:=H9 ok mk;refine⟨A,B,u,k,mk,C,c,v,by rw[show enR (g,l,dg,x,s,m,d,M,P,e)=e from rfl,c];exact j,?_⟩
 ·rw[show enR (g,l,dg,x,s,m,d,M,P,e)=e from rfl,c];exact YI j o
def mx(a b:Int):Int:=if a>b then a else b
def lvR(S:aa)(p:Nat)(r:DR):Int:=lvT ((S.drop p).take (enR r - p)) (tdR r)
def LU(u:aa)(b X:Bool)(c:Int):0<=lvl u b X c/\lvl u b X c<=2:=by
 unfold lvl
 repeat' split
 all_goals omega
def LV(S:aa)(p:Nat)(r:DR):0<=lvR S p r/\lvR S p r<=2:=LU _ _ _ _
def bcT{x:TD}(h:smT x)(K:Int):ap10 (iH 20000000 K) x=some (qD K x):=wN h.1 h.2.1 h.2.2.1 h.2.2.2.1 h.2.2.2.2.1 h.2.2.2.2.2
def BY(n:Nat)(a:Int)(S:aa)(p:Int)(I:List TI)(K:Int)(D:TD)(KF:Int)(DF:TD)(KT:Int)(DT:TD)(e l:Bool)(lv:Int):
  cY n a S p I K D KF DF KT DT e l lv=some (K,D,KF,DF,KT,DT,e,l,mx a lv):=by
 unfold cY mx;rw[bG]
def LM(I:List TI)(K:Int)(D:TD)(KF:Int)(DF:TD)(KT:Int)(DT:TD)(e l:Bool)(lv:Int){S:aa}{p:Nat}(h:p<=S.length)(g:S.length<100000):
  dH 20000000 I K D KF DF KT DT e l lv S (p:Int)=some (match ek S p with
   | .inl f=>.inl ((f.1:Int),(f.2.1:Int),K,D,KF,DF,KT,DT,e,l,lv,S,(f.2.2:Int))
   | .inr r=>.inr (tdR r,((plR r:Nat):Int),K,D,KF,DF,KT,DT,e,l,mx (lvR S p r) lv,S,((enR r:Nat):Int))):=by
 unfold dH;rw[uy _ _ _ h,Hh S p h g];cases a:ek S p with
 | inl f=>rfl
 | inr r=>
  obtain⟨i,j,k,b⟩:=mD h a;obtain⟨_,_,_,_,_,_,_,_,_,d⟩:=Q5 h a;rw[EA];simp only[obs,sm,ob];rw[show(d4 (d8 ((tdR r).1,(tdR r).2.1,(tdR r).2.2.1,(tdR r).2.2.2.1,(tdR r).2.2.2.2.1,(tdR r).2.2.2.2.2.1,(tdR r).2.2.2.2.2.2.1,(tdR r).2.2.2.2.2.2.2.1,(tdR r).2.2.2.2.2.2.2.2.1,(tdR r).2.2.2.2.2.2.2.2.2,((plR r:Nat):Int),S,((enR r:Nat):Int))))=((enR r:Nat):Int)from rfl,uy _ _ _ b];simp only[];have c:w64 (len (S.drop p) - len (S.drop (enR r)))=((enR r - p:Nat):Int):=by
   show wrap .i64 (((S.drop p).length:Int) - ((S.drop (enR r)).length:Int))=_;rw[cj,cj,wrap_i64 _ (by omega) (by omega)];omega
  rw[c,ef (by rw[cj];omega)];simp only[dk];rw[show me 20000000 ((S.drop p).take (enR r - p)) (iF ((tdR r).1,(tdR r).2.1,(tdR r).2.2.1,(tdR r).2.2.2.1,(tdR r).2.2.2.2.1,(tdR r).2.2.2.2.2.1,(tdR r).2.2.2.2.2.2.1,(tdR r).2.2.2.2.2.2.2.1,(tdR r).2.2.2.2.2.2.2.2.1,(tdR r).2.2.2.2.2.2.2.2.2,((plR r:Nat):Int),S,((enR r:Nat):Int)))=_ from d];simp only[BY,u9,u8,u7,u6,u5,u4,u3,u2];rfl
def JB{x:TD}(h:smT x)(hc:cF x=0)(a K:Int)(D:TD)(KF:Int)(DF:TD)(KT:Int)(DT:TD)(e l:Bool)(lv:Int)(S:aa)(p:Int)(I:List TI):
  cZ 20000000 x a K D KF DF KT DT e l lv S p I=some (if exT x=true then .inr (1,x)else .inl (a,11)):=by
 unfold cZ;rw[bcT h,FI,af hc];cases exT x<;>rfl
noncomputable def toP(S:aa)(p:Nat)(KF:Int)(DF:TD)(lv:Int):(Nat×Nat)⊕(Int×TD×Int×Nat):=
 if KF=1/\p=S.length then .inr (3,d0,mx 1 lv,p)
 else if KF=1/\dts (S.drop p)=true then .inr (2,d0,mx 1 lv,p+2)
 else match ek S p with
  | .inl f=>.inl (f.1,f.2.1)
  | .inr r=>if exT (tdR r)=true then(if enR r<S.length\/np KF DF 1 (tdR r)=0 then .inr (1,tdR r,mx (lvR S p r) (if KF=1 then lv else mx 1 lv),enR r)else .inl (plR r,11))else .inl (plR r,11)
def XD(S:aa)(D:TD)(KF:Int)(DF:TD)(e l:Bool):(Nat×Nat)⊕(Int×TD×Int×Nat)->(Int×TD×Int×TD×Int×TD×Bool×Bool×Int×aa×Int)⊕(Int×Int×Int×TD×Int×TD×Int×TD×Bool×Bool×Int×aa×Int)->Prop
 | .inl f,y=>∃z,y=.inr ((f.1:Int),(f.2:Int),z)
 | .inr (KT,DT,lv,p),y=>y=.inl (2,D,KF,DF,KT,DT,e,l,lv,S,(p:Int))
def It{S:aa}{p:Nat}(h:p<=S.length):(peek (S.drop p)).2=decide (p<S.length):=by
 by_cases hp:p<S.length
 ·rw[au hp,gg (bq hp)];rfl
 ·rw[aw hp,l9 (by omega)];rfl
def UR(I:List TI)(K:Int){DF:TD}(H:smT DF)(KF:Int)(lv:Int){S:aa}{p:Nat}(h:p<=S.length)(hS:S.length<100000):
  ∃y,fO 20000000 I K d0 KF DF 0 d0 false false lv S (p:Int)=some y/\XD S d0 KF DF false false (toP S p KF DF lv) y:=by
 have s:∀(l:Int) (t:l=if KF=1 then lv else mx 1 lv) (Z:¬(KF=1/\p=S.length)) (n:¬(KF=1/\dts (S.drop p)=true)),∃y,(obs (dH 20000000 I 2 d0 KF DF 0 d0 false false l S (p:Int)) (u13 λP z E B V Q T J C x L D R=>(some (.inr (P,z,E,B,V,Q,T,J,C,x,L,D,R)))) (u13 λN u e j c d w v g k i a b=>(obs (cZ 20000000 N u e j c d w v g k i a b I) (u2 λG U=>(some (.inr (G,U,e,j,c,d,w,v,g,k,i,a,b)))) (u2 λo m=>(ob (bj 20000000 a b) (u2 λ_ O=>(cond (!O) (ob (ap10 (ap10 (iS 20000000 c) d o) m) λW=>(cond (W != 0) (ob (aS 20000000 u 11 a b) (u2 λF M=>(some (.inr (F,M,e,j,c,d,o,m,g,k,i,a,b))))) (some (.inl (e,j,c,d,o,m,g,k,i,a,b))))) (some (.inl (e,j,c,d,o,m,g,k,i,a,b))))))))))=some y/\XD S d0 KF DF false false (toP S p KF DF lv) y:=by
  intro l t Z n;unfold toP;rw[LM I 2 d0 KF DF 0 d0 false false l h hS,ae Z,ae n];cases hr:ek S p with
  | inl f=>exact⟨_,rfl,_,rfl⟩
  | inr r=>
   obtain⟨Y,c1,l1,X⟩:=mD h hr;simp only[obs,sm,ob,u13,u12,u11,u10,u9,u8,u7,u6,u5,u4,u3,u2];rw[JB Y c1];cases hx:exT (tdR r)
   ·exact⟨_,rfl,_,rfl⟩
   ·simp only[aQ,qI _ _ _ X,It X];by_cases A:enR r<S.length
    ·rw[au A,af (.inl A)];exact⟨_,rfl,by rw[<-t];rfl⟩
    ·rw[aw A];simp only[kV,aj];rw[Ns H Y];simp only[];by_cases hp:np KF DF 1 (tdR r)=0
     ·rw[af (.inr hp),show(np KF DF 1 (tdR r) != 0)=false from by simp[hp]];exact⟨_,rfl,by rw[<-t];rfl⟩
     ·rw[ae (by rintro(h | h)<;>contradiction),show(np KF DF 1 (tdR r) != 0)=true from by simp[hp]];exact⟨_,rfl,_,rfl⟩
 unfold fO;by_cases q:KF=1
 ·rw[show(KF==1)=true from by simp[q],aj,qI _ _ _ h];simp only[ob,u2,It h,BY];by_cases hp:p<S.length
  ·rw[au hp];simp only[dT,ah];rw[nO _ _ _ _ h (by omega)];cases n:dts (S.drop p)
   ·rw[ae (show¬(S.drop p).take [(46:UInt8),46].length=[46,46]fromλh=>by unfold dts at n;rw[show(S.drop p).take 2=[46,46]from h]at n;cases n)];exact s lv (by rw[af q]) (by omega) (by rw[n];simp)
   ·rw[af (show(S.drop p).take [(46:UInt8),46].length=[46,46]from eq_of_beq n)];refine⟨_,rfl,?_⟩;unfold toP;rw[ae (by omega),af ⟨q,n⟩];rfl
  ·rw[aw hp];refine⟨_,rfl,?_⟩;unfold toP;rw[af ⟨q,by omega⟩];rfl
 ·rw[show(KF==1)=false from by simp[q],ah,BY];simp only[ob,u9,u8,u7,u6,u5,u4,u3,u2];exact s (mx 1 lv) (by rw[ae q]) (by simp[q]) (by simp[q])
noncomputable def toX(S:aa)(p:Nat)(KF:Int)(DF:TD)(lv:Int):(Nat×Nat)⊕(Int×TD×Int):=match toP S p KF DF lv with
 | .inl f=>.inl f
 | .inr (KT,DT,L,q)=>if q<S.length then .inl (q,5)else .inr (KT,DT,L)
noncomputable def jx(S:aa):(Nat×Nat)⊕(Int×TD×Int×TD×Int×TD×Int)⊕(Int×Bool×Bool×List TI):=
 if S.head?=some 91\/S.head?=some 123 then(match DZ S with | .inl f=>.inl f | .inr q=>.inr (.inr q))
 else if S.head?=some 47 then(match toX S 1 3 d0 0 with | .inl f=>.inl f | .inr (KT,DT,L)=>.inr (.inl (2,d0,3,d0,KT,DT,L)))
 else if dts S=true then(if(S.drop 2).head?=some 47 then(match toX S 3 2 d0 0 with | .inl f=>.inl f | .inr (KT,DT,L)=>.inr (.inl (2,d0,2,d0,KT,DT,L)))else .inl (2,5))
 else match ek S 0 with
  | .inl f=>.inl (f.1,f.2.1)
  | .inr r=>if(S.drop (enR r)).head?=some 47 then(if exT (tdR r)=true then(match toX S (enR r+1) 1 (tdR r) (lvR S 0 r)with | .inl f=>.inl f | .inr (KT,DT,L)=>.inr (.inl (2,d0,1,tdR r,KT,DT,L)))else .inl (plR r,11))
   else if enR r<S.length then .inl (enR r,5)else .inr (.inl (1,tdR r,0,d0,0,d0,lvR S 0 r))
def QO:(Nat×Nat)⊕(Int×TD×Int×TD×Int×TD×Int)⊕(Int×Bool×Bool×List TI)->(Int×TD×Int×TD×Int×TD×Bool×Bool×Int×Int×Int×List TI)⊕(Int×TD×Int×TD×Int×TD×Nat×Nat×Bool×Bool×Int×Int×Int×List TI)
 | .inl f=>.inl (0,d0,0,d0,0,d0,false,false,0,(f.1:Int),(f.2:Int),[])
 | .inr (.inl (K,D,KF,DF,KT,DT,L))=>.inl (K,D,KF,DF,KT,DT,false,false,L,0,0,[])
 | .inr (.inr (K,e,l,I))=>.inr (K,d0,0,d0,0,d0,I.length,I.length,e,l,2,0,0,I)
def tZ{S:aa}{p:Nat}(h:p<=S.length){f:Nat×Nat×Nat}(a:ek S p=.inl f):f.2.1≠0:=xZ (k:=f.1) (E:=f.2.1) (p:=f.2.2) h a
def WL{S:aa}{p:Nat}(h:p<=S.length){KF:Int}{DF:TD}{lv:Int}{KT:Int}{DT:TD}{L:Int}{q:Nat}(a:toP S p KF DF lv=.inr (KT,DT,L,q)):q<=S.length/\smT DT:=by
 unfold toP at a;split at a
 ·cases a;exact⟨h,mq⟩
 ·split at a
  ·rename_i e;cases a;exact⟨so e.2,mq⟩
  ·cases b:ek S p with
   | inl f=>rw[b]at a;cases a
   | inr r=>
    obtain⟨d,_,_,c⟩:=mD h b;rw[b]at a;simp only[]at a;split at a
    ·split at a
     ·cases a;exact⟨c,d⟩
     ·cases a
    ·cases a
def B6{S:aa}{p:Nat}(h:p<=S.length){KF:Int}{DF:TD}{lv:Int}{f:Nat×Nat}(a:toP S p KF DF lv=.inl f):f.2≠0:=by
 unfold toP at a;split at a
 ·cases a
 ·split at a
  ·cases a
  ·cases b:ek S p with
   | inl g=>rw[b]at a;cases a;exact tZ h b
   | inr r=>
    rw[b]at a;simp only[]at a;split at a
    ·split at a
     ·cases a
     ·cases a;simp
    ·cases a;simp
def Ft(l:aa)(c:UInt8)(hc:c≠0):((peek l).1==((c.toNat:Nat):Int))=decide (l.head?=some c):=by
 have:=XO l c hc;cases l with
 | nil=>exact this
 | cons a r=>exact this
def Je{S:aa}{p:Nat}(h:p<=S.length)(a:S.length<100000)(c:UInt8):aD 20000000 [c] S (p:Int)=some (decide ((S.drop p).head?=some c),S,((if(S.drop p).head?=some c then p+1 else p:Nat):Int)):=by
 rw[nO _ _ _ _ h (by omega)];simp only[tk1];by_cases hc:(S.drop p).head?=some c
 ·rw[af hc,af hc,au hc];rfl
 ·rw[ae hc,ae hc,aw hc]
def N5{S:aa}{p:Nat}(h:p<=S.length)(b:S.length<100000):aD 20000000 [46,46] S (p:Int)=some (dts (S.drop p),S,((if dts (S.drop p)=true then p+2 else p:Nat):Int)):=by
 rw[nO _ _ _ _ h (by omega)];cases a:dts (S.drop p)
 ·rw[ae (show¬(S.drop p).take [(46:UInt8),46].length=[46,46]fromλh=>by unfold dts at a;rw[show(S.drop p).take 2=[46,46]from h]at a;cases a)];rfl
 ·rw[af (show(S.drop p).take [(46:UInt8),46].length=[46,46]from eq_of_beq a)];rfl
def J4{S:aa}{p:Nat}(h:p<=S.length)(c:S.length<100000):cg 20000000 [47] S (p:Int)=some (if(S.drop p).head?=some 47 then .inl (S,((p+1:Nat):Int))else .inr ((p:Int),5,S,(p:Int))):=by
 rw[CL _ _ _ _ h (by omega) (by simp) (by simp)];simp only[tk1];by_cases hc:(S.drop p).head?=some 47
 ·rw[af hc,af hc];rfl
 ·rw[ae hc,ae hc];have:lcp (S.drop p) [47]=0:=by
   cases b:S.drop p with
   | nil=>rfl
   | cons a r=>
    rw[b]at hc;simp only[lcp];rw[show(a==47)=false from by rw[aL];rintro rfl;exact hc rfl];rfl
  rw[this];rfl
def X6(S:aa):(Nat×Nat)⊕(Int×TD×Int×TD×Int×TD×Int×Nat)⊕(Int×Bool×Bool×List TI×Nat)->((Int×Int×Int×TD×Int×TD×Int×TD×Bool×Bool×Int×aa×Int)⊕(Int×TD×Int×TD×Int×TD×Nat×Nat×Bool×Bool×Int×aa×Int×List TI)⊕(Int×TD×Int×TD×Int×TD×Bool×Bool×Int×aa×Int)⊕(Int×TD×Int×TD×Int×TD×Bool×Bool×Int×aa×Int×List TI))->Prop
 | .inl f,y=>∃z,y=.inl ((f.1:Int),(f.2:Int),z)
 | .inr (.inl (K,D,KF,DF,KT,DT,L,p)),y=>y=.inr (.inr (.inl (K,D,KF,DF,KT,DT,false,false,L,S,(p:Int))))\/y=.inr (.inr (.inr (K,D,KF,DF,KT,DT,false,false,L,S,(p:Int),[])))
 | .inr (.inr (K,e,l,I,p)),y=>y=.inr (.inl (K,d0,0,d0,0,d0,I.length,I.length,e,l,2,S,(p:Int),I))
noncomputable def Bm(S:aa):(Nat×Nat)⊕(Int×TD×Int×TD×Int×TD×Int×Nat)⊕(Int×Bool×Bool×List TI×Nat):=
 if S.head?=some 91\/S.head?=some 123 then(match vb S 0 with | .inl f=>.inl (f.1,f.2.1) | .inr q=>.inr (.inr q))
 else if S.head?=some 47 then(match toP S 1 3 d0 0 with | .inl f=>.inl f | .inr (KT,DT,L,q)=>.inr (.inl (2,d0,3,d0,KT,DT,L,q)))
 else if dts S=true then(if(S.drop 2).head?=some 47 then(match toP S 3 2 d0 0 with | .inl f=>.inl f | .inr (KT,DT,L,q)=>.inr (.inl (2,d0,2,d0,KT,DT,L,q)))else .inl (2,5))
 else match ek S 0 with
  | .inl f=>.inl (f.1,f.2.1)
  | .inr r=>if(S.drop (enR r)).head?=some 47 then(if exT (tdR r)=true then(match toP S (enR r+1) 1 (tdR r) (lvR S 0 r)with | .inl f=>.inl f | .inr (KT,DT,L,q)=>.inr (.inl (2,d0,1,tdR r,KT,DT,L,q)))else .inl (plR r,11))
   else .inr (.inl (1,tdR r,0,d0,0,d0,lvR S 0 r,enR r))
def mx0{a:Int}(h:0<=a):mx a 0=a:=by unfold mx;split<;>omega
def Uf{S:aa}(g:S.length<100000):∃y,iJ 20000000 [] 0 d0 0 d0 0 d0 false false 0 S 0=some y/\X6 S (Bm S) y:=by
 have z0:(0:Int)=((0:Nat):Int):=rfl;have P:=qI 20000000 S 0 (iK _);rw[dk,show((0:Nat):Int)=0 from rfl]at P;have Q:=UH (S:=S) (a:=0) (iK _) g;rw[show((0:Nat):Int)=0 from rfl]at Q;have N:=Je (S:=S) (p:=0) (iK _) g 47;rw[dk,show((0:Nat):Int)=0 from rfl]at N;have T:=N5 (S:=S) (p:=0) (iK _) g;rw[dk,show((0:Nat):Int)=0 from rfl]at T;have O:=LM [] 0 d0 0 d0 0 d0 false false 0 (S:=S) (p:=0) (iK _) g;rw[show((0:Nat):Int)=0 from rfl]at O;have A:((peek S).1==91)=decide (S.head?=some 91):=Ft S 91 (by decide);have o:((peek S).1==123)=decide (S.head?=some 123):=Ft S 123 (by decide);have set:(S.head?=some 91\/S.head?=some 123)->∃y,(obs (n9 20000000 S 0) (u4 λY v2 W v4=>(some (.inl (Y,v2,0,d0,0,d0,0,d0,false,false,0,W,v4)))) (u13 λU V v7 X v9 w x u C s l k m=>(ob (gf 20000000 2 l k m U V v7 X v9 w x u C s 0) (u11 λE M D G F t B v K H I=>(some (.inr (.inl (E,M,D,G,F,t,B,v,K,H,I,l,k,m))))))))=some y/\X6 S (Bm S) y:=by
  intro h;rw[Q];unfold Bm;rw[af h];cases vb S 0 with
  | inl f=>exact⟨_,rfl,_,rfl⟩
  | inr q=>exact⟨_,rfl,rfl⟩
 unfold iJ;rw[P];simp only[ob,u2,A,o];by_cases i:S.head?=some 91
 ·rw[au i,aj];exact set (.inl i)
 rw[aw i,ah];by_cases b:S.head?=some 123
 ·rw[au b,aj];exact set (.inr b)
 rw[aw b,ah,N];clear set;unfold Bm;rw[ae (show¬(S.head?=some 91\/S.head?=some 123)fromλh=>h.elim i b)];simp only[u3,u2];by_cases e:S.head?=some 47
 ·simp only[au e,af e,aj];have J:1<=S.length:=by
   have:=jA (S:=S) (p:=0) (c:=47) (by rw[dk];exact e);omega
  obtain⟨y,n,d⟩:=UR [] 0 mq 3 0 (S:=S) (p:=1) J g;rw[show(((0+1:Nat)):Int)=((1:Nat):Int)from rfl,n];cases j:toP S 1 3 d0 0 with
  | inl f=>
   rw[j]at d;obtain⟨z,rfl⟩:=d;exact⟨_,rfl,_,rfl⟩
  | inr q=>
   rw[j]at d;obtain⟨KT,DT,L,q⟩:=q;subst d;exact⟨_,rfl,.inl rfl⟩
 ·simp only[aw e,ae e,ah];rw[show(((0:Nat)):Int)=0 from rfl,T];simp only[];cases Z:dts S
  ·rw[ae (by simp),ae (by simp),ah,show(((0:Nat)):Int)=0 from rfl,O];cases hr:ek S 0 with
   | inl f=>exact⟨_,rfl,_,rfl⟩
   | inr r=>
    obtain⟨R,c1,l1,l2⟩:=mD (iK _) hr;simp only[obs,sm,ob,u13,u12,u11,u10,u9,u8,u7,u6,u5,u4,u3,u2];rw[Je l2 g,mx0 (LV S 0 r).1];simp only[];by_cases hs:(S.drop (enR r)).head?=some 47
    ·simp only[au hs,af hs,dT,ah];rw[JB R c1];cases hx:exT (tdR r)
     ·exact⟨_,rfl,_,rfl⟩
     ·obtain⟨y,n,d⟩:=UR [] 0 R 1 (lvR S 0 r) (S:=S) (p:=enR r+1) (jA hs) g;simp only[aQ];rw[n];cases j:toP S (enR r+1) 1 (tdR r) (lvR S 0 r)with
      | inl f=>
       rw[j]at d;obtain⟨z,rfl⟩:=d;exact⟨_,rfl,_,rfl⟩
      | inr q=>
       rw[j]at d;obtain⟨KT,DT,L,q⟩:=q;subst d;exact⟨_,rfl,.inl rfl⟩
    ·simp only[aw hs,ae hs];exact⟨_,rfl,.inr rfl⟩
  ·rw[af rfl,af rfl,aj];have J:2<=S.length:=by
    have:=so (S:=S) (p:=0) (by rw[dk];exact Z);omega
   rw[show(((0+2:Nat)):Int)=((2:Nat):Int)from rfl,J4 J g];by_cases hs:(S.drop 2).head?=some 47
   ·simp only[af hs];obtain⟨y,n,d⟩:=UR [] 0 mq 2 0 (S:=S) (p:=3) (jA hs) g;rw[show(((2+1:Nat)):Int)=((3:Nat):Int)from rfl];simp only[obs,sm,ob,u2,n];cases j:toP S 3 2 d0 0 with
    | inl f=>
     rw[j]at d;obtain⟨z,rfl⟩:=d;exact⟨_,rfl,_,rfl⟩
    | inr q=>
     rw[j]at d;obtain⟨KT,DT,L,q⟩:=q;subst d;exact⟨_,rfl,.inl rfl⟩
   ·simp only[ae hs];exact⟨_,rfl,_,rfl⟩
def MD{S:aa}{f:Nat×Nat}(a:Bm S=.inl f):f.2≠0:=by
 unfold Bm at a;split at a
 ·cases b:vb S 0 with
  | inl g=>rw[b]at a;cases a;exact EW (iK _) b
  | inr q=>rw[b]at a;cases a
 ·split at a
  ·rename_i h;cases b:toP S 1 3 d0 0 with
   | inl g=>
    rw[b]at a;cases a;exact B6 (jA (S:=S) (p:=0) (by rw[dk];exact h)) b
   | inr q=>rw[b]at a;cases a
  ·split at a
   ·split at a
    ·rename_i h;cases b:toP S 3 2 d0 0 with
     | inl g=>rw[b]at a;cases a;exact B6 (jA h) b
     | inr q=>rw[b]at a;cases a
    ·cases a;simp
   ·cases b:ek S 0 with
    | inl g=>rw[b]at a;cases a;exact tZ (iK _) b
    | inr r=>
     rw[b]at a;simp only[]at a;split at a
     ·rename_i h;split at a
      ·cases c:toP S (enR r+1) 1 (tdR r) (lvR S 0 r)with
       | inl g=>rw[c]at a;cases a;exact B6 (jA h) c
       | inr q=>rw[c]at a;cases a
      ·cases a;simp
     ·cases a
def G7(S:aa):jx S=match Bm S with
  | .inl f=>.inl f
  | .inr (.inl (K,D,KF,DF,KT,DT,L,q))=>if q<S.length then .inl (q,5)else .inr (.inl (K,D,KF,DF,KT,DT,L))
  | .inr (.inr (K,e,l,I,q))=>if q<S.length then .inl (q,5)else .inr (.inr (K,e,l,I)):=by
 unfold jx Bm DZ toX;split
 ·cases vb S 0 with
  | inl f=>rfl
  | inr q=>
   obtain⟨_,_,_,_,p⟩:=q;by_cases hp:p<S.length<;>simp[hp]
 ·split
  ·cases toP S 1 3 d0 0 with
   | inl f=>rfl
   | inr q=>
    obtain⟨_,_,_,p⟩:=q;by_cases hp:p<S.length<;>simp[hp]
  ·split
   ·split
    ·cases toP S 3 2 d0 0 with
     | inl f=>rfl
     | inr q=>
      obtain⟨_,_,_,p⟩:=q;by_cases hp:p<S.length<;>simp[hp]
    ·rfl
   ·cases ek S 0 with
    | inl f=>rfl
    | inr r=>
     simp only[];split
     ·split
      ·cases toP S (enR r+1) 1 (tdR r) (lvR S 0 r)with
       | inl f=>rfl
       | inr q=>
        obtain⟨_,_,_,p⟩:=q;by_cases hp:p<S.length<;>simp[hp]
      ·rfl
     ·rfl
def PS{S:aa}(g:S.length<=16384):nQ 20000000 S=some (QO (jx S)):=by
 obtain⟨y,c,a⟩:=Uf (S:=S) (by omega);unfold nQ eG;rw[show decide (len S>16384)=false from aw (by show¬(16384:Int)<((S.length:Nat):Int);omega),ah,c,G7];cases b:Bm S with
 | inl f=>
  have d:=MD b;rw[b]at a;obtain⟨z,rfl⟩:=a;simp only[obs,sm,ob,u13,u12,u11,u10,u9,u8,u7,u6,u5,u4,u3,u2];rw[show(((f.2:Nat):Int) != 0)=true from by simp;omega];rfl
 | inr q=>
  rw[b]at a;cases q with
  | inl q=>
   obtain⟨K,D,KF,DF,KT,DT,L,p⟩:=q;simp only[];rcases a with rfl | rfl
   ·simp only[obs,sm,ob,u13,u12,u11,u10,u9,u8,u7,u6,u5,u4,u3,u2];by_cases hp:p<S.length
    ·rw[af hp,au (show(p:Int)<((S.length:Nat):Int)by omega)];rfl
    ·rw[ae hp,aw (show¬(p:Int)<((S.length:Nat):Int)by omega)];rfl
   ·simp only[obs,sm,ob,u14,u13,u12,u11,u10,u9,u8,u7,u6,u5,u4,u3,u2];by_cases hp:p<S.length
    ·rw[af hp,au (show(p:Int)<((S.length:Nat):Int)by omega)];rfl
    ·rw[ae hp,aw (show¬(p:Int)<((S.length:Nat):Int)by omega)];rfl
  | inr q=>
   obtain⟨K,e,l,I,p⟩:=q;subst a;simp only[obs,sm,ob,u16,u15,u14,u13,u12,u11,u10,u9,u8,u7,u6,u5,u4,u3,u2];by_cases hp:p<S.length
   ·rw[af hp,au (show(p:Int)<((S.length:Nat):Int)by omega)];rfl
   ·rw[ae hp,aw (show¬(p:Int)<((S.length:Nat):Int)by omega)];rfl
def lvX(x:TD):Int:=lvT (gP x) x
def Pq{x:TD}(hs:smT x)(hc:cF x=0):∃r,ek (gP x) 0=.inr r/\tdR r=x/\enR r=(gP x).length/\lvR (gP x) 0 r=lvX x:=by
 obtain⟨r,d,c,b⟩:=AK hs hc (S:=gP x) (a:=0) (post:=[]) (by simp) BZ;rw[cU]at b;refine⟨r,d,c,b,?_⟩;unfold lvR lvX;rw[c,b,tX,dk,oq]
def ki(K:Int)(x:TD):aa:=if K=2 then[46,46]else if K=3 then[]else gP x
def okB(K:Int)(x:TD):Prop:=(K=1/\cF x=0/\exT x=true)\/((K=2\/K=3)/\x=d0)
def Tf{K:Int}{x:TD}(h:qD K x=0):okB K x:=by
 by_cases c:K=1
 ·subst c;obtain⟨a,b⟩:=tJ h;exact .inl ⟨rfl,a,b⟩
 ·unfold qD chkB at h;rw[ae c]at h;split at h
  ·rename_i e;split at h
   ·rename_i d;exact .inr ⟨e,fY.1 d⟩
   ·cases h
  ·cases h
def qh{KF KT:Int}{x y:TD}(h:np KF x KT y=0):okB KF x/\okB KT y/\(KF=1\/KT=1):=by
 unfold np GY at h;by_cases a:qD KF x=0
 ·rw[ae (λz=>z a)]at h;by_cases b:qD KT y=0
  ·rw[ae (λz=>z b)]at h;split at h
   ·cases h
   ·rename_i c;exact⟨Tf a,Tf b,by omega⟩
  ·rw[af b]at h;exact absurd h b
 ·rw[af a]at h;exact absurd h a
inductive RightP:Int->TD->Int->TD->Int->TD->Bool->Bool->List TI->Prop where
 | single {x:TD} (hs:smT x) (hc:cF x=0):RightP 1 x 0 d0 0 d0 false false []
 | interval {KF:Int} {x:TD} {KT:Int} {y:TD} (hx:smT x) (hy:smT y) (hp:np KF x KT y=0):RightP 2 d0 KF x KT y false false []
 | set {K:Int} {e l:Bool} {I:List TI} (P:SetP K d0 0 d0 0 d0 e l I) (hs:∀t∈I,smI t):RightP K d0 0 d0 0 d0 e l I
def Em{k:Int}{D:TD}{KF:Int}{DF:TD}{KT:Int}{DT:TD}{e l:Bool}{I:List TI}(hs:smE D DF DT I)(h:(iE k D KF DF KT DT e l I).2=0):RightP k D KF DF KT DT e l I:=by
 by_cases f:k=3\/k=4
 ·have P:=yd f h;obtain⟨rfl,rfl,rfl,rfl,rfl⟩:D=d0/\KF=0/\DF=d0/\KT=0/\DT=d0:=⟨P.d,P.kf,P.df,P.kt,P.dt⟩;exact .set P hs.2.2.2
 ·unfold iE at h;split at h
  ·simp at h
  ·split at h
   ·simp at h
   ·rename_i n a;unfold unuB at a;generalize z1:eqD D d0=p at a;generalize z2:eqD DF d0=o at a;generalize j:eqD DT d0=q at a;by_cases k1:k=1
    ·subst k1;rw[af rfl]at h;simp at a;obtain⟨⟨⟨a1,a2⟩,b,c⟩,g,m,i⟩:=a;subst a1 b g m i;rw[fY.1 (z2.trans a2),fY.1 (j.trans c)];exact .single hs.1 h
    ·have k2:k=2:=by omega
     subst k2;rw[ae (by omega),af rfl]at h;simp at a;obtain⟨a1,a2,b,c⟩:=a;subst a2 b c;rw[fY.1 (z1.trans a1)];exact .interval hs.2.1 hs.2.2.1 h
def kg(k:Int)(D:TD)(KF:Int)(DF:TD)(KT:Int)(DT:TD)(e l:Bool)(I:List TI):aa:=
 if k=1 then gP D else if k=2 then ki KF DF++47::ki KT DT else sg k e l I
def lvE(k:Int)(D:TD)(KF:Int)(DF:TD)(KT:Int)(DT:TD):Int:=
 if k=1 then lvX D else if k=2 then mx (if KT=1 then lvX DT else 1) (if KF=1 then lvX DF else 1)else 2
def exOf(k:Int)(D:TD)(KF:Int)(DF:TD)(KT:Int)(DT:TD)(e l:Bool)(I:List TI)(L:Int):(Nat×Nat)⊕(Int×TD×Int×TD×Int×TD×Int)⊕(Int×Bool×Bool×List TI):=
 if k=1\/k=2 then .inr (.inl (k,D,KF,DF,KT,DT,L))else .inr (.inr (k,e,l,I))
def Ah{x:TD}(hs:smT x)(hc:cF x=0)(r:aa)(c:UInt8)(a:brk c=true):(gP x++r).head?≠some c:=λh=>by
 have:=oH hs hc r c h;rw[a]at this;cases this
def PU{x:TD}(hs:smT x)(hc:cF x=0):gP x≠[]:=by
 obtain⟨g,l,dg,e,q,m,d,a,b,c,rfl,ok⟩:=lG hs hc;obtain⟨f,_,_⟩:=xN ok.yr;intro h;have h:qG g l dg (e:Int) (q:Int) m d a b c=[]:=h;unfold qG cD at h;have:=cT List.length h;simp only[aH,aX]at this;exact f (tu (by omega))
def Bn{KF:Int}{DF:TD}{KT:Int}{DT:TD}(hx:smT DF)(hy:smT DT)(hp:np KF DF KT DT=0){S:aa}{p:Nat}(n:p<=S.length)(h:S.drop p=ki KT DT)(lv:Int):
  toX S p KF DF lv=.inr (KT,DT,mx (if KT=1 then lvX DT else 1) (if KF=1 then lv else mx 1 lv)):=by
 obtain⟨t,o,b1⟩:=qh hp;have b:=cT List.length h;rw[cj]at b;unfold toX toP;rcases o with⟨rfl,hc,j⟩ | ⟨k,rfl⟩
 ·have f:ki 1 DT=gP DT:=by unfold ki;rw[ae (by omega),ae (by omega)]
  rw[f]at h b;have i:¬(KF=1/\p=S.length):=by
   rintro⟨_,e⟩;exact PU hy hc (tu (by omega))
  have d:¬(KF=1/\dts (S.drop p)=true):=by
   rintro⟨_,e⟩;rw[h]at e;have:=oH hy hc [];rw[ko]at this;rw[pI this]at e;cases e
  obtain⟨r,m,g,q⟩:=AK hy hc (S:=S) (a:=p) (post:=[]) (by rw[h,ko]) BZ;rw[ae i,ae d,m];simp only[];rw[g,af j,af (.inr hp)];simp only[aQ];rw[ae (by omega)];have:lvR S p r=lvX DT:=by
   unfold lvR lvX;rw[g,q,h];rw[show p+(gP DT).length - p=(gP DT).length by omega,oq]
  rw[this]
 ·have l:KF=1:=by omega
  subst l;rcases k with rfl | rfl
  ·have f:S.drop p=[46,46]:=h;have d:dts (S.drop p)=true:=by rw[f];rfl
   have s:=so d;have c:(ki 2 d0).length=2:=rfl;rw[ae (by omega),af ⟨rfl,d⟩];simp only[];rw[ae (by omega)];rfl
  ·have c:(ki 3 d0).length=0:=rfl;rw[af ⟨rfl,by omega⟩];simp only[];rw[ae (by omega)];rfl
def FA{x:TD}(hs:smT x)(hc:cF x=0):jx (gP x)=.inr (.inl (1,x,0,d0,0,d0,lvX x)):=by
 obtain⟨r,e,d,f,r4⟩:=Pq hs hc;have a:=oH hs hc [];rw[ko]at a;have b:=λc a=>Ah hs hc [] c a;rw[ko]at b;generalize gP x=T at *;unfold jx;rw[ae (by rintro(h | h);exact b 91 (by decide) h;exact b 123 (by decide) h),ae (b 47 (by decide)),pI a,ae (by simp),e];simp only[];rw[f,AX,ae (by simp),ae (by omega),d,r4]
def KU{DF:TD}(hx:smT DF)(hc:cF DF=0)(l:exT DF=true){KT:Int}{DT:TD}(hy:smT DT)(hp:np 1 DF KT DT=0):jx (gP DF++47::ki KT DT)=.inr (.inl (2,d0,1,DF,KT,DT,mx (if KT=1 then lvX DT else 1) (lvX DF))):=by
 have d:=oH hx hc (47::ki KT DT);have f:=λc d=>Ah hx hc (47::ki KT DT) c d;generalize g:gP DF++47::ki KT DT=S at *;obtain⟨r,n,k,i⟩:=AK hx hc (S:=S) (a:=0) (post:=47::ki KT DT) (by rw[dk,g]) (rD (by decide));rw[cU]at i;have b:S.drop (enR r)=47::ki KT DT:=by rw[i,<-g,List.drop_left]
 have o:S.drop (enR r+1)=ki KT DT:=by rw[<-kZ,b];rfl
 have m:lvR S 0 r=lvX DF:=by
  unfold lvR lvX;rw[k,i,tX,dk,<-g,FH]
 have e:enR r+1<=S.length:=by
  have:=cT List.length b;rw[cj,aC]at this;omega
 have j:=Bn hx hy hp e o (lvX DF);rw[af rfl]at j;unfold jx;rw[ae (by rintro(h | h);exact f 91 (by decide) h;exact f 123 (by decide) h),ae (f 47 (by decide)),pI d,ae (by simp),n];simp only[];rw[b,pA,af rfl,k,af l,m,j]
def JJ{DT:TD}(hy:smT DT)(hp:np 2 d0 1 DT=0):jx (46::46::47::gP DT)=.inr (.inl (2,d0,2,d0,1,DT,mx (lvX DT) 1)):=by
 have a:=Bn mq hy hp (S:=46::46::47::gP DT) (p:=3) (by simp only[aC];omega) (by simp only[oM,dk];unfold ki;rw[ae (by omega),ae (by omega)]) 0;rw[af rfl,ae (by omega)]at a;generalize gP DT=T at *;unfold jx;rw[ae (by simp),ae (by simp)];have b:dts (46::46::47::T)=true:=rfl;rw[af b,af (by rfl),a];rfl
def LR{DT:TD}(hy:smT DT)(hp:np 3 d0 1 DT=0):jx (47::gP DT)=.inr (.inl (2,d0,3,d0,1,DT,mx (lvX DT) 1)):=by
 have a:=Bn mq hy hp (S:=47::gP DT) (p:=1) (by simp only[aC];omega) (by simp only[oM,dk];unfold ki;rw[ae (by omega),ae (by omega)]) 0;rw[af rfl,ae (by omega)]at a;generalize gP DT=T at *;unfold jx;rw[ae (by simp),af (by rfl),a];rfl
def uk{k:Int}{D:TD}{KF:Int}{DF:TD}{KT:Int}{DT:TD}{e l:Bool}{I:List TI}(h:RightP k D KF DF KT DT e l I):jx (kg k D KF DF KT DT e l I)=exOf k D KF DF KT DT e l I (lvE k D KF DF KT DT):=by
 cases h with
 | single hs hc=>
  unfold kg exOf lvE;rw[af (by omega),af (by omega),af (by omega),FA hs hc]
 | interval hx hy hp=>
  obtain⟨n,p,b1⟩:=qh hp;unfold kg exOf lvE;rw[ae (by omega),af (by omega),af (by omega),ae (by omega),af (by omega)];rcases n with⟨rfl,hc,g⟩ | ⟨c,rfl⟩
  ·have b:ki 1 DF=gP DF:=by unfold ki;rw[ae (by omega),ae (by omega)]
   rw[b,KU hx hc g hy hp,af (show(1:Int)=1 from rfl)]
  ·have o:KT=1:=by omega
   subst o;have b:ki 1 DT=gP DT:=by unfold ki;rw[ae (by omega),ae (by omega)]
   rw[b,af (show(1:Int)=1 from rfl),ae (by omega)];rcases c with rfl | rfl
   ·have m:ki 2 d0=[46,46]:=by unfold ki;rw[af rfl]
    rw[m];exact JJ hy hp
   ·have j:ki 3 d0=[]:=by unfold ki;rw[ae (by omega),af rfl]
    rw[j];exact LR hy hp
 | set P hs=>
  have ok:=λt b=>(IW P hs t b).1;have c:=P.kind;have d:¬(k=1\/k=2):=by omega
  have f:kg k d0 0 d0 0 d0 e l I=sg k e l I:=by
   unfold kg;rw[ae (by omega),ae (by omega)]
  have a:∀L,exOf k d0 0 d0 0 d0 e l I L=.inr (.inr (k,e,l,I)):=λL=>by
   unfold exOf;rw[ae d]
  rw[f,a];have i:(sg k e l I).head?=some 91\/(sg k e l I).head?=some 123:=by
   unfold sg;rw[pA];split
   ·exact .inr rfl
   ·exact .inl rfl
  have hp:=J5 c P.one P.most ok P.set;generalize sg k e l I=T at *;unfold jx;rw[af i,hp]
def E4{K:Int}{x:TD}(hs:smT x)(h:okB K x):ap10 (iC 20000000 K) x=some (ki K x):=by
 rcases h with⟨rfl,hc,b⟩ | ⟨c,rfl⟩
 ·have a:chkB 1 x.1 x.2.1 x.2.2.1 x.2.2.2.1 x.2.2.2.2.1 x.2.2.2.2.2.1 x.2.2.2.2.2.2.1 x.2.2.2.2.2.2.2.1 x.2.2.2.2.2.2.2.2.1 x.2.2.2.2.2.2.2.2.2=0:=by
   unfold chkB;rw[af rfl];have hc':chkF x.1 x.2.1 x.2.2.1 x.2.2.2.1 x.2.2.2.2.1 x.2.2.2.2.2.1 x.2.2.2.2.2.2.1 x.2.2.2.2.2.2.2.1 x.2.2.2.2.2.2.2.2.1 x.2.2.2.2.2.2.2.2.2=0:=hc;have he':exD x.2.2.1 x.2.2.2.2.2.1 x.2.2.2.2.2.2.1 x.2.2.2.2.1=true:=b;rw[hc',he'];rfl
  exact KB hs.1 hs.2.1 hs.2.2.1 hs.2.2.2.1 hs.2.2.2.2.1 hs.2.2.2.2.2 a
 ·rcases c with rfl | rfl<;>rfl
def qi{K:Int}{x:TD}(hs:smT x)(h:okB K x):(ki K x).length<=37:=by
 rcases h with⟨rfl,hc,c⟩ | ⟨b,rfl⟩
 ·have a:ki 1 x=gP x:=by unfold ki;rw[ae (by omega),ae (by omega)]
  rw[a];exact lR hs hc
 ·rcases b with rfl | rfl<;>decide
def Iw{k:Int}{D:TD}{KF:Int}{DF:TD}{KT:Int}{DT:TD}{e l:Bool}{I:List TI}(h:RightE k D KF DF KT DT e l I):RightP k D KF DF KT DT e l I:=Em h.sm (by rw[h.first])
def AM{k:Int}{D:TD}{KF:Int}{DF:TD}{KT:Int}{DT:TD}{e l:Bool}{I:List TI}(h:RightP k D KF DF KT DT e l I)(g:I.length<=5):(kg k D KF DF KT DT e l I).length<=16384:=by
 cases h with
 | single hs hc=>
  have:=lR hs hc;unfold kg;rw[af rfl];omega
 | interval hx hy hp=>
  obtain⟨c,b,_⟩:=qh hp;have f:=qi hx c;have i:=qi hy b;unfold kg;rw[ae (by omega),af rfl,aH,aC];omega
 | set P hs=>
  have d:=P.kind;unfold kg;rw[ae (by omega),ae (by omega)];have:=uM (I:=I) λt a=>(IW P hs t a).1;unfold sg;cases e<;>cases l<;>simp<;>omega
def few{k:Int}{D:TD}{KF:Int}{DF:TD}{KT:Int}{DT:TD}{e l:Bool}{I:List TI}(h:RightP k D KF DF KT DT e l I)(a:k=1\/k=2):e=false/\l=false/\I=[]:=by
 cases h with
 | single hs hc=>exact⟨rfl,rfl,rfl⟩
 | interval hx hy hp=>exact⟨rfl,rfl,rfl⟩
 | set P hs=>have:=P.kind;omega
def sets{k:Int}{D:TD}{KF:Int}{DF:TD}{KT:Int}{DT:TD}{e l:Bool}{I:List TI}(h:RightP k D KF DF KT DT e l I)(a:¬(k=1\/k=2)):D=d0/\KF=0/\DF=d0/\KT=0/\DT=d0/\(k=3\/k=4):=by
 cases h with
 | single hs hc=>omega
 | interval hx hy hp=>omega
 | set P hs=>exact⟨rfl,rfl,rfl,rfl,rfl,P.kind⟩
def Ui{K:Int}{x:TD}(h:okB K x):qD K x=0:=by
 rcases h with⟨rfl,hc,b⟩ | ⟨a,rfl⟩
 ·exact wz hc b
 ·rcases a with rfl | rfl<;>kernel_rfl
def IH{K:Int}{x:TD}(hs:smT x)(h:okB K x):ap10 (jC 20000000 K) x=some (ki K x,0):=by
 have b:chkB K x.1 x.2.1 x.2.2.1 x.2.2.2.1 x.2.2.2.2.1 x.2.2.2.2.2.1 x.2.2.2.2.2.2.1 x.2.2.2.2.2.2.2.1 x.2.2.2.2.2.2.2.2.1 x.2.2.2.2.2.2.2.2.2=0:=Ui h;have:=Vf (K:=K) (g:=x.1) (l:=x.2.1) (x:=x.2.2.2.1) (q:=x.2.2.2.2.1) hs.1 hs.2.1 hs.2.2.1 hs.2.2.2.1 hs.2.2.2.2.1 hs.2.2.2.2.2;rw[af b]at this;refine this.trans ?_;unfold ki gP;by_cases a:K=2
 ·simp only[a,aQ]
 ·simp only[a,aG]
def FY{KF:Int}{x:TD}{KT:Int}{y:TD}(hx:smT x)(hy:smT y)(hp:np KF x KT y=0)(K:Int)(D:TD)(e l:Bool)(I:List TI):
  io 20000000 K D KF x KT y e l I=some (ki KF x++47::ki KT y,0):=by
 obtain⟨a,b,_⟩:=qh hp;have c:=qi hx a;have d:=qi hy b;unfold io;rw[IH hx a,IH hy b];simp only[ob,u2];rw[bI (by simp only[aC,aX];omega)];simp only[];rw[bI (by simp only[aH,aC,aX];omega)];simp only[fa,eX,dQ]
def P6{k:Int}{D:TD}{KF:Int}{DF:TD}{KT:Int}{DT:TD}{e l:Bool}{I:List TI}(h:RightP k D KF DF KT DT e l I):(iE k D KF DF KT DT e l I).2=0:=by
 cases h with
 | single hs hc=>rw[(se hs hc).first]
 | interval hx hy hp=>rw[(pj hx hy hp).first]
 | set P hs=>exact P.set
def Zv{k:Int}{D:TD}{KF:Int}{DF:TD}{KT:Int}{DT:TD}{e l:Bool}{I:List TI}(h:RightP k D KF DF KT DT e l I):smE D DF DT I:=by
 cases h with
 | single hs hc=>exact⟨hs,mq,mq,λt a=>by cases a⟩
 | interval hx hy hp=>exact⟨mq,hx,hy,λt a=>by cases a⟩
 | set P hs=>exact⟨mq,mq,mq,hs⟩
def Lt{k:Int}{D:TD}{KF:Int}{DF:TD}{KT:Int}{DT:TD}{e l:Bool}{I:List TI}(hs:smE D DF DT I):
  fU 20000000 k D KF DF KT DT e l I=some (if(iE k D KF DF KT DT e l I).2=0 then(kg k D KF DF KT DT e l I,0)else([],(iE k D KF DF KT DT e l I).2)):=by
 unfold fU;rw[Ii hs];by_cases a:(iE k D KF DF KT DT e l I).2=0
 ·rw[af a,a];have P:=Em hs a;simp only[ob,fG,ah,kE];cases P with
  | single hx hc=>
   rw[show((1:Int)==1)=true from rfl,aj];unfold jp kg;rw[af rfl,dfT hx hc];simp only[ob,u2]
  | interval hx hy hp=>
   rw[show((2:Int)==1)=false from rfl,ah,show((2:Int)==2)=true from rfl,aj,FY hx hy hp];unfold kg;rw[ae (by omega),af rfl]
  | set P hi=>
   have b:=P.kind;have c:=Un (K:=k) (KF:=0) (KT:=0) (e:=e) (l:=l) hs;rw[af (show GU k from b),af a]at c;rw[c];unfold kg;rw[ae (by rcases b with rfl | rfl<;>omega),ae (by rcases b with rfl | rfl<;>omega)];generalize sg k e l I=w;rcases b with rfl | rfl<;>rfl
 ·rw[ae a];simp only[ob];rw[show((iE k D KF DF KT DT e l I).2 != 0)=true from bne_iff_ne.2 a,aj]
def yK{k:Int}{D:TD}{KF:Int}{DF:TD}{KT:Int}{DT:TD}{e l:Bool}{I:List TI}(h:RightP k D KF DF KT DT e l I):
  fU 20000000 k D KF DF KT DT e l I=some (kg k D KF DF KT DT e l I,0):=by
 rw[Lt (Zv h),af (P6 h)]
def vT{k:Int}{D:TD}{KF:Int}{DF:TD}{KT:Int}{DT:TD}{e l:Bool}{I:List TI}(h:RightP k D KF DF KT DT e l I):eJ 20000000 k D KF DF KT DT e l I=some (kg k D KF DF KT DT e l I):=by
 cases h with
 | single hs hc=>
  unfold eJ kg;rw[af rfl,rfT hs hc];rfl
 | interval hx hy hp=>
  obtain⟨b,a,_⟩:=qh hp;have f:=qi hx b;have i:=qi hy a;unfold eJ kg;rw[ae (by omega),af rfl,E4 hx b,E4 hy a];simp only[show((2:Int)==1)=false from rfl,show((2:Int)==2)=true from rfl,aj,ah,ob];rw[bI (by simp only[aC,aX];omega)];simp only[];rw[bI (by simp only[aH,aC,aX];omega)];simp only[fa,eX,dQ]
 | set P hs=>
  have c:=P.kind;have g:=P.most;have ok:=λt d=>(IW P hs t d).1;unfold eJ kg;rw[ae (by omega),ae (by omega),show(k==1)=false from by simp;omega,show(k==2)=false from by simp;omega];simp only[ah,Nc c ok (by omega),ob]
def KJ(n:Nat)(K:Int)(D:TD)(KF:Int)(DF:TD)(KT:Int)(DT:TD)(c d:Nat)(e l:Bool)(L:List TI):kQ n K D KF DF KT DT c d e l L=io n K D KF DF KT DT e l L:=rfl
def ON(n:Nat)(K:Int)(D:TD)(KF:Int)(DF:TD)(KT:Int)(DT:TD)(c d:Nat)(e l:Bool)(L:List TI):jZ n K D KF DF KT DT c d e l L=jp n K D KF DF KT DT e l L:=rfl
def Qs(n:Nat)(K:Int)(D:TD)(KF:Int)(DF:TD)(KT:Int)(DT:TD)(c:Nat)(e l:Bool)(L:List TI):jO n K D KF DF KT DT L.length c e l L=fU n K D KF DF KT DT e l L:=by
 unfold jO fU;rw[NZ];simp only[KJ,ON,X5]
noncomputable def canX:(Nat×Nat)⊕(Int×TD×Int×TD×Int×TD×Int)⊕(Int×Bool×Bool×List TI)->aa×Int×Int
 | .inl f=>([],(f.1:Int),(f.2:Int))
 | .inr (.inl (K,D,KF,DF,KT,DT,_))=>(kg K D KF DF KT DT false false [],0,0)
 | .inr (.inr (K,e,l,I))=>(kg K d0 0 d0 0 d0 e l I,0,0)
def S8:(Nat×Nat)⊕(Int×TD×Int×TD×Int×TD×Int)⊕(Int×Bool×Bool×List TI)->Prop
 | .inl f=>f.2≠0
 | .inr (.inl (K,D,KF,DF,KT,DT,L))=>RightP K D KF DF KT DT false false []/\(K=1\/K=2)
 | .inr (.inr (K,e,l,I))=>RightP K d0 0 d0 0 d0 e l I/\GU K
def rZ{S:aa}(b:S.length<=16384)(h:S8 (jx S)):bz 20000000 S=some (canX (jx S)):=by
 unfold bz;rw[PS b];generalize jx S=y at h;rcases y with f | ⟨K,D,KF,DF,KT,DT,L⟩ | ⟨K,e,l,I⟩
 ·have h:f.2≠0:=h;simp only[QO,obs,sm,ob,u12,u11,u10,u9,u8,u7,u6,u5,u4,u3,u2];rw[show(((f.2:Nat):Int) != 0)=true from bne_iff_ne.2 (by omega),aj];rfl
 ·have a:=yK h.1;simp only[QO,obs,sm,ob,u12,u11,u10,u9,u8,u7,u6,u5,u4,u3,u2,fG,ah,a,ob];rfl
 ·have a:=yK h.1;simp only[QO,obs,sm,ob,u14,u13,u12,u11,u10,u9,u8,u7,u6,u5,u4,u3,u2,fG,ah,Qs,a,ob];rfl
def P4:jf 20000000=some true:=by kernel_rfl
def xU{k:Int}{D:TD}{KF:Int}{DF:TD}{KT:Int}{DT:TD}{e l:Bool}{I:List TI}(h:RightP k D KF DF KT DT e l I)(c:(kg k D KF DF KT DT e l I).length<=16384):
  bz 20000000 (kg k D KF DF KT DT e l I)=some (kg k D KF DF KT DT e l I,0,0):=by
 have hp:=uk h;by_cases a:k=1\/k=2
 ·obtain⟨rfl,rfl,rfl⟩:=few h a;have b:jx (kg k D KF DF KT DT false false [])=.inr (.inl (k,D,KF,DF,KT,DT,lvE k D KF DF KT DT)):=hp.trans (af a);rw[rZ c (by rw[b];exact⟨h,a⟩),b];rfl
 ·obtain⟨rfl,rfl,rfl,rfl,rfl,d⟩:=sets h a;have b:jx (kg k d0 0 d0 0 d0 e l I)=.inr (.inr (k,e,l,I)):=hp.trans (ae a);rw[rZ c (by rw[b];exact⟨h,d⟩),b];rfl
def R9:qD 2 d0=0/\qD 3 d0=0:=⟨by kernel_rfl,by kernel_rfl⟩
def xx{S:aa}{p:Nat}(hp:p<=S.length){KF:Int}{DF:TD}{lv:Int}(g:KF=1->cF DF=0/\exT DF=true){KT:Int}{DT:TD}{L:Int}(d:toX S p KF DF lv=.inr (KT,DT,L)):smT DT/\np KF DF KT DT=0:=by
 unfold toX at d;cases c:toP S p KF DF lv with
 | inl f=>rw[c]at d;cases d
 | inr q=>
  obtain⟨k,i,l,q⟩:=q;rw[c]at d;simp only[]at d;split at d
  ·cases d
  ·rename_i j;have d:=vu d;simp only[bm]at d;obtain⟨rfl,rfl,rfl⟩:=d;refine⟨(WL hp c).2,?_⟩;unfold toP at c;split at c
   ·rename_i hc;have c:=vu c;simp only[bm]at c;obtain⟨rfl,rfl,_,_⟩:=c;obtain⟨rfl,_⟩:=hc;obtain⟨a,b⟩:=g rfl;rw[vF (wz a b) R9.2];simp
   ·split at c
    ·rename_i hc;have c:=vu c;simp only[bm]at c;obtain⟨rfl,rfl,_,_⟩:=c;obtain⟨rfl,_⟩:=hc;obtain⟨a,b⟩:=g rfl;rw[vF (wz a b) R9.1];simp
    ·cases h:ek S p with
     | inl f=>rw[h]at c;cases c
     | inr r=>
      rw[h]at c;simp only[]at c;split at c
      ·split at c
       ·rename_i e;have c:=vu c;simp only[bm]at c;obtain⟨rfl,rfl,_,rfl⟩:=c;rcases e with e | e
        ·exact absurd e j
        ·exact e
       ·cases c
      ·cases c
def GA{S:aa}{p:Nat}(h:p<=S.length){KF:Int}{DF:TD}{lv:Int}{f:Nat×Nat}(a:toX S p KF DF lv=.inl f):f.2≠0:=by
 unfold toX at a;cases b:toP S p KF DF lv with
 | inl g=>rw[b]at a;cases a;exact B6 h b
 | inr q=>
  rw[b]at a;simp only[]at a;split at a
  ·cases a;simp
  ·cases a
def Gl(S:aa):S8 (jx S):=by
 unfold jx;split
 ·unfold DZ;cases c:vb S 0 with
  | inl f=>exact EW (iK _) c
  | inr q=>
   obtain⟨K,e,l,I,p⟩:=q;by_cases hp:p<S.length
   ·simp only[af hp];show(5:Nat)≠0;omega
   ·simp only[ae hp];have ok:=QQ (iK _) c;exact⟨.set (yd ok.kind (show(iE K d0 0 d0 0 d0 e l I).2=0 from ok.ok)) ok.sm,ok.kind⟩
 ·split
  ·rename_i h;have hp:1<=S.length:=jA (S:=S) (p:=0) (by rw[dk];exact h);cases c:toX S 1 3 d0 0 with
   | inl f=>exact GA hp c
   | inr q=>
    obtain⟨KT,DT,L⟩:=q;obtain⟨a,b⟩:=xx hp (λh=>by omega) c;exact⟨.interval mq a b,.inr rfl⟩
  ·split
   ·split
    ·rename_i h;have hp:3<=S.length:=jA h;cases c:toX S 3 2 d0 0 with
     | inl f=>exact GA hp c
     | inr q=>
      obtain⟨KT,DT,L⟩:=q;obtain⟨a,b⟩:=xx hp (λh=>by omega) c;exact⟨.interval mq a b,.inr rfl⟩
    ·show(5:Nat)≠0;omega
   ·cases c:ek S 0 with
    | inl f=>exact tZ (iK _) c
    | inr r=>
     obtain⟨g,d,_,_⟩:=mD (iK _) c;simp only[];split
     ·rename_i h;have hp:enR r+1<=S.length:=jA h;split
      ·rename_i hx;cases i:toX S (enR r+1) 1 (tdR r) (lvR S 0 r)with
       | inl f=>exact GA hp i
       | inr q=>
        obtain⟨KT,DT,L⟩:=q;obtain⟨a,b⟩:=xx hp (λ_=>⟨d,hx⟩) i;exact⟨.interval g a b,.inr rfl⟩
      ·show(11:Nat)≠0;omega
     ·split
      ·show(5:Nat)≠0;omega
      ·exact⟨.single g d,.inl rfl⟩
def Vb{S:aa}(a:S.length<=16384):bz 20000000 S=some (canX (jx S)):=rZ a (Gl S)
def I0{S T:aa}{a b:aa×Int×Int}(c:bz 20000000 S=some a)(d:bz 20000000 T=some b):
  dR 20000000 S T=some (cond (a.2.2==0) (cond (b.2.2==0) (a.1==b.1) false) false):=by
 unfold dR;rw[c,d];simp only[ob,u3,u2];cases a.2.2==0<;>cases b.2.2==0<;>rfl
def Kx{g l:Bool}{dg:aa}{x q:Int}{m d:aa}{a b c i f e:Int}(h:chkD g l dg x q m d a b c=0)(k:allM i f e (aR m d)=0):chkD g l dg x q m d i f e=0:=by
 unfold chkD at h ⊢;generalize yrD g l dg x q m=b1 at *;generalize(!(m==[])&&(!(decide (0<sea m))&&!(dW m 12)))=b2 at *;generalize(!(d==[])&&((m==[])||(decide (0<sea m)||!(dW d 31))))=j at *;cases b1<;>cases b2<;>cases j<;>simp_all
def KV{g l:Bool}{dg:aa}{x q:Int}{m d:aa}{a b c j i f:Int}(h:chkF g l dg x q m d a b c=0)(o:allM j i f (aR m d)=0):chkF g l dg x q m d j i f=0:=by
 have e:=lI h;have n:=Kx e o;unfold chkF at h ⊢;rw[e]at h;rw[n];split at h
 ·cases h
 ·rename_i k;rw[ae k]
def or4'{a b:Nat}(d:a<4)(c:b<4):a ||| b<4:=Nat.or_lt_two_pow (n:=2) d c
def YW{A B:Nat×Nat×Nat}{m d:aa}(h:MkD A B m d)(c:m=[]->d=[]):inM (aR m d) (spM A B):=by
 obtain⟨a0,a1,a2,b0,b1,b2,zm,zd⟩:=h;refine⟨or4' (or4' (or4' a0 b0) b1) b2,or4' (or4' a1 b1) b2,or4' a2 b2,λe=>?_,λe=>?_⟩
 ·by_cases a:m=[]
  ·obtain⟨g,i⟩:=zm a;obtain⟨_,f⟩:=zd (c a);show A.2.1 ||| B.2.1 ||| B.2.2=0;rw[g,i,f];rfl
  ·by_cases b:d=[]
   ·subst b;rw[vU a]at e;omega
   ·rw[vZ a b]at e;omega
 ·by_cases b:d=[]
  ·obtain⟨j,f⟩:=zd b;show A.2.2 ||| B.2.2=0;rw[j,f];rfl
  ·by_cases a:m=[]
   ·exact absurd (c a) b
   ·rw[vZ a b]at e;omega
def Bz(x:TD)(M:Nat×Nat×Nat):TD:=(x.1,x.2.1,x.2.2.1,x.2.2.2.1,x.2.2.2.2.1,x.2.2.2.2.2.1,x.2.2.2.2.2.2.1,(M.1:Int),(M.2.1:Int),(M.2.2:Int))
def rawT(x:TD)(A B:Nat×Nat×Nat):aa:=rawD A B x.1 x.2.1 x.2.2.1 x.2.2.2.1 x.2.2.2.2.1 x.2.2.2.2.2.1 x.2.2.2.2.2.2.1
def FN{x:TD}(hs:smT x)(hc:cF x=0){M:Nat×Nat×Nat}(h:inM (coT x) M):smT (Bz x M)/\cF (Bz x M)=0:=
 ⟨⟨hs.1,hs.2.1,hs.2.2.1,Ib _,Ib _,Ib _⟩,KV hc (vk h)⟩
def QJ{x:TD}(hs:smT x)(hc:cF x=0){A B:Nat×Nat×Nat}(j:MkD A B x.2.2.2.2.2.1 x.2.2.2.2.2.2.1){S:aa}{p:Nat}{post:aa}(h:S.drop p=rawT x A B++post)(hp:endT post):
  ∃r,ek S p=.inr r/\tdR r=Bz x (spM A B)/\enR r=p+(rawT x A B).length/\smT (Bz x (spM A B))/\cF (Bz x (spM A B))=0:=by
 obtain⟨g,l,dg,e,q,m,d,a,b,c,rfl,ok⟩:=lG hs hc;obtain⟨n,u,s⟩:=Pe hp;obtain⟨P,_,k⟩:=HA ok.sh j h n u s;have f:inM (aR m d) (spM A B):=YW j λt=>ok.day.resolve_right (λz=>z.1 t);obtain⟨o,i⟩:=FN hs hc f;refine⟨(g,l,dg,e,q,m,d,spM A B,P,p+(rawD A B g l dg (e:Int) (q:Int) m d).length),?_,rfl,rfl,o,i⟩;unfold ek;rw[k];have:chkR (g,l,dg,e,q,m,d,spM A B,P,p+(rawD A B g l dg (e:Int) (q:Int) m d).length)=0:=by
  show(cF (Bz (g,l,dg,(e:Int),(q:Int),m,d,(a:Int),(b:Int),(c:Int)) (spM A B))).toNat=0;rw[i];rfl
 simp only[this,aQ]
def QS{x:TD}(hs:smT x)(hc:cF x=0)(A B:Nat×Nat×Nat)(r:aa):cV brk (rawT x A B++r):=by
 obtain⟨g,l,dg,e,q,m,d,a,b,c,rfl,ok⟩:=lG hs hc;show cV brk (rawD A B g l dg (e:Int) (q:Int) m d++r);unfold rawD cD;rw[fa,fa,fa];exact Hr _ (by decide) (by decide) (by decide) (Ed ok.yr _)
def NA{x:TD}(hs:smT x)(hc:cF x=0){A B:Nat×Nat×Nat}(e:MkD A B x.2.2.2.2.2.1 x.2.2.2.2.2.2.1):∃L,jx (rawT x A B)=.inr (.inl (1,Bz x (spM A B),0,d0,0,d0,L)):=by
 obtain⟨r,i,g,d,_,_⟩:=QJ hs hc e (S:=rawT x A B) (p:=0) (post:=[]) (by simp) BZ;have a:=QS hs hc A B [];rw[ko]at a;rw[cU]at d;generalize rawT x A B=T at *;have b:∀c,brk c=true->T.head?≠some c:=λc f j=>by have:=a c j;rw[f]at this;cases this
 refine⟨lvR T 0 r,?_⟩;unfold jx;rw[ae (by rintro(h | h);exact b 91 (by decide) h;exact b 123 (by decide) h),ae (b 47 (by decide)),pI a,ae (by simp),i];simp only[];rw[d,AX,ae (by simp),ae (by omega),g]
def Qk{x:TD}(hs:smT x)(hc:cF x=0){A B:Nat×Nat×Nat}(h:MkD A B x.2.2.2.2.2.1 x.2.2.2.2.2.2.1):(rawT x A B).length<=1000:=by
 obtain⟨g,l,dg,e,q,m,d,a,b,c,rfl,ok⟩:=lG hs hc;obtain⟨u,k,f,_⟩:=H9 ok.sh h;exact f.len
def TL{x:TD}(hs:smT x)(hc:cF x=0){A B:Nat×Nat×Nat}(a:MkD A B x.2.2.2.2.2.1 x.2.2.2.2.2.2.1):bz 20000000 (rawT x A B)=some (gP (Bz x (spM A B)),0,0):=by
 obtain⟨L,h⟩:=NA hs hc a;have:=Qk hs hc a;rw[Vb (by omega),h];rfl
def GT{I J:List TI}(t:I.length<=1000000)(k:Int)(D:TD)(KF:Int)(DF:TD)(KT:Int)(DT:TD)(e l:Bool)(k':Int)(i:TD)(c:Int)(d:TD)(f:Int)(a:TD)(o j:Bool):
  ∃b:Bool,fW 20000000 k D KF DF KT DT e l k' i c d f a o j I J=some (if b then 1 else 0)/\(b=true↔k=k'/\D=i/\KF=c/\DF=d/\KT=f/\DT=a/\e=o/\l=j/\I=J):=by
 unfold fW;rw[show(k != k')=!(k==k')from rfl,show(len I != len J)=!decide (I.length=J.length)from cT _ (natB _ _)];by_cases m:k=k'
 case neg=>exact⟨false,by rw[aL.2 m];rfl,by simp[m]⟩
 rw[m,lP];by_cases r:D=i
 case neg=>exact⟨false,by rw[show eqD D i=false from by rw[MK];exactλh=>r (fY.1 h)];rfl,by simp[r]⟩
 rw[r,show eqD i i=true from fY.2 rfl];by_cases n:KF=c/\DF=d
 case neg=>
  refine⟨false,?_,⟨(λh=>by cases h),λh=>absurd ⟨h.2.2.1,h.2.2.2.1⟩ n⟩⟩;have:((KF==c)&&((eqD DF d)&&true))=false:=by
   rw[MK];intro h;rw[yy,aA,bu]at h;exact n ⟨h.1,fY.1 h.2⟩
  rw[this];rfl
 obtain⟨rfl,rfl⟩:=n;rw[lP,show eqD DF DF=true from fY.2 rfl];by_cases s:KT=f/\DT=a
 case neg=>
  refine⟨false,?_,⟨(λh=>by cases h),λh=>absurd ⟨h.2.2.2.2.1,h.2.2.2.2.2.1⟩ s⟩⟩;have:((KT==f)&&((eqD DT a)&&true))=false:=by
   rw[MK];intro h;rw[yy,aA,bu]at h;exact s ⟨h.1,fY.1 h.2⟩
  rw[this];rfl
 obtain⟨rfl,rfl⟩:=s;rw[lP,show eqD DT DT=true from fY.2 rfl];by_cases p:e=o
 case neg=>exact⟨false,by rw[aL.2 p];rfl,by simp[p]⟩
 rw[p,lP];by_cases q:l=j
 case neg=>exact⟨false,by rw[aL.2 q];rfl,by simp[q]⟩
 rw[q,lP];by_cases h:I.length=J.length
 ·rw[au h,uw h t];by_cases g:I=J
  ·rw[af g];exact⟨true,rfl,by simp[g]⟩
  ·rw[ae g];exact⟨false,rfl,by simp[g]⟩
 ·rw[aw h];exact⟨false,rfl,by simp;exactλg=>h (cT _ g)⟩
def Oa{k:Int}{D:TD}{KF:Int}{DF:TD}{KT:Int}{DT:TD}{e l:Bool}{I:List TI}{k':Int}{n:TD}{b:Int}{c:TD}{d:Int}{a:TD}{j i:Bool}{J:List TI}
  (P:RightP k D KF DF KT DT e l I) (Q:RightP k' n b c d a j i J) (h:kg k D KF DF KT DT e l I=kg k' n b c d a j i J):
  k=k'/\D=n/\KF=b/\DF=c/\KT=d/\DT=a/\e=j/\l=i/\I=J:=by
 have hp:=uk P;rw[h,uk Q]at hp;unfold exOf at hp;by_cases f:k=1\/k=2<;>by_cases g:k'=1\/k'=2
 ·obtain⟨rfl,rfl,rfl⟩:=few P f;obtain⟨rfl,rfl,rfl⟩:=few Q g;rw[af f,af g]at hp;simp only[nh,Sum.inl.injEq,bm]at hp;obtain⟨a1,a2,m,o,p,q,_⟩:=hp;exact⟨a1.symm,a2.symm,m.symm,o.symm,p.symm,q.symm,rfl,rfl,rfl⟩
 ·rw[af f,ae g]at hp;simp at hp
 ·rw[ae f,af g]at hp;simp at hp
 ·obtain⟨rfl,rfl,rfl,rfl,rfl,_⟩:=sets P f;obtain⟨rfl,rfl,rfl,rfl,rfl,_⟩:=sets Q g;rw[ae f,ae g]at hp;simp only[nh,bm]at hp;obtain⟨a1,a2,m,o⟩:=hp;exact⟨a1.symm,rfl,rfl,rfl,rfl,rfl,a2.symm,m.symm,o.symm⟩
def yw{k:Int}{D:TD}{KF:Int}{DF:TD}{KT:Int}{DT:TD}{e l:Bool}{I:List TI}{k':Int}{i:TD}{c:Int}{d:TD}{f:Int}{a:TD}{h g:Bool}{J:List TI}
  (P:RightP k D KF DF KT DT e l I) (Q:RightP k' i c d f a h g J) (j:I.length<=5) (n:J.length<=5):
  ∃b:Bool,dR 20000000 (kg k D KF DF KT DT e l I) (kg k' i c d f a h g J)=some b/\fW 20000000 k D KF DF KT DT e l k' i c d f a h g I J=some (if b then 1 else 0):=by
 obtain⟨b,m,o⟩:=GT (I:=I) (J:=J) (by omega) k D KF DF KT DT e l k' i c d f a h g;refine⟨b,?_,m⟩;rw[I0 (xU P (AM P j)) (xU Q (AM Q n))];show some (kg k D KF DF KT DT e l I==kg k' i c d f a h g J)=some b;congr 1;rw[uJ,bu,o];constructor
 ·exact Oa P Q
 ·rintro⟨rfl,rfl,rfl,rfl,rfl,rfl,rfl,rfl,rfl⟩;rfl
def ny{X Y:Type}{step:X->Option (X⊕Y)}{x:X}{y:Y}{N:Nat}(h:step x=some (.inr y)):av step (N+1) x=some y:=by rw[av,h]
def iz{X Y:Type}{step:X->Option (X⊕Y)}{x a:X}{N:Nat}(h:step x=some (.inl a)):av step (N+1) x=av step N a:=by rw[av,h]
def tB(z:Int)(i:Nat):Bool:=(Int.tmod (Int.fdiv z (2 ^ i)) 2)==1
section
variable {g l:Bool} {dg:List UInt8} {e q:Int} {m d:List UInt8} {a b c:Nat}
def mkT(g l:Bool)(dg:aa)(e q:Int)(m d:aa)(a b c:Nat):TD:=(g,l,dg,e,q,m,d,(a:Int),(b:Int),(c:Int))
def YL(s:a<4)(r:b<4)(hc:c<4)(z k:Int)(i:Nat)(hi:i<3)(al bl:List Int){N:Nat}(y:4<N):
  av (dG 20000000) N (z,k,(i:Int),3,0,mkT g l dg e q m d a b c,al,bl)=some (z,k,(i:Int),(([a,a &&& b,a &&& b &&& c].getD i 0:Nat):Int),mkT g l dg e q m d a b c,al,bl):=by
 have st:∀(j f:Nat),j<3->f<4->j<=i->dG 20000000 (z,k,(i:Int),(f:Int),(j:Int),mkT g l dg e q m d a b c,al,bl)=some (.inl (z,k,(i:Int),((f &&& [a,b,c].getD j 0:Nat):Int),((j+1:Nat):Int),mkT g l dg e q m d a b c,al,bl)):=by
  intro j f w x t;unfold dG;simp only[u8,u7,u6,u5,u4,u3,u2];rw[au (show(j:Int)<=(i:Int)by omega),aj];rcases(by omega:j=0\/j=1\/j=2)with rfl | rfl | rfl
  ·rcases(by omega:a=0\/a=1\/a=2\/a=3)with rfl | rfl | rfl | rfl<;>rcases(by omega:f=0\/f=1\/f=2\/f=3)with rfl | rfl | rfl | rfl<;>kernel_rfl
  ·rcases(by omega:b=0\/b=1\/b=2\/b=3)with rfl | rfl | rfl | rfl<;>rcases(by omega:f=0\/f=1\/f=2\/f=3)with rfl | rfl | rfl | rfl<;>kernel_rfl
  ·rcases(by omega:c=0\/c=1\/c=2\/c=3)with rfl | rfl | rfl | rfl<;>rcases(by omega:f=0\/f=1\/f=2\/f=3)with rfl | rfl | rfl | rfl<;>kernel_rfl
 have fin:∀(j:Nat) (f:Int),i<j->dG 20000000 (z,k,(i:Int),f,(j:Int),mkT g l dg e q m d a b c,al,bl)=some (.inr (z,k,(i:Int),f,mkT g l dg e q m d a b c,al,bl)):=by
  intro j f w;unfold dG;simp only[u8,u7,u6,u5,u4,u3,u2];rw[aw (show¬(j:Int)<=(i:Int)by omega)];rfl
 have u:3 &&& a=a:=by rcases(by omega:a=0\/a=1\/a=2\/a=3)with rfl | rfl | rfl | rfl<;>rfl
 have v:a &&& b<4:=Nat.and_lt_two_pow (n:=2) a r;have o:=st 0 3 (by omega) (by omega) (by omega);have h:=st 1 a (by omega) s;have p:=st 2 (a &&& b) (by omega) v;rw[show([a,b,c].getD 0 0)=a from rfl,u]at o;rw[show([a,b,c].getD 1 0)=b from rfl]at h;rw[show([a,b,c].getD 2 0)=c from rfl]at p;obtain⟨N,rfl⟩:∃j,N=j+4:=⟨N - 4,by omega⟩;rw[show(3:Int)=((3:Nat):Int)from rfl,show(0:Int)=((0:Nat):Int)from rfl,iz o];rcases(by omega:i=0\/i=1\/i=2)with rfl | rfl | rfl
 ·exact ny (fin 1 _ (by omega))
 ·rw[iz (h (by omega))];exact ny (fin 2 _ (by omega))
 ·rw[iz (h (by omega)),iz (p (by omega))];exact ny (fin 3 _ (by omega))
def Yw(s:a<4)(p:b<4)(hc:c<4)(z:Int){k:Nat}(u:1<=k/\k<=3)(al:List Int){N:Nat}(v:4<N):
  av (eK 20000000) N (z,(k:Int),((k - 1:Nat):Int),mkT g l dg e q m d a b c,al,[0,0,0])=some (z,(k:Int),mkT g l dg e q m d a b c,al,[((if tB z 0 then a else 0:Nat):Int),((if 1<k/\tB z 1=true then a &&& b else 0:Nat):Int),((if 2<k/\tB z 2=true then a &&& b &&& c else 0:Nat):Int)]):=by
 have st:∀(i:Nat) (bl:List Int),i<3->eK 20000000 (z,(k:Int),(i:Int),mkT g l dg e q m d a b c,al,bl)=some (.inl (z,(k:Int),(i:Int) - 1,mkT g l dg e q m d a b c,al,if tB z i then bl.set i (([a,a &&& b,a &&& b &&& c].getD i 0:Nat):Int)else bl)):=by
  intro i bl hi;unfold eK;simp only[u6,u5,u4,u3,u2];rw[au (show(i:Int)>=0 by omega),aj,YL s p hc z k i hi _ _ (by omega)];simp only[ob,u7,u6,u5,u4,u3,u2];rw[aw (show¬(i:Int)<0 by omega),ah,show w64 ((i:Int) - 1)=(i:Int) - 1 from wrap_i64 _ (by omega) (by omega)];have r:min (Int.toNat (i:Int)) (IntKind.bits .u8)=i:=by
   simp only[bX];exact rL (by show i<=8;omega)
  rw[r];have hx:ix 3 (i:Int)=some i:=cG hi;simp only[hx,show Nat.blt i 3=true from cr hi];unfold tB;cases(Int.tmod (Int.fdiv z (2 ^ i)) 2)==1<;>rfl
 have fin:∀bl,eK 20000000 (z,(k:Int),((0:Nat):Int) - 1,mkT g l dg e q m d a b c,al,bl)=some (.inr (z,(k:Int),mkT g l dg e q m d a b c,al,bl)):=λbl=>rfl;have o:((1:Nat):Int) - 1=((0:Nat):Int):=rfl;have t:((2:Nat):Int) - 1=((1:Nat):Int):=rfl;have h:=λbl=>st 0 bl (by omega);have f:=λbl=>st 1 bl (by omega);have n:=λbl=>st 2 bl (by omega);rw[o]at f;rw[t]at n;obtain⟨N,rfl⟩:∃j,N=j+4:=⟨N - 4,by omega⟩;rcases(by omega:k=1\/k=2\/k=3)with rfl | rfl | rfl
 ·rw[show 1 - 1=0 from rfl,iz (h _),ny (fin _)];cases tB z 0<;>rfl
 ·rw[show 2 - 1=1 from rfl,iz (f _),iz (h _),ny (fin _)];cases tB z 0<;>cases tB z 1<;>rfl
 ·rw[show 3 - 1=2 from rfl,iz (n _),iz (f _),iz (h _),ny (fin _)];cases tB z 0<;>cases tB z 1<;>cases tB z 2<;>rfl
def YA(z:Int){k:Nat}(p:1<=k/\k<=3)(n:k<2->b=0)(h:k<3->c=0)(bl:List Int){N:Nat}(r:4<N):
  av (dE 20000000) N (z,(k:Int),0,mkT g l dg e q m d a b c,[0,0,0],bl)=some (z,(k:Int),mkT g l dg e q m d a b c,[(a:Int),(b:Int),(c:Int)],bl):=by
 have st:∀(i:Nat) (al:List Int),i<k->dE 20000000 (z,(k:Int),(i:Int),mkT g l dg e q m d a b c,al,bl)=some (.inl (z,(k:Int),((i+1:Nat):Int),mkT g l dg e q m d a b c,al.set i (([a,b,c].getD i 0:Nat):Int),bl)):=by
  intro i al hi;unfold dE;simp only[u6,u5,u4,u3,u2];rw[au (show(i:Int)<(k:Int)by omega),aj,show w64 ((i:Int)+1)=((i+1:Nat):Int)from ox (by omega)];rcases(by omega:i=0\/i=1\/i=2)with rfl | rfl | rfl<;>rfl
 have fin:∀al,dE 20000000 (z,(k:Int),(k:Int),mkT g l dg e q m d a b c,al,bl)=some (.inr (z,(k:Int),mkT g l dg e q m d a b c,al,bl)):=by
  intro al;unfold dE;simp only[u6,u5,u4,u3,u2];rw[aw (by omega)];rfl
 have s0:=λal=>st 0 al;have f:=λal=>st 1 al;have o:=λal=>st 2 al;obtain⟨N,rfl⟩:∃j,N=j+4:=⟨N - 4,by omega⟩;rw[show(0:Int)=((0:Nat):Int)from rfl,iz (s0 _ (by omega))];rcases(by omega:k=1\/k=2\/k=3)with rfl | rfl | rfl
 ·refine(ny (fin _)).trans ?_;rw[n (by omega),h (by omega)];rfl
 ·rw[iz (f _ (by omega))];refine(ny (fin _)).trans ?_;rw[h (by omega)];rfl
 ·rw[iz (f _ (by omega)),iz (o _ (by omega))];refine(ny (fin _)).trans ?_;rfl
end
def loB(z:Int)(k a b c:Nat):Nat×Nat×Nat:=(if tB z 0 then a else 0,if 1<k/\tB z 1=true then a &&& b else 0,if 2<k/\tB z 2=true then a &&& b &&& c else 0)
def loA(z:Int)(k a b c:Nat):Nat×Nat×Nat:=
 (if tB z 4=true/\(spM (0,0,0) (loB z k a b c)).1=a then 0 else a,if tB z 4=true/\(spM (0,0,0) (loB z k a b c)).2.1=b then 0 else b,if tB z 4=true/\(spM (0,0,0) (loB z k a b c)).2.2=c then 0 else c)
def YF(f e g d:Bool)(k a b c:Nat):Bool:=
 let B:Nat×Nat×Nat:=(if f then a else 0,if 1<k/\e=true then a &&& b else 0,if 2<k/\g=true then a &&& b &&& c else 0);let S:=spM (0,0,0) B;let A:Nat×Nat×Nat:=(if d=true/\S.1=a then 0 else a,if d=true/\S.2.1=b then 0 else b,if d=true/\S.2.2=c then 0 else c)
 spM A B==(a,b,c)
def Qq:∀f d g e:Bool,((List.range 4).all λk=>(List.range 4).all λa=>(List.range 4).all λb=>(List.range 4).all λc=>YF f d g e k a b c)=true:=by
 intro f d g e;cases f<;>cases d<;>cases g<;>cases e<;>decide +kernel
def Zc(z:Int){k a b c:Nat}(e:k<4)(h:a<4)(d:b<4)(hc:c<4):spM (loA z k a b c) (loB z k a b c)=(a,b,c):=by
 have f:=(bO.1 (Qq (tB z 0) (tB z 1) (tB z 2) (tB z 4))) k (gS.2 e);have i:=(bO.1 f) a (gS.2 h);have g:=(bO.1 i) b (gS.2 d);have j:=(bO.1 g) c (gS.2 hc);exact bu.1 j
def o9{k:Nat}(h:k<4):(mt k).length<=1:=by
 rcases(by omega:k=0\/k=1\/k=2\/k=3)with rfl | rfl | rfl | rfl<;>simp[mt]
def F6{z:Int}{k i:Nat}{acc:aa}{al bl sl:List Int}{ws:List (aa)}{ai d m:Nat}{e:aa}(hi:i<k)(y:i<3)(f:eO 20000000 [0,0,0] bl (k:Int)=some sl)
  (o:al[i]?=some (ai:Int)) (n:bl[i]?=some (d:Int)) (hs:sl[i]?=some (m:Int)) (l:ws[i]?=some e) (D:ws.length=3) (a:ai<4) (u:d<4) (F:acc.length<=500) (C:e.length<=100):
  eM 20000000 (z,(k:Int),acc,(i:Int),al,bl,ws)=some (.inl (z,(k:Int),(if 0<i then acc++[45]else acc)++(mt (if tB z 4=true/\m=ai then 0 else ai)++e++mt d),((i+1:Nat):Int),al,bl,ws)):=by
 have w:aJ 20000000 0=some (mt 0):=(CX 20000000 0 (by omega)).2;have s:aJ 20000000 (ai:Int)=some (mt ai):=(CX 20000000 ai a).2;have r:aJ 20000000 (d:Int)=some (mt d):=(CX 20000000 d u).2;have t:cat acc ([45]:aa)=some (acc++[45]):=bI (by simp only[aC,aX];omega);have E:=o9 u;have q:∀p,p<4->cat (mt p) e=some (mt p++e):=λp h=>bI (by have:=o9 h;omega);have c3:∀p,p<4->cat (mt p++e) (mt d)=some (mt p++e++mt d):=λp h=>bI (by have:=o9 h;simp only[aH];omega);have c4:∀p,p<4->∀A:aa,A.length<=501->cat A (mt p++e++mt d)=some (A++(mt p++e++mt d)):=λp h A B=>bI (by have:=o9 h;simp only[aH];omega);have hx:ix 3 (i:Int)=some i:=cG y;have b:ix ws.length (i:Int)=some i:=cG (by omega);have c:w64 ((i:Int)+1)=((i+1:Nat):Int):=ox (by omega);have x:((Int.tmod (Int.fdiv z (2 ^ 4)) 2)==1)=tB z 4:=rfl;have g:(acc++[45]).length<=501:=by simp only[aH,aC,aX];omega
 unfold eM;simp only[u7,u6,u5,u4,u3,u2];rw[au (show(i:Int)<(k:Int)by omega),aj,x];by_cases v:0<i
 ·rw[au (show(i:Int)>0 by omega),af v];cases tB z 4
  ·rw[ae (by simp)];simp only[aj,ah,ob,t,hx,b,o,n,l,s,r,q _ a,c3 _ a,c4 _ a _ g,c]
  ·by_cases j:m=ai
   ·rw[af ⟨rfl,j⟩];subst j;simp only[aj,ah,ob,t,hx,b,o,n,hs,l,f,w,r,lP,q _ (show 0<4 by omega),c3 _ (show 0<4 by omega),c4 _ (show 0<4 by omega) _ g,c]
   ·rw[ae (λh=>j h.2)];simp only[aj,ah,ob,t,hx,b,o,n,hs,l,f,s,r,show((m:Int)==(ai:Int))=false from aL.2 (by omega),q _ a,c3 _ a,c4 _ a _ g,c]
 ·have g:acc.length<=501:=by omega
  rw[aw (show¬(i:Int)>0 by omega),ae v];cases tB z 4
  ·rw[ae (by simp)];simp only[aj,ah,ob,hx,b,o,n,l,s,r,q _ a,c3 _ a,c4 _ a _ g,c]
  ·by_cases j:m=ai
   ·rw[af ⟨rfl,j⟩];subst j;simp only[aj,ah,ob,hx,b,o,n,hs,l,f,w,r,lP,q _ (show 0<4 by omega),c3 _ (show 0<4 by omega),c4 _ (show 0<4 by omega) _ g,c]
   ·rw[ae (λh=>j h.2)];simp only[aj,ah,ob,hx,b,o,n,hs,l,f,s,r,show((m:Int)==(ai:Int))=false from aL.2 (by omega),q _ a,c3 _ a,c4 _ a _ g,c]
def and4{a b:Nat}(c:a<4):a &&& b<4:=Nat.lt_of_le_of_lt Nat.and_le_left c
def run1{X Y:Type}{step:X->Option (X⊕Y)}{x0 a:X}{y:Y}{N:Nat}(d:4<N)(c:step x0=some (.inl a))(b:step a=some (.inr y)):av step N x0=some y:=by
 obtain⟨N,rfl⟩:∃j,N=j+4:=⟨N - 4,by omega⟩;rw[iz c,ny b]
def run2{X Y:Type}{step:X->Option (X⊕Y)}{x0 b a:X}{y:Y}{N:Nat}(f:4<N)(d:step x0=some (.inl b))(c:step b=some (.inl a))(e:step a=some (.inr y)):av step N x0=some y:=by
 obtain⟨N,rfl⟩:∃j,N=j+4:=⟨N - 4,by omega⟩;rw[iz d,iz c,ny e]
def run3{X Y:Type}{step:X->Option (X⊕Y)}{x0 c b a:X}{y:Y}{N:Nat}(h:4<N)(f:step x0=some (.inl c))(d:step c=some (.inl b))(g:step b=some (.inl a))(e:step a=some (.inr y)):av step N x0=some y:=by
 obtain⟨N,rfl⟩:∃j,N=j+4:=⟨N - 4,by omega⟩;rw[iz f,iz d,iz g,ny e]
def it4{P:Prop}[Decidable P]{a:Nat}(h:a<4):(if P then 0 else a)<4:=by split<;>omega
def ti4{P:Prop}[Decidable P]{a:Nat}(h:a<4):(if P then a else 0)<4:=by split<;>omega
def QW{z:Int}{g l:Bool}{dg:aa}{e q:Nat}{m d:aa}{a b c:Nat}(ok:OkD g l dg e q m d a b c):MkD (loA z (aR m d) a b c) (loB z (aR m d) a b c) m d:=by
 have h:=ok.m0;have o:=ok.m1;have hc:=ok.m2;unfold loA loB;refine⟨?_,?_,?_,?_,?_,?_,λf=>?_,λk=>?_⟩
 ·exact it4 h
 ·exact it4 o
 ·exact it4 hc
 ·exact ti4 h
 ·exact ti4 (and4 h)
 ·exact ti4 (and4 (and4 h))
 ·have k:d=[]:=ok.day.resolve_right (λz=>z.1 f);have i:aR m d=1:=by subst f k;rfl
  have j:=ok.z1 (by omega);simp only;rw[i,j];exact⟨ite_self 0,ae (by omega)⟩
 ·have i:aR m d<3:=by
   subst k;by_cases f:m=[]
   ·subst f;rw[Ag];omega
   ·rw[vU f];omega
  have n:=ok.z2 i;simp only;rw[n];exact⟨ite_self 0,ae (by omega)⟩
def UN{x:TD}(hs:smT x)(hc:cF x=0)(z:Int):∃A B,MkD A B x.2.2.2.2.2.1 x.2.2.2.2.2.2.1/\Bz x (spM A B)=x/\kF 20000000 x z=some (rawT x A B):=by
 obtain⟨g,l,dg,e,q,m,d,a,b,c,rfl,ok⟩:=lG hs hc;have E:=kx m d;have mk:=QW (z:=z) ok;have D:=Zc z (show aR m d<4 by omega) ok.m0 ok.m1 ok.m2;refine⟨loA z (aR m d) a b c,loB z (aR m d) a b c,mk,by rw[D];rfl,?_⟩;have y:=Jx 20000000 g l dg e q (by have:=ok.x16;omega) (by have:=ok.q17;omega) (by have:=ok.dg17;omega);have yl:=r7 ok.yr;have V:=ok.mon;have v:=ok.day;have W:inM (aR m d) (loB z (aR m d) a b c):=by
  refine⟨mk.b0,mk.b1,mk.b2,λh=>?_,λh=>?_⟩
  ·unfold loB;simp only;exact ae (by omega)
  ·unfold loB;simp only;exact ae (by omega)
 have r:=J8 20000000 (by omega) (aR m d) (0,0,0) (loB z (aR m d) a b c) E ⟨by simp,by simp,by simp,λ_=>rfl,λ_=>rfl⟩ W;have T:w64 (((aR m d:Nat):Int) - 1)=((aR m d - 1:Nat):Int):=FV (by omega) (by omega);have I:=YA (g:=g) (l:=l) (dg:=dg) (e:=(e:Int)) (q:=(q:Int)) (m:=m) (d:=d) (a:=a) (b:=b) (c:=c) z E ok.z1 ok.z2 [0,0,0] (show 4<20000000 by omega);have G:=Yw (g:=g) (l:=l) (dg:=dg) (e:=(e:Int)) (q:=(q:Int)) (m:=m) (d:=d) ok.m0 ok.m1 ok.m2 z E [(a:Int),(b:Int),(c:Int)] (show 4<20000000 by omega);unfold mkT at I G;have F:ap10 (aq 20000000) ((g,l,dg,(e:Int),(q:Int),m,d,(a:Int),(b:Int),(c:Int)):TD)=some ((aR m d:Nat):Int):=rcoT _;have H:[((if tB z 0 then a else 0:Nat):Int),((if 1<aR m d/\tB z 1=true then a &&& b else 0:Nat):Int),((if 2<aR m d/\tB z 2=true then a &&& b &&& c else 0:Nat):Int)]=l3 (loB z (aR m d) a b c):=rfl;rw[H]at G;unfold kF;rw[F];simp only[ob,I,u5,u4,u3,u2,T,G];rw[show iw 20000000 g l dg (e:Int) (d4 ((g,l,dg,(e:Int),(q:Int),m,d,(a:Int),(b:Int),(c:Int)):TD)).1=_ from y];simp only[];show _=some (rawD (loA z (aR m d) a b c) (loB z (aR m d) a b c) g l dg (e:Int) (q:Int) m d);unfold rawD cD;generalize gB g l dg (e:Int) (q:Int)=Y at *;have Q:m.length<=100:=by rcases V with h | h;rw[h];simp;omega
 have R:d.length<=100:=by rcases v with h | h;rw[h];simp;omega
 have m0:=mk.b0;have m1:=mk.b1;have m2:=mk.b2;have O:loA z (aR m d) a b c=(if tB z 4=true/\(spM (0,0,0) (loB z (aR m d) a b c)).1=a then 0 else a,if tB z 4=true/\(spM (0,0,0) (loB z (aR m d) a b c)).2.1=b then 0 else b,if tB z 4=true/\(spM (0,0,0) (loB z (aR m d) a b c)).2.2=c then 0 else c):=rfl;rw[O];generalize M:loB z (aR m d) a b c=B at *;generalize spM (0,0,0) B=S at *;have r:eO 20000000 [0,0,0] (l3 B) ((aR m d:Nat):Int)=some (l3 S):=r;have Z:∀acc:aa,acc.length<=500->_:=λacc o=>F6 (z:=z) (k:=aR m d) (i:=0) (acc:=acc) (al:=[(a:Int),(b:Int),(c:Int)]) (bl:=l3 B) (sl:=l3 S) (ws:=[Y,m,d]) (by omega) (by omega) r rfl rfl rfl rfl rfl ok.m0 m0 o (show Y.length<=100 by omega);have L:1<aR m d->∀acc:aa,acc.length<=500->_:=λh acc o=>F6 (z:=z) (k:=aR m d) (i:=1) (acc:=acc) (al:=[(a:Int),(b:Int),(c:Int)]) (bl:=l3 B) (sl:=l3 S) (ws:=[Y,m,d]) h (by omega) r rfl rfl rfl rfl rfl ok.m1 m1 o Q;have X:2<aR m d->∀acc:aa,acc.length<=500->_:=λh acc o=>F6 (z:=z) (k:=aR m d) (i:=2) (acc:=acc) (al:=[(a:Int),(b:Int),(c:Int)]) (bl:=l3 B) (sl:=l3 S) (ws:=[Y,m,d]) h (by omega) r rfl rfl rfl rfl rfl ok.m2 m2 o R;have fin:∀(acc:aa) (j:Nat),aR m d=j->eM 20000000 (z,((aR m d:Nat):Int),acc,(j:Int),[(a:Int),(b:Int),(c:Int)],l3 B,[Y,m,d])=some (.inr acc):=by
  intro acc j h;unfold eM;simp only[u7,u6,u5,u4,u3,u2];rw[aw (by omega)];rfl
 have lA:∀(p:Nat) (P:Prop) [Decidable P],p<4->(mt (if P then 0 else p)).length<=1:=λp P _ h=>o9 (by split<;>omega);have t:=it4 (P:=tB z 4=true/\S.1=a) ok.m0;have w:=it4 (P:=tB z 4=true/\S.2.1=b) ok.m1;generalize(if tB z 4=true/\S.1=a then 0 else a)=C at *;generalize(if tB z 4=true/\S.2.1=b then 0 else b)=N at *;generalize(if tB z 4=true/\S.2.2=c then 0 else c)=p2 at *;have q0:=o9 m0;have q1:=o9 m1;have s0:=Z [] (by simp);rw[ae (Bt 0)]at s0;rcases(by omega:aR m d=1\/aR m d=2\/aR m d=3)with n | n | n
 ·have f:m=[]:=by
   apply S9;intro h;by_cases K:d=[]
   ·rw[K,vU h]at n;omega
   ·rw[vZ h K]at n;omega
  have s:d=[]:=v.resolve_right (λz=>z.1 f);rw[show(0:Int)=((0:Nat):Int)from rfl,run1 (by omega) s0 (fin _ _ n),af f,af s];simp
 ·have s:d=[]:=by
   apply S9;intro h;have f:=(v.resolve_left h).1;rw[vZ f h]at n;omega
  have f:m≠[]:=by
   rintro rfl;subst s;rw[Ag]at n;omega
  have U:=o9 t;have u:=L (by omega) ([]++(mt C++Y++mt B.1)) (by simp only[aH,aX];omega);rw[af (show 0<1 by omega)]at u;rw[show(0:Int)=((0:Nat):Int)from rfl,run2 (by omega) s0 u (fin _ _ n),ae f,af s];simp
 ·have s:d≠[]:=by
   rintro rfl;by_cases f:m=[]
   ·subst f;rw[Ag]at n;omega
   ·rw[vU f]at n;omega
  have f:=(v.resolve_left s).1;have U:=o9 t;have r1:=o9 w;have u:=L (by omega) ([]++(mt C++Y++mt B.1)) (by simp only[aH,aX];omega);rw[af (show 0<1 by omega)]at u;have J:=X (by omega) (([]++(mt C++Y++mt B.1))++[45]++(mt N++m++mt B.2.1)) (by simp only[aH,aX,aC];omega);rw[af (show 0<2 by omega)]at J;rw[show(0:Int)=((0:Nat):Int)from rfl,run3 (by omega) s0 u J (fin _ _ n),ae f,ae s];simp
def wq{K H G B E d f F:Int}(hK:natI K 256)(Y:natI H 256)(O:natI G 256)(hB:natI B 256)(w:natI E 256)(t:natI d 256)(v:natI f 256)(y:natI F 256)(z:Int){L M:List TR}(hL:∀r∈L,wfR r)(R:∀r∈M,wfR r):
  il 20000000 K H G B E d f F z L M=some true:=by
 obtain⟨k,D,KF,DF,KT,DT,e,l,I,hE,c⟩:=E_of hK Y O hB hL;obtain⟨k',D',V,T,Z,DT',e',l',J,p,j⟩:=E_of w t v y R;have P:=Iw c;have Q:=Iw j;have f1:=vT P;have f2:=vT Q;obtain⟨b,W,hs⟩:=yw P Q c.len j.len;obtain⟨b2,U,g⟩:=yw P P c.len c.len;have o:=LX k D KF DF KT DT e l (I:=I) (by have:=c.len;omega);have u:b2=true:=by
  rw[o]at g;cases b2
  ·cases g
  ·rfl
 subst u;have S:=GW (I:=I) (by have:=c.len;omega) k D KF DF KT DT e l;unfold il;rw[hE,p];simp only[ob,u9,u8,u7,u6,u5,u4,u3,u2,f1,f2,W,hs,U,S,P4,dT,ah];have s:(!(b==((if b=true then(1:Int)else 0)==1)))=false:=by cases b<;>rfl
 rw[s,ah];cases P with
 | interval hx hy hp=>
  rw[show((2:Int) != 1)=true from rfl,aj]
 | set P hs=>
  rw[show(k != 1)=true from by rcases P.kind with h | h<;>subst h<;>rfl,aj]
 | single m n=>
  rw[show((1:Int) != 1)=false from rfl,ah];have x:datE 1 D 0 d0 0 d0 []=[D]:=rfl;rw[x,show(len [D] != 1)=false from rfl,ah];obtain⟨A,B,mk,N,q⟩:=UN m n z;have hc:=TL m n mk;rw[N]at hc;have a:kg 1 D 0 d0 0 d0 false false []=gP D:=by unfold kg;rw[af rfl]
  rw[a];have i:=I0 hc (xU (RightP.single m n) (by rw[a];have:=lR m n;omega));rw[a]at i;have X:([D]:List TD)[0]?=some D:=rfl;have C:ix (List.length [D]) 0=some 0:=rfl;simp only[C,ob,X,q,hc,u3,u2,lP,aj,i]
def nU{n:Int}(h:(Lit.int .u8 n).wf=true):natI n 256:=⟨(Go.bounds_u8 h).1,by have:=(Go.bounds_u8 h).2;omega⟩
def SE{n:Int}(h:(Lit.int .u16 n).wf=true):natI n 65536:=⟨(Go.bounds_u16 h).1,by have:=(Go.bounds_u16 h).2;omega⟩
def SO{y:den [.i .u8,.bo,.i .u16,.i .u8,.i .u8,.i .u8,.i .u8,.i .u8,.i .u8,.i .u8,.i .u8,.i .u8,.bo,.i .u16,.i .u8,.i .u8,.i .u8,.i .u8,.i .u8,.i .u8,.i .u8]}
  (h:sW [.i .u8,.bo,.i .u16,.i .u8,.i .u8,.i .u8,.i .u8,.i .u8,.i .u8,.i .u8,.i .u8,.i .u8,.bo,.i .u16,.i .u8,.i .u8,.i .u8,.i .u8,.i .u8,.i .u8,.i .u8] y):wfR y:=by
 obtain⟨f,_,l,d,o,g,k,e,c,n,_,k0,_,k2,k3,k4,a,b,m,p,j⟩:=h;exact⟨⟨nU f,SE l,nU d,nU o,nU g,nU k,nU e,nU c,nU n⟩,⟨nU k0,SE k2,nU k3,nU k4,nU a,nU b,nU m,nU p,nU j⟩⟩
end Go.Sh
