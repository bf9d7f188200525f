
import Derived.Test.YtibehcmomiplnabGreatDoorLawSvc
set_option linter.unusedSimpArgs false
set_option linter.unusedVariables false
set_option linter.defProp false
set_option maxRecDepth 100000
namespace Go.Sh
open Go.Abs
def vQ{X Y:Type}{step:X->Option (X⊕Y)}{x:X}{y:Y}{N:Nat}(h:step x=some (.inr y)):av step (N+1) x=some y:=by rw[av,h]
def rZ{X Y:Type}{step:X->Option (X⊕Y)}{x a:X}{N:Nat}(h:step x=some (.inl a)):av step (N+1) x=av step N a:=by rw[av,h]
def orL(L:List (Nat×Bool))(a:Nat):Nat:=L.foldl (λa p=>if p.2 then a ||| p.1 else a) a
def or64{a b:Nat}(c:a<2 ^ 62)(d:b<2 ^ 62):bits .or .i64 (a:Int) (b:Int)=((a ||| b:Nat):Int):=by
 show IntKind.wrap .i64 ((BitVec.ofInt 64 (a:Int) ||| BitVec.ofInt 64 (b:Int)).toNat:Int)=_;rw[oe,oe,BitVec.toNat_or,yd,yd,mB (show a<2 ^ 64 by omega),mB (show b<2 ^ 64 by omega)];have:=xq (n:=62) c d;exact wrap_i64 _ (by omega) (by omega)
def abh{a b:Nat}(d:a<2 ^ 62)(c:b<2 ^ 62):bits .and .i64 (a:Int) (b:Int)=((a &&& b:Nat):Int):=by
 show IntKind.wrap .i64 ((BitVec.ofInt 64 (a:Int) &&& BitVec.ofInt 64 (b:Int)).toNat:Int)=_;rw[oe,oe,OP,yd,yd,mB (show a<2 ^ 64 by omega),mB (show b<2 ^ 64 by omega)];have:=Nat.and_lt_two_pow (n:=62) a c;exact wrap_i64 _ (by omega) (by omega)
def UX:∀(L:List (Nat×Bool)) (a:Nat),a<2 ^ 62->(∀p∈L,p.1<2 ^ 62)->orL L a<2 ^ 62
 | [],a,h,_=>h
 | p::L,a,h,b=>by
  show orL L (if p.2 then a ||| p.1 else a)<2 ^ 62;refine UX L _ ?_ (λq c=>b q (fV _ c));split
  ·exact xq h (b p kY)
  ·exact h
def inL(L:List (Nat×Bool)):List (Int×Bool):=L.map λp=>((p.1:Int),p.2)
def N4(L:List (Nat×Bool))(j:L.length<1000)(g:∀p∈L,p.1<2 ^ 62):∀(r i a:Nat),a<2 ^ 62->i+r=L.length->∀N,r<N->
  av (eK 20000000) N (len (inL L),(i:Int),inL L,(a:Int))=some ((orL (L.drop i) a:Nat):Int):=by
 intro r;have c:len (inL L)=(L.length:Int):=by show(((inL L).length:Nat):Int)=_;unfold inL;rw[vF]
 induction r with
 | zero=>
  intro i a e hi N h;obtain⟨N,rfl⟩:∃k,N=k+1:=⟨N - 1,by omega⟩;obtain rfl:i=L.length:=by omega
  rw[tg];refine vQ ?_;unfold eK;simp only[u4,u3,u2];rw[c,au (by omega)];rfl
 | succ r ih=>
  intro i a e hi N h;obtain⟨N,rfl⟩:∃k,N=k+1:=⟨N - 1,by omega⟩;have b:i<L.length:=by omega
  have f:(inL L)[i]?=some ((L[i].1:Int),L[i].2):=by unfold inL;rw[nV,ba b];rfl
  have d:=g _ (tG b);rw[qj b];generalize L[i]=p at f d ⊢;have st:eK 20000000 (len (inL L),(i:Int),inL L,(a:Int))=some (.inl (len (inL L),((i+1:Nat):Int),inL L,(((if p.2 then a ||| p.1 else a):Nat):Int))):=by
   unfold eK;simp only[u4,u3,u2];rw[c,rM,ah,dh (by unfold inL;rw[vF];exact b)];simp only[ob,f];rw[lU (by omega),or64 e d];cases p.2<;>rfl
  rw[rZ st];have:=ih (i+1) (if p.2 then a ||| p.1 else a) (by split;exact xq e d;exact e) (by omega) N (by omega);exact this
def YS(L:List (Nat×Bool))(c:L.length<1000)(d:∀p∈L,p.1<2 ^ 62){a:Nat}(b:a<2 ^ 62):aT 20000000 (inL L) (a:Int)=some ((orL L a:Nat):Int):=by
 have:=N4 L c d L.length 0 a b (by omega) 20000000 (by omega);rw[cM]at this;unfold aT;rw[show((0:Nat):Int)=0 from rfl]at this;rw[this];rfl
def HZ:∀(L:List (Nat×Bool)) (a:Nat),orL L a=a ||| orL L 0
 | [],a=>by show a=a ||| 0;simp
 | p::L,a=>by
  show orL L (if p.2 then a ||| p.1 else a)=a ||| orL L (if p.2 then 0 ||| p.1 else 0);rw[HZ L (if p.2 then a ||| p.1 else a),HZ L (if p.2 then 0 ||| p.1 else 0)];cases p.2<;>simp[Ab]
def apI(k:Nat)(a b c:Int):Bool:=(decide (1<k)&&b != a)||(decide (2<k)&&c != a)
def apT(x:TD):Bool:=apI (coT x) (d4 x).2.2.2.1 (d8 x).1 (d8 x).2
def mkB(x:TD):Bool:=!((d4 x).2.2.2.1==0&&((d8 x).1==0&&((d8 x).2==0&&true)))
def fxL(x:TD):List (Nat×Bool):=[(1,mkB x),(2,apT x),(4,mkX x),(8,x.1||x.2.1),(16,decide (0<x.2.2.2.1)||decide (0<(d4 x).1)),(32,decide (0<seT x)&&decide (seT x<25)),(64,decide (0<seT x)&&decide (25<=seT x))]
def fxN(x:TD):Nat:=orL (fxL x) 0
def V7(x:TD):fxN x<2 ^ 62:=UX _ 0 (by decide) (by
 intro p hp;unfold fxL at hp;simp only[ck,nB,ov]at hp;rcases hp with rfl | rfl | rfl | rfl | rfl | rfl | rfl<;>simp)
def WH(x:TD){a:Nat}(b:a<2 ^ 62):aT 20000000 (inL (fxL x)) (a:Int)=some ((a ||| fxN x:Nat):Int):=by
 rw[YS (fxL x) (by show 7<1000;omega) ?_ b,HZ];rfl;intro p hp;unfold fxL at hp;simp only[ck,nB,ov]at hp;rcases hp with rfl | rfl | rfl | rfl | rfl | rfl | rfl<;>simp
def X4{N:Nat}(m:3<N){k:Nat}(n:1<=k/\k<=3)(code:Int)(g:Bool)(a c:Nat)(d f e:Int)(x:TD)(L:List TD):
  av (cY 20000000) N (code,g,(k:Int),false,1,a,c,d,f,e,x,L)=some (code,g,apI k (d4 x).2.2.2.1 (d8 x).1 (d8 x).2,a,c,d,f,e,x,L):=by
 obtain⟨N,rfl⟩:∃j,N=j+3:=⟨N - 3,by omega⟩;have fin:∀(b:Bool) (j:Nat),k<=j->cY 20000000 (code,g,(k:Int),b,(j:Int),a,c,d,f,e,x,L)=some (.inr (code,g,b,a,c,d,f,e,x,L)):=λb j h=>by
  unfold cY;simp only[u12,u11,u10,u9,u8,u7,u6,u5,u4,u3,u2];rw[au (by omega)];rfl
 have i:1<k->cY 20000000 (code,g,(k:Int),false,1,a,c,d,f,e,x,L)=some (.inl (code,g,(k:Int),(d8 x).1 != (d4 x).2.2.2.1,2,a,c,d,f,e,x,L)):=λh=>by
  unfold cY;simp only[u12,u11,u10,u9,u8,u7,u6,u5,u4,u3,u2];rw[rM];rfl
 have l:2<k->∀b,cY 20000000 (code,g,(k:Int),b,2,a,c,d,f,e,x,L)=some (.inl (code,g,(k:Int),b||(d8 x).2 != (d4 x).2.2.2.1,3,a,c,d,f,e,x,L)):=λh b=>by
  unfold cY;simp only[u12,u11,u10,u9,u8,u7,u6,u5,u4,u3,u2];rw[rM];cases b<;>rfl
 unfold apI;rcases(by omega:k=1\/k=2\/k=3)with rfl | rfl | rfl
 ·rw[show(1:Int)=((1:Nat):Int)from rfl]at *;exact vQ (fin false 1 (by omega))
 ·rw[rZ (i (by omega))];rw[show(2:Int)=((2:Nat):Int)from rfl];rw[vQ (fin _ 2 (by omega))];simp
 ·rw[rZ (i (by omega)),rZ (l (by omega) _)];rw[show(3:Int)=((3:Nat):Int)from rfl];rw[vQ (fin _ 3 (by omega))];simp
def ZR(x:TD):1<=coT x/\coT x<=3:=hZ _ _
def dsT{x:TD}(h:smT x):ap10 (bJ 20000000) x=some (seT x,decide (0<seT x)):=rH 20000000 _ _ _ _ _ _ _ _ _ _ h.1
def dcoT(x:TD):ap10 (bz 20000000) x=some ((coT x:Nat):Int):=sW 20000000 (by omega) _ _ _ _ _ _ _ _ _ _
def aaH{x:TD}(hs:smT x)(hc:cF x=0):0<=x.2.2.2.1/\x.2.2.2.1<=16/\0<=(d4 x).1/\(d4 x).1<=17:=by
 obtain⟨g,l,dg,e,q,m,d,a,b,c,rfl,ok⟩:=lj hs hc;have f:=ok.x16;have h:=ok.q17;show 0<=(e:Int)/\(e:Int)<=16/\0<=(q:Int)/\(q:Int)<=17;omega
def Pn{L:List TD}(j:okDs L)(o:L.length<=1000000)(c:Nat)(i:Nat){x:TD}(e:L[i]?=some x){a:Nat}(f:a<2 ^ 62):
  bZ 20000000 (L.length,c,(L.length:Int),(i:Int),(a:Int),L)=some (.inl (L.length,c,(L.length:Int),((i+1:Nat):Int),((a ||| fxN x:Nat):Int),L)):=by
 obtain⟨b,rfl⟩:=qk.1 e;obtain⟨hs,hc⟩:=j _ (tG b);obtain⟨n,q,p,m⟩:=aaH hs hc;unfold bZ;simp only[u6,u5,u4,u3,u2];rw[rM,ah,dh b];simp only[ob,e];generalize L[i]=x at *;have d:aT 20000000 [(1,!((d4 x).2.2.2.1==0&&((d8 x).1==0&&((d8 x).2==0&&true)))),(2,apI (coT x) (d4 x).2.2.2.1 (d8 x).1 (d8 x).2),(4,hasX x.2.2.1||(hasX x.2.2.2.2.2.1||hasX x.2.2.2.2.2.2.1)),(8,x.1||x.2.1),(16,decide (0<x.2.2.2.1)||decide (0<(d4 x).1)),(32,decide (0<seT x)&&decide (seT x<25)),(64,decide (0<seT x)&&decide (seT x>=25))] (a:Int)=some ((a ||| fxN x:Nat):Int):=WH x f;rw[dsT hs];simp only[u2];rw[dcoT];simp only[X4 (show 3<20000000 by omega) (ZR x),u10,u9,u8,u7,u6,u5,u4,u3,u2];rw[fmT hs];simp only[];have k:decide (w64 (x.2.2.2.1+(d4 x).1)>0)=(decide (0<x.2.2.2.1)||decide (0<(d4 x).1)):=by
  rw[show w64 (x.2.2.2.1+(d4 x).1)=x.2.2.2.1+(d4 x).1 from wrap_i64 _ (by omega) (by omega),<-Bool.decide_or];exact jr.2 (by omega)
 rw[k,lU (by omega)];generalize x.1=l at *;generalize x.2.1=h at *;generalize decide (0<seT x)=g at *;cases l<;>cases h<;>cases g<;>simp only[ah,af,rG,yh,Bool.or_true,xT,Bool.or_self,FT]at d ⊢<;>rw[d]
def orD(L:List TD)(a:Nat):Nat:=L.foldl (λa x=>a ||| fxN x) a
def H4:∀(L:List TD) (a:Nat),orD L a=a ||| orD L 0
 | [],a=>by show a=a ||| 0;simp
 | x::L,a=>by
  show orD L (a ||| fxN x)=a ||| orD L (0 ||| fxN x);rw[H4 L (a ||| fxN x),H4 L (0 ||| fxN x),Nat.zero_or,Ab]
def Vw:∀(L:List TD) (a:Nat),a<2 ^ 62->orD L a<2 ^ 62
 | [],a,h=>h
 | x::L,a,h=>Vw L _ (xq h (V7 x))
def MS{L:List TD}(g:okDs L)(f:L.length<=1000000)(c:Nat):∀(r i a:Nat),a<2 ^ 62->i+r=L.length->∀N,r<N->
  av (bZ 20000000) N (L.length,c,(L.length:Int),(i:Int),(a:Int),L)=some ((orD (L.drop i) a:Nat):Int):=by
 intro r
 induction r with
 | zero=>
  intro i a d hi N e;obtain⟨N,rfl⟩:∃k,N=k+1:=⟨N - 1,by omega⟩;obtain rfl:i=L.length:=by omega
  rw[tg];refine vQ ?_;unfold bZ;simp only[u6,u5,u4,u3,u2];rw[au (by omega)];rfl
 | succ r ih=>
  intro i a d hi N e;obtain⟨N,rfl⟩:∃k,N=k+1:=⟨N - 1,by omega⟩;have b:i<L.length:=by omega
  rw[rZ (Pn g f c i (ba b) d),qj b];exact ih (i+1) _ (xq d (V7 _)) (by omega) N (by omega)
def topL(k KF KT:Int):List (Nat×Bool):=[(128,k==2&&(KF != 1||KT != 1)),(256,k==3||k==4)]
def fxE(k:Int)(D:TD)(KF:Int)(DF:TD)(KT:Int)(DT:TD)(I:List TI):Nat:=orD (datE k D KF DF KT DT I) (orL (topL k KF KT) 0)
def adj(u s:Bool):aT 20000000 [(128,u),(256,s)] 0=some ((orL [(128,u),(256,s)] 0:Nat):Int):=
 YS [(128,u),(256,s)] (by show 2<1000;omega) (by intro p hp;simp only[ck,nB,ov]at hp;rcases hp with rfl | rfl<;>simp) (a:=0) (by decide)
def QD(u s:Bool):orL [(128,u),(256,s)] 0<2 ^ 62:=by cases u<;>cases s<;>decide
def Xw{k:Int}{D:TD}{KF:Int}{DF:TD}{KT:Int}{DT:TD}{e l:Bool}{I:List TI}(h:RightP k D KF DF KT DT e l I):I.length<=256:=by
 cases h with
 | single=>simp
 | interval=>simp
 | set P=>exact P.most
def Kr{k:Int}{D:TD}{KF:Int}{DF:TD}{KT:Int}{DT:TD}{e l:Bool}{I:List TI}(h:RightP k D KF DF KT DT e l I):(datE k D KF DF KT DT I).length<=1000000:=by
 have a:=Xw h;have b:=wA I;unfold datE
 repeat' split
 all_goals first | omega | simp
def Jg{k:Int}{D:TD}{KF:Int}{DF:TD}{KT:Int}{DT:TD}{e l:Bool}{I:List TI}(hs:smE D DF DT I):
  eC 20000000 k D KF DF KT DT e l I=some (if(fA k D KF DF KT DT e l I).2=0 then(((fxE k D KF DF KT DT I:Nat):Int),0)else(0,(fA k D KF DF KT DT e l I).2)):=by
 unfold eC;rw[yz hs];by_cases a:(fA k D KF DF KT DT e l I).2=0
 ·rw[ae a,a];have P:=vY hs a;have f:=Ta (I:=I) (by have:=Xw P;omega) k D KF DF KT DT e l;have b:=λ(u s:Bool)=>MS (zE P) (Kr P) (datE k D KF DF KT DT I).length (datE k D KF DF KT DT I).length 0 _ (QD u s) (by omega) 20000000 (by have:=Kr P;omega);rw[f];unfold fxE topL;generalize datE k D KF DF KT DT I=L at *;simp only[cM,show((0:Nat):Int)=0 from rfl]at b;simp only[ob,fU,af,adj,u3,u2,b];generalize(k==2)=d;generalize(k==3)=c;generalize(k==4)=g;generalize(KF != 1)=z1;generalize(KT != 1)=z2;cases d<;>cases c<;>cases z1<;>rfl
 ·rw[ab a];simp only[ob];rw[show((fA k D KF DF KT DT e l I).2 != 0)=true from Am.2 a,ah]
def wi{k:Int}{D:TD}{KF:Int}{DF:TD}{KT:Int}{DT:TD}{e l:Bool}{I:List TI}(h:RightP k D KF DF KT DT e l I):
  eC 20000000 k D KF DF KT DT e l I=some (((fxE k D KF DF KT DT I:Nat):Int),0):=by
 rw[Jg (Xa h),ae (Ef h)]
def V2{N:Nat}(m:4<N)(x:TD)(b1 b2 h c e g f d a c3 c4 c5 c6:Bool)(v:List Int):
  av (eI 20000000) N (0,x,b1,b2,h,c,e,g,f,false,d,a,c3,c4,c5,c6,v)=some (x,b1,b2,h,c,e,g,f,decide ((d4 x).2.2.2.1>0)||decide ((d8 x).1>0)||decide ((d8 x).2>0),d,a,c3,c4,c5,c6,v):=by
 obtain⟨N,rfl⟩:∃j,N=j+4:=⟨N - 4,by omega⟩;have s:∀(j:Nat) (l:j<3) (b:Bool),eI 20000000 ((j:Int),x,b1,b2,h,c,e,g,f,b,d,a,c3,c4,c5,c6,v)=some (.inl (((j+1:Nat):Int),x,b1,b2,h,c,e,g,f,b||decide ([(d4 x).2.2.2.1,(d8 x).1,(d8 x).2].getD j 0>0),d,a,c3,c4,c5,c6,v)):=by
  intro j l b;unfold eI;simp only[u17,u16,u15,u14,u13,u12,u11,u10,u9,u8,u7,u6,u5,u4,u3,u2];rw[ar (show(j:Int)<3 by omega),lU (by omega)];rcases(by omega:j=0\/j=1\/j=2)with rfl | rfl | rfl<;>cases b<;>rfl
 have s0:=s 0 (by omega) false;have i:=s 1 (by omega);have k:=s 2 (by omega);rw[show(0:Int)=((0:Nat):Int)from rfl];rw[rZ s0,rZ (i _),rZ (k _)];refine vQ ?_;unfold eI;simp only[u17,u16,u15,u14,u13,u12,u11,u10,u9,u8,u7,u6,u5,u4,u3,u2];rfl
def GI(k a b c:Nat):Bool:=if a==0&&b==0&&c==0 then !apI k (a:Int) (b:Int) (c:Int)else(l3 (plB k a b c)==[0,0,0])==apI k (a:Int) (b:Int) (c:Int)
def aan:((List.range 4).all λa=>GI 1 a 0 0)=true:=by decide +kernel
def YQ:((List.range 4).all λa=>(List.range 4).all λb=>GI 2 a b 0)=true:=by decide +kernel
def aaT:((List.range 4).all λa=>(List.range 4).all λb=>(List.range 4).all λc=>GI 3 a b c)=true:=by decide +kernel
def YT{k a b c:Nat}(h:1<=k/\k<=3)(d:a<4)(e:b<4)(hc:c<4)(g:k<2->b=0)(f:k<3->c=0):GI k a b c=true:=by
 rcases(by omega:k=1\/k=2\/k=3)with rfl | rfl | rfl
 ·obtain rfl:=g (by omega);obtain rfl:=f (by omega);exact r4 aan d
 ·obtain rfl:=f (by omega);exact r4 (r4 (p:=λa=>(List.range 4).all λb=>GI 2 a b 0) YQ d) e
 ·exact r4 (r4 (p:=λb=>(List.range 4).all λc=>GI 3 a b c) (r4 (p:=λa=>(List.range 4).all λb=>(List.range 4).all λc=>GI 3 a b c) aaT d) e) hc
def abm{g l:Bool}{dg:aa}{e q:Nat}(h:okY g l dg (e:Int) (q:Int)):∃a,sx (fZ g l dg (e:Int) (q:Int)) 0=some a/\((a.toNat:Int)==45)=(g&&!l):=by
 have d:=Ce h;obtain⟨i,j,f,k,b,m⟩:=gR h;rw[ir];cases l
 ·cases g
  ·cases dg with
   | nil=>simp at b
   | cons c r=>
    refine⟨c,rfl,?_⟩;have hc:=d c kY;have:=gO (λc=>!isDX c||!((c.toNat:Int)==45)) (by decide +kernel) c;rw[hc]at this;simpa using this
  ·exact⟨45,rfl,rfl⟩
 ·cases g
  ·exact⟨89,rfl,rfl⟩
  ·exact⟨89,rfl,rfl⟩
def GQ(x:TD):seT x=0\/(21<=seT x/\seT x<=41):=by
 unfold seT;rcases qs x.2.2.2.2.2.1 with h | ⟨j,a,e⟩
 ·exact .inl h
 ·right;rw[e,lT a];omega
def XP{x:TD}(hs:smT x)(hc:cF x=0):kE 20000000 x=some (mkB x,apT x,mkX x,x.1||x.2.1,decide (0<x.2.2.2.1)||decide (0<(d4 x).1),decide (0<seT x)&&decide (seT x<25),decide (0<seT x)&&decide (25<=seT x)):=by
 have r:=rsT x;have A:=GQ x;obtain⟨g,l,dg,e,q,m,d,a,b,c,hx,ok⟩:=lj hs hc;have i:=(YW 19999700 (bp m d) a b c (hZ m d) ok.m0 ok.m1 ok.m2 ok.z1 ok.z2).2;rw[show 19999700+300=20000000 from rfl]at i;have k:coT x=bp m d:=by rw[hx];rfl
 have o:apT x=apI (bp m d) (a:Int) (b:Int) (c:Int):=by unfold apT;rw[k,hx]
 have j:mkB x=!(a==0&&b==0&&c==0):=by
  rw[hx];show(!((a:Int)==0&&((b:Int)==0&&((c:Int)==0&&true))))=_;rw[show((a:Int)==0)=(a==0)from by rw[mL];simp,show((b:Int)==0)=(b==0)from by rw[mL];simp,show((c:Int)==0)=(c==0)from by rw[mL];simp,BX,Bool.and_assoc]
 have f:=YT (hZ m d) ok.m0 ok.m1 ok.m2 ok.z1 ok.z2;obtain⟨S,I,D⟩:=abm ok.yr;have s:=KL 20000000 g l dg e q (by have:=ok.x16;omega) (by have:=ok.q17;omega) (by have:=ok.dg17;omega);have h:aX 20000000 false false dg 0 0 m d 0 0 0=some (if exT ((false,false,dg,0,0,m,d,0,0,0):TD)then 1 else 0):=by
  refine reT (x:=(false,false,dg,0,0,m,d,0,0,0)) ?_;rw[hx]at hs;exact⟨hs.1,hs.2.1,hs.2.2.1,ql _,ql _,ql _⟩
 have n:(if exT ((false,false,dg,0,0,m,d,0,0,0):TD)then(1:Int)else 0)=if mkX x then 0 else 1:=by
  rw[hx];show(if(!(hasX dg||(hasX m||hasX d))&&((0:Int)==0))=true then(1:Int)else 0)=if(hasX dg||(hasX m||hasX d))=true then 0 else 1
  cases(hasX dg||(hasX m||hasX d))<;>rfl
 rw[n]at h;unfold kE;rw[rcoT];simp only[ob];have v:[(d4 x).2.2.2.1,(d8 x).1,(d8 x).2]=[(a:Int),(b:Int),(c:Int)]:=by rw[hx]
 rw[v,k,i];simp only[u2];rw[V2 (by omega)];simp only[u16,u15,u14,u13,u12,u11,u10,u9,u8,u7,u6,u5,u4,u3,u2];have G:x.1=g:=by rw[hx]
 have w:x.2.1=l:=by rw[hx]
 have y:x.2.2.1=dg:=by rw[hx]
 have E:x.2.2.2.1=(e:Int):=by rw[hx]
 have F:(d4 x).1=(q:Int):=by rw[hx]
 have C:(d4 x).2.1=m:=by rw[hx]
 have z:(d4 x).2.2.1=d:=by rw[hx]
 have J:x.2.2.2.2.1=(q:Int):=by rw[hx]
 have L:(decide ((d4 x).2.2.2.1>0)||decide ((d8 x).1>0)||decide ((d8 x).2>0))=mkB x:=by
  rw[j,hx];show(decide ((a:Int)>0)||decide ((b:Int)>0)||decide ((c:Int)>0))=_;rw[mL];simp;omega
 rw[L];simp only[G,w,y,E,F,C,z,J,h,s,I,D,r,ob];rw[o];unfold GI at f;rw[j];have d16:decide ((e:Int)>0)=decide (0<e):=jr.2 (by omega);have p:decide ((q:Int)>0)=decide (0<q):=jr.2 (by omega);rw[d16,p];have O:((if mkX x=true then(0:Int)else 1)==0)=mkX x:=by cases mkX x<;>rfl
 rw[O];have H:(decide (seT x>=21))=decide (0<seT x):=jr.2 (by omega);have N:(decide (seT x<=24))=decide (seT x<25):=jr.2 (by omega);have B:(decide (seT x>=25))=(decide (0<seT x)&&decide (25<=seT x)):=by rw[<-Bool.decide_and];exact jr.2 (by omega)
 rw[H,N,B];generalize decide (0<seT x)=t;generalize decide (25<=seT x)=P;generalize decide (seT x<25)=T;generalize decide (0<e)=u;generalize decide (0<q)=Q;generalize mkX x=R;generalize K:(a==0&&b==0&&c==0)=M at *;cases M
 ·simp only[bI,aF,bA]at f;rw[f];cases g<;>cases l<;>cases u<;>cases t<;>rfl
 ·simp only[aS,ko]at f;rw[f];cases g<;>cases l<;>cases u<;>cases t<;>rfl
def S0{x:TD}(h:smT x/\cF x=0):kE 20000000 x=some ((fxN x).testBit 0,(fxN x).testBit 1,(fxN x).testBit 2,(fxN x).testBit 3,(fxN x).testBit 4,(fxN x).testBit 5,(fxN x).testBit 6):=by
 rw[XP h.1 h.2];unfold fxN fxL;generalize mkB x=b0;generalize apT x=b1;generalize mkX x=b2;generalize(x.1||x.2.1)=c;generalize(decide (0<x.2.2.2.1)||decide (0<(d4 x).1))=b;generalize(decide (0<seT x)&&decide (seT x<25))=d;generalize(decide (0<seT x)&&decide (25<=seT x))=a;cases b0<;>cases b1<;>cases b2<;>cases c<;>cases b<;>cases d<;>cases a<;>rfl
def PS(x:TD):fxN x<128:=by
 unfold fxN fxL;generalize mkB x=b0;generalize apT x=b1;generalize mkX x=b2;generalize(x.1||x.2.1)=a;generalize(decide (0<x.2.2.2.1)||decide (0<(d4 x).1))=b;generalize(decide (0<seT x)&&decide (seT x<25))=d;generalize(decide (0<seT x)&&decide (25<=seT x))=c;revert b0 b1 b2 a b d c;decide +kernel
def RN:∀(L:List TD) (a:Nat),a<128->orD L a<128
 | [],a,h=>h
 | x::L,a,h=>RN L _ (xq (n:=7) h (PS x))
def YZ(x0:Int)(o:List TI)(q:Int)(v:TD)(s:Int)(p:TD)(w:Int)(r:TD)(u t a k i h l f x16:Bool)(m:List TD)(b c n d e j g:Bool):gi 20000000 x0 o q v s p w r u t a k i h l f x16 m b c n d e j g=some (x0,o,q,v,s,p,w,r,u,t,a||b,k,i,h,l,f,x16,m,b,c,n,d,e,j,g):=by
 unfold gi;cases a<;>rfl
def XC(x0:Int)(o:List TI)(q:Int)(v:TD)(s:Int)(p:TD)(w:Int)(r:TD)(u t d b j h l f x16:Bool)(m:List TD)(i a n c e k g:Bool):fL 20000000 x0 o q v s p w r u t d b j h l f x16 m i a n c e k g=some (x0,o,q,v,s,p,w,r,u,t,d,b||a,j,h,l,f,x16,m,i,a,n,c,e,k,g):=by
 unfold fL;cases b<;>rfl
def Xz(x0:Int)(o:List TI)(q:Int)(v:TD)(s:Int)(p:TD)(w:Int)(r:TD)(u t e l a i m g x16:Bool)(n:List TD)(j c b d f k h:Bool):fG 20000000 x0 o q v s p w r u t e l a i m g x16 n j c b d f k h=some (x0,o,q,v,s,p,w,r,u,t,e,l,a||b,i,m,g,x16,n,j,c,b,d,f,k,h):=by
 unfold fG;cases a<;>rfl
def Ya(x0:Int)(o:List TI)(q:Int)(v:TD)(s:Int)(p:TD)(w:Int)(r:TD)(u t d k i b l f x16:Bool)(m:List TD)(h c n a e j g:Bool):fM 20000000 x0 o q v s p w r u t d k i b l f x16 m h c n a e j g=some (x0,o,q,v,s,p,w,r,u,t,d,k,i,b||a,l,f,x16,m,h,c,n,a,e,j,g):=by
 unfold fM;cases b<;>rfl
def V3(x0:Int)(o:List TI)(q:Int)(v:TD)(s:Int)(p:TD)(w:Int)(r:TD)(u t e l j h b f x16:Bool)(m:List TD)(i c n d a k g:Bool):fO 20000000 x0 o q v s p w r u t e l j h b f x16 m i c n d a k g=some (x0,o,q,v,s,p,w,r,u,t,e,l,j,h,b||a,f,x16,m,i,c,n,d,a,k,g):=by
 unfold fO;cases b<;>rfl
def W9(x0:Int)(o:List TI)(q:Int)(v:TD)(s:Int)(p:TD)(w:Int)(r:TD)(u t e k j h l a x16:Bool)(m:List TD)(i c n d f b g:Bool):fH 20000000 x0 o q v s p w r u t e k j h l a x16 m i c n d f b g=some (x0,o,q,v,s,p,w,r,u,t,e,k,j,h,l,a||b,x16,m,i,c,n,d,f,b,g):=by
 unfold fH;cases a<;>rfl
def Yp(x0:Int)(o:List TI)(q:Int)(v:TD)(s:Int)(p:TD)(w:Int)(r:TD)(u t d k i g l f x16:Bool)(m:List TD)(h b n c e j a:Bool):fF 20000000 x0 o q v s p w r u t d k i g l f x16 m h b n c e j a=some (x0,o,q,v,s,p,w,r,u,t,d,k,i,g,l,f,x16||a,m,h,b,n,c,e,j,a):=by
 unfold fF;cases x16<;>rfl
def SR{L:List TD}(g:okDs L)(h:L.length<=1000000)(I:List TI)(k:Int)(D:TD)(KF:Int)(DF:TD)(KT:Int)(DT:TD)(e l:Bool):∀(r i a:Nat),i+r=L.length->∀N,r<N->
  av (cU 20000000) N ((i:Int),I,k,D,KF,DF,KT,DT,e,l,a.testBit 0,a.testBit 1,a.testBit 2,a.testBit 3,a.testBit 4,a.testBit 5,a.testBit 6,L) =
   some (I,k,D,KF,DF,KT,DT,e,l,(orD (L.drop i) a).testBit 0,(orD (L.drop i) a).testBit 1,(orD (L.drop i) a).testBit 2,(orD (L.drop i) a).testBit 3,(orD (L.drop i) a).testBit 4,(orD (L.drop i) a).testBit 5,(orD (L.drop i) a).testBit 6,false,false):=by
 intro r
 induction r with
 | zero=>
  intro i a hi N f;obtain⟨N,rfl⟩:∃k,N=k+1:=⟨N - 1,by omega⟩;obtain rfl:i=L.length:=by omega
  rw[tg];refine vQ ?_;unfold cU;simp only[u18,u17,u16,u15,u14,u13,u12,u11,u10,u9,u8,u7,u6,u5,u4,u3,u2];rw[au (show¬(L.length:Int)<len L by show¬(L.length:Int)<(L.length:Int);omega)];rfl
 | succ r ih=>
  intro i a hi N f;obtain⟨N,rfl⟩:∃k,N=k+1:=⟨N - 1,by omega⟩;have b:i<L.length:=by omega
  have d:L[i]?=some L[i]:=ba b;have c:=S0 (g _ (tG b));rw[qj b];generalize L[i]=x at d c ⊢;have st:cU 20000000 ((i:Int),I,k,D,KF,DF,KT,DT,e,l,a.testBit 0,a.testBit 1,a.testBit 2,a.testBit 3,a.testBit 4,a.testBit 5,a.testBit 6,L) =
    some (.inl (((i+1:Nat):Int),I,k,D,KF,DF,KT,DT,e,l,(a ||| fxN x).testBit 0,(a ||| fxN x).testBit 1,(a ||| fxN x).testBit 2,(a ||| fxN x).testBit 3,(a ||| fxN x).testBit 4,(a ||| fxN x).testBit 5,(a ||| fxN x).testBit 6,L)):=by
   unfold cU;simp only[u18,u17,u16,u15,u14,u13,u12,u11,u10,u9,u8,u7,u6,u5,u4,u3,u2];rw[ar (show(i:Int)<len L by show(i:Int)<(L.length:Int);omega),ah,dh b];simp only[ob,d,c,YZ,XC,Xz,Ya,V3,W9,Yp,u25,u24,u23,u22,u21,u20,u19,u18,u17,u16,u15,u14,u13,u12,u11,u10,u9,u8,u7,u6,u5,u4,u3,u2];simp only[zS];rw[lU (by omega)]
  rw[rZ st];exact ih (i+1) _ (by omega) N (by omega)
def sum9(h d b g f a i c e:Bool):Int:=(cond h 1 0)+(cond d 2 0)+(cond b 4 0)+(cond g 8 0)+(cond f 16 0)+(cond a 32 0)+(cond i 64 0)+(cond c 128 0)+(cond e 256 0)
def aal(u s:Bool):∀m,m<128->sum9 (m.testBit 0) (m.testBit 1) (m.testBit 2) (m.testBit 3) (m.testBit 4) (m.testBit 5) (m.testBit 6) u s=(((orL [(128,u),(256,s)] 0) ||| m:Nat):Int):=by
 have:∀u s:Bool,((List.range 128).all λm=>sum9 (m.testBit 0) (m.testBit 1) (m.testBit 2) (m.testBit 3) (m.testBit 4) (m.testBit 5) (m.testBit 6) u s==(((orL [(128,u),(256,s)] 0) ||| m:Nat):Int))=true:=by decide +kernel
 intro m a;have:=(cb.1 (this u s)) m (il.2 a);simpa using this
def IP{k:Int}{D:TD}{KF:Int}{DF:TD}{KT:Int}{DT:TD}{e l:Bool}{I:List TI}(h:RightP k D KF DF KT DT e l I):
  jo 20000000 k D KF DF KT DT e l I=some ((fxE k D KF DF KT DT I:Nat):Int):=by
 have w:=vL (I:=I) (by have:=Xw h;omega) k D KF DF KT DT e l;have r:=zE h;have t:=Kr h;have q:=SR r t I k D KF DF KT DT e l (datE k D KF DF KT DT I).length 0 0 (by omega) 20000000 (by omega);unfold jo fxE topL;rw[w];generalize datE k D KF DF KT DT I=L at *;rw[cM]at q;rw[H4,<-aal _ _ _ (RN L 0 (by omega))];generalize orD L 0=m at *;simp only[iO9,show((0:Nat):Int)=0 from rfl]at q;simp only[ob,q,u18,u17,u16,u15,u14,u13,u12,u11,u10,u9,u8,u7,u6,u5,u4,u3,u2];generalize m.testBit 0=n;generalize m.testBit 1=d;generalize m.testBit 2=c;generalize m.testBit 3=i;generalize m.testBit 4=g;generalize m.testBit 5=a;generalize m.testBit 6=j;have j17:be 20000000 I k D KF DF KT DT e l n d c i g a j false false=some (I,k,D,KF,DF,KT,DT,e,l,n,d,c,i,g,a,j,k==2&&(KF != 1||KT != 1),false):=by
  unfold be;generalize(k==2)=y;generalize(KF != 1)=z;cases y<;>cases z<;>rfl
 rw[j17];simp only[];have j18:∀u:Bool,gg 20000000 I k D KF DF KT DT e l n d c i g a j u false=some (n,d,c,i,g,a,j,u,k==3||k==4):=λu=>by
  unfold gg;generalize(k==3)=y;cases y<;>rfl
 rw[j18];simp only[];generalize(k==2&&(KF != 1||KT != 1))=u;generalize(k==3||k==4)=s;unfold jv;have o:∀{A:Type} (p:Bool) (x y:Int) (f:Int->A),(cond p (some (f x)) (some (f y)))=some (f (cond p x y)):=λp x y f=>by cases p<;>rfl
 rw[o n 1 0 (λz=>(z,n,d,c,i,g,a,j,u,s))];simp only[];have step:∀(b:Int) (p:Bool) (v:Int),0<=v->v<1000->0<=b->b<1000->cond p (w64 (v+b)) v=v+cond p b 0:=λb p v E F C B=>by
  cases p
  ·simp
  ·show w64 (v+b)=v+b;exact wrap_i64 _ (by omega) (by omega)
 unfold i6;rw[o d _ _ (λz=>(z,n,d,c,i,g,a,j,u,s))];simp only[];unfold iZ;rw[o c _ _ (λz=>(z,n,d,c,i,g,a,j,u,s))];simp only[];unfold iW;rw[o i _ _ (λz=>(z,n,d,c,i,g,a,j,u,s))];simp only[];unfold jd;rw[o g _ _ (λz=>(z,n,d,c,i,g,a,j,u,s))];simp only[];unfold ja;rw[o a _ _ (λz=>(z,n,d,c,i,g,a,j,u,s))];simp only[];unfold je;rw[o j _ _ (λz=>(z,n,d,c,i,g,a,j,u,s))];simp only[];unfold jg;rw[o u _ _ (λz=>(z,n,d,c,i,g,a,j,u,s))];simp only[];unfold iY;rw[o s _ _ (λz=>(z,n,d,c,i,g,a,j,u,s))];simp only[];clear step j17 j18 o q;revert n d c i g a j u s;decide +kernel
def G8(x:TD):(fA 1 x 0 d0 0 d0 false false []).2=cF x:=by
 unfold fA unuB;rw[ad];have h:eqD d0 d0=true:=lM.2 rfl;simp[h]
def Qr{x:TD}(hs:smT x):pF 20000000 x=some (if cF x=0 then(lvX x,0)else(0,cF x)):=by
 unfold pF;rw[JP (D:=x) (DF:=d0) (DT:=d0) (I:=[]) ⟨hs,ow,ow,λt a=>by cases a⟩,G8,ab4];split<;>rfl
def zT{w:aa}(h:∀c∈w,isDX c=true):w.any isLv=false:=by
 rw[ud];intro c hc;have:=gO (λc=>!isDX c||!isLv c) (by decide +kernel) c;rw[h c hc]at this;simpa using this
def GP{k:Nat}(h:k<100){letter:UInt8}(b:letter=69\/letter=83):(eQ letter k).any isLv=decide (0<k):=by
 unfold eQ;by_cases a:0<k
 ·rw[ae a,qG,ar a];rcases b with rfl | rfl<;>rfl
 ·rw[ab a,au a];rfl
def RE{g l:Bool}{dg:aa}{e q:Nat}(h:okY g l dg (e:Int) (q:Int)):(fZ g l dg (e:Int) (q:Int)).any isLv=(decide (0<e)||decide (0<q)):=by
 obtain⟨c,d,b,f,a,i⟩:=gR h;rw[ir];simp only[rf,zT (Ce h),GP (show e<100 by omega) (.inl rfl),GP (show q<100 by omega) (.inr rfl)];cases l<;>cases g<;>simp[show isLv 45=false from by decide,show isLv 89=false from by decide]
def yv(g l:Bool)(dg:aa)(e q:Int)(m d:aa):aa:=fZ g l dg e q++((if m=[]then[]else 45::m)++(if d=[]then[]else 45::d))
def SG(k a b c:Nat)(h:EF k a b c=true)(d:1<=k/\k<=3):plB k a b c=if k=1 then(a,0,0)else if k=2 then(0,a,0)else(0,0,a):=by
 unfold plB;rw[ae h]
def SU(k a b c:Nat)(h:EF k a b c=true):plA k a b c=(0,0,0):=by
 unfold plA;rw[ae h]
def mt0:mt 0=[]:=rfl
def QM{g l:Bool}{dg:aa}{e q:Nat}{m d:aa}{a b c:Nat}(ok:OkD g l dg e q m d a b c)(h:EF (bp m d) a b c=true):
  rV g l dg (e:Int) (q:Int) m d a b c=yv g l dg (e:Int) (q:Int) m d++mt a:=by
 unfold rV yv db;rw[SU _ _ _ _ h,SG _ _ _ _ h (hZ m d)];by_cases f:m=[]
 ·have i:d=[]:=ok.day.resolve_right (λz=>z.1 f);subst f i;rw[JW];simp[mt0]
 ·by_cases i:d=[]
  ·subst i;rw[Hz f];simp[mt0,f]
  ·rw[FN f i];simp[mt0,f,i]
def OS{g l:Bool}{dg:aa}{e q:Nat}{m d:aa}{a b c:Nat}(ok:OkD g l dg e q m d a b c):∃v z,yv g l dg (e:Int) (q:Int) m d=v++[z]/\isMk z=false:=by
 obtain⟨k,j,n⟩:=vB ok.yr;unfold yv;by_cases h:d=[]
 ·by_cases f:m=[]
  ·rw[ae f,ae h];simpa using xd k (λc hc=>(j c hc).2) []
  ·rw[ab f,ae h];have:=xd f (λc hc=>Gg ((ok.mon.resolve_left f).2 c hc)) (fZ g l dg (e:Int) (q:Int)++[45]);simpa using this
 ·obtain⟨f,d2,i⟩:=ok.day.resolve_left h;rw[ab f,ab h];have:=xd h (λc hc=>Gg (i c hc)) (fZ g l dg (e:Int) (q:Int)++(45::m)++[45]);simpa using this
def UQ{g l:Bool}{dg:aa}{e q:Nat}{m d:aa}{a b c:Nat}(ok:OkD g l dg e q m d a b c):(yv g l dg (e:Int) (q:Int) m d).any isLv=(decide (0<e)||decide (0<q)):=by
 unfold yv;rw[rf,RE ok.yr,rf];have j:(if m=[]then([]:aa)else 45::m).any isLv=false:=by
  by_cases f:m=[]
  ·rw[ae f];rfl
  ·rw[ab f,qG,zT (ok.mon.resolve_left f).2];decide
 have i:(if d=[]then([]:aa)else 45::d).any isLv=false:=by
  by_cases h:d=[]
  ·rw[ae h];rfl
  ·rw[ab h,qG,zT (ok.day.resolve_left h).2.2];decide
 rw[j,i];simp
def QZ{g l:Bool}{dg:aa}{e q:Nat}{m d:aa}{a b c:Nat}(ok:OkD g l dg e q m d a b c):
  ((yv g l dg (e:Int) (q:Int) m d).head?=some 45\/(yv g l dg (e:Int) (q:Int) m d).head?=some 89)↔(g||l)=true:=by
 have h:=Ce ok.yr;obtain⟨j,k,i,n,f,o⟩:=gR ok.yr;unfold yv;rw[ir];cases l
 ·cases g
  ·cases dg with
   | nil=>simp at f
   | cons c r=>
    have hc:=h c kY;have:=gO (λc=>!isDX c||!(c==45||c==89)) (by decide +kernel) c;rw[hc]at this;simp at this;simp[this]
  ·simp
 ·simp
def NA{x:TD}(hs:smT x)(hc:cF x=0)(h:apT x=true):lvX x=2:=by
 obtain⟨g,l,dg,e,q,m,d,a,b,c,hx,ok⟩:=lj hs hc;have i:coT x=bp m d:=by rw[hx];rfl
 have f:apI (bp m d) (a:Int) (b:Int) (c:Int)=true:=by rw[<-h];unfold apT;rw[i,hx]
 obtain⟨u,k,j,_,r,_⟩:=yU ok.sh ok.marks;have o:gC x=rawD (plA (bp m d) a b c) (plB (bp m d) a b c) g l dg (e:Int) (q:Int) m d:=by rw[hx];rfl
 rw[<-o]at j;unfold lvX lvT;rw[tM j];unfold lvl;have:u.any isLv=true:=by
  cases n:u.any isLv
  ·have:=(r n).1;exfalso;have p:EF (bp m d) a b c=false:=by
    unfold EF;unfold apI at f;simp at f ⊢;omega
   unfold plA at this;rw[ab (by rw[p];simp)]at this;simp only[bP]at this;obtain⟨rfl,rfl,rfl⟩:=this;unfold apI at f;simp at f
  ·rfl
 rw[this,ae rfl]
def Ja(a b c:Nat):(a ||| b) &&& c=0↔a &&& c=0/\b &&& c=0:=by
 rw[Nat.and_or_distrib_right];constructor
 ·intro h;refine⟨?_,?_⟩<;>(apply Nat.eq_of_testBit_eq;intro i;have:=cf (λz=>z.testBit i) h;simp only[zS,iO9,qt]at this ⊢)
  ·exact this.1
  ·exact this.2
 ·rintro⟨d,e⟩;rw[d,e];rfl
def Sm{x:TD}(hs:smT x)(hc:cF x=0)(h:apT x=false):∃W:aa,lvX x=lvl W (mkB x) (mkX x) (seT x)/\W.any isLv=(decide (0<x.2.2.2.1)||decide (0<(d4 x).1))/\((W.head?=some 45\/W.head?=some 89)↔(x.1||x.2.1)=true):=by
 obtain⟨g,l,dg,e,q,m,d,a,b,c,hx,ok⟩:=lj hs hc;have i:coT x=bp m d:=by rw[hx];rfl
 have f:apI (bp m d) (a:Int) (b:Int) (c:Int)=false:=by rw[<-h];unfold apT;rw[i,hx]
 have p:EF (bp m d) a b c=true:=by
  unfold EF;unfold apI at f;simp at f ⊢;omega
 have n:mkB x=decide (a≠0):=by
  have z1:=ok.z1;have z2:=ok.z2;have hp:=hZ m d;rw[hx];show(!((a:Int)==0&&((b:Int)==0&&((c:Int)==0&&true))))=_;unfold apI at f;simp at f;rw[mL];simp;omega
 obtain⟨u,k,j,s,_,_⟩:=yU ok.sh ok.marks;have o:gC x=rawD (plA (bp m d) a b c) (plB (bp m d) a b c) g l dg (e:Int) (q:Int) m d:=by rw[hx];rfl
 rw[<-o]at j;have r:gC x=yv g l dg (e:Int) (q:Int) m d++mt a:=by
  rw[<-QM ok p,hx];rfl
 have hb':Body (gC x) (yv g l dg (e:Int) (q:Int) m d) a:=⟨r,ok.m0,OS ok,j.asc,j.len⟩;refine⟨yv g l dg (e:Int) (q:Int) m d,?_,?_,?_⟩
 ·unfold lvX lvT;rw[tM hb',DX hb',n,decide_not]
 ·rw[UQ ok,hx];show _=(decide (0<(e:Int))||decide (0<(q:Int)));rw[show decide (0<(e:Int))=decide (0<e)from jr.2 (by omega),show decide (0<(q:Int))=decide (0<q)from jr.2 (by omega)]
 ·rw[QZ ok,hx]
def S7{x:TD}(hs:smT x)(hc:cF x=0):(fxN x &&& 82≠0->lvX x=2)/\(fxN x≠0->1<=lvX x)/\(fxN x=0->lvX x=0)/\(fxN x &&& 4=0->fxN x &&& 82=0->lvX x<=1):=by
 have j:=GQ x;have i:∀b0 b1 b2 b a f c:Bool,(orL [(1,b0),(2,b1),(4,b2),(8,b),(16,a),(32,f),(64,c)] 0 &&& 82≠0↔(b1||a||c)=true)/\(orL [(1,b0),(2,b1),(4,b2),(8,b),(16,a),(32,f),(64,c)] 0 &&& 4=0↔b2=false)/\(orL [(1,b0),(2,b1),(4,b2),(8,b),(16,a),(32,f),(64,c)] 0=0↔(b0||b1||b2||b||a||f||c)=false):=by
  intro b0 b1 b2 b a f c;cases b0<;>cases b1<;>cases b2<;>cases b<;>cases a<;>cases f<;>cases c<;>decide
 obtain⟨k,o,q⟩:=i (mkB x) (apT x) (mkX x) (x.1||x.2.1) (decide (0<x.2.2.2.1)||decide (0<(d4 x).1)) (decide (0<seT x)&&decide (seT x<25)) (decide (0<seT x)&&decide (25<=seT x));have t:(fxN x &&& 82≠0)=(orL (fxL x) 0 &&& 82≠0):=rfl;unfold fxN fxL;rw[k,o,ne_eq,q,show(orL [(1,mkB x),(2,apT x),(4,mkX x),(8,x.1||x.2.1),(16,decide (0<x.2.2.2.1)||decide (0<(d4 x).1)),(32,decide (0<seT x)&&decide (seT x<25)),(64,decide (0<seT x)&&decide (25<=seT x))] 0 &&& 82=0)=¬((apT x||(decide (0<x.2.2.2.1)||decide (0<(d4 x).1))||decide (0<seT x)&&decide (25<=seT x))=true)from propext ⟨λh=>λl=>k.2 l h,λh=>QA λl=>h (k.1 l)⟩];cases m:apT x
 ·obtain⟨W,r,p,e⟩:=Sm hs hc m;rw[r];unfold lvl;rw[p];generalize(decide (0<x.2.2.2.1)||decide (0<(d4 x).1))=a;have e:(W.head?=some 45\/W.head?=some 89)↔(x.1||x.2.1)=true:=e;generalize(x.1||x.2.1)=b at e ⊢;generalize mkX x=b2;generalize mkB x=b0;generalize simB (xi W)=s;generalize seT x=z at j;cases a
  ·by_cases g:24<z
   ·have:(decide (0<z)&&decide (25<=z))=true:=by simp;omega
    rw[this];simp[g]
   ·have:(decide (0<z)&&decide (25<=z))=false:=by simp;omega
    have d:(decide (0<z)&&decide (z<25))=decide (0<z):=by rw[mL];simp;omega
    rw[this,d];cases b2
    ·cases b0
     ·cases b
      ·simp at e;by_cases n:0<z
       ·simp[g,n]
       ·simp[g,n,e]
      ·have:=e.2 rfl;simp only[ab g,this];simp
     ·simp[g]
    ·cases s<;>simp[g]
  ·simp
 ·rw[NA hs hc m];simp
def VN:∀(L:List TD) (w:Int),w<=mxL w L/\∀x∈L,lvX x<=mxL w L
 | [],w=>⟨ql _,λx hx=>by cases hx⟩
 | y::L,w=>by
  obtain⟨d,c⟩:=VN L (mx (lvX y) w);have f:=ach (a:=lvX y) (b:=w);have e:mxL w (y::L)=mxL (mx (lvX y) w) L:=rfl;rw[e];refine⟨by omega,λx hx=>?_⟩;rcases ck.1 hx with rfl | hx
  ·omega
  ·exact c x hx
def JG:∀(L:List TD) (w c:Int),w<=c->(∀x∈L,lvX x<=c)->mxL w L<=c
 | [],w,c,h,_=>h
 | y::L,w,c,h,a=>by
  have e:mxL w (y::L)=mxL (mx (lvX y) w) L:=rfl;rw[e];refine JG L _ c ?_ λx hx=>a x (fV _ hx);have:=a y kY;unfold mx;split<;>omega
def wU(c:Nat):∀(L:List TD) (a:Nat),orD L a &&& c=0↔a &&& c=0/\∀x∈L,fxN x &&& c=0
 | [],a=>⟨λh=>⟨h,λx hx=>by cases hx⟩,λh=>h.1⟩
 | y::L,a=>by
  have e:orD (y::L) a=orD L (a ||| fxN y):=rfl;rw[e,wU c L,Ja,List.forall_mem_cons,and_assoc]
def Qu(i:Nat):∀(L:List TD) (a:Nat),(a.testBit i=true->(orD L a).testBit i=true)/\∀x∈L,(fxN x).testBit i=true->(orD L a).testBit i=true
 | [],a=>⟨λh=>h,λx hx=>by cases hx⟩
 | y::L,a=>by
  obtain⟨b,c⟩:=Qu i L (a ||| fxN y);have e:orD (y::L) a=orD L (a ||| fxN y):=rfl;rw[e];refine⟨λh=>b (by rw[zS,h];rfl),λx hx h=>?_⟩;rcases ck.1 hx with rfl | hx
  ·exact b (by rw[zS,h];simp)
  ·exact c x hx h
def SE{a b:Nat}(d:a<2 ^ 62)(e:b<2 ^ 62)(h:∀i,a.testBit i=true->b.testBit i=true):bits .andNot .i64 (a:Int) (b:Int)=0:=by
 show IntKind.wrap .i64 ((BitVec.ofInt 64 (a:Int) &&& ~~~BitVec.ofInt 64 (b:Int)).toNat:Int)=_;rw[oe,oe,OP,BitVec.toNat_not,yd,yd,mB (show a<2 ^ 64 by omega),mB (show b<2 ^ 64 by omega)];have:a &&& (2 ^ 64 - 1 - b)=0:=by
  apply Nat.eq_of_testBit_eq;intro i;rw[Nat.testBit_and,iO9,show 2 ^ 64 - 1 - b=2 ^ 64 - (b+1)by omega,Nat.testBit_two_pow_sub_succ (by omega)];cases c:a.testBit i
  ·rfl
  ·rw[h i c];simp
 rw[this];rfl
def aba{k:Int}{D:TD}{KF:Int}{DF:TD}{KT:Int}{DT:TD}{I:List TI}:fxE k D KF DF KT DT I<2 ^ 62:=Vw _ _ (QD _ _)
def TL{L:List TD}(l:okDs L)(n:L.length<=1000000){v:Int}{m:Nat}(k:m<2 ^ 62)(c:∀x∈L,lvX x<=v)(b:∀i,∀x∈L,(fxN x).testBit i=true->m.testBit i=true):
  av (az 20000000) 20000000 (v,(m:Int),0,L)=some (.inr ()):=by
 refine Qf (step:=az 20000000) (st:=λi=>(v,(m:Int),(i:Int),L)) (L:=L) ?_ ?_ (by omega)
 ·intro i t d;obtain⟨a,rfl⟩:=qk.1 d;have hx:=tG a;have c:=c _ hx;have b:=λi=>b i _ hx;obtain⟨e,f⟩:=l _ hx;generalize L[i]=x at d hx c b e f;have h:=Qr e;rw[ae f]at h;have g:=wi (RightP.single e f);have j:fxE 1 x 0 d0 0 d0 []=fxN x:=by
   show(0:Nat) ||| fxN x=fxN x;simp
  rw[j]at g;unfold az;simp only[u4,u3,u2];rw[ar (show(i:Int)<len L by show(i:Int)<(L.length:Int);omega),dh a];simp only[ah,ob,d,h,g,u2,SE (V7 x) k b,fU,af];rw[au (by omega),lU (by omega)];rfl
 ·unfold az;simp only[u4,u3,u2];rw[au (show¬(L.length:Int)<len L by show¬(L.length:Int)<(L.length:Int);omega)];rfl
def Zx{k:Int}{D:TD}{KF:Int}{DF:TD}{KT:Int}{DT:TD}{e l:Bool}{I:List TI}(P:RightP k D KF DF KT DT e l I):
  (fxE k D KF DF KT DT I &&& 338≠0->lvE k D KF DF KT DT=2)/\(fxE k D KF DF KT DT I≠0->1<=lvE k D KF DF KT DT)/\(fxE k D KF DF KT DT I=0->lvE k D KF DF KT DT=0)/\
  (fxE k D KF DF KT DT I &&& 4=0->fxE k D KF DF KT DT I &&& 338=0->lvE k D KF DF KT DT<=1)/\∀x∈datE k D KF DF KT DT I,lvX x<=lvE k D KF DF KT DT:=by
 have G:=QC P;have a:=zE P;unfold fxE topL;generalize datE k D KF DF KT DT I=L at *;rw[<-G];obtain⟨O,j⟩:=VN L (yi k KF KT);have N:k=1\/k=2\/k=3\/k=4:=by
  cases P with
  | single=>exact .inl rfl
  | interval=>exact .inr (.inl rfl)
  | set P=>rcases P.kind with h | h<;>omega
 have b:yi k KF KT=if(k==3||k==4)=true then 2 else if(k==2&&(KF != 1||KT != 1))=true then 1 else 0:=by
  unfold yi;rcases N with rfl | rfl | rfl | rfl<;>simp
 generalize yi k KF KT=w at *;generalize(k==3||k==4)=s at *;generalize(k==2&&(KF != 1||KT != 1))=u at *;have K:∀c:Int,2<=c->mxL w L<=c:=λc hc=>JG L w c (by rw[b];split<;>(try split)<;>omega) (λx hx=>by have:=tO x;omega);have M:=K 2 (ql _);have o:∀c:Nat,orD L (orL [(128,u),(256,s)] 0) &&& c≠0->orL [(128,u),(256,s)] 0 &&& c≠0\/∃x∈L,fxN x &&& c≠0:=by
  intro c h;by_cases n:orL [(128,u),(256,s)] 0 &&& c=0
  ·right;apply QA;intro B;exact h ((wU c L _).2 ⟨n,λx hx=>QA λv=>B ⟨x,hx,v⟩⟩)
  ·exact .inl n
 have d:∀x,fxN x &&& 338=fxN x &&& 82:=λx=>by
  have h:=PS x;have:=(cb.1 (show((List.range 128).all λm=>m &&& 338==m &&& 82)=true by decide +kernel)) (fxN x) (il.2 h);simpa using this
 have f:∀m:Nat,m &&& m=m:=Nat.and_self;have g:(orL [(128,u),(256,s)] 0 &&& 338≠0->s=true)/\(orL [(128,u),(256,s)] 0≠0->(s||u)=true)/\(orL [(128,u),(256,s)] 0 &&& 338=0->s=false)/\(orL [(128,u),(256,s)] 0=0->s=false/\u=false):=by
  cases u<;>cases s<;>decide
 obtain⟨E,H,A,C⟩:=g;refine⟨λh=>?_,λh=>?_,λh=>?_,λq h=>?_,j⟩
 ·rcases o 338 h with h | ⟨x,hx,h⟩
  ·rw[E h,ae rfl]at b;omega
  ·obtain⟨a1,_⟩:=S7 (a x hx).1 (a x hx).2;have:=a1 (by rw[<-d];exact h);have:=j x hx;omega
 ·have h:orD L (orL [(128,u),(256,s)] 0) &&& orD L (orL [(128,u),(256,s)] 0)≠0:=by rw[f];exact h
  rcases o _ h with h | ⟨x,hx,h⟩
  ·have:orL [(128,u),(256,s)] 0≠0:=λi=>h (by rw[i,Nat.zero_and]);have:=H this;have y:1<=w:=by
    rw[b];cases s
    ·cases u
     ·cases this
     ·simp
    ·simp
   omega
  ·have:fxN x≠0:=λi=>h (by rw[i,Nat.zero_and]);obtain⟨_,a2,_⟩:=S7 (a x hx).1 (a x hx).2;have:=a2 this;have:=j x hx;omega
 ·have i:orD L (orL [(128,u),(256,s)] 0) &&& 511=0:=by rw[h];rfl
  obtain⟨b1,b2⟩:=(wU _ _ _).1 i;have b1:orL [(128,u),(256,s)] 0=0:=by cases u<;>cases s<;>first | rfl | (exact absurd b1 (by decide))
  obtain⟨rfl,rfl⟩:=C b1;have r:w=0:=by rw[b];rfl
  have:mxL w L<=0:=JG L w 0 (by omega) λx hx=>by
   obtain⟨_,_,J,_⟩:=S7 (a x hx).1 (a x hx).2;have p:fxN x=0:=by
    have h:=b2 x hx;have t:=PS x;have:=(cb.1 (show((List.range 128).all λm=>!(m &&& 511==0)||m==0)=true by decide +kernel)) (fxN x) (il.2 t);simpa[h]using this
   rw[J p];exact ql _
  omega
 ·obtain⟨b1,b2⟩:=(wU _ _ _).1 h;obtain⟨_,z⟩:=(wU _ _ _).1 q;have hs:=A b1;subst hs
  exact JG L w 1 (by rw[b];simp;split<;>omega) λx hx=>by
   obtain⟨_,_,_,F⟩:=S7 (a x hx).1 (a x hx).2;exact F (z x hx) (by rw[<-d];exact b2 x hx)
def BH{K f g B:Int}(u:natI K 256)(J:natI f 256)(M:natI g 256)(n:natI B 256){L:List TR}(C:∀r∈L,wfR r):
  ka 20000000 K f g B L=some true:=by
 obtain⟨k,D,KF,DF,KT,DT,e,l,I,w,d⟩:=E_of u J M n C;have P:=Tm d;have Q:=Mc P;have A:=wi P;have s:=Ie P (by have:=d.len;omega);have z:=IP P;have E:=vL (I:=I) (by have:=d.len;omega) k D KF DF KT DT e l;obtain⟨H,q,y,F,G⟩:=Zx P;have b:=aba (k:=k) (D:=D) (KF:=KF) (DF:=DF) (KT:=KT) (DT:=DT) (I:=I);have N:=TL (zE P) (Kr P) b G (λi x hx h=>(Qu i _ _).2 x hx h);unfold ka;rw[w];simp only[ob,u9,u8,u7,u6,u5,u4,u3,u2,Q,A,s,z,E,TW,fU,af];generalize datE k D KF DF KT DT I=S at *;generalize fxE k D KF DF KT DT I=m at *;generalize lvE k D KF DF KT DT=v at *;simp only[N,obs,sm];have a1:=abh b (show 338<2 ^ 62 by decide);have a2:=abh b (show 4<2 ^ 62 by decide);rw[show((338:Nat):Int)=338 from rfl]at a1;rw[show((4:Nat):Int)=4 from rfl]at a2;rw[a1,a2];have b1:(((m &&& 338:Nat):Int) != 0)=decide (m &&& 338≠0):=by rw[mL];simp
 have b2:(((m &&& 4:Nat):Int)==0)=decide (m &&& 4=0):=by rw[mL];simp
 have O:((m:Int) != 0)=decide (m≠0):=by rw[mL];simp
 have o:((m:Int)==0)=decide (m=0):=by rw[mL];simp
 rw[b1,b2,O,o];by_cases c:m &&& 338=0
 ·have t:m &&& 4=0->v≠2:=λh=>by have:=F h c;omega
  by_cases a:m=0
  ·have:=y a;subst a this;simp
  ·have R:=q a;have j:decide (v<1)=false:=au (by omega);by_cases c4:m &&& 4=0
   ·have:=t c4;simp[c,a,j,c4,show(v==2)=false from aL.2 this]
   ·simp[c,a,j,c4]
 ·have p:=H c;subst p;have a:m≠0:=λh=>c (by rw[h];rfl);by_cases c4:m &&& 4=0<;>simp[c,a,c4]
def rC{n:Int}(h:(Lit.int .u8 n).wf=true):natI n 256:=⟨(Go.bounds_u8 h).1,by have:=(Go.bounds_u8 h).2;omega⟩
def VY{n:Int}(h:(Lit.int .u16 n).wf=true):natI n 65536:=⟨(Go.bounds_u16 h).1,by have:=(Go.bounds_u16 h).2;omega⟩
def abE{y:den [.i .u8,.bo,.i .u16,.i .u8,.i .u8,.i .u8,.i .u8,.i .u8,.i .u8,.i .u8,.i .u8,.i .u8,.bo,.i .u16,.i .u8,.i .u8,.i .u8,.i .u8,.i .u8,.i .u8,.i .u8]}
  (h:vP [.i .u8,.bo,.i .u16,.i .u8,.i .u8,.i .u8,.i .u8,.i .u8,.i .u8,.i .u8,.i .u8,.i .u8,.bo,.i .u16,.i .u8,.i .u8,.i .u8,.i .u8,.i .u8,.i .u8,.i .u8] y):wfR y:=by
 obtain⟨e,_,n,b,a,m,c,j,l,g,_,k0,_,k2,k3,k4,f,p,k,d,o⟩:=h;exact⟨⟨rC e,VY n,rC b,rC a,rC m,rC c,rC j,rC l,rC g⟩,⟨rC k0,VY k2,rC k3,rC k4,rC f,rC p,rC k,rC d,rC o⟩⟩
end Go.Sh
