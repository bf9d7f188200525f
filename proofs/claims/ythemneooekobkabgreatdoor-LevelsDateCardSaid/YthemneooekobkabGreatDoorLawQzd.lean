
/- Plain proofs, kept as far as they are needed here (printed by prune.py).
   Conditions: none. -/
import Derived.Test.YthemneooekobkabGreatDoorLawQzc
set_option linter.unusedVariables false
set_option linter.unusedSimpArgs false
set_option maxRecDepth 100000
namespace Go.Sh
open Go.Abs
theorem YA (D:TD) (KF:Int) (DF:TD) (KT:Int) (DT:TD):lvE 1 D KF DF KT DT=lvX D:=by unfold lvE;rw [ae rfl]
def ofX:(Nat×Nat)⊕(Int×TD×Int×TD×Int×TD×Int)⊕(Int×Bool×Bool×List TI)->Int×Int×Int
 | .inl f=>(0,(f.1:Int),(f.2:Int))
 | .inr (.inl (K,D,KF,DF,KT,DT,L))=>(L,0,0)
 | .inr (.inr (K,e,l,I))=>(2,0,0)
theorem Ns {S:aa} (a:S.length<=16384):iy 20000000 S=some (ofX (mR S)):=by
 unfold iy;rw [P4 a];generalize mR S=y;rcases y with f | ⟨K,D,KF,DF,KT,DT,L⟩ | ⟨K,e,l,I⟩<;>rfl
theorem O4 {k:Int} {D:TD} {KF:Int} {DF:TD} {KT:Int} {DT:TD} {e l:Bool} {I:List TI} (h:RightP k D KF DF KT DT e l I):ofX (mR (sG k D KF DF KT DT e l I))=(lvE k D KF DF KT DT,0,0):=by
 rw [GK h];unfold exOf;by_cases a:k=1\/k=2
 ·rw [ae a];rfl
 ·rw [ab a];show ((2:Int),(0:Int),(0:Int))=_;unfold lvE;rw [ab (by omega),ab (by omega)]
theorem Ti {k:Int} (a:CN k) (D:TD) (KF:Int) (DF:TD) (KT:Int) (DT:TD):lvE k D KF DF KT DT=2:=by
 have a:k=3\/k=4:=a;unfold lvE;rw [ab (by omega),ab (by omega)]
theorem Gv {k:Int} {D:TD} {KF:Int} {DF:TD} {KT:Int} {DT:TD} {e l:Bool} {I:List TI} (h:RightP k D KF DF KT DT e l I) (a:¬CN k):(sG k D KF DF KT DT e l I).length<=16384:=by
 cases h with
 | single hs hc=>exact zS (.single hs hc) (by simp)
 | interval hx hy hp=>exact zS (.interval hx hy hp) (by simp)
 | set P hs=>exact absurd P.kind a
theorem Hh {k:Int} {D:TD} {KF:Int} {DF:TD} {KT:Int} {DT:TD} {e l:Bool} {I:List TI} (hs:smE D DF DT I):
  gg 20000000 k D KF DF KT DT e l I=some (if (dU k D KF DF KT DT e l I).2=0 then (lvE k D KF DF KT DT,0) else (0,(dU k D KF DF KT DT e l I).2)):=by
 unfold gg;rw [ww hs];by_cases a:(dU k D KF DF KT DT e l I).2=0
 ·rw [ae a,a];have P:=yM hs a;simp only [ob,eC,af];by_cases b:CN k
  ·rw [Ti b];rcases b with rfl | rfl<;>rfl
  ·have f:(k==3)=false:=aK.2 λh=>b (.inl h);have d:(k==4)=false:=aK.2 λh=>b (.inr h);have c:=Gv P b;rw [f,d,af,af,GG P];simp only [u2];rw [Ns c,O4 P]
 ·rw [ab a];simp only [ob];rw [show ((dU k D KF DF KT DT e l I).2 != 0)=true from Ap.2 a,ah]
theorem OS:bJ 20000000=some true:=by kernel_rfl
theorem yT {X Y:Type} {step:X->Option (X⊕Y)} {x:X} {y:Y} {N:Nat} (h:step x=some (.inr y)):au step (N+1) x=some y:=by rw [au,h]
theorem yK {X Y:Type} {step:X->Option (X⊕Y)} {x a:X} {N:Nat} (h:step x=some (.inl a)):au step (N+1) x=au step N a:=by rw [au,h]
def orL (L:List (Nat×Bool)) (a:Nat):Nat:=L.foldl (λa p=>if p.2 then a ||| p.1 else a) a
theorem or64 {a b:Nat} (d:a<2 ^ 62) (c:b<2 ^ 62):bits .or .i64 (a:Int) (b:Int)=((a ||| b:Nat):Int):=by
 show IntKind.wrap .i64 ((BitVec.ofInt 64 (a:Int) ||| BitVec.ofInt 64 (b:Int)).toNat:Int)=_;rw [uf,uf,BitVec.toNat_or,G0,G0,oO (show a<2 ^ 64 by omega),oO (show b<2 ^ 64 by omega)];have:=Ar (n:=62) d c;exact wrap_i64 _ (by omega) (by omega)
theorem Rm:∀(L:List (Nat×Bool)) (a:Nat),a<2 ^ 62->(∀p∈L,p.1<2 ^ 62)->orL L a<2 ^ 62
 | [],a,h,_=>h
 | p::L,a,h,b=>by
  show orL L (if p.2 then a ||| p.1 else a)<2 ^ 62;refine Rm L _ ?_ (λq c=>b q (fi _ c));split
  ·exact Ar h (b p lL)
  ·exact h
def inL (L:List (Nat×Bool)):List (Int×Bool):=L.map λp=>((p.1:Int),p.2)
theorem Ku (L:List (Nat×Bool)) (j:L.length<1000) (g:∀p∈L,p.1<2 ^ 62):∀(r i a:Nat),a<2 ^ 62->i+r=L.length->∀N,r<N->
  au (dT 20000000) N (len (inL L),(i:Int),inL L,(a:Int))=some ((orL (L.drop i) a:Nat):Int):=by
 intro r;have c:len (inL L)=((L.length:Nat):Int):=by show (((inL L).length:Nat):Int)=_;unfold inL;rw [tM]
 induction r with
 | zero=>
  intro i a e hi N h;obtain ⟨N,rfl⟩:∃k,N=k+1:=⟨N - 1,by omega⟩;obtain rfl:i=L.length:=by omega
  rw [sV];refine yT ?_;unfold dT;simp only [u4,u3,u2];rw [c,ar (by omega)];rfl
 | succ r ih=>
  intro i a e hi N h;obtain ⟨N,rfl⟩:∃k,N=k+1:=⟨N - 1,by omega⟩;have b:i<L.length:=by omega
  have f:(inL L)[i]?=some ((L[i].1:Int),L[i].2):=by unfold inL;rw [mj,bh b];rfl
  have d:=g _ (Em b);rw [pG b];generalize L[i]=p at f d ⊢;have st:dT 20000000 (len (inL L),(i:Int),inL L,(a:Int))=some (.inl (len (inL L),((i+1:Nat):Int),inL L,(((if p.2 then a ||| p.1 else a):Nat):Int))):=by
   unfold dT;simp only [u4,u3,u2];rw [c,am (by omega),ah,dY (by unfold inL;rw [tM];exact b)];simp only [ob,f];rw [qx (by omega),or64 e d];cases p.2<;>rfl
  rw [yK st];have:=ih (i+1) (if p.2 then a ||| p.1 else a) (by split;exact Ar e d;exact e) (by omega) N (by omega);exact this
theorem WS (L:List (Nat×Bool)) (c:L.length<1000) (b:∀p∈L,p.1<2 ^ 62) {a:Nat} (d:a<2 ^ 62):aM 20000000 (inL L) (a:Int)=some ((orL L a:Nat):Int):=by
 have:=Ku L c b L.length 0 a d (by omega) 20000000 (by omega);rw [cw] at this;unfold aM;rw [show ((0:Nat):Int)=0 from rfl] at this;rw [this];rfl
theorem FX:∀(L:List (Nat×Bool)) (a:Nat),orL L a=a ||| orL L 0
 | [],a=>by show a=a ||| 0;simp
 | p::L,a=>by
  show orL L (if p.2 then a ||| p.1 else a)=a ||| orL L (if p.2 then 0 ||| p.1 else 0);rw [FX L (if p.2 then a ||| p.1 else a),FX L (if p.2 then 0 ||| p.1 else 0)];cases p.2<;>simp [BD]
def apI (k:Nat) (a b c:Int):Bool:=(decide (1<k)&&b != a)||(decide (2<k)&&c != a)
def apT (x:TD):Bool:=apI (coT x) (d4 x).2.2.2.1 (d8 x).1 (d8 x).2
def mkB (x:TD):Bool:=!((d4 x).2.2.2.1==0&&((d8 x).1==0&&((d8 x).2==0&&true)))
def fxL (x:TD):List (Nat×Bool):=[(1,mkB x),(2,apT x),(4,mkX x),(8,x.1||x.2.1),(16,decide (0<x.2.2.2.1)||decide (0<(d4 x).1)),(32,decide (0<seT x)&&decide (seT x<25)),(64,decide (0<seT x)&&decide (25<=seT x))]
def fxN (x:TD):Nat:=orL (fxL x) 0
theorem YY (x:TD):fxN x<2 ^ 62:=Rm _ 0 (by decide) (by
 intro p hp;unfold fxL at hp;simp only [cf,mG,nG] at hp;rcases hp with rfl | rfl | rfl | rfl | rfl | rfl | rfl<;>simp)
theorem Uk (x:TD) {a:Nat} (b:a<2 ^ 62):aM 20000000 (inL (fxL x)) (a:Int)=some ((a ||| fxN x:Nat):Int):=by
 rw [WS (fxL x) (by show 7<1000;omega) ?_ b,FX];rfl;intro p hp;unfold fxL at hp;simp only [cf,mG,nG] at hp;rcases hp with rfl | rfl | rfl | rfl | rfl | rfl | rfl<;>simp
theorem Sz {N:Nat} (n:3<N) {k:Nat} (m:1<=k/\k<=3) (code:Int) (c:Bool) (g d:Nat) (a f e:Int) (x:TD) (L:List TD):
  au (cr 20000000) N (code,c,(k:Int),false,1,g,d,a,f,e,x,L)=some (code,c,apI k (d4 x).2.2.2.1 (d8 x).1 (d8 x).2,g,d,a,f,e,x,L):=by
 obtain ⟨N,rfl⟩:∃j,N=j+3:=⟨N - 3,by omega⟩;have fin:∀(b:Bool) (j:Nat),k<=j->cr 20000000 (code,c,(k:Int),b,(j:Int),g,d,a,f,e,x,L)=some (.inr (code,c,b,g,d,a,f,e,x,L)):=λb j h=>by
  unfold cr;simp only [u12,u11,u10,u9,u8,u7,u6,u5,u4,u3,u2];rw [ar (by omega)];rfl
 have i:1<k->cr 20000000 (code,c,(k:Int),false,1,g,d,a,f,e,x,L)=some (.inl (code,c,(k:Int),(d8 x).1 != (d4 x).2.2.2.1,2,g,d,a,f,e,x,L)):=λh=>by
  unfold cr;simp only [u12,u11,u10,u9,u8,u7,u6,u5,u4,u3,u2];rw [am (by omega)];rfl
 have l:2<k->∀b,cr 20000000 (code,c,(k:Int),b,2,g,d,a,f,e,x,L)=some (.inl (code,c,(k:Int),b||(d8 x).2 != (d4 x).2.2.2.1,3,g,d,a,f,e,x,L)):=λh b=>by
  unfold cr;simp only [u12,u11,u10,u9,u8,u7,u6,u5,u4,u3,u2];rw [am (by omega)];cases b<;>rfl
 unfold apI;rcases (by omega:k=1\/k=2\/k=3) with rfl | rfl | rfl
 ·rw [show (1:Int)=((1:Nat):Int) from rfl] at *;exact yT (fin false 1 (by omega))
 ·rw [yK (i (by omega))];rw [show (2:Int)=((2:Nat):Int) from rfl];rw [yT (fin _ 2 (by omega))];simp
 ·rw [yK (i (by omega)),yK (l (by omega) _)];rw [show (3:Int)=((3:Nat):Int) from rfl];rw [yT (fin _ 3 (by omega))];simp
theorem VS (x:TD):1<=coT x/\coT x<=3:=mw _ _
theorem dsT {x:TD} (h:smT x):ap10 (bz 20000000) x=some (seT x,decide (0<seT x)):=pF 20000000 _ _ _ _ _ _ _ _ _ _ h.1
theorem dcoT (x:TD):ap10 (bg 20000000) x=some ((coT x:Nat):Int):=qu 20000000 (by omega) _ _ _ _ _ _ _ _ _ _
theorem Ws {x:TD} (hs:smT x) (hc:cF x=0):0<=x.2.2.2.1/\x.2.2.2.1<=16/\0<=(d4 x).1/\(d4 x).1<=17:=by
 obtain ⟨g,l,dg,e,q,m,d,a,b,c,rfl,ok⟩:=oU hs hc;have h:=ok.x16;have f:=ok.q17;show 0<=(e:Int)/\(e:Int)<=16/\0<=(q:Int)/\(q:Int)<=17;omega
theorem MY {L:List TD} (h:okDs L) (m:L.length<=1000000) (c:Nat) (i:Nat) {x:TD} (e:L[i]?=some x) {a:Nat} (g:a<2 ^ 62):
  bN 20000000 (L.length,c,((L.length:Nat):Int),(i:Int),(a:Int),L)=some (.inl (L.length,c,((L.length:Nat):Int),((i+1:Nat):Int),((a ||| fxN x:Nat):Int),L)):=by
 obtain ⟨b,rfl⟩:=oV.1 e;obtain ⟨hs,hc⟩:=h _ (Em b);obtain ⟨o,p,n,q⟩:=Ws hs hc;unfold bN;simp only [u6,u5,u4,u3,u2];rw [am (by omega),ah,dY b];simp only [ob,e];generalize L[i]=x at *;have d:aM 20000000 [(1,!((d4 x).2.2.2.1==0&&((d8 x).1==0&&((d8 x).2==0&&true)))),(2,apI (coT x) (d4 x).2.2.2.1 (d8 x).1 (d8 x).2),(4,hasX x.2.2.1||(hasX x.2.2.2.2.2.1||hasX x.2.2.2.2.2.2.1)),(8,x.1||x.2.1),(16,decide (0<x.2.2.2.1)||decide (0<(d4 x).1)),(32,decide (0<seT x)&&decide (seT x<25)),(64,decide (0<seT x)&&decide (seT x>=25))] (a:Int)=some ((a ||| fxN x:Nat):Int):=Uk x g;rw [dsT hs];simp only [u2];rw [dcoT];simp only [Sz (show 3<20000000 by omega) (VS x),u10,u9,u8,u7,u6,u5,u4,u3,u2];rw [fmT hs];simp only [];have f:decide (w64 (x.2.2.2.1+(d4 x).1)>0)=(decide (0<x.2.2.2.1)||decide (0<(d4 x).1)):=by
  rw [show w64 (x.2.2.2.1+(d4 x).1)=x.2.2.2.1+(d4 x).1 from wrap_i64 _ (by omega) (by omega),<-Bool.decide_or];exact mI.2 (by omega)
 rw [f,qx (by omega)];generalize x.1=j at *;generalize x.2.1=l at *;generalize decide (0<seT x)=k at *;cases j<;>cases l<;>cases k<;>simp only [ah,af,mN,vJ,Bool.or_true,vI,Bool.or_self,EI] at d ⊢<;>rw [d]
def orD (L:List TD) (a:Nat):Nat:=L.foldl (λa x=>a ||| fxN x) a
theorem I5 {L:List TD} (f:okDs L) (e:L.length<=1000000) (c:Nat):∀(r i a:Nat),a<2 ^ 62->i+r=L.length->∀N,r<N->
  au (bN 20000000) N (L.length,c,((L.length:Nat):Int),(i:Int),(a:Int),L)=some ((orD (L.drop i) a:Nat):Int):=by
 intro r
 induction r with
 | zero=>
  intro i a d hi N g;obtain ⟨N,rfl⟩:∃k,N=k+1:=⟨N - 1,by omega⟩;obtain rfl:i=L.length:=by omega
  rw [sV];refine yT ?_;unfold bN;simp only [u6,u5,u4,u3,u2];rw [ar (by omega)];rfl
 | succ r ih=>
  intro i a d hi N g;obtain ⟨N,rfl⟩:∃k,N=k+1:=⟨N - 1,by omega⟩;have b:i<L.length:=by omega
  rw [yK (MY f e c i (bh b) d),pG b];exact ih (i+1) _ (Ar d (YY _)) (by omega) N (by omega)
def topL (k KF KT:Int):List (Nat×Bool):=[(128,k==2&&(KF != 1||KT != 1)),(256,k==3||k==4)]
def fxE (k:Int) (D:TD) (KF:Int) (DF:TD) (KT:Int) (DT:TD) (I:List TI):Nat:=orD (datE k D KF DF KT DT I) (orL (topL k KF KT) 0)
theorem XQ (u s:Bool):aM 20000000 [(128,u),(256,s)] 0=some ((orL [(128,u),(256,s)] 0:Nat):Int):=
 WS [(128,u),(256,s)] (by show 2<1000;omega) (by intro p hp;simp only [cf,mG,nG] at hp;rcases hp with rfl | rfl<;>simp) (a:=0) (by decide)
theorem RQ (u s:Bool):orL [(128,u),(256,s)] 0<2 ^ 62:=by cases u<;>cases s<;>decide
theorem Wi {k:Int} {D:TD} {KF:Int} {DF:TD} {KT:Int} {DT:TD} {e l:Bool} {I:List TI} (h:RightP k D KF DF KT DT e l I):I.length<=256:=by
 cases h with
 | single=>simp
 | interval=>simp
 | set P=>exact P.most
theorem Rk {k:Int} {D:TD} {KF:Int} {DF:TD} {KT:Int} {DT:TD} {e l:Bool} {I:List TI} (h:RightP k D KF DF KT DT e l I):(datE k D KF DF KT DT I).length<=1000000:=by
 have b:=Wi h;have a:=C2 I;unfold datE
 repeat' split
 all_goals first | omega | simp
theorem F6 {k:Int} {D:TD} {KF:Int} {DF:TD} {KT:Int} {DT:TD} {e l:Bool} {I:List TI} (hs:smE D DF DT I):
  di 20000000 k D KF DF KT DT e l I=some (if (dU k D KF DF KT DT e l I).2=0 then (((fxE k D KF DF KT DT I:Nat):Int),0) else (0,(dU k D KF DF KT DT e l I).2)):=by
 unfold di;rw [ww hs];by_cases a:(dU k D KF DF KT DT e l I).2=0
 ·rw [ae a,a];have P:=yM hs a;have c:=OW (I:=I) (by have:=Wi P;omega) k D KF DF KT DT e l;have b:=λ(u s:Bool)=>I5 (SH P) (Rk P) (datE k D KF DF KT DT I).length (datE k D KF DF KT DT I).length 0 _ (RQ u s) (by omega) 20000000 (by have:=Rk P;omega);rw [c];unfold fxE topL;generalize datE k D KF DF KT DT I=L at *;simp only [cw,show ((0:Nat):Int)=0 from rfl] at b;simp only [ob,eC,af,XQ,u3,u2,b];generalize (k==2)=f;generalize (k==3)=d;generalize (k==4)=g;generalize (KF != 1)=z1;generalize (KT != 1)=z2;cases f<;>cases d<;>cases z1<;>rfl
 ·rw [ab a];simp only [ob];rw [show ((dU k D KF DF KT DT e l I).2 != 0)=true from Ap.2 a,ah]
theorem D5 (x:TD):(dU 1 x 0 d0 0 d0 false false []).2=cF x:=by
 unfold dU unuB;rw [ab (by omega)];have h:eqD d0 d0=true:=od.2 rfl;simp [h]
theorem DX {x:TD} (hs:smT x):kW 20000000 x=some (if cF x=0 then (lvX x,0) else (0,cF x)):=by
 unfold kW;rw [Hh (D:=x) (DF:=d0) (DT:=d0) (I:=[]) ⟨hs,oG,oG,λt a=>by cases a⟩,D5,YA];split<;>rfl
theorem Bc {a0 a2 j r o n q i m:Int} (g:Bool) (h:wfD a0 a2 j r o n q i m) (x:TD) (hx:0<=x.2.2.2.2.2.2.2.1/\0<=x.2.2.2.2.2.2.2.2.1/\0<=x.2.2.2.2.2.2.2.2.2) (K:Int):ga 20000000 a0 g a2 j r o n q i m x K=some true:=by
 unfold ga;rw [OS];by_cases L:30<x.2.2.1.length
 ·rw [show decide (len x.2.2.1>30)=true from am (by show (30:Int)<((x.2.2.1.length:Nat):Int);omega)];rfl
 rw [show decide (len x.2.2.1>30)=false from ar (by show ¬(30:Int)<((x.2.2.1.length:Nat):Int);omega),af];by_cases J:10<(d4 x).2.1.length
 ·rw [show decide (len (d4 x).2.1>10)=true from am (by show (10:Int)<(((d4 x).2.1.length:Nat):Int);omega)];rfl
 rw [show decide (len (d4 x).2.1>10)=false from ar (by show ¬(10:Int)<(((d4 x).2.1.length:Nat):Int);omega),af];by_cases I:10<(d4 x).2.2.1.length
 ·rw [show decide (len (d4 x).2.2.1>10)=true from am (by show (10:Int)<(((d4 x).2.2.1.length:Nat):Int);omega)];rfl
 rw [show decide (len (d4 x).2.2.1>10)=false from ar (by show ¬(10:Int)<(((d4 x).2.2.1.length:Nat):Int);omega),af];have hs:smT x:=⟨by show (d4 x).2.1.length<=18;omega,by omega,by show (d4 x).2.2.1.length<=18;omega,hx.1,hx.2.1,hx.2.2⟩;obtain ⟨y,hy,d,f⟩:=DofI g h;have B:ap10 (dH 20000000) y=some (fU y):=rfT d f;have C:=(MX d f).2;have p:=DX d;rw [ae f] at p;have u:=DX hs;have c:smE x d0 d0 []:=⟨hs,oG,oG,λt E=>by cases E⟩;have H:=Hh (k:=K) (KF:=0) (KT:=0) (e:=false) (l:=false) c;have G:=F6 (k:=K) (KF:=0) (KT:=0) (e:=false) (l:=false) c;have F:=GM (K:=K) (KF:=0) (KT:=0) (e:=false) (l:=false) c;have s:=rcT hs;rw [hy];generalize (dU K x 0 d0 0 d0 false false []).2=z at *;generalize lvE K x 0 d0 0 d0=v at *;generalize ((fxE K x 0 d0 0 d0 []:Nat):Int)=w at *;simp only [ob,p,u,H,G,F,B,C,s,u2,eC,af];by_cases b:cF x=0
 ·have D:ap10 (dH 20000000) x=some (fU x):=rfT hs b;have A:=(MX hs b).2;rw [ae b,b];simp only [D,A,ob,eC,uG,ah,af];by_cases a:z=0
  ·rw [ae a,ae a,a];simp
  ·rw [ab a,ab a];simp [a]
 ·rw [ab b];simp only [eC,af,show (cF x==0)=false from aK.2 b,show (cF x != 0)=true from Ap.2 b,ah];by_cases a:z=0
  ·rw [ae a,ae a,a];simp
  ·rw [ab a,ab a];simp [a]
theorem yV {n:Int} (h:(Lit.int .u8 n).wf=true):natI n 256:=⟨(Go.bounds_u8 h).1,by have:=(Go.bounds_u8 h).2;omega⟩
theorem VH {n:Int} (h:(Lit.int .u16 n).wf=true):natI n 65536:=⟨(Go.bounds_u16 h).1,by have:=(Go.bounds_u16 h).2;omega⟩
end Go.Sh
