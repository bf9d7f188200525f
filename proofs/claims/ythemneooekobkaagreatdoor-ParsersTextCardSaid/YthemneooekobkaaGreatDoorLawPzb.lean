
/- Plain proofs, kept as far as they are needed here (printed by prune.py).
   Conditions: none. -/
import Derived.Test.YthemneooekobkaaGreatDoorLawPza
set_option linter.unusedVariables false
set_option linter.unusedSimpArgs false
set_option maxRecDepth 100000
namespace Go.Sh
open Go.Abs
def fX (A B:Nat) (w:aa):aa:=mt A++w++mt B
def tV (g l:Bool) (dg:aa) (x q:Int) (m d:aa) (k0 k1 k2:Nat):aa:=
 fX (plA (bD m d) k0 k1 k2).1 (plB (bD m d) k0 k1 k2).1 (kW g l dg x q)
  ++ ((if m=[] then [] else 45::fX (plA (bD m d) k0 k1 k2).2.1 (plB (bD m d) k0 k1 k2).2.1 m)
  ++ (if d=[] then [] else 45::fX (plA (bD m d) k0 k1 k2).2.2 (plB (bD m d) k0 k1 k2).2.2 d))
structure OkD (g l:Bool) (dg:aa) (x q:Nat) (m d:aa) (k0 k1 k2:Nat):Prop where
 yr:okY g l dg (x:Int) (q:Int)
 x16:x<=16
 q17:q<=17
 dg17:dg.length<=17
 noM:0<q->m=[]
 mon:m=[]\/(m.length=2/\∀c∈m,isDX c=true)
 day:d=[]\/(m≠[]/\d.length=2/\∀c∈d,isDX c=true)
 m0:k0<4
 m1:k1<4
 m2:k2<4
 z1:bD m d<2->k1=0
 z2:bD m d<3->k2=0
theorem OJ {g l:Bool} {dg:aa} {x q:Int} {m d:aa} {k0 k1 k2:Int} (y:0<=k0) (w:0<=k1) (v:0<=k2) (h:chkD g l dg x q m d k0 k1 k2=0):
  ∃p o a b c:Nat,x=(p:Int)/\q=(o:Int)/\k0=(a:Int)/\k1=(b:Int)/\k2=(c:Int)/\OkD g l dg p o m d a b c:=by
 obtain ⟨hy,f,j,n⟩:=CY h;unfold yrD at hy;by_cases e:okY g l dg x q
 rotate_left
 ·rw [ab e] at hy;cases hy
 rw [ae e] at hy;obtain ⟨r,u,s,B,C,t⟩:=jf e;have hk':¬(3<k0\/3<k1\/3<k2\/(bD m d<2/\k1≠0)\/(bD m d<3/\k2≠0)):=by
  intro z;unfold allM at n;rw [ae z] at n;exact absurd n (by decide)
 refine ⟨x.toNat,q.toNat,k0.toNat,k1.toNat,k2.toNat,by omega,by omega,by omega,by omega,by omega,?_⟩;rw [<-Ha r,<-Ha s] at e;refine ⟨e,by omega,by omega,t,?_,?_,?_,by omega,by omega,by omega,by omega,by omega⟩
 ·intro A;unfold yrB at hy;have hq':decide (0<q)=true:=by simp;omega
  rw [hq'] at hy;by_cases i:m=[]
  ·exact i
  ·have:(m==[])=false:=aJ.2 i;rw [this] at hy;simp at hy
 ·rcases f with f | f | f
  ·exact .inl f
  ·exact .inr (Gx f)
  ·exact .inr (nz (by omega) f)
 ·rcases j with j | ⟨j,_,k⟩
  ·exact .inl j
  ·have:=nz (show 31<=31 by omega) k;exact .inr ⟨j,this.1,this.2⟩
theorem By (a b:Nat) (w:aa):(fX a b w).length<=w.length+2:=by
 have c:∀z:Nat,(mt z).length<=1:=λz=>by
  unfold mt;split
  ·simp
  ·split
   ·simp
   ·split<;>simp
 have:=c a;have:=c b;unfold fX;simp only [bv];omega
theorem IV:bD [] []=1:=rfl
theorem IC {m:aa} (h:m≠[]):bD m []=2:=by unfold bD;rw [aJ.2 h];rfl
theorem G8 {m d:aa} (h:m≠[]) (a:d≠[]):bD m d=3:=by unfold bD;rw [aJ.2 h,aJ.2 a];rfl
theorem pF {d:aa} (h:d.length=2):d≠[]:=by rintro rfl;simp at h
theorem JW (n:Nat) {g l:Bool} {dg:aa} {x q:Nat} {m d:aa} {k0 k1 k2:Nat} (e:OkD g l dg x q m d k0 k1 k2):
  bV (n+300) g l dg (x:Int) (q:Int) m d (k0:Int) (k1:Int) (k2:Int)=some (tV g l dg (x:Int) (q:Int) m d k0 k1 k2):=by
 have hc:=mf m d;have w:=(Ys n (bD m d) k0 k1 k2 hc e.m0 e.m1 e.m2 e.z1 e.z2).2;obtain ⟨B,E,D,p,F,C⟩:=Ww (k:=bD m d) e.m0 e.m1 e.m2;have v:=xZ e.yr;have hx:=e.x16;have V:=e.q17;have U:=e.dg17;unfold bV;rw [dj (n+300)];simp only [ob];rw [w,QT (n+300) g l dg x q (by omega) (by omega) (by omega)];unfold tV;generalize kW g l dg (x:Int) (q:Int)=Y at v ⊢;generalize K:plA (bD m d) k0 k1 k2=O at *;generalize P:plB (bD m d) k0 k1 k2=PB at *;obtain ⟨t,r,A⟩:=O;obtain ⟨u,s,y⟩:=PB;simp only at B E D p F C;have j:∀z:Nat,(mt z).length<=1:=λz=>by
  unfold mt;split
  ·simp
  ·split
   ·simp
   ·split<;>simp
 have I:=j t;have Q:=j r;have G:=j A;have R:=j u;have H:=j s;have L:=j y;have T:m.length<=2:=by
  rcases e.mon with h | h
  ·rw [h];simp
  ·omega
 have J:d.length<=2:=by
  rcases e.day with h | h
  ·rw [h];simp
  ·omega
 have S:∀a b c:Nat,(l3 (a,b,c))[0]?=some (a:Int):=λ_ _ _=>rfl;have M:∀a b c:Nat,(l3 (a,b,c))[1]?=some (b:Int):=λ_ _ _=>rfl;have N:∀a b c:Nat,(l3 (a,b,c))[2]?=some (c:Int):=λ_ _ _=>rfl;have f:∀a b:aa,a.length+b.length<=1000000->cat a b=some (a++b):=λa b h=>dV h;simp only [ob,S,M,N,(I9 (n+300) t B).2,(I9 (n+300) r E).2,(I9 (n+300) A D).2,(I9 (n+300) u p).2,(I9 (n+300) s F).2,(I9 (n+300) y C).2];rw [f (mt t) Y (by omega)];simp only [ob];rw [f _ (mt u) (by simp only [bv];omega)];simp only [ob];have k1':decide (((bD m d:Nat):Int)>1)=decide (1<bD m d):=by rw [nV];omega
 have k2':decide (((bD m d:Nat):Int)>2)=decide (2<bD m d):=by rw [nV];omega
 rw [k1',k2'];by_cases i:m=[]
 ·have o:d=[]:=e.day.resolve_right (λz=>z.1 i);subst i o;rw [IV];simp [fX]
 ·by_cases o:d=[]
  ·subst o;rw [IC i,ab i];simp only [show decide (1<2)=true from rfl,show decide (2<2)=false from rfl,ah,af];rw [f [45] (mt r) (by simp;omega)];simp only [ob];rw [f _ m (by simp only [bv,aV,cG];omega)];simp only [ob];rw [f _ (mt s) (by simp only [bv,aV,cG];omega)];simp only [ob];rw [f _ _ (by simp only [bv,aV,cG];omega)];simp [fX]
  ·rw [G8 i o,ab i,ab o];simp only [show decide (1<3)=true from rfl,show decide (2<3)=true from rfl,ah,af];rw [f [45] (mt r) (by simp;omega)];simp only [ob];rw [f _ m (by simp only [bv,aV,cG];omega)];simp only [ob];rw [f _ (mt s) (by simp only [bv,aV,cG];omega)];simp only [ob];rw [f _ _ (by simp only [bv,aV,cG];omega)];simp only [ob];rw [f [45] (mt A) (by simp;omega)];simp only [ob];rw [f _ d (by simp only [bv,aV,cG];omega)];simp only [ob];rw [f _ (mt y) (by simp only [bv,aV,cG];omega)];simp only [ob];rw [f _ _ (by simp only [bv,aV,cG];omega)];simp [fX]
def isMk (c:UInt8):Bool:=decide (0<mkOf c)
theorem gP {S u v:aa} {a:Nat} (h:S.drop a=u++v):S.drop (a+u.length)=v:=by
 rw [<-jm,h,Dv];rfl
theorem MG {A:Nat} (d:A<4) {r:aa} (b:dc isMk r):mkS (mt A++r)=A/\mkN (mt A++r)=(mt A).length:=by
 have a:mkS r=0:=by
  cases r with
  | nil=>rfl
  | cons c r=>
   have:=b c rfl;unfold isMk at this;have:=of_decide_eq_false this;show mkOf c=0;omega
 have h:A=0\/A=1\/A=2\/A=3:=by omega
 rcases h with rfl | rfl | rfl | rfl
 ·refine ⟨a,?_⟩;show mkN r=0;unfold mkN;rw [ae a]
 ·exact ⟨rfl,rfl⟩
 ·exact ⟨rfl,rfl⟩
 ·exact ⟨rfl,rfl⟩
theorem ej {p:UInt8->Bool} {c:UInt8} {r:aa} (h:p c=false):dc p (c::r):=λa hc=>by
 simp only [List.head?_cons,aw] at hc;rw [<-hc];exact h
theorem MW {p:UInt8->Bool} (B:Nat) {r:aa} (d:p 63=false) (b:p 126=false) (a:p 37=false) (c:dc p r):dc p (mt B++r):=by
 unfold mt;split
 ·exact ej d
 ·split
  ·exact ej b
  ·split
   ·exact ej a
   ·exact c
theorem I8 {c:UInt8} (h:isDX c=true):isMk c=false:=by
 have:=iP (λc=>!(isDX c)||!(isMk c)) (by decide +kernel) c;rw [h] at this;simpa using this
theorem wG {p q:UInt8->Bool} {w r:aa} (b:w≠[]) (h:∀c∈w,p c=true) (a:∀c,p c=true->q c=false):dc q (w++r):=by
 cases w with
 | nil=>exact absurd rfl b
 | cons c w=>exact ej (a c (h c mO))
theorem NX {g l:Bool} {d:aa} {x s:Int} (h:okY g l d x s):∀c∈d,isDX c=true:=by
 intro c hc;unfold okY at h;have:bg c=true\/c=88:=by
  split at h
  ·exact .inl (h.1.1 c hc)
  ·exact h.2.1 c hc
 unfold isDX;rcases this with a | a
 ·rw [a];rfl
 ·rw [a];decide
theorem Jh {g l:Bool} {d:aa} {x s:Nat} (h:okY g l d (x:Int) (s:Int)) (r:aa):dc isMk (kW g l d (x:Int) (s:Int)++r):=by
 have a:d≠[]:=by
  have:=(jf h).2.2.2.2.1;rintro rfl;simp at this
 rw [kq];cases l with
 | true=>exact ej (by decide)
 | false=>
  cases g with
  | true=>exact ej (by decide)
  | false=>
   simp only [bs,aG,dW,fE];exact wG a (NX h) (λc=>I8)
theorem ug {S:aa} {p A B:Nat} {w R:aa} (h:S.drop p=fX A B w++R) (e:A<4) (k:B<4) (g:dc isMk (w++(mt B++R))) (j:dc isMk R):
  mkS (S.drop p)=A/\S.drop (mkE S p)=w++(mt B++R)/\mkS (S.drop (mkE S p+w.length))=B/\S.drop (mkE S (mkE S p+w.length))=R/\mkE S (mkE S p+w.length)=p+(fX A B w).length:=by
 have h':S.drop p=mt A++(w++(mt B++R)):=by rw [h];unfold fX;simp
 obtain ⟨m,i⟩:=MG e g;obtain ⟨l,f⟩:=MG k j;have c:mkE S p=p+(mt A).length:=by unfold mkE;rw [h',i]
 have d:S.drop (mkE S p)=w++(mt B++R):=by rw [c];exact gP h'
 have b:S.drop (mkE S p+w.length)=mt B++R:=gP d;have a:mkE S (mkE S p+w.length)=mkE S p+w.length+(mt B).length:=by
  show mkE S p+w.length+mkN (S.drop (mkE S p+w.length))=_;rw [b,f]
 refine ⟨by rw [h',m],d,by rw [b,l],by rw [a];exact gP b,?_⟩;rw [a,c];unfold fX;simp only [bv];omega
theorem CG {m r:aa} (d:m.length=2) (h:∀c∈m,isDX c=true):twoN (m++r)=2/\(m++r).take 2=m:=by
 match m,d with
 | [a,b],_=>
  have e:=h a (by simp);have f:=h b (by simp);refine ⟨?_,rfl⟩;unfold twoN;show bE isDX 2 (a::b::r)=2;simp [bE,e,f]
theorem SQ {k a b c:Nat} (e:k<2->b=0) (d:k<3->c=0) (f:1<=k):(k<2->(plA k a b c).2.1=0/\(plB k a b c).2.1=0)/\(k<3->(plA k a b c).2.2=0/\(plB k a b c).2.2=0):=by
 unfold plA plB;constructor
 ·intro h;have:k=1:=by omega
  subst this;have:=e h;split
  ·simp
  ·simp [this]
 ·intro h;have:=d h;split
  ·split
   ·simp
   ·have:k=2:=by omega
    simp [this]
  ·simp [this]
def rawD (A B:Nat×Nat×Nat) (g l:Bool) (dg:aa) (x q:Int) (m d:aa):aa:=
 fX A.1 B.1 (kW g l dg x q)++((if m=[] then [] else 45::fX A.2.1 B.2.1 m)++(if d=[] then [] else 45::fX A.2.2 B.2.2 d))
structure MkD (A B:Nat×Nat×Nat) (m d:aa):Prop where
 a0:A.1<4
 a1:A.2.1<4
 a2:A.2.2<4
 b0:B.1<4
 b1:B.2.1<4
 b2:B.2.2<4
 zm:m=[]->A.2.1=0/\B.2.1=0
 zd:d=[]->A.2.2=0/\B.2.2=0
structure ShD (g l:Bool) (dg:aa) (x q:Nat) (m d:aa):Prop where
 yr:okY g l dg (x:Int) (q:Int)
 noM:0<q->m=[]
 mon:m=[]\/(m.length=2/\∀c∈m,isDX c=true)
 day:d=[]\/(m≠[]/\d.length=2/\∀c∈d,isDX c=true)
theorem OkD.sh {g l:Bool} {dg:aa} {x q:Nat} {m d:aa} {k0 k1 k2:Nat} (h:OkD g l dg x q m d k0 k1 k2):ShD g l dg x q m d:=⟨h.yr,h.noM,h.mon,h.day⟩
theorem OkD.marks {g l:Bool} {dg:aa} {x q:Nat} {m d:aa} {k0 k1 k2:Nat} (h:OkD g l dg x q m d k0 k1 k2):MkD (plA (bD m d) k0 k1 k2) (plB (bD m d) k0 k1 k2) m d:=by
 obtain ⟨Q,W,Y,G,O,U⟩:=Ww (k:=bD m d) h.m0 h.m1 h.m2;obtain ⟨F,J⟩:=SQ (a:=k0) h.z1 h.z2 (mf m d).1;refine ⟨Q,W,Y,G,O,U,λC=>F ?_,λX=>J ?_⟩
 ·have E:d=[]:=h.day.resolve_right (λz=>z.1 C);subst C E;rw [IV];omega
 ·subst X;by_cases C:m=[]
  ·subst C;rw [IV];omega
  ·rw [IC C];omega
theorem Hl {A B:Nat×Nat×Nat} {g l:Bool} {dg:aa} {x q:Nat} {m d:aa} (b:ShD g l dg x q m d) (p:MkD A B m d) {S:aa} {a:Nat} {post:aa} (h:S.drop a=rawD A B g l dg (x:Int) (q:Int) m d++post)
  (hp1:dc isYC post) (F:dc isMk post) (T:dc (λc=>c==45) post):
  ∃P:Nat×Nat×Nat,P.1=a+(mt A.1).length/\oe S a=.inr (g,l,dg,x,q,m,d,spM A B,P,a+(rawD A B g l dg (x:Int) (q:Int) m d).length):=by
 obtain ⟨l0,l1,l2,N,l4,l5,M,D⟩:=p;obtain ⟨j,t,J⟩:=A;obtain ⟨k,n,H⟩:=B;simp only at l0 l1 l2 N l4 l5 M D h;unfold rawD at h ⊢;simp only at h ⊢;have y:isMk 45=false:=by decide
 have O:isYC 45=false:=by decide
 have L:∀r:aa,dc (λc=>c==45) r->fA 45 r=0:=λr hr=>by
  cases r with
  | nil=>rfl
  | cons c r=>
   have:=hr c rfl;exact oW (λe=>by rw [e] at this;exact absurd this (by decide)) r
 have hyx:=KO b.yr;have X:=Jh b.yr;generalize hY:kW g l dg (x:Int) (q:Int)=Y at *;have v:∀R:aa,S.drop a=fX j k Y++R->dc isYC R->dc isMk R->
   mkE S a=a+(mt j).length/\mkS (S.drop a)=j/\pR (S.drop (mkE S a))=.inr (g,l,dg,x,q,Y.length)/\mkS (S.drop (mkE S a+Y.length))=k/\S.drop (mkE S (mkE S a+Y.length))=R/\mkE S (mkE S a+Y.length)=a+(fX j k Y).length:=by
  intro R hR h1 h2;obtain ⟨w,I,E,o,G⟩:=ug hR l0 N (X _) h2;refine ⟨?_,w,?_,E,o,G⟩
  ·have hR':S.drop a=mt j++(Y++(mt k++R)):=by rw [hR];unfold fX;simp
   unfold mkE;rw [hR',(MG l0 (X _)).2]
  rw [I];exact hyx _ (MW k (by decide) (by decide) (by decide) h1)
 unfold oe;by_cases i:m=[]
 ·have f:d=[]:=b.day.resolve_right (λz=>z.1 i);subst i f;simp only [aM,kC] at h ⊢;obtain ⟨w0,w,I,E,o,G⟩:=v post h hp1 F;rw [I];simp only [];rw [o,ae (.inr (L post T)),w,E,G];obtain ⟨rfl,rfl⟩:=M rfl;obtain ⟨rfl,rfl⟩:=D rfl;exact ⟨_,w0,rfl⟩
 ·have W:¬0<q:=λz=>i (b.noM z);obtain ⟨s,C⟩:=b.mon.resolve_left i;rw [ab i] at h ⊢;have p:∀r,dc isMk (m++r):=λr=>wG i C (λc=>I8);by_cases f:d=[]
  ·subst f;rw [ae rfl,kC] at h ⊢;have h':S.drop a=fX j k Y++(45::(fX t n m++post)):=by rw [h];simp
   obtain ⟨w0,w,I,E,o,G⟩:=v _ h' (ej O) (ej y);rw [I];simp only [];rw [o,nO,ab (λz=>z.elim W (by omega)),w,E];unfold rd2;have h2:S.drop (mkE S (mkE S a+Y.length)+1)=fX t n m++post:=gP (u:=[45]) o;obtain ⟨v1,v2,v3,K,V⟩:=ug h2 l1 l4 (p _) F;obtain ⟨Q,u2⟩:=CG (r:=mt n++post) s C;rw [<-v2] at Q u2;rw [s] at v3 K V;rw [Q,ab (by omega),K,L post T,ae rfl,u2,v1,v3,V,G];obtain ⟨rfl,rfl⟩:=D rfl;have:a+(fX j k Y).length+1+(fX t n m).length=a+(fX j k Y++45::fX t n m).length:=by simp only [bv,aV];omega
   rw [this];exact ⟨_,w0,rfl⟩
  ·obtain ⟨_,U,Z⟩:=b.day.resolve_left f;rw [ab f] at h ⊢;have hdk:∀r,dc isMk (d++r):=λr=>wG f Z (λc=>I8);have h':S.drop a=fX j k Y++(45::(fX t n m++(45::(fX J H d++post)))):=by rw [h];simp
   obtain ⟨w0,w,I,E,o,G⟩:=v _ h' (ej O) (ej y);rw [I];simp only [];rw [o,nO,ab (λz=>z.elim W (by omega)),w,E];unfold rd2;have h2:S.drop (mkE S (mkE S a+Y.length)+1)=fX t n m++(45::(fX J H d++post)):=gP (u:=[45]) o;obtain ⟨v1,v2,v3,K,V⟩:=ug h2 l1 l4 (p _) (ej y);obtain ⟨Q,u2⟩:=CG (r:=mt n++(45::(fX J H d++post))) s C;rw [<-v2] at Q u2;rw [s] at v3 K V;rw [Q,ab (by omega),K,nO,ab (by omega),u2,v1,v3];unfold rd3;have h3:S.drop (mkE S (mkE S (mkE S (mkE S a+Y.length)+1)+2)+1)=fX J H d++post:=gP (u:=[45]) K;obtain ⟨x1,x2,x3,x4,x5⟩:=ug h3 l2 l5 (hdk _) F;obtain ⟨s1,s2⟩:=CG (r:=mt H++post) U Z;rw [<-x2] at s1 s2;rw [U] at x3 x4 x5;rw [s1,ab (by omega),s2,x1,x3,x5,V,G];have:a+(fX j k Y).length+1+(fX t n m).length+1+(fX J H d).length=a+(fX j k Y++(45::fX t n m++45::fX J H d)).length:=by simp only [bv,aV];omega
   rw [this];exact ⟨_,w0,rfl⟩
theorem JZ {g l:Bool} {dg:aa} {x q:Nat} {m d:aa} {k0 k1 k2:Nat} (b:OkD g l dg x q m d k0 k1 k2) {S:aa} {a:Nat} {post:aa} (h:S.drop a=tV g l dg (x:Int) (q:Int) m d k0 k1 k2++post)
  (f:dc isYC post) (i:dc isMk post) (e:dc (λc=>c==45) post):
  ∃P,oe S a=.inr (g,l,dg,x,q,m,d,(k0,k1,k2),P,a+(tV g l dg (x:Int) (q:Int) m d k0 k1 k2).length):=by
 obtain ⟨P,_,j⟩:=Hl b.sh b.marks (S:=S) (a:=a) (post:=post) h f i e;rw [Yq (bD m d) k0 k1 k2 (mf m d) b.m0 b.m1 b.m2 b.z1 b.z2] at j;exact ⟨P,j⟩
theorem KZ {g l:Bool} {dg:aa} {x q:Nat} {m d:aa} {k0 k1 k2:Nat} (a:OkD g l dg x q m d k0 k1 k2):(tV g l dg (x:Int) (q:Int) m d k0 k1 k2).length<=37:=by
 have hy:=xZ a.yr;have e:=By (plA (bD m d) k0 k1 k2).1 (plB (bD m d) k0 k1 k2).1 (kW g l dg (x:Int) (q:Int));have i:=By (plA (bD m d) k0 k1 k2).2.1 (plB (bD m d) k0 k1 k2).2.1 m;have f:=By (plA (bD m d) k0 k1 k2).2.2 (plB (bD m d) k0 k1 k2).2.2 d;have c:m.length<=2:=by
  rcases a.mon with h | h
  ·rw [h];simp
  ·omega
 have b:d.length<=2:=by
  rcases a.day with h | h
  ·rw [h];simp
  ·omega
 unfold tV;simp only [bv];have a1:(if m=[] then [] else 45::fX (plA (bD m d) k0 k1 k2).2.1 (plB (bD m d) k0 k1 k2).2.1 m).length<=5:=by
  split
  ·simp
  ·simp only [aV];omega
 have a2:(if d=[] then [] else 45::fX (plA (bD m d) k0 k1 k2).2.2 (plB (bD m d) k0 k1 k2).2.2 d).length<=5:=by
  split
  ·simp
  ·simp only [aV];omega
 omega
abbrev PD:=Bool×Bool×aa×Int×Int×aa×aa×Int×Int×Int×Int×Int
def pz (a e:Int):PD:=(false,false,[],0,0,[],[],0,0,0,a,e)
def M7 (S:aa):Nat⊕DR->PD
 | .inl k=>pz (k:Int) 5
 | .inr (g,l,dg,x,s,m,d,M,P,e)=>if e<S.length then pz (e:Int) 5 else
   if chkD g l dg (x:Int) (s:Int) m d (M.1:Int) (M.2.1:Int) (M.2.2:Int)=0 then (g,l,dg,(x:Int),(s:Int),m,d,(M.1:Int),(M.2.1:Int),(M.2.2:Int),0,0)
   else pz ((l3 P).getD (chkD g l dg (x:Int) (s:Int) m d (M.1:Int) (M.2.1:Int) (M.2.2:Int) - 6).toNat 0) (chkD g l dg (x:Int) (s:Int) m d (M.1:Int) (M.2.1:Int) (M.2.2:Int))
def MX (S:aa):PD:=M7 S (oe S 0)
theorem UQ {A B:Nat×Nat×Nat} (d:A.1<4) (f:A.2.1<4) (e:A.2.2<4) (g0:B.1<4) (c:B.2.1<4) (b:B.2.2<4):(spM A B).1<4/\(spM A B).2.1<4/\(spM A B).2.2<4:=by
 have a:∀x y:Nat,x<4->y<4->x ||| y<4:=λx y hx hy=>(or4 hx hy).2;exact ⟨a _ _ (a _ _ (a _ _ d g0) c) b,a _ _ (a _ _ f c) b,a _ _ e b⟩
structure RdOK (S:aa) (a:Nat) (dg m d:aa) (M:Nat×Nat×Nat) (e:Nat):Prop where
 dg17:dg.length<=17
 m2:m.length<=2
 d2:d.length<=2
 all:inM (bD m d) M
 le:a<=e
 end_:e<=S.length
theorem uB {S:aa} {a:Nat} (h:a<=S.length) {g l:Bool} {dg:aa} {x s:Nat} {m d:aa} {M P:Nat×Nat×Nat} {e:Nat} (b:oe S a=.inr (g,l,dg,x,s,m,d,M,P,e)):RdOK S a dg m d M e:=by
 have c:∀p,mkS (S.drop p)<4:=λp=>C2 _;have n:0<4:=by omega
 have b0:=kR h;have g0:a<=mkE S a:=B7 _ _;have o:∀p,p<=mkE S p:=λp=>B7 _ _;unfold oe at b;cases hy:pR (S.drop (mkE S a)) with
 | inl k=>rw [hy] at b;cases b
 | inr y=>
  obtain ⟨J,G,C,K,s',k⟩:=y;obtain ⟨_,bk,_,_,j⟩:=qV hy;have bk:mkE S a+k<=S.length:=by
   rw [bN] at bk;omega
  have b1:=kR bk;rw [hy] at b;simp only [] at b;by_cases hc:0<s'\/fA 45 (S.drop (mkE S (mkE S a+k)))=0
  ·rw [ae hc] at b;cases b;have:=UQ (A:=(mkS (S.drop a),0,0)) (B:=(mkS (S.drop (mkE S a+k)),0,0)) (c _) n n (c _) n n;refine ⟨j,by simp,by simp,⟨this.1,this.2.1,this.2.2,λ_=>by simp [spM],λ_=>by simp [spM]⟩,?_,b1⟩;have:=o (mkE S a+k);omega
  ·rw [ab hc] at b;have v:=rR (λz=>hc (.inr z));have Q:=kR v;unfold rd2 at b;by_cases u:twoN (S.drop (mkE S (mkE S (mkE S a+k)+1)))<2
   ·rw [ae u] at b;cases b
   ·rw [ab u] at b;have b2:=vH u;have D:=kR b2;have i:(List.take 2 (S.drop (mkE S (mkE S (mkE S a+k)+1)))).length=2:=by rw [cP,bN];omega
    have I:=o (mkE S a+k);have H:=o (mkE S (mkE S a+k)+1);have O:=o (mkE S (mkE S (mkE S a+k)+1)+2);by_cases f:fA 45 (S.drop (mkE S (mkE S (mkE S (mkE S a+k)+1)+2)))=0
    ·rw [ae f] at b;cases b;have:=UQ (A:=(mkS (S.drop a),mkS (S.drop (mkE S (mkE S a+k)+1)),0)) (B:=(mkS (S.drop (mkE S a+k)),mkS (S.drop (mkE S (mkE S (mkE S a+k)+1)+2)),0)) (c _) (c _) n (c _) (c _) n;refine ⟨j,by omega,by simp,⟨this.1,this.2.1,this.2.2,λz=>?_,λ_=>by simp [spM]⟩,by omega,D⟩;rw [IC (pF i)] at z;omega
    ·rw [ab f] at b;have t:=rR f;have w:=kR t;unfold rd3 at b;by_cases r:twoN (S.drop (mkE S (mkE S (mkE S (mkE S (mkE S a+k)+1)+2)+1)))<2
     ·rw [ae r] at b;cases b
     ·rw [ab r] at b;have F:=vH r;have E:=kR F;have q:(List.take 2 (S.drop (mkE S (mkE S (mkE S (mkE S (mkE S a+k)+1)+2)+1)))).length=2:=by rw [cP,bN];omega
      cases b;have N:=o (mkE S (mkE S (mkE S (mkE S a+k)+1)+2)+1);have L:=o (mkE S (mkE S (mkE S (mkE S (mkE S a+k)+1)+2)+1)+2);have:=UQ (A:=(mkS (S.drop a),mkS (S.drop (mkE S (mkE S a+k)+1)),mkS (S.drop (mkE S (mkE S (mkE S (mkE S a+k)+1)+2)+1)))) (B:=(mkS (S.drop (mkE S a+k)),mkS (S.drop (mkE S (mkE S (mkE S a+k)+1)+2)),mkS (S.drop (mkE S (mkE S (mkE S (mkE S (mkE S a+k)+1)+2)+1)+2)))) (c _) (c _) (c _) (c _) (c _) (c _);refine ⟨j,by omega,by omega,⟨this.1,this.2.1,this.2.2,λz=>?_,λz=>?_⟩,by omega,E⟩
      ·rw [G8 (pF i) (pF q)] at z;omega
      ·rw [G8 (pF i) (pF q)] at z;omega
theorem wW {g l:Bool} {dg:aa} {x q:Int} {m d:aa} {k0 k1 k2:Int} (b:allM k0 k1 k2 (bD m d)=0):chkD g l dg x q m d k0 k1 k2=0\/chkD g l dg x q m d k0 k1 k2=6\/chkD g l dg x q m d k0 k1 k2=7\/chkD g l dg x q m d k0 k1 k2=8:=by
 unfold chkD;rw [b];generalize yrD g l dg x q m=b1;generalize (!(m==[])&&(!(decide (0<sea m))&&!(dY m 12)))=b2;generalize (!(d==[])&&((m==[])||(decide (0<sea m)||!(dY d 31))))=a;cases b1<;>cases b2<;>cases a<;>simp
theorem QK (m:Nat) (S:aa) (p:S.length<100000) (i:S.length<m+300):jl (m+300) S=some (MX S):=by
 have h:=J8 m S 0 (by omega) p i;rw [show ((0:Nat):Int)=0 from rfl] at h;unfold jl eY lJ MX;rw [h];cases n:oe S 0 with
 | inl k=>rfl
 | inr r=>
  obtain ⟨g,l,dg,x,s,f,d,M,P,e⟩:=r;have a:=uB (by omega) n;have o:=a.all;simp only [ob,Uc,d4,d8,M7,gY];by_cases b:e<S.length
  ·rw [aq b,ae b];rfl
  ·rw [ar b,ab b];simp only [af,show ((0:Int)==0)=true from rfl,ah];have t:=a.m2;have j:=a.dg17;rw [IX (m+300) (by omega) g l dg _ _ f d _ _ _ (by omega) (by omega) (by omega) (by omega) (by omega)];simp only [ob];have c:=wW (g:=g) (l:=l) (dg:=dg) (x:=(x:Int)) (q:=(s:Int)) (m:=f) (d:=d) (k0:=(M.1:Int)) (k1:=(M.2.1:Int)) (k2:=(M.2.2:Int)) (tz o);rcases c with hc | hc | hc | hc<;>rw [hc]<;>rfl
theorem uR {p:UInt8->Bool}:dc p []:=λc hc=>by cases hc
def monT (j:Nat):aa:=if j=0 then [] else if j<=12 then two j else if j<=33 then two (j+8) else ([[48,88],[49,88],[88,50],[88,88],[88,48],[88,57]]:List (aa)).getD (j - 34) []
def XZ (m:aa):Nat:=if m=[48,50] then 28 else if m=[48,52]\/m=[48,54]\/m=[48,57]\/m=[49,49]\/m=[88,57] then 30 else 31
def dayT (j:Nat) (m:aa):aa:=if j=0 then [] else if j<=31 then two (min j (XZ m)) else if m=[48,50]/\j=35 then [50,88] else ([[48,88],[49,88],[50,88],[51,88],[88,48],[88,49],[88,88],[88,56]]:List (aa)).getD (j - 32) []
theorem r40 {p:Nat->Bool} (h:(List.range 40).all p=true) {a:Nat} (b:a<40):p a=true:=(bW.1 h) a (jp.2 b)
noncomputable def Rt (m:Nat) (a0:Int) (a1:Bool) (a2 d a f e c b:Int) (j:Nat):Bool:=gh (m+300) a0 a1 a2 d a (j:Int) f e c b==some (monT j)
theorem OK (m:Nat) (a0:Int) (a1:Bool) (a2 d a f e c b:Int):((List.range 40).all λj=>Rt m a0 a1 a2 d a f e c b j)=true:=by kernel_rfl
theorem SE (a:Nat) (h:a<256):IntKind.wrap .i64 (Int.tmod (a:Int) 40)=((a%40:Nat):Int):=by
 have:Int.tmod (a:Int) 40=((a%40:Nat):Int):=rfl;rw [this,wrap_i64 _ (by omega) (by omega)]
theorem RJ (j:Nat) (h:j<40):IntKind.wrap .i64 (Int.tmod (j:Int) 40)=((j:Nat):Int):=by
 rw [SE j (by omega)];have:j%40=j:=by omega
 rw [this]
theorem Aw (m:Nat) (a0:Int) (a1:Bool) (a2 g c:Int) (b:Nat) (j i f e:Int) (h:b<256):gh (m+300) a0 a1 a2 g c (b:Int) j i f e=some (monT (b%40)):=by
 have d:b%40<40:=by omega
 have a:=r40 (OK m a0 a1 a2 g c j i f e) d;unfold Rt at a;have a:=bp.1 a;unfold gh at a ⊢;rw [RJ _ d] at a;rw [SE _ h];exact a
theorem NG {j:Nat} (h:j<40):monT j=[]\/0<sea (monT j)\/(sea (monT j)=0/\dY (monT j) 12=true):=by
 have:((List.range 40).all λj=>decide (monT j=[])||(decide (0<sea (monT j))||(decide (sea (monT j)=0)&&dY (monT j) 12)))=true:=by decide +kernel
 have:=r40 this h;simpa using this
theorem EV {j:Nat} (h:j<40) (hs:sea (monT j)=0) (a:monT j≠[]):monT j∈((List.range 12).map λi=>two (i+1))++[[48,88],[49,88],[88,50],[88,88],[88,48],[88,57]]:=by
 have:((List.range 40).all λj=>!decide (sea (monT j)=0)||(decide (monT j=[])||decide (monT j∈((List.range 12).map λi=>two (i+1))++[[48,88],[49,88],[88,50],[88,88],[88,48],[88,57]])))=true:=by decide +kernel
 have:=r40 this h;rw [aq hs,ar a] at this;simpa using this
noncomputable def Rq (m:Nat) (a0:Int) (a1:Bool) (a2 e b g f d c:Int) (a:aa) (j:Nat):Bool:=iQ (m+300) a0 a1 a2 e b g (j:Int) f d c a==some (dayT j a)
theorem OE (m:Nat) (a0:Int) (a1:Bool) (a2 d a f e c b:Int):((((List.range 12).map λi=>two (i+1))++[[48,88],[49,88],[88,50],[88,88],[88,48],[88,57]]).all λg=>(List.range 40).all λj=>Rq m a0 a1 a2 d a f e c b g j)=true:=by kernel_rfl
theorem Hm (m:Nat) (a0:Int) (a1:Bool) (a2 j d l:Int) (b:Nat) (k g f:Int) (c:aa) (n:c∈((List.range 12).map λi=>two (i+1))++[[48,88],[49,88],[88,50],[88,88],[88,48],[88,57]]) (h:b<256):iQ (m+300) a0 a1 a2 j d l (b:Int) k g f c=some (dayT (b%40) c):=by
 have e:b%40<40:=by omega
 have a:=r40 ((bW.1 (OE m a0 a1 a2 j d l k g f)) c n) e;unfold Rq at a;have a:=bp.1 a;unfold iQ at a ⊢;rw [RJ _ e] at a;rw [SE _ h];exact a
theorem Ln {j:Nat} (h:j<40) {a:aa} (b:a∈((List.range 12).map λi=>two (i+1))++[[48,88],[49,88],[88,50],[88,88],[88,48],[88,57]]):dayT j a=[]\/dY (dayT j a) 31=true:=by
 have:((((List.range 12).map λi=>two (i+1))++[[48,88],[49,88],[88,50],[88,88],[88,48],[88,57]]).all λa=>(List.range 40).all λj=>decide (dayT j a=[])||dY (dayT j a) 31)=true:=by decide +kernel
 have:=r40 ((bW.1 this) a b) h;simpa using this
def mksT (k a b c:Nat):Nat×Nat×Nat:=(a%4,if 1<k then b%4 else 0,if 2<k then c%4 else 0)
theorem yw (k a b c:Nat):allM ((mksT k a b c).1:Int) ((mksT k a b c).2.1:Int) ((mksT k a b c).2.2:Int) k=0:=by
 apply tz;refine ⟨by simp only [mksT];omega,?_,?_,?_,?_⟩
 ·simp only [mksT];split<;>omega
 ·simp only [mksT];split<;>omega
 ·intro h;simp only [mksT];rw [ab (by omega)]
 ·intro h;simp only [mksT];rw [ab (by omega)]
theorem Ir {g l:Bool} {d:aa} {x s:Int} (h:okY g l d x s) (e:d.length<=5) (c:x<=11):rP g d x=false:=by
 unfold rP;cases b:hasX d with
 | true=>rfl
 | false=>
  obtain ⟨k,q,rfl,rfl,j⟩:=sR h b;have a:=re d 0 0 j.dig (by decide);rw [cH] at a;have m:dval 0 d<10 ^ 5:=oU a (ll (by omega) e);have f:10 ^ k<=10 ^ 11:=ll (by omega) (by omega);have i:val d k≠E16:=by
   unfold val E16;have:dval 0 d*10 ^ k<=99999*10 ^ 11:=yc (by omega) f;omega
  rw [bY,ar i];simp
theorem Df {g l:Bool} {dg:aa} {x q:Int} {m d:aa} {k0 k1 k2:Int} (h:okY g l dg x q) (o:rP g dg x=false) (i:0<q->m=[]) (b:m=[]\/0<sea m\/(sea m=0/\dY m 12=true)) (k:d=[]\/(m≠[]/\sea m=0/\dY d 31=true)) (p:allM k0 k1 k2 (bD m d)=0):chkD g l dg x q m d k0 k1 k2=0:=by
 have hy:yrD g l dg x q m=true:=by
  unfold yrD yrB;rw [ae h,o];by_cases a:0<q
  ·rw [i a];simp
  ·simp [a]
 unfold chkD;rw [hy,p];have j:(!(m==[])&&(!(decide (0<sea m))&&!(dY m 12)))=false:=by
  rcases b with h | h | ⟨_,h⟩
  ·rw [h];rfl
  ·rw [aq h];simp
  ·rw [h];simp
 have f:(!(d==[])&&((m==[])||(decide (0<sea m)||!(dY d 31))))=false:=by
  rcases k with h | ⟨e,c,n⟩
  ·rw [h];rfl
  ·rw [aJ.2 e,c,n];simp
 rw [j,f];rfl
def minL (a:Nat):Nat:=if a=2 then 28 else if a=4\/a=6\/a=9\/a=11 then 30 else 31
def fitD (a d:aa):Bool:=(List.range' 1 12).any λi=>agr a i&&(List.range' 1 (minL i)).any (agr d)
theorem UN:((((List.range 12).map λi=>two (i+1))++[[48,88],[49,88],[88,50],[88,88],[88,48],[88,57]]).all λa=>(List.range 40).all λj=>(dayT j a==[])||fitD a (dayT j a))=true:=by decide +kernel
theorem IN {j:Nat} (h:j<40) {a:aa} (b:a∈((List.range 12).map λi=>two (i+1))++[[48,88],[49,88],[88,50],[88,88],[88,48],[88,57]]):dayT j a=[]\/fitD a (dayT j a)=true:=by
 have:=r40 ((bW.1 UN) a b) h;simp only [gX,bp] at this;exact this
theorem We (m a0 a2 G I A w i j n:Nat) (g:Bool) (K:a2<65536) (V:G<256) (T:I<256) (Z:A<256) (W:w<256) (h7:i<256) (h8:j<256) (h9:n<256):
  ∃k l dg x q f d k0 k1 k2,aL (m+300) (a0:Int) g (a2:Int) (G:Int) (I:Int) (A:Int) (w:Int) (i:Int) (j:Int) (n:Int)=some (k,l,dg,((x:Nat):Int),((q:Nat):Int),f,d,((k0:Nat):Int),((k1:Nat):Int),((k2:Nat):Int))/\chkD k l dg (x:Int) (q:Int) f d (k0:Int) (k1:Int) (k2:Int)=0/\OkD k l dg x q f d k0 k1 k2/\(d=[]\/fitD f d=true):=by
 obtain ⟨k,l,dg,x,q,e,C,M,D⟩:=Xz m a0 a2 G I g K V T;have J:=Ir C M D;obtain ⟨s1,s2,s3,s4,s5,s6⟩:=jf C
 suffices H:∃f d,aL (m+300) (a0:Int) g (a2:Int) (G:Int) (I:Int) (A:Int) (w:Int) (i:Int) (j:Int) (n:Int)=some (k,l,dg,x,q,f,d,((mksT (bD f d) i j n).1:Int),((mksT (bD f d) i j n).2.1:Int),((mksT (bD f d) i j n).2.2:Int))/\chkD k l dg x q f d ((mksT (bD f d) i j n).1:Int) ((mksT (bD f d) i j n).2.1:Int) ((mksT (bD f d) i j n).2.2:Int)=0/\(d=[]\/fitD f d=true) by
  obtain ⟨f,d,S,K,hf⟩:=H;obtain ⟨U,R,a,b,c,X,Y,P,Q,O,L⟩:=OJ (by omega) (by omega) (by omega) K;subst X Y;refine ⟨k,l,dg,U,R,f,d,a,b,c,?_,?_,L,hf⟩
  ·rw [S,P,Q,O]
  ·rw [<-P,<-Q,<-O];exact K
 have t7:Int.tmod (i:Int) 4=((i%4:Nat):Int):=rfl;have t8:Int.tmod (j:Int) 4=((j%4:Nat):Int):=rfl;have t9:Int.tmod (n:Int) 4=((n%4:Nat):Int):=rfl;have p:∀(f d:aa) (o:Option (Bool×Bool×aa×Int×Int×aa×aa×Int×Int×Int)),
   (ob (au (m+300) k l dg x q f d 0 0 0) λr=>(cond (decide ((0:Int)<r)) (ob (au (m+300) k l dg x q f d (Int.tmod (i:Int) 4) 0 0) λr=>(cond (decide ((1:Int)<r)) (ob (au (m+300) k l dg x q f d (Int.tmod (i:Int) 4) (Int.tmod (j:Int) 4) 0) λr=>(cond (decide ((2:Int)<r)) (ob (au (m+300) k l dg x q f d (Int.tmod (i:Int) 4) (Int.tmod (j:Int) 4) (Int.tmod (n:Int) 4)) λr=>(cond (decide ((3:Int)<r)) none (some (k,l,dg,x,q,f,d,(Int.tmod (i:Int) 4),(Int.tmod (j:Int) 4),(Int.tmod (n:Int) 4))))) (some (k,l,dg,x,q,f,d,(Int.tmod (i:Int) 4),(Int.tmod (j:Int) 4),0)))) (some (k,l,dg,x,q,f,d,(Int.tmod (i:Int) 4),0,0)))) (some (k,l,dg,x,q,f,d,0,0,0))))=some (k,l,dg,x,q,f,d,((mksT (bD f d) i j n).1:Int),((mksT (bD f d) i j n).2.1:Int),((mksT (bD f d) i j n).2.2:Int)):=by
  intro f d _;have hc:=mf f d;have:bD f d=1\/bD f d=2\/bD f d=3:=by omega
  rw [dj,dj,dj,dj];rcases this with h | h | h<;>rw [h]<;>rfl
 unfold aL;rw [e];simp only [ob,d4];rw [gK];by_cases N:q=0
 ·rw [ae N];rw [Aw m _ _ _ _ _ A _ _ _ _ Z];have E:A%40<40:=by omega
  have v:=NG E;have F:=EV E;generalize monT (A%40)=f at v F ⊢;show ∃t d,cond (!(f==[])) _ _=_/\_;by_cases s:f=[]
  ·subst s;refine ⟨[],[],p [] [] none,?_,.inl rfl⟩;exact Df C J (λ_=>rfl) (.inl rfl) (.inl rfl) (yw _ _ _ _)
  ·rw [aJ.2 s];show ∃t d,ob (aO (m+300) k l dg x q f [] 0 0 0) _=_/\_;rw [lL (m+300) (by omega)];show ∃t d,cond (sea f==0) _ _=_/\_;rw [gK];by_cases hs:sea f=0
   ·rw [ae hs];have y:=F hs s;rw [Hm m _ _ _ _ _ _ w _ _ _ f y W];have B:=Ln (show w%40<40 by omega) y;have u:=IN (show w%40<40 by omega) y;generalize dayT (w%40) f=d at B u ⊢;refine ⟨f,d,p f d none,?_,u⟩;refine Df C J (λz=>by omega) v ?_ (yw _ _ _ _);rcases B with B | B
    ·exact .inl B
    ·exact .inr ⟨s,hs,B⟩
   ·rw [ab hs];refine ⟨f,[],p f [] none,?_,.inl rfl⟩;exact Df C J (λz=>by omega) v (.inl rfl) (yw _ _ _ _)
 ·rw [ab N];refine ⟨[],[],p [] [] none,?_,.inl rfl⟩;exact Df C J (λ_=>rfl) (.inl rfl) (.inl rfl) (yw _ _ _ _)
theorem MH (n:Nat) (g l:Bool) (dg:aa) (x q:Int) (m d:aa) (k0 k1 k2:Int) (a:m.length<=18):bm n g l dg x q m d k0 k1 k2=some (if d=[] then (if 0<sea m then 0 else if m=[] then 1 else 2) else 3):=by
 unfold bm;rw [qO n g l dg x q m d k0 k1 k2 a];by_cases b:d=[]
 ·rw [ae b,b];show cond (decide (0<sea m)) _ _=_;rw [bM];by_cases hs:0<sea m
  ·rw [ae hs,ae hs]
  ·rw [ab hs,ab hs];by_cases a:m=[]
   ·rw [ae a,a];rfl
   ·rw [ab a,aJ.2 a];rfl
 ·rw [ab b,aJ.2 b];rfl
theorem E4 (n:Nat) {g l:Bool} {dg:aa} {x q:Int} {m d:aa} {k0 k1 k2:Int} (f:0<=k0) (k:0<=k1) (i:0<=k2) (hc:chkD g l dg x q m d k0 k1 k2=0):
  bV (n+300) g l dg x q m d k0 k1 k2=some (tV g l dg x q m d k0.toNat k1.toNat k2.toNat):=by
 obtain ⟨t,s,a,b,c,r,j,p,h,o,e⟩:=OJ f k i hc;subst r j p h o;exact JW n e
theorem wy (a b:aa):hasX (a++b)=(hasX a||hasX b):=by unfold hasX;rw [sM]
theorem Db (n:Nat) (g l:Bool) (dg:aa) (x q:Int) (m d:aa) (k0 k1 k2:Int) (b:m.length<=1000) (a:dg.length<=1000) (h:d.length<=1000):
  eX n g l dg x q m d k0 k1 k2=some (hasX dg||(hasX m||hasX d)):=by
 unfold eX;rw [dV (by omega)];simp only [ob];rw [dV (by simp only [bv];omega)];simp only [ob];rw [D4,wy,wy,Bool.or_assoc]
def Be (d:aa) (k q:Nat):Nat×Nat:=if 0<q then (val d k / 10 ^ (d.length+k - q)*10 ^ (d.length+k - q),min (val d k / 10 ^ (d.length+k - q)*10 ^ (d.length+k - q)+10 ^ (d.length+k - q) - 1) E16) else (val d k,val d k)
def sgn (g:Bool) (p:Nat×Nat):Int×Int:=if g then (-(p.2:Int),-(p.1:Int)) else ((p.1:Int),(p.2:Int))
theorem D5 (n:Nat) (g l:Bool) (d:aa) (k q:Nat) (D:200<n) (w:d.length<=100) (c:Num d k q):
  aP n g l d (k:Int) (q:Int)=some (sgn g (Be d k q)):=by
 have C:=c.wide;have hs:=c.small;have B:=c.sig;unfold aP;rw [pJ n g l d k q (by omega) (by omega),uF c.dig,jD n d k c.dig w (by omega) (by omega),ae hs];have r:dval 0 d*10 ^ k=val d k:=rfl;rw [r] at hs ⊢;unfold E16 at hs;have h:((if false=true then (1:Int) else 0)==1)=false:=rfl;simp only [ob,h,af];by_cases i:0<q
 ·have f:decide ((q:Int)>0)=true:=aq (by omega);have w0:IntKind.wrap .i64 (IntKind.wrap .i64 (((d.length:Nat):Int)+(k:Int)) - (q:Int))=((d.length+k - q:Nat):Int):=by
   rw [wrap_i64 (((d.length:Nat):Int)+(k:Int)) (by omega) (by omega),wrap_i64 _ (by omega) (by omega)];omega
  have s:10 ^ (d.length+k - q)<=10 ^ 16:=ll (by decide) (by omega);have z:(10:Nat) ^ 16=10000000000000000:=by decide
  have one:dval 0 [49]=1:=by decide
  have a:dval 0 [49]*10 ^ (d.length+k - q)<=E16:=by rw [one];unfold E16;omega
  rw [f,w0,jD n [49] (d.length+k - q) (by decide) (by decide) (by omega) (by simp;omega),ae a,one,yk];simp only [ah];have E:1<=10 ^ (d.length+k - q):=Bz _ _ (by decide);unfold sgn Be;rw [ae i];clear a;generalize 10 ^ (d.length+k - q)=u at *;generalize val d k=v at *;have d2:(((u:Nat):Int)==0)=false:=aJ.2 (by omega);have b:Int.tdiv ((v:Nat):Int) ((u:Nat):Int)=((v / u:Nat):Int):=rfl;have o:v / u*u<=v:=Gv v u;have m:v / u<=v:=Nat.div_le_self v u;have p:IntKind.wrap .i64 ((v / u:Nat):Int)=((v / u:Nat):Int):=by
   generalize v / u=t at *;exact wrap_i64 _ (by omega) (by omega)
  have A:IntKind.wrap .i64 (((v / u:Nat):Int)*((u:Nat):Int))=((v / u*u:Nat):Int):=by
   rw [<-G2];exact wrap_i64 _ (by omega) (by omega)
  rw [d2,af,b,p,A];generalize v / u*u=lo at *;have x:IntKind.wrap .i64 (IntKind.wrap .i64 (((lo:Nat):Int)+((u:Nat):Int)) - 1)=((lo+u - 1:Nat):Int):=by
   rw [wrap_i64 (((lo:Nat):Int)+((u:Nat):Int)) (by omega) (by omega),wrap_i64 _ (by omega) (by omega)];omega
  rw [x];have e:(cond (decide ((10000000000000000:Int)<((lo+u - 1:Nat):Int))) (10000000000000000:Int) ((lo+u - 1:Nat):Int))=((min (lo+u - 1) E16:Nat):Int):=by
   unfold E16;by_cases j:(10000000000000000:Int)<((lo+u - 1:Nat):Int)
   ·rw [aq j,ah];omega
   ·rw [ar j,af];omega
  rw [e];have y:min (lo+u - 1) E16<=10000000000000000:=Fo _ _;generalize min (lo+u - 1) E16=hi at *;cases g with
  | true=>
   simp only [ah,aM];rw [wrap_i64 _ (by omega) (by omega),wrap_i64 _ (by omega) (by omega),zQ,zQ]
  | false=>simp
 ·have f:decide ((q:Int)>0)=false:=ar (by omega);rw [f,af];unfold sgn Be;rw [ab i];cases g with
  | true=>
   simp only [ah,aM];rw [wrap_i64 _ (by omega) (by omega),zQ]
  | false=>simp
def eO (z:UInt8) (d:aa):aa:=d.map λc=>if c=88 then z else c
theorem js (z:UInt8) (d:aa):(eO z d).length=d.length:=by simp [eO]
theorem rn {z:UInt8} (a:bg z=true) {d:aa} (h:∀c∈d,bg c=true\/c=88):∀c∈eO z d,bg c=true:=by
 intro c hc;obtain ⟨b,e,rfl⟩:=ek.1 hc;by_cases hx:b=88
 ·rw [ae hx];exact a
 ·rw [ab hx];exact (h b e).resolve_right hx
theorem yz {z:UInt8} {d:aa} {i:Nat} {c:UInt8} (h:d[i]?=some c):(eO z d)[i]?=some (if c=88 then z else c):=by
 simp [eO,h]
def uD (d:aa):Nat:=10 ^ (d.reverse.takeWhile (λc=>c != 88)).length
def kN (g:Bool) (d:aa):Nat×Nat:=(if g=true/\dval 0 (eO 48 d)=0 then uD d else dval 0 (eO 48 d),dval 0 (eO 57 d))
theorem SY (m:Nat):aP (m+300) true false [48,48,48,88] 0 0=some (sgn true (kN true [48,48,48,88])):=by kernel_rfl
theorem Ue (m:Nat):aP (m+300) true false [48,48,88,48] 0 0=some (sgn true (kN true [48,48,88,48])):=by kernel_rfl
theorem S5 (m:Nat):aP (m+300) true false [48,48,88,88] 0 0=some (sgn true (kN true [48,48,88,88])):=by kernel_rfl
theorem Sz (m:Nat):aP (m+300) true false [48,88,48,48] 0 0=some (sgn true (kN true [48,88,48,48])):=by kernel_rfl
theorem Uu (m:Nat):aP (m+300) true false [48,88,48,88] 0 0=some (sgn true (kN true [48,88,48,88])):=by kernel_rfl
theorem TQ (m:Nat):aP (m+300) true false [48,88,88,48] 0 0=some (sgn true (kN true [48,88,88,48])):=by kernel_rfl
theorem UJ (m:Nat):aP (m+300) true false [48,88,88,88] 0 0=some (sgn true (kN true [48,88,88,88])):=by kernel_rfl
theorem Uy (m:Nat):aP (m+300) true false [88,48,48,48] 0 0=some (sgn true (kN true [88,48,48,48])):=by kernel_rfl
theorem U2 (m:Nat):aP (m+300) true false [88,48,48,88] 0 0=some (sgn true (kN true [88,48,48,88])):=by kernel_rfl
theorem TL (m:Nat):aP (m+300) true false [88,48,88,48] 0 0=some (sgn true (kN true [88,48,88,48])):=by kernel_rfl
theorem PI (m:Nat):aP (m+300) true false [88,48,88,88] 0 0=some (sgn true (kN true [88,48,88,88])):=by kernel_rfl
theorem Pi (m:Nat):aP (m+300) true false [88,88,48,48] 0 0=some (sgn true (kN true [88,88,48,48])):=by kernel_rfl
theorem O4 (m:Nat):aP (m+300) true false [88,88,48,88] 0 0=some (sgn true (kN true [88,88,48,88])):=by kernel_rfl
theorem Rb (m:Nat):aP (m+300) true false [88,88,88,48] 0 0=some (sgn true (kN true [88,88,88,48])):=by kernel_rfl
theorem QL (m:Nat):aP (m+300) true false [88,88,88,88] 0 0=some (sgn true (kN true [88,88,88,88])):=by kernel_rfl
theorem Ef {d:aa} (l:d.length=4) (h:∀c∈d,bg c=true\/c=88) (k:dval 0 (eO 48 d)=0):∀c∈d,c=48\/c=88:=by
 match d,l with
 | [a,b,c,e],_=>
  have g:=rn (z:=48) (by decide) h;have j:dval 0 (eO 48 [a,b,c,e])=((((0*10+((if a=88 then (48:UInt8) else a).toNat - 48))*10+((if b=88 then (48:UInt8) else b).toNat - 48))*10+((if c=88 then (48:UInt8) else c).toNat - 48))*10+((if e=88 then (48:UInt8) else e).toNat - 48)):=by
   simp only [eO,fW,List.map_nil,pP,qm,vR]
  rw [j] at k;have key:∀x:UInt8,bg (if x=88 then (48:UInt8) else x)=true->(if x=88 then (48:UInt8) else x).toNat - 48=0->x=48\/x=88:=by
   intro x hx i;by_cases f:x=88
   ·exact .inr f
   ·rw [ab f] at hx i;have:=(cb x).1 hx;exact .inl (gD.1 (by show x.toNat=48;omega))
  simp only [eO,fW,List.map_nil,cq,oL,qe,CN,forall_eq] at g ⊢;exact ⟨key a g.1 (by omega),key b g.2.1 (by omega),key c g.2.2.1 (by omega),key e g.2.2.2 (by omega)⟩
theorem zY {d:aa} (u:d.length=4) (h:∀c∈d,c=48\/c=88) (p:hasX d=true) (P:aa->Prop) (v:P [48,48,48,88]) (m:P [48,48,88,48]) (z:P [48,48,88,88]) (q:P [48,88,48,48]) (o:P [48,88,48,88]) (t:P [48,88,88,48]) (r:P [48,88,88,88]) (y:P [88,48,48,48]) (x:P [88,48,48,88]) (w:P [88,48,88,48]) (g:P [88,48,88,88]) (k:P [88,88,48,48]) (j:P [88,88,48,88]) (i:P [88,88,88,48]) (f:P [88,88,88,88]):P d:=by
 match d,u with
 | [a,b,c,e],_=>
  simp only [cq,oL,qe,CN,forall_eq] at h;obtain ⟨s,n,hc,l⟩:=h;rcases s with rfl | rfl<;>rcases n with rfl | rfl<;>rcases hc with rfl | rfl<;>rcases l with rfl | rfl
  ·exact absurd p (by decide)
  ·exact v
  ·exact m
  ·exact z
  ·exact q
  ·exact o
  ·exact t
  ·exact r
  ·exact y
  ·exact x
  ·exact w
  ·exact g
  ·exact k
  ·exact j
  ·exact i
  ·exact f
theorem GE (n:Nat) (g l:Bool) (d:aa) (x s:Int) (p:d.length=4) (o:4<n):av (gk n) n ([],[],0,g,l,d,x,s)=some (eO 48 d,eO 57 d,g,l,d,x,s):=by
 refine fQ (step:=gk n) (λq=>∃i:Nat,i<=4/\q=((eO 48 d).take i,(eO 57 d).take i,(i:Int),g,l,d,x,s)) (λq=>4 - q.2.2.1.toNat) (λ_=>(eO 48 d,eO 57 d,g,l,d,x,s)) ?_ n _ ⟨0,by omega,by simp⟩ (by simp;omega);rintro q ⟨i,hi,rfl⟩;rcases aI i 4 with j | m
 ·obtain ⟨c,hc⟩:∃c,d[i]?=some c:=⟨d[i],aW (by omega)⟩;have b:=Vf (yz (z:=48) hc);have f:=Vf (yz (z:=57) hc);have k:decide ((i:Int)<4)=true:=aq (by omega);have h:IntKind.wrap .i64 ((i:Int)+1)=((i+1:Nat):Int):=by rw [wrap_i64 _ (by omega) (by omega)];omega
  refine .inl ⟨((eO 48 d).take (i+1),(eO 57 d).take (i+1),((i+1:Nat):Int),g,l,d,x,s),?_,⟨i+1,by omega,rfl⟩,by simp only [bY];omega,rfl⟩;simp only [gk,k,ah,h,cQ (show i+1<=d.length by omega),cQ (show i<=i+1 by omega),ob,cut1 hc];have a:∀z:UInt8,((eO z d).take i).length<=4:=λz=>by rw [cP];omega
  rw [b,f];by_cases hx:c=88
  ·have e:(([c]:aa)==[88])=true:=by rw [hx];rfl
   rw [e,ah,ae hx,ae hx,dV (by have:=a 48;simp;omega),dV (by have:=a 57;simp;omega)]
  ·have e:(([c]:aa)==[88])=false:=by
    rw [aJ];intro e;exact hx (by simpa using e)
   rw [e,af,ab hx,ab hx,dV (by have:=a 48;simp;omega),dV (by have:=a 57;simp;omega)]
 ·have:i=4:=by omega
  subst this;refine .inr ?_;rw [jB (by rw [js];omega),jB (by rw [js];omega)];rfl
theorem Jm {d:aa} (h:d=[48,48,48,48]):dval 0 d=0:=by rw [h];decide
theorem BK (m:Nat) (g:Bool) (d:aa) (h:okY g false d 0 0) (k:hasX d=true):aP (m+300) g false d 0 0=some (sgn g (kN g d)):=by
 obtain ⟨_,_,_,j,l⟩:=rK h k;by_cases i:g=true/\dval 0 (eO 48 d)=0
 ·obtain ⟨rfl,i⟩:=i;exact zY j (Ef j l i) k (λd=>aP (m+300) true false d 0 0=some (sgn true (kN true d))) (SY m) (Ue m) (S5 m) (Sz m) (Uu m) (TQ m) (UJ m) (Uy m) (U2 m) (TL m) (PI m) (Pi m) (O4 m) (Rb m) (QL m)
 ·have hs:kN g d=(dval 0 (eO 48 d),dval 0 (eO 57 d)):=by unfold kN;rw [ab i]
  have c:=rn (z:=48) (by decide) l;have f:=rn (z:=57) (by decide) l;have p:=re (eO 48 d) 0 0 c (by simp);have o:=re (eO 57 d) 0 0 f (by simp);rw [js,j] at p o;have r:(10:Nat) ^ (4+0)=10000:=by decide
  have m1:am (m+300) (eO 48 d) 0=some (((dval 0 (eO 48 d):Nat):Int),1):=by
   have:=jD (m+300) (eO 48 d) 0 c (by rw [js];omega) (by omega) (by rw [js];omega);rw [ae (by unfold E16;simp only [AA,rl];omega)] at this;simpa using this
  have m2:am (m+300) (eO 57 d) 0=some (((dval 0 (eO 57 d):Nat):Int),1):=by
   have:=jD (m+300) (eO 57 d) 0 f (by rw [js];omega) (by omega) (by rw [js];omega);rw [ae (by unfold E16;simp only [AA,rl];omega)] at this;simpa using this
  have q:((if true=true then (1:Int) else 0)==1)=true:=rfl;have n:decide ((0:Int)>0)=false:=rfl;unfold aP;rw [pJ _ g false d 0 0 (by omega) (by omega),k,GE _ g false d 0 0 j (by omega),hs];simp only [ob,aM,vK,ah];cases g with
  | true=>
   have e:(eO 48 d==([48,48,48,48]:aa))=false:=by
    rw [aJ];intro e;exact i ⟨rfl,Jm e⟩
   simp only [ah,e,af,m1,m2,n,sgn,aM];generalize dval 0 (eO 48 d)=a at *;generalize dval 0 (eO 57 d)=b at *;rw [wrap_i64 _ (by omega) (by omega),wrap_i64 _ (by omega) (by omega),zQ,zQ]
  | false=>simp only [af,m1,m2,n,sgn,bs,aG]
def n7 (g:Bool) (d:aa) (x s:Int):Nat×Nat:=if hasX d then kN g d else Be d x.toNat s.toNat
theorem Pm (m:Nat) (g l:Bool) (d:aa) (x s:Int) (c:d.length<=100) (h:okY g l d x s):aP (m+300) g l d x s=some (sgn g (n7 g d x s)):=by
 unfold n7;cases a:hasX d with
 | true=>
  obtain ⟨rfl,rfl,rfl,f,b⟩:=rK h a;exact BK m g d h a
 | false=>
  obtain ⟨k,q,rfl,rfl,e⟩:=sR h a;exact D5 _ g l d k q (by omega) c e
theorem Tt {d:aa} {k q:Nat} (h:Num d k q):(Be d k q).1<=val d k/\val d k<=(Be d k q).2/\(Be d k q).2<=E16:=by
 have hs:=h.small;have b:dval 0 d*10 ^ k=val d k:=rfl;rw [b] at hs;unfold Be;split
 ·have a:1<=10 ^ (d.length+k - q):=Bz _ _ (by decide);generalize 10 ^ (d.length+k - q)=u at a ⊢;generalize val d k=v at hs ⊢;have c:=Gv v u;have e:v<v / u*u+u:=by
   have h:=Nat.div_add_mod v u;have:=rB v a;rw [va] at h;omega
  refine ⟨c,?_,Fo _ _⟩;rw [Nat.le_min];omega
 ·exact ⟨bi _,bi _,hs⟩
def mtk (d:aa):Nat->Nat->Bool
 | 0,_=>true
 | k+1,w=>(decide (d.getD k 0=88)||decide ((d.getD k 0).toNat=48+w%10))&&mtk d k (w / 10)
theorem CQ (d:aa) (k w:Nat):mtk d (k+1) w=((decide (d.getD k 0=88)||decide ((d.getD k 0).toNat=48+w%10))&&mtk d k (w / 10)):=rfl
theorem B9 {d:aa} {k:Nat} {c:UInt8} (h:d[k]?=some c):d.getD k 0=c:=by
 rw [Ei,h];rfl
theorem M5 (n:Nat) (g l:Bool) (d:aa) (x s:Int) (A:d.length=4):∀(k w:Nat),k<=4->w<100000000000000000->∀q,k<q->
  av (bS n) q ((w:Int),(k:Int) - 1,g,l,d,x,s)=some (if mtk d k w=true then .inr ((w / 10 ^ k:Nat):Int) else .inl 0)
 | 0,w,B,o,q,u=>by
  obtain ⟨q,rfl⟩:∃p,q=p+1:=⟨q - 1,by omega⟩;have b:decide (((0:Nat):Int) - 1>=0)=false:=rfl;have f:mtk d 0 w=true:=rfl;simp only [av,bS,b,af];rw [ae f];simp
 | k+1,w,B,o,q,u=>by
  obtain ⟨q,rfl⟩:∃p,q=p+1:=⟨q - 1,by omega⟩;have ih:=M5 n g l d x s A k (w / 10) (by omega) (by omega) q (by omega);obtain ⟨c,hc⟩:∃c,d[k]?=some c:=⟨d[k],aW (by omega)⟩;have r:((k+1:Nat):Int) - 1=(k:Int):=by omega
  have b:decide ((k:Int)>=0)=true:=aq (by omega);have v:Int.tmod (w:Int) 10=((w%10:Nat):Int):=rfl;have eq':Int.tdiv (w:Int) 10=((w / 10:Nat):Int):=rfl;have m:IntKind.wrap .i64 (48+((w%10:Nat):Int))=((48+w%10:Nat):Int):=by rw [wrap_i64 _ (by omega) (by omega)];omega
  have z:IntKind.wrap .u8 ((48+w%10:Nat):Int)=((48+w%10:Nat):Int):=fL _ (by omega) (by omega);have y:IntKind.wrap .i64 ((w / 10:Nat):Int)=((w / 10:Nat):Int):=wrap_i64 _ (by omega) (by omega);have t:IntKind.wrap .i64 ((k:Int) - 1)=(k:Int) - 1:=wrap_i64 _ (by omega) (by omega);have a:w / 10 ^ (k+1)=w / 10 / 10 ^ k:=by rw [tK,va,Nat.div_div_eq_div_mul]
  rw [CQ,B9 hc,a,r];simp only [av,bS,b,ah,eF hc,ob,v,eq',m,z,y,t];by_cases hx:c=88
  ·have j:(((c.toNat:Nat):Int) != 88)=false:=by rw [hx];rfl
   rw [j,aq hx];simp only [af,Ix,qB];exact ih
  ·have j:(((c.toNat:Nat):Int) != 88)=true:=by
    simp only [bne,jP,aJ];intro e;exact hx (gD.1 (by show c.toNat=88;omega))
   rw [j,ar hx];simp only [ah,oh];by_cases h:c.toNat=48+w%10
   ·have i:(((c.toNat:Nat):Int) != ((48+w%10:Nat):Int))=false:=by rw [h];simp
    rw [i,aq h];simp only [af,qB];exact ih
   ·have i:(((c.toNat:Nat):Int) != ((48+w%10:Nat):Int))=true:=by
     simp only [bne,jP,aJ];omega
    rw [i,ar h];simp only [ah,yW];rfl
def Fz (d:aa) (k q:Nat):Nat:=if 0<q then 10 ^ (d.length+k - q) else 1
def memP (d:aa) (x s:Int) (w:Nat):Prop:=if hasX d=true then mtk d 4 w=true/\w / 10 ^ 4=0 else val d x.toNat / Fz d x.toNat s.toNat=w / Fz d x.toNat s.toNat
instance (d:aa) (x s:Int) (w:Nat):Decidable (memP d x s w):=by unfold memP;infer_instance
def wOf (g:Bool) (v:Int):Int:=if g then -v else v
def inP (g:Bool) (d:aa) (x s v:Int):Prop:=-10000000000000000<=v/\v<=10000000000000000/\0<=wOf g v/\¬(hasX d=true/\g=true/\wOf g v=0)/\memP d x s (wOf g v).toNat
instance (g:Bool) (d:aa) (x s v:Int):Decidable (inP g d x s v):=by unfold inP;infer_instance
noncomputable def inT (n:Nat) (a0 a1:Bool) (a2:aa) (h g W:Int):Option Int:=
 (ob (aH n a0 a1 a2 h g) λe=>(cond (e==1) (ob (av (bS n) n (W,3,a0,a1,a2,h,g)) λf=>(Sum.casesOn (motive:=λ_=>Option _) f (λc=>(some c)) (λd=>(cond (decide (d>0)) (some 0) (some 1))))) (ob (am n a2 h) λb=>(cond (decide (g>0)) (ob (am n [49] (IntKind.wrap .i64 ((IntKind.wrap .i64 (((List.length a2:Nat):Int)+h)) - g))) λa=>(cond (a.1==0) none (cond (a.1==0) none (cond ((IntKind.wrap .i64 (Int.tdiv b.1 a.1))==(IntKind.wrap .i64 (Int.tdiv W a.1))) (some 1) (some 0))))) (cond ((IntKind.wrap .i64 (Int.tdiv b.1 1))==(IntKind.wrap .i64 (Int.tdiv W 1))) (some 1) (some 0))))))
theorem L6 (a b:Nat):(((a:Nat):Int)==((b:Nat):Int))=decide (a=b):=by
 by_cases h:a=b
 ·subst h;simp
 ·rw [ar h,aJ];omega
theorem IE {d:aa} {x s:Int} {w:Nat} (a:hasX d=true):memP d x s w↔mtk d 4 w=true/\w / 10 ^ 4=0:=by unfold memP;rw [ae a]
theorem RY {d:aa} {x s:Int} {w:Nat} (a:hasX d=false):memP d x s w↔val d x.toNat / Fz d x.toNat s.toNat=w / Fz d x.toNat s.toNat:=by unfold memP;rw [ab (by rw [a];simp)]
theorem in_T (m:Nat) {g l:Bool} {d:aa} {x s:Int} (j:okY g l d x s) (w:Nat) (S:w<=10000000000000000):inT (m+300) g l d x s (w:Int)=some (if memP d x s w then 1 else 0):=by
 have L:=jf j;have J:=pJ (m+300) g l d x s (by omega) (by omega);unfold inT;cases h:hasX d with
 | true=>
  obtain ⟨rfl,rfl,rfl,O,_⟩:=rK j h;have C:=M5 (m+300) g false d 0 0 O 4 w (by omega) (by omega) (m+300) (by omega);have hlp':av (bS (m+300)) (m+300) ((w:Int),3,g,false,d,0,0)=_:=C;have F:((1:Int)==1)=true:=rfl;have n:aH (m+300) g false d 0 0=some 1:=by rw [J,h];rfl
  rw [n];simp only [ob,F,ah,hlp'];by_cases y:mtk d 4 w=true
  ·rw [ae y];by_cases A:w / 10 ^ 4=0
   ·have e:decide (((w / 10 ^ 4:Nat):Int)>0)=false:=ar (by rw [A];decide);rw [ae ((IE h).2 ⟨y,A⟩)];simp only [e,af]
   ·have e:decide (((w / 10 ^ 4:Nat):Int)>0)=true:=aq (by
     generalize w / 10 ^ 4=t at A ⊢;omega)
    rw [ab (λq=>A ((IE h).1 q).2)];simp only [e,ah]
  ·rw [ab y,ab (λq=>y ((IE h).1 q).1)]
 | false=>
  obtain ⟨k,q,rfl,rfl,z⟩:=sR j h;have hw':=z.wide;have hs:=z.small;have R:=z.sig;have G:dval 0 d*10 ^ k=val d k:=rfl;have I:=jD (m+300) d k z.dig (by omega) (by omega) (by omega);rw [ae hs,G] at I;rw [G] at hs;unfold E16 at hs;have D:((0:Int)==1)=false:=rfl;have n:aH (m+300) g l d k q=some 0:=by rw [J,h];rfl
  have c:=RY (x:=(k:Int)) (s:=(q:Int)) (w:=w) h;rw [bY,bY] at c;unfold Fz at c;rw [n];simp only [ob,D,af,I];by_cases H:0<q
  ·have B:decide ((q:Int)>0)=true:=aq (by omega);have w0:IntKind.wrap .i64 (IntKind.wrap .i64 (((d.length:Nat):Int)+(k:Int)) - (q:Int))=((d.length+k - q:Nat):Int):=by
    rw [wrap_i64 (((d.length:Nat):Int)+(k:Int)) (by omega) (by omega),wrap_i64 _ (by omega) (by omega)];omega
   have E:10 ^ (d.length+k - q)<=10 ^ 16:=ll (by decide) (by omega);have P:(10:Nat) ^ 16=10000000000000000:=by decide
   have one:dval 0 [49]=1:=by decide
   have i:dval 0 [49]*10 ^ (d.length+k - q)<=E16:=by rw [one];unfold E16;omega
   have o:=jD (m+300) [49] (d.length+k - q) (by decide) (by decide) (by omega) (by simp;omega);rw [ae i,one,yk] at o;have M:1<=10 ^ (d.length+k - q):=Bz _ _ (by decide);rw [B,w0,o];rw [ae H] at c;clear i o;generalize 10 ^ (d.length+k - q)=u at M E c ⊢;generalize val d k=v at hs c ⊢;have d2:(((u:Nat):Int)==0)=false:=aJ.2 (by omega);have p:Int.tdiv ((v:Nat):Int) ((u:Nat):Int)=((v / u:Nat):Int):=rfl;have r:Int.tdiv ((w:Nat):Int) ((u:Nat):Int)=((w / u:Nat):Int):=rfl;have N:v / u<=v:=Nat.div_le_self v u;have K:w / u<=w:=Nat.div_le_self w u;simp only [ah,d2,af,p,r];generalize v / u=a at N c ⊢;generalize w / u=b at K c ⊢;rw [wrap_i64 _ (by omega) (by omega),wrap_i64 _ (by omega) (by omega),L6];by_cases f:a=b
   ·rw [aq f,ae (c.2 f)];rfl
   ·rw [ar f,ab (λq=>f (c.1 q))];rfl
  ·have B:decide ((q:Int)>0)=false:=ar (by omega);have Q:∀a:Nat,Int.tdiv ((a:Nat):Int) 1=((a:Nat):Int):=λa=>by
    have:Int.tdiv ((a:Nat):Int) 1=((a / 1:Nat):Int):=rfl;rw [this,tU]
   rw [ab H,tU,tU] at c;rw [B];simp only [af,Q];rw [wrap_i64 _ (by omega) (by omega),wrap_i64 _ (by omega) (by omega),L6];by_cases f:val d k=w
   ·rw [aq f,ae (c.2 f)];rfl
   ·rw [ar f,ab (λq=>f (c.1 q))];rfl
theorem Vr (m:Nat) {g l:Bool} {d:aa} {x s:Int} (k:okY g l d x s) (v:Int):nj (m+300) g l d x s v=some (if inP g d x s v then 1 else 0):=by
 have y:=jf k;have b:=λw o=>in_T m k w o;have p:=pJ (m+300) g l d x s (by omega) (by omega);unfold inT at b;unfold nj;by_cases u:v < -10000000000000000
 ·rw [aq u,ab (λq=>by have:=q.1;omega)];rfl
 ·rw [ar u,af];by_cases t:v>10000000000000000
  ·rw [aq t,ab (λq=>by have:=q.2.1;omega)];rfl
  ·rw [ar t,af];cases g with
   | true=>
    have w0:IntKind.wrap .i64 (0 - v)=-v:=by rw [wrap_i64 _ (by omega) (by omega)];omega
    simp only [ah,w0];by_cases n:-v<0
    ·rw [aq n,ab (λq=>by have:=q.2.2.1;unfold wOf at this;simp only [aM] at this;omega)];rfl
    ·rw [ar n,af];obtain ⟨w,o⟩:∃w:Nat,-v=(w:Int):=⟨(-v).toNat,by omega⟩;have b:=b w (by omega);have h:wOf true v=(w:Int):=by unfold wOf;simpa using o
     have c:¬(hasX d=true/\w=0)->(inP true d x s v↔memP d x s w):=by
      intro r;unfold inP;rw [h,bY];constructor
      ·exact λq=>q.2.2.2.2
      ·exact λq=>⟨by omega,by omega,by omega,λq=>r ⟨q.1,by omega⟩,q⟩
     rw [o];cases i:hasX d with
     | true=>
      have a:aH (m+300) true l d x s=some 1:=by rw [p,i];rfl
      rw [a];have f:((1:Int)==1)=true:=rfl;simp only [ob,f,ah];by_cases r:w=0
      ·have e:(((w:Nat):Int)==0)=true:=bp.2 (by omega);rw [e,ab (λq=>q.2.2.2.1 ⟨i,rfl,by rw [h];omega⟩)];rfl
      ·have e:(((w:Nat):Int)==0)=false:=aJ.2 (by omega);rw [a] at b;simp only [ob,f,ah] at b;rw [e,af,b];have:=c (λq=>r q.2);by_cases hp:memP d x s w
       ·rw [ae hp,ae (this.2 hp)]
       ·rw [ab hp,ab (λq=>hp (this.1 q))]
     | false=>
      have a:aH (m+300) true l d x s=some 0:=by rw [p,i];rfl
      have j:((0:Int)==1)=false:=rfl;rw [a] at b ⊢;simp only [ob,j,af] at b ⊢;rw [b];have:=c (λq=>by rw [i] at q;cases q.1);by_cases hp:memP d x s w
      ·rw [ae hp,ae (this.2 hp)]
      ·rw [ab hp,ab (λq=>hp (this.1 q))]
   | false=>
    simp only [af];by_cases n:v<0
    ·rw [aq n,ab (λq=>by have:=q.2.2.1;unfold wOf at this;simp only [bs,aG] at this;omega)];rfl
    ·rw [ar n,af];obtain ⟨w,rfl⟩:∃w:Nat,v=(w:Int):=⟨v.toNat,by omega⟩;have b:=b w (by omega);have h:wOf false (w:Int)=(w:Int):=rfl;have c:inP false d x s (w:Int)↔memP d x s w:=by
      unfold inP;rw [h,bY];constructor
      ·exact λq=>q.2.2.2.2
      ·exact λq=>⟨by omega,by omega,by omega,λq=>(by cases q.2.1),q⟩
     cases i:hasX d with
     | true=>
      have a:aH (m+300) false l d x s=some 1:=by rw [p,i];rfl
      rw [a] at b ⊢;have f:((1:Int)==1)=true:=rfl;simp only [ob,f,ah] at b ⊢;rw [b];by_cases hp:memP d x s w
      ·rw [ae hp,ae (c.2 hp)]
      ·rw [ab hp,ab (λq=>hp (c.1 q))]
     | false=>
      have a:aH (m+300) false l d x s=some 0:=by rw [p,i];rfl
      rw [a] at b ⊢;have j:((0:Int)==1)=false:=rfl;simp only [ob,j,af] at b ⊢;rw [b];by_cases hp:memP d x s w
      ·rw [ae hp,ae (c.2 hp)]
      ·rw [ab hp,ab (λq=>hp (c.1 q))]
def loK (d:aa) (k:Nat):Nat:=dval 0 ((eO 48 d).take k)
def hiK (d:aa) (k:Nat):Nat:=dval 0 ((eO 57 d).take k)
theorem xw (z:UInt8) {d:aa} {k:Nat} {c:UInt8} (h:d[k]?=some c):dval 0 ((eO z d).take (k+1))=dval 0 ((eO z d).take k)*10+((if c=88 then z else c).toNat - 48):=by
 rw [Vf (yz h),IG]
theorem D2 (d:aa) (i:d.length=4) (h:∀c∈d,bg c=true\/c=88):∀(k w:Nat),k<=4->w<10 ^ k->mtk d k w=true->loK d k<=w/\w<=hiK d k
 | 0,w,j,b,a=>by
  simp at b;subst b;simp [loK,hiK,qm]
 | k+1,w,j,b,a=>by
  obtain ⟨c,hc⟩:∃c,d[k]?=some c:=⟨d[k],aW (by omega)⟩;rw [CQ,B9 hc,aD,gX,cr,cr] at a;have hp:(10:Nat) ^ (k+1)=10 ^ k*10:=tK 10 k;have ih:=D2 d i h k (w / 10) (by omega) (by omega) a.2;have g:=xw 48 hc;have e:=xw 57 hc;unfold loK hiK at ih ⊢;rw [g,e];by_cases hx:c=88
  ·rw [ae hx,ae hx];have l:(48:UInt8).toNat - 48=0:=rfl;have f:(57:UInt8).toNat - 48=9:=rfl;rw [l,f];omega
  ·rw [ab hx,ab hx];have:=a.1.resolve_left hx;omega
theorem AI (z:UInt8) (h:bg z=true) (d:aa) (l:d.length=4) (f:∀c∈d,bg c=true\/c=88):∀k,k<=4->mtk d k (dval 0 ((eO z d).take k))=true
 | 0,_=>rfl
 | k+1,n=>by
  obtain ⟨c,hc⟩:∃c,d[k]?=some c:=⟨d[k],aW (by omega)⟩;have ih:=AI z h d l f k (by omega);have e:bg (if c=88 then z else c)=true:=by
   by_cases hx:c=88
   ·rw [ae hx];exact h
   ·rw [ab hx];exact (f c (eW hc)).resolve_right hx
  have i:=(cb _).1 e;rw [CQ,B9 hc,xw z hc];generalize g:(if c=88 then z else c)=b at i ⊢;generalize dval 0 ((eO z d).take k)=a at ih ⊢;have m:(a*10+(b.toNat - 48)) / 10=a:=by omega
  have j:(a*10+(b.toNat - 48))%10=b.toNat - 48:=by omega
  rw [m,j,ih,DU];by_cases hx:c=88
  ·rw [aq hx];rfl
  ·rw [ab hx] at g;rw [g,aq (show b.toNat=48+(b.toNat - 48) by omega),Bool.or_true]
def Az:List (aa):=[[48,48,48,88],[48,48,88,48],[48,48,88,88],[48,88,48,48],[48,88,48,88],[48,88,88,48],[48,88,88,88],[88,48,48,48],[88,48,48,88],[88,48,88,48],[88,48,88,88],[88,88,48,48],[88,88,48,88],[88,88,88,48],[88,88,88,88]]
theorem Yr:Az.all (λd=>mtk d 4 (uD d)&&decide (1<=uD d)&&decide (uD d<=1000)&&(List.range 1000).all (λw=>decide (w=0)||!mtk d 4 w||decide (uD d<=w)))=true:=by decide +kernel
theorem E6 {d:aa} (g:d∈Az):mtk d 4 (uD d)=true/\1<=uD d/\uD d<=1000/\∀w,1<=w->mtk d 4 w=true->uD d<=w:=by
 have h:=bW.1 Yr d g;simp only [aD,cr,bW,jp,gX,jP] at h;obtain ⟨⟨⟨f,e⟩,i⟩,j⟩:=h;refine ⟨f,e,i,λw k c=>?_⟩;rcases aI w 1000 with a | b
 ·rcases j w a with (h | h) | h
  ·omega
  ·rw [c] at h;cases h
  ·exact h
 ·omega
theorem DX {d:aa} (a:d.length=4) (f:∀c∈d,bg c=true\/c=88) (e:hasX d=true) (b:dval 0 (eO 48 d)=0):d∈Az:=
 zY a (Ef a f b) e (λd=>d∈Az) (by decide) (by decide) (by decide) (by decide) (by decide) (by decide) (by decide) (by decide) (by decide) (by decide) (by decide) (by decide) (by decide) (by decide) (by decide)
theorem Ug {d:aa} (a:d.length=4):loK d 4=dval 0 (eO 48 d):=by
 unfold loK;rw [jB (by rw [js];omega)]
theorem Uf {d:aa} (a:d.length=4):hiK d 4=dval 0 (eO 57 d):=by
 unfold hiK;rw [jB (by rw [js];omega)]
theorem PK {g:Bool} {d:aa} (b:d.length=4) (e:∀c∈d,bg c=true\/c=88) (q:hasX d=true):
  (kN g d).1<10000/\(kN g d).2<10000/\mtk d 4 (kN g d).1=true/\mtk d 4 (kN g d).2=true/\1<=(kN g d).2/\(g=true->1<=(kN g d).1)/\∀w,w<10000->mtk d 4 w=true->(g=true->1<=w)->(kN g d).1<=w/\w<=(kN g d).2:=by
 have r:(10:Nat) ^ 4=10000:=by decide
 have n:=rn (z:=48) (by decide) e;have o:=rn (z:=57) (by decide) e;have b1:=re (eO 48 d) 0 0 n (by simp);have b2:=re (eO 57 d) 0 0 o (by simp);rw [js,b,cH,r] at b1 b2;have m1:=AI 48 (by decide) d b e 4 (by omega);have m2:=AI 57 (by decide) d b e 4 (by omega);rw [jB (by rw [js];omega)] at m1 m2;have l:∀w,w<10000->mtk d 4 w=true->dval 0 (eO 48 d)<=w/\w<=dval 0 (eO 57 d):=λw k i=>by
  have:=D2 d b e 4 w (by omega) (by omega) i;rw [Ug b,Uf b] at this;exact this
 have j:1<=dval 0 (eO 57 d):=by
  rcases AD (dval 0 (eO 57 d)) with h | h
  ·exfalso;have f:dval 0 (eO 48 d)=0:=by
    have:=(l _ b1 m1).2;omega
   have p:=DX b e q f;have a:=E6 p;have:=(l _ (by omega) a.1).2;omega
  ·exact h
 unfold kN;by_cases f:g=true/\dval 0 (eO 48 d)=0
 ·rw [ae f];have a:=E6 (DX b e q f.2);refine ⟨by simp only;omega,b2,a.1,m2,j,λ_=>a.2.1,λw k i m=>⟨a.2.2.2 w (m f.1) i,(l w k i).2⟩⟩
 ·rw [ab f];refine ⟨b1,b2,m1,m2,j,λm=>?_,λw k i m=>l w k i⟩;simp only;rcases AD (dval 0 (eO 48 d)) with h | h
  ·exact absurd ⟨m,h⟩ f
  ·exact h
theorem Qd {g l:Bool} {d:aa} {x s:Int} (c:okY g l d x s):(n7 g d x s).1<=10000000000000000/\(n7 g d x s).2<=10000000000000000/\memP d x s (n7 g d x s).1/\memP d x s (n7 g d x s).2/\(hasX d=true->1<=(n7 g d x s).2/\(g=true->1<=(n7 g d x s).1))/\
  ∀w,w<=10000000000000000->memP d x s w->(hasX d=true->g=true->1<=w)->(n7 g d x s).1<=w/\w<=(n7 g d x s).2:=by
 unfold n7 memP;cases n:hasX d with
 | true=>
  obtain ⟨rfl,rfl,rfl,L,J⟩:=rK c n;obtain ⟨D,O,F,K,C,N,G⟩:=PK (g:=g) L J n;have H:(10:Nat) ^ 4=10000:=by decide
  simp only [aM,H];refine ⟨by omega,by omega,⟨F,Nat.div_eq_of_lt D⟩,⟨K,Nat.div_eq_of_lt O⟩,λ_=>⟨C,N⟩,λw y m M=>G w (by omega) m.1 (M trivial)⟩
 | false=>
  obtain ⟨k,q,rfl,rfl,A⟩:=sR c n;have hs:=A.small;have I:dval 0 d*10 ^ k=val d k:=rfl;rw [I] at hs;obtain ⟨e,i,b⟩:=Tt A;unfold E16 at b;simp only [bs,aG,bY];unfold Fz;unfold Be at e i b ⊢;by_cases j:0<q
  ·rw [ae j] at e i b ⊢;rw [ae j];have z:1<=10 ^ (d.length+k - q):=Bz _ _ (by decide);generalize 10 ^ (d.length+k - q)=u at *;generalize val d k=v at *;simp only at e i b ⊢;have f:v / u*u / u=v / u:=Nat.mul_div_cancel _ z;have o:∀w,v / u*u<=w->w<v / u*u+u->w / u=v / u:=by
    intro w t p;apply Nat.div_eq_of_lt_le
    ·exact t
    ·rw [AH];exact p
   have a:∀w,v / u=w / u->v / u*u<=w/\w<v / u*u+u:=by
    intro w h;rw [h];have t:=Gv w u;have p:=Nat.div_add_mod w u;have P:=rB w z;rw [va] at p;omega
   have B:min (v / u*u+u - 1) E16<=v / u*u+u - 1:=Nat.min_le_left _ _;have r:=a v rfl;refine ⟨by omega,b,f.symm,(o _ (by omega) (by omega)).symm,λq=>(by cases q),λw y m _=>?_⟩;obtain ⟨E,Q⟩:=a w m;refine ⟨E,?_⟩;rw [Nat.le_min];unfold E16;omega
  ·rw [ab j] at e i b ⊢;rw [ab j];simp only [tU] at e i b ⊢;refine ⟨b,b,trivial,trivial,λq=>(by cases q),λw y m _=>by omega⟩
theorem F3 {g l:Bool} {d:aa} {x s:Int} (f:okY g l d x s):inP g d x s (sgn g (n7 g d x s)).1/\inP g d x s (sgn g (n7 g d x s)).2/\∀v,inP g d x s v->(sgn g (n7 g d x s)).1<=v/\v<=(sgn g (n7 g d x s)).2:=by
 obtain ⟨k,t,m,o,i,r⟩:=Qd f;generalize n7 g d x s=A at *;obtain ⟨lo,hi⟩:=A;simp only at k t m o i r;cases g with
 | true=>
  have b:∀a:Nat,wOf true (-(a:Int))=(a:Int):=λa=>by unfold wOf;simp
  have mk:∀a:Nat,a<=10000000000000000->memP d x s a->(hasX d=true->1<=a)->inP true d x s (-(a:Int)):=by
   intro a z p C;refine ⟨by omega,by omega,by rw [b];omega,λq=>?_,by rw [b,bY];exact p⟩;have:=C q.1;have B:=q.2.2;rw [b] at B;omega
  simp only [sgn,aM];refine ⟨mk hi t o (λh=>(i h).1),mk lo k m (λh=>(i h).2 rfl),λv n=>?_⟩;obtain ⟨y,D,u,w,c⟩:=n;have j:wOf true v=-v:=rfl;rw [j] at u w c
  have:=r (-v).toNat (by omega) c (λhx _=>by
   have:¬-v=0:=λe=>w ⟨hx,rfl,e⟩;omega)
  omega
 | false=>
  have b:∀a:Int,wOf false a=a:=λa=>rfl;have mk:∀a:Nat,a<=10000000000000000->memP d x s a->inP false d x s (a:Int):=by
   intro a z p;exact ⟨by omega,by omega,by rw [b];omega,λq=>(by cases q.2.1),by rw [b,bY];exact p⟩
  simp only [sgn,bs,aG];refine ⟨mk lo k m,mk hi t o,λv n=>?_⟩;obtain ⟨y,D,u,w,c⟩:=n;rw [b] at u c;have:=r v.toNat (by omega) c (λ_ q=>by cases q);omega
end Go.Sh
namespace Go.Sh.Mk
open Go.Abs
def okB (c:UInt8):Bool:=c.toNat==88||(decide (48<=c.toNat)&&decide (c.toNat<=57))
def chk (s:aa):Int:=if 18<s.length then 3 else if s.all okB then (if s=[] then 5 else 0) else 5
theorem vY (n:Nat) (s0 s:aa) (r:s.length+1<n):
  av (iV n) n (s0,s,0)=some (if s.all okB then .inr s0 else .inl 5):=by
 have:=fQ (step:=iV n) (λx=>x.1=s0/\x.2.1=s/\x.2.2<=s.length) (λx=>s.length - x.2.2)
  (λx=>if (s.drop x.2.2).all okB then .inr s0 else .inl 5) ?_ n (s0,s,0) ⟨rfl,rfl,ie _⟩ (by simp;omega)
 ·simpa using this
 rintro ⟨a,b,i⟩ ⟨rfl,rfl,hi⟩;simp only at hi ⊢;rcases aI i b.length with g | m
 ·obtain ⟨c,hc⟩:∃c,b[i]?=some c:=⟨b[i],aW g⟩;have o:Nat.blt i b.length=true:=dm g;rw [ct hc,mU];simp only [iV,o,ah];by_cases k:c.toNat<128
  ·rw [Bf hc k];by_cases l:c.toNat=88
   ·refine .inl ⟨(a,b,i+1),by simp [l],⟨rfl,rfl,by simp only;omega⟩,by simp only;omega,?_⟩;simp [okB,l]
   ·by_cases p:c.toNat<48
    ·refine .inr ?_;have f:(((c.toNat:Nat):Int) != 88)=true:=by simp;omega
     have d:(decide (((c.toNat:Nat):Int)<48))=true:=by simp;omega
     have e:okB c=false:=by simp [okB];omega
     simp [f,d,e]
    ·by_cases q:57<c.toNat
     ·refine .inr ?_;have f:(((c.toNat:Nat):Int) != 88)=true:=by simp;omega
      have d:(decide (((c.toNat:Nat):Int)<48))=false:=by simp;omega
      have j:(decide (((c.toNat:Nat):Int)>57))=true:=by simp;omega
      have e:okB c=false:=by simp [okB];omega
      simp [f,d,e,j]
     ·have f:(((c.toNat:Nat):Int) != 88)=true:=by simp;omega
      have d:(decide (((c.toNat:Nat):Int)<48))=false:=by simp;omega
      have j:(decide (((c.toNat:Nat):Int)>57))=false:=by simp;omega
      have e:okB c=true:=by simp [okB];omega
      refine .inl ⟨(a,b,i+1),by simp only [f,d,j,ah,af],⟨rfl,rfl,by simp only;omega⟩,by simp only;omega,?_⟩;simp [e]
  ·obtain ⟨u,t⟩:=Im hc (by omega);refine .inr ?_;have f:((((dec b i).1:Nat):Int) != 88)=true:=by simp;omega
   have d:(decide ((((dec b i).1:Nat):Int)<48))=false:=by simp;omega
   have j:(decide ((((dec b i).1:Nat):Int)>57))=true:=by simp;omega
   have e:okB c=false:=by simp [okB];omega
   simp [f,d,e,j]
 ·have o:Nat.blt i b.length=false:=by
   cases h:Nat.blt i b.length with
   | false=>rfl
   | true=>have:i<b.length:=aN h;omega
  refine .inr ?_;simp only [iV,o,af];rw [jk m];rfl
theorem l6 (n:Nat) (s:aa) (b:30<=n):ky n s=some (chk s):=by
 unfold ky chk;by_cases h:18<s.length
 ·have:(decide (((List.length s:Nat):Int)>18))=true:=by simp;omega
  simp [this,h]
 ·have e:(decide (((List.length s:Nat):Int)>18))=false:=by simp;omega
  simp only [e,af,h,aG];rw [vY n s s (by omega)];by_cases a:s.all okB=true
  ·simp only [a,aM,ob];by_cases hs:s=[]
   ·simp [hs]
   ·have:(s==([]:aa))=false:=by simpa using hs
    simp [this,hs]
  ·simp [a,ob]
theorem n6 {s:aa} (h:chk s=0):s.length<=18/\s≠[]/\∀c∈s,okB c=true:=by
 unfold chk at h;split at h
 ·simp at h
 ·split at h
  ·rename_i a;split at h
   ·simp at h
   ·rename_i hs;exact ⟨by omega,hs,by simpa using a⟩
  ·simp at h
def nums (l:aa):List Int:=l.map λb=>((b.toNat:Nat):Int)
def over (d:List Int) (i:Nat) (l:List Int):List Int:=d.take i++(l++d.drop (i+l.length))
theorem AN (d:List Int) (i:Nat) (x:Int) (l:List Int) (h:i<d.length):over (d.set i x) (i+1) l=over d i (x::l):=by
 unfold over;rw [show (d.set i x).take (i+1)=d.take i++[x] from by
  rw [Lx (by simpa using h)];simp [List.take_set_of_le]]
 rw [List.drop_set_of_lt (by omega)];simp [gq,oG 1]
theorem G1 (d:List Int) (i:Nat):over d i []=d:=by simp [over]
theorem O2 (d:List Int) (i:Nat) (l:List Int) (h:i+l.length<=d.length):(over d i l).length=d.length:=by
 unfold over;simp;omega
theorem QZ {x y:UInt8}:(((x.toNat:Nat):Int)==((y.toNat:Nat):Int))=decide (x=y):=by
 by_cases h:x=y
 ·simp [h]
 ·have:x.toNat≠y.toNat:=λe=>h (gD.1 e);simp [h];omega
theorem Cd {x:UInt8}:(((x.toNat:Nat):Int)==88)=decide (x=88):=by
 have:=QZ (x:=x) (y:=88);simpa using this
def dg:Nat->Int->List Int
 | 0,_=>[]
 | L+1,k=>dg L (k / 10)++[48+k%10]
theorem yj:∀(L:Nat) (k:Int),(dg L k).length=L
 | 0,_=>rfl
 | L+1,k=>by simp [dg,yj L]
theorem tW:∀(L:Nat) (k:Int),∀x∈dg L k,48<=x/\x<58
 | 0,_,x,h=>by simp [dg] at h
 | L+1,k,x,h=>by
  simp only [dg,lk,lG] at h;rcases h with h | rfl
  ·exact tW L _ x h
  ·omega
def jE:aa->List Int->Bool
 | c::m,d::l=>(c==88||decide (((c.toNat:Nat):Int)=d))&&jE m l
 | _,_=>true
theorem vJ:∀{a c:aa} {b d:List Int},a.length=b.length->jE (a++c) (b++d)=(jE a b&&jE c d)
 | [],c,[],d,_=>by simp [jE]
 | x::a,c,y::b,d,h=>by
  simp only [aV,yg] at h;simp only [eK,jE,vJ h,Bool.and_assoc]
def hasM (m:aa) (k:Int):Bool:=decide (0<=k)&&(decide (k<10 ^ m.length)&&jE m (dg m.length k))
theorem OY (L:Nat) (h:L<=18):pV 20000000 ((L:Nat):Int)=some (10 ^ L):=by
 have b:allN (λi=>match pV 20000000 ((i:Nat):Int) with | some r=>decide (r=10 ^ i) | none=>false) 19=true:=by kernel_rfl
 have:=FH b L (by omega);split at this
 ·rename_i r a;rw [a];simpa using this
 ·cases this
theorem EI (L:Nat) (h:L<=18):(10:Int) ^ L<=1000000000000000000:=by
 have a:allN (λi=>decide ((10:Int) ^ i<=1000000000000000000)) 19=true:=by kernel_rfl
 simpa using FH a L (by omega)
theorem Vx {k:Int} (h:0<=k):Int.tmod k 10=k%10:=Oy h
theorem VX {k:Int} (h:0<=k):Int.tdiv k 10=k / 10:=Sv h
theorem JJ (k:Int) (i:Nat) (d:List Int) (a:0<=k) (c:k<9223372036854775808) (hi:i<=18) (b:d.length=18):
  av (iW 20000000) 20000000 (k,(i:Int) - 1,d)=some (over d 0 (dg i k)):=by
 have:=fQ (step:=iW 20000000) (λx=>(0<=x.1/\x.1<9223372036854775808)/\(-1<=x.2.1/\x.2.1<=17)/\x.2.2.length=18) (λx=>(x.2.1+1).toNat)
  (λx=>over x.2.2 0 (dg (x.2.1+1).toNat x.1)) ?_ 20000000 (k,(i:Int) - 1,d) ⟨⟨a,c⟩,⟨by simp only;omega,by simp only;omega⟩,b⟩ (by simp only;omega)
 ·simpa using this
 rintro ⟨k,i,d⟩ ⟨⟨a,c⟩,⟨m,q⟩,b⟩;simp only at a c m q b ⊢;by_cases hi:0<=i
 ·obtain ⟨j,rfl⟩:∃j:Nat,i=j:=⟨i.toNat,by omega⟩;have f:j<18:=by omega
  have e:decide ((j:Int)>=0)=true:=by simp
  have n:Nat.blt j 18=true:=dm f;have g:IntKind.wrap .i64 ((j:Int) - 1)=(j:Int) - 1:=wrap_i64 _ (by omega) (by omega);have p:IntKind.wrap .i64 (Int.tdiv k 10)=k / 10:=by rw [VX a];exact wrap_i64 _ (by omega) (by omega)
  have o:IntKind.wrap .u8 (IntKind.wrap .i64 (48+Int.tmod k 10))=48+k%10:=by rw [Vx a,wrap_i64 _ (by omega) (by omega),fL _ (by omega) (by omega)]
  refine .inl ⟨(k / 10,(j:Int) - 1,d.set j (48+k%10)),by simp only [iW,e,ah,dD f,ob,n,g,p,o],⟨⟨by simp only;omega,by simp only;omega⟩,⟨by simp only;omega,by simp only;omega⟩,by simpa using b⟩,by simp only;omega,?_⟩;have l:((j:Int) - 1+1).toNat=j:=by omega
  have h:((j:Int)+1).toNat=j+1:=by omega
  simp only [l,h,over,oC,dW,yj,cX,dg,fE];congr 1;rw [List.drop_set,ab (by omega),Nat.sub_self,pE (by omega)];simp only [List.set_cons_zero,bv,yj,aV,cG,eK,dW,cX]
 ·have e:decide (i>=0)=false:=by simp;omega
  have s:(i+1).toNat=0:=by omega
  refine .inr ?_;simp only [iW,e,af,s,dg,G1]
theorem Pe (m:aa) (k:Int) (c:m.length<=18) (a:0<=k) (b:k<9223372036854775808):
  lH 20000000 m k=some (over [0,0,0,0,0,0,0,0,0,0,0,0,0,0,0,0,0,0] 0 (dg m.length k)):=by
 have w:IntKind.wrap .i64 (((List.length m:Nat):Int) - 1)=(m.length:Int) - 1:=wrap_i64 _ (by omega) (by omega);simp only [lH,w,JJ k m.length [0,0,0,0,0,0,0,0,0,0,0,0,0,0,0,0,0,0] a b c (by rfl),ob]
theorem wh {d l:List Int} {i:Nat} (h:i<l.length):(over d 0 l)[i]?=l[i]?:=by
 unfold over;simp only [oC,dW];rw [nT h]
theorem zy:∀(l:List Int),(∀x∈l,0<=x/\x<256)->nums (iN l)=l
 | [],_=>rfl
 | x::l,h=>by
  have ih:=zy l λy hy=>h y (fN _ hy);obtain ⟨a,c⟩:=h x (by simp);have e:(((UInt8.ofNat x.toNat).toNat:Nat):Int)=x:=by
   rw [FB,ra (by omega)];omega
  simp only [nums,iN,uW] at ih ⊢;simp only [fW,Function.comp,e];rw [show List.map ((λb:UInt8=>((b.toNat:Nat):Int)) ∘ λn:Int=>UInt8.ofNat n.toNat) l=l from ih]
theorem QO (l:aa):(nums l).length=l.length:=by simp [nums]
def cnt:aa->Nat
 | []=>0
 | c::r=>if c=88 then cnt r+1 else cnt r
def dv (c:UInt8):Int:=((c.toNat:Nat):Int) - 48
def nth:aa->Int->Int
 | [],_=>0
 | c::r,i=>if c=88 then 10*nth r (i / 10)+i%10 else 10*nth r i+dv c
def ag:aa->Int->Bool
 | [],_=>true
 | c::r,k=>ag r (k / 10)&&(decide (c=88)||decide (dv c=k%10))
def idx:aa->Int->Int
 | [],_=>0
 | c::r,k=>if c=88 then 10*idx r (k / 10)+k%10 else idx r (k / 10)
def okR (r:aa):Prop:=∀c∈r,c=88\/(0<=dv c/\dv c<10)
theorem zk {m:aa} (h:∀c∈m,okB c=true):okR m.reverse:=by
 intro c hc;have:=h c (GB.1 hc);simp only [okB,gX,bp,aD,cr] at this;rcases this with h | h
 ·exact .inl (gD.1 (by simpa using h))
 ·exact .inr (by unfold dv;omega)
theorem rU {c:UInt8} {r:aa} (h:okR (c::r)):okR r:=λx hx=>h x (fN _ hx)
theorem i6 (n:Nat):(10:Int) ^ (n+1)=10*10 ^ n:=by rw [Int.pow_succ,zL]
theorem uI (n:Nat):(0:Int)<10 ^ n:=Int.pow_pos (by omega)
theorem qP:∀{r:aa},okR r->∀i,0<=i->0<=nth r i/\nth r i<10 ^ r.length
 | [],_,i,_=>by simp [nth]
 | c::r,h,i,hi=>by
  simp only [nth,aV,i6];split
  ·have:=qP (rU h) (i / 10) (by omega);omega
  ·rename_i hc;have:=qP (rU h) i hi;have:=(h c (by simp)).resolve_left hc;omega
theorem Nx:∀{r:aa},okR r->∀i,0<=i->ag r (nth r i)=true
 | [],_,_,_=>rfl
 | c::r,h,i,hi=>by
  simp only [nth,ag];split
  ·rename_i hc;have e:(10*nth r (i / 10)+i%10) / 10=nth r (i / 10):=by omega
   rw [e,Nx (rU h) (i / 10) (by omega)];simp [hc]
  ·rename_i hc;have b:=(h c (by simp)).resolve_left hc;have e:(10*nth r i+dv c) / 10=nth r i:=by omega
   have a:(10*nth r i+dv c)%10=dv c:=by omega
   rw [e,a,Nx (rU h) i hi];simp
theorem xp:∀(r:aa) (k:Int),0<=k->0<=idx r k/\idx r k<10 ^ cnt r
 | [],k,_=>by simp [idx,cnt]
 | c::r,k,a=>by
  have:=xp r (k / 10) (by omega);simp only [idx,cnt];split
  ·rw [i6];omega
  ·exact this
theorem Lq:∀{r:aa} {k:Int},0<=k->k<10 ^ r.length->ag r k=true->nth r (idx r k)=k
 | [],k,d,b,_=>by simp at b;simp [nth];omega
 | c::r,k,d,b,a=>by
  simp only [ag,aD,gX,cr] at a;rw [aV,i6] at b;have ih:=Lq (r:=r) (k:=k / 10) (by omega) (by omega) a.1;simp only [nth,idx];split
  ·have:=xp r (k / 10) (by omega);have e:(10*idx r (k / 10)+k%10) / 10=idx r (k / 10):=by omega
   have f:(10*idx r (k / 10)+k%10)%10=k%10:=by omega
   rw [e,f,ih];omega
  ·rename_i hc;rw [ih];have:=a.2.resolve_left hc;omega
theorem BG:∀{r:aa},okR r->∀i j,0<=i->i<j->j<10 ^ cnt r->nth r i<nth r j
 | [],_,i,j,b,d,a=>by simp [cnt] at a;omega
 | c::r,h,i,j,b,d,a=>by
  simp only [nth,cnt] at a ⊢;split
  ·rename_i hc;rw [ae hc,i6] at a;by_cases e:i / 10=j / 10
   ·rw [e];omega
   ·have:=BG (rU h) (i / 10) (j / 10) (by omega) (by omega) (by omega);omega
  ·rename_i hc;rw [ab hc] at a;have:=BG (rU h) i j b d a;omega
theorem H8:∀(r:aa),∀k,jE r.reverse (dg r.length k)=ag r k
 | [],k=>rfl
 | c::r,k=>by
  simp only [List.reverse_cons,aV,dg,ag];rw [vJ (by rw [vf,yj]),H8 r];have b:decide (((c.toNat:Nat):Int)=48+k%10)=decide (dv c=k%10):=nV.2 (by unfold dv;omega);have a:(c==88)=decide (c=88):=by by_cases h:c=88<;>simp [h]
  simp only [jE,DU,b,a]
theorem FK (m:aa) (k:Int):hasM m k=(decide (0<=k)&&(decide (k<10 ^ m.length)&&ag m.reverse k)):=by
 have:=H8 m.reverse k;rw [yP,vf] at this;unfold hasM;rw [this]
theorem xd:∀(m:aa),cnt m=m.count 88
 | []=>rfl
 | c::m=>by
  simp only [cnt,xd m,List.count_cons];by_cases h:c=88<;>simp [h]
theorem tn (m:aa):cnt m.reverse=cnt m:=by rw [xd,xd,List.count_reverse]
theorem LS:∀(m:aa),cnt m<=m.length
 | []=>by simp [cnt]
 | c::m=>by
  have:=LS m;simp only [cnt,aV];split<;>omega
def fd (x y:Int):Int:=(if y=88 then x else y) - 48
def fval (x:Int) (l:List Int):Int:=l.foldl (λn y=>10*n+fd x y) 0
theorem AZ (x:Int):∀(l:List Int) (n:Int),l.foldl (λn y=>10*n+fd x y) n=n*10 ^ l.length+fval x l
 | [],n=>by simp [fval]
 | y::l,n=>by
  have e:=AZ x l (10*n+fd x y);have a:=AZ x l (10*0+fd x y);simp only [fval,vP,aV,i6] at e a ⊢;rw [e,a,Int.add_mul,Int.add_mul];have:10*n*10 ^ l.length=n*(10*10 ^ l.length):=by rw [zL 10 n,Int.mul_assoc]
  omega
theorem yK (s:aa) (x:Int) (D:s.length<=18) (hs:∀c∈s,0<=fd x ((c.toNat:Nat):Int)/\fd x ((c.toNat:Nat):Int)<10):mz 20000000 s x=some (fval x (nums s)):=by
 have hs':∀y∈nums s,0<=fd x y/\fd x y<10:=by
  intro y hy;obtain ⟨c,hc,rfl⟩:=ek.1 hy;exact hs c hc
 have B:(nums s).length=s.length:=QO s;have:=fQ (step:=gW 20000000)
  (λst=>st.1=x/\st.2.2.1=((s.length:Nat):Int)/\st.2.2.2.2=nums s/\(0<=st.2.2.2.1/\st.2.2.2.1<=s.length)/\0<=st.2.1/\st.2.1<10 ^ st.2.2.2.1.toNat) (λst=>s.length - st.2.2.2.1.toNat)
  (λst=>((nums s).drop st.2.2.2.1.toNat).foldl (λn y=>10*n+fd x y) st.2.1) ?_ 20000000 (x,0,((s.length:Nat):Int),0,nums s) ⟨rfl,rfl,rfl,⟨by simp,by simp⟩,by simp,by simp⟩ (by simp;omega)
 ·show (ob (av (gW 20000000) 20000000 (x,0,((List.length (nums s):Nat):Int),0,nums s)) λk=>some k)=_;rw [B,this];rfl
 rintro ⟨b,n,len,i,l⟩ ⟨m,o,p,⟨C,hi⟩,A,q⟩;simp only at m o p C hi A q ⊢;subst m o p;obtain ⟨j,rfl⟩:∃j:Nat,i=j:=⟨i.toNat,by omega⟩;simp only [bY] at q ⊢;rcases aI j s.length with v | w
 ·obtain ⟨y,hy⟩:∃c,(nums s)[j]?=some c:=⟨(nums s)[j]'(by omega),aW (by omega)⟩;obtain ⟨d0,d⟩:=hs' y (eW hy);have e:(decide ((j:Int)<((s.length:Nat):Int)))=true:=by simp;omega
  have u:IntKind.wrap .i64 ((j:Int)+1)=((j+1:Nat):Int):=by rw [wrap_i64 _ (by omega) (by omega)];omega
  have f:=EI (j+1) (by omega);rw [i6] at f;have t:IntKind.wrap .i64 (10*n)=10*n:=wrap_i64 _ (by omega) (by omega);have r:∀z:Int,0<=z->z<10->IntKind.wrap .i64 (10*n+IntKind.wrap .i64 (IntKind.wrap .u8 z))=10*n+z:=λz E z1=>by
   rw [fL z (by omega) (by omega),wrap_i64 z (by omega) (by omega),wrap_i64 _ (by omega) (by omega)]
  rw [ct hy,vP];simp only [gW,e,ah,dD (show j<(nums s).length by omega),ob,hy,u,t];have next:0<=10*n+fd b y/\10*n+fd b y<10 ^ (j+1):=by rw [i6];omega
  by_cases a:y=88
  ·have h:(y==88)=true:=by simpa using a
   have g:fd b y=b - 48:=by simp [fd,a]
   rw [g] at d0 d next ⊢;refine .inl ⟨(b,10*n+(b - 48),((s.length:Nat):Int),((j+1:Nat):Int),nums s),by simp only [h,ah,r _ d0 d],⟨rfl,rfl,rfl,⟨by simp only;omega,by simp only;omega⟩,next.1,by simpa only [bY] using next.2⟩,by simp only [bY];omega,by simp only [bY]⟩
  ·have h:(y==88)=false:=by simpa using a
   have g:fd b y=y - 48:=by simp [fd,a]
   rw [g] at d0 d next ⊢;refine .inl ⟨(b,10*n+(y - 48),((s.length:Nat):Int),((j+1:Nat):Int),nums s),by simp only [h,af,r _ d0 d],⟨rfl,rfl,rfl,⟨by simp only;omega,by simp only;omega⟩,next.1,by simpa only [bY] using next.2⟩,by simp only [bY];omega,by simp only [bY]⟩
 ·have e:(decide ((j:Int)<((s.length:Nat):Int)))=false:=by simp;omega
  refine .inr ?_;simp only [gW,e,af];rw [jk (by omega)];rfl
theorem xI (x:Int) (l:List Int) (y:Int):fval x (l++[y])=10*fval x l+fd x y:=by simp [fval,I6]
theorem Ec (r:aa) (c:UInt8):nums ((c::r).reverse)=nums r.reverse++[((c.toNat:Nat):Int)]:=by simp [nums]
theorem Gf (x:Int) (c:UInt8):fd x ((c.toNat:Nat):Int)=if c=88 then x - 48 else dv c:=by
 unfold fd dv;by_cases h:c=88
 ·simp [h]
 ·have:¬((c.toNat:Nat):Int)=88:=λe=>h (gD.1 (by simpa using (by omega:c.toNat=88)));rw [ab this,ab h]
theorem Av:∀(r:aa),fval 48 (nums r.reverse)=nth r 0
 | []=>rfl
 | c::r=>by
  rw [Ec,xI,Av r,Gf];simp only [nth];split<;>simp
theorem uM:∀(r:aa),fval 57 (nums r.reverse)=nth r (10 ^ cnt r - 1)
 | []=>rfl
 | c::r=>by
  have hp:=uI (cnt r);rw [Ec,xI,uM r,Gf];simp only [nth,cnt];split
  ·rw [i6];have b:(10*(10:Int) ^ cnt r - 1) / 10=10 ^ cnt r - 1:=by omega
   have a:(10*(10:Int) ^ cnt r - 1)%10=9:=by omega
   rw [b,a];omega
  ·rfl
theorem V8 {m:aa} (a:∀c∈m,okB c=true) {x:Int} (hx:48<=x/\x<58):∀c∈m,0<=fd x ((c.toNat:Nat):Int)/\fd x ((c.toNat:Nat):Int)<10:=by
 intro c hc;rw [Gf];have:=zk a c (GB.2 hc);split
 ·omega
 ·rename_i h;exact this.resolve_left h
theorem PP {m:aa} (c:chk m=0):qo 20000000 m=some (nth m.reverse 0,0):=by
 obtain ⟨a,_,b⟩:=n6 c;have d:((0:Int) != 0)=false:=by simp
 have:=Av m.reverse;rw [yP] at this;simp only [qo,l6 20000000 m (by omega),c,ob,d,af,yK m 48 a (V8 b (by omega)),this]
theorem FP {m:aa} (c:chk m=0):l9 20000000 m=some (nth m.reverse (10 ^ cnt m - 1),0):=by
 obtain ⟨a,_,b⟩:=n6 c;have d:((0:Int) != 0)=false:=by simp
 have:=uM m.reverse;rw [yP,tn] at this;simp only [l9,l6 20000000 m (by omega),c,ob,d,af,yK m 57 a (V8 b (by omega)),this]
theorem P2 {m:aa} {l:List Int} (z:List Int) (b:m.length<=18) (g:l.length=m.length) (e:∀y∈l,48<=y/\y<58):gA 20000000 m (over z 0 l)=some (fval 0 l):=by
 have f:List.take m.length (over z 0 l)=l:=by
  unfold over;rw [oC,dW,vk (by omega),jB (by omega)]
 have d:nums (iN l)=l:=zy l λy hy=>by have:=e y hy;omega
 have h:(iN l).length=m.length:=by simp [iN,g]
 simp only [gA,cQ b,ob,cX,show Nat.ble m.length 18=true from dm b,ah,cO,f];rw [yK (iN l) 0 (by omega) ?_,d];intro c hc;have a:((c.toNat:Nat):Int)∈l:=by rw [<-d];exact ek.2 ⟨c,hc,rfl⟩
 have:=e _ a;unfold fd;rw [ab (by omega)];omega
theorem G9 {m:aa} (d:chk m=0) {i:Int} (c:0<=i):hasM m (nth m.reverse i)=true:=by
 obtain ⟨e,_,a⟩:=n6 d;have b:=qP (zk a) i c;rw [vf] at b;rw [FK,Nx (zk a) i c,aq b.1,aq b.2];rfl
def vl:List Int->Int
 | []=>0
 | y::l=>(y - 48)*10 ^ l.length+vl l
def digl (l:List Int):Prop:=∀y∈l,48<=y/\y<58
theorem dH {y:Int} {l:List Int} (h:digl (y::l)):digl l:=λx hx=>h x (fN _ hx)
theorem wB:∀{l:List Int},digl l->0<=vl l/\vl l<10 ^ l.length
 | [],_=>by simp [vl]
 | y::l,h=>by
  have ih:=wB (dH h);have hy:=h y (by simp);have hp:=uI l.length;simp only [vl,aV,i6];have a1:0<=(y - 48)*10 ^ l.length:=Int.mul_nonneg (by omega) (by omega);have a2:(y - 48)*10 ^ l.length<=9*10 ^ l.length:=Rl (by omega) (by omega);omega
theorem UZ {y z:Int} {a b:List Int} (f:a.length=b.length) (c:digl a) (e:digl b) (h:y<z):vl (y::a)<vl (z::b):=by
 have g:=wB c;have d:=wB e;have hp:=uI a.length;simp only [vl];rw [<-f] at d ⊢;have a2:(y - 48+1)*10 ^ a.length<=(z - 48)*10 ^ a.length:=Rl (by omega) (by omega);rw [Int.add_mul] at a2;omega
theorem Bv:∀{l:List Int},digl l->fval 0 l=vl l
 | [],_=>rfl
 | y::l,h=>by
  have hy:=h y (by simp);have e:fval 0 (y::l)=l.foldl (λn y=>10*n+fd 0 y) (10*0+fd 0 y):=rfl;have a:fd 0 y=y - 48:=by unfold fd;rw [ab (by omega)]
  rw [e,AZ,Bv (dH h),a];simp only [vl,Int.mul_zero,Int.zero_add]
theorem N3 {l:List Int} {y:Int} (h:digl (l++[y])):vl (l++[y])=10*vl l+(y - 48):=by
 have hy:=h y (by simp);have a:digl l:=λx hx=>h x (by simp [hx]);rw [<-Bv h,<-Bv a,xI];unfold fd;rw [ab (by omega)]
theorem P7:∀(L:Nat) (k:Int),0<=k->k<10 ^ L->vl (dg L k)=k
 | 0,k,c,a=>by simp at a;simp [dg,vl];omega
 | L+1,k,c,a=>by
  rw [i6] at a;have:=P7 L (k / 10) (by omega) (by omega);have b:=tW (L+1) k;simp only [dg] at b ⊢;rw [N3 b,this];omega
theorem Yl {l:List Int} (h:digl l):dg l.length (vl l)=l:=by
 have a:∀(r:List Int),digl r.reverse->dg r.length (vl r.reverse)=r.reverse:=by
  intro r
  induction r with
  | nil=>intro _;rfl
  | cons y r ih=>
   intro h;simp only [List.reverse_cons,aV] at h ⊢;have hy:=h y (by simp);rw [N3 h];simp only [dg];have c:(10*vl r.reverse+(y - 48)) / 10=vl r.reverse:=by omega
   have b:48+(10*vl r.reverse+(y - 48))%10=y:=by omega
   rw [c,b,ih λx hx=>h x (lk.2 (.inl hx))]
 have:=a l.reverse (by rw [yP];exact h);rwa [yP,vf] at this
def fst (up:Bool):Int:=cond up 48 57
def lst (up:Bool):Int:=cond up 57 48
def stp (up:Bool) (y:Int):Int:=cond up (y+1) (y - 1)
def fil (up:Bool) (m:aa):List Int:=m.map λc=>cond (decide (c=88)) (fst up) ((c.toNat:Nat):Int)
def nx (up:Bool):aa->List Int->Option (List Int)
 | c::m,y::l=>
  if c=88 then
   match nx up m l with
   | some r=>some (y::r)
   | none=>if y=lst up then none else some (stp up y::fil up m)
  else if ((c.toNat:Nat):Int)=y then (nx up m l).map λr=>y::r
  else if decide (((c.toNat:Nat):Int)>y)=up then some (((c.toNat:Nat):Int)::fil up m) else none
 | _,_=>some []
def okM (m:aa):Prop:=∀c∈m,okB c=true
theorem sC {c:UInt8} {m:aa} (h:okM (c::m)):okM m:=λx hx=>h x (fN _ hx)
theorem IJ {c:UInt8} (h:okB c=true) (a:¬c=88):48<=((c.toNat:Nat):Int)/\((c.toNat:Nat):Int)<58:=by
 simp only [okB,gX,bp,aD,cr] at h;have:¬c.toNat=88:=λe=>a (gD.1 (by simpa using e));omega
theorem BE (up:Bool) (m:aa):(fil up m).length=m.length:=by simp [fil]
theorem NK (up:Bool) {m:aa} (h:okM m):digl (fil up m):=by
 intro y hy;obtain ⟨c,hc,rfl⟩:=ek.1 hy;by_cases a:c=88
 ·simp only [aq a,ah];cases up<;>simp [fst]
 ·simp only [ar a,af];exact IJ (h c hc) a
theorem xj (up:Bool):∀(m:aa),jE m (fil up m)=true
 | []=>rfl
 | c::m=>by
  have:=xj up m;simp only [fil,fW,jE] at this ⊢;rw [this];by_cases a:c=88
  ·simp [a]
  ·simp [a]
def fh (up:Bool) (a b:Int):Prop:=match up with | true=>a<=b | false=>b<=a
theorem A3 (up:Bool):∀{m:aa} {e:List Int},okM m->m.length=e.length->digl e->jE m e=true->fh up (vl (fil up m)) (vl e)
 | [],[],_,_,_,_=>by cases up<;>simp [fil,vl,fh]
 | c::m,y::e,l,i,j,k=>by
  simp only [aV,yg] at i;simp only [jE,aD,gX,bp,cr] at k;have ih:=A3 up (sC l) i (dH j) k.2;have hy:=j y (by simp);have f:=BE up m;have n:=NK up (sC l);have a:∀z:Int,vl (z::fil up m)=(z - 48)*10 ^ m.length+vl (fil up m):=λz=>by rw [vl,f]
  have b:fil up (c::m)=(cond (decide (c=88)) (fst up) ((c.toNat:Nat):Int))::fil up m:=rfl;rw [b];by_cases g:c=88
  ·simp only [aq g,ah];by_cases d:y=fst up
   ·rw [<-d,a,vl,<-i];cases up<;>simp only [fh] at ih ⊢<;>omega
   ·cases up
    ·exact Int.le_of_lt (UZ (by rw [f,i]) (dH j) n (by simp [fst] at d ⊢;omega))
    ·exact Int.le_of_lt (UZ (by rw [f,i]) n (dH j) (by simp [fst] at d ⊢;omega))
  ·simp only [ar g,af];rw [k.1.resolve_left g,a,vl,<-i];cases up<;>simp only [fh] at ih ⊢<;>omega
 | [],_::_,_,h,_,_=>by simp at h
 | _::_,[],_,h,_,_=>by simp at h
theorem Ul (up:Bool):∀{m:aa} {l:List Int},okM m->m.length=l.length->digl l->
  match nx up m l with
  | some r=>r.length=m.length/\digl r/\jE m r=true/\fh up (vl l) (vl r)/\∀e,e.length=m.length->digl e->jE m e=true->fh up (vl l) (vl e)->fh up (vl r) (vl e)
  | none=>∀e,e.length=m.length->digl e->jE m e=true->¬fh up (vl l) (vl e)
 | [],[],_,_,_=>by
  simp only [nx];refine ⟨rfl,by intro y hy;simp at hy,rfl,by cases up<;>simp [fh],?_⟩;intro e C _ _ _;simp only [cG] at C;rw [s8 C];cases up<;>simp [fh]
 | c::m,y::l,M,u,T=>by
  simp only [aV,yg] at u;have ih:=Ul up (sC M) u (dH T);have hy:=T y (by simp);have v:=dH T;have t:=BE up m;have B:=NK up (sC M);have L:∀{z w:Int} {a b:List Int},a.length=m.length->b.length=m.length->digl a->digl b->z<w->vl (z::a)<vl (w::b):=λC J O N V=>UZ (by rw [C,J]) O N V;have d:∀(z:Int) {a b:List Int},a.length=m.length->b.length=m.length->(fh up (vl (z::a)) (vl (z::b))↔fh up (vl a) (vl b)):=λz a b C J=>by
   simp only [vl,C,J];cases up<;>simp only [fh]<;>omega
  have o:∀{z w:Int} {a b:List Int},a.length=m.length->b.length=m.length->digl a->digl b->z≠w->(fh up (vl (z::a)) (vl (w::b))↔fh up z w):=λ{z w a b} C J O N V=>by
   rcases Int.lt_trichotomy z w with h | h | h
   ·have:=L C J O N h;cases up<;>simp only [fh]<;>omega
   ·exact absurd h V
   ·have:=L J C N O h;cases up<;>simp only [fh]<;>omega
  have f:∀e:List Int,e.length=(c::m).length->∃w a,e=w::a/\a.length=m.length:=λe h=>by
   match e,h with
   | w::a,h=>exact ⟨w,a,rfl,by simpa using h⟩
  by_cases g:c=88
  ·cases E:nx up m l with
   | some r=>
    rw [E] at ih;obtain ⟨I,P,Q,U,S⟩:=ih;simp only [nx,ae g,E];refine ⟨by simp [I],λz s=>?_,by simp [jE,g,Q],(d y u.symm I).2 U,λe x j p q=>?_⟩
    ·rcases cq.1 s with rfl | s
     ·exact hy
     ·exact P z s
    ·obtain ⟨w,a,rfl,i⟩:=f e x;simp only [jE,g,uY,Ix,qB] at p;by_cases D:y=w
     ·subst D;exact (d y I i).2 (S a i (dH j) p ((d y u.symm i).1 q))
     ·exact (o I i P (dH j) D).2 ((o u.symm i v (dH j) D).1 q)
   | none=>
    rw [E] at ih;by_cases n:y=lst up
    ·simp only [nx,ae g,E,ae n];intro e x j p q;obtain ⟨w,a,rfl,i⟩:=f e x;simp only [jE,g,uY,Ix,qB] at p;have X:=j w (by simp);by_cases D:y=w
     ·subst D;exact ih a i (dH j) p ((d y u.symm i).1 q)
     ·have:=(o u.symm i v (dH j) D).1 q;cases up<;>simp only [fh,lst,ah,af] at this n<;>omega
    ·simp only [nx,ae g,E,ab n];have hs:48<=stp up y/\stp up y<58/\y≠stp up y/\fh up y (stp up y)/\∀w,w≠y->fh up y w->fh up (stp up y) w:=by
      cases up<;>simp only [fh,lst,stp,ah,af] at n ⊢<;>exact ⟨by omega,by omega,by omega,by omega,λw C J=>by omega⟩
     obtain ⟨Y,s2,Z,W,s5⟩:=hs;refine ⟨by simp [t],λz s=>?_,by simp [jE,g,xj],(o u.symm t v B Z).2 W,λe x j p q=>?_⟩
     ·rcases cq.1 s with rfl | s
      ·exact ⟨Y,s2⟩
      ·exact B z s
     ·obtain ⟨w,a,rfl,i⟩:=f e x;simp only [jE,g,uY,Ix,qB] at p;by_cases D:y=w
      ·subst D;exact absurd ((d y u.symm i).1 q) (ih a i (dH j) p)
      ·have h9:=s5 w (λh=>D h.symm) ((o u.symm i v (dH j) D).1 q);by_cases K:stp up y=w
       ·rw [K];exact (d w t i).2 (A3 up (sC M) i.symm (dH j) p)
       ·exact (o t i B (dH j) K).2 h9
  ·have R:=IJ (M c (by simp)) g;have F:∀w a,jE (c::m) (w::a)=true->w=((c.toNat:Nat):Int)/\jE m a=true:=λw a h=>by
    simp only [jE,aD,gX,bp,cr] at h;exact ⟨(h.1.resolve_left g).symm,h.2⟩
   by_cases k:((c.toNat:Nat):Int)=y
   ·cases E:nx up m l with
    | some r=>
     rw [E] at ih;obtain ⟨I,P,Q,U,S⟩:=ih;simp only [nx,ab g,ae k,E,fi];refine ⟨by simp [I],λz s=>?_,by simp [jE,k,Q],(d y u.symm I).2 U,λe x j p q=>?_⟩
     ·rcases cq.1 s with rfl | s
      ·exact hy
      ·exact P z s
     ·obtain ⟨w,a,rfl,i⟩:=f e x;obtain ⟨rfl,A⟩:=F w a p;rw [k] at q ⊢;exact (d y I i).2 (S a i (dH j) A ((d y u.symm i).1 q))
    | none=>
     rw [E] at ih;simp only [nx,ab g,ae k,E,i7];intro e x j p q;obtain ⟨w,a,rfl,i⟩:=f e x;obtain ⟨rfl,A⟩:=F w a p;rw [k] at q;exact ih a i (dH j) A ((d y u.symm i).1 q)
   ·have H:decide (((c.toNat:Nat):Int)>y)=up↔fh up y ((c.toNat:Nat):Int):=by
     cases up
     ·simp only [ta,fh];omega
     ·simp only [cr,fh];omega
    by_cases G:decide (((c.toNat:Nat):Int)>y)=up
    ·simp only [nx,ab g,ab k,ae G];refine ⟨by simp [t],λz s=>?_,by simp [jE,xj],(o u.symm t v B (λh=>k h.symm)).2 (H.1 G),λe x j p q=>?_⟩
     ·rcases cq.1 s with rfl | s
      ·exact R
      ·exact B z s
     ·obtain ⟨w,a,rfl,i⟩:=f e x;obtain ⟨rfl,A⟩:=F w a p;exact (d _ t i).2 (A3 up (sC M) i.symm (dH j) A)
    ·simp only [nx,ab g,ab k,ab G];intro e x j p q;obtain ⟨w,a,rfl,i⟩:=f e x;obtain ⟨rfl,A⟩:=F w a p;exact G (H.2 ((o u.symm i v (dH j) (λh=>k h.symm)).1 q))
 | [],_::_,_,h,_=>by simp at h
 | _::_,[],_,h,_=>by simp at h
def ap:aa->List Int->Nat
 | c::m,y::l=>if c=88\/((c.toNat:Nat):Int)=y then ap m l+1 else 0
 | _,_=>0
theorem WA:∀(m:aa) (l:List Int),ap m l<=m.length
 | [],_=>by simp [ap]
 | c::m,[]=>by simp [ap]
 | c::m,y::l=>by
  have:=WA m l;simp only [ap,aV];split<;>omega
theorem Ly:∀(m:aa) (l:List Int),jE (m.take (ap m l)) (l.take (ap m l))=true
 | [],_=>by simp [ap,jE]
 | c::m,[]=>by simp [ap,jE]
 | c::m,y::l=>by
  have:=Ly m l;simp only [ap];split
  ·rename_i h;simp only [oI,jE,this,DU,gX,bp,cr];exact h
  ·rfl
theorem Kr:∀{m:aa} {l:List Int} {c:UInt8} {y:Int},m[ap m l]?=some c->l[ap m l]?=some y->¬c=88/\¬((c.toNat:Nat):Int)=y
 | [],_,c,y,h,_=>by simp at h
 | x::m,[],c,y,_,h=>by simp at h
 | x::m,z::l,c,y,b,a=>by
  by_cases h:x=88\/((x.toNat:Nat):Int)=z
  ·simp only [ap,ae h,HI] at b a;exact Kr b a
  ·simp only [ap,ab h,lC,aw] at b a;subst b a;exact ⟨λe=>h (.inl e),λe=>h (.inr e)⟩
def bkn (up:Bool):aa->List Int->aa->Option (List Int)
 | c::m,y::d,m'=>
  match bkn up m d m' with
  | some r=>some (y::r)
  | none=>if c=88/\y≠lst up then some (stp up y::fil up (m++m')) else none
 | _,_,_=>none
theorem EA (up:Bool):∀{m m':aa} {d d':List Int},m.length=d.length->jE m d=true->
  nx up (m++m') (d++d')=match nx up m' d' with | some r=>some (d++r) | none=>bkn up m d m'
 | [],m',[],d',_,_=>by
  simp only [dW];cases nx up m' d'<;>rfl
 | c::m,m',y::d,d',e,b=>by
  simp only [aV,yg] at e;simp only [jE,aD,gX,bp,cr] at b;have ih:=EA up (m':=m') (d':=d') e b.2;simp only [eK,nx,ih,bkn];by_cases a:c=88
  ·simp only [ae a];cases nx up m' d' with
   | some r=>rfl
   | none=>
    cases bkn up m d m' with
    | some r=>rfl
    | none=>
     by_cases hy:y=lst up
     ·simp [hy]
     ·simp [hy,a]
  ·simp only [ab a,ae (b.1.resolve_left a)];cases nx up m' d' with
   | some r=>rfl
   | none=>
    cases bkn up m d m' with
    | some r=>rfl
    | none=>simp [a]
 | [],_,_::_,_,h,_=>by simp at h
 | _::_,_,[],_,h,_=>by simp at h
theorem Ii (up:Bool) (c:UInt8) (y:Int):∀{m m':aa} {d:List Int},m.length=d.length->
  bkn up (m++[c]) (d++[y]) m'=if c=88/\y≠lst up then some (d++stp up y::fil up m') else bkn up m d (c::m')
 | [],m',[],_=>by simp [bkn]
 | x::m,m',z::d,a=>by
  simp only [aV,yg] at a;have ih:=Ii up c y (m':=m') a;simp only [eK,bkn,ih];by_cases h:c=88/\y≠lst up
  ·simp only [ae h]
  ·simp only [ab h,fE,eK,dW]
 | [],_,_::_,h=>by simp at h
 | _::_,_,[],h=>by simp at h
def bki (up:Bool) (m:aa) (l:List Int):Nat->Option Nat
 | 0=>none
 | j+1=>if m[j]?=some 88/\l[j]?≠some (lst up) then some j else bki up m l j
theorem Rn (up:Bool) (m:aa) (l:List Int):∀{j a:Nat},bki up m l j=some a->a<j
 | 0,a,h=>by simp [bki] at h
 | j+1,a,h=>by
  simp only [bki] at h;split at h
  ·simp only [aw] at h;omega
  ·have:=Rn up m l h;omega
theorem Ho (up:Bool) (m:aa) (l:List Int) (d:m.length=l.length):∀j,j<=m.length->
  bkn up (m.take j) (l.take j) (m.drop j)=(bki up m l j).map λa=>l.take a++stp up (l.getD a 0)::fil up (m.drop (a+1))
 | 0,_=>by simp [bkn,bki]
 | j+1,h=>by
  obtain ⟨c,hc⟩:∃c,m[j]?=some c:=⟨m[j]'(by omega),aW (by omega)⟩;obtain ⟨y,hy⟩:∃c,l[j]?=some c:=⟨l[j]'(by omega),aW (by omega)⟩;have ih:=Ho up m l d j (by omega);rw [ct hc] at ih;rw [qU,qU,hc,hy];simp only [Option.toList_some];rw [Ii up c y (by simp;omega),ih];have e:l.getD j 0=y:=by rw [Ei,hy];rfl
  simp only [bki,hc,hy,ne_eq,aw];by_cases b:c=88/\¬y=lst up
  ·rw [ae b,ae b,fi,e]
  ·rw [ab b,ab b]
section
variable {m:List UInt8} {l z:List Int}
theorem mj (A:m.length=l.length) (w:m.length<=18) (k f g:Int) (up:Bool):
  av (fP 20000000) 20000000 (m,k,up,f,g,0,over z 0 l,over z 0 l)=some (m,k,up,f,g,((ap m l:Nat):Int),over z 0 l,over z 0 l):=by
 have:=fQ (step:=fP 20000000) (λx=>x.1=m/\(0<=x.2.2.2.2.2.1/\x.2.2.2.2.2.1<=m.length)/\x.2.2.2.2.2.2.1=over z 0 l) (λx=>m.length - x.2.2.2.2.2.1.toNat)
  (λx=>(x.1,x.2.1,x.2.2.1,x.2.2.2.1,x.2.2.2.2.1,x.2.2.2.2.2.1+((ap (m.drop x.2.2.2.2.2.1.toNat) (l.drop x.2.2.2.2.2.1.toNat):Nat):Int),x.2.2.2.2.2.2.1,x.2.2.2.2.2.2.2)) ?_ 20000000 (m,k,up,f,g,0,over z 0 l,over z 0 l) ⟨rfl,⟨by simp,by simp⟩,rfl⟩ (by simp;omega)
 ·simpa using this
 rintro ⟨m',k,up,f,g,i,d,o⟩ ⟨s,⟨t,hi⟩,r⟩;simp only at s t hi r ⊢;subst s r;obtain ⟨j,rfl⟩:∃j:Nat,i=j:=⟨i.toNat,by omega⟩;simp only [bY];rcases aI j m'.length with n | p
 ·obtain ⟨c,hc⟩:∃c,m'[j]?=some c:=⟨m'[j],aW n⟩;obtain ⟨y,hy⟩:∃c,l[j]?=some c:=⟨l[j]'(by omega),aW (by omega)⟩;have v:(over z 0 l)[j]?=some y:=by rw [wh (by omega)];exact hy
  have q:(decide ((j:Int)<((List.length m':Nat):Int)))=true:=by simp;omega
  have u:IntKind.wrap .i64 ((j:Int)+1)=((j+1:Nat):Int):=by rw [wrap_i64 _ (by omega) (by omega)];omega
  rw [ct hc,ct hy];simp only [fP,q,ah,eF hc,ob,Cd,u,dD (show j<18 by omega),v,ap];by_cases b:c=88
  ·refine .inl ⟨(m',k,up,f,g,((j+1:Nat):Int),over z 0 l,o),by simp only [aq b,ah],⟨rfl,⟨by simp only;omega,by simp only;omega⟩,rfl⟩,by simp only [bY];omega,?_⟩;simp only [bY,ae (show c=88\/((c.toNat:Nat):Int)=y from .inl b)];congr 6;omega
  ·simp only [ar b,af];by_cases a:((c.toNat:Nat):Int)=y
   ·have e:(((c.toNat:Nat):Int)==y)=true:=by simpa using a
    refine .inl ⟨(m',k,up,f,g,((j+1:Nat):Int),over z 0 l,o),by simp only [e,ah],⟨rfl,⟨by simp only;omega,by simp only;omega⟩,rfl⟩,by simp only [bY];omega,?_⟩;simp only [bY,ae (show c=88\/((c.toNat:Nat):Int)=y from .inr a)];congr 6;omega
   ·have e:(((c.toNat:Nat):Int)==y)=false:=by simpa using a
    refine .inr ?_;simp only [e,af,ab (show ¬(c=88\/((c.toNat:Nat):Int)=y) from λh=>h.elim b a),Int.ofNat_zero,Int.add_zero,Int.natCast_zero]
 ·have q:(decide ((j:Int)<((List.length m':Nat):Int)))=false:=by simp;omega
  refine .inr ?_;simp only [fP,q,af];rw [jk p];simp [ap]
theorem Ny (A:m.length=l.length) (u:m.length<=18) (f:Int) (up:Bool) (o:List Int) (i:Nat) (hi:i<=m.length):
  av (cE 20000000) 20000000 (m,up,f,lst up,(i:Int),over z 0 l,o) =
   some (match bki up m l i with | none=>.inl (0,16) | some a=>.inr (m,up,f,((a:Nat):Int),o)):=by
 have:=fQ (step:=cE 20000000) (λx=>x.1=m/\x.2.2.2.1=lst up/\(0<=x.2.2.2.2.1/\x.2.2.2.2.1<=m.length)/\x.2.2.2.2.2.1=over z 0 l) (λx=>x.2.2.2.2.1.toNat)
  (λx=>match bki up m l x.2.2.2.2.1.toNat with | none=>.inl (0,16) | some a=>.inr (x.1,x.2.1,x.2.2.1,((a:Nat):Int),x.2.2.2.2.2.2)) ?_ 20000000 (m,up,f,lst up,(i:Int),over z 0 l,o) ⟨rfl,rfl,⟨by simp only;omega,by simp only;omega⟩,rfl⟩ (by simp;omega)
 ·simpa using this
 rintro ⟨m',n,f,g,i,d,o⟩ ⟨q,r,⟨s,hi⟩,p⟩;simp only at q r s hi p ⊢;subst q p r;obtain ⟨j,rfl⟩:∃j:Nat,i=j:=⟨i.toNat,by omega⟩;simp only [bY];rcases j with _ | j
 ·refine .inr ?_;have w:IntKind.wrap .i64 (((0:Nat):Int) - 1)=-1:=wrap_i64 _ (by omega) (by omega);simp only [cE,w,show decide ((-1:Int)<0)=true from rfl,ah,bki]
 ·have w:IntKind.wrap .i64 (((j+1:Nat):Int) - 1)=(j:Int):=by rw [wrap_i64 _ (by omega) (by omega)];omega
  have v:decide ((j:Int)<0)=false:=by simp
  obtain ⟨c,hc⟩:∃c,m'[j]?=some c:=⟨m'[j]'(by omega),aW (by omega)⟩;obtain ⟨y,hy⟩:∃c,l[j]?=some c:=⟨l[j]'(by omega),aW (by omega)⟩;have t:(over z 0 l)[j]?=some y:=by rw [wh (by omega)];exact hy
  simp only [cE,w,v,af,eF hc,ob,Cd,dD (show j<18 by omega),t,bki,hc,hy,aw,ne_eq];by_cases b:c=88
  ·by_cases k:y=lst up
   ·have e:(y != lst up)=false:=by simpa using k
    refine .inl ⟨(m',n,f,lst up,(j:Int),over z 0 l,o),by simp only [aq b,ah,e,af],⟨rfl,rfl,⟨by simp only;omega,by simp only;omega⟩,rfl⟩,by simp only [bY];omega,?_⟩;simp only [bY,ab (show ¬(c=88/\¬y=lst up) from λh=>h.2 k)]
   ·have e:(y != lst up)=true:=by simpa using k
    refine .inr ?_;simp only [aq b,ah,e,ae (show c=88/\¬y=lst up from ⟨b,k⟩)]
  ·refine .inl ⟨(m',n,f,lst up,(j:Int),over z 0 l,o),by simp only [ar b,af],⟨rfl,rfl,⟨by simp only;omega,by simp only;omega⟩,rfl⟩,by simp only [bY];omega,?_⟩;simp only [bY,ab (show ¬(c=88/\¬y=lst up) from λh=>b h.1)]
theorem C9 (s:m.length<=18) (up:Bool) (d:List Int) (e:d.length=18) (i:Nat) (hi:i<=m.length):
  av (bz 20000000) 20000000 (m,fst up,(i:Int),d)=some (m,over d i (fil up (m.drop i))):=by
 have:=fQ (step:=bz 20000000) (λx=>x.1=m/\x.2.1=fst up/\(0<=x.2.2.1/\x.2.2.1<=m.length)/\x.2.2.2.length=18) (λx=>m.length - x.2.2.1.toNat)
  (λx=>(m,over x.2.2.2 x.2.2.1.toNat (fil up (m.drop x.2.2.1.toNat)))) ?_ 20000000 (m,fst up,(i:Int),d) ⟨rfl,rfl,⟨by simp only;omega,by simp only;omega⟩,e⟩ (by simp;omega)
 ·simpa using this
 rintro ⟨m',f,i,d⟩ ⟨n,o,⟨p,hi⟩,e⟩;simp only at n o p hi e ⊢;subst n o;obtain ⟨j,rfl⟩:∃j:Nat,i=j:=⟨i.toNat,by omega⟩;simp only [bY];rcases aI j m'.length with g | h
 ·obtain ⟨c,hc⟩:∃c,m'[j]?=some c:=⟨m'[j],aW g⟩;have l:j<18:=by omega
  have k:(decide ((j:Int)<((List.length m':Nat):Int)))=true:=by simp;omega
  have q:IntKind.wrap .i64 ((j:Int)+1)=((j+1:Nat):Int):=by rw [wrap_i64 _ (by omega) (by omega)];omega
  have r:Nat.blt j 18=true:=dm l;have b:∀c:UInt8,fil up (c::m'.drop (j+1))=(cond (decide (c=88)) (fst up) ((c.toNat:Nat):Int))::fil up (m'.drop (j+1)):=λ_=>rfl;rw [ct hc,b];simp only [bz,k,ah,eF hc,ob,Cd,dD l,r,q];by_cases a:c=88
  ·refine .inl ⟨(m',fst up,((j+1:Nat):Int),(d.set j ((c.toNat:Nat):Int)).set j (fst up)),by simp only [aq a,ah],⟨rfl,rfl,⟨by simp only;omega,by simp only;omega⟩,by simpa using e⟩,by simp only [bY];omega,?_⟩;simp only [bY,aq a,ah];rw [List.set_set,AN _ _ _ _ (by omega)]
  ·refine .inl ⟨(m',fst up,((j+1:Nat):Int),d.set j ((c.toNat:Nat):Int)),by simp only [ar a,af],⟨rfl,rfl,⟨by simp only;omega,by simp only;omega⟩,by simpa using e⟩,by simp only [bY];omega,?_⟩;simp only [bY,ar a,af];rw [AN _ _ _ _ (by omega)]
 ·have k:(decide ((j:Int)<((List.length m':Nat):Int)))=false:=by simp;omega
  refine .inr ?_;simp only [bz,k,af];rw [jk h];simp [fil,G1]
theorem DC (z l F:List Int) (i:Nat) (h:i+F.length=l.length):over (over z 0 l) i F=over z 0 (l.take i++F):=by
 unfold over;simp only [oC,dW,cX,bv,cP,tj (show i<=l.length by omega),h];rw [vk (by omega),List.drop_append_of_le_length (by omega),List.drop_of_length_le (bi l.length)];simp
end
theorem M4 {m:aa} (hm:chk m=0) (up:Bool) (k:Int) (V:0<=k) (W:k<10 ^ m.length):
  dG 20000000 m k up=some (match nx up m (dg m.length k) with | some r=>(vl r,0) | none=>(0,16)):=by
 obtain ⟨g,_,G⟩:=n6 hm;have hp:=EI m.length g;have f:=yj m.length k;have n:=tW m.length k;have S:=P7 m.length k V W;have L:=Ul up G f.symm n;have j:=Pe m k g V (by omega);generalize dg m.length k=l at f n S L j ⊢;have o:(over [0,0,0,0,0,0,0,0,0,0,0,0,0,0,0,0,0,0] 0 l).length=18:=by rw [O2 _ _ _ (by simp;omega)];rfl
 have fin:∀r:List Int,nx up m l=some r->gA 20000000 m (over [0,0,0,0,0,0,0,0,0,0,0,0,0,0,0,0,0,0] 0 r)=some (vl r):=by
  intro r hr;rw [hr] at L;obtain ⟨i1,U,_⟩:=L;rw [P2 _ g i1 U,Bv U]
 have u:=WA m l;have F:=Ly m l;have b:=EA up (m:=m.take (ap m l)) (m':=m.drop (ap m l)) (d:=l.take (ap m l)) (d':=l.drop (ap m l)) (by simp;omega) F;rw [tA,tA] at b;have h:lH 20000000 m k=some (over [0,0,0,0,0,0,0,0,0,0,0,0,0,0,0,0,0,0] 0 l):=j;generalize Y:([0,0,0,0,0,0,0,0,0,0,0,0,0,0,0,0,0,0]:List Int)=z at o fin h;rcases aI (ap m l) m.length with M | Z
 ·obtain ⟨c,hc⟩:∃c,m[ap m l]?=some c:=⟨m[ap m l],aW M⟩;obtain ⟨y,hy⟩:∃c,l[ap m l]?=some c:=⟨l[ap m l]'(by omega),aW (by omega)⟩;obtain ⟨D,N⟩:=Kr hc hy;have B:(over z 0 l)[ap m l]?=some y:=by rw [wh (by omega)];exact hy
  have q:(((ap m l:Nat):Int)==((List.length m:Nat):Int))=false:=by simp;omega
  have A:ap m l<18:=by omega
  have P:fil up (m.drop (ap m l))=((c.toNat:Nat):Int)::fil up (m.drop (ap m l+1)):=by
   rw [ct hc];simp [fil,D]
  have O:=Ho up m l f.symm (ap m l) u;have I:nx up (m.drop (ap m l)) (l.drop (ap m l))=if decide (((c.toNat:Nat):Int)>y)=up then some (fil up (m.drop (ap m l))) else none:=by
   rw [P,ct hc,ct hy];simp only [nx,ab D,ab N]
  rw [I] at b;by_cases s:decide (((c.toNat:Nat):Int)>y)=up
  ·rw [ae s] at b;simp only at b;have x:=fin _ b;rw [b];simp only [];rw [<-DC z l _ _ (by rw [BE,bN];omega)] at x;have E:=C9 g up _ o (ap m l) u;cases up
   ·have i:=mj (z:=z) f.symm g k 57 48 false;have l2':av (bz 20000000) 20000000 (m,57,((ap m l:Nat):Int),over z 0 l)=_:=E;simp only [dG,jA,ah,h,ob,i,q,af,eF hc,dD A,B,s,uY,dn,l2',x]
   ·have i:=mj (z:=z) f.symm g k 48 57 true;have l2':av (bz 20000000) 20000000 (m,48,((ap m l:Nat):Int),over z 0 l)=_:=E;simp only [dG,dn,ah,h,ob,i,q,af,eF hc,dD A,B,s,uY,l2',x]
  ·rw [ab s] at b;simp only [O] at b;have p:(!(decide (((c.toNat:Nat):Int)>y)==up))=true:=by
    cases up<;>cases hh:decide (((c.toNat:Nat):Int)>y)<;>simp_all
   have t:=Ny (z:=z) f.symm g (fst up) up (over z 0 l) (ap m l) u;cases J:bki up m l (ap m l) with
   | none=>
    rw [J] at b t;simp only [i7] at b;rw [b];simp only [] at t ⊢;cases up
    ·have i:=mj (z:=z) f.symm g k 57 48 false;have l1':av (cE 20000000) 20000000 (m,false,57,48,((ap m l:Nat):Int),over z 0 l,over z 0 l)=_:=t;simp only [dG,jA,ah,h,ob,i,q,af,eF hc,dD A,B,p,l1']
    ·have i:=mj (z:=z) f.symm g k 48 57 true;have l1':av (cE 20000000) 20000000 (m,true,48,57,((ap m l:Nat):Int),over z 0 l,over z 0 l)=_:=t;simp only [dG,dn,ah,h,ob,i,q,af,eF hc,dD A,B,p,l1']
   | some a=>
    have ha:=Rn up m l J;obtain ⟨w,K⟩:∃c,l[a]?=some c:=⟨l[a]'(by omega),aW (by omega)⟩;have C:(over z 0 l)[a]?=some w:=by rw [wh (by omega)];exact K
    have H:l.getD a 0=w:=by rw [Ei,K];rfl
    have X:=n w (eW K);have v:a<18:=by omega
    have T:Nat.blt a 18=true:=dm v;have R:IntKind.wrap .i64 ((a:Int)+1)=((a+1:Nat):Int):=by rw [wrap_i64 _ (by omega) (by omega)];omega
    rw [J] at b t;simp only [fi,H] at b;have x:=fin _ b;rw [b];simp only [] at t ⊢;rw [<-DC z l _ _ (by rw [aV,BE,bN];omega),<-AN _ _ _ _ (by omega)] at x;have E:=C9 g up ((over z 0 l).set a (stp up w)) (by simpa using o) (a+1) (by omega);cases up
    ·have i:=mj (z:=z) f.symm g k 57 48 false;have l1':av (cE 20000000) 20000000 (m,false,57,48,((ap m l:Nat):Int),over z 0 l,over z 0 l)=some (.inr (m,false,57,((a:Nat):Int),over z 0 l)):=t;have l2':av (bz 20000000) 20000000 (m,57,((a+1:Nat):Int),(over z 0 l).set a (w - 1))=_:=E;have Q:IntKind.wrap .u8 (w - 1)=w - 1:=fL _ (by omega) (by omega);simp only [dG,jA,ah,h,ob,i,q,af,eF hc,dD A,B,p,l1',dD v,C,T,R,Q,l2',x]
    ·have i:=mj (z:=z) f.symm g k 48 57 true;have l1':av (cE 20000000) 20000000 (m,true,48,57,((ap m l:Nat):Int),over z 0 l,over z 0 l)=some (.inr (m,true,48,((a:Nat):Int),over z 0 l)):=t;have l2':av (bz 20000000) 20000000 (m,48,((a+1:Nat):Int),(over z 0 l).set a (w+1))=_:=E;have Q:IntKind.wrap .u8 (w+1)=w+1:=fL _ (by omega) (by omega);simp only [dG,dn,ah,h,ob,i,q,af,eF hc,dD A,B,p,l1',dD v,C,T,R,Q,l2',x]
 ·have e:ap m l=m.length:=by omega
  rw [e,ue,<-f,ue,mP] at b;simp only [nx,kC] at b;have q:(((ap m l:Nat):Int)==((List.length m:Nat):Int))=true:=by rw [e];simp
  rw [b];simp only [S];cases up
  ·have i:=mj (z:=z) f.symm g k 57 48 false;simp only [dG,jA,ah,h,ob,i,q]
  ·have i:=mj (z:=z) f.symm g k 48 57 true;simp only [dG,dn,af,h,ob,i,q,ah]
def near (up:Bool) (m:aa) (k:Int):Option Int->Prop
 | some R=>hasM m R=true/\fh up k R/\∀e,hasM m e=true->fh up k e->fh up R e
 | none=>∀e,hasM m e=true->¬fh up k e
def res (o:Option Int):Int×Int:=match o with | some r=>(r,0) | none=>(0,16)
theorem oK {m:aa} {e:Int} (h:hasM m e=true):(dg m.length e).length=m.length/\digl (dg m.length e)/\jE m (dg m.length e)=true/\vl (dg m.length e)=e/\0<=e/\e<10 ^ m.length:=by
 unfold hasM at h;simp only [aD,cr] at h;exact ⟨yj _ _,tW _ _,h.2.2,P7 _ _ h.1 h.2.1,h.1,h.2.1⟩
theorem UY {m:aa} {r:List Int} (d:r.length=m.length) (b:digl r) (e:jE m r=true):hasM m (vl r)=true:=by
 have a:=wB b;have c:=Yl b;rw [d] at a c;unfold hasM;rw [c,e,aq a.1,aq a.2];rfl
theorem ya {m:aa} (n:chk m=0) (up:Bool) (k:Int) (l:0<=k) (p:k<10 ^ m.length):∃o,dG 20000000 m k up=some (res o)/\near up m k o:=by
 obtain ⟨t,_,c⟩:=n6 n;have a:=Ul up c (yj m.length k).symm (tW m.length k);have g:=P7 m.length k l p;refine ⟨(nx up m (dg m.length k)).map vl,?_,?_⟩
 ·rw [M4 n up k l p];cases nx up m (dg m.length k)<;>rfl
 ·cases hx:nx up m (dg m.length k) with
  | none=>
   rw [hx] at a;intro e d f;obtain ⟨j,h,i,b,_⟩:=oK d;exact a _ j h i (by rw [g,b];exact f)
  | some r=>
   rw [hx] at a;obtain ⟨u,v,s,q,w⟩:=a;refine ⟨UY u v s,by rw [g] at q;exact q,λe d f=>?_⟩;obtain ⟨j,h,i,b,_⟩:=oK d;have:=w _ j h i (by rw [g,b];exact f);rwa [b] at this
theorem Hh {m:aa} {e:Int} (h:hasM m e=true):0<=idx m.reverse e/\idx m.reverse e<10 ^ cnt m/\nth m.reverse (idx m.reverse e)=e:=by
 rw [FK] at h;simp only [aD,cr] at h;obtain ⟨k0,k1,k2⟩:=h;have:=xp m.reverse e k0;rw [tn] at this;exact ⟨this.1,this.2,Lq k0 (by rw [vf];exact k1) k2⟩
section
variable {m:List UInt8} (hm:chk m=0)
include hm
theorem KW {i j:Int} (b:0<=i) (d:i<=j) (c:j<10 ^ cnt m):nth m.reverse i<=nth m.reverse j:=by
 obtain ⟨e,_,a⟩:=n6 hm;rcases Int.lt_or_eq_of_le d with h | rfl
 ·exact Int.le_of_lt (BG (zk a) i j b h (by rw [tn];exact c))
 ·exact sL _
theorem EL (k:Int):mu 20000000 m k=some (decide (0<=k/\k<10 ^ m.length)):=by
 obtain ⟨b,_,c⟩:=n6 hm;simp only [mu,OY m.length b,ob];by_cases a:0<=k
 ·have d0:decide (k>=0)=true:=by simpa using a
  simp only [d0,ah,a,ku,oy]
 ·have d0:decide (k>=0)=false:=by simpa using a
  simp only [d0,af,a,yA,nN]
theorem M8 (k:Int):∃o,sw 20000000 m k=some (res o)/\near true m k o:=by
 obtain ⟨l,_,b⟩:=n6 hm;have n:((0:Int) != 0)=false:=by simp
 simp only [sw,l6 20000000 m (by omega),hm,mV,n,af,EL hm];by_cases a:k<0
 ·refine ⟨some (nth m.reverse 0),by simp only [aq a,ah,PP hm,mV,res],G9 hm (by omega),?_,λe c f=>?_⟩
  ·have:=(qP (zk b) 0 (by omega)).1;simp only [fh];omega
  ·obtain ⟨g,p,r⟩:=Hh c;have:=KW hm (sL 0) g p;simp only [fh];omega
 ·by_cases d:k<10 ^ m.length
  ·obtain ⟨o,j,q⟩:=ya hm true k (by omega) d;exact ⟨o,by simp only [ar a,af,aq (show 0<=k/\k<10 ^ m.length from ⟨by omega,d⟩),dn,j,mV],q⟩
  ·refine ⟨none,by simp only [ar a,af,ar (show ¬(0<=k/\k<10 ^ m.length) from λh=>d h.2),jA,ah,res],λe c f=>?_⟩;obtain ⟨_,_,_,_,_,i⟩:=oK c;simp only [fh] at f;omega
theorem Lp (k:Int):∃o,sF 20000000 m k=some (res o)/\near false m k o:=by
 obtain ⟨n,_,b⟩:=n6 hm;have p:((0:Int) != 0)=false:=by simp
 simp only [sF,l6 20000000 m (by omega),hm,mV,p,af,EL hm];by_cases a:k<0
 ·refine ⟨none,by simp only [aq a,ah,res],λe c f=>?_⟩;obtain ⟨_,_,_,_,i,_⟩:=oK c;simp only [fh] at f;omega
 ·by_cases d:k<10 ^ m.length
  ·obtain ⟨o,j,q⟩:=ya hm false k (by omega) d;exact ⟨o,by simp only [ar a,af,aq (show 0<=k/\k<10 ^ m.length from ⟨by omega,d⟩),dn,j,mV],q⟩
  ·have l:=uI (cnt m);refine ⟨some (nth m.reverse (10 ^ cnt m - 1)),by simp only [ar a,af,ar (show ¬(0<=k/\k<10 ^ m.length) from λh=>d h.2),jA,ah,FP hm,mV,res],G9 hm (by omega),?_,λe c f=>?_⟩
   ·have:=(qP (zk b) (10 ^ cnt m - 1) (by omega)).2;rw [vf] at this;simp only [fh];omega
   ·obtain ⟨g,r,s⟩:=Hh c;have:=KW hm g (show idx m.reverse e<=10 ^ cnt m - 1 by omega) (by omega);simp only [fh];omega
end
end Go.Sh.Mk
namespace Go.Sh
open Go.Abs
def fitN (s:aa) (g:Nat):List Nat:=(List.range' 1 g).filter (agr s)
def uv (l:List Nat):List Int:=l.map λk:Nat=>(k:Int)
theorem EF (l:List Nat):(uv l).length=l.length:=by simp [uv]
theorem CW (c:UInt8) {j:Nat} (d:j<10):(IntKind.wrap .i64 (IntKind.wrap .u8 (((c.toNat:Nat):Int) - 48))==((j:Nat):Int))=(c==UInt8.ofNat (48+j)):=by
 have hc:=c.toNat_lt;have b:=AG (((c.toNat:Nat):Int) - 48);rw [wrap_i64 _ (by omega) (by omega),JH,sI,bp,bp];have a:(UInt8.ofNat (48+j)).toNat=48+j:=by simp;omega
 constructor
 ·intro h;apply gD.1;omega
 ·rintro rfl;omega
theorem Nc (n:Nat) (a b:UInt8) {k:Nat} (l:k<=31):ln n [a,b] (k:Int)=some (agr [a,b] k):=by
 have j:IntKind.wrap .i64 (Int.tdiv (k:Int) 10)=((k / 10:Nat):Int):=by
  rw [show Int.tdiv (k:Int) 10=((k / 10:Nat):Int) from rfl,wrap_i64 _ (by omega) (by omega)]
 have e:Int.tmod (k:Int) 10=((k%10:Nat):Int):=rfl;have s0:sx [a,b] 0=some a:=rfl;have d:sx [a,b] 1=some b:=rfl;have c:(88:Int)=((88:Nat):Int):=rfl;unfold ln;simp only [s0,d,ob,j,e];rw [CW a (show k / 10<10 by omega),CW b (show k%10<10 by omega),c,vC (by omega),vC (by omega)];show _=some ((a==UInt8.ofNat 88||a==UInt8.ofNat (48+k / 10))&&(b==UInt8.ofNat 88||b==UInt8.ofNat (48+k%10)));generalize (a==UInt8.ofNat 88)=f;generalize (b==UInt8.ofNat 88)=i;generalize (a==UInt8.ofNat (48+k / 10))=g;generalize (b==UInt8.ofNat (48+k%10))=h;cases f<;>cases i<;>cases g<;>cases h<;>rfl
theorem room {k:Nat} (h:k<=60000000):Nat.ble (k+1) de=true:=dm (by unfold de;omega)
theorem Iy {X Y:Type} {step:X->Option (X⊕Y)} {f:Nat->List Int->X} {y:List Int->Y} {p:Nat->Bool} {g:Nat} (e:g<=1000)
  (h:∀i out,i<g->out.length<=1000->step (f i out)=some (.inl (f (i+1) (if p (i+1) then out++[((i+1:Nat):Int)] else out))))
  (b:∀out,step (f g out)=some (.inr (y out))) {N:Nat} (a:g<N):av step N (f 0 [])=some (y (uv ((List.range' 1 g).filter p))):=by
 have d:∀(r i:Nat) (out:List Int),i+r=g->out.length<=i->∀N,r<N->av step N (f i out)=some (y (out++uv ((List.range' (i+1) r).filter p))):=by
  intro r
  induction r with
  | zero=>
   intro i out hi c N a;obtain ⟨N,rfl⟩:∃q,N=q+1:=⟨N - 1,by omega⟩;obtain rfl:i=g:=by omega
   rw [av,b];simp [uv]
  | succ r ih=>
   intro i out hi c N a;obtain ⟨N,rfl⟩:∃q,N=q+1:=⟨N - 1,by omega⟩;rw [av,h i out (by omega) (by omega)];show av step N _=_;by_cases hp:p (i+1)=true
   ·rw [ae hp,ih (i+1) _ (by omega) (by simp;omega) N (by omega),wO,Ri hp];simp [uv]
   ·rw [ab hp,ih (i+1) _ (by omega) (by omega) N (by omega),wO,Rx hp]
 have:=d g 0 [] (by omega) (by simp) N a;simpa using this
theorem LR (n:Nat) (e:100<n) (a b:UInt8) {g:Nat} (h:g<=31):fp n [a,b] (g:Int)=some (uv (fitN [a,b] g)):=by
 unfold fp
 have:=Iy (step:=f8 n) (f:=λi out=>([a,b],(g:Int),(i:Int),out)) (y:=λl=>l) (p:=agr [a,b]) (g:=g) (by omega)
  (λi out hi j=>by
   have d:IntKind.wrap .i64 ((i:Int)+1)=((i+1:Nat):Int):=by rw [wrap_i64 _ (by omega) (by omega)];omega
   unfold f8;simp only [d];rw [aq (show (i:Int)<(g:Int) by omega),Nc n a b (by omega),room (by omega)];by_cases hp:agr [a,b] (i+1)=true
   ·rw [ae hp];simp only [ob,hp,ah]
   ·rw [ab hp];rw [HC] at hp;simp only [ob,hp,ah,af])
  (λout=>by
   unfold f8;simp only [ar (show ¬(g:Int)<(g:Int) by omega),af])
  (N:=n) (by omega)
 have c:av (f8 n) n ([a,b],(g:Int),0,([]:List Int))=_:=this;rw [c];rfl
def monI (m:aa):List Int:=if m=[] then [0] else if 0<sea m then [sea m] else uv (fitN m 12)
def dayI (d:aa):List Int:=if d=[] then [0] else uv (fitN d 31)
theorem fZ {l:aa} (h:l≠[]):(l==([]:aa))=false:=aJ.2 h
theorem len2 {s:aa} (h:s.length=2):∃a b,s=[a,b]:=by
 match s,h with
 | [a,b],_=>exact ⟨a,b,rfl⟩
theorem Yx (n:Nat) (j:100<n) (g l:Bool) (dg:aa) (x q:Int) (m d:aa) (k0 k1 k2:Int) (k:m=[]\/m.length=2) (p:d=[]\/d.length=2):
  pU n g l dg x q m d k0 k1 k2=some (g,l,dg,x,q,m,d,k0,k1,k2,monI m,dayI d):=by
 have i:m.length<=18:=by rcases k with h | h;(rw [h];simp);omega
 have f:d≠[]->fp n d 31=some (dayI d):=λh=>by
  obtain ⟨a,b,rfl⟩:=len2 (p.resolve_left h);rw [show (31:Int)=((31:Nat):Int) from rfl,LR n j a b (by omega)];unfold dayI;rw [ab h]
 have e:d=[]->dayI d=[0]:=λh=>by unfold dayI;rw [ae h]
 have o:m≠[]->¬0<sea m->fp n m 12=some (monI m):=λh hs=>by
  obtain ⟨a,b,rfl⟩:=len2 (k.resolve_left h);rw [show (12:Int)=((12:Nat):Int) from rfl,LR n j a b (by omega)];unfold monI;rw [ab h,ab hs]
 unfold pU;rw [qO n g l dg x q m d k0 k1 k2 i];simp only [ob];by_cases hs:0<sea m
 ·have c:m≠[]:=by rintro rfl;exact absurd hs (by decide)
  have hm':monI m=[sea m]:=by unfold monI;rw [ab c,ae hs]
  rw [aq hs];by_cases h:d=[]
  ·rw [h,<-h,e h,hm',h];rfl
  ·rw [fZ h,f h,hm'];rfl
 ·rw [ar hs];by_cases c:m=[]
  ·have hm':monI m=[0]:=by unfold monI;rw [ae c]
   by_cases h:d=[]
   ·rw [e h,hm',h,c];rfl
   ·rw [fZ h,f h,hm',c];rfl
  ·rw [fZ c,o c hs];by_cases h:d=[]
   ·rw [e h,h];rfl
   ·rw [fZ h,f h];rfl
theorem J2 (n:Nat) (c:100<n) (g l:Bool) (dg:aa) (x q:Int) (m d:aa) (k0 k1 k2:Int):jJ n g l dg x q m d k0 k1 k2=some (monI m):=by
 unfold jJ;by_cases a:m=[]
 ·unfold monI;rw [ae a,a];rfl
 ·rw [fZ a,lL n c];simp only [ob,af];unfold monI;rw [ab a];by_cases hs:0<sea m
  ·rw [ae hs,aq (show sea m>0 from hs)];rfl
  ·rw [ab hs,ar (show ¬sea m>0 from hs)]
   have:=Iy (step:=dT n) (f:=λi out=>(((i+1:Nat):Int),g,l,dg,x,q,m,d,k0,k1,k2,out)) (y:=λl=>l) (p:=agr m) (g:=12) (by omega)
    (λi out hi h=>by
     have b:IntKind.wrap .i64 (((i+1:Nat):Int)+1)=((i+1+1:Nat):Int):=by rw [wrap_i64 _ (by omega) (by omega)];omega
     unfold dT;simp only [d4,d8,b];rw [aq (show ((i+1:Nat):Int)<=12 by omega),vA n m (i+1) (by omega),room (by omega)];by_cases hp:agr m (i+1)=true
     ·rw [ae hp,ae hp];rfl
     ·rw [ab hp,ab hp];rfl)
    (λout=>by
     unfold dT;simp only [d4,d8,ar (show ¬((12+1:Nat):Int)<=12 by omega),af])
    (N:=n) (by omega)
   have e:av (dT n) n (1,g,l,dg,x,q,m,d,k0,k1,k2,([]:List Int))=_:=this;rw [e];rfl
def tw (y:Int):Bool:=decide (y%4=0)&&(decide (y%100≠0)||decide (y%400=0))
def lenI (y m:Int):Int:=if m=4\/m=6\/m=9\/m=11 then 30 else if m=2 then (if tw y then 29 else 28) else 31
theorem LA (y:Int) {b:Int} (c:0<b):(Int.tmod y b==0)=decide (y%b=0):=by
 rw [sI,bp,decide_eq_true_iff];have h:=Ns (a:=y) (b:=b);have g:=LD y (show b≠0 by omega);have f:=ME y c;by_cases hc:0<=y\/b∣y
 ·rw [ae hc] at h;omega
 ·rw [ab hc] at h;have d:¬b∣y:=λe=>hc (.inr e);have:y%b≠0:=λe=>d (OQ e);omega
theorem BV (n:Nat) (y m:Int):eG n y m=some (lenI y m):=by
 have b:(Int.tmod y 100 != 0)=decide (y%100≠0):=by
  rw [bne,LA y (by omega)];by_cases h:y%100=0<;>simp [h]
 unfold eG;rw [LA y (by omega),LA y (by omega),b];have body:(cond (m==2) (cond (decide (y%4=0)) (cond (decide (y%100≠0)) (some (29:Int)) (cond (decide (y%400=0)) (some 29) (some 28))) (some 28)) (some 31))=some (if m=2 then (if tw y=true then 29 else 28) else 31):=by
  rw [gK];by_cases c:m=2
  ·rw [ae c,ae c];unfold tw;cases decide (y%4=0)<;>cases decide (y%100≠0)<;>cases decide (y%400=0)<;>rfl
  ·rw [ab c,ab c]
 rw [body];unfold lenI;by_cases e:m=4
 ·subst e;rfl
 ·by_cases f:m=6
  ·subst f;rfl
  ·by_cases d:m=9
   ·subst d;rfl
   ·by_cases a:m=11
    ·subst a;rfl
    ·rw [aJ.2 e,aJ.2 f,aJ.2 d,aJ.2 a,ab (show ¬(m=4\/m=6\/m=9\/m=11) by omega)];rfl
theorem yC (n:Nat) {y:Int} (h:-20000000000000000<=y/\y<=20000000000000000):fB n y=some (1+(y - 1) / 4 - (y - 1) / 100+(y - 1) / 400):=by
 unfold fB;rw [wrap_i64 (y - 1) (by omega) (by omega),ym n (by omega) (by omega) (by omega) (by omega),ym n (by omega) (by omega) (by omega) (by omega),ym n (by omega) (by omega) (by omega) (by omega)];show some _=some _;have f:-5000000000000001<=(y - 1) / 4/\(y - 1) / 4<=5000000000000001:=by omega
 have d:-5000000000000001<=(y - 1) / 100/\(y - 1) / 100<=5000000000000001:=by omega
 have e:-5000000000000001<=(y - 1) / 400/\(y - 1) / 400<=5000000000000001:=by omega
 generalize (y - 1) / 4=a at *;generalize (y - 1) / 100=b at *;generalize (y - 1) / 400=c at *;simp only [];rw [wrap_i64 (1*a) (by omega) (by omega),wrap_i64 (-1*b) (by omega) (by omega),wrap_i64 (1*c) (by omega) (by omega),wrap_i64 (1+1*a) (by omega) (by omega),wrap_i64 (1+1*a+-1*b) (by omega) (by omega),wrap_i64 _ (by omega) (by omega)];congr 1;omega
theorem Q4 (y:Int):(1+y / 4 - y / 100+y / 400>1+(y - 1) / 4 - (y - 1) / 100+(y - 1) / 400)↔tw y=true:=by
 unfold tw;simp only [aD,gX,cr];omega
theorem TS (n:Nat) {y:Int} (h:dZ y):kJ n y=some (tw y,0):=by
 unfold kJ;have h':=h;unfold dZ at h';rw [gF,ae h,wrap_i64 (y+1) (by omega) (by omega),yC n (by omega),yC n (by omega),show y+1 - 1=y by omega];have b:=Q4 y;show some (decide (1+y / 4 - y / 100+y / 400>1+(y - 1) / 4 - (y - 1) / 100+(y - 1) / 400),(0:Int))=_;by_cases a:tw y=true
 ·rw [a,aq (b.2 a)]
 ·rw [HC] at a;rw [a,ar (λe=>by rw [b.1 e] at a;cases a)]
theorem yJ (n:Nat) {y:Int} (h:dZ y) {m:Nat} (d:1<=m) (c:m<=12):eJ n y (m:Int)=some (lenI y (m:Int)):=by
 unfold eJ;rw [TS n h];show cond (tw y&&((m:Int)==2)) _ _=_;have a:IntKind.wrap .i64 ((m:Int) - 1)=((m - 1:Nat):Int):=by rw [wrap_i64 _ (by omega) (by omega)];omega
 rw [a,dD (show m - 1<12 by omega)];have b:m=1\/m=2\/m=3\/m=4\/m=5\/m=6\/m=7\/m=8\/m=9\/m=10\/m=11\/m=12:=by omega
 rcases b with rfl | rfl | rfl | rfl | rfl | rfl | rfl | rfl | rfl | rfl | rfl | rfl<;>unfold lenI<;>cases tw y<;>rfl
theorem KL (n:Nat) {y:Int} (h:dZ y) {m:Nat} (b:1<=m) (a:m<=12):pQ n y (m:Int)=some (lenI y (m:Int),0):=by
 unfold pQ;rw [Hy n h b a,yJ n h b a];rfl
theorem jM (y m:Int):28<=lenI y m/\lenI y m<=31:=by
 unfold lenI;split
 ·omega
 ·split
  ·split<;>omega
  ·omega
def vT (d:aa) (y m:Int):Int:=if d=[] then 0 else lenI y m
def vE (d:aa) (y a:Int):List (Int×Int×Int):=((dayI d).filter λk=>decide (k<=vT d y a)).map λk=>(y,a,k)
def vV (m d:aa) (y:Int):List (Int×Int×Int):=(monI m).flatMap (vE d y)
theorem Le {X Y A:Type} {step:X->Option (X⊕Y)} {f:Nat->List A->X} {y:List A->Y} {p:Nat->Bool} {e:Nat->A} {g:Nat} (a:List A)
  (h:∀i out,i<g->out.length<=a.length+i->step (f i out)=some (.inl (f (i+1) (if p (i+1) then out++[e (i+1)] else out))))
  (c:∀out,step (f g out)=some (.inr (y out))) {N:Nat} (b:g<N):av step N (f 0 a)=some (y (a++((List.range' 1 g).filter p).map e)):=by
 have j:∀(r i:Nat) (out:List A),i+r=g->out.length<=a.length+i->∀N,r<N->av step N (f i out)=some (y (out++((List.range' (i+1) r).filter p).map e)):=by
  intro r
  induction r with
  | zero=>
   intro i out hi d N b;obtain ⟨N,rfl⟩:∃q,N=q+1:=⟨N - 1,by omega⟩;obtain rfl:i=g:=by omega
   rw [av,c];simp
  | succ r ih=>
   intro i out hi d N b;obtain ⟨N,rfl⟩:∃q,N=q+1:=⟨N - 1,by omega⟩;rw [av,h i out (by omega) (by omega)];show av step N _=_;by_cases hp:p (i+1)=true
   ·rw [ae hp,ih (i+1) _ (by omega) (by simp;omega) N (by omega),wO,Ri hp];simp
   ·rw [ab hp,ih (i+1) _ (by omega) (by omega) N (by omega),wO,Rx hp]
 exact j g 0 a (by omega) (by omega) N b
theorem Nl {X Y A B:Type} {step:X->Option (X⊕Y)} {f:Nat->List A->X} {y:List A->Y} {F:B->List A} {L:List B} {c:Nat} (hc:∀b∈L,(F b).length<=c)
  (h:∀i b out,L[i]?=some b->out.length<=c*i->step (f i out)=some (.inl (f (i+1) (out++F b))))
  (e:∀out,step (f L.length out)=some (.inr (y out))) {N:Nat} (a:L.length<N):av step N (f 0 [])=some (y (L.flatMap F)):=by
 have g:∀(r i:Nat) (out:List A),i+r=L.length->out.length<=c*i->∀N,r<N->av step N (f i out)=some (y (out++(L.drop i).flatMap F)):=by
  intro r
  induction r with
  | zero=>
   intro i out hi d N a;obtain ⟨N,rfl⟩:∃q,N=q+1:=⟨N - 1,by omega⟩;obtain rfl:i=L.length:=by omega
   rw [av,e];simp
  | succ r ih=>
   intro i out hi d N a;obtain ⟨N,rfl⟩:∃q,N=q+1:=⟨N - 1,by omega⟩;have j:L[i]?=some L[i]:=aW (by omega);rw [av,h i L[i] out j d];show av step N _=_;have k:=hc L[i] (List.getElem_mem _);rw [ih (i+1) _ (by omega) (by rw [bv,Nat.mul_add];omega) N (by omega),pE (show i<L.length by omega),om,fE]
 have:=g L.length 0 [] (by omega) (by simp) N a;simpa using this
theorem U9 (d:aa) (L:Nat) (h:L<=31):(uv (fitN d 31)).filter (λk=>decide (k<=(L:Int)))=uv ((List.range' 1 L).filter (agr d)):=by
 have hs:List.range' 1 31=List.range' 1 L++List.range' (1+L) (31 - L):=by
  have:=List.range'_append_1 (s:=1) (m:=L) (n:=31 - L);rw [this,show L+(31 - L)=31 by omega]
 unfold fitN uv;rw [hs,K6,GQ,K6];have e:(List.map (λk:Nat=>(k:Int)) (List.filter (agr d) (List.range' 1 L))).filter (λk=>decide (k<=(L:Int)))=List.map (λk:Nat=>(k:Int)) (List.filter (agr d) (List.range' 1 L)):=by
  rw [List.filter_eq_self];intro k a;obtain ⟨j,b,rfl⟩:=ek.1 a;have:=tP.1 (lQ.1 b).1;exact aq (by omega)
 have c:(List.map (λk:Nat=>(k:Int)) (List.filter (agr d) (List.range' (1+L) (31 - L)))).filter (λk=>decide (k<=(L:Int)))=[]:=by
  rw [List.filter_eq_nil_iff];intro k a;obtain ⟨j,b,rfl⟩:=ek.1 a;have:=tP.1 (lQ.1 b).1;simp only [cr];omega
 rw [e,c,kC]
theorem Io (s:aa) (g:Nat):(fitN s g).length<=g:=by
 have:=CM (agr s) (List.range' 1 g);rw [List.length_range'] at this;exact this
theorem IP (d:aa):(dayI d).length<=31:=by
 unfold dayI;split
 ·simp
 ·rw [EF];exact Io d 31
theorem If (m:aa):(monI m).length<=12:=by
 unfold monI;split
 ·simp
 ·split
  ·simp
  ·rw [EF];exact Io m 12
theorem Jp (d:aa) (y a:Int):(vE d y a).length<=31:=by
 unfold vE;rw [Bi];exact rF (CM _ _) (IP d)
theorem Ot (y a:Int):vE [] y a=[(y,a,0)]:=rfl
theorem Jv {d:aa} (h:d≠[]) (y a:Int):vE d y a=((List.range' 1 (lenI y a).toNat).filter (agr d)).map λk:Nat=>(y,a,(k:Int)):=by
 have b:=jM y a;unfold vE dayI vT;rw [ab h,ab h];have:=U9 d (lenI y a).toNat (by omega);rw [show (((lenI y a).toNat:Nat):Int)=lenI y a by omega] at this;rw [this,uv,uW];rfl
theorem Jb (n:Nat) (v:100<n) (g l:Bool) (dg:aa) (x q:Int) (m d:aa) (k0 k1 k2 y:Int):
  kU n g l dg x q m d k0 k1 k2 y=some (vV m d y):=by
 have z:=If m;unfold kU;rw [J2 n v];have:=Nl (step:=eS n) (f:=λi out=>(y,(i:Int),g,l,dg,x,q,m,d,k0,k1,k2,monI m,out)) (y:=λo=>o) (F:=vE d y) (L:=monI m) (c:=31) (λb _=>Jp d y b)
  (λi h out hi D=>by
   have a:i<(monI m).length:=(rf.1 hi).1;have t:IntKind.wrap .i64 ((i:Int)+1)=((i+1:Nat):Int):=by rw [wrap_i64 _ (by omega) (by omega)];omega
   unfold eS;simp only [d4,d8,t];rw [aq (show (i:Int)<(((monI m).length:Nat):Int) by omega),dD a];by_cases r:d=[]
   ·subst r;rw [Ot];simp only [ob,hi,ah,room (show out.length<=60000000 by omega)];rfl
   ·rw [fZ r];have C:=jM y h;have s:=Le (step:=eQ n) (f:=λj o=>(y,(i:Int),((j+1:Nat):Int),g,l,dg,x,q,m,d,k0,k1,k2,monI m,o)) (y:=λo=>(y,(i:Int),g,l,dg,x,q,m,d,k0,k1,k2,monI m,o)) (p:=agr d) (e:=λk=>(y,h,(k:Int))) (g:=(lenI y h).toNat) out
     (λj o B u=>by
      have A:IntKind.wrap .i64 (((j+1:Nat):Int)+1)=((j+1+1:Nat):Int):=by rw [wrap_i64 _ (by omega) (by omega)];omega
      unfold eQ;simp only [d4,d8,A,dD a,ob,hi,BV];rw [aq (show ((j+1:Nat):Int)<=lenI y h by omega),vA n d (j+1) (by omega),room (show o.length<=60000000 by omega)];by_cases hp:agr d (j+1)=true
      ·rw [ae hp,ae hp];rfl
      ·rw [ab hp,ab hp];rfl)
     (λo=>by
      unfold eQ;simp only [d4,d8,dD a,ob,hi,BV];rw [ar (show ¬(((lenI y h).toNat+1:Nat):Int)<=lenI y h by omega)];rfl)
     (N:=n) (by omega)
    have hin':av (eQ n) n (y,(i:Int),1,g,l,dg,x,q,m,d,k0,k1,k2,monI m,out)=_:=s;simp only [ah,af];rw [hin',Jv r];simp only [ob,d4,d8,t])
  (λout=>by
   unfold eS;simp only [d4,d8];rw [ar (show ¬(((monI m).length:Nat):Int)<(((monI m).length:Nat):Int) by omega)];rfl)
  (N:=n) (by omega)
 have w:av (eS n) n (y,0,g,l,dg,x,q,m,d,k0,k1,k2,monI m,([]:List (Int×Int×Int)))=_:=this;simp only [ob];rw [w];rfl
theorem Xc {a b c e:UInt8} (k:bg a=true\/a=88) (l:bg b=true\/b=88) (hc:bg c=true\/c=88) (j:bg e=true\/e=88) (w:Nat):
  mtk [a,b,c,e] 4 w=Mk.ag [e,c,b,a] (w:Int):=by
 have one:∀(z:UInt8) (v:Nat),(decide (z=88)||decide (z.toNat=48+v%10))=(decide (z=88)||decide (Mk.dv z=(v:Int)%10)):=by
  intro z v;have:(z.toNat=48+v%10)↔(Mk.dv z=(v:Int)%10):=by unfold Mk.dv;omega
  rw [nV.2 this]
 have d:∀v:Nat,(v:Int) / 10=((v / 10:Nat):Int):=λv=>by omega
 show ((decide (e=88)||decide (e.toNat=48+w%10))&&((decide (c=88)||decide (c.toNat=48+w / 10%10))&&((decide (b=88)||decide (b.toNat=48+w / 10 / 10%10))&&((decide (a=88)||decide (a.toNat=48+w / 10 / 10 / 10%10))&&true))))
  = ((((true&&(decide (a=88)||decide (Mk.dv a=(w:Int) / 10 / 10 / 10%10)))&&(decide (b=88)||decide (Mk.dv b=(w:Int) / 10 / 10%10)))&&(decide (c=88)||decide (Mk.dv c=(w:Int) / 10%10)))&&(decide (e=88)||decide (Mk.dv e=(w:Int)%10)))
 rw [one e w,one c (w / 10),one b (w / 10 / 10),one a (w / 10 / 10 / 10),d w,d (w / 10),d (w / 10 / 10)];generalize (decide (e=88)||decide (Mk.dv e=(w:Int)%10))=f;generalize (decide (c=88)||decide (Mk.dv c=((w / 10:Nat):Int)%10))=i;generalize (decide (b=88)||decide (Mk.dv b=((w / 10 / 10:Nat):Int)%10))=g;generalize (decide (a=88)||decide (Mk.dv a=((w / 10 / 10 / 10:Nat):Int)%10))=h;cases f<;>cases i<;>cases g<;>cases h<;>rfl
theorem TB {c:UInt8} (h:bg c=true\/c=88):Mk.okB c=true:=by
 rcases h with h | h
 ·have h:=(cb c).1 h;unfold Mk.okB;simp only [gX,aD,cr];right
  first | omega | (obtain ⟨b,a⟩:=h;constructor<;>omega)
 ·subst h;decide
theorem Qr {d:aa} (a:d.length=4) (h:∀c∈d,bg c=true\/c=88):Mk.chk d=0:=by
 unfold Mk.chk;have:d.all Mk.okB=true:=bW.2 λc hc=>TB (h c hc);rw [ab (by omega),ae this,ab (by rintro rfl;simp at a)]
theorem HV {d:aa} (i:d.length=4) (h:∀c∈d,bg c=true\/c=88) (w:Nat):Mk.hasM d (w:Int)=true↔mtk d 4 w=true/\w / 10 ^ 4=0:=by
 obtain ⟨a,b,c,e,rfl⟩:∃a b c e,d=[a,b,c,e]:=by
  match d,i with
  | [a,b,c,e],_=>exact ⟨a,b,c,e,rfl⟩
 rw [Mk.FK,Xc (h a (by simp)) (h b (by simp)) (h c (by simp)) (h e (by simp)) w];simp only [aD,cr];show 0<=(w:Int)/\(w:Int)<10 ^ 4/\Mk.ag [e,c,b,a] (w:Int)=true↔Mk.ag [e,c,b,a] (w:Int)=true/\w / 10 ^ 4=0;have j:(10:Int) ^ 4=10000:=by decide
 have e4':(10:Nat) ^ 4=10000:=by decide
 rw [j,e4'];constructor
 ·rintro ⟨_,g,f⟩;exact ⟨f,by omega⟩
 ·rintro ⟨f,g⟩;exact ⟨by omega,by omega,f⟩
theorem iO9 {g l:Bool} {d:aa} {x q:Int} (a:okY g l d x q) (b:hasX d=true) (v:Int):inP g d x q v↔(Mk.hasM d (wOf g v)=true/\(g=true->1<=wOf g v)):=by
 obtain ⟨rfl,rfl,rfl,h,j⟩:=rK a b;unfold inP;rw [IE b];have n:∀k:Int,Mk.hasM d k=true->0<=k/\k<10000:=λk r=>by
  have:=(Mk.oK r).2.2.2.2;rw [h] at this;have t:(10:Int) ^ 4=10000:=by decide
  omega
 constructor
 ·rintro ⟨c,i,w,p,o⟩;have:=(HV h j (wOf g v).toNat).2 o;rw [show (((wOf g v).toNat:Nat):Int)=wOf g v by omega] at this;refine ⟨this,λf=>?_⟩;have s:¬wOf g v=0:=λe=>p ⟨b,f,e⟩;omega
 ·rintro ⟨c,i⟩;have hr':=n _ c;have m:=(HV h j (wOf g v).toNat).1 (by rw [show (((wOf g v).toNat:Nat):Int)=wOf g v by omega];exact c);have u:v=wOf g v\/v=- wOf g v:=by
   unfold wOf;split
   ·right;omega
   ·left;rfl
  refine ⟨by omega,by omega,hr'.1,?_,m⟩;rintro ⟨_,f,e⟩;have:=i f;omega
theorem Fg {g l:Bool} {d:aa} {x:Int} (a:okY g l d x 0) (b:hasX d=false) (v:Int):inP g d x 0 v↔v=(if g then -((val d x.toNat:Nat):Int) else ((val d x.toNat:Nat):Int)):=by
 obtain ⟨k,q,rfl,n,m⟩:=sR a b;have hs:=m.small;have c:dval 0 d*10 ^ k=val d k:=rfl;rw [c] at hs;unfold E16 at hs;unfold inP;rw [RY b];have f:Fz d (k:Int).toNat (0:Int).toNat=1:=rfl;rw [f,bY,tU,tU,b];unfold wOf;cases g with
 | true=>
  simp only [aM];constructor
  ·rintro ⟨h,e,j,_,i⟩;omega
  ·rintro rfl;refine ⟨by omega,by omega,by omega,by simp,by omega⟩
 | false=>
  simp only [bs,aG];constructor
  ·rintro ⟨h,e,j,_,i⟩;omega
  ·rintro rfl;refine ⟨by omega,by omega,by omega,by simp,by omega⟩
def FX (up:Bool) (Y:Int->Prop) (v w:Int) (a:Bool):Prop:=
 (a=true->Y w/\Mk.fh up v w/\∀e,Y e->Mk.fh up v e->Mk.fh up w e)/\(a=false->∀e,Y e->¬Mk.fh up v e)
theorem fq (a b:Int):Mk.fh true a b↔a<=b:=Iff.rfl
theorem ip (a b:Int):Mk.fh false a b↔b<=a:=Iff.rfl
theorem Ru (o:Option Int):(Mk.res o).2=0/\(∃r,o=some r/\(Mk.res o).1=r)\/(Mk.res o).2=16/\o=none/\(Mk.res o).1=0:=by
 cases o with
 | none=>exact .inr ⟨rfl,rfl,rfl⟩
 | some r=>exact .inl ⟨rfl,r,rfl,rfl⟩
theorem vO {m:aa} (j:Mk.chk m=0) (v a:Int) (q:0<=a):∃w f,fK 20000000 m v true a=some (w,f)/\FX true (λe=>Mk.hasM m e=true/\a<=e) v w f/\(0<=w/\w<1000000000000000000):=by
 obtain ⟨o,l,c⟩:=Mk.M8 j (cond (decide (a>v)) a v);unfold fK;rw [l];simp only [ob,ah];have hc:(cond (decide (a>v)) a v)=max v a:=by
  by_cases h:a>v
  ·rw [aq h];show a=_;omega
  ·rw [ar h];show v=_;omega
 rw [hc] at c;rcases Ru o with ⟨i,r,rfl,d⟩ | ⟨i,rfl,d⟩
 ·refine ⟨_,_,rfl,?_,?_⟩
  ·rw [i,d];obtain ⟨a1,a2,n⟩:=c;rw [fq] at a2;refine ⟨λ_=>⟨⟨a1,by omega⟩,?_,λe b g=>?_⟩,λh=>by cases h⟩
   ·rw [fq];omega
   ·rw [fq] at g;exact n e b.1 (by rw [fq];have:=b.2;omega)
  ·have:=(Mk.oK c.1).2.2.2.2;have p:=Mk.n6 j;have hp:(10:Int) ^ m.length<=10 ^ 18:=by
    have:=ll (show 0<10 by decide) p.1
    exact_mod_cast this
   have k:(10:Int) ^ 18=1000000000000000000:=by decide
   rw [d];omega
 ·refine ⟨_,_,rfl,?_,by rw [d];omega⟩;rw [i];refine ⟨(λh=>by cases h),λ_ e b g=>?_⟩;rw [fq] at g;exact c e b.1 (by rw [fq];have:=b.2;omega)
theorem vL {m:aa} (j:Mk.chk m=0) (v a:Int) (s:0<=a):∃w f,fK 20000000 m v false a=some (w,f)/\FX false (λe=>Mk.hasM m e=true/\a<=e) v w f/\(0<=w/\w<1000000000000000000):=by
 obtain ⟨o,p,k⟩:=Mk.Lp j v;unfold fK;rw [p];simp only [ob,af];rcases Ru o with ⟨i,r,rfl,g⟩ | ⟨i,rfl,g⟩
 ·rw [i,g];obtain ⟨a1,a2,l⟩:=k;rw [ip] at a2;have t:=(Mk.oK a1).2.2.2.2;have q:=Mk.n6 j;have hp:(10:Int) ^ m.length<=10 ^ 18:=by
   have:=ll (show 0<10 by decide) q.1
   exact_mod_cast this
  have n:(10:Int) ^ 18=1000000000000000000:=by decide
  refine ⟨_,_,rfl,?_,by omega⟩;by_cases c:r>=a
  ·rw [aq c];refine ⟨λ_=>⟨⟨a1,by omega⟩,by rw [ip];omega,λe b d=>l e b.1 d⟩,λh=>by cases h⟩
  ·rw [ar c];refine ⟨(λh=>by cases h),λ_ e b d=>?_⟩;have:=l e b.1 d;rw [ip] at this;have:=b.2;omega
 ·rw [i,g];refine ⟨_,_,rfl,?_,by omega⟩;refine ⟨(λh=>by cases h),λ_ e b d=>k e b.1 d⟩
theorem MB {g l:Bool} {dg:aa} {x:Int} (j:okY g l dg x 0) (m d:aa) (k0 k1 k2:Int) (v:Int) (G:-9223372036854775808<=v/\v<9223372036854775808) (up:Bool) (B D:List Int):
  ∃w f,cA 20000000 g l dg x 0 m d k0 k1 k2 v up B D=some (w,f)/\FX up (inP g dg x 0) v w f:=by
 have E:=jf j;unfold cA;rw [uz];simp only [ob];cases s:hasX dg with
 | false=>
  have c:=Fg j s;rw [BL 20000000 g l dg x 0 (by omega) (by omega),ae ⟨j,s⟩];simp only [jA,ah];generalize (if g then -((val dg x.toNat:Nat):Int) else ((val dg x.toNat:Nat):Int))=w at *;cases up with
  | true=>
   by_cases h:w>=v
   ·refine ⟨w,true,?_,?_⟩
    ·simp only [aq h,ah]
    ·refine ⟨λ_=>⟨(c w).2 rfl,h,λe b _=>?_⟩,λh=>by cases h⟩;rw [(c e).1 b];exact sL _
   ·refine ⟨w,false,?_,?_⟩
    ·simp only [ar h,ah,af,dn]
    ·refine ⟨(λh=>by cases h),λ_ e b k=>?_⟩;rw [(c e).1 b,fq] at k;omega
  | false=>
   by_cases h:w<=v
   ·refine ⟨w,true,?_,?_⟩
    ·simp only [aq h,ah,af,jA]
    ·refine ⟨λ_=>⟨(c w).2 rfl,h,λe b _=>?_⟩,λh=>by cases h⟩;rw [(c e).1 b];exact sL _
   ·refine ⟨w,false,?_,?_⟩
    ·simp only [ar h,ah,af,jA]
    ·refine ⟨(λh=>by cases h),λ_ e b k=>?_⟩;rw [(c e).1 b,ip] at k;omega
 | true=>
  have c:=iO9 j s;obtain ⟨rfl,rfl,_,A,C⟩:=rK j s;have t:=Qr A C;simp only [dn,af];cases g with
  | false=>
   simp only [jA,ah];have q:∀w f,FX up (λe=>Mk.hasM dg e=true/\0<=e) v w f->FX up (inP false dg 0 0) v w f:=λw f h=>by
    have a:∀e,(Mk.hasM dg e=true/\0<=e)↔inP false dg 0 0 e:=λe=>by
     rw [c e];constructor
     ·rintro ⟨i,_⟩;exact ⟨i,λh=>by cases h⟩
     ·rintro ⟨i,_⟩;exact ⟨i,(Mk.oK i).2.2.2.2.1⟩
    refine ⟨λn=>?_,λn e b=>h.2 n e ((a e).2 b)⟩;obtain ⟨b1,b2,r⟩:=h.1 n;exact ⟨(a w).1 b1,b2,λe b=>r e ((a e).2 b)⟩
   cases up with
   | true=>
    obtain ⟨w,f,i,p,_⟩:=vO t v 0 (by omega);exact ⟨w,f,by rw [i],q w f p⟩
   | false=>
    obtain ⟨w,f,i,p,_⟩:=vL t v 0 (by omega);exact ⟨w,f,by rw [i],q w f p⟩
  | true=>
   simp only [dn,af];have hc:IntKind.wrap .i64 (0 - (cond (decide (((-9223372036854775807):Int)>v)) (-9223372036854775807) v))=min (-v) 9223372036854775807:=by
    by_cases h:((-9223372036854775807):Int)>v
    ·rw [aq h,ah,wrap_i64 _ (by omega) (by omega)];omega
    ·rw [ar h,af,wrap_i64 _ (by omega) (by omega)];omega
   rw [hc];have u:∀e,Mk.hasM dg e=true->0<=e/\e<10000:=λe b=>by
    have:=(Mk.oK b).2.2.2.2;rw [A] at this;have H:(10:Int) ^ 4=10000:=by decide
    omega
   have a:∀e,inP true dg 0 0 e↔(Mk.hasM dg (-e)=true/\1<=-e):=λe=>by
    rw [c e];exact ⟨λh=>⟨h.1,h.2 rfl⟩,λh=>⟨h.1,λ_=>h.2⟩⟩
   have z:∀w:Int,0<=w/\w<1000000000000000000->IntKind.wrap .i64 (0 - w)=-w:=λw h=>by rw [wrap_i64 _ (by omega) (by omega)];omega
   cases up with
   | true=>
    obtain ⟨w,f,i,p,y⟩:=vL t (min (-v) 9223372036854775807) 1 (by omega);refine ⟨-w,f,by rw [dn,i];simp only [z w y],?_,?_⟩
    ·intro n;obtain ⟨b1,b2,r⟩:=p.1 n;rw [ip] at b2;refine ⟨(a _).2 (by rw [Int.neg_neg];exact b1),by rw [fq];omega,λe b k=>?_⟩;rw [fq] at k;have o:=(a e).1 b;have:=r (-e) o (by rw [ip];have:=u _ o.1;omega);rw [ip] at this;rw [fq];omega
    ·intro n e b k;rw [fq] at k;have o:=(a e).1 b;exact p.2 n (-e) o (by rw [ip];have:=u _ o.1;omega)
   | false=>
    obtain ⟨w,f,i,p,y⟩:=vO t (min (-v) 9223372036854775807) 1 (by omega);refine ⟨-w,f,by rw [jA,i];simp only [z w y],?_,?_⟩
    ·intro n;obtain ⟨b1,b2,r⟩:=p.1 n;rw [fq] at b2;have F:=u _ b1.1;refine ⟨(a _).2 (by rw [Int.neg_neg];exact b1),by rw [ip];omega,λe b k=>?_⟩;rw [ip] at k;have o:=(a e).1 b;have:=r (-e) o (by rw [fq];omega);rw [fq] at this;rw [ip];omega
    ·intro n e b k;rw [ip] at k;have o:=(a e).1 b;exact p.2 n (-e) o (by rw [fq];omega)
theorem ul {X Y A:Type} {step:X->Option (X⊕Y)} {f:Nat->X} {L:List A} {G:A->Option Y} {e:Y}
  (h:∀i a,L[i]?=some a->step (f i)=some ((G a).elim (.inl (f (i+1))) Sum.inr)) (c:step (f L.length)=some (.inr e)) {N:Nat} (b:L.length<N):
  av step N (f 0)=some ((L.findSome? G).getD e):=by
 have d:∀(r i:Nat),i+r=L.length->∀N,r<N->av step N (f i)=some (((L.drop i).findSome? G).getD e):=by
  intro r
  induction r with
  | zero=>
   intro i hi N b;obtain ⟨N,rfl⟩:∃q,N=q+1:=⟨N - 1,by omega⟩;obtain rfl:i=L.length:=by omega
   rw [av,c];simp
  | succ r ih=>
   intro i hi N b;obtain ⟨N,rfl⟩:∃q,N=q+1:=⟨N - 1,by omega⟩;have g:L[i]?=some L[i]:=aW (by omega);rw [av,h i L[i] g,pE (show i<L.length by omega),DG];cases j:G L[i] with
   | some y=>rfl
   | none=>exact ih (i+1) (by omega) N (by omega)
 have:=d L.length 0 (by omega) N b;simpa using this
def ahd (up:Bool) (a b:Int):Bool:=cond up (decide (a<b)) (decide (a>b))
theorem GY (n:Nat) (a b:Int) (up:Bool):cV n a b up=some (ahd up a b):=by
 unfold cV ahd;cases up
 ·rfl
 ·simp only [ah,dn,af];cases decide (a<b)<;>rfl
def Bh (up a:Bool) (d:aa) (b most k:Int):Bool:=decide (k<=most)&&!(a&&(!(d==([]:aa))&&ahd up k b))
def Oc (up:Bool) (m:aa) (c a y b:Int):Bool:=(y==c)&&(!(m==([]:aa))&&ahd up b a)
def Jr (m:aa) (c a y b:Int):Bool:=(y==c)&&((m==([]:aa))||(b==a))
def FN (up:Bool) (m d:aa) (b c e y:Int) (f:List Int) (a:Int):Option (Int×Int×Int):=
 if Oc up m b c y a then none else (f.find? (Bh up (Jr m b c y a) d e (vT d y a))).map λk=>(y,a,k)
def GP (up:Bool) (m d:aa) (b c e:Int) (f a:List Int) (y:Int):Option (Int×Int×Int):=f.findSome? (FN up m d b c e y a)
def NH (d:aa) (b:List Int):Prop:=b.length<=31/\(d≠[]->∀a∈b,1<=a/\a<=12)
theorem NU (n:Nat) (g l:Bool) (dg:aa) (x q:Int) (m d:aa) (k0 k1 k2:Int) {y:Int} (hy:dZ y) {a:Int} (c:d≠[]->1<=a/\a<=12) (e f:List Int):
  fa n g l dg x q m d k0 k1 k2 y a e f=some (vT d y a):=by
 unfold fa vT;by_cases b:d=[]
 ·subst b;rfl
 ·rw [fZ b,ab b];have:=c b;obtain ⟨k,rfl⟩:∃k:Nat,a=(k:Int):=⟨a.toNat,by omega⟩;rw [af,KL n hy (by omega) (by omega)];rfl
theorem UI {A B Y:Type} (L:List A) (p:A->Bool) (F:A->B) (J:B->Y) (e:Y):(L.findSome? λa=>if p a then some (J (F a)) else none).getD e=((L.find? p).map F).elim e J:=by
 induction L with
 | nil=>rfl
 | cons a L ih=>
  rw [List.find?_cons,DG];cases h:p a
  ·simpa using ih
  ·simp
theorem Vv {A B Y:Type} (L:List A) (G:A->Option B) (J:B->Y) (e:Y):(L.findSome? λa=>(G a).map J).getD e=(L.findSome? G).elim e J:=by
 induction L with
 | nil=>rfl
 | cons a L ih=>
  rw [DG,DG];cases h:G a
  ·simpa using ih
  ·simp
theorem O1 (n:Nat) (s y f:Int) (a:Bool) (most t r:Int) (v b:List Int) (g l:Bool) (dg:aa) (x q:Int) (m d:aa) (k0 k1 k2 o p c:Int) (up:Bool) (u j rd:Int) (i:Nat) (k:Int) (hi:b[i]?=some k) (w:i<1000):
  bO n (s,y,f,a,most,t,r,((b.length:Nat):Int),(i:Int),v,b,g,l,dg,x,q,m,d,k0,k1,k2,o,p,c,up,u,j,rd)=some ((if Bh up a d c most k then some (.inl (true,y,f,k)) else none).elim (.inl (s,y,f,a,most,t,r,((b.length:Nat):Int),((i+1:Nat):Int),v,b,g,l,dg,x,q,m,d,k0,k1,k2,o,p,c,up,u,j,rd)) Sum.inr):=by
 have e:i<b.length:=(rf.1 hi).1;have h:IntKind.wrap .i64 ((i:Int)+1)=((i+1:Nat):Int):=by rw [wrap_i64 _ (by omega) (by omega)];omega
 unfold bO iJ Bh;simp only [d4,d8,d16,dD e,hi,ob,h,GY];rw [aq (show (i:Int)<((b.length:Nat):Int) by omega)];simp only [ah];cases decide (k<=most)<;>cases a<;>cases (d==([]:aa))<;>cases ahd up k c<;>simp only [dn,jA,ah,af,h]<;>rfl
theorem S7 (n:Nat) (s y p:Int) (b:Bool) (most j h:Int) (o a:List Int) (g l:Bool) (dg:aa) (x q:Int) (m d:aa) (k0 k1 k2 e f i:Int) (up:Bool) (k c rd:Int):
  bO n (s,y,p,b,most,j,h,((a.length:Nat):Int),((a.length:Nat):Int),o,a,g,l,dg,x,q,m,d,k0,k1,k2,e,f,i,up,k,c,rd)=some (.inr (.inr (s,y,j,h,o,a,g,l,dg,x,q,m,d,k0,k1,k2,e,f,i,up,k,c,rd))):=by
 unfold bO;simp only [d4,d8,d16];rw [ar (show ¬((a.length:Nat):Int)<((a.length:Nat):Int) by omega)];rfl
theorem TV (n:Nat) (A:1000<n) (s y h:Int) (a:Bool) (most t r:Int) (v b:List Int) (g l:Bool) (dg:aa) (x q:Int) (m d:aa) (k0 k1 k2 o p c:Int) (up:Bool) (u j rd:Int) (B:b.length<=31):
  av (bO n) n (s,y,h,a,most,t,r,((b.length:Nat):Int),0,v,b,g,l,dg,x,q,m,d,k0,k1,k2,o,p,c,up,u,j,rd)=some (((b.find? (Bh up a d c most)).map (λk=>(y,h,k))).elim (.inr (s,y,t,r,v,b,g,l,dg,x,q,m,d,k0,k1,k2,o,p,c,up,u,j,rd)) (λz=>.inl (true,z))):=by
 have:=ul (step:=bO n) (f:=λi=>(s,y,h,a,most,t,r,((b.length:Nat):Int),(i:Int),v,b,g,l,dg,x,q,m,d,k0,k1,k2,o,p,c,up,u,j,rd)) (L:=b) (G:=λk=>if Bh up a d c most k then some (.inl (true,y,h,k)) else none) (e:=.inr (s,y,t,r,v,b,g,l,dg,x,q,m,d,k0,k1,k2,o,p,c,up,u,j,rd))
  (λi k hi=>by
   have w:i<b.length:=(rf.1 hi).1;exact O1 n s y h a most t r v b g l dg x q m d k0 k1 k2 o p c up u j rd i k hi (by omega))
  (S7 n s y h a most t r v b g l dg x q m d k0 k1 k2 o p c up u j rd) (N:=n) (by omega)
 exact this.trans (cD some (UI b (Bh up a d c most) (λk=>(y,h,k)) (λz=>Sum.inl (true,z)) _))
theorem Pv (n:Nat) (C:1000<n) (s y:Int) (hy:dZ y) (o p:List Int) (g l:Bool) (dg:aa) (x q:Int) (m d:aa) (k0 k1 k2 e j r:Int) (up:Bool) (u t rd:Int) (B:NH d o) (D:p.length<=31) (i:Nat) (f:Int) (hi:o[i]?=some f):
  co n (s,y,((o.length:Nat):Int),(i:Int),o,p,g,l,dg,x,q,m,d,k0,k1,k2,e,j,r,up,u,t,rd)=some (((FN up m d e j r y p f).map (λz=>(.inl (true,z):(Bool×Int×Int×Int)⊕_))).elim (.inl (s,y,((o.length:Nat):Int),((i+1:Nat):Int),o,p,g,l,dg,x,q,m,d,k0,k1,k2,e,j,r,up,u,t,rd)) Sum.inr):=by
 have v:i<o.length:=(rf.1 hi).1;have E:=B.1;have A:IntKind.wrap .i64 ((i:Int)+1)=((i+1:Nat):Int):=by rw [wrap_i64 _ (by omega) (by omega)];omega
 have w:d≠[]->1<=f/\f<=12:=λh=>B.2 h f (eW hi);have j20:∀a b:Int,fk n s y f (y==e) a b o p g l dg x q m d k0 k1 k2 e j r up u t rd=some (s,y,f,(y==e),a,b,Oc up m e j y f,o,p,g,l,dg,x,q,m,d,k0,k1,k2,e,j,r,up,u,t,rd):=by
  intro a b;unfold fk Oc;simp only [GY,ob];cases (y==e)<;>cases (m==([]:aa))<;>rfl
 have j23:∀a b c:Int,fe n s y f (y==e) a b c o p g l dg x q m d k0 k1 k2 e j r up u t rd=some (s,y,f,Jr m e j y f,a,b,c,o,p,g,l,dg,x,q,m,d,k0,k1,k2,e,j,r,up,u,t,rd):=by
  intro a b c;unfold fe Jr;cases (y==e)<;>cases (m==([]:aa))<;>rfl
 unfold co ir FN;simp only [d4,d8,d16,dD v,hi,ob,j20];rw [aq (show (i:Int)<((o.length:Nat):Int) by omega)];simp only [ah];cases hs:Oc up m e j y f with
 | true=>simp only [ah,aM,i7,A];rfl
 | false=>
  simp only [af,bs,aG,NU n g l dg x q m d k0 k1 k2 hy w,j23,TV n C s y f (Jr m e j y f) (vT d y f) _ _ o p g l dg x q m d k0 k1 k2 e j r up u t rd D];cases p.find? (Bh up (Jr m e j y f) d r (vT d y f)) with
  | some k=>rfl
  | none=>simp only [i7,Option.elim_none,A]
theorem TA (n:Nat) (t:1000<n) (s y:Int) (hy:dZ y) (a b:List Int) (g l:Bool) (dg:aa) (x q:Int) (m d:aa) (k0 k1 k2 c h j:Int) (up:Bool) (o k rd:Int) (r:NH d a) (u:b.length<=31):
  av (co n) n (s,y,((a.length:Nat):Int),0,a,b,g,l,dg,x,q,m,d,k0,k1,k2,c,h,j,up,o,k,rd)=some ((GP up m d c h j a b y).elim (.inr (s,y,a,b,g,l,dg,x,q,m,d,k0,k1,k2,c,h,j,up,o,k,rd)) (λz=>.inl (true,z))):=by
 have v:=r.1;have:=ul (step:=co n) (f:=λi=>(s,y,((a.length:Nat):Int),(i:Int),a,b,g,l,dg,x,q,m,d,k0,k1,k2,c,h,j,up,o,k,rd)) (L:=a) (G:=λp=>(FN up m d c h j y b p).map (λz=>(.inl (true,z):(Bool×Int×Int×Int)⊕_))) (e:=.inr (s,y,a,b,g,l,dg,x,q,m,d,k0,k1,k2,c,h,j,up,o,k,rd))
  (λi p hi=>Pv n t s y hy a b g l dg x q m d k0 k1 k2 c h j up o k rd r u i p hi)
  (by
   unfold co;simp only [d4,d8,d16];rw [ar (show ¬((a.length:Nat):Int)<((a.length:Nat):Int) by omega)];rfl)
  (N:=n) (by omega)
 exact this.trans (cD some (Vv a (FN up m d c h j y b) (λz=>Sum.inl (true,z)) _))
theorem Qw (n:Nat) (j:1000<n) (s y:Int) (hy:dZ y) (b a:List Int) (g l:Bool) (dg:aa) (x q:Int) (m d:aa) (k0 k1 k2 c e f:Int) (up:Bool) (i h rd:Int) (k:NH d b) (o:a.length<=31):
  dh n (s,y,true,b,a,g,l,dg,x,q,m,d,k0,k1,k2,c,e,f,up,i,h,rd)=(GP up m d c e f b a y).elim (ob (cA n g l dg x q m d k0 k1 k2 (IntKind.wrap .i64 (y+s)) up b a) λr=>some (.inl (s,r.1,r.2,b,a,g,l,dg,x,q,m,d,k0,k1,k2,c,e,f,up,i,h,rd))) (λz=>some (.inr (.inl (true,z)))):=by
 unfold dh;simp only [d4,d8,d16,ah,ob,TA n j s y hy b a g l dg x q m d k0 k1 k2 c e f up i h rd k o];cases GP up m d c e f b a y<;>rfl
def HM (up:Bool) (Y:Int->Prop) (F:Int->Option (Int×Int×Int)) (v:Int):Option (Int×Int×Int)->Prop
 | some z=>∃e,Y e/\Mk.fh up v e/\F e=some z/\∀a,Y a->Mk.fh up v a->¬Mk.fh up e a->F a=none
 | none=>∀e,Y e->Mk.fh up v e->F e=none
theorem JC {X:Type} {step:X->Option (X⊕((Bool×Int×Int×Int)⊕(Int×Int×Int)))} {st:Int->Bool->X} {F:Int->Option (Int×Int×Int)} {Y:Int->Prop} {up:Bool} {s lo hi:Int} {E:Int×Int×Int} {fy:Int->Option (Int×Bool)}
  (hs:s=if up then 1 else -1) (u:∀e,Y e->lo<=e/\e<=hi) (O:-10000000000000000<=lo) (d:hi<=10000000000000000)
  (b:∀y,Y y->step (st y true)=(F y).elim (ob (fy (IntKind.wrap .i64 (y+s))) λr=>some (.inl (st r.1 r.2))) (λz=>some (.inr (.inl (true,z)))))
  (c:∀y,step (st y false)=some (.inr (.inr E)))
  (p:∀v,-9223372036854775808<=v/\v<9223372036854775808->∃w f,fy v=some (w,f)/\FX up Y v w f):
  ∀(r:Nat) (v y:Int) (f:Bool),FX up Y v y f->(f=true->(if up then hi - y else y - lo)<(r:Int))->∀N,r<N->
   ∃o,av step N (st y f)=some (o.elim (.inr E) (λz=>.inl (true,z)))/\HM up Y F v o:=by
 intro r
 induction r with
 | zero=>
  intro v y f j n N K;obtain ⟨N,rfl⟩:∃q,N=q+1:=⟨N - 1,by omega⟩;cases f with
  | true=>
   obtain ⟨a1,_,_⟩:=j.1 rfl;have:=u y a1;have:=n rfl;cases up<;>simp at this<;>omega
  | false=>
   refine ⟨none,by rw [av,c];rfl,λe g l=>absurd l (j.2 rfl e g)⟩
 | succ r ih=>
  intro v y f j n N K;obtain ⟨N,rfl⟩:∃q,N=q+1:=⟨N - 1,by omega⟩;cases f with
  | false=>
   refine ⟨none,by rw [av,c];rfl,λe g l=>absurd l (j.2 rfl e g)⟩
  | true=>
   obtain ⟨a1,a2,t⟩:=j.1 rfl;have M:=u y a1;cases k:F y with
   | some z=>
    refine ⟨some z,?_,y,a1,a2,k,λa d m i=>absurd (t a d m) i⟩;rw [av,b y a1,k];rfl
   | none=>
    have G:IntKind.wrap .i64 (y+s)=y+s:=by
     have:-1<=s/\s<=1:=by rw [hs];cases up<;>simp
     exact wrap_i64 _ (by omega) (by omega)
    obtain ⟨w,B,I,x⟩:=p (y+s) (by
     have:-1<=s/\s<=1:=by rw [hs];cases up<;>simp
     omega)
    have hstep':step (st y true)=some (.inl (st w B)):=by
     rw [b y a1,k,G];show ob (fy (y+s)) _=_;rw [I];rfl
    obtain ⟨o,J,A⟩:=ih (y+s) w B x (λL=>by
     obtain ⟨b1,b2,_⟩:=x.1 L;have:=n rfl;cases up
     ·rw [ip] at b2;simp only [bs,aG] at hs this ⊢;omega
     ·rw [fq] at b2;simp only [aM] at hs this ⊢;omega) N (by omega)
    refine ⟨o,by rw [av,hstep'];exact J,?_⟩;have split:∀a,Y a->Mk.fh up v a->a=y\/Mk.fh up (y+s) a:=λa d m=>by
     have i:=t a d m;cases up
     ·rw [ip] at i ⊢;simp only [bs,aG] at hs;omega
     ·rw [fq] at i ⊢;simp only [aM] at hs;omega
    cases o with
    | none=>
     intro e g l;rcases split e g l with rfl | h
     ·exact k
     ·exact A e g h
    | some z=>
     obtain ⟨e,D,C,H,c4⟩:=A;refine ⟨e,D,?_,H,λa d m i=>?_⟩
     ·cases up
      ·rw [ip] at C a2 ⊢;simp only [bs,aG] at hs;omega
      ·rw [fq] at C a2 ⊢;simp only [aM] at hs;omega
     ·rcases split a d m with rfl | h
      ·exact k
      ·exact c4 a d h i
theorem Aa {g l:Bool} {dg:aa} {x:Int} (c:okY g l dg x 0):∃lo hi:Int,(∀e,inP g dg x 0 e->lo<=e/\e<=hi)/\hi - lo<=10000/\-10000000000000000<=lo/\hi<=10000000000000000:=by
 cases d:hasX dg with
 | false=>
  have a:=Fg c d;by_cases f:-10000000000000000<=(if g then -((val dg x.toNat:Nat):Int) else ((val dg x.toNat:Nat):Int))/\(if g then -((val dg x.toNat:Nat):Int) else ((val dg x.toNat:Nat):Int))<=10000000000000000
  ·refine ⟨_,_,λe b=>?_,?_,f.1,f.2⟩
   ·rw [(a e).1 b];exact ⟨sL _,sL _⟩
   ·omega
  ·refine ⟨0,0,λe b=>?_,by omega,by omega,by omega⟩;exfalso;have:=(a e).1 b;unfold inP at b;exact f ⟨by rw [<-this];exact b.1,by rw [<-this];exact b.2.1⟩
 | true=>
  have a:=iO9 c d;obtain ⟨_,_,_,i,k⟩:=rK c d;refine ⟨if g then -9999 else 0,if g then 0 else 9999,λe b=>?_,by cases g<;>simp,by cases g<;>simp,by cases g<;>simp⟩;have h:=((a e).1 b).1;have:=(Mk.oK h).2.2.2.2;rw [i] at this;have j:(10:Int) ^ 4=10000:=by decide
  unfold wOf at this;cases g
  ·simp at this ⊢;omega
  ·simp at this ⊢;omega
theorem Bj {g:Bool} {dg:aa} {x q e:Int} (h:inP g dg x q e):dZ e:=⟨h.1,h.2.1⟩
theorem Jq {g l:Bool} {dg:aa} {x:Int} (e:okY g l dg x 0) (m d:aa) (k0 k1 k2:Int) (a i h:Int) (n:-9223372036854775808<=a/\a<9223372036854775808) (b c:List Int) (D:NH d b) (t:c.length<=31):
  ∃o,jh 20000000 g l dg x 0 m d k0 k1 k2 a i h true b c=some (o.elim (0,0,0,false) λz=>(z.1,z.2.1,z.2.2,true))/\HM true (inP g dg x 0) (GP true m d a i h b c) a o:=by
 obtain ⟨lo,hi,p,G,j,k⟩:=Aa e;obtain ⟨w,f,u,q⟩:=MB e m d k0 k1 k2 a n true b c;obtain ⟨o,A,B⟩:=JC (step:=dh 20000000) (st:=λy f=>(1,y,f,b,c,g,l,dg,x,0,m,d,k0,k1,k2,a,i,h,true,0,0,0)) (F:=GP true m d a i h b c) (Y:=inP g dg x 0) (up:=true) (s:=1) (lo:=lo) (hi:=hi) (E:=(0,0,0)) (fy:=λv=>cA 20000000 g l dg x 0 m d k0 k1 k2 v true b c)
  rfl p j k
  (λy hy=>Qw 20000000 (by omega) 1 y (Bj hy) b c g l dg x 0 m d k0 k1 k2 a i h true 0 0 0 D t)
  (λy=>rfl)
  (λv r=>MB e m d k0 k1 k2 v r true b c)
  10002 a w f q (λC=>by have:=p w (q.1 C).1;simp;omega) 20000000 (by omega)
 refine ⟨o,?_,B⟩;unfold jh jx;simp only [dn,af,ob,d4,d8,d16,u];have i1':av (dh 20000000) 20000000 (1,w,f,b,c,g,l,dg,x,0,m,d,k0,k1,k2,a,i,h,true,0,0,0)=_:=A;rw [i1'];cases o<;>rfl
theorem G3 (m d:aa) (l n:Int) {f e:Int} (h:e≠f) (o g:List Int):GP true m d f l n o g e=none↔(o.flatMap λa=>(g.filter λk=>decide (k<=vT d e a)).map λk=>(e,a,k))=[]:=by
 have i:(e==f)=false:=aJ.2 h;unfold GP;rw [Sr,List.flatMap_eq_nil_iff];have:∀a,FN true m d f l n e g a=none↔((g.filter λk=>decide (k<=vT d e a)).map λk=>(e,a,k))=[]:=by
  intro a;unfold FN Oc Jr;rw [i];simp only [yW,bs,aG,Option.map_eq_none_iff,List.find?_eq_none,List.map_eq_nil_iff,List.filter_eq_nil_iff];constructor
  ·intro b k j;have:=b k j;unfold Bh at this;simpa using this
  ·intro b k j;have:=b k j;unfold Bh;simpa using this
 exact ⟨λb a c=>(this a).1 (b a c),λb a c=>(this a).2 (b a c)⟩
def hasF (g:Bool) (dg:aa) (x:Int) (m d:aa):Prop:=∃e,inP g dg x 0 e/\vV m d e≠[]
open Classical in
noncomputable def chkF (g l:Bool) (dg:aa) (x q:Int) (m d:aa) (k0 k1 k2:Int):Int:=
 if chkD g l dg x q m d k0 k1 k2=0/\d≠[]/\¬hasF g dg x m d then 8 else chkD g l dg x q m d k0 k1 k2
theorem o7 {g l:Bool} {dg:aa} {x q:Int} {m d:aa} {k0 k1 k2:Int} (h:chkD g l dg x q m d k0 k1 k2=0):okY g l dg x q/\(m=[]\/m.length=2)/\(d=[]\/d.length=2)/\(0<q->m=[])/\(d≠[]->m≠[]/\sea m=0):=by
 obtain ⟨b,j,e,c4⟩:=CY h;unfold yrD at b;by_cases a:okY g l dg x q
 ·rw [ae a] at b;refine ⟨a,?_,?_,λk=>?_,λn=>?_⟩
  ·rcases j with h | h | h
   ·exact .inl h
   ·exact .inr (Gx h).1
   ·exact .inr (nz (by omega) h).1
  ·rcases e with h | ⟨_,_,h⟩
   ·exact .inl h
   ·exact .inr (nz (by omega) h).1
  ·unfold yrB at b;simp only [aD,jP] at b;have:=b.1;rw [aq k,qB] at this;by_cases c:m=[]
   ·exact c
   ·rw [fZ c] at this;cases this
  ·rcases e with h | ⟨i,f,_⟩
   ·exact absurd h n
   ·exact ⟨i,f⟩
 ·rw [ab a] at b;cases b
theorem Qn {g l:Bool} {dg:aa} {x q:Int} (h:okY g l dg x q):0<=q:=(jf h).2.2.1
theorem Lr {m d:aa} (h:d≠[]->m≠[]/\sea m=0):NH d (monI m):=by
 refine ⟨rF (If m) (by omega),λc g a=>?_⟩;obtain ⟨b,f⟩:=h c;unfold monI at a;rw [ab b,ab (by omega)] at a;obtain ⟨k,e,rfl⟩:=ek.1 a;have:=tP.1 (lQ.1 e).1;omega
theorem wb {g l:Bool} {dg:aa} {x q:Int} {m d:aa} {k0 k1 k2:Int} (t:m.length<=18) (k:dg.length<=100) (C:0<=k0) (y:0<=k1) (D:0<=k2):
  bC 20000000 g l dg x q m d k0 k1 k2=some (chkF g l dg x q m d k0 k1 k2):=by
 unfold bC chkF;rw [IX 20000000 (by omega) g l dg x q m d k0 k1 k2 t k C y D];simp only [ob];by_cases hc:chkD g l dg x q m d k0 k1 k2=0
 ·obtain ⟨b,s,p,A,f⟩:=o7 hc;rw [hc];simp only [hJ,af];by_cases i:d=[]
  ·subst i;rw [ab (by simp)];rfl
  ·rw [fZ i,af];have r:q=0:=by
    have:=Qn b;by_cases h:0<q
    ·exact absurd (A h) (f i).1
    ·omega
   subst r;have e:=Yx 20000000 (by omega) g l dg x 0 m d k0 k1 k2 s p;have n:=Lr f;obtain ⟨o,o1,v⟩:=Jq b m d k0 k1 k2 (-9223372036854775808) 0 0 (by omega) (monI m) (dayI d) n (IP d);have c:∀e,inP g dg x 0 e->e≠-9223372036854775808:=λe w=>by have:=Bj w;unfold dZ at this;omega
   have key:(∃z,o=some z)↔hasF g dg x m d:=by
    constructor
    ·rintro ⟨z,rfl⟩;obtain ⟨e,a,_,u,_⟩:=v;refine ⟨e,a,λB=>?_⟩;have:=(G3 m d 0 0 (c e a) (monI m) (dayI d)).2 B;rw [this] at u;cases u
    ·rintro ⟨e,a,F⟩;cases o with
     | some z=>exact ⟨z,rfl⟩
     | none=>
      have:=v e a (by rw [fq];have:=Bj a;unfold dZ at this;omega);exact absurd ((G3 m d 0 0 (c e a) (monI m) (dayI d)).1 this) F
   rw [e];by_cases j:hasF g dg x m d
   ·obtain ⟨z,rfl⟩:=key.2 j;rw [ab (λh=>h.2.2 j)]
    all_goals
     simp only [d4,d8,o1];rfl
   ·have E:o=none:=by
     cases o with
     | none=>rfl
     | some z=>exact absurd (key.1 ⟨z,rfl⟩) j
    subst E;rw [ae ⟨rfl,i,j⟩]
    all_goals
     simp only [d4,d8,o1];rfl
 ·rw [ab (λh=>hc h.1)];have:(chkD g l dg x q m d k0 k1 k2 != 0)=true:=by simp [hc]
  rw [this];rfl
theorem PW {g l:Bool} {dg:aa} {x:Int} (c:okY g l dg x 0) (m d:aa) (k0 k1 k2:Int):
  ∃r,lq 20000000 g l dg x 0 m d k0 k1 k2=some r/\(r=1/\hasF g dg x m d\/r=0/\¬hasF g dg x m d):=by
 have M:=jf c;obtain ⟨lo,hi,B,Q,D,J⟩:=Aa c;obtain ⟨H,P,I⟩:=F3 c;have w:=Pm 19999700 g l dg x 0 (by omega) c;unfold lq;rw [show (20000000:Nat)=19999700+300 from rfl,w];simp only [ob];generalize (sgn g (n7 g dg x 0)).1=a at *;generalize (sgn g (n7 g dg x 0)).2=b at *;have R:=B a H;have hb':=B b P;have O:=λy=>Vr 19999700 c y;have step:∀i y,((List.range (b - a+1).toNat).map (λj:Nat=>a+(j:Int)))[i]?=some y->i<(b - a+1).toNat/\y=a+(i:Int):=by
  intro i y h;rw [qG] at h;cases v:(List.range (b - a+1).toNat)[i]? with
  | none=>rw [v] at h;cases h
  | some j=>
   rw [v] at h;have hi:=rf.1 v;obtain ⟨A,C⟩:=hi;rw [List.getElem_range] at C;rw [List.length_range] at A;subst C;exact ⟨A,(bn h).symm⟩
 have p:((List.range (b - a+1).toNat).map (λj:Nat=>a+(j:Int))).length=(b - a+1).toNat:=by simp
 have:=ul (step:=gi (19999700+300)) (f:=λi=>(b,a+(i:Int),g,l,dg,x,0,m,d,k0,k1,k2)) (L:=(List.range (b - a+1).toNat).map (λj:Nat=>a+(j:Int))) (G:=λy=>if inP g dg x 0 y/\vV m d y≠[] then some (.inl 1) else none) (e:=.inr ())
  (λi y h=>by
   obtain ⟨hi,rfl⟩:=step i y h;have F:IntKind.wrap .i64 (a+(i:Int)+1)=a+((i+1:Nat):Int):=by rw [wrap_i64 _ (by omega) (by omega)];omega
   unfold gi;simp only [d4,d8,F];rw [aq (show a+(i:Int)<=b by omega),O,Jb (19999700+300) (by omega)];by_cases o:inP g dg x 0 (a+(i:Int))
   ·rw [ae o];by_cases n:vV m d (a+(i:Int))=[]
    ·rw [ab (λh=>h.2 n),n];rfl
    ·rw [ae ⟨o,n⟩];have hp:0<(vV m d (a+(i:Int))).length:=List.length_pos_iff.2 n;have K:decide ((((vV m d (a+(i:Int))).length:Nat):Int)>0)=true:=aq (by omega);simp only [ah,ob,K];rfl
   ·rw [ab o,ab (λh=>o h.1)];rfl)
  (by
   unfold gi;simp only [d4,d8];rw [p,ar (show ¬a+(((b - a+1).toNat:Nat):Int)<=b by omega)];rfl)
  (N:=19999700+300) (by rw [p];omega)
 rw [show a+((0:Nat):Int)=a by omega] at this;rw [this];cases q:(List.findSome? (λy=>if inP g dg x 0 y/\vV m d y≠[] then some (Sum.inl (1:Int)) else none) ((List.range (b - a+1).toNat).map (λj:Nat=>a+(j:Int))):Option (Int⊕Unit)) with
 | none=>
  refine ⟨0,rfl,.inr ⟨rfl,?_⟩⟩;rintro ⟨e,s,u⟩;rw [Sr] at q;have hs:=I e s;have:=q e (ek.2 ⟨(e - a).toNat,jp.2 (by omega),by omega⟩);rw [ae ⟨s,u⟩] at this;cases this
 | some z=>
  obtain ⟨y,E,k⟩:=List.exists_of_findSome?_eq_some q;by_cases t:inP g dg x 0 y/\vV m d y≠[]
  ·rw [ae t] at k;obtain rfl:=bn k;exact ⟨1,rfl,.inl ⟨rfl,y,t.1,t.2⟩⟩
  ·rw [ab t] at k;cases k
theorem E9 {g l:Bool} {dg:aa} {x q:Int} {m d:aa} {k0 k1 k2:Int} (i:dg.length<=100) (j:0<=k0) (p:0<=k1) (o:0<=k2):
  kj 20000000 g l dg x q m d k0 k1 k2=some (chkF g l dg x q m d k0 k1 k2):=by
 unfold kj chkF;rw [FR 20000000 (by omega) g l dg x q m d k0 k1 k2 i j p o];simp only [ob];by_cases hc:chkD g l dg x q m d k0 k1 k2=0
 ·obtain ⟨a,n,u,t,e⟩:=o7 hc;rw [hc];by_cases b:d=[]
  ·subst b;rw [ab (by simp)];rfl
  ·have f:q=0:=by
    have:=Qn a;by_cases h:0<q
    ·exact absurd (t h) (e b).1
    ·omega
   subst f;obtain ⟨r,s,k⟩:=PW a m d k0 k1 k2;rw [fZ b,s];rcases k with ⟨rfl,c⟩ | ⟨rfl,c⟩
   ·rw [ab (λh=>h.2.2 c)];rfl
   ·rw [ae ⟨rfl,b,c⟩];rfl
 ·rw [ab (λh=>hc h.1)];have:(chkD g l dg x q m d k0 k1 k2==0)=false:=aJ.2 hc;rw [this];rfl
theorem o6 {g l:Bool} {dg:aa} {x q:Int} {m d:aa} {k0 k1 k2:Int} (h:chkF g l dg x q m d k0 k1 k2=0):chkD g l dg x q m d k0 k1 k2=0:=by
 unfold chkF at h;split at h
 ·cases h
 ·exact h
theorem bne0 {e:Int} (h:e≠0):(e != 0)=true:=by simp [h]
theorem HB {m d:aa} {y:Int} {z:Int×Int×Int}:z∈vV m d y↔z.1=y/\z.2.1∈monI m/\z.2.2∈dayI d/\z.2.2<=vT d y z.2.1:=by
 unfold vV vE;simp only [Gz,ek,lQ,cr];constructor
 ·rintro ⟨f,b,k,⟨a,c⟩,rfl⟩;exact ⟨rfl,b,a,c⟩
 ·rintro ⟨e,b,a,c⟩;exact ⟨z.2.1,b,z.2.2,⟨a,c⟩,by rw [<-e]⟩
theorem S1 (y:Int) (i:Nat):(minL i:Int)<=lenI y (i:Int):=by
 unfold minL lenI
 repeat' split
 all_goals omega
theorem Qv {g l:Bool} {dg:aa} {x:Int} (a:okY g l dg x 0) {m d:aa} (o:m≠[]) (hs:sea m=0) (f:d≠[]) (b:fitD m d=true):hasF g dg x m d:=by
 obtain ⟨j,_,_⟩:=F3 a;refine ⟨_,j,?_⟩;unfold fitD at b;simp only [sK,aD] at b;obtain ⟨i,hi,n,k,q,c⟩:=b;have hi':=tP.1 hi;have hk':=tP.1 q;have p:minL i<=31:=by
  unfold minL
  repeat' split
  all_goals omega
 have h:((sgn g (n7 g dg x 0)).1,(i:Int),(k:Int))∈vV m d (sgn g (n7 g dg x 0)).1:=by
  rw [HB];refine ⟨rfl,?_,?_,?_⟩
  ·unfold monI;rw [ab o,ab (by omega)];exact ek.2 ⟨i,lQ.2 ⟨hi,n⟩,rfl⟩
  ·unfold dayI;rw [ab f];exact ek.2 ⟨k,lQ.2 ⟨tP.2 (by omega),c⟩,rfl⟩
  ·unfold vT;rw [ab f];have:=S1 (sgn g (n7 g dg x 0)).1 i;show (k:Int)<=lenI (sgn g (n7 g dg x 0)).1 (i:Int);omega
 intro e;rw [e] at h;cases h
theorem Hz {g l:Bool} {dg:aa} {x q:Int} {m d:aa} {k0 k1 k2:Int} (hc:chkD g l dg x q m d k0 k1 k2=0) (j:d=[]\/fitD m d=true):chkF g l dg x q m d k0 k1 k2=0:=by
 obtain ⟨a,k,p,o,b⟩:=o7 hc;unfold chkF;rw [ab,hc];rintro ⟨_,e,i⟩;obtain ⟨f,n⟩:=b e;have c:q=0:=by
  have:=Qn a;by_cases h:0<q
  ·exact absurd (o h) f
  ·omega
 subst c;exact i (Qv a f n e (j.resolve_left e))
def plN (P:Nat×Nat×Nat) (i:Nat):Nat:=if i=0 then P.1 else if i=1 then P.2.1 else P.2.2
theorem Aq {g l:Bool} {dg:aa} {x q:Int} {m d:aa} {k0 k1 k2:Int} (a:allM k0 k1 k2 (bD m d)=0):chkF g l dg x q m d k0 k1 k2=0\/chkF g l dg x q m d k0 k1 k2=6\/chkF g l dg x q m d k0 k1 k2=7\/chkF g l dg x q m d k0 k1 k2=8:=by
 unfold chkF;split
 ·exact .inr (.inr (.inr rfl))
 ·exact wW a
theorem Ud {g l:Bool} {dg:aa} {x q:Int} {m d:aa} {k0 k1 k2:Int} (h:chkD g l dg x q m d k0 k1 k2≠0):chkF g l dg x q m d k0 k1 k2=chkD g l dg x q m d k0 k1 k2:=by
 unfold chkF;rw [ab (λa=>h a.1)]
theorem VD {g l:Bool} {dg:aa} {x q:Int} {m d:aa} {k0 k1 k2:Int} (h:chkD g l dg x q m d k0 k1 k2=0):chkF g l dg x q m d k0 k1 k2=0\/chkF g l dg x q m d k0 k1 k2=8:=by
 unfold chkF;split
 ·exact .inr rfl
 ·exact .inl h
noncomputable def chkR (r:DR):Nat:=(chkF r.1 r.2.1 r.2.2.1 (r.2.2.2.1:Int) (r.2.2.2.2.1:Int) r.2.2.2.2.2.1 r.2.2.2.2.2.2.1 (r.2.2.2.2.2.2.2.1.1:Int) (r.2.2.2.2.2.2.2.1.2.1:Int) (r.2.2.2.2.2.2.2.1.2.2:Int)).toNat
noncomputable def dU (S:aa) (a:Nat):(Nat×Nat×Nat)⊕DR:=
 match oe S a with
 | .inl k=>.inl (k,5,k)
 | .inr r=>if chkR r=0 then .inr r else .inl (plN r.2.2.2.2.2.2.2.2.1 (chkR r - 6),chkR r,r.2.2.2.2.2.2.2.2.2)
def Ta (S:aa):(Nat×Nat×Nat)⊕DR->(Int×Int×aa×Int)⊕(Bool×Bool×aa×Int×Int×aa×aa×Int×Int×Int×Int×aa×Int)
 | .inl (k,E,p)=>.inl ((k:Int),(E:Int),S,(p:Int))
 | .inr (g,l,dg,x,s,m,d,M,P,e)=>.inr (g,l,dg,(x:Int),(s:Int),m,d,(M.1:Int),(M.2.1:Int),(M.2.2:Int),(P.1:Int),S,(e:Int))
theorem CO (S:aa) (a:Nat) (h:a<=S.length) (p:S.length<100000):gn 20000000 S (a:Int)=some (Ta S (dU S a)):=by
 have i:iZ 20000000 S (a:Int)=_:=J8 19999700 S a h p (by omega);unfold gn dU;rw [i];cases n:oe S a with
 | inl k=>rfl
 | inr r=>
  obtain ⟨g,l,dg,x,s,f,d,M,P,e⟩:=r;have b:=uB h n;have o:=b.all;have t:=b.m2;have j:=b.dg17;simp only [ob,Uc,d4,d8];rw [wb (g:=g) (l:=l) (x:=(x:Int)) (q:=(s:Int)) (d:=d) (show f.length<=18 by omega) (show dg.length<=100 by omega) (show (0:Int)<=(M.1:Int) by omega) (show (0:Int)<=(M.2.1:Int) by omega) (show (0:Int)<=(M.2.2:Int) by omega)];simp only [ob];have c:=Aq (g:=g) (l:=l) (dg:=dg) (x:=(x:Int)) (q:=(s:Int)) (m:=f) (d:=d) (k0:=(M.1:Int)) (k1:=(M.2.1:Int)) (k2:=(M.2.2:Int)) (tz o);unfold chkR;simp only [];rcases c with hc | hc | hc | hc<;>rw [hc]<;>rfl
noncomputable def BY (S:aa):Nat⊕DR->PD
 | .inl k=>pz (k:Int) 5
 | .inr (g,l,dg,x,s,m,d,M,P,e)=>if e<S.length then pz (e:Int) 5 else
   if chkR (g,l,dg,x,s,m,d,M,P,e)=0 then (g,l,dg,(x:Int),(s:Int),m,d,(M.1:Int),(M.2.1:Int),(M.2.2:Int),0,0)
   else pz (plN P (chkR (g,l,dg,x,s,m,d,M,P,e) - 6):Int) (chkR (g,l,dg,x,s,m,d,M,P,e):Int)
noncomputable def qC (S:aa):PD:=BY S (oe S 0)
theorem P3 (S:aa) (p:S.length<100000):lW 20000000 S=some (qC S):=by
 have hp:jl 20000000 S=_:=QK 19999700 S p (by omega);have o:=CO S 0 (by omega) p;rw [show ((0:Nat):Int)=0 from rfl] at o;unfold lW fg mN qC;rw [hp,o];unfold MX dU;cases t:oe S 0 with
 | inl k=>rfl
 | inr r=>
  obtain ⟨g,l,dg,x,s,c,d,M,P,e⟩:=r;have h:=uB (by omega) t;have u:=h.all;simp only [ob,d4,d8,M7,BY];by_cases f:e<S.length
  ·rw [ae f,ae f];rfl
  ·rw [ab f,ab f];by_cases hc:chkD g l dg (x:Int) (s:Int) c d (M.1:Int) (M.2.1:Int) (M.2.2:Int)=0
   ·rw [ae hc];rcases VD hc with j | j
    ·have b:chkR (g,l,dg,x,s,c,d,M,P,e)=0:=by unfold chkR;simp only [];rw [j];rfl
     rw [ae b,ae b];have i:decide (((e:Nat):Int)<((S.length:Nat):Int))=false:=by simp;omega
     simp only [Ta,d4,d8,i];rfl
    ·have b:chkR (g,l,dg,x,s,c,d,M,P,e)=8:=by unfold chkR;simp only [];rw [j];rfl
     rw [ab (by omega),ab (by omega),b];rfl
   ·rw [ab hc];have b:chkR (g,l,dg,x,s,c,d,M,P,e)=(chkD g l dg (x:Int) (s:Int) c d (M.1:Int) (M.2.1:Int) (M.2.2:Int)).toNat:=by unfold chkR;simp only [];rw [Ud hc]
    have n:=wW (g:=g) (l:=l) (dg:=dg) (x:=(x:Int)) (q:=(s:Int)) (m:=c) (d:=d) (k0:=(M.1:Int)) (k1:=(M.2.1:Int)) (k2:=(M.2.2:Int)) (tz u);rw [b];rcases n with a | a | a | a
    ·exact absurd a hc
    all_goals (rw [a];rfl)
def dayY (y:Int):Int:=365*y+(1+(y - 1) / 4 - (y - 1) / 100+(y - 1) / 400)
def cumM (y:Int):Nat->Int
 | 0=>0
 | k+1=>cumM y k+lenI y ((k+1:Nat):Int)
def dayM (y:Int) (m:Nat):Int:=if m<=12 then dayY y+cumM y (m - 1) else dayY (y+1)+cumM (y+1) (m - 13)
theorem yv (y:Int):dayY (y+1)=dayY y+365+(if tw y then 1 else 0):=by
 unfold dayY tw;simp only [aD,gX,cr];split<;>omega
theorem Hg (n:Int):dayY (400*n)=146097*n:=by
 unfold dayY;omega
theorem kG {y:Int} (h:-20000000000000000<=y/\y<=20000000000000000):-8000000000000000000<=dayY y/\dayY y<=8000000000000000000:=by
 unfold dayY;omega
theorem Yn (y:Int):cumM y 12=365+(if tw y then 1 else 0):=by
 have e:∀k:Nat,cumM y (k+1)=cumM y k+lenI y ((k+1:Nat):Int):=λ_=>rfl;have z:cumM y 0=0:=rfl;rw [e 11,e 10,e 9,e 8,e 7,e 6,e 5,e 4,e 3,e 2,e 1,e 0,z];unfold lenI;cases tw y<;>rfl
theorem qQ (y:Int):∀k:Nat,0<=cumM y k/\cumM y k<=31*(k:Int)
 | 0=>by simp [cumM]
 | k+1=>by
  have b:=qQ y k;have a:=jM y ((k+1:Nat):Int);show 0<=cumM y k+lenI y ((k+1:Nat):Int)/\cumM y k+lenI y ((k+1:Nat):Int)<=_;omega
theorem pI {y:Int} (h:dZ y) {m:Nat} (a:m<=24):-8100000000000000000<=dayM y m/\dayM y m<=8100000000000000000:=by
 unfold dZ at h;unfold dayM;split
 ·have:=qQ y (m - 1);have:=kG (y:=y) (by omega);omega
 ·have:=qQ (y+1) (m - 13);have:=kG (y:=y+1) (by omega);omega
theorem U4 (y:Int):dayM y 13=dayY (y+1):=by
 unfold dayM;rw [ab (by omega)];simp [cumM]
theorem wY (y:Int) {m:Nat} (b:1<=m) (a:m<=12):dayM y (m+1)=dayM y m+lenI y (m:Int):=by
 obtain ⟨k,rfl⟩:∃k,m=k+1:=⟨m - 1,by omega⟩;have e:dayM y (k+1)=dayY y+cumM y k:=by unfold dayM;rw [ae (by omega)];rfl
 rw [e];by_cases h:k+1=12
 ·obtain rfl:k=11:=by omega
  rw [U4,yv];have:=Yn y;have e:cumM y 12=cumM y 11+lenI y ((11+1:Nat):Int):=rfl;omega
 ·have:dayM y (k+1+1)=dayY y+cumM y (k+1):=by unfold dayM;rw [ae (by omega)];rfl
  rw [this];show dayY y+(cumM y k+lenI y ((k+1:Nat):Int))=_;omega
theorem ur (y:Int) {m:Nat} (b:1<=m) (a:m<=12):dayM y (m+12)=dayM (y+1) m:=by
 unfold dayM;rw [ab (by omega),ae a];congr 2
theorem sZ (n:Nat) {y:Int} (h:-10000000000000001<=y/\y<=10000000000000001):lO n y=some (dayY y):=by
 have a:=kG (y:=y) (by omega);unfold lO;rw [yC n (by omega),wrap_i64 (365*y) (by omega) (by omega)];show some (IntKind.wrap .i64 (dayY y))=_;rw [wrap_i64 _ (by omega) (by omega)]
theorem sJ (n:Nat) {y:Int} (h:dZ y):lK n y=some (dayY y,0):=by
 unfold lK;have h':=h;unfold dZ at h';rw [gF,ae h,sZ n (by omega)];rfl
theorem D3 (n:Nat) {y:Int} (h:dZ y):uJ n y=some (dayY (y+1) - 1,0):=by
 unfold uJ;have h':=h;unfold dZ at h';have a:=kG (y:=y+1) (by omega);rw [gF,ae h,wrap_i64 (y+1) (by omega) (by omega),sZ n (by omega)];show some (IntKind.wrap .i64 (dayY (y+1) - 1),(0:Int))=_;rw [wrap_i64 _ (by omega) (by omega)]
theorem Gs (n:Nat) {y:Int} (h:dZ y) {m:Nat} (c:m<=11):∀(r j:Nat),j+r=m->∀N,r<N->av (bL n) N (y,dayY y+cumM y j,(m:Int),(j:Int))=some (dayY y+cumM y m):=by
 have h':=h;unfold dZ at h';have d:=kG (y:=y) (by omega);intro r
 induction r with
 | zero=>
  intro j a N b;obtain ⟨N,rfl⟩:∃k,N=k+1:=⟨N - 1,by omega⟩;obtain rfl:j=m:=by omega
  have:bL n (y,dayY y+cumM y j,(j:Int),(j:Int))=some (.inr (dayY y+cumM y j)):=by
   unfold bL;rw [bM,ab (show ¬((j:Int)<(j:Int)) by omega)]
  rw [av,this]
 | succ r ih=>
  intro j a N b;obtain ⟨N,rfl⟩:∃k,N=k+1:=⟨N - 1,by omega⟩;have w:IntKind.wrap .i64 ((j:Int)+1)=((j+1:Nat):Int):=by rw [wrap_i64 _ (by omega) (by omega)];omega
  have hc:=qQ y j;have e:=jM y ((j+1:Nat):Int);have:bL n (y,dayY y+cumM y j,(m:Int),(j:Int))=some (.inl (y,dayY y+cumM y (j+1),(m:Int),((j+1:Nat):Int))):=by
   unfold bL;rw [bM,ae (show ((j:Int)<(m:Int)) by omega)];simp only [w,yJ n h (show 1<=j+1 by omega) (show j+1<=12 by omega),ob];rw [wrap_i64 (dayY y+cumM y j+lenI y ((j+1:Nat):Int)) (by omega) (by omega),Int.add_assoc];rfl
  rw [av,this];exact ih (j+1) (by omega) N (by omega)
theorem uq (n:Nat) (c:100<n) {y:Int} (h:dZ y) {m:Nat} (b:1<=m) (a:m<=12):fD n y (m:Int)=some (dayM y m,0):=by
 unfold fD;have w:IntKind.wrap .i64 ((m:Int) - 1)=((m - 1:Nat):Int):=by rw [wrap_i64 _ (by omega) (by omega)];omega
 rw [Hy n h b a,sJ n h,w];have:=Gs n h (m:=m - 1) (by omega) (m - 1) 0 (by omega) n (by omega);rw [show dayY y+cumM y 0=dayY y by simp [cumM]] at this;show ob (av (bL n) n (y,dayY y,((m - 1:Nat):Int),((0:Nat):Int))) _=_;rw [this];unfold dayM;rw [ae a];rfl
theorem FA (n:Nat) (c:100<n) {y:Int} (h:dZ y) {m:Nat} (b:1<=m) (a:m<=12):ia n y (m:Int)=some (dayM y (m+1) - 1,0):=by
 unfold ia;have d:=pI h (m:=m) (by omega);have e:=jM y (m:Int);rw [uq n c h b a,yJ n h b a,wY y b a];show some (IntKind.wrap .i64 (IntKind.wrap .i64 (dayM y m+lenI y (m:Int)) - 1),(0:Int))=_;rw [wrap_i64 (dayM y m+lenI y (m:Int)) (by omega) (by omega),wrap_i64 _ (by omega) (by omega)]
theorem Jt (n:Nat) (b:100<n) {y:Int} (h:dZ y) {j m c:Nat} (i:j<21) (e:nE[j]?=some ((m:Int),(c:Int))) (g:1<=m) (f:m<=12) (l:1<=c) (o:c<=6) (hy:12<m+c - 1->y≠10000000000000000):
  iL n y ((21+j:Nat):Int)=some (0,dayM y m,0,dayM y (m+c) - 1,0):=by
 have k:fC n ((21+j:Nat):Int)=some ((m:Int),(c:Int),0):=by
  unfold fC dN;rw [bM,bM,ab (by omega),ab (by omega)];have:IntKind.wrap .i64 (((21+j:Nat):Int) - 21)=(j:Int):=by rw [wrap_i64 _ (by omega) (by omega)];omega
  rw [this,dD i];show ob (nE[j]?) _=_;rw [e];rfl
 unfold iL;rw [k];simp only [ob,hJ,af];rw [uq n b h g f];simp only [ob,hJ,af];rw [madd n h g f l o];have h':=h;unfold dZ at h';by_cases a:12<m+c - 1
 ·rw [ae a,ab (hy a)];have d:dZ (y+1):=by unfold dZ;have:=hy a;omega
  simp only [ob,hJ,af];rw [FA n b d (m:=m+c - 1 - 12) (by omega) (by omega)];have:=ur y (m:=m+c - 1 - 12+1) (by omega) (by omega);rw [show m+c - 1 - 12+1+12=m+c by omega] at this;rw [this]
 ·rw [ab a];simp only [ob,hJ,af];rw [FA n b h (m:=m+c - 1) (by omega) (by omega),show m+c - 1+1=m+c by omega]
theorem Ah (n:Nat) {y:Int} (hy:-10000000000000002<=y/\y<=10000000000000002):∀(r:Nat) (z:Int),z+(r:Int)=y->-10000000000000402<=z->∀N,r<N->av (da n) N (y,dayY z,z)=some (dayY y):=by
 intro r
 induction r with
 | zero=>
  intro z c a N e;obtain ⟨N,rfl⟩:∃k,N=k+1:=⟨N - 1,by omega⟩;obtain rfl:z=y:=by omega
  have:da n (z,dayY z,z)=some (.inr (dayY z)):=by
   unfold da;rw [bM,ab (show ¬(z<z) by omega)]
  rw [av,this]
 | succ r ih=>
  intro z c a N e;obtain ⟨N,rfl⟩:∃k,N=k+1:=⟨N - 1,by omega⟩;have f:=kG (y:=z) (by omega);have b:=yv z;have:da n (y,dayY z,z)=some (.inl (y,dayY (z+1),z+1)):=by
   unfold da;rw [bM,ae (show z<y by omega),BV];have d:lenI z 2=if tw z then 29 else 28:=rfl
   simp only [ob,d];rw [wrap_i64 (dayY z+365) (by omega) (by omega),wrap_i64 (dayY z+365+1) (by omega) (by omega),wrap_i64 (z+1) (by omega) (by omega),b];cases tw z
   ·simp
   ·rfl
  rw [av,this];exact ih (z+1) (by omega) (by omega) N (by omega)
theorem sd (n:Nat) (e:1000<n) {y:Int} (hy:-10000000000000002<=y/\y<=10000000000000002):cn n y=some (dayY y):=by
 have b:=Int.mul_tdiv_add_tmod y 400;have d:Int.tmod y 400=if 0<=y then y%400 else -((-y)%400):=by
  by_cases h:0<=y
  ·rw [ae h,Oy h]
  ·rw [ab h,<-Oy (show 0<=-y by omega),Int.neg_tmod,Int.neg_neg]
 unfold cn;by_cases a:Int.tmod y 400<0
 ·rw [aq a];have c:Int.tdiv y 400 - 1=y / 400:=by
   rw [d] at a b;split at a
   ·omega
   ·rw [ab (by assumption)] at b;omega
  rw [wrap_i64 (Int.tdiv y 400) (by omega) (by omega),c,wrap_i64 (y / 400) (by omega) (by omega),wrap_i64 (y / 400*146097) (by omega) (by omega),wrap_i64 (y / 400*400) (by omega) (by omega)];have:=Ah n hy (y - y / 400*400).toNat (y / 400*400) (by omega) (by omega) n (by omega);rw [show dayY (y / 400*400)=y / 400*146097 by rw [zL,Hg,zL]] at this;simp only [ah,this,ob]
 ·rw [ar a];have c:Int.tdiv y 400=y / 400:=by
   rw [d] at a b;split at a
   ·rw [ae (by assumption)] at b;omega
   ·rw [ab (by assumption)] at b;omega
  rw [c,wrap_i64 (y / 400) (by omega) (by omega),wrap_i64 (y / 400*146097) (by omega) (by omega),wrap_i64 (y / 400*400) (by omega) (by omega)];have:=Ah n hy (y - y / 400*400).toNat (y / 400*400) (by omega) (by omega) n (by omega);rw [show dayY (y / 400*400)=y / 400*146097 by rw [zL,Hg,zL]] at this;simp only [af,this,ob]
theorem xg {step:Int×Int×Int×Int->Option ((Int×Int×Int×Int)⊕Int)} (n:Nat)
  (hs:step=λx=>(cond (decide (x.2.2.2<x.2.1)) (ob (eG n x.1 x.2.2.2) λr=>(some (.inl (x.1,x.2.1,(IntKind.wrap .i64 (x.2.2.1+r)),(IntKind.wrap .i64 (x.2.2.2+1)))))) (some (.inr x.2.2.1))))
  {y:Int} (hy:-10000000000000002<=y/\y<=10000000000000002) {m:Nat} (g:1<=m) (c:m<=12) {N:Nat} (a:20<N):av step N (y,(m:Int),dayY y,1)=some (dayM y m):=by
 have f:=kG (y:=y) (by omega);have d:∀(r j:Nat),j+1+r=m->∀N,r<N->av step N (y,(m:Int),dayY y+cumM y j,((j+1:Nat):Int))=some (dayY y+cumM y (m - 1)):=by
  intro r
  induction r with
  | zero=>
   intro j b N a;obtain ⟨N,rfl⟩:∃k,N=k+1:=⟨N - 1,by omega⟩;obtain rfl:j+1=m:=by omega
   have:step (y,((j+1:Nat):Int),dayY y+cumM y j,((j+1:Nat):Int))=some (.inr (dayY y+cumM y j)):=by
    rw [hs];simp only [];rw [ar (show ¬(((j+1:Nat):Int)<((j+1:Nat):Int)) by omega)];rfl
   rw [av,this];rfl
  | succ r ih=>
   intro j b N a;obtain ⟨N,rfl⟩:∃k,N=k+1:=⟨N - 1,by omega⟩;have w:IntKind.wrap .i64 (((j+1:Nat):Int)+1)=((j+1+1:Nat):Int):=by rw [wrap_i64 _ (by omega) (by omega)];omega
   have hc:=qQ y j;have h:=jM y ((j+1:Nat):Int);have:step (y,(m:Int),dayY y+cumM y j,((j+1:Nat):Int))=some (.inl (y,(m:Int),dayY y+cumM y (j+1),((j+1+1:Nat):Int))):=by
    rw [hs];simp only [];rw [aq (show (((j+1:Nat):Int)<(m:Int)) by omega),BV];simp only [ah,ob,w];rw [wrap_i64 (dayY y+cumM y j+lenI y ((j+1:Nat):Int)) (by omega) (by omega),Int.add_assoc];rfl
   rw [av,this];exact ih (j+1) (by omega) N (by omega)
 have:=d (m - 1) 0 (by omega) N (by omega);rw [show dayY y+cumM y 0=dayY y by simp [cumM]] at this;have e:dayM y m=dayY y+cumM y (m - 1):=by unfold dayM;rw [ae c]
 rw [e];exact this
theorem rH (n:Nat) (a:1000<n) {y:Int} (hy:-10000000000000001<=y/\y<=10000000000000001) {m:Nat} (c:1<=m) (b:m<=24):aU n y (m:Int)=some (dayM y m):=by
 unfold aU;by_cases h:12<m
 ·rw [aq (show (m:Int)>12 by omega),wrap_i64 (y+1) (by omega) (by omega),wrap_i64 ((m:Int) - 12) (by omega) (by omega),show (m:Int) - 12=((m - 12:Nat):Int) by omega];unfold kr;rw [ar (show ¬((m - 12:Nat):Int)>12 by omega),sd n a (by omega)];simp only [ah,af,ob];have:=xg (step:=ja n) n rfl (y:=y+1) (by omega) (m:=m - 12) (by omega) (by omega) (N:=n) (by omega);rw [this,<-ur y (by omega) (by omega),show m - 12+12=m by omega]
 ·rw [ar (show ¬(m:Int)>12 by omega),sd n a (by omega)];simp only [af,ob];have:=xg (step:=ko n) n rfl (y:=y) (by omega) (m:=m) (by omega) (by omega) (N:=n) (by omega);rw [this]
def twoV (s:aa):Nat:=match s with
 | [a,b]=>10*(a.toNat - 48)+(b.toNat - 48)
 | _=>0
def yOf (g:Bool) (dg:aa) (x:Int):Int:=if g then -((val dg x.toNat:Nat):Int) else ((val dg x.toNat:Nat):Int)
def spF (m:aa):Nat:=((nE.getD (sea m - 21).toNat (0,0)).1).toNat
def spC (m:aa):Nat:=((nE.getD (sea m - 21).toNat (0,0)).2).toNat
def og (g:Bool) (dg:aa) (x:Int) (m d:aa):Int×Int:=
 if m=[] then (dayY (yOf g dg x),dayY (yOf g dg x+1) - 1)
 else if 0<sea m then (dayM (yOf g dg x) (spF m),dayM (yOf g dg x) (spF m+spC m) - 1)
 else if d=[] then (dayM (yOf g dg x) (twoV m),dayM (yOf g dg x) (twoV m+1) - 1)
 else (dayM (yOf g dg x) (twoV m)+(twoV d:Int) - 1,dayM (yOf g dg x) (twoV m)+(twoV d:Int) - 1)
def exD (dg m d:aa) (q:Int):Bool:=!(hasX dg||(hasX m||hasX d))&&(q==0)
theorem Rh {s:aa} (h:hasX s=false) {c:UInt8} (hc:c∈s):c≠88:=by
 rintro rfl;unfold hasX at h;rw [sP] at h;exact h 88 hc (by decide)
theorem Ls {s:aa} (h:hasX s=false) {k:Nat} (l:k<100) (c:agr s k=true):twoV s=k/\s=two k:=by
 unfold agr at c;split at c
 ·rename_i a b;have g:a≠88:=Rh h (by simp);have d:b≠88:=Rh h (by simp);simp only [aD,gX,bp] at c;obtain ⟨f,e⟩:=c;have f:=f.resolve_left g;have e:=e.resolve_left d;subst f e;refine ⟨?_,rfl⟩;unfold twoV;have i:(UInt8.ofNat (48+k / 10)).toNat=48+k / 10:=by simp;omega
  have j:(UInt8.ofNat (48+k%10)).toNat=48+k%10:=by simp;omega
  simp only [i,j];omega
 ·cases c
theorem zr {s:aa} (h:hasX s=false) {g:Nat} (d:g<100) (a:dY s g=true):1<=twoV s/\twoV s<=g/\s=two (twoV s):=by
 unfold dY at a;obtain ⟨i,hi,a⟩:=sK.1 a;have:=jp.1 hi;obtain ⟨c,b⟩:=Ls h (by omega) a;rw [c];exact ⟨by omega,by omega,b⟩
theorem Lm {s:aa} (h:hasX s=false) {g:Nat} (d:g<100) {k:Int} (b:k∈uv (fitN s g)):k=(twoV s:Int):=by
 obtain ⟨i,hi,rfl⟩:=ek.1 b;obtain ⟨c,a⟩:=lQ.1 hi;have:=tP.1 c;rw [(Ls h (by omega) a).1]
theorem G5 {k:Nat} (c:k<100):Lib.atoi (two k)=some (k:Int):=by
 have a:(UInt8.ofNat (48+k / 10)).toNat=48+k / 10:=by simp;omega
 have b:(UInt8.ofNat (48+k%10)).toNat=48+k%10:=by simp;omega
 unfold two;rw [HD (by omega) (by omega),a,b];congr 2;omega
theorem zB (n:Nat) {k:Nat} (d:k<100):aZ n (two k)=some (k:Int):=by
 have a:(UInt8.ofNat (48+k / 10)).toNat=48+k / 10:=by simp;omega
 have c:(UInt8.ofNat (48+k%10)).toNat=48+k%10:=by simp;omega
 have s0:sx (two k) 0=some (UInt8.ofNat (48+k / 10)):=rfl;have b:sx (two k) 1=some (UInt8.ofNat (48+k%10)):=rfl;unfold aZ;rw [s0,b];simp only [ob,a,c]
 rw [fL (((48+k / 10:Nat):Int) - 48) (by omega) (by omega),fL (((48+k%10:Nat):Int) - 48) (by omega) (by omega),
  wrap_i64 (((48+k / 10:Nat):Int) - 48) (by omega) (by omega),wrap_i64 (((48+k%10:Nat):Int) - 48) (by omega) (by omega),
  wrap_i64 (10*(((48+k / 10:Nat):Int) - 48)) (by omega) (by omega),wrap_i64 _ (by omega) (by omega)]
 congr 1;omega
structure Exact (g l:Bool) (dg:aa) (x:Int) (m d:aa):Prop where
 ok:okY g l dg x 0
 num:hasX dg=false
 cal:dZ (yOf g dg x)
 mon:m=[]\/(∃j,j<21/\m=two (21+j)/\(j=3\/j=7\/j=9->yOf g dg x≠10000000000000000))\/(sea m=0/\1<=twoV m/\twoV m<=12/\m=two (twoV m))
 day:d=[]\/(m≠[]/\sea m=0/\1<=twoV d/\twoV d<=31/\d=two (twoV d)/\(twoV d:Int)<=lenI (yOf g dg x) (twoV m:Int))
theorem wj {g l:Bool} {dg:aa} {x q:Int} {m d:aa} {k0 k1 k2:Int} (hc:chkF g l dg x q m d k0 k1 k2=0) (f:exD dg m d q=true):q=0/\Exact g l dg x m d:=by
 unfold exD at f;simp only [aD,jP,ox,bp] at f;obtain ⟨⟨B,r,n⟩,rfl⟩:=f;refine ⟨rfl,?_⟩;have w:=o6 hc;obtain ⟨a,O,J,Q,D⟩:=o7 w;obtain ⟨i,P,I,c4⟩:=CY w;have s:=Fg a B;obtain ⟨F,_,_⟩:=F3 a;have hy:inP g dg x 0 (yOf g dg x):=by
  have:=(s _).1 F;have e:yOf g dg x=(sgn g (n7 g dg x 0)).1:=by rw [this];rfl
  rw [e];exact F
 have k:=Bj hy;refine ⟨a,B,k,?_,?_⟩
 ·by_cases p:m=[]
  ·exact .inl p
  ·right;rcases pN m with N | ⟨j,G,e⟩
   ·right;rcases P with h | h | h
    ·exact absurd h p
    ·omega
    ·obtain ⟨a1,a2,y⟩:=zr r (by omega) h;exact ⟨N,a1,a2,y⟩
   ·left;refine ⟨j,G,e,λH=>?_⟩;unfold yrD at i;rw [ae a] at i;unfold yrB at i;simp only [aD,jP] at i;have C:wint (sea m)=true:=by
     rw [e,kZ G];rcases H with rfl | rfl | rfl<;>rfl
    have o:=i.2;rw [C,qB] at o;unfold rP at o;rw [B] at o;intro b;unfold yOf at b;cases g with
    | true=>
     simp only [aM] at b;omega
    | false=>
     simp only [bs,aG] at b;have:val dg x.toNat=E16:=by unfold E16;omega
     rw [aq this] at o;cases o
 ·by_cases c:d=[]
  ·exact .inl c
  ·right;obtain ⟨p,hs⟩:=D c;rcases I with h | ⟨_,_,h⟩
   ·exact absurd h c
   ·obtain ⟨a1,a2,y⟩:=zr n (by omega) h;refine ⟨p,hs,a1,a2,y,?_⟩;have M:hasF g dg x m d:=by
     unfold chkF at hc;split at hc
     ·cases hc
     ·rename_i K;by_cases h:hasF g dg x m d
      ·exact h
      ·exact absurd ⟨w,c,h⟩ K
    obtain ⟨e,f,v⟩:=M;obtain ⟨z,L,A⟩:=List.exists_cons_of_ne_nil v;have A:z∈vV m d e:=by rw [A];exact mO
    obtain ⟨z1,z2,E,t⟩:=HB.1 A;have u:e=yOf g dg x:=(s e).1 f;unfold monI at z2;rw [ab p,ab (by omega)] at z2;unfold dayI at E;rw [ab c] at E;unfold vT at t;rw [ab c,Lm n (by omega) E,Lm r (by omega) z2,u] at t;exact t
theorem GF {j:Nat} (a:j<21):∃f c:Nat,nE[j]?=some ((f:Int),(c:Int))/\1<=f/\f<=12/\1<=c/\c<=6/\(12<f+c - 1↔j=3\/j=7\/j=9)/\spF (two (21+j))=f/\spC (two (21+j))=c:=by
 obtain ⟨f,c,e,g,d,i,k,h⟩:=HE a;have hs:(sea (two (21+j)) - 21).toNat=j:=by rw [kZ a];omega
 have b:nE.getD j (0,0)=((f:Int),(c:Int)):=by rw [Ei,e];rfl
 refine ⟨f,c,e,g,d,i,k,h,?_,?_⟩
 ·unfold spF;rw [hs,b];rfl
 ·unfold spC;rw [hs,b];rfl
theorem DL (n:Nat) {j:Nat} (a:j<21):gU n ((21+j:Nat):Int)=nE[j]?:=by
 have:j=0\/j=1\/j=2\/j=3\/j=4\/j=5\/j=6\/j=7\/j=8\/j=9\/j=10\/j=11\/j=12\/j=13\/j=14\/j=15\/j=16\/j=17\/j=18\/j=19\/j=20:=by omega
 rcases this with rfl | rfl | rfl | rfl | rfl | rfl | rfl | rfl | rfl | rfl | rfl | rfl | rfl | rfl | rfl | rfl | rfl | rfl | rfl | rfl | rfl<;>rfl
theorem IF (n:Nat) (g l:Bool) (dg:aa) (x q:Int) (m d:aa) (k0 k1 k2:Int) (b:m.length<=1000) (a:dg.length<=1000) (h:d.length<=1000):mK n g l dg x q m d k0 k1 k2=some (exD dg m d q):=by
 unfold mK exD;rw [Db n g l dg x q m d k0 k1 k2 b a h];simp only [ob];cases (hasX dg||(hasX m||hasX d))<;>rfl
theorem RE {Y:Type} (a b:Y):∀s:aa,((s.findSome? λc=>if c=88 then some a else none).getD b)=if hasX s then a else b
 | []=>rfl
 | c::s=>by
  have ih:=RE a b s;unfold hasX at ih ⊢;rw [DG,qX];by_cases hc:c=88
  ·subst hc;rfl
  ·rw [ab hc];have e:(c==88)=false:=aJ.2 hc;rw [e,oh];exact ih
theorem zb (n:Nat) (s:aa) (g l:Bool) (dg:aa) (x q:Int) (m d:aa) (k0 k1 k2:Int) (hs:s.length<=100000) {N:Nat} (b:s.length<N):
  av (ef n) N (s,0,g,l,dg,x,q,m,d,k0,k1,k2)=some (if hasX s then .inl 0 else .inr (g,l,dg,x,q,m,d,k0,k1,k2)):=by
 have:=ul (step:=ef n) (f:=λi=>(s,(i:Int),g,l,dg,x,q,m,d,k0,k1,k2)) (L:=s) (G:=λc=>if c=88 then some (.inl 0) else none) (e:=.inr (g,l,dg,x,q,m,d,k0,k1,k2))
  (λi c hi=>by
   have j:=(rf.1 hi).1;have a:IntKind.wrap .i64 ((i:Int)+1)=((i+1:Nat):Int):=by rw [wrap_i64 _ (by omega) (by omega)];omega
   unfold ef;simp only [d4,d8,a];rw [aq (show (i:Int)<((s.length:Nat):Int) by omega),eF hi];simp only [ah,ob];by_cases hc:c=88
   ·subst hc;rw [ae rfl];rfl
   ·rw [ab hc];have:(((c.toNat:Nat):Int)==88)=false:=by
     rw [aJ];intro h;apply hc;apply gD.1;have:c.toNat=88:=by omega
     rw [this];rfl
    rw [this];rfl)
  (by
   unfold ef;simp only [d4,d8];rw [ar (show ¬((s.length:Nat):Int)<((s.length:Nat):Int) by omega)];rfl)
  b
 rw [show ((0:Nat):Int)=0 from rfl] at this;rw [this];rw [RE]
theorem CS (n:Nat) (g l:Bool) (dg:aa) (x q:Int) (m d:aa) (k0 k1 k2:Int) (f:m.length<=1000) (i:dg.length<=1000) (h:d.length<=1000) (e:4000<n):iR n g l dg x q m d k0 k1 k2=some (if exD dg m d q then 1 else 0):=by
 unfold iR;rw [dV (by omega)];simp only [ob];rw [dV (by rw [bv];omega)];simp only [];rw [zb n _ _ _ _ _ _ _ _ _ _ _ (by simp only [bv];omega) (by simp only [bv];omega)];rw [wy,wy];unfold exD;cases hasX dg<;>cases hasX m<;>cases hasX d<;>(try rfl);simp only [Bool.or_false,bs,aG,ob,d4,jA,qB];by_cases a:q=0
 ·subst a;rfl
 ·have c:(q != 0)=true:=by simp [a]
  have b:(q==0)=false:=aJ.2 a;rw [c,b];rfl
theorem UA (n:Nat) (c:100<n) {y:Int} (h:dZ y) {m k:Nat} (b:1<=m) (a:m<=12) (k1:1<=k) (k2:(k:Int)<=lenI y (m:Int)):sc n y (m:Int) (k:Int)=some (dayM y m+(k:Int) - 1,0):=by
 have d:=pI h (m:=m) (by omega);have e:=jM y (m:Int);unfold sc qZ;rw [KL n h b a];simp only [ob,hJ,af];rw [ar (show ¬(k:Int)<1 by omega),ar (show ¬(k:Int)>lenI y (m:Int) by omega),uq n c h b a];simp only [ob,hJ,af];rw [wrap_i64 (dayM y m+(k:Int)) (by omega) (by omega),wrap_i64 _ (by omega) (by omega)]
section
variable {g l:Bool} {dg:List UInt8} {x:Int} {m d:List UInt8} {k0 k1 k2:Int}
theorem Ft (n:Nat) (u:100<n) (D:m.length<=18) (E:Exact g l dg x m d) (p r:Int) (w:m≠[]->p=if 0<sea m then sea m else (twoV m:Int)) (O:d≠[]->r=(twoV d:Int)):
  (ob (jw n) λv=>(ob (bm n g l dg x 0 m d k0 k1 k2) λa=>(cond (a==0) (ob (gp n (yOf g dg x) ([p,r]:List (Int))) λb=>(some (b.1,b.2.1,b.2.2.1,b.2.2.2,(0:Int)))) (cond (a==1) (ob (gC n (yOf g dg x) ([p,r]:List (Int))) λo=>(some (o.1,o.2.1,o.2.2.1,o.2.2.2,0))) (cond (a==2) (ob (gG n (yOf g dg x) ([p,r]:List (Int))) λk=>(some (k.1,k.2.1,k.2.2.1,k.2.2.2,0))) (cond (a==3) (ob (gy n (yOf g dg x) ([p,r]:List (Int))) λi=>(some (i.1,i.2.1,i.2.2.1,i.2.2.2,0))) none)))))) =
   some (0,(og g dg x m d).1,0,(og g dg x m d).2,0):=by
 have K:jw n=some ():=rfl;have B:ix ([p,r]:List Int).length 0=some 0:=rfl;have M:ix ([p,r]:List Int).length 1=some 1:=rfl;have g0:([p,r]:List Int)[0]?=some p:=rfl;have I:([p,r]:List Int)[1]?=some r:=rfl;rw [K,MH n g l dg x 0 m d k0 k1 k2 D];unfold og;by_cases t:d=[]
 ·rw [ae t];by_cases q:m=[]
  ·have hs:sea m=0:=by rw [q];decide
   rw [ab (show ¬0<sea m by omega),ae q,ae q];unfold gC;rw [sJ n E.cal,D3 n E.cal];rfl
  ·rw [ab q];by_cases hs:0<sea m
   ·rw [ae hs,ae hs];rcases E.mon with h | ⟨j,s,e,z⟩ | ⟨h,_⟩
    ·exact absurd h q
    ·obtain ⟨f,c,J,a1,a2,F,H,G,N,L⟩:=GF s;have y:p=((21+j:Nat):Int):=by rw [w q,ae hs,e,kZ s]
     unfold gp;rw [B];simp only [ob,g0];rw [y,Jt n u E.cal s J a1 a2 F H (λh=>z (G.1 h)),e,N,L];rfl
    ·omega
   ·rw [ab hs,ab hs,ab q,ae t];rcases E.mon with h | ⟨j,s,e,z⟩ | ⟨_,a1,a2,_⟩
    ·exact absurd h q
    ·rw [e,kZ s] at hs;omega
    ·have y:p=(twoV m:Int):=by rw [w q,ab hs]
     unfold gG;rw [B];simp only [ob,g0];rw [y,uq n u E.cal a1 a2,FA n u E.cal a1 a2];rfl
 ·rw [ab t];rcases E.day with h | ⟨q,hs,b1,b2,Q,P⟩
  ·exact absurd h t
  ·rw [ab q,ab (show ¬0<sea m by omega),ab t];rcases E.mon with h | ⟨j,s,e,z⟩ | ⟨_,a1,a2,_⟩
   ·exact absurd h q
   ·rw [e,kZ s] at hs;omega
   ·have C:p=(twoV m:Int):=by rw [w q,ab (by omega)]
    have A:=O t;unfold gy;rw [B,M];simp only [ob,g0,I];rw [C,A,UA n u E.cal a1 a2 b1 P];rfl
theorem Qb (E:Exact g l dg x m d) (c:m≠[]):Lib.atoi m=some (if 0<sea m then sea m else (twoV m:Int)):=by
 rcases E.mon with h | ⟨j,a,e,_⟩ | ⟨f,a1,a2,b⟩
 ·exact absurd h c
 ·rw [e,kZ a,ae (by omega)];exact wT a
 ·rw [ab (by omega)];have:=G5 (k:=twoV m) (by omega);rw [<-b] at this;exact this
theorem Qi (E:Exact g l dg x m d) (b:d≠[]):Lib.atoi d=some (twoV d:Int):=by
 rcases E.day with h | ⟨_,_,a1,a2,a,_⟩
 ·exact absurd h b
 ·have:=G5 (k:=twoV d) (by omega);rw [<-a] at this;exact this
theorem CL:Lib.atoi []=none:=by kernel_rfl
theorem FD {q:Int} (b:m.length<=18) (e:dg.length<=100) (s:d.length<=18) (k:0<=k0) (p:0<=k1) (o:0<=k2):
  gv 20000000 g l dg x q m d k0 k1 k2=some (if chkF g l dg x q m d k0 k1 k2=0 then (if exD dg m d q=true then (0,(og g dg x m d).1,0,(og g dg x m d).2,0) else (0,0,0,0,1)) else (0,0,0,0,chkF g l dg x q m d k0 k1 k2)):=by
 have r:Nat.ble m.length 18=true:=dm b;have t:Nat.ble d.length 18=true:=dm s;unfold gv;rw [wb b e k p o];simp only [ob];by_cases hc:chkF g l dg x q m d k0 k1 k2=0
 ·rw [ae hc,hc,IF 20000000 g l dg x q m d k0 k1 k2 (by omega) (by omega) (by omega)];simp only [ob,hJ,af];by_cases c:exD dg m d q=true
  ·rw [ae c,c];obtain ⟨rfl,E⟩:=wj hc c;have n:eM 20000000 g l dg x 0=some (yOf g dg x,0):=by
    rw [BL 20000000 g l dg x 0 (by omega) e,ae ⟨E.ok,E.num⟩];rfl
   rw [n,r,t];simp only [dn,af,ah,ob];by_cases f:m=[]
   ·have a:d=[]:=by
     rcases E.day with h | ⟨h,_⟩
     ·exact h
     ·exact absurd f h
    have:=Ft (k0:=k0) (k1:=k1) (k2:=k2) 20000000 (by omega) b E 0 0 (λh=>absurd f h) (λh=>absurd a h);have i:Lib.atoi m=none:=by rw [f];exact CL
    have j:Lib.atoi d=none:=by rw [a];exact CL
    rw [i,j];simp only [opt];exact this
   ·have i:=Qb E f;by_cases a:d=[]
    ·have:=Ft (k0:=k0) (k1:=k1) (k2:=k2) 20000000 (by omega) b E (if 0<sea m then sea m else (twoV m:Int)) 0 (λ_=>rfl) (λh=>absurd a h);have j:Lib.atoi d=none:=by rw [a];exact CL
     rw [i,j];simp only [opt];exact this
    ·have:=Ft (k0:=k0) (k1:=k1) (k2:=k2) 20000000 (by omega) b E (if 0<sea m then sea m else (twoV m:Int)) (twoV d:Int) (λ_=>rfl) (λ_=>rfl);rw [i,Qi E a];simp only [opt];exact this
  ·rw [ab c];rw [HC] at c;rw [c];rfl
 ·rw [ab hc,bne0 hc];rfl
theorem vu (E:Exact g l dg x m d) (J:dg.length<=100):dl 20000000 g l dg x 0 m d k0 k1 k2=some (og g dg x m d):=by
 obtain ⟨k,q,rfl,V,I⟩:=sR E.ok E.num;have Z:k<=17:=by have:=I.wide;omega
 have hs:=I.small;have H:am 20000000 dg (k:Int)=some (((val dg k:Nat):Int),1):=by
  rw [jD 20000000 dg k I.dig J (by omega) (by omega),ae I.small];rfl
 have P:dval 0 dg*10 ^ k=val dg k:=rfl;rw [P] at hs;unfold E16 at hs;have hy:yOf g dg (k:Int)=if g then -((val dg k:Nat):Int) else ((val dg k:Nat):Int):=by unfold yOf;rw [bY]
 have C:=E.cal;unfold dZ at C;have key:∀y:Int,y=yOf g dg (k:Int)->
   (ob (aO 20000000 g l dg (k:Int) 0 m d k0 k1 k2) λb=>(cond (m==([]:aa)) (ob (cn 20000000 y) λA=>(ob (cn 20000000 (IntKind.wrap .i64 (y+1))) λu=>(some (A,(IntKind.wrap .i64 (u - 1)))))) (cond (decide (b>0)) (ob (gU 20000000 b) λa=>(ob (aU 20000000 y a.1) λv=>(ob (aU 20000000 y (IntKind.wrap .i64 (a.1+a.2))) λs=>(some (v,(IntKind.wrap .i64 (s - 1))))))) (cond (d==([]:aa)) (ob (aZ 20000000 m) λr=>(ob (aU 20000000 y r) λt=>(ob (aZ 20000000 m) λp=>(ob (aU 20000000 y (IntKind.wrap .i64 (p+1))) λz=>(some (t,(IntKind.wrap .i64 (z - 1)))))))) (ob (aZ 20000000 m) λo=>(ob (aU 20000000 y o) λi=>(ob (aZ 20000000 d) λn=>(some ((IntKind.wrap .i64 ((IntKind.wrap .i64 (i+n)) - 1)),(IntKind.wrap .i64 ((IntKind.wrap .i64 (i+n)) - 1)))))))))) )=some (og g dg (k:Int) m d):=by
  intro y L;subst L;have hcal':=E.cal;have Y:=kG (y:=yOf g dg (k:Int)+1) (by omega);rw [lL 20000000 (by omega)];simp only [ob];unfold og;by_cases B:m=[]
  ·have e:(m==([]:aa))=true:=by rw [B];rfl
   rw [ae B,e,sd 20000000 (by omega) (by omega),wrap_i64 (yOf g dg (k:Int)+1) (by omega) (by omega),sd 20000000 (by omega) (by omega)];simp only [ah,ob];rw [wrap_i64 _ (by omega) (by omega)]
  ·rw [ab B,fZ B];simp only [af];by_cases hs:0<sea m
   ·rw [ae hs,aq (show sea m>0 from hs)];rcases E.mon with h | ⟨j,G,e,_⟩ | ⟨h,_⟩
    ·exact absurd h B
    ·obtain ⟨f,c,Q,a1,a2,N,X,W,T,S⟩:=GF G;have K:sea m=((21+j:Nat):Int):=by rw [e,kZ G]
     have O:=pI hcal' (m:=f+c) (by omega);rw [K,DL 20000000 G,Q];simp only [ah,ob];rw [rH 20000000 (by omega) (by omega) a1 (by omega)];simp only [ob];rw [wrap_i64 ((f:Int)+(c:Int)) (by omega) (by omega),show (f:Int)+(c:Int)=((f+c:Nat):Int) by omega,rH 20000000 (by omega) (by omega) (by omega) (by omega)];simp only [ob];rw [wrap_i64 _ (by omega) (by omega),e,T,S]
    ·omega
   ·rw [ab hs,ar (show ¬sea m>0 from hs)];simp only [af];rcases E.mon with h | ⟨j,G,e,_⟩ | ⟨_,a1,a2,N⟩
    ·exact absurd h B
    ·rw [e,kZ G] at hs;omega
    ·have M:=zB 20000000 (k:=twoV m) (by omega);rw [<-N] at M;have O:=pI hcal' (m:=twoV m) (by omega);have U:=pI hcal' (m:=twoV m+1) (by omega);by_cases D:d=[]
     ·have e:(d==([]:aa))=true:=by rw [D];rfl
      rw [ae D,e,M];simp only [ah,ob];rw [rH 20000000 (by omega) (by omega) a1 (by omega)];simp only [ob];rw [wrap_i64 ((twoV m:Int)+1) (by omega) (by omega),show (twoV m:Int)+1=((twoV m+1:Nat):Int) by omega,rH 20000000 (by omega) (by omega) (by omega) (by omega)];simp only [ob];rw [wrap_i64 _ (by omega) (by omega)]
     ·rw [ab D,fZ D];rcases E.day with h | ⟨_,_,b1,b2,R,b4⟩
      ·exact absurd h D
      ·have F:=zB 20000000 (k:=twoV d) (by omega);rw [<-R] at F;rw [M];simp only [af,ob];rw [rH 20000000 (by omega) (by omega) a1 (by omega),F];simp only [ob];rw [wrap_i64 (dayM (yOf g dg (k:Int)) (twoV m)+(twoV d:Int)) (by omega) (by omega),wrap_i64 _ (by omega) (by omega)]
 unfold dl;rw [H];simp only [ob];cases g with
 | true=>
  have w:IntKind.wrap .i64 (0 - ((val dg k:Nat):Int))=yOf true dg (k:Int):=by
   rw [wrap_i64 _ (by omega) (by omega),hy];simp
  rw [w];simp only [ah];exact key _ rfl
 | false=>
  have w:((val dg k:Nat):Int)=yOf false dg (k:Int):=by rw [hy];rfl
  rw [w];simp only [af];exact key _ rfl
end
end Go.Sh
