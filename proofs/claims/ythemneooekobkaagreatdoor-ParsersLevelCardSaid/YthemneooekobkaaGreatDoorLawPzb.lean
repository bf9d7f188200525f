
/- Plain proofs, kept as far as they are needed here (printed by prune.py).
   Conditions: none. -/
import Derived.Test.YthemneooekobkaaGreatDoorLawPza
set_option linter.unusedVariables false
set_option linter.unusedSimpArgs false
set_option maxRecDepth 100000
namespace Go.Sh
open Go.Abs
def fe (A B:Nat) (w:aa):aa:=mt A++w++mt B
def wa (g l:Bool) (dg:aa) (x q:Int) (m d:aa) (k0 k1 k2:Nat):aa:=
 fe (plA (cg m d) k0 k1 k2).1 (plB (cg m d) k0 k1 k2).1 (jH g l dg x q)
  ++ ((if m=[] then [] else 45::fe (plA (cg m d) k0 k1 k2).2.1 (plB (cg m d) k0 k1 k2).2.1 m)
  ++ (if d=[] then [] else 45::fe (plA (cg m d) k0 k1 k2).2.2 (plB (cg m d) k0 k1 k2).2.2 d))
structure OkD (g l:Bool) (dg:aa) (x q:Nat) (m d:aa) (k0 k1 k2:Nat):Prop where
 yr:okY g l dg (x:Int) (q:Int)
 x16:x<=16
 q17:q<=17
 dg17:dg.length<=17
 noM:0<q->m=[]
 mon:m=[]\/(m.length=2/\∀c∈m,isDX c=true)
 day:d=[]\/(m≠[]/\d.length=2/\∀c∈d,isDX c=true)
 m0:k0<4
 m1:k1<4
 m2:k2<4
 z1:cg m d<2->k1=0
 z2:cg m d<3->k2=0
theorem JC {g l:Bool} {dg:aa} {x q:Int} {m d:aa} {k0 k1 k2:Int} (v:0<=k0) (B:0<=k1) (C:0<=k2) (h:chkD g l dg x q m d k0 k1 k2=0):
  ∃r p a b c:Nat,x=(r:Int)/\q=(p:Int)/\k0=(a:Int)/\k1=(b:Int)/\k2=(c:Int)/\OkD g l dg r p m d a b c:=by
 obtain ⟨f,i,k,o⟩:=H8 h;unfold yrD at f;by_cases e:okY g l dg x q
 rotate_left
 ·rw [ab e] at f;cases f
 rw [ae e] at f;obtain ⟨s,D,u,w,A,t⟩:=ir e;have hk':¬(3<k0\/3<k1\/3<k2\/(cg m d<2/\k1≠0)\/(cg m d<3/\k2≠0)):=by
  intro z;unfold allM at o;rw [ae z] at o;exact absurd o (by decide)
 refine ⟨x.toNat,q.toNat,k0.toNat,k1.toNat,k2.toNat,by omega,by omega,by omega,by omega,by omega,?_⟩;rw [<-Dx s,<-Dx u] at e;refine ⟨e,by omega,by omega,t,?_,?_,?_,by omega,by omega,by omega,by omega,by omega⟩
 ·intro y;unfold yrB at f;have hq':decide (0<q)=true:=by simp;omega
  rw [hq'] at f;by_cases j:m=[]
  ·exact j
  ·have:(m==[])=false:=aM.2 j;rw [this] at f;simp at f
 ·rcases i with i | i | i
  ·exact .inl i
  ·exact .inr (Hu i)
  ·exact .inr (pq (by omega) i)
 ·rcases k with k | ⟨k,_,n⟩
  ·exact .inl k
  ·have:=pq (show 31<=31 by omega) n;exact .inr ⟨k,this.1,this.2⟩
theorem xM (a b:Nat) (w:aa):(fe a b w).length<=w.length+2:=by
 have c:∀z:Nat,(mt z).length<=1:=λz=>by
  unfold mt;split
  ·simp
  ·split
   ·simp
   ·split<;>simp
 have:=c a;have:=c b;unfold fe;simp only [bV];omega
theorem E1:cg [] []=1:=rfl
theorem DO {m:aa} (h:m≠[]):cg m []=2:=by unfold cg;rw [aM.2 h];rfl
theorem Fb {m d:aa} (h:m≠[]) (a:d≠[]):cg m d=3:=by unfold cg;rw [aM.2 h,aM.2 a];rfl
theorem mq {d:aa} (h:d.length=2):d≠[]:=by rintro rfl;simp at h
theorem Gi (n:Nat) {g l:Bool} {dg:aa} {x q:Nat} {m d:aa} {k0 k1 k2:Nat} (e:OkD g l dg x q m d k0 k1 k2):
  aZ (n+300) g l dg (x:Int) (q:Int) m d (k0:Int) (k1:Int) (k2:Int)=some (wa g l dg (x:Int) (q:Int) m d k0 k1 k2):=by
 have hc:=mz m d;have t:=(TS n (cg m d) k0 k1 k2 hc e.m0 e.m1 e.m2 e.z1 e.z2).2;obtain ⟨C,B,F,p,D,E⟩:=SH (k:=cg m d) e.m0 e.m1 e.m2;have v:=uv e.yr;have W:=e.x16;have V:=e.q17;have G:=e.dg17;unfold aZ;rw [gH (n+300)];simp only [ob];rw [t,Kt (n+300) g l dg x q (by omega) (by omega) (by omega)];unfold wa;generalize jH g l dg (x:Int) (q:Int)=Y at v ⊢;generalize H:plA (cg m d) k0 k1 k2=N at *;generalize S:plB (cg m d) k0 k1 k2=PB at *;obtain ⟨w,s,A⟩:=N;obtain ⟨y,r,u⟩:=PB;simp only at C B F p D E;have j:∀z:Nat,(mt z).length<=1:=λz=>by
  unfold mt;split
  ·simp
  ·split
   ·simp
   ·split<;>simp
 have L:=j w;have J:=j s;have T:=j A;have O:=j y;have K:=j r;have R:=j u;have I:m.length<=2:=by
  rcases e.mon with h | h
  ·rw [h];simp
  ·omega
 have Q:d.length<=2:=by
  rcases e.day with h | h
  ·rw [h];simp
  ·omega
 have M:∀a b c:Nat,(l3 (a,b,c))[0]?=some (a:Int):=λ_ _ _=>rfl;have U:∀a b c:Nat,(l3 (a,b,c))[1]?=some (b:Int):=λ_ _ _=>rfl;have P:∀a b c:Nat,(l3 (a,b,c))[2]?=some (c:Int):=λ_ _ _=>rfl;have f:∀a b:aa,a.length+b.length<=1000000->cat a b=some (a++b):=λa b h=>eZ h;simp only [ob,M,U,P,(FW (n+300) w C).2,(FW (n+300) s B).2,(FW (n+300) A F).2,(FW (n+300) y p).2,(FW (n+300) r D).2,(FW (n+300) u E).2];rw [f (mt w) Y (by omega)];simp only [ob];rw [f _ (mt y) (by simp only [bV];omega)];simp only [ob];have k1':decide (((cg m d:Nat):Int)>1)=decide (1<cg m d):=by rw [lR];omega
 have k2':decide (((cg m d:Nat):Int)>2)=decide (2<cg m d):=by rw [lR];omega
 rw [k1',k2'];by_cases i:m=[]
 ·have o:d=[]:=e.day.resolve_right (λz=>z.1 i);subst i o;rw [E1];simp [fe]
 ·by_cases o:d=[]
  ·subst o;rw [DO i,ab i];simp only [show decide (1<2)=true from rfl,show decide (2<2)=false from rfl,aj,af];rw [f [45] (mt s) (by simp;omega)];simp only [ob];rw [f _ m (by simp only [bV,bf,dR];omega)];simp only [ob];rw [f _ (mt r) (by simp only [bV,bf,dR];omega)];simp only [ob];rw [f _ _ (by simp only [bV,bf,dR];omega)];simp [fe]
  ·rw [Fb i o,ab i,ab o];simp only [show decide (1<3)=true from rfl,show decide (2<3)=true from rfl,aj,af];rw [f [45] (mt s) (by simp;omega)];simp only [ob];rw [f _ m (by simp only [bV,bf,dR];omega)];simp only [ob];rw [f _ (mt r) (by simp only [bV,bf,dR];omega)];simp only [ob];rw [f _ _ (by simp only [bV,bf,dR];omega)];simp only [ob];rw [f [45] (mt A) (by simp;omega)];simp only [ob];rw [f _ d (by simp only [bV,bf,dR];omega)];simp only [ob];rw [f _ (mt u) (by simp only [bV,bf,dR];omega)];simp only [ob];rw [f _ _ (by simp only [bV,bf,dR];omega)];simp [fe]
def isMk (c:UInt8):Bool:=decide (0<mkOf c)
theorem pC {S u v:aa} {a:Nat} (h:S.drop a=u++v):S.drop (a+u.length)=v:=by
 rw [<-iL,h,AW];rfl
theorem Jh {A:Nat} (d:A<4) {r:aa} (b:cH isMk r):mkS (mt A++r)=A/\mkN (mt A++r)=(mt A).length:=by
 have a:mkS r=0:=by
  cases r with
  | nil=>rfl
  | cons c r=>
   have:=b c rfl;unfold isMk at this;have:=of_decide_eq_false this;show mkOf c=0;omega
 have h:A=0\/A=1\/A=2\/A=3:=by omega
 rcases h with rfl | rfl | rfl | rfl
 ·refine ⟨a,?_⟩;show mkN r=0;unfold mkN;rw [ae a]
 ·exact ⟨rfl,rfl⟩
 ·exact ⟨rfl,rfl⟩
 ·exact ⟨rfl,rfl⟩
theorem dt {p:UInt8->Bool} {c:UInt8} {r:aa} (h:p c=false):cH p (c::r):=λa hc=>by
 simp only [zY,aq] at hc;rw [<-hc];exact h
theorem Ik {p:UInt8->Bool} (B:Nat) {r:aa} (a:p 63=false) (c:p 126=false) (b:p 37=false) (d:cH p r):cH p (mt B++r):=by
 unfold mt;split
 ·exact dt a
 ·split
  ·exact dt c
  ·split
   ·exact dt b
   ·exact d
theorem FP {c:UInt8} (h:isDX c=true):isMk c=false:=by
 have:=gu (λc=>!(isDX c)||!(isMk c)) (by decide +kernel) c;rw [h] at this;simpa using this
theorem tG {p q:UInt8->Bool} {w r:aa} (b:w≠[]) (h:∀c∈w,p c=true) (a:∀c,p c=true->q c=false):cH q (w++r):=by
 cases w with
 | nil=>exact absurd rfl b
 | cons c w=>exact dt (a c (h c qD))
theorem JM {g l:Bool} {d:aa} {x s:Int} (h:okY g l d x s):∀c∈d,isDX c=true:=by
 intro c hc;unfold okY at h;have:aT c=true\/c=88:=by
  split at h
  ·exact .inl (h.1.1 c hc)
  ·exact h.2.1 c hc
 unfold isDX;rcases this with a | a
 ·rw [a];rfl
 ·rw [a];decide
theorem FC {g l:Bool} {d:aa} {x s:Nat} (h:okY g l d (x:Int) (s:Int)) (r:aa):cH isMk (jH g l d (x:Int) (s:Int)++r):=by
 have a:d≠[]:=by
  have:=(ir h).2.2.2.2.1;rintro rfl;simp at this
 rw [jb];cases l with
 | true=>exact dt (by decide)
 | false=>
  cases g with
  | true=>exact dt (by decide)
  | false=>
   simp only [bq,aE,ek,iN];exact tG a (JM h) (λc=>FP)
theorem qX {S:aa} {p A B:Nat} {w R:aa} (h:S.drop p=fe A B w++R) (j:A<4) (f:B<4) (l:cH isMk (w++(mt B++R))) (k:cH isMk R):
  mkS (S.drop p)=A/\S.drop (mkE S p)=w++(mt B++R)/\mkS (S.drop (mkE S p+w.length))=B/\S.drop (mkE S (mkE S p+w.length))=R/\mkE S (mkE S p+w.length)=p+(fe A B w).length:=by
 have h':S.drop p=mt A++(w++(mt B++R)):=by rw [h];unfold fe;simp
 obtain ⟨m,e⟩:=Jh j l;obtain ⟨i,g⟩:=Jh f k;have c:mkE S p=p+(mt A).length:=by unfold mkE;rw [h',e]
 have d:S.drop (mkE S p)=w++(mt B++R):=by rw [c];exact pC h'
 have b:S.drop (mkE S p+w.length)=mt B++R:=pC d;have a:mkE S (mkE S p+w.length)=mkE S p+w.length+(mt B).length:=by
  show mkE S p+w.length+mkN (S.drop (mkE S p+w.length))=_;rw [b,g]
 refine ⟨by rw [h',m],d,by rw [b,i],by rw [a];exact pC b,?_⟩;rw [a,c];unfold fe;simp only [bV];omega
theorem ze {m r:aa} (f:m.length=2) (h:∀c∈m,isDX c=true):twoN (m++r)=2/\(m++r).take 2=m:=by
 match m,f with
 | [a,b],_=>
  have e:=h a (by simp);have d:=h b (by simp);refine ⟨?_,rfl⟩;unfold twoN;show br isDX 2 (a::b::r)=2;simp [br,e,d]
theorem OA {k a b c:Nat} (e:k<2->b=0) (d:k<3->c=0) (f:1<=k):(k<2->(plA k a b c).2.1=0/\(plB k a b c).2.1=0)/\(k<3->(plA k a b c).2.2=0/\(plB k a b c).2.2=0):=by
 unfold plA plB;constructor
 ·intro h;have:k=1:=by omega
  subst this;have:=e h;split
  ·simp
  ·simp [this]
 ·intro h;have:=d h;split
  ·split
   ·simp
   ·have:k=2:=by omega
    simp [this]
  ·simp [this]
def rawD (A B:Nat×Nat×Nat) (g l:Bool) (dg:aa) (x q:Int) (m d:aa):aa:=
 fe A.1 B.1 (jH g l dg x q)++((if m=[] then [] else 45::fe A.2.1 B.2.1 m)++(if d=[] then [] else 45::fe A.2.2 B.2.2 d))
structure MkD (A B:Nat×Nat×Nat) (m d:aa):Prop where
 a0:A.1<4
 a1:A.2.1<4
 a2:A.2.2<4
 b0:B.1<4
 b1:B.2.1<4
 b2:B.2.2<4
 zm:m=[]->A.2.1=0/\B.2.1=0
 zd:d=[]->A.2.2=0/\B.2.2=0
structure ShD (g l:Bool) (dg:aa) (x q:Nat) (m d:aa):Prop where
 yr:okY g l dg (x:Int) (q:Int)
 noM:0<q->m=[]
 mon:m=[]\/(m.length=2/\∀c∈m,isDX c=true)
 day:d=[]\/(m≠[]/\d.length=2/\∀c∈d,isDX c=true)
theorem OkD.sh {g l:Bool} {dg:aa} {x q:Nat} {m d:aa} {k0 k1 k2:Nat} (h:OkD g l dg x q m d k0 k1 k2):ShD g l dg x q m d:=⟨h.yr,h.noM,h.mon,h.day⟩
theorem OkD.marks {g l:Bool} {dg:aa} {x q:Nat} {m d:aa} {k0 k1 k2:Nat} (h:OkD g l dg x q m d k0 k1 k2):MkD (plA (cg m d) k0 k1 k2) (plB (cg m d) k0 k1 k2) m d:=by
 obtain ⟨U,K,W,E,X,Q⟩:=SH (k:=cg m d) h.m0 h.m1 h.m2;obtain ⟨G,F⟩:=OA (a:=k0) h.z1 h.z2 (mz m d).1;refine ⟨U,K,W,E,X,Q,λC=>G ?_,λO=>F ?_⟩
 ·have J:d=[]:=h.day.resolve_right (λz=>z.1 C);subst C J;rw [E1];omega
 ·subst O;by_cases C:m=[]
  ·subst C;rw [E1];omega
  ·rw [DO C];omega
theorem EH {A B:Nat×Nat×Nat} {g l:Bool} {dg:aa} {x q:Nat} {m d:aa} (f:ShD g l dg x q m d) (p:MkD A B m d) {S:aa} {a:Nat} {post:aa} (h:S.drop a=rawD A B g l dg (x:Int) (q:Int) m d++post)
  (hp1:cH isYC post) (F:cH isMk post) (hp3:cH (λc=>c==45) post):
  ∃P:Nat×Nat×Nat,P.1=a+(mt A.1).length/\kK S a=.inr (g,l,dg,x,q,m,d,spM A B,P,a+(rawD A B g l dg (x:Int) (q:Int) m d).length):=by
 obtain ⟨l0,l1,l2,Z,l4,l5,hz1,I⟩:=p;obtain ⟨j,t,K⟩:=A;obtain ⟨k,n,v⟩:=B;simp only at l0 l1 l2 Z l4 l5 hz1 I h;unfold rawD at h ⊢;simp only at h ⊢;have E:isMk 45=false:=by decide
 have O:isYC 45=false:=by decide
 have W:∀r:aa,cH (λc=>c==45) r->ec 45 r=0:=λr hr=>by
  cases r with
  | nil=>rfl
  | cons c r=>
   have:=hr c rfl;exact mH (λe=>by rw [e] at this;exact absurd this (by decide)) r
 have hyx:=HB f.yr;have N:=FC f.yr;generalize hY:jH g l dg (x:Int) (q:Int)=Y at *;have H:∀R:aa,S.drop a=fe j k Y++R->cH isYC R->cH isMk R->
   mkE S a=a+(mt j).length/\mkS (S.drop a)=j/\m6 (S.drop (mkE S a))=.inr (g,l,dg,x,q,Y.length)/\mkS (S.drop (mkE S a+Y.length))=k/\S.drop (mkE S (mkE S a+Y.length))=R/\mkE S (mkE S a+Y.length)=a+(fe j k Y).length:=by
  intro R hR h1 V;obtain ⟨C,y,G,s,w⟩:=qX hR l0 Z (N _) V;refine ⟨?_,C,?_,G,s,w⟩
  ·have hR':S.drop a=mt j++(Y++(mt k++R)):=by rw [hR];unfold fe;simp
   unfold mkE;rw [hR',(Jh l0 (N _)).2]
  rw [y];exact hyx _ (Ik k (by decide) (by decide) (by decide) h1)
 unfold kK;by_cases b:m=[]
 ·have i:d=[]:=f.day.resolve_right (λz=>z.1 b);subst b i;simp only [aJ,mj] at h ⊢;obtain ⟨w0,C,y,G,s,w⟩:=H post h hp1 F;rw [y];simp only [];rw [s,ae (.inr (W post hp3)),C,G,w];obtain ⟨rfl,rfl⟩:=hz1 rfl;obtain ⟨rfl,rfl⟩:=I rfl;exact ⟨_,w0,rfl⟩
 ·have U:¬0<q:=λz=>b (f.noM z);obtain ⟨o,D⟩:=f.mon.resolve_left b;rw [ab b] at h ⊢;have p:∀r,cH isMk (m++r):=λr=>tG b D (λc=>FP);by_cases i:d=[]
  ·subst i;rw [ae rfl,mj] at h ⊢;have h':S.drop a=fe j k Y++(45::(fe t n m++post)):=by rw [h];simp
   obtain ⟨w0,C,y,G,s,w⟩:=H _ h' (dt O) (dt E);rw [y];simp only [];rw [s,ls,ab (λz=>z.elim U (by omega)),C,G];unfold rd2;have V:S.drop (mkE S (mkE S a+Y.length)+1)=fe t n m++post:=pC (u:=[45]) s;obtain ⟨v1,v2,T,J,M⟩:=qX V l1 l4 (p _) F;obtain ⟨Q,u2⟩:=ze (r:=mt n++post) o D;rw [<-v2] at Q u2;rw [o] at T J M;rw [Q,ab (by omega),J,W post hp3,ae rfl,u2,v1,T,M,w];obtain ⟨rfl,rfl⟩:=I rfl;have:a+(fe j k Y).length+1+(fe t n m).length=a+(fe j k Y++45::fe t n m).length:=by simp only [bV,bf];omega
   rw [this];exact ⟨_,w0,rfl⟩
  ·obtain ⟨_,X,L⟩:=f.day.resolve_left i;rw [ab i] at h ⊢;have hdk:∀r,cH isMk (d++r):=λr=>tG i L (λc=>FP);have h':S.drop a=fe j k Y++(45::(fe t n m++(45::(fe K v d++post)))):=by rw [h];simp
   obtain ⟨w0,C,y,G,s,w⟩:=H _ h' (dt O) (dt E);rw [y];simp only [];rw [s,ls,ab (λz=>z.elim U (by omega)),C,G];unfold rd2;have V:S.drop (mkE S (mkE S a+Y.length)+1)=fe t n m++(45::(fe K v d++post)):=pC (u:=[45]) s;obtain ⟨v1,v2,T,J,M⟩:=qX V l1 l4 (p _) (dt E);obtain ⟨Q,u2⟩:=ze (r:=mt n++(45::(fe K v d++post))) o D;rw [<-v2] at Q u2;rw [o] at T J M;rw [Q,ab (by omega),J,ls,ab (by omega),u2,v1,T];unfold rd3;have h3:S.drop (mkE S (mkE S (mkE S (mkE S a+Y.length)+1)+2)+1)=fe K v d++post:=pC (u:=[45]) J;obtain ⟨x1,x2,x3,x4,x5⟩:=qX h3 l2 l5 (hdk _) F;obtain ⟨s1,s2⟩:=ze (r:=mt v++post) X L;rw [<-x2] at s1 s2;rw [X] at x3 x4 x5;rw [s1,ab (by omega),s2,x1,x3,x5,M,w];have:a+(fe j k Y).length+1+(fe t n m).length+1+(fe K v d).length=a+(fe j k Y++(45::fe t n m++45::fe K v d)).length:=by simp only [bV,bf];omega
   rw [this];exact ⟨_,w0,rfl⟩
theorem Gm {g l:Bool} {dg:aa} {x q:Nat} {m d:aa} {k0 k1 k2:Nat} (b:OkD g l dg x q m d k0 k1 k2) {S:aa} {a:Nat} {post:aa} (h:S.drop a=wa g l dg (x:Int) (q:Int) m d k0 k1 k2++post)
  (e:cH isYC post) (i:cH isMk post) (f:cH (λc=>c==45) post):
  ∃P,kK S a=.inr (g,l,dg,x,q,m,d,(k0,k1,k2),P,a+(wa g l dg (x:Int) (q:Int) m d k0 k1 k2).length):=by
 obtain ⟨P,_,j⟩:=EH b.sh b.marks (S:=S) (a:=a) (post:=post) h e i f;rw [TM (cg m d) k0 k1 k2 (mz m d) b.m0 b.m1 b.m2 b.z1 b.z2] at j;exact ⟨P,j⟩
theorem Io {g l:Bool} {dg:aa} {x q:Nat} {m d:aa} {k0 k1 k2:Nat} (a:OkD g l dg x q m d k0 k1 k2):(wa g l dg (x:Int) (q:Int) m d k0 k1 k2).length<=37:=by
 have i:=uv a.yr;have e:=xM (plA (cg m d) k0 k1 k2).1 (plB (cg m d) k0 k1 k2).1 (jH g l dg (x:Int) (q:Int));have j:=xM (plA (cg m d) k0 k1 k2).2.1 (plB (cg m d) k0 k1 k2).2.1 m;have f:=xM (plA (cg m d) k0 k1 k2).2.2 (plB (cg m d) k0 k1 k2).2.2 d;have c:m.length<=2:=by
  rcases a.mon with h | h
  ·rw [h];simp
  ·omega
 have b:d.length<=2:=by
  rcases a.day with h | h
  ·rw [h];simp
  ·omega
 unfold wa;simp only [bV];have a1:(if m=[] then [] else 45::fe (plA (cg m d) k0 k1 k2).2.1 (plB (cg m d) k0 k1 k2).2.1 m).length<=5:=by
  split
  ·simp
  ·simp only [bf];omega
 have a2:(if d=[] then [] else 45::fe (plA (cg m d) k0 k1 k2).2.2 (plB (cg m d) k0 k1 k2).2.2 d).length<=5:=by
  split
  ·simp
  ·simp only [bf];omega
 omega
abbrev PD:=Bool×Bool×aa×Int×Int×aa×aa×Int×Int×Int×Int×Int
def pz (a e:Int):PD:=(false,false,[],0,0,[],[],0,0,0,a,e)
def Ah (S:aa):Nat⊕DR->PD
 | .inl k=>pz (k:Int) 5
 | .inr (g,l,dg,x,s,m,d,M,P,e)=>if e<S.length then pz (e:Int) 5 else
   if chkD g l dg (x:Int) (s:Int) m d (M.1:Int) (M.2.1:Int) (M.2.2:Int)=0 then (g,l,dg,(x:Int),(s:Int),m,d,(M.1:Int),(M.2.1:Int),(M.2.2:Int),0,0)
   else pz ((l3 P).getD (chkD g l dg (x:Int) (s:Int) m d (M.1:Int) (M.2.1:Int) (M.2.2:Int) - 6).toNat 0) (chkD g l dg (x:Int) (s:Int) m d (M.1:Int) (M.2.1:Int) (M.2.2:Int))
def wR (S:aa):PD:=Ah S (kK S 0)
theorem Px {A B:Nat×Nat×Nat} (d:A.1<4) (h:A.2.1<4) (e:A.2.2<4) (g0:B.1<4) (c:B.2.1<4) (b:B.2.2<4):(spM A B).1<4/\(spM A B).2.1<4/\(spM A B).2.2<4:=by
 have a:∀x y:Nat,x<4->y<4->x ||| y<4:=λx y g f=>(or4 g f).2;exact ⟨a _ _ (a _ _ (a _ _ d g0) c) b,a _ _ (a _ _ h c) b,a _ _ e b⟩
structure RdOK (S:aa) (a:Nat) (dg m d:aa) (M:Nat×Nat×Nat) (e:Nat):Prop where
 dg17:dg.length<=17
 m2:m.length<=2
 d2:d.length<=2
 all:inM (cg m d) M
 le:a<=e
 end_:e<=S.length
theorem mV {S:aa} {a:Nat} (h:a<=S.length) {g l:Bool} {dg:aa} {x s:Nat} {m d:aa} {M P:Nat×Nat×Nat} {e:Nat} (b:kK S a=.inr (g,l,dg,x,s,m,d,M,P,e)):RdOK S a dg m d M e:=by
 have c:∀p,mkS (S.drop p)<4:=λp=>AY _;have o:0<4:=by omega
 have b0:=jp h;have g0:a<=mkE S a:=yY _ _;have n:∀p,p<=mkE S p:=λp=>yY _ _;unfold kK at b;cases v:m6 (S.drop (mkE S a)) with
 | inl k=>rw [v] at b;cases b
 | inr y=>
  obtain ⟨R,J,D,O,s',k⟩:=y;obtain ⟨_,bk,_,_,f⟩:=oa v;have bk:mkE S a+k<=S.length:=by
   rw [cZ] at bk;omega
  have b1:=jp bk;rw [v] at b;simp only [] at b;by_cases hc:0<s'\/ec 45 (S.drop (mkE S (mkE S a+k)))=0
  ·rw [ae hc] at b;cases b;have:=Px (A:=(mkS (S.drop a),0,0)) (B:=(mkS (S.drop (mkE S a+k)),0,0)) (c _) o o (c _) o o;refine ⟨f,by simp,by simp,⟨this.1,this.2.1,this.2.2,λ_=>by simp [spM],λ_=>by simp [spM]⟩,?_,b1⟩;have:=n (mkE S a+k);omega
  ·rw [ab hc] at b;have w:=pG (λz=>hc (.inr z));have N:=jp w;unfold rd2 at b;by_cases u:twoN (S.drop (mkE S (mkE S (mkE S a+k)+1)))<2
   ·rw [ae u] at b;cases b
   ·rw [ab u] at b;have b2:=sH u;have G:=jp b2;have i:(List.take 2 (S.drop (mkE S (mkE S (mkE S a+k)+1)))).length=2:=by rw [cN,cZ];omega
    have L:=n (mkE S a+k);have Q:=n (mkE S (mkE S a+k)+1);have H:=n (mkE S (mkE S (mkE S a+k)+1)+2);by_cases j:ec 45 (S.drop (mkE S (mkE S (mkE S (mkE S a+k)+1)+2)))=0
    ·rw [ae j] at b;cases b;have:=Px (A:=(mkS (S.drop a),mkS (S.drop (mkE S (mkE S a+k)+1)),0)) (B:=(mkS (S.drop (mkE S a+k)),mkS (S.drop (mkE S (mkE S (mkE S a+k)+1)+2)),0)) (c _) (c _) o (c _) (c _) o;refine ⟨f,by omega,by simp,⟨this.1,this.2.1,this.2.2,λz=>?_,λ_=>by simp [spM]⟩,by omega,G⟩;rw [DO (mq i)] at z;omega
    ·rw [ab j] at b;have r:=pG j;have C:=jp r;unfold rd3 at b;by_cases t:twoN (S.drop (mkE S (mkE S (mkE S (mkE S (mkE S a+k)+1)+2)+1)))<2
     ·rw [ae t] at b;cases b
     ·rw [ab t] at b;have E:=sH t;have F:=jp E;have q:(List.take 2 (S.drop (mkE S (mkE S (mkE S (mkE S (mkE S a+k)+1)+2)+1)))).length=2:=by rw [cN,cZ];omega
      cases b;have I:=n (mkE S (mkE S (mkE S (mkE S a+k)+1)+2)+1);have K:=n (mkE S (mkE S (mkE S (mkE S (mkE S a+k)+1)+2)+1)+2);have:=Px (A:=(mkS (S.drop a),mkS (S.drop (mkE S (mkE S a+k)+1)),mkS (S.drop (mkE S (mkE S (mkE S (mkE S a+k)+1)+2)+1)))) (B:=(mkS (S.drop (mkE S a+k)),mkS (S.drop (mkE S (mkE S (mkE S a+k)+1)+2)),mkS (S.drop (mkE S (mkE S (mkE S (mkE S (mkE S a+k)+1)+2)+1)+2)))) (c _) (c _) (c _) (c _) (c _) (c _);refine ⟨f,by omega,by omega,⟨this.1,this.2.1,this.2.2,λz=>?_,λz=>?_⟩,by omega,F⟩
      ·rw [Fb (mq i) (mq q)] at z;omega
      ·rw [Fb (mq i) (mq q)] at z;omega
theorem oJ {g l:Bool} {dg:aa} {x q:Int} {m d:aa} {k0 k1 k2:Int} (a:allM k0 k1 k2 (cg m d)=0):chkD g l dg x q m d k0 k1 k2=0\/chkD g l dg x q m d k0 k1 k2=6\/chkD g l dg x q m d k0 k1 k2=7\/chkD g l dg x q m d k0 k1 k2=8:=by
 unfold chkD;rw [a];generalize yrD g l dg x q m=b1;generalize (!(m==[])&&(!(decide (0<sea m))&&!(dN m 12)))=b2;generalize (!(d==[])&&((m==[])||(decide (0<sea m)||!(dN d 31))))=b;cases b1<;>cases b2<;>cases b<;>simp
theorem Me (m:Nat) (S:aa) (o:S.length<100000) (p:S.length<m+300):gZ (m+300) S=some (wR S):=by
 have f:=I9 m S 0 (by omega) o p;rw [show ((0:Nat):Int)=0 from rfl] at f;unfold gZ dV jU wR;rw [f];cases j:kK S 0 with
 | inl k=>rfl
 | inr r=>
  obtain ⟨g,l,dg,x,s,h,d,M,P,e⟩:=r;have a:=mV (by omega) j;have n:=a.all;simp only [ob,OL,d4,d8,Ah,eY];by_cases b:e<S.length
  ·rw [am b,ae b];rfl
  ·rw [ar b,ab b];simp only [af,show ((0:Int)==0)=true from rfl,aj];have t:=a.m2;have i:=a.dg17;rw [Fe (m+300) (by omega) g l dg _ _ h d _ _ _ (by omega) (by omega) (by omega) (by omega) (by omega)];simp only [ob];have c:=oJ (g:=g) (l:=l) (dg:=dg) (x:=(x:Int)) (q:=(s:Int)) (m:=h) (d:=d) (k0:=(M.1:Int)) (k1:=(M.2.1:Int)) (k2:=(M.2.2:Int)) (nu n);rcases c with hc | hc | hc | hc<;>rw [hc]<;>rfl
theorem B7 (m:Nat) (S:aa) (p:S.length<100000) (t:S.length<m+300):gB (m+300) S=some (wR S):=by
 obtain ⟨Q,h⟩:=xc m S 0 (by omega) p t;rw [show ((0:Nat):Int)=0 from rfl] at h;unfold gB wR;rw [h];cases n:kK S 0 with
 | inl k=>rfl
 | inr r=>
  obtain ⟨g,l,dg,x,s,i,d,M,P,e⟩:=r;have b:=mV (by omega) n;have o:=b.all;simp only [ob,LO,d4,d8,Ah,eY,show ((0:Int) != 0)=false from rfl,af];show cond (decide (((e:Nat):Int)<((S.length:Nat):Int))) _ _=_;by_cases f:e<S.length
  ·have a:decide (((e:Nat):Int)<((S.length:Nat):Int))=true:=by simp;omega
   rw [a,ae f];rfl
  ·have a:decide (((e:Nat):Int)<((S.length:Nat):Int))=false:=by simp;omega
   rw [a,ab f];simp only [af];have j:=b.dg17;rw [vn (m+300) (by omega) g l dg _ _ i d _ _ _ (by omega) (by omega) (by omega) (by omega)];simp only [ob];have c:=oJ (g:=g) (l:=l) (dg:=dg) (x:=(x:Int)) (q:=(s:Int)) (m:=i) (d:=d) (k0:=(M.1:Int)) (k1:=(M.2.1:Int)) (k2:=(M.2.2:Int)) (nu o);rcases c with hc | hc | hc | hc<;>rw [hc]<;>rfl
theorem rS {p:UInt8->Bool}:cH p []:=λc hc=>by cases hc
def monT (j:Nat):aa:=if j=0 then [] else if j<=12 then two j else if j<=33 then two (j+8) else ([[48,88],[49,88],[88,50],[88,88],[88,48],[88,57]]:List (aa)).getD (j - 34) []
def TL (m:aa):Nat:=if m=[48,50] then 28 else if m=[48,52]\/m=[48,54]\/m=[48,57]\/m=[49,49]\/m=[88,57] then 30 else 31
def dayT (j:Nat) (m:aa):aa:=if j=0 then [] else if j<=31 then two (min j (TL m)) else if m=[48,50]/\j=35 then [50,88] else ([[48,88],[49,88],[50,88],[51,88],[88,48],[88,49],[88,88],[88,56]]:List (aa)).getD (j - 32) []
theorem r40 {p:Nat->Bool} (h:(List.range 40).all p=true) {a:Nat} (b:a<40):p a=true:=(bS.1 h) a (jy.2 b)
noncomputable def Nk (m:Nat) (a0:Int) (a1:Bool) (a2 f b a c e d:Int) (j:Nat):Bool:=fj (m+300) a0 a1 a2 f b (j:Int) a c e d==some (monT j)
theorem Il (m:Nat) (a0:Int) (a1:Bool) (a2 f b a c e d:Int):((List.range 40).all λj=>Nk m a0 a1 a2 f b a c e d j)=true:=by kernel_rfl
theorem PQ (a:Nat) (h:a<256):IntKind.wrap .i64 (Int.tmod (a:Int) 40)=((a%40:Nat):Int):=by
 have:Int.tmod (a:Int) 40=((a%40:Nat):Int):=rfl;rw [this,wrap_i64 _ (by omega) (by omega)]
theorem Nw (j:Nat) (h:j<40):IntKind.wrap .i64 (Int.tmod (j:Int) 40)=((j:Nat):Int):=by
 rw [PQ j (by omega)];have:j%40=j:=by omega
 rw [this]
theorem F9 (m:Nat) (a0:Int) (a1:Bool) (a2 j e:Int) (b:Nat) (d f i g:Int) (h:b<256):fj (m+300) a0 a1 a2 j e (b:Int) d f i g=some (monT (b%40)):=by
 have c:b%40<40:=by omega
 have a:=r40 (Il m a0 a1 a2 j e d f i g) c;unfold Nk at a;have a:=bg.1 a;unfold fj at a ⊢;rw [Nw _ c] at a;rw [PQ _ h];exact a
theorem Pn {j:Nat} (h:j<40):monT j=[]\/0<sea (monT j)\/(sea (monT j)=0/\dN (monT j) 12=true):=by
 have:((List.range 40).all λj=>decide (monT j=[])||(decide (0<sea (monT j))||(decide (sea (monT j)=0)&&dN (monT j) 12)))=true:=by decide +kernel
 have:=r40 this h;simpa using this
theorem HD {j:Nat} (h:j<40) (b:sea (monT j)=0) (a:monT j≠[]):monT j∈((List.range 12).map λi=>two (i+1))++[[48,88],[49,88],[88,50],[88,88],[88,48],[88,57]]:=by
 have:((List.range 40).all λj=>!decide (sea (monT j)=0)||(decide (monT j=[])||decide (monT j∈((List.range 12).map λi=>two (i+1))++[[48,88],[49,88],[88,50],[88,88],[88,48],[88,57]])))=true:=by decide +kernel
 have:=r40 this h;rw [am b,ar a] at this;simpa using this
noncomputable def Ny (m:Nat) (a0:Int) (a1:Bool) (a2 f b g c e d:Int) (a:aa) (j:Nat):Bool:=gA (m+300) a0 a1 a2 f b g (j:Int) c e d a==some (dayT j a)
theorem Iu (m:Nat) (a0:Int) (a1:Bool) (a2 f b g c e d:Int):((((List.range 12).map λi=>two (i+1))++[[48,88],[49,88],[88,50],[88,88],[88,48],[88,57]]).all λa=>(List.range 40).all λj=>Ny m a0 a1 a2 f b g c e d a j)=true:=by kernel_rfl
theorem MV (m:Nat) (a0:Int) (a1:Bool) (a2 k e l:Int) (c:Nat) (f j g:Int) (b:aa) (n:b∈((List.range 12).map λi=>two (i+1))++[[48,88],[49,88],[88,50],[88,88],[88,48],[88,57]]) (h:c<256):gA (m+300) a0 a1 a2 k e l (c:Int) f j g b=some (dayT (c%40) b):=by
 have d:c%40<40:=by omega
 have a:=r40 ((bS.1 (Iu m a0 a1 a2 k e l f j g)) b n) d;unfold Ny at a;have a:=bg.1 a;unfold gA at a ⊢;rw [Nw _ d] at a;rw [PQ _ h];exact a
theorem N7 {j:Nat} (h:j<40) {a:aa} (b:a∈((List.range 12).map λi=>two (i+1))++[[48,88],[49,88],[88,50],[88,88],[88,48],[88,57]]):dayT j a=[]\/dN (dayT j a) 31=true:=by
 have:((((List.range 12).map λi=>two (i+1))++[[48,88],[49,88],[88,50],[88,88],[88,48],[88,57]]).all λa=>(List.range 40).all λj=>decide (dayT j a=[])||dN (dayT j a) 31)=true:=by decide +kernel
 have:=r40 ((bS.1 this) a b) h;simpa using this
def mksT (k a b c:Nat):Nat×Nat×Nat:=(a%4,if 1<k then b%4 else 0,if 2<k then c%4 else 0)
theorem xN (k a b c:Nat):allM ((mksT k a b c).1:Int) ((mksT k a b c).2.1:Int) ((mksT k a b c).2.2:Int) k=0:=by
 apply nu;refine ⟨by simp only [mksT];omega,?_,?_,?_,?_⟩
 ·simp only [mksT];split<;>omega
 ·simp only [mksT];split<;>omega
 ·intro h;simp only [mksT];rw [ab (by omega)]
 ·intro h;simp only [mksT];rw [ab (by omega)]
theorem KI {g l:Bool} {d:aa} {x s:Int} (h:okY g l d x s) (i:d.length<=5) (c:x<=11):pM g d x=false:=by
 unfold pM;cases f:hasX d with
 | true=>rfl
 | false=>
  obtain ⟨k,q,rfl,rfl,j⟩:=ru h f;have a:=o8 d 0 0 j.dig (by decide);rw [cf] at a;have m:dval 0 d<10 ^ 5:=l9 a (jG (by omega) i);have e:10 ^ k<=10 ^ 11:=jG (by omega) (by omega);have b:val d k≠E16:=by
   unfold val E16;have:dval 0 d*10 ^ k<=99999*10 ^ 11:=ue (by omega) e;omega
  rw [bI,ar b];simp
theorem EJ {g l:Bool} {dg:aa} {x q:Int} {m d:aa} {k0 k1 k2:Int} (h:okY g l dg x q) (r:pM g dg x=false) (j:0<q->m=[]) (n:m=[]\/0<sea m\/(sea m=0/\dN m 12=true)) (b:d=[]\/(m≠[]/\sea m=0/\dN d 31=true)) (o:allM k0 k1 k2 (cg m d)=0):chkD g l dg x q m d k0 k1 k2=0:=by
 have i:yrD g l dg x q m=true:=by
  unfold yrD yrB;rw [ae h,r];by_cases a:0<q
  ·rw [j a];simp
  ·simp [a]
 unfold chkD;rw [i,o];have c:(!(m==[])&&(!(decide (0<sea m))&&!(dN m 12)))=false:=by
  rcases n with h | h | ⟨_,h⟩
  ·rw [h];rfl
  ·rw [am h];simp
  ·rw [h];simp
 have e:(!(d==[])&&((m==[])||(decide (0<sea m)||!(dN d 31))))=false:=by
  rcases b with h | ⟨p,f,k⟩
  ·rw [h];rfl
  ·rw [aM.2 p,f,k];simp
 rw [c,e];rfl
def minL (a:Nat):Nat:=if a=2 then 28 else if a=4\/a=6\/a=9\/a=11 then 30 else 31
def fitD (a d:aa):Bool:=(List.range' 1 12).any λi=>agr a i&&(List.range' 1 (minL i)).any (agr d)
theorem Po:((((List.range 12).map λi=>two (i+1))++[[48,88],[49,88],[88,50],[88,88],[88,48],[88,57]]).all λa=>(List.range 40).all λj=>(dayT j a==[])||fitD a (dayT j a))=true:=by decide +kernel
theorem Mc {j:Nat} (h:j<40) {a:aa} (b:a∈((List.range 12).map λi=>two (i+1))++[[48,88],[49,88],[88,50],[88,88],[88,48],[88,57]]):dayT j a=[]\/fitD a (dayT j a)=true:=by
 have:=r40 ((bS.1 Po) a b) h;simp only [gv,bg] at this;exact this
theorem Qh (m a0 a2 G I C y i j n:Nat) (g:Bool) (K:a2<65536) (Y:G<256) (U:I<256) (S:C<256) (W:y<256) (h7:i<256) (h8:j<256) (h9:n<256):
  ∃k l dg x q f d k0 k1 k2,fP (m+300) (a0:Int) g (a2:Int) (G:Int) (I:Int) (C:Int) (y:Int) (i:Int) (j:Int) (n:Int)=some (k,l,dg,((x:Nat):Int),((q:Nat):Int),f,d,((k0:Nat):Int),((k1:Nat):Int),((k2:Nat):Int))/\chkD k l dg (x:Int) (q:Int) f d (k0:Int) (k1:Int) (k2:Int)=0/\OkD k l dg x q f d k0 k1 k2/\(d=[]\/fitD f d=true):=by
 obtain ⟨k,l,dg,x,q,e,B,M,F⟩:=Qs m a0 a2 G I g K Y U;have J:=KI B M F;obtain ⟨s1,s2,s3,s4,s5,s6⟩:=ir B
 suffices H:∃f d,fP (m+300) (a0:Int) g (a2:Int) (G:Int) (I:Int) (C:Int) (y:Int) (i:Int) (j:Int) (n:Int)=some (k,l,dg,x,q,f,d,((mksT (cg f d) i j n).1:Int),((mksT (cg f d) i j n).2.1:Int),((mksT (cg f d) i j n).2.2:Int))/\chkD k l dg x q f d ((mksT (cg f d) i j n).1:Int) ((mksT (cg f d) i j n).2.1:Int) ((mksT (cg f d) i j n).2.2:Int)=0/\(d=[]\/fitD f d=true) by
  obtain ⟨f,d,T,K,V⟩:=H;obtain ⟨x',Z,a,b,c,e1,X,R,P,O,N⟩:=JC (by omega) (by omega) (by omega) K;subst e1 X;refine ⟨k,l,dg,x',Z,f,d,a,b,c,?_,?_,N,V⟩
  ·rw [T,R,P,O]
  ·rw [<-R,<-P,<-O];exact K
 have t7:Int.tmod (i:Int) 4=((i%4:Nat):Int):=rfl;have t8:Int.tmod (j:Int) 4=((j%4:Nat):Int):=rfl;have t9:Int.tmod (n:Int) 4=((n%4:Nat):Int):=rfl;have p:∀(f d:aa) (o:Option (Bool×Bool×aa×Int×Int×aa×aa×Int×Int×Int)),
   (ob (au (m+300) k l dg x q f d 0 0 0) λr=>(cond (decide ((0:Int)<r)) (ob (au (m+300) k l dg x q f d (Int.tmod (i:Int) 4) 0 0) λr=>(cond (decide ((1:Int)<r)) (ob (au (m+300) k l dg x q f d (Int.tmod (i:Int) 4) (Int.tmod (j:Int) 4) 0) λr=>(cond (decide ((2:Int)<r)) (ob (au (m+300) k l dg x q f d (Int.tmod (i:Int) 4) (Int.tmod (j:Int) 4) (Int.tmod (n:Int) 4)) λr=>(cond (decide ((3:Int)<r)) none (some (k,l,dg,x,q,f,d,(Int.tmod (i:Int) 4),(Int.tmod (j:Int) 4),(Int.tmod (n:Int) 4))))) (some (k,l,dg,x,q,f,d,(Int.tmod (i:Int) 4),(Int.tmod (j:Int) 4),0)))) (some (k,l,dg,x,q,f,d,(Int.tmod (i:Int) 4),0,0)))) (some (k,l,dg,x,q,f,d,0,0,0))))=some (k,l,dg,x,q,f,d,((mksT (cg f d) i j n).1:Int),((mksT (cg f d) i j n).2.1:Int),((mksT (cg f d) i j n).2.2:Int)):=by
  intro f d _;have hc:=mz f d;have:cg f d=1\/cg f d=2\/cg f d=3:=by omega
  rw [gH,gH,gH,gH];rcases this with h | h | h<;>rw [h]<;>rfl
 unfold fP;rw [e];simp only [ob,d4];rw [gP];by_cases Q:q=0
 ·rw [ae Q];rw [F9 m _ _ _ _ _ C _ _ _ _ S];have E:C%40<40:=by omega
  have w:=Pn E;have D:=HD E;generalize monT (C%40)=f at w D ⊢;show ∃u d,cond (!(f==[])) _ _=_/\_;by_cases s:f=[]
  ·subst s;refine ⟨[],[],p [] [] none,?_,.inl rfl⟩;exact EJ B J (λ_=>rfl) (.inl rfl) (.inl rfl) (xN _ _ _ _)
  ·rw [aM.2 s];show ∃u d,ob (aN (m+300) k l dg x q f [] 0 0 0) _=_/\_;rw [mU (m+300) (by omega)];show ∃u d,cond (sea f==0) _ _=_/\_;rw [gP];by_cases L:sea f=0
   ·rw [ae L];have v:=D L s;rw [MV m _ _ _ _ _ _ y _ _ _ f v W];have A:=N7 (show y%40<40 by omega) v;have t:=Mc (show y%40<40 by omega) v;generalize dayT (y%40) f=d at A t ⊢;refine ⟨f,d,p f d none,?_,t⟩;refine EJ B J (λz=>by omega) w ?_ (xN _ _ _ _);rcases A with A | A
    ·exact .inl A
    ·exact .inr ⟨s,L,A⟩
   ·rw [ab L];refine ⟨f,[],p f [] none,?_,.inl rfl⟩;exact EJ B J (λz=>by omega) w (.inl rfl) (xN _ _ _ _)
 ·rw [ab Q];refine ⟨[],[],p [] [] none,?_,.inl rfl⟩;exact EJ B J (λ_=>rfl) (.inl rfl) (.inl rfl) (xN _ _ _ _)
theorem H9 (n:Nat) (g l:Bool) (dg:aa) (x q:Int) (m d:aa) (k0 k1 k2:Int) (a:m.length<=18):aW n g l dg x q m d k0 k1 k2=some (if d=[] then (if 0<sea m then 0 else if m=[] then 1 else 2) else 3):=by
 unfold aW;rw [oK n g l dg x q m d k0 k1 k2 a];by_cases b:d=[]
 ·rw [ae b,b];show cond (decide (0<sea m)) _ _=_;rw [bG];by_cases c:0<sea m
  ·rw [ae c,ae c]
  ·rw [ab c,ab c];by_cases a:m=[]
   ·rw [ae a,a];rfl
   ·rw [ab a,aM.2 a];rfl
 ·rw [ab b,aM.2 b];rfl
theorem G5 (n:Nat) {g l:Bool} {dg:aa} {x q:Int} {m d:aa} {k0 k1 k2:Int} (f:0<=k0) (p:0<=k1) (i:0<=k2) (hc:chkD g l dg x q m d k0 k1 k2=0):
  aZ (n+300) g l dg x q m d k0 k1 k2=some (wa g l dg x q m d k0.toNat k1.toNat k2.toNat):=by
 obtain ⟨s,t,a,b,c,r,h,o,j,k,e⟩:=JC f p i hc;subst r h o j k;exact Gi n e
theorem th (a b:aa):hasX (a++b)=(hasX a||hasX b):=by unfold hasX;rw [pP]
theorem zx (n:Nat) (g l:Bool) (dg:aa) (x q:Int) (m d:aa) (k0 k1 k2:Int) (b:m.length<=1000) (a:dg.length<=1000) (h:d.length<=1000):
  dT n g l dg x q m d k0 k1 k2=some (hasX dg||(hasX m||hasX d)):=by
 unfold dT;rw [eZ (by omega)];simp only [ob];rw [eZ (by simp only [bV];omega)];simp only [ob];rw [AN,th,th,Bool.or_assoc]
def ye (d:aa) (k q:Nat):Nat×Nat:=if 0<q then (val d k / 10 ^ (d.length+k - q)*10 ^ (d.length+k - q),min (val d k / 10 ^ (d.length+k - q)*10 ^ (d.length+k - q)+10 ^ (d.length+k - q) - 1) E16) else (val d k,val d k)
def sgn (g:Bool) (p:Nat×Nat):Int×Int:=if g then (-(p.2:Int),-(p.1:Int)) else ((p.1:Int),(p.2:Int))
theorem zJ (n:Nat) (g l:Bool) (d:aa) (k q:Nat) (F:200<n) (x:d.length<=100) (c:Num d k q):
  aI n g l d (k:Int) (q:Int)=some (sgn g (ye d k q)):=by
 have D:=c.wide;have h:=c.small;have E:=c.sig;unfold aI;rw [mn n g l d k q (by omega) (by omega),qZ c.dig,jh n d k c.dig x (by omega) (by omega),ae h];have s:dval 0 d*10 ^ k=val d k:=rfl;rw [s] at h ⊢;unfold E16 at h;have f:((if false=true then (1:Int) else 0)==1)=false:=rfl;simp only [ob,f,af];by_cases m:0<q
 ·have i:decide ((q:Int)>0)=true:=am (by omega);have w0:IntKind.wrap .i64 (IntKind.wrap .i64 (((d.length:Nat):Int)+(k:Int)) - (q:Int))=((d.length+k - q:Nat):Int):=by
   rw [wrap_i64 (((d.length:Nat):Int)+(k:Int)) (by omega) (by omega),wrap_i64 _ (by omega) (by omega)];omega
  have z:10 ^ (d.length+k - q)<=10 ^ 16:=jG (by decide) (by omega);have p:(10:Nat) ^ 16=10000000000000000:=by decide
  have one:dval 0 [49]=1:=by decide
  have a:dval 0 [49]*10 ^ (d.length+k - q)<=E16:=by rw [one];unfold E16;omega
  rw [i,w0,jh n [49] (d.length+k - q) (by decide) (by decide) (by omega) (by simp;omega),ae a,one,uT];simp only [aj];have C:1<=10 ^ (d.length+k - q):=zb _ _ (by decide);unfold sgn ye;rw [ae m];clear a;generalize 10 ^ (d.length+k - q)=u at *;generalize val d k=v at *;have d2:(((u:Nat):Int)==0)=false:=aM.2 (by omega);have e:Int.tdiv ((v:Nat):Int) ((u:Nat):Int)=((v / u:Nat):Int):=rfl;have B:v / u*u<=v:=Cj v u;have o:v / u<=v:=By v u;have w:IntKind.wrap .i64 ((v / u:Nat):Int)=((v / u:Nat):Int):=by
   generalize v / u=t at *;exact wrap_i64 _ (by omega) (by omega)
  have r:IntKind.wrap .i64 (((v / u:Nat):Int)*((u:Nat):Int))=((v / u*u:Nat):Int):=by
   rw [<-DD];exact wrap_i64 _ (by omega) (by omega)
  rw [d2,af,e,w,r];generalize v / u*u=lo at *;have A:IntKind.wrap .i64 (IntKind.wrap .i64 (((lo:Nat):Int)+((u:Nat):Int)) - 1)=((lo+u - 1:Nat):Int):=by
   rw [wrap_i64 (((lo:Nat):Int)+((u:Nat):Int)) (by omega) (by omega),wrap_i64 _ (by omega) (by omega)];omega
  rw [A];have b:(cond (decide ((10000000000000000:Int)<((lo+u - 1:Nat):Int))) (10000000000000000:Int) ((lo+u - 1:Nat):Int))=((min (lo+u - 1) E16:Nat):Int):=by
   unfold E16;by_cases j:(10000000000000000:Int)<((lo+u - 1:Nat):Int)
   ·rw [am j,aj];omega
   ·rw [ar j,af];omega
  rw [b];have y:min (lo+u - 1) E16<=10000000000000000:=Nat.min_le_right _ _;generalize min (lo+u - 1) E16=hi at *;cases g with
  | true=>
   simp only [aj,aJ];rw [wrap_i64 _ (by omega) (by omega),wrap_i64 _ (by omega) (by omega),wK,wK]
  | false=>simp
 ·have i:decide ((q:Int)>0)=false:=ar (by omega);rw [i,af];unfold sgn ye;rw [ab m];cases g with
  | true=>
   simp only [aj,aJ];rw [wrap_i64 _ (by omega) (by omega),wK]
  | false=>simp
def dJ (z:UInt8) (d:aa):aa:=d.map λc=>if c=88 then z else c
theorem ii (z:UInt8) (d:aa):(dJ z d).length=d.length:=by simp [dJ]
theorem ot {z:UInt8} (f:aT z=true) {d:aa} (h:∀c∈d,aT c=true\/c=88):∀c∈dJ z d,aT c=true:=by
 intro c hc;obtain ⟨b,e,rfl⟩:=du.1 hc;by_cases a:b=88
 ·rw [ae a];exact f
 ·rw [ab a];exact (h b e).resolve_right a
theorem vE {z:UInt8} {d:aa} {i:Nat} {c:UInt8} (h:d[i]?=some c):(dJ z d)[i]?=some (if c=88 then z else c):=by
 simp [dJ,h]
def qJ (d:aa):Nat:=10 ^ (d.reverse.takeWhile (λc=>c != 88)).length
def jB (g:Bool) (d:aa):Nat×Nat:=(if g=true/\dval 0 (dJ 48 d)=0 then qJ d else dval 0 (dJ 48 d),dval 0 (dJ 57 d))
theorem O6 (m:Nat):aI (m+300) true false [48,48,48,88] 0 0=some (sgn true (jB true [48,48,48,88])):=by kernel_rfl
theorem Oq (m:Nat):aI (m+300) true false [48,48,88,48] 0 0=some (sgn true (jB true [48,48,88,48])):=by kernel_rfl
theorem OE (m:Nat):aI (m+300) true false [48,48,88,88] 0 0=some (sgn true (jB true [48,48,88,88])):=by kernel_rfl
theorem NR (m:Nat):aI (m+300) true false [48,88,48,48] 0 0=some (sgn true (jB true [48,88,48,48])):=by kernel_rfl
theorem Ph (m:Nat):aI (m+300) true false [48,88,48,88] 0 0=some (sgn true (jB true [48,88,48,88])):=by kernel_rfl
theorem Pv (m:Nat):aI (m+300) true false [48,88,88,48] 0 0=some (sgn true (jB true [48,88,88,48])):=by kernel_rfl
theorem OQ (m:Nat):aI (m+300) true false [48,88,88,88] 0 0=some (sgn true (jB true [48,88,88,88])):=by kernel_rfl
theorem N8 (m:Nat):aI (m+300) true false [88,48,48,48] 0 0=some (sgn true (jB true [88,48,48,48])):=by kernel_rfl
theorem ON (m:Nat):aI (m+300) true false [88,48,48,88] 0 0=some (sgn true (jB true [88,48,48,88])):=by kernel_rfl
theorem Oc (m:Nat):aI (m+300) true false [88,48,88,48] 0 0=some (sgn true (jB true [88,48,88,48])):=by kernel_rfl
theorem J6 (m:Nat):aI (m+300) true false [88,48,88,88] 0 0=some (sgn true (jB true [88,48,88,88])):=by kernel_rfl
theorem Kp (m:Nat):aI (m+300) true false [88,88,48,48] 0 0=some (sgn true (jB true [88,88,48,48])):=by kernel_rfl
theorem Kz (m:Nat):aI (m+300) true false [88,88,48,88] 0 0=some (sgn true (jB true [88,88,48,88])):=by kernel_rfl
theorem MI (m:Nat):aI (m+300) true false [88,88,88,48] 0 0=some (sgn true (jB true [88,88,88,48])):=by kernel_rfl
theorem KR (m:Nat):aI (m+300) true false [88,88,88,88] 0 0=some (sgn true (jB true [88,88,88,88])):=by kernel_rfl
theorem AL {d:aa} (m:d.length=4) (h:∀c∈d,aT c=true\/c=88) (l:dval 0 (dJ 48 d)=0):∀c∈d,c=48\/c=88:=by
 match d,m with
 | [a,b,c,e],_=>
  have f:=ot (z:=48) (by decide) h;have k:dval 0 (dJ 48 [a,b,c,e])=((((0*10+((if a=88 then (48:UInt8) else a).toNat - 48))*10+((if b=88 then (48:UInt8) else b).toNat - 48))*10+((if c=88 then (48:UInt8) else c).toNat - 48))*10+((if e=88 then (48:UInt8) else e).toNat - 48)):=by
   simp only [dJ,fC,List.map_nil,mM,nh,sX]
  rw [k] at l;have key:∀x:UInt8,aT (if x=88 then (48:UInt8) else x)=true->(if x=88 then (48:UInt8) else x).toNat - 48=0->x=48\/x=88:=by
   intro x i j;by_cases g:x=88
   ·exact .inr g
   ·rw [ab g] at i j;have:=(bH x).1 i;exact .inl (fF.1 (by show x.toNat=48;omega))
  simp only [dJ,fC,List.map_nil,cq,nL,n8,yF,forall_eq] at f ⊢;exact ⟨key a f.1 (by omega),key b f.2.1 (by omega),key c f.2.2.1 (by omega),key e f.2.2.2 (by omega)⟩
theorem wM {d:aa} (t:d.length=4) (h:∀c∈d,c=48\/c=88) (y:hasX d=true) (P:aa->Prop) (x:P [48,48,48,88]) (p:P [48,48,88,48]) (u:P [48,48,88,88]) (s:P [48,88,48,48]) (q:P [48,88,48,88]) (o:P [48,88,88,48]) (r:P [48,88,88,88]) (w:P [88,48,48,48]) (m:P [88,48,48,88]) (v:P [88,48,88,48]) (f:P [88,48,88,88]) (i:P [88,88,48,48]) (g:P [88,88,48,88]) (k:P [88,88,88,48]) (j:P [88,88,88,88]):P d:=by
 match d,t with
 | [a,b,c,e],_=>
  simp only [cq,nL,n8,yF,forall_eq] at h;obtain ⟨z,n,hc,l⟩:=h;rcases z with rfl | rfl<;>rcases n with rfl | rfl<;>rcases hc with rfl | rfl<;>rcases l with rfl | rfl
  ·exact absurd y (by decide)
  ·exact x
  ·exact p
  ·exact u
  ·exact s
  ·exact q
  ·exact o
  ·exact r
  ·exact w
  ·exact m
  ·exact v
  ·exact f
  ·exact i
  ·exact g
  ·exact k
  ·exact j
theorem BF (n:Nat) (g l:Bool) (d:aa) (x s:Int) (r:d.length=4) (p:4<n):aw (fc n) n ([],[],0,g,l,d,x,s)=some (dJ 48 d,dJ 57 d,g,l,d,x,s):=by
 refine eO (step:=fc n) (λq=>∃i:Nat,i<=4/\q=((dJ 48 d).take i,(dJ 57 d).take i,(i:Int),g,l,d,x,s)) (λq=>4 - q.2.2.1.toNat) (λ_=>(dJ 48 d,dJ 57 d,g,l,d,x,s)) ?_ n _ ⟨0,by omega,by simp⟩ (by simp;omega);rintro q ⟨i,hi,rfl⟩;rcases aF i 4 with m | o
 ·obtain ⟨c,hc⟩:∃c,d[i]?=some c:=⟨d[i],bj (by omega)⟩;have f:=O1 (vE (z:=48) hc);have h:=O1 (vE (z:=57) hc);have k:decide ((i:Int)<4)=true:=am (by omega);have j:IntKind.wrap .i64 ((i:Int)+1)=((i+1:Nat):Int):=by rw [wrap_i64 _ (by omega) (by omega)];omega
  refine .inl ⟨((dJ 48 d).take (i+1),(dJ 57 d).take (i+1),((i+1:Nat):Int),g,l,d,x,s),?_,⟨i+1,by omega,rfl⟩,by simp only [bI];omega,rfl⟩;simp only [fc,k,aj,j,ct (show i+1<=d.length by omega),ct (show i<=i+1 by omega),ob,cut1 hc];have b:∀z:UInt8,((dJ z d).take i).length<=4:=λz=>by rw [cN];omega
  rw [f,h];by_cases a:c=88
  ·have e:(([c]:aa)==[88])=true:=by rw [a];rfl
   rw [e,aj,ae a,ae a,eZ (by have:=b 48;simp;omega),eZ (by have:=b 57;simp;omega)]
  ·have e:(([c]:aa)==[88])=false:=by
    rw [aM];intro e;exact a (by simpa using e)
   rw [e,af,ab a,ab a,eZ (by have:=b 48;simp;omega),eZ (by have:=b 57;simp;omega)]
 ·have:i=4:=by omega
  subst this;refine .inr ?_;rw [hZ (by rw [ii];omega),hZ (by rw [ii];omega)];rfl
theorem Ft {d:aa} (h:d=[48,48,48,48]):dval 0 d=0:=by rw [h];decide
theorem yh (m:Nat) (g:Bool) (d:aa) (h:okY g false d 0 0) (l:hasX d=true):aI (m+300) g false d 0 0=some (sgn g (jB g d)):=by
 obtain ⟨_,_,_,j,k⟩:=ou h l;by_cases f:g=true/\dval 0 (dJ 48 d)=0
 ·obtain ⟨rfl,f⟩:=f;exact wM j (AL j k f) l (λd=>aI (m+300) true false d 0 0=some (sgn true (jB true d))) (O6 m) (Oq m) (OE m) (NR m) (Ph m) (Pv m) (OQ m) (N8 m) (ON m) (Oc m) (J6 m) (Kp m) (Kz m) (MI m) (KR m)
 ·have r:jB g d=(dval 0 (dJ 48 d),dval 0 (dJ 57 d)):=by unfold jB;rw [ab f]
  have i:=ot (z:=48) (by decide) k;have c:=ot (z:=57) (by decide) k;have q:=o8 (dJ 48 d) 0 0 i (by simp);have o:=o8 (dJ 57 d) 0 0 c (by simp);rw [ii,j] at q o;have s:(10:Nat) ^ (4+0)=10000:=by decide
  have m1:ak (m+300) (dJ 48 d) 0=some (((dval 0 (dJ 48 d):Nat):Int),1):=by
   have:=jh (m+300) (dJ 48 d) 0 i (by rw [ii];omega) (by omega) (by rw [ii];omega);rw [ae (by unfold E16;simp only [yO,oU];omega)] at this;simpa using this
  have m2:ak (m+300) (dJ 57 d) 0=some (((dval 0 (dJ 57 d):Nat):Int),1):=by
   have:=jh (m+300) (dJ 57 d) 0 c (by rw [ii];omega) (by omega) (by rw [ii];omega);rw [ae (by unfold E16;simp only [yO,oU];omega)] at this;simpa using this
  have p:((if true=true then (1:Int) else 0)==1)=true:=rfl;have n:decide ((0:Int)>0)=false:=rfl;unfold aI;rw [mn _ g false d 0 0 (by omega) (by omega),l,BF _ g false d 0 0 j (by omega),r];simp only [ob,aJ,uw,aj];cases g with
  | true=>
   have e:(dJ 48 d==([48,48,48,48]:aa))=false:=by
    rw [aM];intro e;exact f ⟨rfl,Ft e⟩
   simp only [aj,e,af,m1,m2,n,sgn,aJ];generalize dval 0 (dJ 48 d)=a at *;generalize dval 0 (dJ 57 d)=b at *;rw [wrap_i64 _ (by omega) (by omega),wrap_i64 _ (by omega) (by omega),wK,wK]
  | false=>simp only [af,m1,m2,n,sgn,bq,aE]
def lC (g:Bool) (d:aa) (x s:Int):Nat×Nat:=if hasX d then jB g d else ye d x.toNat s.toNat
theorem MS (m:Nat) (g l:Bool) (d:aa) (x s:Int) (b:d.length<=100) (h:okY g l d x s):aI (m+300) g l d x s=some (sgn g (lC g d x s)):=by
 unfold lC;cases a:hasX d with
 | true=>
  obtain ⟨rfl,rfl,rfl,f,c⟩:=ou h a;exact yh m g d h a
 | false=>
  obtain ⟨k,q,rfl,rfl,e⟩:=ru h a;exact zJ _ g l d k q (by omega) b e
theorem O2 {d:aa} {k q:Nat} (h:Num d k q):(ye d k q).1<=val d k/\val d k<=(ye d k q).2/\(ye d k q).2<=E16:=by
 have a:=h.small;have e:dval 0 d*10 ^ k=val d k:=rfl;rw [e] at a;unfold ye;split
 ·have b:1<=10 ^ (d.length+k - q):=zb _ _ (by decide);generalize 10 ^ (d.length+k - q)=u at b ⊢;generalize val d k=v at a ⊢;have c:=Cj v u;have f:v<v / u*u+u:=by
   have h:=Nat.div_add_mod v u;have:=qz v b;rw [sa] at h;omega
  refine ⟨c,?_,Nat.min_le_right _ _⟩;rw [Nat.le_min];omega
 ·exact ⟨aU _,aU _,a⟩
def mtk (d:aa):Nat->Nat->Bool
 | 0,_=>true
 | k+1,w=>(decide (d.getD k 0=88)||decide ((d.getD k 0).toNat=48+w%10))&&mtk d k (w / 10)
theorem yx (d:aa) (k w:Nat):mtk d (k+1) w=((decide (d.getD k 0=88)||decide ((d.getD k 0).toNat=48+w%10))&&mtk d k (w / 10)):=rfl
theorem xo {d:aa} {k:Nat} {c:UInt8} (h:d[k]?=some c):d.getD k 0=c:=by
 rw [A7,h];rfl
theorem Jd (n:Nat) (g l:Bool) (d:aa) (x s:Int) (z:d.length=4):∀(k w:Nat),k<=4->w<100000000000000000->∀q,k<q->
  aw (bE n) q ((w:Int),(k:Int) - 1,g,l,d,x,s)=some (if mtk d k w=true then .inr ((w / 10 ^ k:Nat):Int) else .inl 0)
 | 0,w,y,C,q,t=>by
  obtain ⟨q,rfl⟩:∃p,q=p+1:=⟨q - 1,by omega⟩;have f:decide (((0:Nat):Int) - 1>=0)=false:=rfl;have i:mtk d 0 w=true:=rfl;simp only [aw,bE,f,af];rw [ae i];simp
 | k+1,w,y,C,q,t=>by
  obtain ⟨q,rfl⟩:∃p,q=p+1:=⟨q - 1,by omega⟩;have ih:=Jd n g l d x s z k (w / 10) (by omega) (by omega) q (by omega);obtain ⟨c,hc⟩:∃c,d[k]?=some c:=⟨d[k],bj (by omega)⟩;have A:((k+1:Nat):Int) - 1=(k:Int):=by omega
  have f:decide ((k:Int)>=0)=true:=am (by omega);have v:Int.tmod (w:Int) 10=((w%10:Nat):Int):=rfl;have eq':Int.tdiv (w:Int) 10=((w / 10:Nat):Int):=rfl;have o:IntKind.wrap .i64 (48+((w%10:Nat):Int))=((48+w%10:Nat):Int):=by rw [wrap_i64 _ (by omega) (by omega)];omega
  have u:IntKind.wrap .u8 ((48+w%10:Nat):Int)=((48+w%10:Nat):Int):=ig _ (by omega) (by omega);have r:IntKind.wrap .i64 ((w / 10:Nat):Int)=((w / 10:Nat):Int):=wrap_i64 _ (by omega) (by omega);have B:IntKind.wrap .i64 ((k:Int) - 1)=(k:Int) - 1:=wrap_i64 _ (by omega) (by omega);have a:w / 10 ^ (k+1)=w / 10 / 10 ^ k:=by rw [qs,sa,Nat.div_div_eq_div_mul]
  rw [yx,xo hc,a,A];simp only [aw,bE,f,aj,dF hc,ob,v,eq',o,u,r,B];by_cases b:c=88
  ·have m:(((c.toNat:Nat):Int) != 88)=false:=by rw [b];rfl
   rw [m,am b];simp only [af,ED,nS];exact ih
  ·have m:(((c.toNat:Nat):Int) != 88)=true:=by
    simp only [bne,jL,aM];intro e;exact b (fF.1 (by show c.toNat=88;omega))
   rw [m,ar b];simp only [aj,nP];by_cases j:c.toNat=48+w%10
   ·have h:(((c.toNat:Nat):Int) != ((48+w%10:Nat):Int))=false:=by rw [j];simp
    rw [h,am j];simp only [af,nS];exact ih
   ·have h:(((c.toNat:Nat):Int) != ((48+w%10:Nat):Int))=true:=by
     simp only [bne,jL,aM];omega
    rw [h,ar j];simp only [aj,vR];rfl
def Ce (d:aa) (k q:Nat):Nat:=if 0<q then 10 ^ (d.length+k - q) else 1
def memP (d:aa) (x s:Int) (w:Nat):Prop:=if hasX d=true then mtk d 4 w=true/\w / 10 ^ 4=0 else val d x.toNat / Ce d x.toNat s.toNat=w / Ce d x.toNat s.toNat
instance (d:aa) (x s:Int) (w:Nat):Decidable (memP d x s w):=by unfold memP;infer_instance
def wOf (g:Bool) (v:Int):Int:=if g then -v else v
def inP (g:Bool) (d:aa) (x s v:Int):Prop:=-10000000000000000<=v/\v<=10000000000000000/\0<=wOf g v/\¬(hasX d=true/\g=true/\wOf g v=0)/\memP d x s (wOf g v).toNat
instance (g:Bool) (d:aa) (x s v:Int):Decidable (inP g d x s v):=by unfold inP;infer_instance
noncomputable def inT (n:Nat) (a0 a1:Bool) (a2:aa) (h g W:Int):Option Int:=
 (ob (aD n a0 a1 a2 h g) λf=>(cond (f==1) (ob (aw (bE n) n (W,3,a0,a1,a2,h,g)) λe=>(Sum.casesOn (motive:=λ_=>Option _) e (λd=>(some d)) (λc=>(cond (decide (c>0)) (some 0) (some 1))))) (ob (ak n a2 h) λb=>(cond (decide (g>0)) (ob (ak n [49] (IntKind.wrap .i64 ((IntKind.wrap .i64 (((List.length a2:Nat):Int)+h)) - g))) λa=>(cond (a.1==0) none (cond (a.1==0) none (cond ((IntKind.wrap .i64 (Int.tdiv b.1 a.1))==(IntKind.wrap .i64 (Int.tdiv W a.1))) (some 1) (some 0))))) (cond ((IntKind.wrap .i64 (Int.tdiv b.1 1))==(IntKind.wrap .i64 (Int.tdiv W 1))) (some 1) (some 0))))))
theorem JB (a b:Nat):(((a:Nat):Int)==((b:Nat):Int))=decide (a=b):=by
 by_cases h:a=b
 ·subst h;simp
 ·rw [ar h,aM];omega
theorem E7 {d:aa} {x s:Int} {w:Nat} (a:hasX d=true):memP d x s w↔mtk d 4 w=true/\w / 10 ^ 4=0:=by unfold memP;rw [ae a]
theorem M9 {d:aa} {x s:Int} {w:Nat} (a:hasX d=false):memP d x s w↔val d x.toNat / Ce d x.toNat s.toNat=w / Ce d x.toNat s.toNat:=by unfold memP;rw [ab (by rw [a];simp)]
theorem in_T (m:Nat) {g l:Bool} {d:aa} {x s:Int} (n:okY g l d x s) (w:Nat) (S:w<=10000000000000000):inT (m+300) g l d x s (w:Int)=some (if memP d x s w then 1 else 0):=by
 have O:=ir n;have K:=mn (m+300) g l d x s (by omega) (by omega);unfold inT;cases i:hasX d with
 | true=>
  obtain ⟨rfl,rfl,rfl,Q,_⟩:=ou n i;have D:=Jd (m+300) g false d 0 0 Q 4 w (by omega) (by omega) (m+300) (by omega);have hlp':aw (bE (m+300)) (m+300) ((w:Int),3,g,false,d,0,0)=_:=D;have G:((1:Int)==1)=true:=rfl;have o:aD (m+300) g false d 0 0=some 1:=by rw [K,i];rfl
  rw [o];simp only [ob,G,aj,hlp'];by_cases y:mtk d 4 w=true
  ·rw [ae y];by_cases A:w / 10 ^ 4=0
   ·have e:decide (((w / 10 ^ 4:Nat):Int)>0)=false:=ar (by rw [A];decide);rw [ae ((E7 i).2 ⟨y,A⟩)];simp only [e,af]
   ·have e:decide (((w / 10 ^ 4:Nat):Int)>0)=true:=am (by
     generalize w / 10 ^ 4=t at A ⊢;omega)
    rw [ab (λq=>A ((E7 i).1 q).2)];simp only [e,aj]
  ·rw [ab y,ab (λq=>y ((E7 i).1 q).1)]
 | false=>
  obtain ⟨k,q,rfl,rfl,z⟩:=ru n i;have hw':=z.wide;have B:=z.small;have T:=z.sig;have H:dval 0 d*10 ^ k=val d k:=rfl;have I:=jh (m+300) d k z.dig (by omega) (by omega) (by omega);rw [ae B,H] at I;rw [H] at B;unfold E16 at B;have C:((0:Int)==1)=false:=rfl;have o:aD (m+300) g l d k q=some 0:=by rw [K,i];rfl
  have c:=M9 (x:=(k:Int)) (s:=(q:Int)) (w:=w) i;rw [bI,bI] at c;unfold Ce at c;rw [o];simp only [ob,C,af,I];by_cases J:0<q
  ·have F:decide ((q:Int)>0)=true:=am (by omega);have w0:IntKind.wrap .i64 (IntKind.wrap .i64 (((d.length:Nat):Int)+(k:Int)) - (q:Int))=((d.length+k - q:Nat):Int):=by
    rw [wrap_i64 (((d.length:Nat):Int)+(k:Int)) (by omega) (by omega),wrap_i64 _ (by omega) (by omega)];omega
   have E:10 ^ (d.length+k - q)<=10 ^ 16:=jG (by decide) (by omega);have P:(10:Nat) ^ 16=10000000000000000:=by decide
   have one:dval 0 [49]=1:=by decide
   have h:dval 0 [49]*10 ^ (d.length+k - q)<=E16:=by rw [one];unfold E16;omega
   have j:=jh (m+300) [49] (d.length+k - q) (by decide) (by decide) (by omega) (by simp;omega);rw [ae h,one,uT] at j;have N:1<=10 ^ (d.length+k - q):=zb _ _ (by decide);rw [F,w0,j];rw [ae J] at c;clear h j;generalize 10 ^ (d.length+k - q)=u at N E c ⊢;generalize val d k=v at B c ⊢;have d2:(((u:Nat):Int)==0)=false:=aM.2 (by omega);have r:Int.tdiv ((v:Nat):Int) ((u:Nat):Int)=((v / u:Nat):Int):=rfl;have p:Int.tdiv ((w:Nat):Int) ((u:Nat):Int)=((w / u:Nat):Int):=rfl;have L:v / u<=v:=By v u;have R:w / u<=w:=By w u;simp only [aj,d2,af,r,p];generalize v / u=a at L c ⊢;generalize w / u=b at R c ⊢;rw [wrap_i64 _ (by omega) (by omega),wrap_i64 _ (by omega) (by omega),JB];by_cases f:a=b
   ·rw [am f,ae (c.2 f)];rfl
   ·rw [ar f,ab (λq=>f (c.1 q))];rfl
  ·have F:decide ((q:Int)>0)=false:=ar (by omega);have M:∀a:Nat,Int.tdiv ((a:Nat):Int) 1=((a:Nat):Int):=λa=>by
    have:Int.tdiv ((a:Nat):Int) 1=((a / 1:Nat):Int):=rfl;rw [this,qm]
   rw [ab J,qm,qm] at c;rw [F];simp only [af,M];rw [wrap_i64 _ (by omega) (by omega),wrap_i64 _ (by omega) (by omega),JB];by_cases f:val d k=w
   ·rw [am f,ae (c.2 f)];rfl
   ·rw [ar f,ab (λq=>f (c.1 q))];rfl
theorem Q2 (m:Nat) {g l:Bool} {d:aa} {x s:Int} (o:okY g l d x s) (v:Int):lk (m+300) g l d x s v=some (if inP g d x s v then 1 else 0):=by
 have z:=ir o;have c:=λw r=>in_T m o w r;have p:=mn (m+300) g l d x s (by omega) (by omega);unfold inT at c;unfold lk;by_cases y:v < -10000000000000000
 ·rw [am y,ab (λq=>by have:=q.1;omega)];rfl
 ·rw [ar y,af];by_cases u:v>10000000000000000
  ·rw [am u,ab (λq=>by have:=q.2.1;omega)];rfl
  ·rw [ar u,af];cases g with
   | true=>
    have w0:IntKind.wrap .i64 (0 - v)=-v:=by rw [wrap_i64 _ (by omega) (by omega)];omega
    simp only [aj,w0];by_cases n:-v<0
    ·rw [am n,ab (λq=>by have:=q.2.2.1;unfold wOf at this;simp only [aJ] at this;omega)];rfl
    ·rw [ar n,af];obtain ⟨w,r⟩:∃w:Nat,-v=(w:Int):=⟨(-v).toNat,by omega⟩;have c:=c w (by omega);have h:wOf true v=(w:Int):=by unfold wOf;simpa using r
     have f:¬(hasX d=true/\w=0)->(inP true d x s v↔memP d x s w):=by
      intro t;unfold inP;rw [h,bI];constructor
      ·exact λq=>q.2.2.2.2
      ·exact λq=>⟨by omega,by omega,by omega,λq=>t ⟨q.1,by omega⟩,q⟩
     rw [r];cases k:hasX d with
     | true=>
      have b:aD (m+300) true l d x s=some 1:=by rw [p,k];rfl
      rw [b];have i:((1:Int)==1)=true:=rfl;simp only [ob,i,aj];by_cases t:w=0
      ·have e:(((w:Nat):Int)==0)=true:=bg.2 (by omega);rw [e,ab (λq=>q.2.2.2.1 ⟨k,rfl,by rw [h];omega⟩)];rfl
      ·have e:(((w:Nat):Int)==0)=false:=aM.2 (by omega);rw [b] at c;simp only [ob,i,aj] at c;rw [e,af,c];have:=f (λq=>t q.2);by_cases a:memP d x s w
       ·rw [ae a,ae (this.2 a)]
       ·rw [ab a,ab (λq=>a (this.1 q))]
     | false=>
      have b:aD (m+300) true l d x s=some 0:=by rw [p,k];rfl
      have j:((0:Int)==1)=false:=rfl;rw [b] at c ⊢;simp only [ob,j,af] at c ⊢;rw [c];have:=f (λq=>by rw [k] at q;cases q.1);by_cases a:memP d x s w
      ·rw [ae a,ae (this.2 a)]
      ·rw [ab a,ab (λq=>a (this.1 q))]
   | false=>
    simp only [af];by_cases n:v<0
    ·rw [am n,ab (λq=>by have:=q.2.2.1;unfold wOf at this;simp only [bq,aE] at this;omega)];rfl
    ·rw [ar n,af];obtain ⟨w,rfl⟩:∃w:Nat,v=(w:Int):=⟨v.toNat,by omega⟩;have c:=c w (by omega);have h:wOf false (w:Int)=(w:Int):=rfl;have f:inP false d x s (w:Int)↔memP d x s w:=by
      unfold inP;rw [h,bI];constructor
      ·exact λq=>q.2.2.2.2
      ·exact λq=>⟨by omega,by omega,by omega,λq=>(by cases q.2.1),q⟩
     cases k:hasX d with
     | true=>
      have b:aD (m+300) false l d x s=some 1:=by rw [p,k];rfl
      rw [b] at c ⊢;have i:((1:Int)==1)=true:=rfl;simp only [ob,i,aj] at c ⊢;rw [c];by_cases a:memP d x s w
      ·rw [ae a,ae (f.2 a)]
      ·rw [ab a,ab (λq=>a (f.1 q))]
     | false=>
      have b:aD (m+300) false l d x s=some 0:=by rw [p,k];rfl
      rw [b] at c ⊢;have j:((0:Int)==1)=false:=rfl;simp only [ob,j,af] at c ⊢;rw [c];by_cases a:memP d x s w
      ·rw [ae a,ae (f.2 a)]
      ·rw [ab a,ab (λq=>a (f.1 q))]
def loK (d:aa) (k:Nat):Nat:=dval 0 ((dJ 48 d).take k)
def hiK (d:aa) (k:Nat):Nat:=dval 0 ((dJ 57 d).take k)
theorem vi (z:UInt8) {d:aa} {k:Nat} {c:UInt8} (h:d[k]?=some c):dval 0 ((dJ z d).take (k+1))=dval 0 ((dJ z d).take k)*10+((if c=88 then z else c).toNat - 48):=by
 rw [O1 (vE h),Da]
theorem AH (d:aa) (l:d.length=4) (f:∀c∈d,aT c=true\/c=88):∀(k w:Nat),k<=4->w<10 ^ k->mtk d k w=true->loK d k<=w/\w<=hiK d k
 | 0,w,i,e,b=>by
  simp at e;subst e;simp [loK,hiK,nh]
 | k+1,w,i,e,b=>by
  obtain ⟨c,hc⟩:∃c,d[k]?=some c:=⟨d[k],bj (by omega)⟩;rw [yx,xo hc,aA,gv,bZ,bZ] at b;have n:(10:Nat) ^ (k+1)=10 ^ k*10:=qs 10 k;have ih:=AH d l f k (w / 10) (by omega) (by omega) b.2;have j:=vi 48 hc;have h:=vi 57 hc;unfold loK hiK at ih ⊢;rw [j,h];by_cases a:c=88
  ·rw [ae a,ae a];have m:(48:UInt8).toNat - 48=0:=rfl;have g:(57:UInt8).toNat - 48=9:=rfl;rw [m,g];omega
  ·rw [ab a,ab a];have:=b.1.resolve_left a;omega
theorem zf (z:UInt8) (h:aT z=true) (d:aa) (m:d.length=4) (g:∀c∈d,aT c=true\/c=88):∀k,k<=4->mtk d k (dval 0 ((dJ z d).take k))=true
 | 0,_=>rfl
 | k+1,o=>by
  obtain ⟨c,hc⟩:∃c,d[k]?=some c:=⟨d[k],bj (by omega)⟩;have ih:=zf z h d m g k (by omega);have f:aT (if c=88 then z else c)=true:=by
   by_cases e:c=88
   ·rw [ae e];exact h
   ·rw [ab e];exact (g c (fD hc)).resolve_right e
  have l:=(bH _).1 f;rw [yx,xo hc,vi z hc];generalize i:(if c=88 then z else c)=b at l ⊢;generalize dval 0 ((dJ z d).take k)=a at ih ⊢;have n:(a*10+(b.toNat - 48)) / 10=a:=by omega
  have j:(a*10+(b.toNat - 48))%10=b.toNat - 48:=by omega
  rw [n,j,ih,Gw];by_cases e:c=88
  ·rw [am e];rfl
  ·rw [ab e] at i;rw [i,am (show b.toNat=48+(b.toNat - 48) by omega),Bool.or_true]
def yd:List (aa):=[[48,48,48,88],[48,48,88,48],[48,48,88,88],[48,88,48,48],[48,88,48,88],[48,88,88,48],[48,88,88,88],[88,48,48,48],[88,48,48,88],[88,48,88,48],[88,48,88,88],[88,88,48,48],[88,88,48,88],[88,88,88,48],[88,88,88,88]]
theorem SV:yd.all (λd=>mtk d 4 (qJ d)&&decide (1<=qJ d)&&decide (qJ d<=1000)&&(List.range 1000).all (λw=>decide (w=0)||!mtk d 4 w||decide (qJ d<=w)))=true:=by decide +kernel
theorem zS {d:aa} (c:d∈yd):mtk d 4 (qJ d)=true/\1<=qJ d/\qJ d<=1000/\∀w,1<=w->mtk d 4 w=true->qJ d<=w:=by
 have h:=bS.1 SV d c;simp only [aA,bZ,bS,jy,gv,jL] at h;obtain ⟨⟨⟨j,e⟩,f⟩,b⟩:=h;refine ⟨j,e,f,λw k g=>?_⟩;rcases aF w 1000 with a | i
 ·rcases b w a with (h | h) | h
  ·omega
  ·rw [g] at h;cases h
  ·exact h
 ·omega
theorem AQ {d:aa} (a:d.length=4) (e:∀c∈d,aT c=true\/c=88) (b:hasX d=true) (f:dval 0 (dJ 48 d)=0):d∈yd:=
 wM a (AL a e f) b (λd=>d∈yd) (by decide) (by decide) (by decide) (by decide) (by decide) (by decide) (by decide) (by decide) (by decide) (by decide) (by decide) (by decide) (by decide) (by decide) (by decide)
theorem Oa {d:aa} (a:d.length=4):loK d 4=dval 0 (dJ 48 d):=by
 unfold loK;rw [hZ (by rw [ii];omega)]
theorem P5 {d:aa} (a:d.length=4):hiK d 4=dval 0 (dJ 57 d):=by
 unfold hiK;rw [hZ (by rw [ii];omega)]
theorem MM {g:Bool} {d:aa} (b:d.length=4) (e:∀c∈d,aT c=true\/c=88) (q:hasX d=true):
  (jB g d).1<10000/\(jB g d).2<10000/\mtk d 4 (jB g d).1=true/\mtk d 4 (jB g d).2=true/\1<=(jB g d).2/\(g=true->1<=(jB g d).1)/\∀w,w<10000->mtk d 4 w=true->(g=true->1<=w)->(jB g d).1<=w/\w<=(jB g d).2:=by
 have r:(10:Nat) ^ 4=10000:=by decide
 have p:=ot (z:=48) (by decide) e;have o:=ot (z:=57) (by decide) e;have b1:=o8 (dJ 48 d) 0 0 p (by simp);have b2:=o8 (dJ 57 d) 0 0 o (by simp);rw [ii,b,cf,r] at b1 b2;have m1:=zf 48 (by decide) d b e 4 (by omega);have m2:=zf 57 (by decide) d b e 4 (by omega);rw [hZ (by rw [ii];omega)] at m1 m2;have l:∀w,w<10000->mtk d 4 w=true->dval 0 (dJ 48 d)<=w/\w<=dval 0 (dJ 57 d):=λw m i=>by
  have:=AH d b e 4 w (by omega) (by omega) i;rw [Oa b,P5 b] at this;exact this
 have j:1<=dval 0 (dJ 57 d):=by
  rcases ym (dval 0 (dJ 57 d)) with h | h
  ·exfalso;have f:dval 0 (dJ 48 d)=0:=by
    have:=(l _ b1 m1).2;omega
   have n:=AQ b e q f;have a:=zS n;have:=(l _ (by omega) a.1).2;omega
  ·exact h
 unfold jB;by_cases f:g=true/\dval 0 (dJ 48 d)=0
 ·rw [ae f];have a:=zS (AQ b e q f.2);refine ⟨by simp only;omega,b2,a.1,m2,j,λ_=>a.2.1,λw m i k=>⟨a.2.2.2 w (k f.1) i,(l w m i).2⟩⟩
 ·rw [ab f];refine ⟨b1,b2,m1,m2,j,λk=>?_,λw m i k=>l w m i⟩;simp only;rcases ym (dval 0 (dJ 48 d)) with h | h
  ·exact absurd ⟨k,h⟩ f
  ·exact h
theorem LX {g l:Bool} {d:aa} {x s:Int} (f:okY g l d x s):(lC g d x s).1<=10000000000000000/\(lC g d x s).2<=10000000000000000/\memP d x s (lC g d x s).1/\memP d x s (lC g d x s).2/\(hasX d=true->1<=(lC g d x s).2/\(g=true->1<=(lC g d x s).1))/\
  ∀w,w<=10000000000000000->memP d x s w->(hasX d=true->g=true->1<=w)->(lC g d x s).1<=w/\w<=(lC g d x s).2:=by
 unfold lC memP;cases r:hasX d with
 | true=>
  obtain ⟨rfl,rfl,rfl,G,I⟩:=ou f r;obtain ⟨J,L,K,F,C,E,P⟩:=MM (g:=g) G I r;have D:(10:Nat) ^ 4=10000:=by decide
  simp only [aJ,D];refine ⟨by omega,by omega,⟨K,Nat.div_eq_of_lt J⟩,⟨F,Nat.div_eq_of_lt L⟩,λ_=>⟨C,E⟩,λw B j N=>P w (by omega) j.1 (N trivial)⟩
 | false=>
  obtain ⟨k,q,rfl,rfl,A⟩:=ru f r;have M:=A.small;have H:dval 0 d*10 ^ k=val d k:=rfl;rw [H] at M;obtain ⟨c,i,b⟩:=O2 A;unfold E16 at b;simp only [bq,aE,bI];unfold Ce;unfold ye at c i b ⊢;by_cases m:0<q
  ·rw [ae m] at c i b ⊢;rw [ae m];have y:1<=10 ^ (d.length+k - q):=zb _ _ (by decide);generalize 10 ^ (d.length+k - q)=u at *;generalize val d k=v at *;simp only at c i b ⊢;have e:v / u*u / u=v / u:=Nat.mul_div_cancel _ y;have p:∀w,v / u*u<=w->w<v / u*u+u->w / u=v / u:=by
    intro w z o;apply Nat.div_eq_of_lt_le
    ·exact z
    ·rw [Nat.succ_mul];exact o
   have a:∀w,v / u=w / u->v / u*u<=w/\w<v / u*u+u:=by
    intro w h;rw [h];have z:=Cj w u;have o:=Nat.div_add_mod w u;have R:=qz w y;rw [sa] at o;omega
   have t:min (v / u*u+u - 1) E16<=v / u*u+u - 1:=Nat.min_le_left _ _;have n:=a v rfl;refine ⟨by omega,b,e.symm,(p _ (by omega) (by omega)).symm,λq=>(by cases q),λw B j _=>?_⟩;obtain ⟨O,Q⟩:=a w j;refine ⟨O,?_⟩;rw [Nat.le_min];unfold E16;omega
  ·rw [ab m] at c i b ⊢;rw [ab m];simp only [qm] at c i b ⊢;refine ⟨b,b,trivial,trivial,λq=>(by cases q),λw B j _=>by omega⟩
theorem CW {g l:Bool} {d:aa} {x s:Int} (r:okY g l d x s):inP g d x s (sgn g (lC g d x s)).1/\inP g d x s (sgn g (lC g d x s)).2/\∀v,inP g d x s v->(sgn g (lC g d x s)).1<=v/\v<=(sgn g (lC g d x s)).2:=by
 obtain ⟨n,u,t,k,f,i⟩:=LX r;generalize lC g d x s=B at *;obtain ⟨lo,hi⟩:=B;simp only at n u t k f i;cases g with
 | true=>
  have b:∀a:Nat,wOf true (-(a:Int))=(a:Int):=λa=>by unfold wOf;simp
  have mk:∀a:Nat,a<=10000000000000000->memP d x s a->(hasX d=true->1<=a)->inP true d x s (-(a:Int)):=by
   intro a y p A;refine ⟨by omega,by omega,by rw [b];omega,λq=>?_,by rw [b,bI];exact p⟩;have:=A q.1;have z:=q.2.2;rw [b] at z;omega
  simp only [sgn,aJ];refine ⟨mk hi u k (λh=>(f h).1),mk lo n t (λh=>(f h).2 rfl),λv m=>?_⟩;obtain ⟨E,C,j,o,c⟩:=m;have w:wOf true v=-v:=rfl;rw [w] at j o c
  have:=i (-v).toNat (by omega) c (λD _=>by
   have:¬-v=0:=λe=>o ⟨D,rfl,e⟩;omega)
  omega
 | false=>
  have b:∀a:Int,wOf false a=a:=λa=>rfl;have mk:∀a:Nat,a<=10000000000000000->memP d x s a->inP false d x s (a:Int):=by
   intro a y p;exact ⟨by omega,by omega,by rw [b];omega,λq=>(by cases q.2.1),by rw [b,bI];exact p⟩
  simp only [sgn,bq,aE];refine ⟨mk lo n t,mk hi u k,λv m=>?_⟩;obtain ⟨E,C,j,o,c⟩:=m;rw [b] at j c;have:=i v.toNat (by omega) c (λ_ q=>by cases q);omega
end Go.Sh
namespace Go.Sh.Mk
open Go.Abs
def okB (c:UInt8):Bool:=c.toNat==88||(decide (48<=c.toNat)&&decide (c.toNat<=57))
def chk (s:aa):Int:=if 18<s.length then 3 else if s.all okB then (if s=[] then 5 else 0) else 5
theorem sS (n:Nat) (s0 s:aa) (t:s.length+1<n):
  aw (gI n) n (s0,s,0)=some (if s.all okB then .inr s0 else .inl 5):=by
 have:=eO (step:=gI n) (λx=>x.1=s0/\x.2.1=s/\x.2.2<=s.length) (λx=>s.length - x.2.2)
  (λx=>if (s.drop x.2.2).all okB then .inr s0 else .inl 5) ?_ n (s0,s,0) ⟨rfl,rfl,fB _⟩ (by simp;omega)
 ·simpa using this
 rintro ⟨a,b,i⟩ ⟨rfl,rfl,hi⟩;simp only at hi ⊢;rcases aF i b.length with k | m
 ·obtain ⟨c,hc⟩:∃c,b[i]?=some c:=⟨b[i],bj k⟩;have o:Nat.blt i b.length=true:=dn k;rw [bT hc,kR];simp only [gI,o,aj];by_cases l:c.toNat<128
  ·rw [yk hc l];by_cases g:c.toNat=88
   ·refine .inl ⟨(a,b,i+1),by simp [g],⟨rfl,rfl,by simp only;omega⟩,by simp only;omega,?_⟩;simp [okB,g]
   ·by_cases p:c.toNat<48
    ·refine .inr ?_;have f:(((c.toNat:Nat):Int) != 88)=true:=by simp;omega
     have d:(decide (((c.toNat:Nat):Int)<48))=true:=by simp;omega
     have e:okB c=false:=by simp [okB];omega
     simp [f,d,e]
    ·by_cases q:57<c.toNat
     ·refine .inr ?_;have f:(((c.toNat:Nat):Int) != 88)=true:=by simp;omega
      have d:(decide (((c.toNat:Nat):Int)<48))=false:=by simp;omega
      have j:(decide (((c.toNat:Nat):Int)>57))=true:=by simp;omega
      have e:okB c=false:=by simp [okB];omega
      simp [f,d,e,j]
     ·have f:(((c.toNat:Nat):Int) != 88)=true:=by simp;omega
      have d:(decide (((c.toNat:Nat):Int)<48))=false:=by simp;omega
      have j:(decide (((c.toNat:Nat):Int)>57))=false:=by simp;omega
      have e:okB c=true:=by simp [okB];omega
      refine .inl ⟨(a,b,i+1),by simp only [f,d,j,aj,af],⟨rfl,rfl,by simp only;omega⟩,by simp only;omega,?_⟩;simp [e]
  ·obtain ⟨u,r⟩:=Eo hc (by omega);refine .inr ?_;have f:((((dec b i).1:Nat):Int) != 88)=true:=by simp;omega
   have d:(decide ((((dec b i).1:Nat):Int)<48))=false:=by simp;omega
   have j:(decide ((((dec b i).1:Nat):Int)>57))=true:=by simp;omega
   have e:okB c=false:=by simp [okB];omega
   simp [f,d,e,j]
 ·have o:Nat.blt i b.length=false:=by
   cases h:Nat.blt i b.length with
   | false=>rfl
   | true=>have:i<b.length:=aH h;omega
  refine .inr ?_;simp only [gI,o,af];rw [iD m];rfl
theorem kj (n:Nat) (s:aa) (c:30<=n):jc n s=some (chk s):=by
 unfold jc chk;by_cases h:18<s.length
 ·have:(decide (((List.length s:Nat):Int)>18))=true:=by simp;omega
  simp [this,h]
 ·have e:(decide (((List.length s:Nat):Int)>18))=false:=by simp;omega
  simp only [e,af,h,aE];rw [sS n s s (by omega)];by_cases b:s.all okB=true
  ·simp only [b,aJ,ob];by_cases a:s=[]
   ·simp [a]
   ·have:(s==([]:aa))=false:=by simpa using a
    simp [this,a]
  ·simp [b,ob]
theorem lL {s:aa} (h:chk s=0):s.length<=18/\s≠[]/\∀c∈s,okB c=true:=by
 unfold chk at h;split at h
 ·simp at h
 ·split at h
  ·rename_i a;split at h
   ·simp at h
   ·rename_i b;exact ⟨by omega,b,by simpa using a⟩
  ·simp at h
def nums (l:aa):List Int:=l.map λb=>((b.toNat:Nat):Int)
def over (d:List Int) (i:Nat) (l:List Int):List Int:=d.take i++(l++d.drop (i+l.length))
theorem xy (d:List Int) (i:Nat) (x:Int) (l:List Int) (h:i<d.length):over (d.set i x) (i+1) l=over d i (x::l):=by
 unfold over;rw [show (d.set i x).take (i+1)=d.take i++[x] from by
  rw [IF (by simpa using h)];simp [List.take_set_of_le]]
 rw [List.drop_set_of_lt (by omega)];simp [gh,nB 1]
theorem Ek (d:List Int) (i:Nat):over d i []=d:=by simp [over]
theorem Kw (d:List Int) (i:Nat) (l:List Int) (h:i+l.length<=d.length):(over d i l).length=d.length:=by
 unfold over;simp;omega
theorem KD {x y:UInt8}:(((x.toNat:Nat):Int)==((y.toNat:Nat):Int))=decide (x=y):=by
 by_cases h:x=y
 ·simp [h]
 ·have:x.toNat≠y.toNat:=λe=>h (fF.1 e);simp [h];omega
theorem xC {x:UInt8}:(((x.toNat:Nat):Int)==88)=decide (x=88):=by
 have:=KD (x:=x) (y:=88);simpa using this
def dg:Nat->Int->List Int
 | 0,_=>[]
 | L+1,k=>dg L (k / 10)++[48+k%10]
theorem vJ:∀(L:Nat) (k:Int),(dg L k).length=L
 | 0,_=>rfl
 | L+1,k=>by simp [dg,vJ L]
theorem rD:∀(L:Nat) (k:Int),∀x∈dg L k,48<=x/\x<58
 | 0,_,x,h=>by simp [dg] at h
 | L+1,k,x,h=>by
  simp only [dg,kL,uZ] at h;rcases h with h | rfl
  ·exact rD L _ x h
  ·omega
def io:aa->List Int->Bool
 | c::m,d::l=>(c==88||decide (((c.toNat:Nat):Int)=d))&&io m l
 | _,_=>true
theorem sA:∀{a c:aa} {b d:List Int},a.length=b.length->io (a++c) (b++d)=(io a b&&io c d)
 | [],c,[],d,_=>by simp [io]
 | x::a,c,y::b,d,h=>by
  simp only [bf,uE] at h;simp only [dY,io,sA h,Bool.and_assoc]
def hasM (m:aa) (k:Int):Bool:=decide (0<=k)&&(decide (k<10 ^ m.length)&&io m (dg m.length k))
theorem MZ (L:Nat) (h:L<=18):na 20000000 ((L:Nat):Int)=some (10 ^ L):=by
 have b:allN (λi=>match na 20000000 ((i:Nat):Int) with | some r=>decide (r=10 ^ i) | none=>false) 19=true:=by kernel_rfl
 have:=BJ b L (by omega);split at this
 ·rename_i r a;rw [a];simpa using this
 ·cases this
theorem zy (L:Nat) (h:L<=18):(10:Int) ^ L<=1000000000000000000:=by
 have a:allN (λi=>decide ((10:Int) ^ i<=1000000000000000000)) 19=true:=by kernel_rfl
 simpa using BJ a L (by omega)
theorem Ry {k:Int} (h:0<=k):Int.tmod k 10=k%10:=Int.tmod_eq_emod_of_nonneg h
theorem RO {k:Int} (h:0<=k):Int.tdiv k 10=k / 10:=M7 h
theorem FG (k:Int) (i:Nat) (d:List Int) (a:0<=k) (c:k<9223372036854775808) (hi:i<=18) (b:d.length=18):
  aw (gL 20000000) 20000000 (k,(i:Int) - 1,d)=some (over d 0 (dg i k)):=by
 have:=eO (step:=gL 20000000) (λx=>(0<=x.1/\x.1<9223372036854775808)/\(-1<=x.2.1/\x.2.1<=17)/\x.2.2.length=18) (λx=>(x.2.1+1).toNat)
  (λx=>over x.2.2 0 (dg (x.2.1+1).toNat x.1)) ?_ 20000000 (k,(i:Int) - 1,d) ⟨⟨a,c⟩,⟨by simp only;omega,by simp only;omega⟩,b⟩ (by simp only;omega)
 ·simpa using this
 rintro ⟨k,i,d⟩ ⟨⟨a,c⟩,⟨n,p⟩,b⟩;simp only at a c n p b ⊢;by_cases hi:0<=i
 ·obtain ⟨j,rfl⟩:∃j:Nat,i=j:=⟨i.toNat,by omega⟩;have f:j<18:=by omega
  have e:decide ((j:Int)>=0)=true:=by simp
  have m:Nat.blt j 18=true:=dn f;have g:IntKind.wrap .i64 ((j:Int) - 1)=(j:Int) - 1:=wrap_i64 _ (by omega) (by omega);have o:IntKind.wrap .i64 (Int.tdiv k 10)=k / 10:=by rw [RO a];exact wrap_i64 _ (by omega) (by omega)
  have h:IntKind.wrap .u8 (IntKind.wrap .i64 (48+Int.tmod k 10))=48+k%10:=by rw [Ry a,wrap_i64 _ (by omega) (by omega),ig _ (by omega) (by omega)]
  refine .inl ⟨(k / 10,(j:Int) - 1,d.set j (48+k%10)),by simp only [gL,e,aj,fg f,ob,m,g,o,h],⟨⟨by simp only;omega,by simp only;omega⟩,⟨by simp only;omega,by simp only;omega⟩,by simpa using b⟩,by simp only;omega,?_⟩;have l:((j:Int) - 1+1).toNat=j:=by omega
  have q:((j:Int)+1).toNat=j+1:=by omega
  simp only [l,q,over,l8,ek,vJ,cL,dg,iN];congr 1;rw [List.drop_set,ab (by omega),Nat.sub_self,qb (by omega)];simp only [List.set_cons_zero,bV,vJ,bf,dR,dY,ek,cL]
 ·have e:decide (i>=0)=false:=by simp;omega
  have s:(i+1).toNat=0:=by omega
  refine .inr ?_;simp only [gL,e,af,s,dg,Ek]
theorem J7 (m:aa) (k:Int) (c:m.length<=18) (a:0<=k) (b:k<9223372036854775808):
  jR 20000000 m k=some (over [0,0,0,0,0,0,0,0,0,0,0,0,0,0,0,0,0,0] 0 (dg m.length k)):=by
 have w:IntKind.wrap .i64 (((List.length m:Nat):Int) - 1)=(m.length:Int) - 1:=wrap_i64 _ (by omega) (by omega);simp only [jR,w,FG k m.length [0,0,0,0,0,0,0,0,0,0,0,0,0,0,0,0,0,0] a b c (by rfl),ob]
theorem tJ {d l:List Int} {i:Nat} (h:i<l.length):(over d 0 l)[i]?=l[i]?:=by
 unfold over;simp only [l8,ek];rw [lJ h]
theorem wu:∀(l:List Int),(∀x∈l,0<=x/\x<256)->nums (ge l)=l
 | [],_=>rfl
 | x::l,h=>by
  have ih:=wu l λy a=>h y (gk _ a);obtain ⟨c,d⟩:=h x (by simp);have e:(((UInt8.ofNat x.toNat).toNat:Nat):Int)=x:=by
   rw [BL,od (by omega)];omega
  simp only [nums,ge,ur] at ih ⊢;simp only [fC,Function.comp,e];rw [show List.map ((λb:UInt8=>((b.toNat:Nat):Int)) ∘ λn:Int=>UInt8.ofNat n.toNat) l=l from ih]
theorem Lj (l:aa):(nums l).length=l.length:=by simp [nums]
def cnt:aa->Nat
 | []=>0
 | c::r=>if c=88 then cnt r+1 else cnt r
def dv (c:UInt8):Int:=((c.toNat:Nat):Int) - 48
def nth:aa->Int->Int
 | [],_=>0
 | c::r,i=>if c=88 then 10*nth r (i / 10)+i%10 else 10*nth r i+dv c
def ag:aa->Int->Bool
 | [],_=>true
 | c::r,k=>ag r (k / 10)&&(decide (c=88)||decide (dv c=k%10))
def idx:aa->Int->Int
 | [],_=>0
 | c::r,k=>if c=88 then 10*idx r (k / 10)+k%10 else idx r (k / 10)
def okR (r:aa):Prop:=∀c∈r,c=88\/(0<=dv c/\dv c<10)
theorem wL {m:aa} (h:∀c∈m,okB c=true):okR m.reverse:=by
 intro c hc;have:=h c (BU.1 hc);simp only [okB,gv,bg,aA,bZ] at this;rcases this with h | h
 ·exact .inl (fF.1 (by simpa using h))
 ·exact .inr (by unfold dv;omega)
theorem pE {c:UInt8} {r:aa} (h:okR (c::r)):okR r:=λx a=>h x (gk _ a)
theorem gJ (n:Nat):(10:Int) ^ (n+1)=10*10 ^ n:=by rw [Int.pow_succ,Int.mul_comm]
theorem rE (n:Nat):(0:Int)<10 ^ n:=Int.pow_pos (by omega)
theorem n9:∀{r:aa},okR r->∀i,0<=i->0<=nth r i/\nth r i<10 ^ r.length
 | [],_,i,_=>by simp [nth]
 | c::r,h,i,hi=>by
  simp only [nth,bf,gJ];split
  ·have:=n9 (pE h) (i / 10) (by omega);omega
  ·rename_i hc;have:=n9 (pE h) i hi;have:=(h c (by simp)).resolve_left hc;omega
theorem GG:∀{r:aa},okR r->∀i,0<=i->ag r (nth r i)=true
 | [],_,_,_=>rfl
 | c::r,h,i,hi=>by
  simp only [nth,ag];split
  ·rename_i hc;have e:(10*nth r (i / 10)+i%10) / 10=nth r (i / 10):=by omega
   rw [e,GG (pE h) (i / 10) (by omega)];simp [hc]
  ·rename_i hc;have b:=(h c (by simp)).resolve_left hc;have e:(10*nth r i+dv c) / 10=nth r i:=by omega
   have a:(10*nth r i+dv c)%10=dv c:=by omega
   rw [e,a,GG (pE h) i hi];simp
theorem ve:∀(r:aa) (k:Int),0<=k->0<=idx r k/\idx r k<10 ^ cnt r
 | [],k,_=>by simp [idx,cnt]
 | c::r,k,a=>by
  have:=ve r (k / 10) (by omega);simp only [idx,cnt];split
  ·rw [gJ];omega
  ·exact this
theorem GN:∀{r:aa} {k:Int},0<=k->k<10 ^ r.length->ag r k=true->nth r (idx r k)=k
 | [],k,d,a,_=>by simp at a;simp [nth];omega
 | c::r,k,d,a,b=>by
  simp only [ag,aA,gv,bZ] at b;rw [bf,gJ] at a;have ih:=GN (r:=r) (k:=k / 10) (by omega) (by omega) b.1;simp only [nth,idx];split
  ·have:=ve r (k / 10) (by omega);have e:(10*idx r (k / 10)+k%10) / 10=idx r (k / 10):=by omega
   have f:(10*idx r (k / 10)+k%10)%10=k%10:=by omega
   rw [e,f,ih];omega
  ·rename_i hc;rw [ih];have:=b.2.resolve_left hc;omega
theorem xG:∀{r:aa},okR r->∀i j,0<=i->i<j->j<10 ^ cnt r->nth r i<nth r j
 | [],_,i,j,b,d,a=>by simp [cnt] at a;omega
 | c::r,h,i,j,b,d,a=>by
  simp only [nth,cnt] at a ⊢;split
  ·rename_i hc;rw [ae hc,gJ] at a;by_cases e:i / 10=j / 10
   ·rw [e];omega
   ·have:=xG (pE h) (i / 10) (j / 10) (by omega) (by omega) (by omega);omega
  ·rename_i hc;rw [ab hc] at a;have:=xG (pE h) i j b d a;omega
theorem D6:∀(r:aa),∀k,io r.reverse (dg r.length k)=ag r k
 | [],k=>rfl
 | c::r,k=>by
  simp only [List.reverse_cons,bf,dg,ag];rw [sA (by rw [rX,vJ]),D6 r];have b:decide (((c.toNat:Nat):Int)=48+k%10)=decide (dv c=k%10):=lR.2 (by unfold dv;omega);have a:(c==88)=decide (c=88):=by by_cases h:c=88<;>simp [h]
  simp only [io,Gw,b,a]
theorem Cb (m:aa) (k:Int):hasM m k=(decide (0<=k)&&(decide (k<10 ^ m.length)&&ag m.reverse k)):=by
 have:=D6 m.reverse k;rw [uL,rX] at this;unfold hasM;rw [this]
theorem uJ:∀(m:aa),cnt m=m.count 88
 | []=>rfl
 | c::m=>by
  simp only [cnt,uJ m,List.count_cons];by_cases h:c=88<;>simp [h]
theorem qj (m:aa):cnt m.reverse=cnt m:=by rw [uJ,uJ,List.count_reverse]
theorem Iw:∀(m:aa),cnt m<=m.length
 | []=>by simp [cnt]
 | c::m=>by
  have:=Iw m;simp only [cnt,bf];split<;>omega
def fd (x y:Int):Int:=(if y=88 then x else y) - 48
def fval (x:Int) (l:List Int):Int:=l.foldl (λn y=>10*n+fd x y) 0
theorem yR (x:Int):∀(l:List Int) (n:Int),l.foldl (λn y=>10*n+fd x y) n=n*10 ^ l.length+fval x l
 | [],n=>by simp [fval]
 | y::l,n=>by
  have e:=yR x l (10*n+fd x y);have a:=yR x l (10*0+fd x y);simp only [fval,sG,bf,gJ] at e a ⊢;rw [e,a,Int.add_mul,Int.add_mul];have:10*n*10 ^ l.length=n*(10*10 ^ l.length):=by rw [Int.mul_comm 10 n,Int.mul_assoc]
  omega
theorem uN (s:aa) (x:Int) (h18:s.length<=18) (hs:∀c∈s,0<=fd x ((c.toNat:Nat):Int)/\fd x ((c.toNat:Nat):Int)<10):kI 20000000 s x=some (fval x (nums s)):=by
 have hs':∀y∈nums s,0<=fd x y/\fd x y<10:=by
  intro y hy;obtain ⟨c,hc,rfl⟩:=du.1 hy;exact hs c hc
 have hl:(nums s).length=s.length:=Lj s;have:=eO (step:=fQ 20000000)
  (λst=>st.1=x/\st.2.2.1=((s.length:Nat):Int)/\st.2.2.2.2=nums s/\(0<=st.2.2.2.1/\st.2.2.2.1<=s.length)/\0<=st.2.1/\st.2.1<10 ^ st.2.2.2.1.toNat) (λst=>s.length - st.2.2.2.1.toNat)
  (λst=>((nums s).drop st.2.2.2.1.toNat).foldl (λn y=>10*n+fd x y) st.2.1) ?_ 20000000 (x,0,((s.length:Nat):Int),0,nums s) ⟨rfl,rfl,rfl,⟨by simp,by simp⟩,by simp,by simp⟩ (by simp;omega)
 ·show (ob (aw (fQ 20000000) 20000000 (x,0,((List.length (nums s):Nat):Int),0,nums s)) λy30=>some y30)=_;rw [hl,this];rfl
 rintro ⟨x',n,len,i,l⟩ ⟨q1,q2,q3,⟨h0,hi⟩,n0,n1⟩;simp only at q1 q2 q3 h0 hi n0 n1 ⊢;subst q1 q2 q3;obtain ⟨j,rfl⟩:∃j:Nat,i=j:=⟨i.toNat,by omega⟩;simp only [bI] at n1 ⊢;rcases aF j s.length with hlt | hge
 ·obtain ⟨y,hy⟩:∃c,(nums s)[j]?=some c:=⟨(nums s)[j]'(by omega),bj (by omega)⟩;obtain ⟨d0,d1⟩:=hs' y (fD hy);have hb:(decide ((j:Int)<((s.length:Nat):Int)))=true:=by simp;omega
  have hw:IntKind.wrap .i64 ((j:Int)+1)=((j+1:Nat):Int):=by rw [wrap_i64 _ (by omega) (by omega)];omega
  have hb1:=zy (j+1) (by omega);rw [gJ] at hb1;have w1:IntKind.wrap .i64 (10*n)=10*n:=wrap_i64 _ (by omega) (by omega);have w2:∀z:Int,0<=z->z<10->IntKind.wrap .i64 (10*n+IntKind.wrap .i64 (IntKind.wrap .u8 z))=10*n+z:=λz z0 z1=>by
   rw [ig z (by omega) (by omega),wrap_i64 z (by omega) (by omega),wrap_i64 _ (by omega) (by omega)]
  rw [bT hy,sG];simp only [fQ,hb,aj,fg (show j<(nums s).length by omega),ob,hy,hw,w1];have next:0<=10*n+fd x' y/\10*n+fd x' y<10 ^ (j+1):=by rw [gJ];omega
  by_cases h88:y=88
  ·have e1:(y==88)=true:=by simpa using h88
   have hd:fd x' y=x' - 48:=by simp [fd,h88]
   rw [hd] at d0 d1 next ⊢;refine .inl ⟨(x',10*n+(x' - 48),((s.length:Nat):Int),((j+1:Nat):Int),nums s),by simp only [e1,aj,w2 _ d0 d1],⟨rfl,rfl,rfl,⟨by simp only;omega,by simp only;omega⟩,next.1,by simpa only [bI] using next.2⟩,by simp only [bI];omega,by simp only [bI]⟩
  ·have e1:(y==88)=false:=by simpa using h88
   have hd:fd x' y=y - 48:=by simp [fd,h88]
   rw [hd] at d0 d1 next ⊢;refine .inl ⟨(x',10*n+(y - 48),((s.length:Nat):Int),((j+1:Nat):Int),nums s),by simp only [e1,af,w2 _ d0 d1],⟨rfl,rfl,rfl,⟨by simp only;omega,by simp only;omega⟩,next.1,by simpa only [bI] using next.2⟩,by simp only [bI];omega,by simp only [bI]⟩
 ·have hb:(decide ((j:Int)<((s.length:Nat):Int)))=false:=by simp;omega
  refine .inr ?_;simp only [fQ,hb,af];rw [iD (by omega)];rfl
theorem uM (x:Int) (l:List Int) (y:Int):fval x (l++[y])=10*fval x l+fd x y:=by simp [fval,E4]
theorem Ba (r:aa) (c:UInt8):nums ((c::r).reverse)=nums r.reverse++[((c.toNat:Nat):Int)]:=by simp [nums]
theorem Ci (x:Int) (c:UInt8):fd x ((c.toNat:Nat):Int)=if c=88 then x - 48 else dv c:=by
 unfold fd dv;by_cases h:c=88
 ·simp [h]
 ·have:¬((c.toNat:Nat):Int)=88:=λe=>h (fF.1 (by simpa using (by omega:c.toNat=88)));rw [ab this,ab h]
theorem wA:∀(r:aa),fval 48 (nums r.reverse)=nth r 0
 | []=>rfl
 | c::r=>by
  rw [Ba,uM,wA r,Ci];simp only [nth];split<;>simp
theorem qW:∀(r:aa),fval 57 (nums r.reverse)=nth r (10 ^ cnt r - 1)
 | []=>rfl
 | c::r=>by
  have d:=rE (cnt r);rw [Ba,uM,qW r,Ci];simp only [nth,cnt];split
  ·rw [gJ];have b:(10*(10:Int) ^ cnt r - 1) / 10=10 ^ cnt r - 1:=by omega
   have a:(10*(10:Int) ^ cnt r - 1)%10=9:=by omega
   rw [b,a];omega
  ·rfl
theorem RU {m:aa} (a:∀c∈m,okB c=true) {x:Int} (b:48<=x/\x<58):∀c∈m,0<=fd x ((c.toNat:Nat):Int)/\fd x ((c.toNat:Nat):Int)<10:=by
 intro c hc;rw [Ci];have:=wL a c (BU.2 hc);split
 ·omega
 ·rename_i h;exact this.resolve_left h
theorem MG {m:aa} (c:chk m=0):nN 20000000 m=some (nth m.reverse 0,0):=by
 obtain ⟨a,_,b⟩:=lL c;have d:((0:Int) != 0)=false:=by simp
 have:=wA m.reverse;rw [uL] at this;simp only [nN,kj 20000000 m (by omega),c,ob,d,af,uN m 48 a (RU b (by omega)),this]
theorem Bo {m:aa} (c:chk m=0):kl 20000000 m=some (nth m.reverse (10 ^ cnt m - 1),0):=by
 obtain ⟨a,_,b⟩:=lL c;have d:((0:Int) != 0)=false:=by simp
 have:=qW m.reverse;rw [uL,qj] at this;simp only [kl,kj 20000000 m (by omega),c,ob,d,af,uN m 57 a (RU b (by omega)),this]
theorem K4 {m:aa} {l:List Int} (z:List Int) (b:m.length<=18) (h:l.length=m.length) (d:∀y∈l,48<=y/\y<58):ft 20000000 m (over z 0 l)=some (fval 0 l):=by
 have g:List.take m.length (over z 0 l)=l:=by
  unfold over;rw [l8,ek,rZ (by omega),hZ (by omega)]
 have e:nums (ge l)=l:=wu l λy f=>by have:=d y f;omega
 have i:(ge l).length=m.length:=by simp [ge,h]
 simp only [ft,ct b,ob,cL,show Nat.ble m.length 18=true from dn b,aj,cP,g];rw [uN (ge l) 0 (by omega) ?_,e];intro c hc;have a:((c.toNat:Nat):Int)∈l:=by rw [<-e];exact du.2 ⟨c,hc,rfl⟩
 have:=d _ a;unfold fd;rw [ab (by omega)];omega
theorem Dj {m:aa} (e:chk m=0) {i:Int} (c:0<=i):hasM m (nth m.reverse i)=true:=by
 obtain ⟨d,_,a⟩:=lL e;have b:=n9 (wL a) i c;rw [rX] at b;rw [Cb,GG (wL a) i c,am b.1,am b.2];rfl
def vl:List Int->Int
 | []=>0
 | y::l=>(y - 48)*10 ^ l.length+vl l
def digl (l:List Int):Prop:=∀y∈l,48<=y/\y<58
theorem cR {y:Int} {l:List Int} (h:digl (y::l)):digl l:=λx a=>h x (gk _ a)
theorem tC:∀{l:List Int},digl l->0<=vl l/\vl l<10 ^ l.length
 | [],_=>by simp [vl]
 | y::l,h=>by
  have ih:=tC (cR h);have b:=h y (by simp);have a:=rE l.length;simp only [vl,bf,gJ];have a1:0<=(y - 48)*10 ^ l.length:=Int.mul_nonneg (by omega) (by omega);have a2:(y - 48)*10 ^ l.length<=9*10 ^ l.length:=Nv (by omega) (by omega);omega
theorem P4 {y z:Int} {a b:List Int} (d:a.length=b.length) (f:digl a) (e:digl b) (h:y<z):vl (y::a)<vl (z::b):=by
 have i:=tC f;have c:=tC e;have g:=rE a.length;simp only [vl];rw [<-d] at c ⊢;have a2:(y - 48+1)*10 ^ a.length<=(z - 48)*10 ^ a.length:=Nv (by omega) (by omega);rw [Int.add_mul] at a2;omega
theorem xp:∀{l:List Int},digl l->fval 0 l=vl l
 | [],_=>rfl
 | y::l,h=>by
  have b:=h y (by simp);have e:fval 0 (y::l)=l.foldl (λn y=>10*n+fd 0 y) (10*0+fd 0 y):=rfl;have a:fd 0 y=y - 48:=by unfold fd;rw [ab (by omega)]
  rw [e,yR,xp (cR h),a];simp only [vl,Int.mul_zero,Int.zero_add]
theorem Gx {l:List Int} {y:Int} (h:digl (l++[y])):vl (l++[y])=10*vl l+(y - 48):=by
 have c:=h y (by simp);have b:digl l:=λx a=>h x (by simp [a]);rw [<-xp h,<-xp b,uM];unfold fd;rw [ab (by omega)]
theorem LK:∀(L:Nat) (k:Int),0<=k->k<10 ^ L->vl (dg L k)=k
 | 0,k,c,a=>by simp at a;simp [dg,vl];omega
 | L+1,k,c,a=>by
  rw [gJ] at a;have:=LK L (k / 10) (by omega) (by omega);have b:=rD (L+1) k;simp only [dg] at b ⊢;rw [Gx b,this];omega
theorem TA {l:List Int} (h:digl l):dg l.length (vl l)=l:=by
 have b:∀(r:List Int),digl r.reverse->dg r.length (vl r.reverse)=r.reverse:=by
  intro r
  induction r with
  | nil=>intro _;rfl
  | cons y r ih=>
   intro h;simp only [List.reverse_cons,bf] at h ⊢;have e:=h y (by simp);rw [Gx h];simp only [dg];have d:(10*vl r.reverse+(y - 48)) / 10=vl r.reverse:=by omega
   have a:48+(10*vl r.reverse+(y - 48))%10=y:=by omega
   rw [d,a,ih λx c=>h x (kL.2 (.inl c))]
 have:=b l.reverse (by rw [uL];exact h);rwa [uL,rX] at this
def fst (up:Bool):Int:=cond up 48 57
def lst (up:Bool):Int:=cond up 57 48
def stp (up:Bool) (y:Int):Int:=cond up (y+1) (y - 1)
def fil (up:Bool) (m:aa):List Int:=m.map λc=>cond (decide (c=88)) (fst up) ((c.toNat:Nat):Int)
def nx (up:Bool):aa->List Int->Option (List Int)
 | c::m,y::l=>
  if c=88 then
   match nx up m l with
   | some r=>some (y::r)
   | none=>if y=lst up then none else some (stp up y::fil up m)
  else if ((c.toNat:Nat):Int)=y then (nx up m l).map λr=>y::r
  else if decide (((c.toNat:Nat):Int)>y)=up then some (((c.toNat:Nat):Int)::fil up m) else none
 | _,_=>some []
def okM (m:aa):Prop:=∀c∈m,okB c=true
theorem pp {c:UInt8} {m:aa} (h:okM (c::m)):okM m:=λx a=>h x (gk _ a)
theorem E9 {c:UInt8} (h:okB c=true) (a:¬c=88):48<=((c.toNat:Nat):Int)/\((c.toNat:Nat):Int)<58:=by
 simp only [okB,gv,bg,aA,bZ] at h;have:¬c.toNat=88:=λe=>a (fF.1 (by simpa using e));omega
theorem yL (up:Bool) (m:aa):(fil up m).length=m.length:=by simp [fil]
theorem HU (up:Bool) {m:aa} (h:okM m):digl (fil up m):=by
 intro y b;obtain ⟨c,hc,rfl⟩:=du.1 b;by_cases a:c=88
 ·simp only [am a,aj];cases up<;>simp [fst]
 ·simp only [ar a,af];exact E9 (h c hc) a
theorem uf (up:Bool):∀(m:aa),io m (fil up m)=true
 | []=>rfl
 | c::m=>by
  have:=uf up m;simp only [fil,fC,io] at this ⊢;rw [this];by_cases a:c=88
  ·simp [a]
  ·simp [a]
def eo (up:Bool) (a b:Int):Prop:=match up with | true=>a<=b | false=>b<=a
theorem xw (up:Bool):∀{m:aa} {e:List Int},okM m->m.length=e.length->digl e->io m e=true->eo up (vl (fil up m)) (vl e)
 | [],[],_,_,_,_=>by cases up<;>simp [fil,vl,eo]
 | c::m,y::e,l,i,j,k=>by
  simp only [bf,uE] at i;simp only [io,aA,gv,bg,bZ] at k;have ih:=xw up (pp l) i (cR j) k.2;have o:=j y (by simp);have g:=yL up m;have n:=HU up (pp l);have a:∀z:Int,vl (z::fil up m)=(z - 48)*10 ^ m.length+vl (fil up m):=λz=>by rw [vl,g]
  have d:fil up (c::m)=(cond (decide (c=88)) (fst up) ((c.toNat:Nat):Int))::fil up m:=rfl;rw [d];by_cases f:c=88
  ·simp only [am f,aj];by_cases b:y=fst up
   ·rw [<-b,a,vl,<-i];cases up<;>simp only [eo] at ih ⊢<;>omega
   ·cases up
    ·exact Int.le_of_lt (P4 (by rw [g,i]) (cR j) n (by simp [fst] at b ⊢;omega))
    ·exact Int.le_of_lt (P4 (by rw [g,i]) n (cR j) (by simp [fst] at b ⊢;omega))
  ·simp only [ar f,af];rw [k.1.resolve_left f,a,vl,<-i];cases up<;>simp only [eo] at ih ⊢<;>omega
 | [],_::_,_,h,_,_=>by simp at h
 | _::_,[],_,h,_,_=>by simp at h
theorem OB (up:Bool):∀{m:aa} {l:List Int},okM m->m.length=l.length->digl l->
  match nx up m l with
  | some r=>r.length=m.length/\digl r/\io m r=true/\eo up (vl l) (vl r)/\∀e,e.length=m.length->digl e->io m e=true->eo up (vl l) (vl e)->eo up (vl r) (vl e)
  | none=>∀e,e.length=m.length->digl e->io m e=true->¬eo up (vl l) (vl e)
 | [],[],_,_,_=>by
  simp only [nx];refine ⟨rfl,by intro y Q;simp at Q,rfl,by cases up<;>simp [eo],?_⟩;intro e C _ _ _;simp only [dR] at C;rw [uI C];cases up<;>simp [eo]
 | c::m,y::l,L,u,U=>by
  simp only [bf,uE] at u;have ih:=OB up (pp L) u (cR U);have Q:=U y (by simp);have A:=cR U;have t:=yL up m;have B:=HU up (pp L);have M:∀{z w:Int} {a b:List Int},a.length=m.length->b.length=m.length->digl a->digl b->z<w->vl (z::a)<vl (w::b):=λC J O N S=>P4 (by rw [C,J]) O N S;have d:∀(z:Int) {a b:List Int},a.length=m.length->b.length=m.length->(eo up (vl (z::a)) (vl (z::b))↔eo up (vl a) (vl b)):=λz a b C J=>by
   simp only [vl,C,J];cases up<;>simp only [eo]<;>omega
  have p:∀{z w:Int} {a b:List Int},a.length=m.length->b.length=m.length->digl a->digl b->z≠w->(eo up (vl (z::a)) (vl (w::b))↔eo up z w):=λ{z w a b} C J O N S=>by
   rcases Int.lt_trichotomy z w with h | h | h
   ·have:=M C J O N h;cases up<;>simp only [eo]<;>omega
   ·exact absurd h S
   ·have:=M J C N O h;cases up<;>simp only [eo]<;>omega
  have f:∀e:List Int,e.length=(c::m).length->∃w a,e=w::a/\a.length=m.length:=λe h=>by
   match e,h with
   | w::a,h=>exact ⟨w,a,rfl,by simpa using h⟩
  by_cases g:c=88
  ·cases E:nx up m l with
   | some r=>
    rw [E] at ih;obtain ⟨I,P,V,T,W⟩:=ih;simp only [nx,ae g,E];refine ⟨by simp [I],λz s=>?_,by simp [io,g,V],(d y u.symm I).2 T,λe x j q o=>?_⟩
    ·rcases cq.1 s with rfl | s
     ·exact Q
     ·exact P z s
    ·obtain ⟨w,a,rfl,i⟩:=f e x;simp only [io,g,si,ED,nS] at q;by_cases D:y=w
     ·subst D;exact (d y I i).2 (W a i (cR j) q ((d y u.symm i).1 o))
     ·exact (p I i P (cR j) D).2 ((p u.symm i A (cR j) D).1 o)
   | none=>
    rw [E] at ih;by_cases n:y=lst up
    ·simp only [nx,ae g,E,ae n];intro e x j q o;obtain ⟨w,a,rfl,i⟩:=f e x;simp only [io,g,si,ED,nS] at q;have X:=j w (by simp);by_cases D:y=w
     ·subst D;exact ih a i (cR j) q ((d y u.symm i).1 o)
     ·have:=(p u.symm i A (cR j) D).1 o;cases up<;>simp only [eo,lst,aj,af] at this n<;>omega
    ·simp only [nx,ae g,E,ab n];have hs:48<=stp up y/\stp up y<58/\y≠stp up y/\eo up y (stp up y)/\∀w,w≠y->eo up y w->eo up (stp up y) w:=by
      cases up<;>simp only [eo,lst,stp,aj,af] at n ⊢<;>exact ⟨by omega,by omega,by omega,by omega,λw C J=>by omega⟩
     obtain ⟨Z,s2,s3,Y,s5⟩:=hs;refine ⟨by simp [t],λz s=>?_,by simp [io,g,uf],(p u.symm t A B s3).2 Y,λe x j q o=>?_⟩
     ·rcases cq.1 s with rfl | s
      ·exact ⟨Z,s2⟩
      ·exact B z s
     ·obtain ⟨w,a,rfl,i⟩:=f e x;simp only [io,g,si,ED,nS] at q;by_cases D:y=w
      ·subst D;exact absurd ((d y u.symm i).1 o) (ih a i (cR j) q)
      ·have h9:=s5 w (λh=>D h.symm) ((p u.symm i A (cR j) D).1 o);by_cases K:stp up y=w
       ·rw [K];exact (d w t i).2 (xw up (pp L) i.symm (cR j) q)
       ·exact (p t i B (cR j) K).2 h9
  ·have R:=E9 (L c (by simp)) g;have F:∀w a,io (c::m) (w::a)=true->w=((c.toNat:Nat):Int)/\io m a=true:=λw a h=>by
    simp only [io,aA,gv,bg,bZ] at h;exact ⟨(h.1.resolve_left g).symm,h.2⟩
   by_cases k:((c.toNat:Nat):Int)=y
   ·cases E:nx up m l with
    | some r=>
     rw [E] at ih;obtain ⟨I,P,V,T,W⟩:=ih;simp only [nx,ab g,ae k,E,ew];refine ⟨by simp [I],λz s=>?_,by simp [io,k,V],(d y u.symm I).2 T,λe x j q o=>?_⟩
     ·rcases cq.1 s with rfl | s
      ·exact Q
      ·exact P z s
     ·obtain ⟨w,a,rfl,i⟩:=f e x;obtain ⟨rfl,v⟩:=F w a q;rw [k] at o ⊢;exact (d y I i).2 (W a i (cR j) v ((d y u.symm i).1 o))
    | none=>
     rw [E] at ih;simp only [nx,ab g,ae k,E,gM];intro e x j q o;obtain ⟨w,a,rfl,i⟩:=f e x;obtain ⟨rfl,v⟩:=F w a q;rw [k] at o;exact ih a i (cR j) v ((d y u.symm i).1 o)
   ·have H:decide (((c.toNat:Nat):Int)>y)=up↔eo up y ((c.toNat:Nat):Int):=by
     cases up
     ·simp only [rH,eo];omega
     ·simp only [bZ,eo];omega
    by_cases G:decide (((c.toNat:Nat):Int)>y)=up
    ·simp only [nx,ab g,ab k,ae G];refine ⟨by simp [t],λz s=>?_,by simp [io,uf],(p u.symm t A B (λh=>k h.symm)).2 (H.1 G),λe x j q o=>?_⟩
     ·rcases cq.1 s with rfl | s
      ·exact R
      ·exact B z s
     ·obtain ⟨w,a,rfl,i⟩:=f e x;obtain ⟨rfl,v⟩:=F w a q;exact (d _ t i).2 (xw up (pp L) i.symm (cR j) v)
    ·simp only [nx,ab g,ab k,ab G];intro e x j q o;obtain ⟨w,a,rfl,i⟩:=f e x;obtain ⟨rfl,v⟩:=F w a q;exact G (H.2 ((p u.symm i A (cR j) (λh=>k h.symm)).1 o))
 | [],_::_,_,h,_=>by simp at h
 | _::_,[],_,h,_=>by simp at h
def ap:aa->List Int->Nat
 | c::m,y::l=>if c=88\/((c.toNat:Nat):Int)=y then ap m l+1 else 0
 | _,_=>0
theorem P8:∀(m:aa) (l:List Int),ap m l<=m.length
 | [],_=>by simp [ap]
 | c::m,[]=>by simp [ap]
 | c::m,y::l=>by
  have:=P8 m l;simp only [ap,bf];split<;>omega
theorem HH:∀(m:aa) (l:List Int),io (m.take (ap m l)) (l.take (ap m l))=true
 | [],_=>by simp [ap,io]
 | c::m,[]=>by simp [ap,io]
 | c::m,y::l=>by
  have:=HH m l;simp only [ap];split
  ·rename_i h;simp only [mg,io,this,Gw,gv,bg,bZ];exact h
  ·rfl
theorem G7:∀{m:aa} {l:List Int} {c:UInt8} {y:Int},m[ap m l]?=some c->l[ap m l]?=some y->¬c=88/\¬((c.toNat:Nat):Int)=y
 | [],_,c,y,h,_=>by simp at h
 | x::m,[],c,y,_,h=>by simp at h
 | x::m,z::l,c,y,b,a=>by
  by_cases h:x=88\/((x.toNat:Nat):Int)=z
  ·simp only [ap,ae h,Dy] at b a;exact G7 b a
  ·simp only [ap,ab h,kD,aq] at b a;subst b a;exact ⟨λe=>h (.inl e),λe=>h (.inr e)⟩
def bkn (up:Bool):aa->List Int->aa->Option (List Int)
 | c::m,y::d,m'=>
  match bkn up m d m' with
  | some r=>some (y::r)
  | none=>if c=88/\y≠lst up then some (stp up y::fil up (m++m')) else none
 | _,_,_=>none
theorem zX (up:Bool):∀{m m':aa} {d d':List Int},m.length=d.length->io m d=true->
  nx up (m++m') (d++d')=match nx up m' d' with | some r=>some (d++r) | none=>bkn up m d m'
 | [],m',[],d',_,_=>by
  simp only [ek];cases nx up m' d'<;>rfl
 | c::m,m',y::d,d',f,b=>by
  simp only [bf,uE] at f;simp only [io,aA,gv,bg,bZ] at b;have ih:=zX up (m':=m') (d':=d') f b.2;simp only [dY,nx,ih,bkn];by_cases a:c=88
  ·simp only [ae a];cases nx up m' d' with
   | some r=>rfl
   | none=>
    cases bkn up m d m' with
    | some r=>rfl
    | none=>
     by_cases e:y=lst up
     ·simp [e]
     ·simp [e,a]
  ·simp only [ab a,ae (b.1.resolve_left a)];cases nx up m' d' with
   | some r=>rfl
   | none=>
    cases bkn up m d m' with
    | some r=>rfl
    | none=>simp [a]
 | [],_,_::_,_,h,_=>by simp at h
 | _::_,_,[],_,h,_=>by simp at h
theorem Ff (up:Bool) (c:UInt8) (y:Int):∀{m m':aa} {d:List Int},m.length=d.length->
  bkn up (m++[c]) (d++[y]) m'=if c=88/\y≠lst up then some (d++stp up y::fil up m') else bkn up m d (c::m')
 | [],m',[],_=>by simp [bkn]
 | x::m,m',z::d,a=>by
  simp only [bf,uE] at a;have ih:=Ff up c y (m':=m') a;simp only [dY,bkn,ih];by_cases h:c=88/\y≠lst up
  ·simp only [ae h]
  ·simp only [ab h,iN,dY,ek]
 | [],_,_::_,h=>by simp at h
 | _::_,_,[],h=>by simp at h
def bki (up:Bool) (m:aa) (l:List Int):Nat->Option Nat
 | 0=>none
 | j+1=>if m[j]?=some 88/\l[j]?≠some (lst up) then some j else bki up m l j
theorem Nz (up:Bool) (m:aa) (l:List Int):∀{j a:Nat},bki up m l j=some a->a<j
 | 0,a,h=>by simp [bki] at h
 | j+1,a,h=>by
  simp only [bki] at h;split at h
  ·simp only [aq] at h;omega
  ·have:=Nz up m l h;omega
theorem EY (up:Bool) (m:aa) (l:List Int) (hl:m.length=l.length):∀j,j<=m.length->
  bkn up (m.take j) (l.take j) (m.drop j)=(bki up m l j).map λa=>l.take a++stp up (l.getD a 0)::fil up (m.drop (a+1))
 | 0,_=>by simp [bkn,bki]
 | j+1,h=>by
  obtain ⟨c,hc⟩:∃c,m[j]?=some c:=⟨m[j]'(by omega),bj (by omega)⟩;obtain ⟨y,hy⟩:∃c,l[j]?=some c:=⟨l[j]'(by omega),bj (by omega)⟩;have ih:=EY up m l hl j (by omega);rw [bT hc] at ih;rw [qi,qi,hc,hy];simp only [Option.toList_some];rw [Ff up c y (by simp;omega),ih];have hg:l.getD j 0=y:=by rw [A7,hy];rfl
  simp only [bki,hc,hy,ne_eq,aq];by_cases hh:c=88/\¬y=lst up
  ·rw [ae hh,ae hh,ew,hg]
  ·rw [ab hh,ab hh]
section
variable {m:List UInt8} {l z:List Int}
theorem kC (hl:m.length=l.length) (h18:m.length<=18) (k f g:Int) (up:Bool):
  aw (eM 20000000) 20000000 (m,k,up,f,g,0,over z 0 l,over z 0 l)=some (m,k,up,f,g,((ap m l:Nat):Int),over z 0 l,over z 0 l):=by
 have:=eO (step:=eM 20000000) (λx=>x.1=m/\(0<=x.2.2.2.2.2.1/\x.2.2.2.2.2.1<=m.length)/\x.2.2.2.2.2.2.1=over z 0 l) (λx=>m.length - x.2.2.2.2.2.1.toNat)
  (λx=>(x.1,x.2.1,x.2.2.1,x.2.2.2.1,x.2.2.2.2.1,x.2.2.2.2.2.1+((ap (m.drop x.2.2.2.2.2.1.toNat) (l.drop x.2.2.2.2.2.1.toNat):Nat):Int),x.2.2.2.2.2.2.1,x.2.2.2.2.2.2.2)) ?_ 20000000 (m,k,up,f,g,0,over z 0 l,over z 0 l) ⟨rfl,⟨by simp,by simp⟩,rfl⟩ (by simp;omega)
 ·simpa using this
 rintro ⟨m',k,up,f,g,i,d,o⟩ ⟨q1,⟨h0,hi⟩,q2⟩;simp only at q1 h0 hi q2 ⊢;subst q1 q2;obtain ⟨j,rfl⟩:∃j:Nat,i=j:=⟨i.toNat,by omega⟩;simp only [bI];rcases aF j m'.length with hlt | hge
 ·obtain ⟨c,hc⟩:∃c,m'[j]?=some c:=⟨m'[j],bj hlt⟩;obtain ⟨y,hy⟩:∃c,l[j]?=some c:=⟨l[j]'(by omega),bj (by omega)⟩;have hg:(over z 0 l)[j]?=some y:=by rw [tJ (by omega)];exact hy
  have hb:(decide ((j:Int)<((List.length m':Nat):Int)))=true:=by simp;omega
  have hw:IntKind.wrap .i64 ((j:Int)+1)=((j+1:Nat):Int):=by rw [wrap_i64 _ (by omega) (by omega)];omega
  rw [bT hc,bT hy];simp only [eM,hb,aj,dF hc,ob,xC,hw,fg (show j<18 by omega),hg,ap];by_cases h88:c=88
  ·refine .inl ⟨(m',k,up,f,g,((j+1:Nat):Int),over z 0 l,o),by simp only [am h88,aj],⟨rfl,⟨by simp only;omega,by simp only;omega⟩,rfl⟩,by simp only [bI];omega,?_⟩;simp only [bI,ae (show c=88\/((c.toNat:Nat):Int)=y from .inl h88)];congr 6;omega
  ·simp only [ar h88,af];by_cases hcy:((c.toNat:Nat):Int)=y
   ·have e:(((c.toNat:Nat):Int)==y)=true:=by simpa using hcy
    refine .inl ⟨(m',k,up,f,g,((j+1:Nat):Int),over z 0 l,o),by simp only [e,aj],⟨rfl,⟨by simp only;omega,by simp only;omega⟩,rfl⟩,by simp only [bI];omega,?_⟩;simp only [bI,ae (show c=88\/((c.toNat:Nat):Int)=y from .inr hcy)];congr 6;omega
   ·have e:(((c.toNat:Nat):Int)==y)=false:=by simpa using hcy
    refine .inr ?_;simp only [e,af,ab (show ¬(c=88\/((c.toNat:Nat):Int)=y) from λh=>h.elim h88 hcy),Int.ofNat_zero,Int.add_zero,Int.natCast_zero]
 ·have hb:(decide ((j:Int)<((List.length m':Nat):Int)))=false:=by simp;omega
  refine .inr ?_;simp only [eM,hb,af];rw [iD hge];simp [ap]
theorem JV (hl:m.length=l.length) (h18:m.length<=18) (f:Int) (up:Bool) (o:List Int) (i:Nat) (hi:i<=m.length):
  aw (bX 20000000) 20000000 (m,up,f,lst up,(i:Int),over z 0 l,o) =
   some (match bki up m l i with | none=>.inl (0,16) | some a=>.inr (m,up,f,((a:Nat):Int),o)):=by
 have:=eO (step:=bX 20000000) (λx=>x.1=m/\x.2.2.2.1=lst up/\(0<=x.2.2.2.2.1/\x.2.2.2.2.1<=m.length)/\x.2.2.2.2.2.1=over z 0 l) (λx=>x.2.2.2.2.1.toNat)
  (λx=>match bki up m l x.2.2.2.2.1.toNat with | none=>.inl (0,16) | some a=>.inr (x.1,x.2.1,x.2.2.1,((a:Nat):Int),x.2.2.2.2.2.2)) ?_ 20000000 (m,up,f,lst up,(i:Int),over z 0 l,o) ⟨rfl,rfl,⟨by simp only;omega,by simp only;omega⟩,rfl⟩ (by simp;omega)
 ·simpa using this
 rintro ⟨m',up',f,g,i,d,o⟩ ⟨q1,q3,⟨h0,hi⟩,q2⟩;simp only at q1 q3 h0 hi q2 ⊢;subst q1 q2 q3;obtain ⟨j,rfl⟩:∃j:Nat,i=j:=⟨i.toNat,by omega⟩;simp only [bI];rcases j with _ | j
 ·refine .inr ?_;have w:IntKind.wrap .i64 (((0:Nat):Int) - 1)=-1:=wrap_i64 _ (by omega) (by omega);simp only [bX,w,show decide ((-1:Int)<0)=true from rfl,aj,bki]
 ·have w:IntKind.wrap .i64 (((j+1:Nat):Int) - 1)=(j:Int):=by rw [wrap_i64 _ (by omega) (by omega)];omega
  have e0:decide ((j:Int)<0)=false:=by simp
  obtain ⟨c,hc⟩:∃c,m'[j]?=some c:=⟨m'[j]'(by omega),bj (by omega)⟩;obtain ⟨y,hy⟩:∃c,l[j]?=some c:=⟨l[j]'(by omega),bj (by omega)⟩;have hg:(over z 0 l)[j]?=some y:=by rw [tJ (by omega)];exact hy
  simp only [bX,w,e0,af,dF hc,ob,xC,fg (show j<18 by omega),hg,bki,hc,hy,aq,ne_eq];by_cases h88:c=88
  ·by_cases hy9:y=lst up
   ·have e:(y != lst up)=false:=by simpa using hy9
    refine .inl ⟨(m',up',f,lst up,(j:Int),over z 0 l,o),by simp only [am h88,aj,e,af],⟨rfl,rfl,⟨by simp only;omega,by simp only;omega⟩,rfl⟩,by simp only [bI];omega,?_⟩;simp only [bI,ab (show ¬(c=88/\¬y=lst up) from λh=>h.2 hy9)]
   ·have e:(y != lst up)=true:=by simpa using hy9
    refine .inr ?_;simp only [am h88,aj,e,ae (show c=88/\¬y=lst up from ⟨h88,hy9⟩)]
  ·refine .inl ⟨(m',up',f,lst up,(j:Int),over z 0 l,o),by simp only [ar h88,af],⟨rfl,rfl,⟨by simp only;omega,by simp only;omega⟩,rfl⟩,by simp only [bI];omega,?_⟩;simp only [bI,ab (show ¬(c=88/\¬y=lst up) from λh=>h88 h.1)]
theorem zp (q:m.length<=18) (up:Bool) (d:List Int) (e:d.length=18) (i:Nat) (hi:i<=m.length):
  aw (bi 20000000) 20000000 (m,fst up,(i:Int),d)=some (m,over d i (fil up (m.drop i))):=by
 have:=eO (step:=bi 20000000) (λx=>x.1=m/\x.2.1=fst up/\(0<=x.2.2.1/\x.2.2.1<=m.length)/\x.2.2.2.length=18) (λx=>m.length - x.2.2.1.toNat)
  (λx=>(m,over x.2.2.2 x.2.2.1.toNat (fil up (m.drop x.2.2.1.toNat)))) ?_ 20000000 (m,fst up,(i:Int),d) ⟨rfl,rfl,⟨by simp only;omega,by simp only;omega⟩,e⟩ (by simp;omega)
 ·simpa using this
 rintro ⟨m',f,i,d⟩ ⟨o,l,⟨p,hi⟩,e⟩;simp only at o l p hi e ⊢;subst o l;obtain ⟨j,rfl⟩:∃j:Nat,i=j:=⟨i.toNat,by omega⟩;simp only [bI];rcases aF j m'.length with g | h
 ·obtain ⟨c,hc⟩:∃c,m'[j]?=some c:=⟨m'[j],bj g⟩;have n:j<18:=by omega
  have k:(decide ((j:Int)<((List.length m':Nat):Int)))=true:=by simp;omega
  have s:IntKind.wrap .i64 ((j:Int)+1)=((j+1:Nat):Int):=by rw [wrap_i64 _ (by omega) (by omega)];omega
  have r:Nat.blt j 18=true:=dn n;have b:∀c:UInt8,fil up (c::m'.drop (j+1))=(cond (decide (c=88)) (fst up) ((c.toNat:Nat):Int))::fil up (m'.drop (j+1)):=λ_=>rfl;rw [bT hc,b];simp only [bi,k,aj,dF hc,ob,xC,fg n,r,s];by_cases a:c=88
  ·refine .inl ⟨(m',fst up,((j+1:Nat):Int),(d.set j ((c.toNat:Nat):Int)).set j (fst up)),by simp only [am a,aj],⟨rfl,rfl,⟨by simp only;omega,by simp only;omega⟩,by simpa using e⟩,by simp only [bI];omega,?_⟩;simp only [bI,am a,aj];rw [List.set_set,xy _ _ _ _ (by omega)]
  ·refine .inl ⟨(m',fst up,((j+1:Nat):Int),d.set j ((c.toNat:Nat):Int)),by simp only [ar a,af],⟨rfl,rfl,⟨by simp only;omega,by simp only;omega⟩,by simpa using e⟩,by simp only [bI];omega,?_⟩;simp only [bI,ar a,af];rw [xy _ _ _ _ (by omega)]
 ·have k:(decide ((j:Int)<((List.length m':Nat):Int)))=false:=by simp;omega
  refine .inr ?_;simp only [bi,k,af];rw [iD h];simp [fil,Ek]
theorem An (z l F:List Int) (i:Nat) (h:i+F.length=l.length):over (over z 0 l) i F=over z 0 (l.take i++F):=by
 unfold over;simp only [l8,ek,cL,bV,cN,qo (show i<=l.length by omega),h];rw [rZ (by omega),List.drop_append_of_le_length (by omega),List.drop_of_length_le (aU l.length)];simp
end
theorem Ih {m:aa} (hm:chk m=0) (up:Bool) (k:Int) (h0:0<=k) (h1:k<10 ^ m.length):
  cQ 20000000 m k up=some (match nx up m (dg m.length k) with | some r=>(vl r,0) | none=>(0,16)):=by
 obtain ⟨h18,_,hok⟩:=lL hm;have hp:=zy m.length h18;have hlen:=vJ m.length k;have hrng:=rD m.length k;have hv:=LK m.length k h0 h1;have hn:=OB up hok hlen.symm hrng;have hsplit:=J7 m k h18 h0 (by omega);generalize dg m.length k=l at hlen hrng hv hn hsplit ⊢;have hout:(over [0,0,0,0,0,0,0,0,0,0,0,0,0,0,0,0,0,0] 0 l).length=18:=by rw [Kw _ _ _ (by simp;omega)];rfl
 have fin:∀r:List Int,nx up m l=some r->ft 20000000 m (over [0,0,0,0,0,0,0,0,0,0,0,0,0,0,0,0,0,0] 0 r)=some (vl r):=by
  intro r hr;rw [hr] at hn;obtain ⟨i1,i2,_⟩:=hn;rw [K4 _ h18 i1 i2,xp i2]
 have hap:=P8 m l;have hagr:=HH m l;have happ:=zX up (m:=m.take (ap m l)) (m':=m.drop (ap m l)) (d:=l.take (ap m l)) (d':=l.drop (ap m l)) (by simp;omega) hagr;rw [oi,oi] at happ;have hz0:jR 20000000 m k=some (over [0,0,0,0,0,0,0,0,0,0,0,0,0,0,0,0,0,0] 0 l):=hsplit;generalize hzz:([0,0,0,0,0,0,0,0,0,0,0,0,0,0,0,0,0,0]:List Int)=z at hout fin hz0;rcases aF (ap m l) m.length with hlt | hge
 ·obtain ⟨c,hc⟩:∃c,m[ap m l]?=some c:=⟨m[ap m l],bj hlt⟩;obtain ⟨y,hy⟩:∃c,l[ap m l]?=some c:=⟨l[ap m l]'(by omega),bj (by omega)⟩;obtain ⟨h88,hcy⟩:=G7 hc hy;have hg:(over z 0 l)[ap m l]?=some y:=by rw [tJ (by omega)];exact hy
  have eL:(((ap m l:Nat):Int)==((List.length m:Nat):Int))=false:=by simp;omega
  have hj:ap m l<18:=by omega
  have hfc:fil up (m.drop (ap m l))=((c.toNat:Nat):Int)::fil up (m.drop (ap m l+1)):=by
   rw [bT hc];simp [fil,h88]
  have hbk:=EY up m l hlen.symm (ap m l) hap;have hnx:nx up (m.drop (ap m l)) (l.drop (ap m l))=if decide (((c.toNat:Nat):Int)>y)=up then some (fil up (m.drop (ap m l))) else none:=by
   rw [hfc,bT hc,bT hy];simp only [nx,ab h88,ab hcy]
  rw [hnx] at happ;by_cases hup:decide (((c.toNat:Nat):Int)>y)=up
  ·rw [ae hup] at happ;simp only at happ;have f2:=fin _ happ;rw [happ];simp only [];rw [<-An z l _ _ (by rw [yL,cZ];omega)] at f2;have l2:=zp h18 up _ hout (ap m l) hap;cases up
   ·have l0:=kC (z:=z) hlen.symm h18 k 57 48 false;have l2':aw (bi 20000000) 20000000 (m,57,((ap m l:Nat):Int),over z 0 l)=_:=l2;simp only [cQ,ie,aj,hz0,ob,l0,eL,af,dF hc,fg hj,hg,hup,si,cV,l2',f2]
   ·have l0:=kC (z:=z) hlen.symm h18 k 48 57 true;have l2':aw (bi 20000000) 20000000 (m,48,((ap m l:Nat):Int),over z 0 l)=_:=l2;simp only [cQ,cV,aj,hz0,ob,l0,eL,af,dF hc,fg hj,hg,hup,si,l2',f2]
  ·rw [ab hup] at happ;simp only [hbk] at happ;have hne:(!(decide (((c.toNat:Nat):Int)>y)==up))=true:=by
    cases up<;>cases hh:decide (((c.toNat:Nat):Int)>y)<;>simp_all
   have l1:=JV (z:=z) hlen.symm h18 (fst up) up (over z 0 l) (ap m l) hap;cases hb:bki up m l (ap m l) with
   | none=>
    rw [hb] at happ l1;simp only [gM] at happ;rw [happ];simp only [] at l1 ⊢;cases up
    ·have l0:=kC (z:=z) hlen.symm h18 k 57 48 false;have l1':aw (bX 20000000) 20000000 (m,false,57,48,((ap m l:Nat):Int),over z 0 l,over z 0 l)=_:=l1;simp only [cQ,ie,aj,hz0,ob,l0,eL,af,dF hc,fg hj,hg,hne,l1']
    ·have l0:=kC (z:=z) hlen.symm h18 k 48 57 true;have l1':aw (bX 20000000) 20000000 (m,true,48,57,((ap m l:Nat):Int),over z 0 l,over z 0 l)=_:=l1;simp only [cQ,cV,aj,hz0,ob,l0,eL,af,dF hc,fg hj,hg,hne,l1']
   | some a=>
    have ha:=Nz up m l hb;obtain ⟨w,hw⟩:∃c,l[a]?=some c:=⟨l[a]'(by omega),bj (by omega)⟩;have hga:(over z 0 l)[a]?=some w:=by rw [tJ (by omega)];exact hw
    have hgd:l.getD a 0=w:=by rw [A7,hw];rfl
    have hwr:=hrng w (fD hw);have haj:a<18:=by omega
    have e2:Nat.blt a 18=true:=dn haj;have w1:IntKind.wrap .i64 ((a:Int)+1)=((a+1:Nat):Int):=by rw [wrap_i64 _ (by omega) (by omega)];omega
    rw [hb] at happ l1;simp only [ew,hgd] at happ;have f2:=fin _ happ;rw [happ];simp only [] at l1 ⊢;rw [<-An z l _ _ (by rw [bf,yL,cZ];omega),<-xy _ _ _ _ (by omega)] at f2;have l2:=zp h18 up ((over z 0 l).set a (stp up w)) (by simpa using hout) (a+1) (by omega);cases up
    ·have l0:=kC (z:=z) hlen.symm h18 k 57 48 false;have l1':aw (bX 20000000) 20000000 (m,false,57,48,((ap m l:Nat):Int),over z 0 l,over z 0 l)=some (.inr (m,false,57,((a:Nat):Int),over z 0 l)):=l1;have l2':aw (bi 20000000) 20000000 (m,57,((a+1:Nat):Int),(over z 0 l).set a (w - 1))=_:=l2;have w2:IntKind.wrap .u8 (w - 1)=w - 1:=ig _ (by omega) (by omega);simp only [cQ,ie,aj,hz0,ob,l0,eL,af,dF hc,fg hj,hg,hne,l1',fg haj,hga,e2,w1,w2,l2',f2]
    ·have l0:=kC (z:=z) hlen.symm h18 k 48 57 true;have l1':aw (bX 20000000) 20000000 (m,true,48,57,((ap m l:Nat):Int),over z 0 l,over z 0 l)=some (.inr (m,true,48,((a:Nat):Int),over z 0 l)):=l1;have l2':aw (bi 20000000) 20000000 (m,48,((a+1:Nat):Int),(over z 0 l).set a (w+1))=_:=l2;have w2:IntKind.wrap .u8 (w+1)=w+1:=ig _ (by omega) (by omega);simp only [cQ,cV,aj,hz0,ob,l0,eL,af,dF hc,fg hj,hg,hne,l1',fg haj,hga,e2,w1,w2,l2',f2]
 ·have e:ap m l=m.length:=by omega
  rw [e,uC,<-hlen,uC,kN] at happ;simp only [nx,mj] at happ;have eL:(((ap m l:Nat):Int)==((List.length m:Nat):Int))=true:=by rw [e];simp
  rw [happ];simp only [hv];cases up
  ·have l0:=kC (z:=z) hlen.symm h18 k 57 48 false;simp only [cQ,ie,aj,hz0,ob,l0,eL]
  ·have l0:=kC (z:=z) hlen.symm h18 k 48 57 true;simp only [cQ,cV,af,hz0,ob,l0,eL,aj]
def near (up:Bool) (m:aa) (k:Int):Option Int->Prop
 | some R=>hasM m R=true/\eo up k R/\∀e,hasM m e=true->eo up k e->eo up R e
 | none=>∀e,hasM m e=true->¬eo up k e
def res (o:Option Int):Int×Int:=match o with | some r=>(r,0) | none=>(0,16)
theorem lZ {m:aa} {e:Int} (h:hasM m e=true):(dg m.length e).length=m.length/\digl (dg m.length e)/\io m (dg m.length e)=true/\vl (dg m.length e)=e/\0<=e/\e<10 ^ m.length:=by
 unfold hasM at h;simp only [aA,bZ] at h;exact ⟨vJ _ _,rD _ _,h.2.2,LK _ _ h.1 h.2.1,h.1,h.2.1⟩
theorem Ol {m:aa} {r:List Int} (e:r.length=m.length) (c:digl r) (d:io m r=true):hasM m (vl r)=true:=by
 have a:=tC c;have b:=TA c;rw [e] at a b;unfold hasM;rw [b,d,am a.1,am a.2];rfl
theorem uH {m:aa} (p:chk m=0) (up:Bool) (k:Int) (q:0<=k) (l:k<10 ^ m.length):∃o,cQ 20000000 m k up=some (res o)/\near up m k o:=by
 obtain ⟨t,_,g⟩:=lL p;have b:=OB up g (vJ m.length k).symm (rD m.length k);have f:=LK m.length k q l;refine ⟨(nx up m (dg m.length k)).map vl,?_,?_⟩
 ·rw [Ih p up k q l];cases nx up m (dg m.length k)<;>rfl
 ·cases s:nx up m (dg m.length k) with
  | none=>
   rw [s] at b;intro e c j;obtain ⟨h,d,i,a,_⟩:=lZ c;exact b _ h d i (by rw [f,a];exact j)
  | some r=>
   rw [s] at b;obtain ⟨x,u,v,n,w⟩:=b;refine ⟨Ol x u v,by rw [f] at n;exact n,λe c j=>?_⟩;obtain ⟨h,d,i,a,_⟩:=lZ c;have:=w _ h d i (by rw [f,a];exact j);rwa [a] at this
theorem EQ {m:aa} {e:Int} (h:hasM m e=true):0<=idx m.reverse e/\idx m.reverse e<10 ^ cnt m/\nth m.reverse (idx m.reverse e)=e:=by
 rw [Cb] at h;simp only [aA,bZ] at h;obtain ⟨k0,k1,k2⟩:=h;have:=ve m.reverse e k0;rw [qj] at this;exact ⟨this.1,this.2,GN k0 (by rw [rX];exact k1) k2⟩
section
variable {m:List UInt8} (hm:chk m=0)
include hm
theorem Ha {i j:Int} (b:0<=i) (e:i<=j) (d:j<10 ^ cnt m):nth m.reverse i<=nth m.reverse j:=by
 obtain ⟨c,_,a⟩:=lL hm;rcases Int.lt_or_eq_of_le e with h | rfl
 ·exact Int.le_of_lt (xG (wL a) i j b h (by rw [qj];exact d))
 ·exact ui _
theorem A3 (k:Int):kz 20000000 m k=some (decide (0<=k/\k<10 ^ m.length)):=by
 obtain ⟨b,_,c⟩:=lL hm;simp only [kz,MZ m.length b,ob];by_cases a:0<=k
 ·have d0:decide (k>=0)=true:=by simpa using a
  simp only [d0,aj,a,ke,me]
 ·have d0:decide (k>=0)=false:=by simpa using a
  simp only [d0,af,a,vw,ly]
theorem Is (k:Int):∃o,pt 20000000 m k=some (res o)/\near true m k o:=by
 obtain ⟨g,_,c⟩:=lL hm;have p:((0:Int) != 0)=false:=by simp
 simp only [pt,kj 20000000 m (by omega),hm,kQ,p,af,A3 hm];by_cases a:k<0
 ·refine ⟨some (nth m.reverse 0),by simp only [am a,aj,MG hm,kQ,res],Dj hm (by omega),?_,λe b f=>?_⟩
  ·have:=(n9 (wL c) 0 (by omega)).1;simp only [eo];omega
  ·obtain ⟨n,q,r⟩:=EQ b;have:=Ha hm (ui 0) n q;simp only [eo];omega
 ·by_cases d:k<10 ^ m.length
  ·obtain ⟨o,j,l⟩:=uH hm true k (by omega) d;exact ⟨o,by simp only [ar a,af,am (show 0<=k/\k<10 ^ m.length from ⟨by omega,d⟩),cV,j,kQ],l⟩
  ·refine ⟨none,by simp only [ar a,af,ar (show ¬(0<=k/\k<10 ^ m.length) from λh=>d h.2),ie,aj,res],λe b f=>?_⟩;obtain ⟨_,_,_,_,_,i⟩:=lZ b;simp only [eo] at f;omega
theorem IM (k:Int):∃o,pj 20000000 m k=some (res o)/\near false m k o:=by
 obtain ⟨j,_,c⟩:=lL hm;have q:((0:Int) != 0)=false:=by simp
 simp only [pj,kj 20000000 m (by omega),hm,kQ,q,af,A3 hm];by_cases a:k<0
 ·refine ⟨none,by simp only [am a,aj,res],λe b f=>?_⟩;obtain ⟨_,_,_,_,i,_⟩:=lZ b;simp only [eo] at f;omega
 ·by_cases d:k<10 ^ m.length
  ·obtain ⟨o,l,n⟩:=uH hm false k (by omega) d;exact ⟨o,by simp only [ar a,af,am (show 0<=k/\k<10 ^ m.length from ⟨by omega,d⟩),cV,l,kQ],n⟩
  ·have g:=rE (cnt m);refine ⟨some (nth m.reverse (10 ^ cnt m - 1)),by simp only [ar a,af,ar (show ¬(0<=k/\k<10 ^ m.length) from λh=>d h.2),ie,aj,Bo hm,kQ,res],Dj hm (by omega),?_,λe b f=>?_⟩
   ·have:=(n9 (wL c) (10 ^ cnt m - 1) (by omega)).2;rw [rX] at this;simp only [eo];omega
   ·obtain ⟨p,s,r⟩:=EQ b;have:=Ha hm p (show idx m.reverse e<=10 ^ cnt m - 1 by omega) (by omega);simp only [eo];omega
end
end Go.Sh.Mk
namespace Go.Sh
open Go.Abs
def fitN (s:aa) (g:Nat):List Nat:=(List.range' 1 g).filter (agr s)
def rr (l:List Nat):List Int:=l.map λk:Nat=>(k:Int)
theorem AM (l:List Nat):(rr l).length=l.length:=by simp [rr]
theorem zo (c:UInt8) {j:Nat} (d:j<10):(IntKind.wrap .i64 (IntKind.wrap .u8 (((c.toNat:Nat):Int) - 48))==((j:Nat):Int))=(c==UInt8.ofNat (48+j)):=by
 have hc:=c.toNat_lt;have a:=xU (((c.toNat:Nat):Int) - 48);rw [wrap_i64 _ (by omega) (by omega),Fp,qI,bg,bg];have b:(UInt8.ofNat (48+j)).toNat=48+j:=by simp;omega
 constructor
 ·intro h;apply fF.1;omega
 ·rintro rfl;omega
theorem J1 (n:Nat) (a b:UInt8) {k:Nat} (l:k<=31):jD n [a,b] (k:Int)=some (agr [a,b] k):=by
 have e:IntKind.wrap .i64 (Int.tdiv (k:Int) 10)=((k / 10:Nat):Int):=by
  rw [show Int.tdiv (k:Int) 10=((k / 10:Nat):Int) from rfl,wrap_i64 _ (by omega) (by omega)]
 have g:Int.tmod (k:Int) 10=((k%10:Nat):Int):=rfl;have s0:sx [a,b] 0=some a:=rfl;have d:sx [a,b] 1=some b:=rfl;have c:(88:Int)=((88:Nat):Int):=rfl;unfold jD;simp only [s0,d,ob,e,g];rw [zo a (show k / 10<10 by omega),zo b (show k%10<10 by omega),c,sM (by omega),sM (by omega)];show _=some ((a==UInt8.ofNat 88||a==UInt8.ofNat (48+k / 10))&&(b==UInt8.ofNat 88||b==UInt8.ofNat (48+k%10)));generalize (a==UInt8.ofNat 88)=f;generalize (b==UInt8.ofNat 88)=j;generalize (a==UInt8.ofNat (48+k / 10))=h;generalize (b==UInt8.ofNat (48+k%10))=i;cases f<;>cases j<;>cases h<;>cases i<;>rfl
theorem room {k:Nat} (h:k<=60000000):Nat.ble (k+1) gU=true:=dn (by unfold gU;omega)
theorem DC {X Y:Type} {step:X->Option (X⊕Y)} {f:Nat->List Int->X} {y:List Int->Y} {p:Nat->Bool} {g:Nat} (j:g<=1000)
  (h:∀i out,i<g->out.length<=1000->step (f i out)=some (.inl (f (i+1) (if p (i+1) then out++[((i+1:Nat):Int)] else out))))
  (c:∀out,step (f g out)=some (.inr (y out))) {N:Nat} (b:g<N):aw step N (f 0 [])=some (y (rr ((List.range' 1 g).filter p))):=by
 have d:∀(r i:Nat) (out:List Int),i+r=g->out.length<=i->∀N,r<N->aw step N (f i out)=some (y (out++rr ((List.range' (i+1) r).filter p))):=by
  intro r
  induction r with
  | zero=>
   intro i out hi e N b;obtain ⟨N,rfl⟩:∃q,N=q+1:=⟨N - 1,by omega⟩;obtain rfl:i=g:=by omega
   rw [aw,c];simp [rr]
  | succ r ih=>
   intro i out hi e N b;obtain ⟨N,rfl⟩:∃q,N=q+1:=⟨N - 1,by omega⟩;rw [aw,h i out (by omega) (by omega)];show aw step N _=_;by_cases a:p (i+1)=true
   ·rw [ae a,ih (i+1) _ (by omega) (by simp;omega) N (by omega),vb,M6 a];simp [rr]
   ·rw [ab a,ih (i+1) _ (by omega) (by omega) N (by omega),vb,NE a]
 have:=d g 0 [] (by omega) (by simp) N b;simpa using this
theorem I5 (n:Nat) (j:100<n) (a b:UInt8) {g:Nat} (h:g<=31):eC n [a,b] (g:Int)=some (rr (fitN [a,b] g)):=by
 unfold eC
 have:=DC (step:=eX n) (f:=λi out=>([a,b],(g:Int),(i:Int),out)) (y:=λl=>l) (p:=agr [a,b]) (g:=g) (by omega)
  (λi out hi k=>by
   have e:IntKind.wrap .i64 ((i:Int)+1)=((i+1:Nat):Int):=by rw [wrap_i64 _ (by omega) (by omega)];omega
   unfold eX;simp only [e];rw [am (show (i:Int)<(g:Int) by omega),J1 n a b (by omega),room (by omega)];by_cases c:agr [a,b] (i+1)=true
   ·rw [ae c];simp only [ob,c,aj]
   ·rw [ab c];rw [C6] at c;simp only [ob,c,aj,af])
  (λout=>by
   unfold eX;simp only [ar (show ¬(g:Int)<(g:Int) by omega),af])
  (N:=n) (by omega)
 have d:aw (eX n) n ([a,b],(g:Int),0,([]:List Int))=_:=this;rw [d];rfl
def monI (m:aa):List Int:=if m=[] then [0] else if 0<sea m then [sea m] else rr (fitN m 12)
def dayI (d:aa):List Int:=if d=[] then [0] else rr (fitN d 31)
theorem gC {l:aa} (h:l≠[]):(l==([]:aa))=false:=aM.2 h
theorem len2 {s:aa} (h:s.length=2):∃a b,s=[a,b]:=by
 match s,h with
 | [a,b],_=>exact ⟨a,b,rfl⟩
theorem S1 (n:Nat) (k:100<n) (g l:Bool) (dg:aa) (x q:Int) (m d:aa) (k0 k1 k2:Int) (o:m=[]\/m.length=2) (p:d=[]\/d.length=2):
  mX n g l dg x q m d k0 k1 k2=some (g,l,dg,x,q,m,d,k0,k1,k2,monI m,dayI d):=by
 have i:m.length<=18:=by rcases o with h | h;(rw [h];simp);omega
 have j:d≠[]->eC n d 31=some (dayI d):=λh=>by
  obtain ⟨a,b,rfl⟩:=len2 (p.resolve_left h);rw [show (31:Int)=((31:Nat):Int) from rfl,I5 n k a b (by omega)];unfold dayI;rw [ab h]
 have e:d=[]->dayI d=[0]:=λh=>by unfold dayI;rw [ae h]
 have r:m≠[]->¬0<sea m->eC n m 12=some (monI m):=λh f=>by
  obtain ⟨a,b,rfl⟩:=len2 (o.resolve_left h);rw [show (12:Int)=((12:Nat):Int) from rfl,I5 n k a b (by omega)];unfold monI;rw [ab h,ab f]
 unfold mX;rw [oK n g l dg x q m d k0 k1 k2 i];simp only [ob];by_cases f:0<sea m
 ·have c:m≠[]:=by rintro rfl;exact absurd f (by decide)
  have hm':monI m=[sea m]:=by unfold monI;rw [ab c,ae f]
  rw [am f];by_cases h:d=[]
  ·rw [h,<-h,e h,hm',h];rfl
  ·rw [gC h,j h,hm'];rfl
 ·rw [ar f];by_cases c:m=[]
  ·have hm':monI m=[0]:=by unfold monI;rw [ae c]
   by_cases h:d=[]
   ·rw [e h,hm',h,c];rfl
   ·rw [gC h,j h,hm',c];rfl
  ·rw [gC c,r c f];by_cases h:d=[]
   ·rw [e h,h];rfl
   ·rw [gC h,j h];rfl
theorem Fo (n:Nat) (h:100<n) (g l:Bool) (dg:aa) (x q:Int) (m d:aa) (k0 k1 k2:Int):iy n g l dg x q m d k0 k1 k2=some (monI m):=by
 unfold iy;by_cases a:m=[]
 ·unfold monI;rw [ae a,a];rfl
 ·rw [gC a,mU n h];simp only [ob,af];unfold monI;rw [ab a];by_cases c:0<sea m
  ·rw [ae c,am (show sea m>0 from c)];rfl
  ·rw [ab c,ar (show ¬sea m>0 from c)]
   have:=DC (step:=dm n) (f:=λi out=>(((i+1:Nat):Int),g,l,dg,x,q,m,d,k0,k1,k2,out)) (y:=λl=>l) (p:=agr m) (g:=12) (by omega)
    (λi out hi k=>by
     have e:IntKind.wrap .i64 (((i+1:Nat):Int)+1)=((i+1+1:Nat):Int):=by rw [wrap_i64 _ (by omega) (by omega)];omega
     unfold dm;simp only [d4,d8,e];rw [am (show ((i+1:Nat):Int)<=12 by omega),sy n m (i+1) (by omega),room (by omega)];by_cases b:agr m (i+1)=true
     ·rw [ae b,ae b];rfl
     ·rw [ab b,ab b];rfl)
    (λout=>by
     unfold dm;simp only [d4,d8,ar (show ¬((12+1:Nat):Int)<=12 by omega),af])
    (N:=n) (by omega)
   have j:aw (dm n) n (1,g,l,dg,x,q,m,d,k0,k1,k2,([]:List Int))=_:=this;rw [j];rfl
def rK (y:Int):Bool:=decide (y%4=0)&&(decide (y%100≠0)||decide (y%400=0))
def lenI (y m:Int):Int:=if m=4\/m=6\/m=9\/m=11 then 30 else if m=2 then (if rK y then 29 else 28) else 31
theorem IC (y:Int) {b:Int} (c:0<b):(Int.tmod y b==0)=decide (y%b=0):=by
 rw [qI,bg,decide_eq_true_iff];have h:=GV (a:=y) (b:=b);have g:=IX y (show b≠0 by omega);have f:=HW y c;by_cases hc:0<=y\/b∣y
 ·rw [ae hc] at h;omega
 ·rw [ab hc] at h;have d:¬b∣y:=λe=>hc (.inr e);have:y%b≠0:=λe=>d (IJ e);omega
theorem H4 (n:Nat) (y m:Int):ks n y m=some (lenI y m):=by
 have b:(Int.tmod y 100 != 0)=decide (y%100≠0):=by
  rw [bne,IC y (by omega)];by_cases h:y%100=0<;>simp [h]
 unfold ks;rw [IC y (by omega),IC y (by omega),b];have body:(cond (m==2) (cond (decide (y%4=0)) (cond (decide (y%100≠0)) (some (29:Int)) (cond (decide (y%400=0)) (some 29) (some 28))) (some 28)) (some 31))=some (if m=2 then (if rK y=true then 29 else 28) else 31):=by
  rw [gP];by_cases c:m=2
  ·rw [ae c,ae c];unfold rK;cases decide (y%4=0)<;>cases decide (y%100≠0)<;>cases decide (y%400=0)<;>rfl
  ·rw [ab c,ab c]
 rw [body];unfold lenI;by_cases d:m=4
 ·subst d;rfl
 ·by_cases e:m=6
  ·subst e;rfl
  ·by_cases f:m=9
   ·subst f;rfl
   ·by_cases a:m=11
    ·subst a;rfl
    ·rw [aM.2 d,aM.2 e,aM.2 f,aM.2 a,ab (show ¬(m=4\/m=6\/m=9\/m=11) by omega)];rfl
theorem uo (n:Nat) {y:Int} (h:-20000000000000000<=y/\y<=20000000000000000):eI n y=some (1+(y - 1) / 4 - (y - 1) / 100+(y - 1) / 400):=by
 unfold eI;rw [wrap_i64 (y - 1) (by omega) (by omega),uh n (by omega) (by omega) (by omega) (by omega),uh n (by omega) (by omega) (by omega) (by omega),uh n (by omega) (by omega) (by omega) (by omega)];show some _=some _;have f:-5000000000000001<=(y - 1) / 4/\(y - 1) / 4<=5000000000000001:=by omega
 have e:-5000000000000001<=(y - 1) / 100/\(y - 1) / 100<=5000000000000001:=by omega
 have d:-5000000000000001<=(y - 1) / 400/\(y - 1) / 400<=5000000000000001:=by omega
 generalize (y - 1) / 4=a at *;generalize (y - 1) / 100=b at *;generalize (y - 1) / 400=c at *;simp only [];rw [wrap_i64 (1*a) (by omega) (by omega),wrap_i64 (-1*b) (by omega) (by omega),wrap_i64 (1*c) (by omega) (by omega),wrap_i64 (1+1*a) (by omega) (by omega),wrap_i64 (1+1*a+-1*b) (by omega) (by omega),wrap_i64 _ (by omega) (by omega)];congr 1;omega
theorem KQ (y:Int):(1+y / 4 - y / 100+y / 400>1+(y - 1) / 4 - (y - 1) / 100+(y - 1) / 400)↔rK y=true:=by
 unfold rK;simp only [aA,gv,bZ];omega
theorem O0 (n:Nat) {y:Int} (h:dE y):jd n y=some (rK y,0):=by
 unfold jd;have h':=h;unfold dE at h';rw [fk,ae h,wrap_i64 (y+1) (by omega) (by omega),uo n (by omega),uo n (by omega),show y+1 - 1=y by omega];have b:=KQ y;show some (decide (1+y / 4 - y / 100+y / 400>1+(y - 1) / 4 - (y - 1) / 100+(y - 1) / 400),(0:Int))=_;by_cases a:rK y=true
 ·rw [a,am (b.2 a)]
 ·rw [C6] at a;rw [a,ar (λe=>by rw [b.1 e] at a;cases a)]
theorem tN (n:Nat) {y:Int} (h:dE y) {m:Nat} (d:1<=m) (c:m<=12):dH n y (m:Int)=some (lenI y (m:Int)):=by
 unfold dH;rw [O0 n h];show cond (rK y&&((m:Int)==2)) _ _=_;have a:IntKind.wrap .i64 ((m:Int) - 1)=((m - 1:Nat):Int):=by rw [wrap_i64 _ (by omega) (by omega)];omega
 rw [a,fg (show m - 1<12 by omega)];have b:m=1\/m=2\/m=3\/m=4\/m=5\/m=6\/m=7\/m=8\/m=9\/m=10\/m=11\/m=12:=by omega
 rcases b with rfl | rfl | rfl | rfl | rfl | rfl | rfl | rfl | rfl | rfl | rfl | rfl<;>unfold lenI<;>cases rK y<;>rfl
theorem IE (n:Nat) {y:Int} (h:dE y) {m:Nat} (b:1<=m) (a:m<=12):mL n y (m:Int)=some (lenI y (m:Int),0):=by
 unfold mL;rw [DG n h b a,tN n h b a];rfl
theorem ln (y m:Int):28<=lenI y m/\lenI y m<=31:=by
 unfold lenI;split
 ·omega
 ·split
  ·split<;>omega
  ·omega
def sV (d:aa) (y m:Int):Int:=if d=[] then 0 else lenI y m
def sL (d:aa) (y a:Int):List (Int×Int×Int):=((dayI d).filter λk=>decide (k<=sV d y a)).map λk=>(y,a,k)
def sQ (m d:aa) (y:Int):List (Int×Int×Int):=(monI m).flatMap (sL d y)
theorem Hj {X Y A:Type} {step:X->Option (X⊕Y)} {f:Nat->List A->X} {y:List A->Y} {p:Nat->Bool} {e:Nat->A} {g:Nat} (a:List A)
  (h:∀i out,i<g->out.length<=a.length+i->step (f i out)=some (.inl (f (i+1) (if p (i+1) then out++[e (i+1)] else out))))
  (d:∀out,step (f g out)=some (.inr (y out))) {N:Nat} (c:g<N):aw step N (f 0 a)=some (y (a++((List.range' 1 g).filter p).map e)):=by
 have j:∀(r i:Nat) (out:List A),i+r=g->out.length<=a.length+i->∀N,r<N->aw step N (f i out)=some (y (out++((List.range' (i+1) r).filter p).map e)):=by
  intro r
  induction r with
  | zero=>
   intro i out hi k N c;obtain ⟨N,rfl⟩:∃q,N=q+1:=⟨N - 1,by omega⟩;obtain rfl:i=g:=by omega
   rw [aw,d];simp
  | succ r ih=>
   intro i out hi k N c;obtain ⟨N,rfl⟩:∃q,N=q+1:=⟨N - 1,by omega⟩;rw [aw,h i out (by omega) (by omega)];show aw step N _=_;by_cases b:p (i+1)=true
   ·rw [ae b,ih (i+1) _ (by omega) (by simp;omega) N (by omega),vb,M6 b];simp
   ·rw [ab b,ih (i+1) _ (by omega) (by omega) N (by omega),vb,NE b]
 exact j g 0 a (by omega) (by omega) N c
theorem IY {X Y A B:Type} {step:X->Option (X⊕Y)} {f:Nat->List A->X} {y:List A->Y} {F:B->List A} {L:List B} {c:Nat} (hc:∀b∈L,(F b).length<=c)
  (h:∀i b out,L[i]?=some b->out.length<=c*i->step (f i out)=some (.inl (f (i+1) (out++F b))))
  (e:∀out,step (f L.length out)=some (.inr (y out))) {N:Nat} (a:L.length<N):aw step N (f 0 [])=some (y (L.flatMap F)):=by
 have g:∀(r i:Nat) (out:List A),i+r=L.length->out.length<=c*i->∀N,r<N->aw step N (f i out)=some (y (out++(L.drop i).flatMap F)):=by
  intro r
  induction r with
  | zero=>
   intro i out hi d N a;obtain ⟨N,rfl⟩:∃q,N=q+1:=⟨N - 1,by omega⟩;obtain rfl:i=L.length:=by omega
   rw [aw,e];simp
  | succ r ih=>
   intro i out hi d N a;obtain ⟨N,rfl⟩:∃q,N=q+1:=⟨N - 1,by omega⟩;have j:L[i]?=some L[i]:=bj (by omega);rw [aw,h i L[i] out j d];show aw step N _=_;have k:=hc L[i] (List.getElem_mem _);rw [ih (i+1) _ (by omega) (by rw [bV,Nat.mul_add];omega) N (by omega),qb (show i<L.length by omega),oc,iN]
 have:=g L.length 0 [] (by omega) (by simp) N a;simpa using this
theorem P2 (d:aa) (L:Nat) (h:L<=31):(rr (fitN d 31)).filter (λk=>decide (k<=(L:Int)))=rr ((List.range' 1 L).filter (agr d)):=by
 have e:List.range' 1 31=List.range' 1 L++List.range' (1+L) (31 - L):=by
  have:=List.range'_append_1 (s:=1) (m:=L) (n:=31 - L);rw [this,show L+(31 - L)=31 by omega]
 unfold fitN rr;rw [e,Hf,Cc,Hf];have f:(List.map (λk:Nat=>(k:Int)) (List.filter (agr d) (List.range' 1 L))).filter (λk=>decide (k<=(L:Int)))=List.map (λk:Nat=>(k:Int)) (List.filter (agr d) (List.range' 1 L)):=by
  rw [List.filter_eq_self];intro k b;obtain ⟨j,a,rfl⟩:=du.1 b;have:=qu.1 (jX.1 a).1;exact am (by omega)
 have c:(List.map (λk:Nat=>(k:Int)) (List.filter (agr d) (List.range' (1+L) (31 - L)))).filter (λk=>decide (k<=(L:Int)))=[]:=by
  rw [List.filter_eq_nil_iff];intro k b;obtain ⟨j,a,rfl⟩:=du.1 b;have:=qu.1 (jX.1 a).1;simp only [bZ];omega
 rw [f,c,mj]
theorem D3 (s:aa) (g:Nat):(fitN s g).length<=g:=by
 have:=Dz (agr s) (List.range' 1 g);rw [List.length_range'] at this;exact this
theorem EN (d:aa):(dayI d).length<=31:=by
 unfold dayI;split
 ·simp
 ·rw [AM];exact D3 d 31
theorem ES (m:aa):(monI m).length<=12:=by
 unfold monI;split
 ·simp
 ·split
  ·simp
  ·rw [AM];exact D3 m 12
theorem FK (d:aa) (y a:Int):(sL d y a).length<=31:=by
 unfold sL;rw [Bh];exact oQ (Dz _ _) (EN d)
theorem HT (y a:Int):sL [] y a=[(y,a,0)]:=rfl
theorem F8 {d:aa} (h:d≠[]) (y a:Int):sL d y a=((List.range' 1 (lenI y a).toNat).filter (agr d)).map λk:Nat=>(y,a,(k:Int)):=by
 have b:=ln y a;unfold sL dayI sV;rw [ab h,ab h];have:=P2 d (lenI y a).toNat (by omega);rw [show (((lenI y a).toNat:Nat):Int)=lenI y a by omega] at this;rw [this,rr,ur];rfl
theorem FA (n:Nat) (B:100<n) (g l:Bool) (dg:aa) (x q:Int) (m d:aa) (k0 k1 k2 y:Int):
  jC n g l dg x q m d k0 k1 k2 y=some (sQ m d y):=by
 have w:=ES m;unfold jC;rw [Fo n B];have:=IY (step:=dQ n) (f:=λi out=>(y,(i:Int),g,l,dg,x,q,m,d,k0,k1,k2,monI m,out)) (y:=λo=>o) (F:=sL d y) (L:=monI m) (c:=31) (λb _=>FK d y b)
  (λi h out hi E=>by
   have a:i<(monI m).length:=(qf.1 hi).1;have u:IntKind.wrap .i64 ((i:Int)+1)=((i+1:Nat):Int):=by rw [wrap_i64 _ (by omega) (by omega)];omega
   unfold dQ;simp only [d4,d8,u];rw [am (show (i:Int)<(((monI m).length:Nat):Int) by omega),fg a];by_cases s:d=[]
   ·subst s;rw [HT];simp only [ob,hi,aj,room (show out.length<=60000000 by omega)];rfl
   ·rw [gC s];have D:=ln y h;have t:=Hj (step:=dP n) (f:=λj o=>(y,(i:Int),((j+1:Nat):Int),g,l,dg,x,q,m,d,k0,k1,k2,monI m,o)) (y:=λo=>(y,(i:Int),g,l,dg,x,q,m,d,k0,k1,k2,monI m,o)) (p:=agr d) (e:=λk=>(y,h,(k:Int))) (g:=(lenI y h).toNat) out
     (λj o C z=>by
      have A:IntKind.wrap .i64 (((j+1:Nat):Int)+1)=((j+1+1:Nat):Int):=by rw [wrap_i64 _ (by omega) (by omega)];omega
      unfold dP;simp only [d4,d8,A,fg a,ob,hi,H4];rw [am (show ((j+1:Nat):Int)<=lenI y h by omega),sy n d (j+1) (by omega),room (show o.length<=60000000 by omega)];by_cases r:agr d (j+1)=true
      ·rw [ae r,ae r];rfl
      ·rw [ab r,ab r];rfl)
     (λo=>by
      unfold dP;simp only [d4,d8,fg a,ob,hi,H4];rw [ar (show ¬(((lenI y h).toNat+1:Nat):Int)<=lenI y h by omega)];rfl)
     (N:=n) (by omega)
    have hin':aw (dP n) n (y,(i:Int),1,g,l,dg,x,q,m,d,k0,k1,k2,monI m,out)=_:=t;simp only [aj,af];rw [hin',F8 s];simp only [ob,d4,d8,u])
  (λout=>by
   unfold dQ;simp only [d4,d8];rw [ar (show ¬(((monI m).length:Nat):Int)<(((monI m).length:Nat):Int) by omega)];rfl)
  (N:=n) (by omega)
 have v:aw (dQ n) n (y,0,g,l,dg,x,q,m,d,k0,k1,k2,monI m,([]:List (Int×Int×Int)))=_:=this;simp only [ob];rw [v];rfl
theorem RP {a b c e:UInt8} (l:aT a=true\/a=88) (k:aT b=true\/b=88) (hc:aT c=true\/c=88) (j:aT e=true\/e=88) (w:Nat):
  mtk [a,b,c,e] 4 w=Mk.ag [e,c,b,a] (w:Int):=by
 have one:∀(z:UInt8) (v:Nat),(decide (z=88)||decide (z.toNat=48+v%10))=(decide (z=88)||decide (Mk.dv z=(v:Int)%10)):=by
  intro z v;have:(z.toNat=48+v%10)↔(Mk.dv z=(v:Int)%10):=by unfold Mk.dv;omega
  rw [lR.2 this]
 have d:∀v:Nat,(v:Int) / 10=((v / 10:Nat):Int):=λv=>by omega
 show ((decide (e=88)||decide (e.toNat=48+w%10))&&((decide (c=88)||decide (c.toNat=48+w / 10%10))&&((decide (b=88)||decide (b.toNat=48+w / 10 / 10%10))&&((decide (a=88)||decide (a.toNat=48+w / 10 / 10 / 10%10))&&true))))
  = ((((true&&(decide (a=88)||decide (Mk.dv a=(w:Int) / 10 / 10 / 10%10)))&&(decide (b=88)||decide (Mk.dv b=(w:Int) / 10 / 10%10)))&&(decide (c=88)||decide (Mk.dv c=(w:Int) / 10%10)))&&(decide (e=88)||decide (Mk.dv e=(w:Int)%10)))
 rw [one e w,one c (w / 10),one b (w / 10 / 10),one a (w / 10 / 10 / 10),d w,d (w / 10),d (w / 10 / 10)];generalize (decide (e=88)||decide (Mk.dv e=(w:Int)%10))=f;generalize (decide (c=88)||decide (Mk.dv c=((w / 10:Nat):Int)%10))=i;generalize (decide (b=88)||decide (Mk.dv b=((w / 10 / 10:Nat):Int)%10))=h;generalize (decide (a=88)||decide (Mk.dv a=((w / 10 / 10 / 10:Nat):Int)%10))=g;cases f<;>cases i<;>cases h<;>cases g<;>rfl
theorem NW {c:UInt8} (h:aT c=true\/c=88):Mk.okB c=true:=by
 rcases h with h | h
 ·have h:=(bH c).1 h;unfold Mk.okB;simp only [gv,aA,bZ];right
  first | omega | (obtain ⟨b,a⟩:=h;constructor<;>omega)
 ·subst h;decide
theorem LM {d:aa} (a:d.length=4) (h:∀c∈d,aT c=true\/c=88):Mk.chk d=0:=by
 unfold Mk.chk;have:d.all Mk.okB=true:=bS.2 λc hc=>NW (h c hc);rw [ab (by omega),ae this,ab (by rintro rfl;simp at a)]
theorem EK {d:aa} (j:d.length=4) (h:∀c∈d,aT c=true\/c=88) (w:Nat):Mk.hasM d (w:Int)=true↔mtk d 4 w=true/\w / 10 ^ 4=0:=by
 obtain ⟨a,b,c,e,rfl⟩:∃a b c e,d=[a,b,c,e]:=by
  match d,j with
  | [a,b,c,e],_=>exact ⟨a,b,c,e,rfl⟩
 rw [Mk.Cb,RP (h a (by simp)) (h b (by simp)) (h c (by simp)) (h e (by simp)) w];simp only [aA,bZ];show 0<=(w:Int)/\(w:Int)<10 ^ 4/\Mk.ag [e,c,b,a] (w:Int)=true↔Mk.ag [e,c,b,a] (w:Int)=true/\w / 10 ^ 4=0;have i:(10:Int) ^ 4=10000:=by decide
 have e4':(10:Nat) ^ 4=10000:=by decide
 rw [i,e4'];constructor
 ·rintro ⟨_,g,f⟩;exact ⟨f,by omega⟩
 ·rintro ⟨f,g⟩;exact ⟨by omega,by omega,f⟩
theorem D1 {g l:Bool} {d:aa} {x q:Int} (b:okY g l d x q) (c:hasX d=true) (v:Int):inP g d x q v↔(Mk.hasM d (wOf g v)=true/\(g=true->1<=wOf g v)):=by
 obtain ⟨rfl,rfl,rfl,h,i⟩:=ou b c;unfold inP;rw [E7 c];have n:∀k:Int,Mk.hasM d k=true->0<=k/\k<10000:=λk o=>by
  have:=(Mk.lZ o).2.2.2.2;rw [h] at this;have t:(10:Int) ^ 4=10000:=by decide
  omega
 constructor
 ·rintro ⟨f,j,u,m,r⟩;have:=(EK h i (wOf g v).toNat).2 r;rw [show (((wOf g v).toNat:Nat):Int)=wOf g v by omega] at this;refine ⟨this,λa=>?_⟩;have s:¬wOf g v=0:=λe=>m ⟨c,a,e⟩;omega
 ·rintro ⟨f,j⟩;have hr':=n _ f;have p:=(EK h i (wOf g v).toNat).1 (by rw [show (((wOf g v).toNat:Nat):Int)=wOf g v by omega];exact f);have w:v=wOf g v\/v=- wOf g v:=by
   unfold wOf;split
   ·right;omega
   ·left;rfl
  refine ⟨by omega,by omega,hr'.1,?_,p⟩;rintro ⟨_,a,e⟩;have:=j a;omega
theorem CO {g l:Bool} {d:aa} {x:Int} (b:okY g l d x 0) (a:hasX d=false) (v:Int):inP g d x 0 v↔v=(if g then -((val d x.toNat:Nat):Int) else ((val d x.toNat:Nat):Int)):=by
 obtain ⟨k,q,rfl,o,m⟩:=ru b a;have c:=m.small;have n:dval 0 d*10 ^ k=val d k:=rfl;rw [n] at c;unfold E16 at c;unfold inP;rw [M9 a];have h:Ce d (k:Int).toNat (0:Int).toNat=1:=rfl;rw [h,bI,qm,qm,a];unfold wOf;cases g with
 | true=>
  simp only [aJ];constructor
  ·rintro ⟨j,e,f,_,i⟩;omega
  ·rintro rfl;refine ⟨by omega,by omega,by omega,by simp,by omega⟩
 | false=>
  simp only [bq,aE];constructor
  ·rintro ⟨j,e,f,_,i⟩;omega
  ·rintro rfl;refine ⟨by omega,by omega,by omega,by simp,by omega⟩
def BV (up:Bool) (Y:Int->Prop) (v w:Int) (a:Bool):Prop:=
 (a=true->Y w/\Mk.eo up v w/\∀e,Y e->Mk.eo up v e->Mk.eo up w e)/\(a=false->∀e,Y e->¬Mk.eo up v e)
theorem ep (a b:Int):Mk.eo true a b↔a<=b:=Iff.rfl
theorem gf (a b:Int):Mk.eo false a b↔b<=a:=Iff.rfl
theorem NI (o:Option Int):(Mk.res o).2=0/\(∃r,o=some r/\(Mk.res o).1=r)\/(Mk.res o).2=16/\o=none/\(Mk.res o).1=0:=by
 cases o with
 | none=>exact .inr ⟨rfl,rfl,rfl⟩
 | some r=>exact .inl ⟨rfl,r,rfl,rfl⟩
theorem sN {m:aa} (j:Mk.chk m=0) (v a:Int) (q:0<=a):∃w f,eP 20000000 m v true a=some (w,f)/\BV true (λe=>Mk.hasM m e=true/\a<=e) v w f/\(0<=w/\w<1000000000000000000):=by
 obtain ⟨o,n,d⟩:=Mk.Is j (cond (decide (a>v)) a v);unfold eP;rw [n];simp only [ob,aj];have hc:(cond (decide (a>v)) a v)=max v a:=by
  by_cases h:a>v
  ·rw [am h];show a=_;omega
  ·rw [ar h];show v=_;omega
 rw [hc] at d;rcases NI o with ⟨g,r,rfl,c⟩ | ⟨g,rfl,c⟩
 ·refine ⟨_,_,rfl,?_,?_⟩
  ·rw [g,c];obtain ⟨a1,a2,k⟩:=d;rw [ep] at a2;refine ⟨λ_=>⟨⟨a1,by omega⟩,?_,λe b i=>?_⟩,λh=>by cases h⟩
   ·rw [ep];omega
   ·rw [ep] at i;exact k e b.1 (by rw [ep];have:=b.2;omega)
  ·have:=(Mk.lZ d.1).2.2.2.2;have p:=Mk.lL j;have s:(10:Int) ^ m.length<=10 ^ 18:=by
    have:=jG (show 0<10 by decide) p.1
    exact_mod_cast this
   have l:(10:Int) ^ 18=1000000000000000000:=by decide
   rw [c];omega
 ·refine ⟨_,_,rfl,?_,by rw [c];omega⟩;rw [g];refine ⟨(λh=>by cases h),λ_ e b i=>?_⟩;rw [ep] at i;exact d e b.1 (by rw [ep];have:=b.2;omega)
theorem sF {m:aa} (l:Mk.chk m=0) (v a:Int) (s:0<=a):∃w f,eP 20000000 m v false a=some (w,f)/\BV false (λe=>Mk.hasM m e=true/\a<=e) v w f/\(0<=w/\w<1000000000000000000):=by
 obtain ⟨o,p,k⟩:=Mk.IM l v;unfold eP;rw [p];simp only [ob,af];rcases NI o with ⟨i,r,rfl,g⟩ | ⟨i,rfl,g⟩
 ·rw [i,g];obtain ⟨a1,a2,j⟩:=k;rw [gf] at a2;have u:=(Mk.lZ a1).2.2.2.2;have q:=Mk.lL l;have t:(10:Int) ^ m.length<=10 ^ 18:=by
   have:=jG (show 0<10 by decide) q.1
   exact_mod_cast this
  have n:(10:Int) ^ 18=1000000000000000000:=by decide
  refine ⟨_,_,rfl,?_,by omega⟩;by_cases c:r>=a
  ·rw [am c];refine ⟨λ_=>⟨⟨a1,by omega⟩,by rw [gf];omega,λe b d=>j e b.1 d⟩,λh=>by cases h⟩
  ·rw [ar c];refine ⟨(λh=>by cases h),λ_ e b d=>?_⟩;have:=j e b.1 d;rw [gf] at this;have:=b.2;omega
 ·rw [i,g];refine ⟨_,_,rfl,?_,by omega⟩;refine ⟨(λh=>by cases h),λ_ e b d=>k e b.1 d⟩
theorem Jz {g l:Bool} {dg:aa} {x:Int} (k:okY g l dg x 0) (m d:aa) (k0 k1 k2:Int) (v:Int) (H:-9223372036854775808<=v/\v<9223372036854775808) (up:Bool) (F C:List Int):
  ∃w f,bR 20000000 g l dg x 0 m d k0 k1 k2 v up F C=some (w,f)/\BV up (inP g dg x 0) v w f:=by
 have D:=ir k;unfold bR;rw [qV];simp only [ob];cases t:hasX dg with
 | false=>
  have c:=CO k t;rw [yB 20000000 g l dg x 0 (by omega) (by omega),ae ⟨k,t⟩];simp only [ie,aj];generalize (if g then -((val dg x.toNat:Nat):Int) else ((val dg x.toNat:Nat):Int))=w at *;cases up with
  | true=>
   by_cases h:w>=v
   ·refine ⟨w,true,?_,?_⟩
    ·simp only [am h,aj]
    ·refine ⟨λ_=>⟨(c w).2 rfl,h,λe b _=>?_⟩,λh=>by cases h⟩;rw [(c e).1 b];exact ui _
   ·refine ⟨w,false,?_,?_⟩
    ·simp only [ar h,aj,af,cV]
    ·refine ⟨(λh=>by cases h),λ_ e b n=>?_⟩;rw [(c e).1 b,ep] at n;omega
  | false=>
   by_cases h:w<=v
   ·refine ⟨w,true,?_,?_⟩
    ·simp only [am h,aj,af,ie]
    ·refine ⟨λ_=>⟨(c w).2 rfl,h,λe b _=>?_⟩,λh=>by cases h⟩;rw [(c e).1 b];exact ui _
   ·refine ⟨w,false,?_,?_⟩
    ·simp only [ar h,aj,af,ie]
    ·refine ⟨(λh=>by cases h),λ_ e b n=>?_⟩;rw [(c e).1 b,gf] at n;omega
 | true=>
  have c:=D1 k t;obtain ⟨rfl,rfl,_,A,E⟩:=ou k t;have s:=LM A E;simp only [cV,af];cases g with
  | false=>
   simp only [ie,aj];have q:∀w f,BV up (λe=>Mk.hasM dg e=true/\0<=e) v w f->BV up (inP false dg 0 0) v w f:=λw f h=>by
    have a:∀e,(Mk.hasM dg e=true/\0<=e)↔inP false dg 0 0 e:=λe=>by
     rw [c e];constructor
     ·rintro ⟨i,_⟩;exact ⟨i,λh=>by cases h⟩
     ·rintro ⟨i,_⟩;exact ⟨i,(Mk.lZ i).2.2.2.2.1⟩
    refine ⟨λj=>?_,λj e b=>h.2 j e ((a e).2 b)⟩;obtain ⟨b1,b2,r⟩:=h.1 j;exact ⟨(a w).1 b1,b2,λe b=>r e ((a e).2 b)⟩
   cases up with
   | true=>
    obtain ⟨w,f,i,o,_⟩:=sN s v 0 (by omega);exact ⟨w,f,by rw [i],q w f o⟩
   | false=>
    obtain ⟨w,f,i,o,_⟩:=sF s v 0 (by omega);exact ⟨w,f,by rw [i],q w f o⟩
  | true=>
   simp only [cV,af];have hc:IntKind.wrap .i64 (0 - (cond (decide (((-9223372036854775807):Int)>v)) (-9223372036854775807) v))=min (-v) 9223372036854775807:=by
    by_cases h:((-9223372036854775807):Int)>v
    ·rw [am h,aj,wrap_i64 _ (by omega) (by omega)];omega
    ·rw [ar h,af,wrap_i64 _ (by omega) (by omega)];omega
   rw [hc];have u:∀e,Mk.hasM dg e=true->0<=e/\e<10000:=λe b=>by
    have:=(Mk.lZ b).2.2.2.2;rw [A] at this;have G:(10:Int) ^ 4=10000:=by decide
    omega
   have a:∀e,inP true dg 0 0 e↔(Mk.hasM dg (-e)=true/\1<=-e):=λe=>by
    rw [c e];exact ⟨λh=>⟨h.1,h.2 rfl⟩,λh=>⟨h.1,λ_=>h.2⟩⟩
   have z:∀w:Int,0<=w/\w<1000000000000000000->IntKind.wrap .i64 (0 - w)=-w:=λw h=>by rw [wrap_i64 _ (by omega) (by omega)];omega
   cases up with
   | true=>
    obtain ⟨w,f,i,o,y⟩:=sF s (min (-v) 9223372036854775807) 1 (by omega);refine ⟨-w,f,by rw [cV,i];simp only [z w y],?_,?_⟩
    ·intro j;obtain ⟨b1,b2,r⟩:=o.1 j;rw [gf] at b2;refine ⟨(a _).2 (by rw [Int.neg_neg];exact b1),by rw [ep];omega,λe b n=>?_⟩;rw [ep] at n;have p:=(a e).1 b;have:=r (-e) p (by rw [gf];have:=u _ p.1;omega);rw [gf] at this;rw [ep];omega
    ·intro j e b n;rw [ep] at n;have p:=(a e).1 b;exact o.2 j (-e) p (by rw [gf];have:=u _ p.1;omega)
   | false=>
    obtain ⟨w,f,i,o,y⟩:=sN s (min (-v) 9223372036854775807) 1 (by omega);refine ⟨-w,f,by rw [ie,i];simp only [z w y],?_,?_⟩
    ·intro j;obtain ⟨b1,b2,r⟩:=o.1 j;rw [ep] at b2;have B:=u _ b1.1;refine ⟨(a _).2 (by rw [Int.neg_neg];exact b1),by rw [gf];omega,λe b n=>?_⟩;rw [gf] at n;have p:=(a e).1 b;have:=r (-e) p (by rw [ep];omega);rw [ep] at this;rw [gf];omega
    ·intro j e b n;rw [gf] at n;have p:=(a e).1 b;exact o.2 j (-e) p (by rw [ep];omega)
theorem rt {X Y A:Type} {step:X->Option (X⊕Y)} {f:Nat->X} {L:List A} {G:A->Option Y} {e:Y}
  (h:∀i a,L[i]?=some a->step (f i)=some ((G a).elim (.inl (f (i+1))) Sum.inr)) (c:step (f L.length)=some (.inr e)) {N:Nat} (b:L.length<N):
  aw step N (f 0)=some ((L.findSome? G).getD e):=by
 have d:∀(r i:Nat),i+r=L.length->∀N,r<N->aw step N (f i)=some (((L.drop i).findSome? G).getD e):=by
  intro r
  induction r with
  | zero=>
   intro i hi N b;obtain ⟨N,rfl⟩:∃q,N=q+1:=⟨N - 1,by omega⟩;obtain rfl:i=L.length:=by omega
   rw [aw,c];simp
  | succ r ih=>
   intro i hi N b;obtain ⟨N,rfl⟩:∃q,N=q+1:=⟨N - 1,by omega⟩;have g:L[i]?=some L[i]:=bj (by omega);rw [aw,h i L[i] g,qb (show i<L.length by omega),AI];cases j:G L[i] with
   | some y=>rfl
   | none=>exact ih (i+1) (by omega) N (by omega)
 have:=d L.length 0 (by omega) N b;simpa using this
def ahd (up:Bool) (a b:Int):Bool:=cond up (decide (a<b)) (decide (a>b))
theorem Ee (n:Nat) (a b:Int) (up:Bool):cj n a b up=some (ahd up a b):=by
 unfold cj ahd;cases up
 ·rfl
 ·simp only [aj,cV,af];cases decide (a<b)<;>rfl
def yI (up a:Bool) (d:aa) (c b k:Int):Bool:=decide (k<=b)&&!(a&&(!(d==([]:aa))&&ahd up k c))
def Hk (up:Bool) (m:aa) (c b y a:Int):Bool:=(y==c)&&(!(m==([]:aa))&&ahd up a b)
def FZ (m:aa) (c b y a:Int):Bool:=(y==c)&&((m==([]:aa))||(a==b))
def BN (up:Bool) (m d:aa) (c b e y:Int) (f:List Int) (a:Int):Option (Int×Int×Int):=
 if Hk up m c b y a then none else (f.find? (yI up (FZ m c b y a) d e (sV d y a))).map λk=>(y,a,k)
def BH (up:Bool) (m d:aa) (b e a:Int) (c f:List Int) (y:Int):Option (Int×Int×Int):=c.findSome? (BN up m d b e a y f)
def G6 (d:aa) (b:List Int):Prop:=b.length<=31/\(d≠[]->∀a∈b,1<=a/\a<=12)
theorem GO (n:Nat) (g l:Bool) (dg:aa) (x q:Int) (m d:aa) (k0 k1 k2:Int) {y:Int} (f:dE y) {a:Int} (c:d≠[]->1<=a/\a<=12) (e h:List Int):
  dW n g l dg x q m d k0 k1 k2 y a e h=some (sV d y a):=by
 unfold dW sV;by_cases b:d=[]
 ·subst b;rfl
 ·rw [gC b,ab b];have:=c b;obtain ⟨k,rfl⟩:∃k:Nat,a=(k:Int):=⟨a.toNat,by omega⟩;rw [af,IE n f (by omega) (by omega)];rfl
theorem OZ {A B Y:Type} (L:List A) (p:A->Bool) (F:A->B) (J:B->Y) (e:Y):(L.findSome? λa=>if p a then some (J (F a)) else none).getD e=((L.find? p).map F).elim e J:=by
 induction L with
 | nil=>rfl
 | cons a L ih=>
  rw [List.find?_cons,AI];cases h:p a
  ·simpa using ih
  ·simp
theorem Qu {A B Y:Type} (L:List A) (G:A->Option B) (J:B->Y) (e:Y):(L.findSome? λa=>(G a).map J).getD e=(L.findSome? G).elim e J:=by
 induction L with
 | nil=>rfl
 | cons a L ih=>
  rw [AI,AI];cases h:G a
  ·simpa using ih
  ·simp
theorem Md (n:Nat) (s y f:Int) (b:Bool) (a r w:Int) (u c:List Int) (g l:Bool) (dg:aa) (x q:Int) (m d:aa) (k0 k1 k2 v t e:Int) (up:Bool) (o p rd:Int) (i:Nat) (k:Int) (hi:c[i]?=some k) (z:i<1000):
  bA n (s,y,f,b,a,r,w,((c.length:Nat):Int),(i:Int),u,c,g,l,dg,x,q,m,d,k0,k1,k2,v,t,e,up,o,p,rd)=some ((if yI up b d e a k then some (.inl (true,y,f,k)) else none).elim (.inl (s,y,f,b,a,r,w,((c.length:Nat):Int),((i+1:Nat):Int),u,c,g,l,dg,x,q,m,d,k0,k1,k2,v,t,e,up,o,p,rd)) Sum.inr):=by
 have h:i<c.length:=(qf.1 hi).1;have j:IntKind.wrap .i64 ((i:Int)+1)=((i+1:Nat):Int):=by rw [wrap_i64 _ (by omega) (by omega)];omega
 unfold bA gn yI;simp only [d4,d8,d16,fg h,hi,ob,j,Ee];rw [am (show (i:Int)<((c.length:Nat):Int) by omega)];simp only [aj];cases decide (k<=a)<;>cases b<;>cases (d==([]:aa))<;>cases ahd up k e<;>simp only [cV,ie,aj,af,j]<;>rfl
theorem NT (n:Nat) (s y r:Int) (c:Bool) (b i p:Int) (k a:List Int) (g l:Bool) (dg:aa) (x q:Int) (m d:aa) (k0 k1 k2 o j e:Int) (up:Bool) (f h rd:Int):
  bA n (s,y,r,c,b,i,p,((a.length:Nat):Int),((a.length:Nat):Int),k,a,g,l,dg,x,q,m,d,k0,k1,k2,o,j,e,up,f,h,rd)=some (.inr (.inr (s,y,i,p,k,a,g,l,dg,x,q,m,d,k0,k1,k2,o,j,e,up,f,h,rd))):=by
 unfold bA;simp only [d4,d8,d16];rw [ar (show ¬((a.length:Nat):Int)<((a.length:Nat):Int) by omega)];rfl
theorem N6 (n:Nat) (C:1000<n) (s y j:Int) (b:Bool) (a r w:Int) (u c:List Int) (g l:Bool) (dg:aa) (x q:Int) (m d:aa) (k0 k1 k2 v t h:Int) (up:Bool) (o p rd:Int) (B:c.length<=31):
  aw (bA n) n (s,y,j,b,a,r,w,((c.length:Nat):Int),0,u,c,g,l,dg,x,q,m,d,k0,k1,k2,v,t,h,up,o,p,rd)=some (((c.find? (yI up b d h a)).map (λk=>(y,j,k))).elim (.inr (s,y,r,w,u,c,g,l,dg,x,q,m,d,k0,k1,k2,v,t,h,up,o,p,rd)) (λz=>.inl (true,z))):=by
 have:=rt (step:=bA n) (f:=λi=>(s,y,j,b,a,r,w,((c.length:Nat):Int),(i:Int),u,c,g,l,dg,x,q,m,d,k0,k1,k2,v,t,h,up,o,p,rd)) (L:=c) (G:=λk=>if yI up b d h a k then some (.inl (true,y,j,k)) else none) (e:=.inr (s,y,r,w,u,c,g,l,dg,x,q,m,d,k0,k1,k2,v,t,h,up,o,p,rd))
  (λi k hi=>by
   have A:i<c.length:=(qf.1 hi).1;exact Md n s y j b a r w u c g l dg x q m d k0 k1 k2 v t h up o p rd i k hi (by omega))
  (NT n s y j b a r w u c g l dg x q m d k0 k1 k2 v t h up o p rd) (N:=n) (by omega)
 exact this.trans (cK some (OZ c (yI up b d h a) (λk=>(y,j,k)) (λz=>Sum.inl (true,z)) _))
theorem J9 (n:Nat) (E:1000<n) (s y:Int) (D:dE y) (o p:List Int) (g l:Bool) (dg:aa) (x q:Int) (m d:aa) (k0 k1 k2 e j r:Int) (up:Bool) (t u rd:Int) (B:G6 d o) (C:p.length<=31) (i:Nat) (f:Int) (hi:o[i]?=some f):
  bQ n (s,y,((o.length:Nat):Int),(i:Int),o,p,g,l,dg,x,q,m,d,k0,k1,k2,e,j,r,up,t,u,rd)=some (((BN up m d e j r y p f).map (λz=>(.inl (true,z):(Bool×Int×Int×Int)⊕_))).elim (.inl (s,y,((o.length:Nat):Int),((i+1:Nat):Int),o,p,g,l,dg,x,q,m,d,k0,k1,k2,e,j,r,up,t,u,rd)) Sum.inr):=by
 have w:i<o.length:=(qf.1 hi).1;have F:=B.1;have A:IntKind.wrap .i64 ((i:Int)+1)=((i+1:Nat):Int):=by rw [wrap_i64 _ (by omega) (by omega)];omega
 have v:d≠[]->1<=f/\f<=12:=λh=>B.2 h f (fD hi);have j20:∀a b:Int,ef n s y f (y==e) a b o p g l dg x q m d k0 k1 k2 e j r up t u rd=some (s,y,f,(y==e),a,b,Hk up m e j y f,o,p,g,l,dg,x,q,m,d,k0,k1,k2,e,j,r,up,t,u,rd):=by
  intro a b;unfold ef Hk;simp only [Ee,ob];cases (y==e)<;>cases (m==([]:aa))<;>rfl
 have j23:∀a b c:Int,eu n s y f (y==e) a b c o p g l dg x q m d k0 k1 k2 e j r up t u rd=some (s,y,f,FZ m e j y f,a,b,c,o,p,g,l,dg,x,q,m,d,k0,k1,k2,e,j,r,up,t,u,rd):=by
  intro a b c;unfold eu FZ;cases (y==e)<;>cases (m==([]:aa))<;>rfl
 unfold bQ fZ BN;simp only [d4,d8,d16,fg w,hi,ob,j20];rw [am (show (i:Int)<((o.length:Nat):Int) by omega)];simp only [aj];cases G:Hk up m e j y f with
 | true=>simp only [aj,aJ,gM,A];rfl
 | false=>
  simp only [af,bq,aE,GO n g l dg x q m d k0 k1 k2 D v,j23,N6 n E s y f (FZ m e j y f) (sV d y f) _ _ o p g l dg x q m d k0 k1 k2 e j r up t u rd C];cases p.find? (yI up (FZ m e j y f) d r (sV d y f)) with
  | some k=>rfl
  | none=>simp only [gM,Option.elim_none,A]
theorem OJ (n:Nat) (v:1000<n) (s y:Int) (u:dE y) (a b:List Int) (g l:Bool) (dg:aa) (x q:Int) (m d:aa) (k0 k1 k2 j h c:Int) (up:Bool) (k o rd:Int) (r:G6 d a) (t:b.length<=31):
  aw (bQ n) n (s,y,((a.length:Nat):Int),0,a,b,g,l,dg,x,q,m,d,k0,k1,k2,j,h,c,up,k,o,rd)=some ((BH up m d j h c a b y).elim (.inr (s,y,a,b,g,l,dg,x,q,m,d,k0,k1,k2,j,h,c,up,k,o,rd)) (λz=>.inl (true,z))):=by
 have w:=r.1;have:=rt (step:=bQ n) (f:=λi=>(s,y,((a.length:Nat):Int),(i:Int),a,b,g,l,dg,x,q,m,d,k0,k1,k2,j,h,c,up,k,o,rd)) (L:=a) (G:=λp=>(BN up m d j h c y b p).map (λz=>(.inl (true,z):(Bool×Int×Int×Int)⊕_))) (e:=.inr (s,y,a,b,g,l,dg,x,q,m,d,k0,k1,k2,j,h,c,up,k,o,rd))
  (λi p hi=>J9 n v s y u a b g l dg x q m d k0 k1 k2 j h c up k o rd r t i p hi)
  (by
   unfold bQ;simp only [d4,d8,d16];rw [ar (show ¬((a.length:Nat):Int)<((a.length:Nat):Int) by omega)];rfl)
  (N:=n) (by omega)
 exact this.trans (cK some (Qu a (BN up m d j h c y b) (λz=>Sum.inl (true,z)) _))
theorem MD (n:Nat) (o:1000<n) (s y:Int) (k:dE y) (a b:List Int) (g l:Bool) (dg:aa) (x q:Int) (m d:aa) (k0 k1 k2 f e c:Int) (up:Bool) (h i rd:Int) (p:G6 d a) (j:b.length<=31):
  cu n (s,y,true,a,b,g,l,dg,x,q,m,d,k0,k1,k2,f,e,c,up,h,i,rd)=(BH up m d f e c a b y).elim (ob (bR n g l dg x q m d k0 k1 k2 (IntKind.wrap .i64 (y+s)) up a b) λr=>some (.inl (s,r.1,r.2,a,b,g,l,dg,x,q,m,d,k0,k1,k2,f,e,c,up,h,i,rd))) (λz=>some (.inr (.inl (true,z)))):=by
 unfold cu;simp only [d4,d8,d16,aj,ob,OJ n o s y k a b g l dg x q m d k0 k1 k2 f e c up h i rd p j];cases BH up m d f e c a b y<;>rfl
def EA (up:Bool) (Y:Int->Prop) (F:Int->Option (Int×Int×Int)) (v:Int):Option (Int×Int×Int)->Prop
 | some z=>∃e,Y e/\Mk.eo up v e/\F e=some z/\∀a,Y a->Mk.eo up v a->¬Mk.eo up e a->F a=none
 | none=>∀e,Y e->Mk.eo up v e->F e=none
theorem FO {X:Type} {step:X->Option (X⊕((Bool×Int×Int×Int)⊕(Int×Int×Int)))} {st:Int->Bool->X} {F:Int->Option (Int×Int×Int)} {Y:Int->Prop} {up:Bool} {s lo hi:Int} {E:Int×Int×Int} {fy:Int->Option (Int×Bool)}
  (c:s=if up then 1 else -1) (D:∀e,Y e->lo<=e/\e<=hi) (P:-10000000000000000<=lo) (g:hi<=10000000000000000)
  (a:∀y,Y y->step (st y true)=(F y).elim (ob (fy (IntKind.wrap .i64 (y+s))) λr=>some (.inl (st r.1 r.2))) (λz=>some (.inr (.inl (true,z)))))
  (d:∀y,step (st y false)=some (.inr (.inr E)))
  (p:∀v,-9223372036854775808<=v/\v<9223372036854775808->∃w f,fy v=some (w,f)/\BV up Y v w f):
  ∀(r:Nat) (v y:Int) (f:Bool),BV up Y v y f->(f=true->(if up then hi - y else y - lo)<(r:Int))->∀N,r<N->
   ∃o,aw step N (st y f)=some (o.elim (.inr E) (λz=>.inl (true,z)))/\EA up Y F v o:=by
 intro r
 induction r with
 | zero=>
  intro v y f k t N G;obtain ⟨N,rfl⟩:∃q,N=q+1:=⟨N - 1,by omega⟩;cases f with
  | true=>
   obtain ⟨a1,_,_⟩:=k.1 rfl;have:=D y a1;have:=t rfl;cases up<;>simp at this<;>omega
  | false=>
   refine ⟨none,by rw [aw,d];rfl,λe i n=>absurd n (k.2 rfl e i)⟩
 | succ r ih=>
  intro v y f k t N G;obtain ⟨N,rfl⟩:∃q,N=q+1:=⟨N - 1,by omega⟩;cases f with
  | false=>
   refine ⟨none,by rw [aw,d];rfl,λe i n=>absurd n (k.2 rfl e i)⟩
  | true=>
   obtain ⟨a1,a2,x⟩:=k.1 rfl;have O:=D y a1;cases m:F y with
   | some z=>
    refine ⟨some z,?_,y,a1,a2,m,λb g l j=>absurd (x b g l) j⟩;rw [aw,a y a1,m];rfl
   | none=>
    have H:IntKind.wrap .i64 (y+s)=y+s:=by
     have:-1<=s/\s<=1:=by rw [c];cases up<;>simp
     exact wrap_i64 _ (by omega) (by omega)
    obtain ⟨w,B,K,A⟩:=p (y+s) (by
     have:-1<=s/\s<=1:=by rw [c];cases up<;>simp
     omega)
    have hstep':step (st y true)=some (.inl (st w B)):=by
     rw [a y a1,m,H];show ob (fy (y+s)) _=_;rw [K];rfl
    obtain ⟨o,M,C⟩:=ih (y+s) w B A (λI=>by
     obtain ⟨b1,b2,_⟩:=A.1 I;have:=t rfl;cases up
     ·rw [gf] at b2;simp only [bq,aE] at c this ⊢;omega
     ·rw [ep] at b2;simp only [aJ] at c this ⊢;omega) N (by omega)
    refine ⟨o,by rw [aw,hstep'];exact M,?_⟩;have split:∀b,Y b->Mk.eo up v b->b=y\/Mk.eo up (y+s) b:=λb g l=>by
     have j:=x b g l;cases up
     ·rw [gf] at j ⊢;simp only [bq,aE] at c;omega
     ·rw [ep] at j ⊢;simp only [aJ] at c;omega
    cases o with
    | none=>
     intro e i n;rcases split e i n with rfl | h
     ·exact m
     ·exact C e i h
    | some z=>
     obtain ⟨e,L,u,c3,J⟩:=C;refine ⟨e,L,?_,c3,λb g l j=>?_⟩
     ·cases up
      ·rw [gf] at u a2 ⊢;simp only [bq,aE] at c;omega
      ·rw [ep] at u a2 ⊢;simp only [aJ] at c;omega
     ·rcases split b g l with rfl | h
      ·exact m
      ·exact J b g h j
theorem wU {g l:Bool} {dg:aa} {x:Int} (c:okY g l dg x 0):∃lo hi:Int,(∀e,inP g dg x 0 e->lo<=e/\e<=hi)/\hi - lo<=10000/\-10000000000000000<=lo/\hi<=10000000000000000:=by
 cases d:hasX dg with
 | false=>
  have a:=CO c d;by_cases f:-10000000000000000<=(if g then -((val dg x.toNat:Nat):Int) else ((val dg x.toNat:Nat):Int))/\(if g then -((val dg x.toNat:Nat):Int) else ((val dg x.toNat:Nat):Int))<=10000000000000000
  ·refine ⟨_,_,λe b=>?_,?_,f.1,f.2⟩
   ·rw [(a e).1 b];exact ⟨ui _,ui _⟩
   ·omega
  ·refine ⟨0,0,λe b=>?_,by omega,by omega,by omega⟩;exfalso;have:=(a e).1 b;unfold inP at b;exact f ⟨by rw [<-this];exact b.1,by rw [<-this];exact b.2.1⟩
 | true=>
  have a:=D1 c d;obtain ⟨_,_,_,i,j⟩:=ou c d;refine ⟨if g then -9999 else 0,if g then 0 else 9999,λe b=>?_,by cases g<;>simp,by cases g<;>simp,by cases g<;>simp⟩;have h:=((a e).1 b).1;have:=(Mk.lZ h).2.2.2.2;rw [i] at this;have k:(10:Int) ^ 4=10000:=by decide
  unfold wOf at this;cases g
  ·simp at this ⊢;omega
  ·simp at this ⊢;omega
theorem yD {g:Bool} {dg:aa} {x q e:Int} (h:inP g dg x q e):dE e:=⟨h.1,h.2.1⟩
theorem FM {g l:Bool} {dg:aa} {x:Int} (e:okY g l dg x 0) (m d:aa) (k0 k1 k2:Int) (a i h:Int) (j:-9223372036854775808<=a/\a<9223372036854775808) (c b:List Int) (C:G6 d c) (u:b.length<=31):
  ∃o,gQ 20000000 g l dg x 0 m d k0 k1 k2 a i h true c b=some (o.elim (0,0,0,false) λz=>(z.1,z.2.1,z.2.2,true))/\EA true (inP g dg x 0) (BH true m d a i h c b) a o:=by
 obtain ⟨lo,hi,p,H,k,n⟩:=wU e;obtain ⟨w,f,D,q⟩:=Jz e m d k0 k1 k2 a j true c b;obtain ⟨o,G,A⟩:=FO (step:=cu 20000000) (st:=λy f=>(1,y,f,c,b,g,l,dg,x,0,m,d,k0,k1,k2,a,i,h,true,0,0,0)) (F:=BH true m d a i h c b) (Y:=inP g dg x 0) (up:=true) (s:=1) (lo:=lo) (hi:=hi) (E:=(0,0,0)) (fy:=λv=>bR 20000000 g l dg x 0 m d k0 k1 k2 v true c b)
  rfl p k n
  (λy B=>MD 20000000 (by omega) 1 y (yD B) c b g l dg x 0 m d k0 k1 k2 a i h true 0 0 0 C u)
  (λy=>rfl)
  (λv t=>Jz e m d k0 k1 k2 v t true c b)
  10002 a w f q (λr=>by have:=p w (q.1 r).1;simp;omega) 20000000 (by omega)
 refine ⟨o,?_,A⟩;unfold gQ il;simp only [cV,af,ob,d4,d8,d16,D];have i1':aw (cu 20000000) 20000000 (1,w,f,c,b,g,l,dg,x,0,m,d,k0,k1,k2,a,i,h,true,0,0,0)=_:=G;rw [i1'];cases o<;>rfl
theorem EF (m d:aa) (n l:Int) {f e:Int} (h:e≠f) (o g:List Int):BH true m d f n l o g e=none↔(o.flatMap λa=>(g.filter λk=>decide (k<=sV d e a)).map λk=>(e,a,k))=[]:=by
 have j:(e==f)=false:=aM.2 h;unfold BH;rw [Nj,List.flatMap_eq_nil_iff];have:∀a,BN true m d f n l e g a=none↔((g.filter λk=>decide (k<=sV d e a)).map λk=>(e,a,k))=[]:=by
  intro a;unfold BN Hk FZ;rw [j];simp only [vR,bq,aE,Option.map_eq_none_iff,List.find?_eq_none,List.map_eq_nil_iff,List.filter_eq_nil_iff];constructor
  ·intro c k i;have:=c k i;unfold yI at this;simpa using this
  ·intro c k i;have:=c k i;unfold yI;simpa using this
 exact ⟨λc a b=>(this a).1 (c a b),λc a b=>(this a).2 (c a b)⟩
def hasF (g:Bool) (dg:aa) (x:Int) (m d:aa):Prop:=∃e,inP g dg x 0 e/\sQ m d e≠[]
open Classical in
noncomputable def chkF (g l:Bool) (dg:aa) (x q:Int) (m d:aa) (k0 k1 k2:Int):Int:=
 if chkD g l dg x q m d k0 k1 k2=0/\d≠[]/\¬hasF g dg x m d then 8 else chkD g l dg x q m d k0 k1 k2
theorem mT {g l:Bool} {dg:aa} {x q:Int} {m d:aa} {k0 k1 k2:Int} (h:chkD g l dg x q m d k0 k1 k2=0):okY g l dg x q/\(m=[]\/m.length=2)/\(d=[]\/d.length=2)/\(0<q->m=[])/\(d≠[]->m≠[]/\sea m=0):=by
 obtain ⟨a,f,c3,n⟩:=H8 h;unfold yrD at a;by_cases b:okY g l dg x q
 ·rw [ae b] at a;refine ⟨b,?_,?_,λj=>?_,λe=>?_⟩
  ·rcases f with h | h | h
   ·exact .inl h
   ·exact .inr (Hu h).1
   ·exact .inr (pq (by omega) h).1
  ·rcases c3 with h | ⟨_,_,h⟩
   ·exact .inl h
   ·exact .inr (pq (by omega) h).1
  ·unfold yrB at a;simp only [aA,jL] at a;have:=a.1;rw [am j,nS] at this;by_cases c:m=[]
   ·exact c
   ·rw [gC c] at this;cases this
  ·rcases c3 with h | ⟨k,i,_⟩
   ·exact absurd h e
   ·exact ⟨k,i⟩
 ·rw [ab b] at a;cases a
theorem On {g l:Bool} {dg:aa} {x q:Int} (h:okY g l dg x q):0<=q:=(ir h).2.2.1
theorem IG {m d:aa} (h:d≠[]->m≠[]/\sea m=0):G6 d (monI m):=by
 refine ⟨oQ (ES m) (by omega),λb f a=>?_⟩;obtain ⟨e,g⟩:=h b;unfold monI at a;rw [ab e,ab (by omega)] at a;obtain ⟨k,c,rfl⟩:=du.1 a;have:=qu.1 (jX.1 c).1;omega
theorem tu {g l:Bool} {dg:aa} {x q:Int} {m d:aa} {k0 k1 k2:Int} (k:m.length<=18) (r:dg.length<=100) (E:0<=k0) (A:0<=k1) (D:0<=k2):
  bp 20000000 g l dg x q m d k0 k1 k2=some (chkF g l dg x q m d k0 k1 k2):=by
 unfold bp chkF;rw [Fe 20000000 (by omega) g l dg x q m d k0 k1 k2 k r E A D];simp only [ob];by_cases hc:chkD g l dg x q m d k0 k1 k2=0
 ·obtain ⟨f,n,t,B,c⟩:=mT hc;rw [hc];simp only [gO,af];by_cases i:d=[]
  ·subst i;rw [ab (by simp)];rfl
  ·rw [gC i,af];have p:q=0:=by
    have:=On f;by_cases h:0<q
    ·exact absurd (B h) (c i).1
    ·omega
   subst p;have e:=S1 20000000 (by omega) g l dg x 0 m d k0 k1 k2 n t;have s:=IG c;obtain ⟨o,o1,u⟩:=FM f m d k0 k1 k2 (-9223372036854775808) 0 0 (by omega) (monI m) (dayI d) s (EN d);have b:∀e,inP g dg x 0 e->e≠-9223372036854775808:=λe v=>by have:=yD v;unfold dE at this;omega
   have key:(∃z,o=some z)↔hasF g dg x m d:=by
    constructor
    ·rintro ⟨z,rfl⟩;obtain ⟨e,a,_,c3,_⟩:=u;refine ⟨e,a,λC=>?_⟩;have:=(EF m d 0 0 (b e a) (monI m) (dayI d)).2 C;rw [this] at c3;cases c3
    ·rintro ⟨e,a,w⟩;cases o with
     | some z=>exact ⟨z,rfl⟩
     | none=>
      have:=u e a (by rw [ep];have:=yD a;unfold dE at this;omega);exact absurd ((EF m d 0 0 (b e a) (monI m) (dayI d)).1 this) w
   rw [e];by_cases j:hasF g dg x m d
   ·obtain ⟨z,rfl⟩:=key.2 j;rw [ab (λh=>h.2.2 j)]
    all_goals
     simp only [d4,d8,o1];rfl
   ·have y:o=none:=by
     cases o with
     | none=>rfl
     | some z=>exact absurd (key.1 ⟨z,rfl⟩) j
    subst y;rw [ae ⟨rfl,i,j⟩]
    all_goals
     simp only [d4,d8,o1];rfl
 ·rw [ab (λh=>hc h.1)];have:(chkD g l dg x q m d k0 k1 k2 != 0)=true:=by simp [hc]
  rw [this];rfl
theorem LV {g l:Bool} {dg:aa} {x:Int} (c:okY g l dg x 0) (m d:aa) (k0 k1 k2:Int):
  ∃r,js 20000000 g l dg x 0 m d k0 k1 k2=some r/\(r=1/\hasF g dg x m d\/r=0/\¬hasF g dg x m d):=by
 have D:=ir c;obtain ⟨lo,hi,A,Q,J,K⟩:=wU c;obtain ⟨I,P,M⟩:=CW c;have v:=MS 19999700 g l dg x 0 (by omega) c;unfold js;rw [show (20000000:Nat)=19999700+300 from rfl,v];simp only [ob];generalize (sgn g (lC g dg x 0)).1=a at *;generalize (sgn g (lC g dg x 0)).2=b at *;have R:=A a I;have hb':=A b P;have O:=λy=>Q2 19999700 c y;have step:∀i y,((List.range (b - a+1).toNat).map (λj:Nat=>a+(j:Int)))[i]?=some y->i<(b - a+1).toNat/\y=a+(i:Int):=by
  intro i y h;rw [nV] at h;cases u:(List.range (b - a+1).toNat)[i]? with
  | none=>rw [u] at h;cases h
  | some j=>
   rw [u] at h;have hi:=qf.1 u;obtain ⟨B,C⟩:=hi;rw [List.getElem_range] at C;rw [List.length_range] at B;subst C;exact ⟨B,(aY h).symm⟩
 have p:((List.range (b - a+1).toNat).map (λj:Nat=>a+(j:Int))).length=(b - a+1).toNat:=by simp
 have:=rt (step:=fi (19999700+300)) (f:=λi=>(b,a+(i:Int),g,l,dg,x,0,m,d,k0,k1,k2)) (L:=(List.range (b - a+1).toNat).map (λj:Nat=>a+(j:Int))) (G:=λy=>if inP g dg x 0 y/\sQ m d y≠[] then some (.inl 1) else none) (e:=.inr ())
  (λi y h=>by
   obtain ⟨hi,rfl⟩:=step i y h;have E:IntKind.wrap .i64 (a+(i:Int)+1)=a+((i+1:Nat):Int):=by rw [wrap_i64 _ (by omega) (by omega)];omega
   unfold fi;simp only [d4,d8,E];rw [am (show a+(i:Int)<=b by omega),O,FA (19999700+300) (by omega)];by_cases k:inP g dg x 0 (a+(i:Int))
   ·rw [ae k];by_cases o:sQ m d (a+(i:Int))=[]
    ·rw [ab (λh=>h.2 o),o];rfl
    ·rw [ae ⟨k,o⟩];have T:0<(sQ m d (a+(i:Int))).length:=List.length_pos_iff.2 o;have F:decide ((((sQ m d (a+(i:Int))).length:Nat):Int)>0)=true:=am (by omega);simp only [aj,ob,F];rfl
   ·rw [ab k,ab (λh=>k h.1)];rfl)
  (by
   unfold fi;simp only [d4,d8];rw [p,ar (show ¬a+(((b - a+1).toNat:Nat):Int)<=b by omega)];rfl)
  (N:=19999700+300) (by rw [p];omega)
 rw [show a+((0:Nat):Int)=a by omega] at this;rw [this];cases q:(List.findSome? (λy=>if inP g dg x 0 y/\sQ m d y≠[] then some (Sum.inl (1:Int)) else none) ((List.range (b - a+1).toNat).map (λj:Nat=>a+(j:Int))):Option (Int⊕Unit)) with
 | none=>
  refine ⟨0,rfl,.inr ⟨rfl,?_⟩⟩;rintro ⟨e,s,w⟩;rw [Nj] at q;have S:=M e s;have:=q e (du.2 ⟨(e - a).toNat,jy.2 (by omega),by omega⟩);rw [ae ⟨s,w⟩] at this;cases this
 | some z=>
  obtain ⟨y,H,n⟩:=List.exists_of_findSome?_eq_some q;by_cases t:inP g dg x 0 y/\sQ m d y≠[]
  ·rw [ae t] at n;obtain rfl:=aY n;exact ⟨1,rfl,.inl ⟨rfl,y,t.1,t.2⟩⟩
  ·rw [ab t] at n;cases n
theorem BC {g l:Bool} {dg:aa} {x q:Int} {m d:aa} {k0 k1 k2:Int} (c:dg.length<=100) (j:0<=k0) (u:0<=k1) (n:0<=k2):
  iV 20000000 g l dg x q m d k0 k1 k2=some (chkF g l dg x q m d k0 k1 k2):=by
 unfold iV chkF;rw [vn 20000000 (by omega) g l dg x q m d k0 k1 k2 c j u n];simp only [ob];by_cases hc:chkD g l dg x q m d k0 k1 k2=0
 ·obtain ⟨a,t,k,p,f⟩:=mT hc;rw [hc];by_cases b:d=[]
  ·subst b;rw [ab (by simp)];rfl
  ·have i:q=0:=by
    have:=On a;by_cases h:0<q
    ·exact absurd (p h) (f b).1
    ·omega
   subst i;obtain ⟨r,s,o⟩:=LV a m d k0 k1 k2;rw [gC b,s];rcases o with ⟨rfl,e⟩ | ⟨rfl,e⟩
   ·rw [ab (λh=>h.2.2 e)];rfl
   ·rw [ae ⟨rfl,b,e⟩];rfl
 ·rw [ab (λh=>hc h.1)];have:(chkD g l dg x q m d k0 k1 k2==0)=false:=aM.2 hc;rw [this];rfl
theorem qK {g l:Bool} {dg:aa} {x q:Int} {m d:aa} {k0 k1 k2:Int} (h:chkF g l dg x q m d k0 k1 k2=0):chkD g l dg x q m d k0 k1 k2=0:=by
 unfold chkF at h;split at h
 ·cases h
 ·exact h
theorem bne0 {e:Int} (h:e≠0):(e != 0)=true:=by simp [h]
theorem Dq {m d:aa} {y:Int} {z:Int×Int×Int}:z∈sQ m d y↔z.1=y/\z.2.1∈monI m/\z.2.2∈dayI d/\z.2.2<=sV d y z.2.1:=by
 unfold sQ sL;simp only [List.mem_flatMap,du,jX,bZ];constructor
 ·rintro ⟨f,c,k,⟨a,b⟩,rfl⟩;exact ⟨rfl,c,a,b⟩
 ·rintro ⟨e,c,a,b⟩;exact ⟨z.2.1,c,z.2.2,⟨a,b⟩,by rw [<-e]⟩
theorem N1 (y:Int) (i:Nat):(minL i:Int)<=lenI y (i:Int):=by
 unfold minL lenI
 repeat' split
 all_goals omega
theorem Ku {g l:Bool} {dg:aa} {x:Int} (c:okY g l dg x 0) {m d:aa} (n:m≠[]) (r:sea m=0) (f:d≠[]) (a:fitD m d=true):hasF g dg x m d:=by
 obtain ⟨j,_,_⟩:=CW c;refine ⟨_,j,?_⟩;unfold fitD at a;simp only [pT,aA] at a;obtain ⟨i,hi,q,k,o,b⟩:=a;have hi':=qu.1 hi;have hk':=qu.1 o;have p:minL i<=31:=by
  unfold minL
  repeat' split
  all_goals omega
 have h:((sgn g (lC g dg x 0)).1,(i:Int),(k:Int))∈sQ m d (sgn g (lC g dg x 0)).1:=by
  rw [Dq];refine ⟨rfl,?_,?_,?_⟩
  ·unfold monI;rw [ab n,ab (by omega)];exact du.2 ⟨i,jX.2 ⟨hi,q⟩,rfl⟩
  ·unfold dayI;rw [ab f];exact du.2 ⟨k,jX.2 ⟨qu.2 (by omega),b⟩,rfl⟩
  ·unfold sV;rw [ab f];have:=N1 (sgn g (lC g dg x 0)).1 i;show (k:Int)<=lenI (sgn g (lC g dg x 0)).1 (i:Int);omega
 intro e;rw [e] at h;cases h
theorem KU {g l:Bool} {dg:aa} {x q:Int} {m d:aa} {k0 k1 k2:Int} (hc:chkD g l dg x q m d k0 k1 k2=0) (i:d=[]\/fitD m d=true):chkF g l dg x q m d k0 k1 k2=0:=by
 obtain ⟨a,p,j,n,c⟩:=mT hc;unfold chkF;rw [ab,hc];rintro ⟨_,b,o⟩;obtain ⟨f,k⟩:=c b;have e:q=0:=by
  have:=On a;by_cases h:0<q
  ·exact absurd (n h) f
  ·omega
 subst e;exact o (Ku a f k b (i.resolve_left b))
def plN (P:Nat×Nat×Nat) (i:Nat):Nat:=if i=0 then P.1 else if i=1 then P.2.1 else P.2.2
theorem wv {g l:Bool} {dg:aa} {x q:Int} {m d:aa} {k0 k1 k2:Int} (a:allM k0 k1 k2 (cg m d)=0):chkF g l dg x q m d k0 k1 k2=0\/chkF g l dg x q m d k0 k1 k2=6\/chkF g l dg x q m d k0 k1 k2=7\/chkF g l dg x q m d k0 k1 k2=8:=by
 unfold chkF;split
 ·exact .inr (.inr (.inr rfl))
 ·exact oJ a
theorem II {g l:Bool} {dg:aa} {x q:Int} {m d:aa} {k0 k1 k2:Int} (h:chkD g l dg x q m d k0 k1 k2≠0):chkF g l dg x q m d k0 k1 k2=chkD g l dg x q m d k0 k1 k2:=by
 unfold chkF;rw [ab (λa=>h a.1)]
theorem M8 {g l:Bool} {dg:aa} {x q:Int} {m d:aa} {k0 k1 k2:Int} (h:chkD g l dg x q m d k0 k1 k2=0):chkF g l dg x q m d k0 k1 k2=0\/chkF g l dg x q m d k0 k1 k2=8:=by
 unfold chkF;split
 ·exact .inr rfl
 ·exact .inl h
noncomputable def chkR (r:DR):Nat:=(chkF r.1 r.2.1 r.2.2.1 (r.2.2.2.1:Int) (r.2.2.2.2.1:Int) r.2.2.2.2.2.1 r.2.2.2.2.2.2.1 (r.2.2.2.2.2.2.2.1.1:Int) (r.2.2.2.2.2.2.2.1.2.1:Int) (r.2.2.2.2.2.2.2.1.2.2:Int)).toNat
noncomputable def di (S:aa) (a:Nat):(Nat×Nat×Nat)⊕DR:=
 match kK S a with
 | .inl k=>.inl (k,5,k)
 | .inr r=>if chkR r=0 then .inr r else .inl (plN r.2.2.2.2.2.2.2.2.1 (chkR r - 6),chkR r,r.2.2.2.2.2.2.2.2.2)
def PL (S:aa):(Nat×Nat×Nat)⊕DR->(Int×Int×aa×Int)⊕(Bool×Bool×aa×Int×Int×aa×aa×Int×Int×Int×Int×aa×Int)
 | .inl (k,E,p)=>.inl ((k:Int),(E:Int),S,(p:Int))
 | .inr (g,l,dg,x,s,m,d,M,P,e)=>.inr (g,l,dg,(x:Int),(s:Int),m,d,(M.1:Int),(M.2.1:Int),(M.2.2:Int),(P.1:Int),S,(e:Int))
theorem yc (S:aa) (a:Nat) (h:a<=S.length) (p:S.length<100000):fa 20000000 S (a:Int)=some (PL S (di S a)):=by
 have n:gD 20000000 S (a:Int)=_:=I9 19999700 S a h p (by omega);unfold fa di;rw [n];cases j:kK S a with
 | inl k=>rfl
 | inr r=>
  obtain ⟨g,l,dg,x,s,f,d,M,P,e⟩:=r;have b:=mV h j;have o:=b.all;have t:=b.m2;have i:=b.dg17;simp only [ob,OL,d4,d8];rw [tu (g:=g) (l:=l) (x:=(x:Int)) (q:=(s:Int)) (d:=d) (show f.length<=18 by omega) (show dg.length<=100 by omega) (show (0:Int)<=(M.1:Int) by omega) (show (0:Int)<=(M.2.1:Int) by omega) (show (0:Int)<=(M.2.2:Int) by omega)];simp only [ob];have c:=wv (g:=g) (l:=l) (dg:=dg) (x:=(x:Int)) (q:=(s:Int)) (m:=f) (d:=d) (k0:=(M.1:Int)) (k1:=(M.2.1:Int)) (k2:=(M.2.2:Int)) (nu o);unfold chkR;simp only [];rcases c with hc | hc | hc | hc<;>rw [hc]<;>rfl
noncomputable def yU (S:aa):Nat⊕DR->PD
 | .inl k=>pz (k:Int) 5
 | .inr (g,l,dg,x,s,m,d,M,P,e)=>if e<S.length then pz (e:Int) 5 else
   if chkR (g,l,dg,x,s,m,d,M,P,e)=0 then (g,l,dg,(x:Int),(s:Int),m,d,(M.1:Int),(M.2.1:Int),(M.2.2:Int),0,0)
   else pz (plN P (chkR (g,l,dg,x,s,m,d,M,P,e) - 6):Int) (chkR (g,l,dg,x,s,m,d,M,P,e):Int)
noncomputable def og (S:aa):PD:=yU S (kK S 0)
theorem K3 (S:aa) (p:S.length<100000):ko 20000000 S=some (og S):=by
 have v:gZ 20000000 S=_:=Me 19999700 S p (by omega);have o:=yc S 0 (by omega) p;rw [show ((0:Nat):Int)=0 from rfl] at o;unfold ko eD kO og;rw [v,o];unfold wR di;cases t:kK S 0 with
 | inl k=>rfl
 | inr r=>
  obtain ⟨g,l,dg,x,s,c,d,M,P,e⟩:=r;have n:=mV (by omega) t;have u:=n.all;simp only [ob,d4,d8,Ah,yU];by_cases f:e<S.length
  ·rw [ae f,ae f];rfl
  ·rw [ab f,ab f];by_cases hc:chkD g l dg (x:Int) (s:Int) c d (M.1:Int) (M.2.1:Int) (M.2.2:Int)=0
   ·rw [ae hc];rcases M8 hc with h | h
    ·have b:chkR (g,l,dg,x,s,c,d,M,P,e)=0:=by unfold chkR;simp only [];rw [h];rfl
     rw [ae b,ae b];have i:decide (((e:Nat):Int)<((S.length:Nat):Int))=false:=by simp;omega
     simp only [PL,d4,d8,i];rfl
    ·have b:chkR (g,l,dg,x,s,c,d,M,P,e)=8:=by unfold chkR;simp only [];rw [h];rfl
     rw [ab (by omega),ab (by omega),b];rfl
   ·rw [ab hc];have b:chkR (g,l,dg,x,s,c,d,M,P,e)=(chkD g l dg (x:Int) (s:Int) c d (M.1:Int) (M.2.1:Int) (M.2.2:Int)).toNat:=by unfold chkR;simp only [];rw [II hc]
    have j:=oJ (g:=g) (l:=l) (dg:=dg) (x:=(x:Int)) (q:=(s:Int)) (m:=c) (d:=d) (k0:=(M.1:Int)) (k1:=(M.2.1:Int)) (k2:=(M.2.2:Int)) (nu u);rw [b];rcases j with a | a | a | a
    ·exact absurd a hc
    all_goals (rw [a];rfl)
theorem Bt (S:aa) (o:S.length<100000):iQ 20000000 S=some (og S):=by
 have v:gB 20000000 S=_:=B7 19999700 S o (by omega);obtain ⟨Q,n⟩:=xc 19999700 S 0 (by omega) o (by omega);rw [show ((0:Nat):Int)=0 from rfl,show 19999700+300=20000000 from rfl] at n;unfold iQ og;rw [v,n];unfold wR;cases t:kK S 0 with
 | inl k=>rfl
 | inr r=>
  obtain ⟨g,l,dg,x,s,b,d,M,P,e⟩:=r;have h:=mV (by omega) t;have u:=h.all;have p:=h.dg17;simp only [ob,d4,d8,Ah,yU];by_cases i:e<S.length
  ·rw [ae i,ae i];rfl
  ·rw [ab i,ab i];by_cases hc:chkD g l dg (x:Int) (s:Int) b d (M.1:Int) (M.2.1:Int) (M.2.2:Int)=0
   ·rw [ae hc];simp only [gO,af];rw [BC (g:=g) (l:=l) (x:=(x:Int)) (q:=(s:Int)) (m:=b) (d:=d) (show dg.length<=100 by omega) (show (0:Int)<=(M.1:Int) by omega) (show (0:Int)<=(M.2.1:Int) by omega) (show (0:Int)<=(M.2.2:Int) by omega)];rcases M8 hc with f | f
    ·have c:chkR (g,l,dg,x,s,b,d,M,P,e)=0:=by unfold chkR;simp only [];rw [f];rfl
     rw [ae c,f];rfl
    ·have c:chkR (g,l,dg,x,s,b,d,M,P,e)=8:=by unfold chkR;simp only [];rw [f];rfl
     rw [ab (by omega),c,f];rfl
   ·rw [ab hc];have c:chkR (g,l,dg,x,s,b,d,M,P,e)=(chkD g l dg (x:Int) (s:Int) b d (M.1:Int) (M.2.1:Int) (M.2.2:Int)).toNat:=by unfold chkR;simp only [];rw [II hc]
    have j:=oJ (g:=g) (l:=l) (dg:=dg) (x:=(x:Int)) (q:=(s:Int)) (m:=b) (d:=d) (k0:=(M.1:Int)) (k1:=(M.2.1:Int)) (k2:=(M.2.2:Int)) (nu u);rw [c];rcases j with a | a | a | a
    ·exact absurd a hc
    all_goals (rw [a];rfl)
def dayY (y:Int):Int:=365*y+(1+(y - 1) / 4 - (y - 1) / 100+(y - 1) / 400)
def cumM (y:Int):Nat->Int
 | 0=>0
 | k+1=>cumM y k+lenI y ((k+1:Nat):Int)
def dayM (y:Int) (m:Nat):Int:=if m<=12 then dayY y+cumM y (m - 1) else dayY (y+1)+cumM (y+1) (m - 13)
theorem Jb (y:Int):dayY (y+1)=dayY y+365+(if rK y then 1 else 0):=by
 unfold dayY rK;simp only [aA,gv,bZ];split<;>omega
theorem mF {y:Int} (h:-20000000000000000<=y/\y<=20000000000000000):-8000000000000000000<=dayY y/\dayY y<=8000000000000000000:=by
 unfold dayY;omega
theorem S8 (y:Int):cumM y 12=365+(if rK y then 1 else 0):=by
 have e:∀k:Nat,cumM y (k+1)=cumM y k+lenI y ((k+1:Nat):Int):=λ_=>rfl;have z:cumM y 0=0:=rfl;rw [e 11,e 10,e 9,e 8,e 7,e 6,e 5,e 4,e 3,e 2,e 1,e 0,z];unfold lenI;cases rK y<;>rfl
theorem qU (y:Int):∀k:Nat,0<=cumM y k/\cumM y k<=31*(k:Int)
 | 0=>by simp [cumM]
 | k+1=>by
  have b:=qU y k;have a:=ln y ((k+1:Nat):Int);show 0<=cumM y k+lenI y ((k+1:Nat):Int)/\cumM y k+lenI y ((k+1:Nat):Int)<=_;omega
theorem xd {y:Int} (h:dE y) {m:Nat} (a:m<=24):-8100000000000000000<=dayM y m/\dayM y m<=8100000000000000000:=by
 unfold dE at h;unfold dayM;split
 ·have:=qU y (m - 1);have:=mF (y:=y) (by omega);omega
 ·have:=qU (y+1) (m - 13);have:=mF (y:=y+1) (by omega);omega
theorem O7 (y:Int):dayM y 13=dayY (y+1):=by
 unfold dayM;rw [ab (by omega)];simp [cumM]
theorem IA (y:Int) {m:Nat} (b:1<=m) (a:m<=12):dayM y (m+1)=dayM y m+lenI y (m:Int):=by
 obtain ⟨k,rfl⟩:∃k,m=k+1:=⟨m - 1,by omega⟩;have e:dayM y (k+1)=dayY y+cumM y k:=by unfold dayM;rw [ae (by omega)];rfl
 rw [e];by_cases h:k+1=12
 ·obtain rfl:k=11:=by omega
  rw [O7,Jb];have:=S8 y;have e:cumM y 12=cumM y 11+lenI y ((11+1:Nat):Int):=rfl;omega
 ·have:dayM y (k+1+1)=dayY y+cumM y (k+1):=by unfold dayM;rw [ae (by omega)];rfl
  rw [this];show dayY y+(cumM y k+lenI y ((k+1:Nat):Int))=_;omega
theorem IW (y:Int) {m:Nat} (b:1<=m) (a:m<=12):dayM y (m+12)=dayM (y+1) m:=by
 unfold dayM;rw [ab (by omega),ae a];congr 2
theorem pQ (n:Nat) {y:Int} (h:-10000000000000001<=y/\y<=10000000000000001):ka n y=some (dayY y):=by
 have a:=mF (y:=y) (by omega);unfold ka;rw [uo n (by omega),wrap_i64 (365*y) (by omega) (by omega)];show some (IntKind.wrap .i64 (dayY y))=_;rw [wrap_i64 _ (by omega) (by omega)]
theorem qe (n:Nat) {y:Int} (h:dE y):jQ n y=some (dayY y,0):=by
 unfold jQ;have h':=h;unfold dE at h';rw [fk,ae h,pQ n (by omega)];rfl
theorem Ap (n:Nat) {y:Int} (h:dE y):qN n y=some (dayY (y+1) - 1,0):=by
 unfold qN;have h':=h;unfold dE at h';have a:=mF (y:=y+1) (by omega);rw [fk,ae h,wrap_i64 (y+1) (by omega) (by omega),pQ n (by omega)];show some (IntKind.wrap .i64 (dayY (y+1) - 1),(0:Int))=_;rw [wrap_i64 _ (by omega) (by omega)]
theorem Bj (n:Nat) {y:Int} (h:dE y) {m:Nat} (d:m<=11):∀(r j:Nat),j+r=m->∀N,r<N->aw (bv n) N (y,dayY y+cumM y j,(m:Int),(j:Int))=some (dayY y+cumM y m):=by
 have h':=h;unfold dE at h';have c:=mF (y:=y) (by omega);intro r
 induction r with
 | zero=>
  intro j a N b;obtain ⟨N,rfl⟩:∃k,N=k+1:=⟨N - 1,by omega⟩;obtain rfl:j=m:=by omega
  have:bv n (y,dayY y+cumM y j,(j:Int),(j:Int))=some (.inr (dayY y+cumM y j)):=by
   unfold bv;rw [bG,ab (show ¬((j:Int)<(j:Int)) by omega)]
  rw [aw,this]
 | succ r ih=>
  intro j a N b;obtain ⟨N,rfl⟩:∃k,N=k+1:=⟨N - 1,by omega⟩;have w:IntKind.wrap .i64 ((j:Int)+1)=((j+1:Nat):Int):=by rw [wrap_i64 _ (by omega) (by omega)];omega
  have hc:=qU y j;have e:=ln y ((j+1:Nat):Int);have:bv n (y,dayY y+cumM y j,(m:Int),(j:Int))=some (.inl (y,dayY y+cumM y (j+1),(m:Int),((j+1:Nat):Int))):=by
   unfold bv;rw [bG,ae (show ((j:Int)<(m:Int)) by omega)];simp only [w,tN n h (show 1<=j+1 by omega) (show j+1<=12 by omega),ob];rw [wrap_i64 (dayY y+cumM y j+lenI y ((j+1:Nat):Int)) (by omega) (by omega),Int.add_assoc];rfl
  rw [aw,this];exact ih (j+1) (by omega) N (by omega)
theorem rh (n:Nat) (c:100<n) {y:Int} (h:dE y) {m:Nat} (b:1<=m) (a:m<=12):eH n y (m:Int)=some (dayM y m,0):=by
 unfold eH;have w:IntKind.wrap .i64 ((m:Int) - 1)=((m - 1:Nat):Int):=by rw [wrap_i64 _ (by omega) (by omega)];omega
 rw [DG n h b a,qe n h,w];have:=Bj n h (m:=m - 1) (by omega) (m - 1) 0 (by omega) n (by omega);rw [show dayY y+cumM y 0=dayY y by simp [cumM]] at this;show ob (aw (bv n) n (y,dayY y,((m - 1:Nat):Int),((0:Nat):Int))) _=_;rw [this];unfold dayM;rw [ae a];rfl
theorem CB (n:Nat) (c:100<n) {y:Int} (h:dE y) {m:Nat} (b:1<=m) (a:m<=12):fW n y (m:Int)=some (dayM y (m+1) - 1,0):=by
 unfold fW;have d:=xd h (m:=m) (by omega);have e:=ln y (m:Int);rw [rh n c h b a,tN n h b a,IA y b a];show some (IntKind.wrap .i64 (IntKind.wrap .i64 (dayM y m+lenI y (m:Int)) - 1),(0:Int))=_;rw [wrap_i64 (dayM y m+lenI y (m:Int)) (by omega) (by omega),wrap_i64 _ (by omega) (by omega)]
theorem FT (n:Nat) (d:100<n) {y:Int} (h:dE y) {j m c:Nat} (l:j<21) (e:lV[j]?=some ((m:Int),(c:Int))) (i:1<=m) (f:m<=12) (p:1<=c) (k:c<=6) (g:12<m+c - 1->y≠10000000000000000):
  gj n y ((21+j:Nat):Int)=some (0,dayM y m,0,dayM y (m+c) - 1,0):=by
 have o:eG n ((21+j:Nat):Int)=some ((m:Int),(c:Int),0):=by
  unfold eG db;rw [bG,bG,ab (by omega),ab (by omega)];have:IntKind.wrap .i64 (((21+j:Nat):Int) - 21)=(j:Int):=by rw [wrap_i64 _ (by omega) (by omega)];omega
  rw [this,fg l];show ob (lV[j]?) _=_;rw [e];rfl
 unfold gj;rw [o];simp only [ob,gO,af];rw [rh n d h i f];simp only [ob,gO,af];rw [madd n h i f p k];have h':=h;unfold dE at h';by_cases a:12<m+c - 1
 ·rw [ae a,ab (g a)];have b:dE (y+1):=by unfold dE;have:=g a;omega
  simp only [ob,gO,af];rw [CB n d b (m:=m+c - 1 - 12) (by omega) (by omega)];have:=IW y (m:=m+c - 1 - 12+1) (by omega) (by omega);rw [show m+c - 1 - 12+1+12=m+c by omega] at this;rw [this]
 ·rw [ab a];simp only [ob,gO,af];rw [CB n d h (m:=m+c - 1) (by omega) (by omega),show m+c - 1+1=m+c by omega]
def twoV (s:aa):Nat:=match s with
 | [a,b]=>10*(a.toNat - 48)+(b.toNat - 48)
 | _=>0
def yOf (g:Bool) (dg:aa) (x:Int):Int:=if g then -((val dg x.toNat:Nat):Int) else ((val dg x.toNat:Nat):Int)
def spF (m:aa):Nat:=((lV.getD (sea m - 21).toNat (0,0)).1).toNat
def spC (m:aa):Nat:=((lV.getD (sea m - 21).toNat (0,0)).2).toNat
def sP (g:Bool) (dg:aa) (x:Int) (m d:aa):Int×Int:=
 if m=[] then (dayY (yOf g dg x),dayY (yOf g dg x+1) - 1)
 else if 0<sea m then (dayM (yOf g dg x) (spF m),dayM (yOf g dg x) (spF m+spC m) - 1)
 else if d=[] then (dayM (yOf g dg x) (twoV m),dayM (yOf g dg x) (twoV m+1) - 1)
 else (dayM (yOf g dg x) (twoV m)+(twoV d:Int) - 1,dayM (yOf g dg x) (twoV m)+(twoV d:Int) - 1)
def exD (dg m d:aa) (q:Int):Bool:=!(hasX dg||(hasX m||hasX d))&&(q==0)
theorem Na {s:aa} (h:hasX s=false) {c:UInt8} (hc:c∈s):c≠88:=by
 rintro rfl;unfold hasX at h;rw [pZ] at h;exact h 88 hc (by decide)
theorem Ix {s:aa} (h:hasX s=false) {k:Nat} (l:k<100) (c:agr s k=true):twoV s=k/\s=two k:=by
 unfold agr at c;split at c
 ·rename_i a b;have f:a≠88:=Na h (by simp);have e:b≠88:=Na h (by simp);simp only [aA,gv,bg] at c;obtain ⟨g,d⟩:=c;have g:=g.resolve_left f;have d:=d.resolve_left e;subst g d;refine ⟨?_,rfl⟩;unfold twoV;have i:(UInt8.ofNat (48+k / 10)).toNat=48+k / 10:=by simp;omega
  have j:(UInt8.ofNat (48+k%10)).toNat=48+k%10:=by simp;omega
  simp only [i,j];omega
 ·cases c
theorem wW {s:aa} (h:hasX s=false) {g:Nat} (d:g<100) (a:dN s g=true):1<=twoV s/\twoV s<=g/\s=two (twoV s):=by
 unfold dN at a;obtain ⟨i,hi,a⟩:=pT.1 a;have:=jy.1 hi;obtain ⟨b,c⟩:=Ix h (by omega) a;rw [b];exact ⟨by omega,by omega,c⟩
theorem Ic {s:aa} (h:hasX s=false) {g:Nat} (d:g<100) {k:Int} (a:k∈rr (fitN s g)):k=(twoV s:Int):=by
 obtain ⟨i,hi,rfl⟩:=du.1 a;obtain ⟨c,b⟩:=jX.1 hi;have:=qu.1 c;rw [(Ix h (by omega) b).1]
theorem EU {k:Nat} (c:k<100):Lib.atoi (two k)=some (k:Int):=by
 have a:(UInt8.ofNat (48+k / 10)).toNat=48+k / 10:=by simp;omega
 have b:(UInt8.ofNat (48+k%10)).toNat=48+k%10:=by simp;omega
 unfold two;rw [DI (by omega) (by omega),a,b];congr 2;omega
structure Exact (g l:Bool) (dg:aa) (x:Int) (m d:aa):Prop where
 ok:okY g l dg x 0
 num:hasX dg=false
 cal:dE (yOf g dg x)
 mon:m=[]\/(∃j,j<21/\m=two (21+j)/\(j=3\/j=7\/j=9->yOf g dg x≠10000000000000000))\/(sea m=0/\1<=twoV m/\twoV m<=12/\m=two (twoV m))
 day:d=[]\/(m≠[]/\sea m=0/\1<=twoV d/\twoV d<=31/\d=two (twoV d)/\(twoV d:Int)<=lenI (yOf g dg x) (twoV m:Int))
theorem MR {g l:Bool} {dg:aa} {x q:Int} {m d:aa} {k0 k1 k2:Int} (hc:chkF g l dg x q m d k0 k1 k2=0) (f:exD dg m d q=true):q=0/\Exact g l dg x m d:=by
 unfold exD at f;simp only [aA,jL,mB,bg] at f;obtain ⟨⟨D,n,i⟩,rfl⟩:=f;refine ⟨rfl,?_⟩;have C:=qK hc;obtain ⟨a,I,Q,S,A⟩:=mT C;obtain ⟨r,H,c3,R⟩:=H8 C;have o:=CO a D;obtain ⟨G,_,_⟩:=CW a;have N:inP g dg x 0 (yOf g dg x):=by
  have:=(o _).1 G;have e:yOf g dg x=(sgn g (lC g dg x 0)).1:=by rw [this];rfl
  rw [e];exact G
 have s:=yD N;refine ⟨a,D,s,?_,?_⟩
 ·by_cases p:m=[]
  ·exact .inl p
  ·right;rcases mK m with P | ⟨j,F,e⟩
   ·right;rcases H with h | h | h
    ·exact absurd h p
    ·omega
    ·obtain ⟨a1,a2,t⟩:=wW n (by omega) h;exact ⟨P,a1,a2,t⟩
   ·left;refine ⟨j,F,e,λJ=>?_⟩;unfold yrD at r;rw [ae a] at r;unfold yrB at r;simp only [aA,jL] at r;have E:wint (sea m)=true:=by
     rw [e,lK F];rcases J with rfl | rfl | rfl<;>rfl
    have k:=r.2;rw [E,nS] at k;unfold pM at k;rw [D] at k;intro b;unfold yOf at b;cases g with
    | true=>
     simp only [aJ] at b;omega
    | false=>
     simp only [bq,aE] at b;have:val dg x.toNat=E16:=by unfold E16;omega
     rw [am this] at k;cases k
 ·by_cases c:d=[]
  ·exact .inl c
  ·right;obtain ⟨p,O⟩:=A c;rcases c3 with h | ⟨_,_,h⟩
   ·exact absurd h c
   ·obtain ⟨a1,a2,t⟩:=wW i (by omega) h;refine ⟨p,O,a1,a2,t,?_⟩;have M:hasF g dg x m d:=by
     unfold chkF at hc;split at hc
     ·cases hc
     ·rename_i K;by_cases h:hasF g dg x m d
      ·exact h
      ·exact absurd ⟨C,c,h⟩ K
    obtain ⟨e,f,u⟩:=M;obtain ⟨z,L,v⟩:=List.exists_cons_of_ne_nil u;have v:z∈sQ m d e:=by rw [v];exact qD
    obtain ⟨z1,z2,B,y⟩:=Dq.1 v;have w:e=yOf g dg x:=(o e).1 f;unfold monI at z2;rw [ab p,ab (by omega)] at z2;unfold dayI at B;rw [ab c] at B;unfold sV at y;rw [ab c,Ic i (by omega) B,Ic n (by omega) z2,w] at y;exact y
theorem PW {j:Nat} (b:j<21):∃f c:Nat,lV[j]?=some ((f:Int),(c:Int))/\1<=f/\f<=12/\1<=c/\c<=6/\(12<f+c - 1↔j=3\/j=7\/j=9)/\spF (two (21+j))=f/\spC (two (21+j))=c:=by
 obtain ⟨f,c,e,l,h,i,g,k⟩:=D2 b;have d:(sea (two (21+j)) - 21).toNat=j:=by rw [lK b];omega
 have a:lV.getD j (0,0)=((f:Int),(c:Int)):=by rw [A7,e];rfl
 refine ⟨f,c,e,l,h,i,g,k,?_,?_⟩
 ·unfold spF;rw [d,a];rfl
 ·unfold spC;rw [d,a];rfl
theorem DW (n:Nat) (g l:Bool) (dg:aa) (x q:Int) (m d:aa) (k0 k1 k2:Int) (b:m.length<=1000) (a:dg.length<=1000) (h:d.length<=1000):kB n g l dg x q m d k0 k1 k2=some (exD dg m d q):=by
 unfold kB exD;rw [zx n g l dg x q m d k0 k1 k2 b a h];simp only [ob];cases (hasX dg||(hasX m||hasX d))<;>rfl
theorem NN {Y:Type} (a b:Y):∀s:aa,((s.findSome? λc=>if c=88 then some a else none).getD b)=if hasX s then a else b
 | []=>rfl
 | c::s=>by
  have ih:=NN a b s;unfold hasX at ih ⊢;rw [AI,oh];by_cases hc:c=88
  ·subst hc;rfl
  ·rw [ab hc];have e:(c==88)=false:=aM.2 hc;rw [e,nP];exact ih
theorem vU (n:Nat) (s:aa) (g l:Bool) (dg:aa) (x q:Int) (m d:aa) (k0 k1 k2:Int) (k:s.length<=100000) {N:Nat} (b:s.length<N):
  aw (eQ n) N (s,0,g,l,dg,x,q,m,d,k0,k1,k2)=some (if hasX s then .inl 0 else .inr (g,l,dg,x,q,m,d,k0,k1,k2)):=by
 have:=rt (step:=eQ n) (f:=λi=>(s,(i:Int),g,l,dg,x,q,m,d,k0,k1,k2)) (L:=s) (G:=λc=>if c=88 then some (.inl 0) else none) (e:=.inr (g,l,dg,x,q,m,d,k0,k1,k2))
  (λi c hi=>by
   have j:=(qf.1 hi).1;have a:IntKind.wrap .i64 ((i:Int)+1)=((i+1:Nat):Int):=by rw [wrap_i64 _ (by omega) (by omega)];omega
   unfold eQ;simp only [d4,d8,a];rw [am (show (i:Int)<((s.length:Nat):Int) by omega),dF hi];simp only [aj,ob];by_cases hc:c=88
   ·subst hc;rw [ae rfl];rfl
   ·rw [ab hc];have:(((c.toNat:Nat):Int)==88)=false:=by
     rw [aM];intro h;apply hc;apply fF.1;have:c.toNat=88:=by omega
     rw [this];rfl
    rw [this];rfl)
  (by
   unfold eQ;simp only [d4,d8];rw [ar (show ¬((s.length:Nat):Int)<((s.length:Nat):Int) by omega)];rfl)
  b
 rw [show ((0:Nat):Int)=0 from rfl] at this;rw [this];rw [NN]
theorem Jr (n:Nat) (g l:Bool) (dg:aa) (x q:Int) (m d:aa) (k0 k1 k2:Int) (i:m.length<=1000) (e:dg.length<=1000) (h:d.length<=1000) (f:4000<n):kJ n g l dg x q m d k0 k1 k2=some (if exD dg m d q then 1 else 0):=by
 unfold kJ;rw [eZ (by omega)];simp only [ob];rw [eZ (by rw [bV];omega)];simp only [];rw [vU n _ _ _ _ _ _ _ _ _ _ _ (by simp only [bV];omega) (by simp only [bV];omega)];rw [th,th];unfold exD;cases hasX dg<;>cases hasX m<;>cases hasX d<;>(try rfl);simp only [wh,bq,aE,ob,d4,ie,nS];by_cases a:q=0
 ·subst a;rfl
 ·have c:(q != 0)=true:=by simp [a]
  have b:(q==0)=false:=aM.2 a;rw [c,b];rfl
theorem Pi (n:Nat) (c:100<n) {y:Int} (h:dE y) {m k:Nat} (b:1<=m) (a:m<=12) (k1:1<=k) (k2:(k:Int)<=lenI y (m:Int)):pu n y (m:Int) (k:Int)=some (dayM y m+(k:Int) - 1,0):=by
 have d:=xd h (m:=m) (by omega);have e:=ln y (m:Int);unfold pu oz;rw [IE n h b a];simp only [ob,gO,af];rw [ar (show ¬(k:Int)<1 by omega),ar (show ¬(k:Int)>lenI y (m:Int) by omega),rh n c h b a];simp only [ob,gO,af];rw [wrap_i64 (dayM y m+(k:Int)) (by omega) (by omega),wrap_i64 _ (by omega) (by omega)]
section
variable {g l:Bool} {dg:List UInt8} {x:Int} {m d:List UInt8} {k0 k1 k2:Int}
theorem BQ (n:Nat) (v:100<n) (w:m.length<=18) (E:Exact g l dg x m d) (q r:Int) (z:m≠[]->q=if 0<sea m then sea m else (twoV m:Int)) (L:d≠[]->r=(twoV d:Int)):
  (ob (hJ n) λC=>(ob (aW n g l dg x 0 m d k0 k1 k2) λk=>(cond (k==0) (ob (fm n (yOf g dg x) ([q,r]:List (Int))) λb=>(some (b.1,b.2.1,b.2.2.1,b.2.2.2,(0:Int)))) (cond (k==1) (ob (fE n (yOf g dg x) ([q,r]:List (Int))) λa=>(some (a.1,a.2.1,a.2.2.1,a.2.2.2,0))) (cond (k==2) (ob (fp n (yOf g dg x) ([q,r]:List (Int))) λi=>(some (i.1,i.2.1,i.2.2.1,i.2.2.2,0))) (cond (k==3) (ob (fq n (yOf g dg x) ([q,r]:List (Int))) λo=>(some (o.1,o.2.1,o.2.2.1,o.2.2.2,0))) none)))))) =
   some (0,(sP g dg x m d).1,0,(sP g dg x m d).2,0):=by
 have H:hJ n=some ():=rfl;have y:ix ([q,r]:List Int).length 0=some 0:=rfl;have P:ix ([q,r]:List Int).length 1=some 1:=rfl;have g0:([q,r]:List Int)[0]?=some q:=rfl;have N:([q,r]:List Int)[1]?=some r:=rfl;rw [H,H9 n g l dg x 0 m d k0 k1 k2 w];unfold sP;by_cases u:d=[]
 ·rw [ae u];by_cases p:m=[]
  ·have s:sea m=0:=by rw [p];decide
   rw [ab (show ¬0<sea m by omega),ae p,ae p];unfold fE;rw [qe n E.cal,Ap n E.cal];rfl
  ·rw [ab p];by_cases s:0<sea m
   ·rw [ae s,ae s];rcases E.mon with h | ⟨j,t,e,A⟩ | ⟨h,_⟩
    ·exact absurd h p
    ·obtain ⟨f,c,M,a1,a2,I,K,Q,O,G⟩:=PW t;have D:q=((21+j:Nat):Int):=by rw [z p,ae s,e,lK t]
     unfold fm;rw [y];simp only [ob,g0];rw [D,FT n v E.cal t M a1 a2 I K (λh=>A (Q.1 h)),e,O,G];rfl
    ·omega
   ·rw [ab s,ab s,ab p,ae u];rcases E.mon with h | ⟨j,t,e,A⟩ | ⟨_,a1,a2,_⟩
    ·exact absurd h p
    ·rw [e,lK t] at s;omega
    ·have D:q=(twoV m:Int):=by rw [z p,ab s]
     unfold fp;rw [y];simp only [ob,g0];rw [D,rh n v E.cal a1 a2,CB n v E.cal a1 a2];rfl
 ·rw [ab u];rcases E.day with h | ⟨p,s,b1,b2,R,J⟩
  ·exact absurd h u
  ·rw [ab p,ab (show ¬0<sea m by omega),ab u];rcases E.mon with h | ⟨j,t,e,A⟩ | ⟨_,a1,a2,_⟩
   ·exact absurd h p
   ·rw [e,lK t] at s;omega
   ·have B:q=(twoV m:Int):=by rw [z p,ab (by omega)]
    have F:=L u;unfold fq;rw [y,P];simp only [ob,g0,N];rw [B,F,Pi n v E.cal a1 a2 b1 J];rfl
theorem KZ (E:Exact g l dg x m d) (c:m≠[]):Lib.atoi m=some (if 0<sea m then sea m else (twoV m:Int)):=by
 rcases E.mon with h | ⟨j,a,e,_⟩ | ⟨f,a1,a2,b⟩
 ·exact absurd h c
 ·rw [e,lK a,ae (by omega)];exact um a
 ·rw [ab (by omega)];have:=EU (k:=twoV m) (by omega);rw [<-b] at this;exact this
theorem Ky (E:Exact g l dg x m d) (a:d≠[]):Lib.atoi d=some (twoV d:Int):=by
 rcases E.day with h | ⟨_,_,a1,a2,b,_⟩
 ·exact absurd h a
 ·have:=EU (k:=twoV d) (by omega);rw [<-b] at this;exact this
theorem xl:Lib.atoi []=none:=by kernel_rfl
theorem BE {q:Int} (b:m.length<=18) (e:dg.length<=100) (n:d.length<=18) (k:0<=k0) (s:0<=k1) (p:0<=k2):
  fJ 20000000 g l dg x q m d k0 k1 k2=some (if chkF g l dg x q m d k0 k1 k2=0 then (if exD dg m d q=true then (0,(sP g dg x m d).1,0,(sP g dg x m d).2,0) else (0,0,0,0,1)) else (0,0,0,0,chkF g l dg x q m d k0 k1 k2)):=by
 have o:Nat.ble m.length 18=true:=dn b;have r:Nat.ble d.length 18=true:=dn n;unfold fJ;rw [tu b e k s p];simp only [ob];by_cases hc:chkF g l dg x q m d k0 k1 k2=0
 ·rw [ae hc,hc,DW 20000000 g l dg x q m d k0 k1 k2 (by omega) (by omega) (by omega)];simp only [ob,gO,af];by_cases c:exD dg m d q=true
  ·rw [ae c,c];obtain ⟨rfl,E⟩:=MR hc c;have t:dK 20000000 g l dg x 0=some (yOf g dg x,0):=by
    rw [yB 20000000 g l dg x 0 (by omega) e,ae ⟨E.ok,E.num⟩];rfl
   rw [t,o,r];simp only [cV,af,aj,ob];by_cases i:m=[]
   ·have a:d=[]:=by
     rcases E.day with h | ⟨h,_⟩
     ·exact h
     ·exact absurd i h
    have:=BQ (k0:=k0) (k1:=k1) (k2:=k2) 20000000 (by omega) b E 0 0 (λh=>absurd i h) (λh=>absurd a h);have f:Lib.atoi m=none:=by rw [i];exact xl
    have j:Lib.atoi d=none:=by rw [a];exact xl
    rw [f,j];simp only [opt];exact this
   ·have f:=KZ E i;by_cases a:d=[]
    ·have:=BQ (k0:=k0) (k1:=k1) (k2:=k2) 20000000 (by omega) b E (if 0<sea m then sea m else (twoV m:Int)) 0 (λ_=>rfl) (λh=>absurd a h);have j:Lib.atoi d=none:=by rw [a];exact xl
     rw [f,j];simp only [opt];exact this
    ·have:=BQ (k0:=k0) (k1:=k1) (k2:=k2) 20000000 (by omega) b E (if 0<sea m then sea m else (twoV m:Int)) (twoV d:Int) (λ_=>rfl) (λ_=>rfl);rw [f,Ky E a];simp only [opt];exact this
  ·rw [ab c];rw [C6] at c;rw [c];rfl
 ·rw [ab hc,bne0 hc];rfl
end
end Go.Sh
