
/- Plain proofs, kept as far as they are needed here (printed by prune.py).
   Conditions: none. -/
import Derived.Test.YtfiponokimbeeaaGreatDoorLawRza
set_option linter.unusedVariables false
set_option linter.unusedSimpArgs false
set_option maxRecDepth 100000
namespace Go.Sh
open Go.Abs
def ck (A B:Nat) (w:aa):aa:=mt A++w++mt B
def r7 (g l:Bool) (dg:aa) (x q:Int) (m d:aa) (k0 k1 k2:Nat):aa:=
 ck (plA (ei m d) k0 k1 k2).1 (plB (ei m d) k0 k1 k2).1 (gh g l dg x q)
  ++ ((if m=[] then [] else 45::ck (plA (ei m d) k0 k1 k2).2.1 (plB (ei m d) k0 k1 k2).2.1 m)
  ++ (if d=[] then [] else 45::ck (plA (ei m d) k0 k1 k2).2.2 (plB (ei m d) k0 k1 k2).2.2 d))
structure OkD (g l:Bool) (dg:aa) (x q:Nat) (m d:aa) (k0 k1 k2:Nat):Prop where
 yr:okY g l dg (x:Int) (q:Int)
 x16:x<=16
 q17:q<=17
 dg17:dg.length<=17
 noM:0<q->m=[]
 mon:m=[]\/(m.length=2/\∀c∈m,isDX c=true)
 day:d=[]\/(m≠[]/\d.length=2/\∀c∈d,isDX c=true)
 m0:k0<4
 m1:k1<4
 m2:k2<4
 z1:ei m d<2->k1=0
 z2:ei m d<3->k2=0
theorem KH {g l:Bool} {dg:aa} {x q:Int} {m d:aa} {k0 k1 k2:Int} (A:0<=k0) (w:0<=k1) (v:0<=k2) (h:chkD g l dg x q m d k0 k1 k2=0):
  ∃p o a b c:Nat,x=(p:Int)/\q=(o:Int)/\k0=(a:Int)/\k1=(b:Int)/\k2=(c:Int)/\OkD g l dg p o m d a b c:=by
 obtain ⟨hy,f,j,n⟩:=IC h;unfold yrD at hy;by_cases e:okY g l dg x q
 rotate_left
 ·rw [ab e] at hy;cases hy
 rw [ae e] at hy;obtain ⟨r,B,t,y,u,s⟩:=ma e;have hk':¬(3<k0\/3<k1\/3<k2\/(ei m d<2/\k1≠0)\/(ei m d<3/\k2≠0)):=by
  intro z;unfold allM at n;rw [ae z] at n;exact absurd n (by decide)
 refine ⟨x.toNat,q.toNat,k0.toNat,k1.toNat,k2.toNat,by omega,by omega,by omega,by omega,by omega,?_⟩;rw [<-FN r,<-FN t] at e;refine ⟨e,by omega,by omega,s,?_,?_,?_,by omega,by omega,by omega,by omega,by omega⟩
 ·intro C;unfold yrB at hy;have hq':decide (0<q)=true:=by simp;omega
  rw [hq'] at hy;by_cases i:m=[]
  ·exact i
  ·have:(m==[])=false:=aW.2 i;rw [this] at hy;simp at hy
 ·rcases f with f | f | f
  ·exact .inl f
  ·exact .inr (Ic f)
  ·exact .inr (rz (by omega) f)
 ·rcases j with j | ⟨j,_,k⟩
  ·exact .inl j
  ·have:=rz (show 31<=31 by omega) k;exact .inr ⟨j,this.1,this.2⟩
theorem Nx (n k i:Nat) (hi:i<k) (C:k<=3) (A B:List Nat) (a b:Nat) (q:A[i]?=some a) (l:B[i]?=some b) (g:a<4) (f:b<4) (ws:List (aa)) (x:ws.length=k) (w:aa) (w0 e d:aa) (r:[w0,e,d][i]?=some w) (p:w.length<=1000):
  aN n (k,(k:Int),(i:Int),A.map cI,B.map cI,ws,[w0,e,d])=some (.inl (k,(k:Int),((i+1:Nat):Int),A.map cI,B.map cI,ws.set i (ck a b w),[w0,e,d])):=by
 have w2':IntKind.wrap .i64 ((i:Int)+1)=((i+1:Nat):Int):=by rw [wrap_i64 _ (by omega) (by omega)];omega
 have h:(A.map cI)[i]?=some (a:Int):=by rw [lG,q];rfl
 have m:(B.map cI)[i]?=some (b:Int):=by rw [lG,l];rfl
 have c:∀z:Nat,z<4->(mt z).length<=1:=λz t=>by
  unfold mt;split
  ·simp
  ·split
   ·simp
   ·split<;>simp
 unfold aN;rw [bL,ae (show (i:Int)<(k:Int) by omega)];simp only [eu hi,eu (show i<3 by omega),ob,r,d4,h,m,(S1 n a g).1,(S1 n b f).1];have u:=c a g;have y:=c b f;have j:cat (mt a) w=some (mt a++w):=gj (by omega);have s:cat (mt a++w) (mt b)=some (mt a++w++mt b):=gj (by rw [bH];omega);rw [j];simp only [ob];rw [s];simp only [ob];have hi':i<ws.length:=by omega
 obtain ⟨v,o⟩:∃v,ws[i]?=some v:=⟨ws[i],bn hi'⟩;rw [eu hi'];simp only [ob,o,w2'];rfl
theorem C0 (n k:Nat) (A B:List Int) (ws V:List (aa)):aN n (k,(k:Int),(k:Int),A,B,ws,V)=some (.inr ws):=by
 unfold aN;rw [bL,ab (show ¬((k:Int)<(k:Int)) by omega)]
theorem lW (a b:Nat) (w:aa):(ck a b w).length<=w.length+2:=by
 have c:∀z:Nat,(mt z).length<=1:=λz=>by
  unfold mt;split
  ·simp
  ·split
   ·simp
   ·split<;>simp
 have:=c a;have:=c b;unfold ck;simp only [bH];omega
theorem OS:ei [] []=1:=rfl
theorem I6 {m:aa} (h:m≠[]):ei m []=2:=by unfold ei;rw [aW.2 h];rfl
theorem JZ {m d:aa} (h:m≠[]) (a:d≠[]):ei m d=3:=by unfold ei;rw [aW.2 h,aW.2 a];rfl
theorem nQ {d:aa} (h:d.length=2):d≠[]:=by rintro rfl;simp at h
theorem QF (n:Nat) (g l:Bool) (dg:aa) (x q:Nat) (m d:aa) (k0 k1 k2:Nat) (X:m.length<=18) (P:dg.length<=100):
  cN (n+300) g l dg (x:Int) (q:Int) m d (k0:Int) (k1:Int) (k2:Int)=some (if chkD g l dg (x:Int) (q:Int) m d (k0:Int) (k1:Int) (k2:Int)=0 then (r7 g l dg (x:Int) (q:Int) m d k0 k1 k2,0) else ([],chkD g l dg (x:Int) (q:Int) m d (k0:Int) (k1:Int) (k2:Int))):=by
 unfold cN;rw [zE (n+300) (by omega) g l dg _ _ m d _ _ _ X P (by omega) (by omega) (by omega)];show cond (chkD g l dg (x:Int) (q:Int) m d (k0:Int) (k1:Int) (k2:Int) != 0) _ _=_;rw [An];by_cases E:chkD g l dg (x:Int) (q:Int) m d (k0:Int) (k1:Int) (k2:Int)=0
 rotate_left
 ·rw [ab E,ab E]
 rw [ae E,ae E];obtain ⟨Z,T,a,b,c,e1,e2,e3,e4,e5,o⟩:=KH (by omega) (by omega) (by omega) E;obtain rfl:x=Z:=by omega
 obtain rfl:q=T:=by omega
 obtain rfl:k0=a:=by omega
 obtain rfl:k1=b:=by omega
 obtain rfl:k2=c:=by omega
 have hc:=ql m d;have K:=(Vs n (ei m d) k0 k1 k2 hc o.m0 o.m1 o.m2 o.z1 o.z2).1;obtain ⟨F,H,O,y,I,N⟩:=UD (k:=ei m d) o.m0 o.m1 o.m2;rw [oS (n+300) (by omega)];simp only [ob];rw [K,zr (n+300) g l dg _ _ (by omega) P,ae o.yr];simp only [ob,fj,ah,KC o.yr,aj];have C:(decide ((0:Int)<=((ei m d:Nat):Int))&&(decide (((ei m d:Nat):Int)<=((ei m d:Nat):Int))&&decide (((ei m d:Nat):Int)<=(67108864:Int))))=true:=by
  rw [au (by omega),au (by omega),au (by omega)];rfl
 rw [C,fQ (show ei m d<=3 by omega)];simp only [ob,aj,cV];have M:=xj o.yr;have W:Nat.ble 1 140737488355328=true:=rfl;have q2:Nat.ble 2 140737488355328=true:=rfl;have Q:Nat.ble 3 140737488355328=true:=rfl;unfold r7;generalize gh g l dg (x:Int) (q:Int)=Y at M;generalize B:plA (ei m d) k0 k1 k2=S at *;generalize D:plB (ei m d) k0 k1 k2=PB at *;obtain ⟨f,r,t⟩:=S;obtain ⟨j,p,s⟩:=PB;simp only at F H O y I N;have st:=λ(k i:Nat) (hi:i<k) (hk:k<=3) (a b:Nat) (ha:[f,r,t][i]?=some a) (hb:[j,p,s][i]?=some b) (a4:a<4) (b4:b<4) (ws:List (aa)) (hl:ws.length=k) (w:aa) (w0 w1 w2:aa) (G:[w0,w1,w2][i]?=some w) (hwl:w.length<=1000)=>Nx (n+300) k i hi hk [f,r,t] [j,p,s] a b ha hb a4 b4 ws hl w w0 w1 w2 G hwl;have A:∀L:aa,L.length<=1000->Nat.ble L.length 140737488355328=true:=λL h=>cr (by omega);by_cases u:m=[]
 ·have v:d=[]:=o.day.resolve_right (λz=>z.1 u);subst u v;show ob (aq (aN (n+300)) (n+299+1) (1,((1:Nat):Int),((0:Nat):Int),[f,r,t].map cI,[j,p,s].map cI,[[]],[Y,[],[]])) _=_;rw [aq,st 1 0 (by omega) (by omega) f j rfl rfl F y [[]] rfl Y Y [] [] rfl (by omega)];show ob (aq (aN (n+300)) (n+298+1) (1,((1:Nat):Int),((1:Nat):Int),[f,r,t].map cI,[j,p,s].map cI,[ck f j Y],[Y,[],[]])) _=_;rw [aq,C0];simp only [ob];have e:Lib.join [ck f j Y] [45]=ck f j Y:=Lib.join_one _ _;have G:=lW f j Y;rw [e,A _ (by omega)];simp [W]
 ·have V:m.length=2:=(o.mon.resolve_left u).1;by_cases v:d=[]
  ·subst v;rw [I6 u] at B D ⊢;show ob (aq (aN (n+300)) (n+299+1) (2,((2:Nat):Int),((0:Nat):Int),[f,r,t].map cI,[j,p,s].map cI,[[],[]],[Y,m,[]])) _=_;rw [aq,st 2 0 (by omega) (by omega) f j rfl rfl F y [[],[]] rfl Y Y m [] rfl (by omega)];show ob (aq (aN (n+300)) (n+298+1) (2,((2:Nat):Int),((1:Nat):Int),[f,r,t].map cI,[j,p,s].map cI,[ck f j Y,[]],[Y,m,[]])) _=_;rw [aq,st 2 1 (by omega) (by omega) r p rfl rfl H I [ck f j Y,[]] rfl m Y m [] rfl (by omega)];show ob (aq (aN (n+300)) (n+297+1) (2,((2:Nat):Int),((2:Nat):Int),[f,r,t].map cI,[j,p,s].map cI,[ck f j Y,ck r p m],[Y,m,[]])) _=_;rw [aq,C0];simp only [ob];have e:Lib.join [ck f j Y,ck r p m] [45]=ck f j Y++(45::ck r p m):=by rw [Lib.join_cons];simp [Lib.joinTail]
   have G:=lW f j Y;have J:=lW r p m;rw [e,A _ (by simp only [bH,aM];omega)];rw [ab u];simp [q2]
  ·have U:d.length=2:=(o.day.resolve_left v).2.1;rw [JZ u v] at B D ⊢;show ob (aq (aN (n+300)) (n+299+1) (3,((3:Nat):Int),((0:Nat):Int),[f,r,t].map cI,[j,p,s].map cI,[[],[],[]],[Y,m,d])) _=_;rw [aq,st 3 0 (by omega) (by omega) f j rfl rfl F y [[],[],[]] rfl Y Y m d rfl (by omega)];show ob (aq (aN (n+300)) (n+298+1) (3,((3:Nat):Int),((1:Nat):Int),[f,r,t].map cI,[j,p,s].map cI,[ck f j Y,[],[]],[Y,m,d])) _=_;rw [aq,st 3 1 (by omega) (by omega) r p rfl rfl H I [ck f j Y,[],[]] rfl m Y m d rfl (by omega)];show ob (aq (aN (n+300)) (n+297+1) (3,((3:Nat):Int),((2:Nat):Int),[f,r,t].map cI,[j,p,s].map cI,[ck f j Y,ck r p m,[]],[Y,m,d])) _=_;rw [aq,st 3 2 (by omega) (by omega) t s rfl rfl O N [ck f j Y,ck r p m,[]] rfl d Y m d rfl (by omega)];show ob (aq (aN (n+300)) (n+296+1) (3,((3:Nat):Int),((3:Nat):Int),[f,r,t].map cI,[j,p,s].map cI,[ck f j Y,ck r p m,ck t s d],[Y,m,d])) _=_;rw [aq,C0];simp only [ob];have e:Lib.join [ck f j Y,ck r p m,ck t s d] [45]=ck f j Y++(45::ck r p m++(45::ck t s d)):=by rw [Lib.join_cons];simp [Lib.joinTail]
   have G:=lW f j Y;have J:=lW r p m;have R:=lW t s d;rw [e,A _ (by simp only [bH,aM];omega)];rw [ab u,ab v];simp [Q]
def isMk (c:UInt8):Bool:=decide (0<mkOf c)
theorem fS {S u v:aa} {a:Nat} (h:S.drop a=u++v):S.drop (a+u.length)=v:=by
 rw [<-iL,h,GA];rfl
theorem K6 {A:Nat} (d:A<4) {r:aa} (b:cG isMk r):mkS (mt A++r)=A/\mkN (mt A++r)=(mt A).length:=by
 have a:mkS r=0:=by
  cases r with
  | nil=>rfl
  | cons c r=>
   have:=b c rfl;unfold isMk at this;have:=of_decide_eq_false this;show mkOf c=0;omega
 have h:A=0\/A=1\/A=2\/A=3:=by omega
 rcases h with rfl | rfl | rfl | rfl
 ·refine ⟨a,?_⟩;show mkN r=0;unfold mkN;rw [ae a]
 ·exact ⟨rfl,rfl⟩
 ·exact ⟨rfl,rfl⟩
 ·exact ⟨rfl,rfl⟩
theorem dN {p:UInt8->Bool} {c:UInt8} {r:aa} (h:p c=false):cG p (c::r):=λa hc=>by
 simp only [rE,ak] at hc;rw [<-hc];exact h
theorem JP {p:UInt8->Bool} (B:Nat) {r:aa} (d:p 63=false) (c:p 126=false) (a:p 37=false) (b:cG p r):cG p (mt B++r):=by
 unfold mt;split
 ·exact dN d
 ·split
  ·exact dN c
  ·split
   ·exact dN a
   ·exact b
theorem GH {c:UInt8} (h:isDX c=true):isMk c=false:=by
 have:=gN (λc=>!(isDX c)||!(isMk c)) (by decide +kernel) c;rw [h] at this;simpa using this
theorem uQ {p q:UInt8->Bool} {w r:aa} (b:w≠[]) (h:∀c∈w,p c=true) (a:∀c,p c=true->q c=false):cG q (w++r):=by
 cases w with
 | nil=>exact absurd rfl b
 | cons c w=>exact dN (a c (h c km))
theorem IN {g l:Bool} {d:aa} {x s:Int} (h:okY g l d x s):∀c∈d,isDX c=true:=by
 intro c hc;unfold okY at h;have:bp c=true\/c=88:=by
  split at h
  ·exact .inl (h.1.1 c hc)
  ·exact h.2.1 c hc
 unfold isDX;rcases this with a | a
 ·rw [a];rfl
 ·rw [a];decide
theorem GM {g l:Bool} {d:aa} {x s:Nat} (h:okY g l d (x:Int) (s:Int)) (r:aa):cG isMk (gh g l d (x:Int) (s:Int)++r):=by
 have a:d≠[]:=by
  have:=(ma h).2.2.2.2.1;rintro rfl;simp at this
 rw [kx];cases l with
 | true=>exact dN (by decide)
 | false=>
  cases g with
  | true=>exact dN (by decide)
  | false=>
   simp only [bA,aC,dD,fi];exact uQ a (IN h) (λc=>GH)
theorem sH {S:aa} {p A B:Nat} {w R:aa} (h:S.drop p=ck A B w++R) (m:A<4) (k:B<4) (j:cG isMk (w++(mt B++R))) (i:cG isMk R):
  mkS (S.drop p)=A/\S.drop (mkE S p)=w++(mt B++R)/\mkS (S.drop (mkE S p+w.length))=B/\S.drop (mkE S (mkE S p+w.length))=R/\mkE S (mkE S p+w.length)=p+(ck A B w).length:=by
 have h':S.drop p=mt A++(w++(mt B++R)):=by rw [h];unfold ck;simp
 obtain ⟨e,g⟩:=K6 m j;obtain ⟨f,l⟩:=K6 k i;have d:mkE S p=p+(mt A).length:=by unfold mkE;rw [h',g]
 have c:S.drop (mkE S p)=w++(mt B++R):=by rw [d];exact fS h'
 have b:S.drop (mkE S p+w.length)=mt B++R:=fS c;have a:mkE S (mkE S p+w.length)=mkE S p+w.length+(mt B).length:=by
  show mkE S p+w.length+mkN (S.drop (mkE S p+w.length))=_;rw [b,l]
 refine ⟨by rw [h',e],c,by rw [b,f],by rw [a];exact fS b,?_⟩;rw [a,d];unfold ck;simp only [bH];omega
theorem zl {m r:aa} (d:m.length=2) (h:∀c∈m,isDX c=true):twoN (m++r)=2/\(m++r).take 2=m:=by
 match m,d with
 | [a,b],_=>
  have e:=h a (by simp);have f:=h b (by simp);refine ⟨?_,rfl⟩;unfold twoN;show bq isDX 2 (a::b::r)=2;simp [bq,e,f]
theorem PC {k a b c:Nat} (e:k<2->b=0) (d:k<3->c=0) (f:1<=k):(k<2->(plA k a b c).2.1=0/\(plB k a b c).2.1=0)/\(k<3->(plA k a b c).2.2=0/\(plB k a b c).2.2=0):=by
 unfold plA plB;constructor
 ·intro h;have:k=1:=by omega
  subst this;have:=e h;split
  ·simp
  ·simp [this]
 ·intro h;have:=d h;split
  ·split
   ·simp
   ·have:k=2:=by omega
    simp [this]
  ·simp [this]
def rawD (A B:Nat×Nat×Nat) (g l:Bool) (dg:aa) (x q:Int) (m d:aa):aa:=
 ck A.1 B.1 (gh g l dg x q)++((if m=[] then [] else 45::ck A.2.1 B.2.1 m)++(if d=[] then [] else 45::ck A.2.2 B.2.2 d))
structure MkD (A B:Nat×Nat×Nat) (m d:aa):Prop where
 a0:A.1<4
 a1:A.2.1<4
 a2:A.2.2<4
 b0:B.1<4
 b1:B.2.1<4
 b2:B.2.2<4
 zm:m=[]->A.2.1=0/\B.2.1=0
 zd:d=[]->A.2.2=0/\B.2.2=0
structure ShD (g l:Bool) (dg:aa) (x q:Nat) (m d:aa):Prop where
 yr:okY g l dg (x:Int) (q:Int)
 noM:0<q->m=[]
 mon:m=[]\/(m.length=2/\∀c∈m,isDX c=true)
 day:d=[]\/(m≠[]/\d.length=2/\∀c∈d,isDX c=true)
theorem OkD.sh {g l:Bool} {dg:aa} {x q:Nat} {m d:aa} {k0 k1 k2:Nat} (h:OkD g l dg x q m d k0 k1 k2):ShD g l dg x q m d:=⟨h.yr,h.noM,h.mon,h.day⟩
theorem OkD.marks {g l:Bool} {dg:aa} {x q:Nat} {m d:aa} {k0 k1 k2:Nat} (h:OkD g l dg x q m d k0 k1 k2):MkD (plA (ei m d) k0 k1 k2) (plB (ei m d) k0 k1 k2) m d:=by
 obtain ⟨Q,X,Y,E,U,O⟩:=UD (k:=ei m d) h.m0 h.m1 h.m2;obtain ⟨J,G⟩:=PC (a:=k0) h.z1 h.z2 (ql m d).1;refine ⟨Q,X,Y,E,U,O,λC=>J ?_,λW=>G ?_⟩
 ·have F:d=[]:=h.day.resolve_right (λz=>z.1 C);subst C F;rw [OS];omega
 ·subst W;by_cases C:m=[]
  ·subst C;rw [OS];omega
  ·rw [I6 C];omega
theorem E9 {A B:Nat×Nat×Nat} {g l:Bool} {dg:aa} {x q:Nat} {m d:aa} (b:ShD g l dg x q m d) (o:MkD A B m d) {S:aa} {a:Nat} {post:aa} (h:S.drop a=rawD A B g l dg (x:Int) (q:Int) m d++post)
  (hp1:cG isYC post) (C:cG isMk post) (M:cG (λc=>c==45) post):
  ∃P:Nat×Nat×Nat,P.1=a+(mt A.1).length/\qM S a=.inr (g,l,dg,x,q,m,d,spM A B,P,a+(rawD A B g l dg (x:Int) (q:Int) m d).length):=by
 obtain ⟨l0,l1,l2,L,l4,l5,U,w⟩:=o;obtain ⟨j,t,J⟩:=A;obtain ⟨k,n,G⟩:=B;simp only at l0 l1 l2 L l4 l5 U w h;unfold rawD at h ⊢;simp only at h ⊢;have I:isMk 45=false:=by decide
 have y45:isYC 45=false:=by decide
 have T:∀r:aa,cG (λc=>c==45) r->eK 45 r=0:=λr hr=>by
  cases r with
  | nil=>rfl
  | cons c r=>
   have:=hr c rfl;exact nP (λe=>by rw [e] at this;exact absurd this (by decide)) r
 have hyx:=J4 b.yr;have V:=GM b.yr;generalize hY:gh g l dg (x:Int) (q:Int)=Y at *;have E:∀R:aa,S.drop a=ck j k Y++R->cG isYC R->cG isMk R->
   mkE S a=a+(mt j).length/\mkS (S.drop a)=j/\o5 (S.drop (mkE S a))=.inr (g,l,dg,x,q,Y.length)/\mkS (S.drop (mkE S a+Y.length))=k/\S.drop (mkE S (mkE S a+Y.length))=R/\mkE S (mkE S a+Y.length)=a+(ck j k Y).length:=by
  intro R hR h1 N;obtain ⟨H,v,y,p,F⟩:=sH hR l0 L (V _) N;refine ⟨?_,H,?_,y,p,F⟩
  ·have hR':S.drop a=mt j++(Y++(mt k++R)):=by rw [hR];unfold ck;simp
   unfold mkE;rw [hR',(K6 l0 (V _)).2]
  rw [v];exact hyx _ (JP k (by decide) (by decide) (by decide) h1)
 unfold qM;by_cases f:m=[]
 ·have i:d=[]:=b.day.resolve_right (λz=>z.1 f);subst f i;simp only [aK,lL] at h ⊢;obtain ⟨w0,H,v,y,p,F⟩:=E post h hp1 C;rw [v];simp only [];rw [p,ae (.inr (T post M)),H,y,F];obtain ⟨rfl,rfl⟩:=U rfl;obtain ⟨rfl,rfl⟩:=w rfl;exact ⟨_,w0,rfl⟩
 ·have X:¬0<q:=λz=>f (b.noM z);obtain ⟨s,D⟩:=b.mon.resolve_left f;rw [ab f] at h ⊢;have o:∀r,cG isMk (m++r):=λr=>uQ f D (λc=>GH);by_cases i:d=[]
  ·subst i;rw [ae rfl,lL] at h ⊢;have h':S.drop a=ck j k Y++(45::(ck t n m++post)):=by rw [h];simp
   obtain ⟨w0,H,v,y,p,F⟩:=E _ h' (dN y45) (dN I);rw [v];simp only [];rw [p,mT,ab (λz=>z.elim X (by omega)),H,y];unfold rd2;have N:S.drop (mkE S (mkE S a+Y.length)+1)=ck t n m++post:=fS (u:=[45]) p;obtain ⟨v1,v2,W,K,Q⟩:=sH N l1 l4 (o _) C;obtain ⟨Z,u2⟩:=zl (r:=mt n++post) s D;rw [<-v2] at Z u2;rw [s] at W K Q;rw [Z,ab (by omega),K,T post M,ae rfl,u2,v1,W,Q,F];obtain ⟨rfl,rfl⟩:=w rfl;have:a+(ck j k Y).length+1+(ck t n m).length=a+(ck j k Y++45::ck t n m).length:=by simp only [bH,aM];omega
   rw [this];exact ⟨_,w0,rfl⟩
  ·obtain ⟨_,O,hdx⟩:=b.day.resolve_left i;rw [ab i] at h ⊢;have hdk:∀r,cG isMk (d++r):=λr=>uQ i hdx (λc=>GH);have h':S.drop a=ck j k Y++(45::(ck t n m++(45::(ck J G d++post)))):=by rw [h];simp
   obtain ⟨w0,H,v,y,p,F⟩:=E _ h' (dN y45) (dN I);rw [v];simp only [];rw [p,mT,ab (λz=>z.elim X (by omega)),H,y];unfold rd2;have N:S.drop (mkE S (mkE S a+Y.length)+1)=ck t n m++(45::(ck J G d++post)):=fS (u:=[45]) p;obtain ⟨v1,v2,W,K,Q⟩:=sH N l1 l4 (o _) (dN I);obtain ⟨Z,u2⟩:=zl (r:=mt n++(45::(ck J G d++post))) s D;rw [<-v2] at Z u2;rw [s] at W K Q;rw [Z,ab (by omega),K,mT,ab (by omega),u2,v1,W];unfold rd3;have h3:S.drop (mkE S (mkE S (mkE S (mkE S a+Y.length)+1)+2)+1)=ck J G d++post:=fS (u:=[45]) K;obtain ⟨x1,x2,x3,x4,x5⟩:=sH h3 l2 l5 (hdk _) C;obtain ⟨s1,s2⟩:=zl (r:=mt G++post) O hdx;rw [<-x2] at s1 s2;rw [O] at x3 x4 x5;rw [s1,ab (by omega),s2,x1,x3,x5,Q,F];have:a+(ck j k Y).length+1+(ck t n m).length+1+(ck J G d).length=a+(ck j k Y++(45::ck t n m++45::ck J G d)).length:=by simp only [bH,aM];omega
   rw [this];exact ⟨_,w0,rfl⟩
theorem G0 {g l:Bool} {dg:aa} {x q:Nat} {m d:aa} {k0 k1 k2:Nat} (b:OkD g l dg x q m d k0 k1 k2) {S:aa} {a:Nat} {post:aa} (h:S.drop a=r7 g l dg (x:Int) (q:Int) m d k0 k1 k2++post)
  (f:cG isYC post) (i:cG isMk post) (e:cG (λc=>c==45) post):
  ∃P,qM S a=.inr (g,l,dg,x,q,m,d,(k0,k1,k2),P,a+(r7 g l dg (x:Int) (q:Int) m d k0 k1 k2).length):=by
 obtain ⟨P,_,j⟩:=E9 b.sh b.marks (S:=S) (a:=a) (post:=post) h f i e;rw [VS (ei m d) k0 k1 k2 (ql m d) b.m0 b.m1 b.m2 b.z1 b.z2] at j;exact ⟨P,j⟩
theorem KU {g l:Bool} {dg:aa} {x q:Nat} {m d:aa} {k0 k1 k2:Nat} (a:OkD g l dg x q m d k0 k1 k2):(r7 g l dg (x:Int) (q:Int) m d k0 k1 k2).length<=37:=by
 have hy:=xj a.yr;have e:=lW (plA (ei m d) k0 k1 k2).1 (plB (ei m d) k0 k1 k2).1 (gh g l dg (x:Int) (q:Int));have f:=lW (plA (ei m d) k0 k1 k2).2.1 (plB (ei m d) k0 k1 k2).2.1 m;have i:=lW (plA (ei m d) k0 k1 k2).2.2 (plB (ei m d) k0 k1 k2).2.2 d;have b:m.length<=2:=by
  rcases a.mon with h | h
  ·rw [h];simp
  ·omega
 have c:d.length<=2:=by
  rcases a.day with h | h
  ·rw [h];simp
  ·omega
 unfold r7;simp only [bH];have a1:(if m=[] then [] else 45::ck (plA (ei m d) k0 k1 k2).2.1 (plB (ei m d) k0 k1 k2).2.1 m).length<=5:=by
  split
  ·simp
  ·simp only [aM];omega
 have a2:(if d=[] then [] else 45::ck (plA (ei m d) k0 k1 k2).2.2 (plB (ei m d) k0 k1 k2).2.2 d).length<=5:=by
  split
  ·simp
  ·simp only [aM];omega
 omega
theorem Qi {A B:Nat×Nat×Nat} (d:A.1<4) (e:A.2.1<4) (f:A.2.2<4) (g0:B.1<4) (c:B.2.1<4) (b:B.2.2<4):(spM A B).1<4/\(spM A B).2.1<4/\(spM A B).2.2<4:=by
 have a:∀x y:Nat,x<4->y<4->x ||| y<4:=λx y hx hy=>(or4 hx hy).2;exact ⟨a _ _ (a _ _ (a _ _ d g0) c) b,a _ _ (a _ _ e c) b,a _ _ f b⟩
structure RdOK (S:aa) (a:Nat) (dg m d:aa) (M:Nat×Nat×Nat) (e:Nat):Prop where
 dg17:dg.length<=17
 m2:m.length<=2
 d2:d.length<=2
 all:inM (ei m d) M
 le:a<=e
 end_:e<=S.length
theorem EI {S:aa} {a:Nat} (h:a<=S.length) {g l:Bool} {dg:aa} {x s:Nat} {m d:aa} {M P:Nat×Nat×Nat} {e:Nat} (b:qM S a=.inr (g,l,dg,x,s,m,d,M,P,e)):RdOK S a dg m d M e:=by
 have c:∀p,mkS (S.drop p)<4:=λp=>Cc _;have n:0<4:=by omega
 have b0:=jz h;have g0:a<=mkE S a:=za _ _;have o:∀p,p<=mkE S p:=λp=>za _ _;unfold qM at b;cases hy:o5 (S.drop (mkE S a)) with
 | inl k=>rw [hy] at b;cases b
 | inr y=>
  obtain ⟨H,I,C,O,s',k⟩:=y;obtain ⟨_,bk,_,_,j⟩:=qt hy;have bk:mkE S a+k<=S.length:=by
   rw [cY] at bk;omega
  have b1:=jz bk;rw [hy] at b;simp only [] at b;by_cases hc:0<s'\/eK 45 (S.drop (mkE S (mkE S a+k)))=0
  ·rw [ae hc] at b;cases b;have:=Qi (A:=(mkS (S.drop a),0,0)) (B:=(mkS (S.drop (mkE S a+k)),0,0)) (c _) n n (c _) n n;refine ⟨j,by simp,by simp,⟨this.1,this.2.1,this.2.2,λ_=>by simp [spM],λ_=>by simp [spM]⟩,?_,b1⟩;have:=o (mkE S a+k);omega
  ·rw [ab hc] at b;have v:=qR (λz=>hc (.inr z));have Q:=jz v;unfold rd2 at b;by_cases t:twoN (S.drop (mkE S (mkE S (mkE S a+k)+1)))<2
   ·rw [ae t] at b;cases b
   ·rw [ab t] at b;have b2:=uA t;have D:=jz b2;have f:(List.take 2 (S.drop (mkE S (mkE S (mkE S a+k)+1)))).length=2:=by rw [fZ,cY];omega
    have G:=o (mkE S a+k);have J:=o (mkE S (mkE S a+k)+1);have K:=o (mkE S (mkE S (mkE S a+k)+1)+2);by_cases i:eK 45 (S.drop (mkE S (mkE S (mkE S (mkE S a+k)+1)+2)))=0
    ·rw [ae i] at b;cases b;have:=Qi (A:=(mkS (S.drop a),mkS (S.drop (mkE S (mkE S a+k)+1)),0)) (B:=(mkS (S.drop (mkE S a+k)),mkS (S.drop (mkE S (mkE S (mkE S a+k)+1)+2)),0)) (c _) (c _) n (c _) (c _) n;refine ⟨j,by omega,by simp,⟨this.1,this.2.1,this.2.2,λz=>?_,λ_=>by simp [spM]⟩,by omega,D⟩;rw [I6 (nQ f)] at z;omega
    ·rw [ab i] at b;have r:=qR i;have E:=jz r;unfold rd3 at b;by_cases u:twoN (S.drop (mkE S (mkE S (mkE S (mkE S (mkE S a+k)+1)+2)+1)))<2
     ·rw [ae u] at b;cases b
     ·rw [ab u] at b;have w:=uA u;have F:=jz w;have q:(List.take 2 (S.drop (mkE S (mkE S (mkE S (mkE S (mkE S a+k)+1)+2)+1)))).length=2:=by rw [fZ,cY];omega
      cases b;have L:=o (mkE S (mkE S (mkE S (mkE S a+k)+1)+2)+1);have N:=o (mkE S (mkE S (mkE S (mkE S (mkE S a+k)+1)+2)+1)+2);have:=Qi (A:=(mkS (S.drop a),mkS (S.drop (mkE S (mkE S a+k)+1)),mkS (S.drop (mkE S (mkE S (mkE S (mkE S a+k)+1)+2)+1)))) (B:=(mkS (S.drop (mkE S a+k)),mkS (S.drop (mkE S (mkE S (mkE S a+k)+1)+2)),mkS (S.drop (mkE S (mkE S (mkE S (mkE S (mkE S a+k)+1)+2)+1)+2)))) (c _) (c _) (c _) (c _) (c _) (c _);refine ⟨j,by omega,by omega,⟨this.1,this.2.1,this.2.2,λz=>?_,λz=>?_⟩,by omega,F⟩
      ·rw [JZ (nQ f) (nQ q)] at z;omega
      ·rw [JZ (nQ f) (nQ q)] at z;omega
theorem KR {g l:Bool} {dg:aa} {x q:Int} {m d:aa} {k0 k1 k2:Int} (b:allM k0 k1 k2 (ei m d)=0):chkD g l dg x q m d k0 k1 k2=0\/chkD g l dg x q m d k0 k1 k2=6\/chkD g l dg x q m d k0 k1 k2=7\/chkD g l dg x q m d k0 k1 k2=8:=by
 unfold chkD;rw [b];generalize yrD g l dg x q m=b1;generalize (!(m==[])&&(!(decide (0<sea m))&&!(ju m 12)))=b2;generalize (!(d==[])&&((m==[])||(decide (0<sea m)||!(ju d 31))))=a;cases b1<;>cases b2<;>cases a<;>simp
theorem tR {p:UInt8->Bool}:cG p []:=λc hc=>by cases hc
theorem r40 {p:Nat->Bool} (h:(List.range 40).all p=true) {a:Nat} (b:a<40):p a=true:=(co.1 h) a (kj.2 b)
theorem HO (n:Nat) (g l:Bool) (dg:aa) (x q:Int) (m d:aa) (k0 k1 k2:Int) (a:m.length<=18):aY n g l dg x q m d k0 k1 k2=some (if d=[] then (if 0<sea m then 0 else if m=[] then 1 else 2) else 3):=by
 unfold aY;rw [ow n g l dg x q m d k0 k1 k2 a];by_cases b:d=[]
 ·rw [ae b,b];show cond (decide (0<sea m)) _ _=_;rw [bL];by_cases hs:0<sea m
  ·rw [ae hs,ae hs]
  ·rw [ab hs,ab hs];by_cases a:m=[]
   ·rw [ae a,a];rfl
   ·rw [ab a,aW.2 a];rfl
 ·rw [ab b,aW.2 b];rfl
theorem EH (n:Nat) (g l:Bool) (dg:aa) (x q:Int) (m d:aa) (k0 k1 k2:Int) (f:m.length<=18) (j:dg.length<=100) (e:0<=k0) (h:0<=k1) (i:0<=k2):
  cN (n+300) g l dg x q m d k0 k1 k2=some (if chkD g l dg x q m d k0 k1 k2=0 then (r7 g l dg x q m d k0.toNat k1.toNat k2.toNat,0) else ([],chkD g l dg x q m d k0 k1 k2)):=by
 by_cases hc:chkD g l dg x q m d k0 k1 k2=0
 ·obtain ⟨t,r,a,b,c,k,p,o,v,s,u⟩:=KH e h i hc;subst k p o v s;exact QF n g l dg t r m d a b c f j
 ·rw [ab hc];unfold cN;rw [zE (n+300) (by omega) g l dg _ _ m d _ _ _ f j e h i];show cond (chkD g l dg x q m d k0 k1 k2 != 0) _ _=_;rw [An,ab hc]
theorem uU (a b:aa):hasX (a++b)=(hasX a||hasX b):=by unfold hasX;rw [rM]
theorem BB (n:Nat) (g l:Bool) (dg:aa) (x q:Int) (m d:aa) (k0 k1 k2:Int) (b:m.length<=1000) (a:dg.length<=1000) (h:d.length<=1000):
  dC n g l dg x q m d k0 k1 k2=some (hasX dg||(hasX m||hasX d)):=by
 unfold dC;rw [gj (by omega)];simp only [ob];rw [gj (by simp only [bH];omega)];simp only [ob];rw [Bm,uU,uU,Bool.or_assoc]
def He (d:aa) (k q:Nat):Nat×Nat:=if 0<q then (val d k / 10 ^ (d.length+k - q)*10 ^ (d.length+k - q),min (val d k / 10 ^ (d.length+k - q)*10 ^ (d.length+k - q)+10 ^ (d.length+k - q) - 1) E16) else (val d k,val d k)
def sgn (g:Bool) (p:Nat×Nat):Int×Int:=if g then (-(p.2:Int),-(p.1:Int)) else ((p.1:Int),(p.2:Int))
def jv (z:UInt8) (d:aa):aa:=d.map λc=>if c=88 then z else c
theorem tq (z:UInt8) (d:aa):(jv z d).length=d.length:=by simp [jv]
theorem vW {z:UInt8} (e:bp z=true) {d:aa} (h:∀c∈d,bp c=true\/c=88):∀c∈jv z d,bp c=true:=by
 intro c hc;obtain ⟨b,a,rfl⟩:=fq.1 hc;by_cases hx:b=88
 ·rw [ae hx];exact e
 ·rw [ab hx];exact (h b a).resolve_right hx
theorem Jz {z:UInt8} {d:aa} {i:Nat} {c:UInt8} (h:d[i]?=some c):(jv z d)[i]?=some (if c=88 then z else c):=by
 simp [jv,h]
def sT (d:aa):Nat:=10 ^ (d.reverse.takeWhile (λc=>c != 88)).length
def xG (g:Bool) (d:aa):Nat×Nat:=(if g=true/\dval 0 (jv 48 d)=0 then sT d else dval 0 (jv 48 d),dval 0 (jv 57 d))
theorem H9 {d:aa} (j:d.length=4) (h:∀c∈d,bp c=true\/c=88) (k:dval 0 (jv 48 d)=0):∀c∈d,c=48\/c=88:=by
 match d,j with
 | [a,b,c,e],_=>
  have f:=vW (z:=48) (by decide) h;have l:dval 0 (jv 48 [a,b,c,e])=((((0*10+((if a=88 then (48:UInt8) else a).toNat - 48))*10+((if b=88 then (48:UInt8) else b).toNat - 48))*10+((if c=88 then (48:UInt8) else c).toNat - 48))*10+((if e=88 then (48:UInt8) else e).toNat - 48)):=by
   simp only [jv,fk,List.map_nil,nY,tA,uD]
  rw [l] at k;have key:∀x:UInt8,bp (if x=88 then (48:UInt8) else x)=true->(if x=88 then (48:UInt8) else x).toNat - 48=0->x=48\/x=88:=by
   intro x hx i;by_cases g:x=88
   ·exact .inr g
   ·rw [ab g] at hx i;have:=(cq x).1 hx;exact .inl (gZ.1 (by show x.toNat=48;omega))
  simp only [jv,fk,List.map_nil,cf,nD,o7,forall_eq_or_imp,forall_eq] at f ⊢;exact ⟨key a f.1 (by omega),key b f.2.1 (by omega),key c f.2.2.1 (by omega),key e f.2.2.2 (by omega)⟩
theorem GV {d:aa} (v:d.length=4) (h:∀c∈d,c=48\/c=88) (t:hasX d=true) (P:aa->Prop) (x:P [48,48,48,88]) (r:P [48,48,88,48]) (n:P [48,48,88,88]) (o:P [48,88,48,48]) (s:P [48,88,48,88]) (l:P [48,88,88,48]) (p:P [48,88,88,88]) (m:P [88,48,48,48]) (q:P [88,48,48,88]) (w:P [88,48,88,48]) (i:P [88,48,88,88]) (k:P [88,88,48,48]) (f:P [88,88,48,88]) (g:P [88,88,88,48]) (j:P [88,88,88,88]):P d:=by
 match d,v with
 | [a,b,c,e],_=>
  simp only [cf,nD,o7,forall_eq_or_imp,forall_eq] at h;obtain ⟨z,u,hc,y⟩:=h;rcases z with rfl | rfl<;>rcases u with rfl | rfl<;>rcases hc with rfl | rfl<;>rcases y with rfl | rfl
  ·exact absurd t (by decide)
  ·exact x
  ·exact r
  ·exact n
  ·exact o
  ·exact s
  ·exact l
  ·exact p
  ·exact m
  ·exact q
  ·exact w
  ·exact i
  ·exact k
  ·exact f
  ·exact g
  ·exact j
def sA (g:Bool) (d:aa) (x s:Int):Nat×Nat:=if hasX d then xG g d else He d x.toNat s.toNat
theorem Qv {d:aa} {k q:Nat} (h:Num d k q):(He d k q).1<=val d k/\val d k<=(He d k q).2/\(He d k q).2<=E16:=by
 have hs:=h.small;have b:dval 0 d*10 ^ k=val d k:=rfl;rw [b] at hs;unfold He;split
 ·have a:1<=10 ^ (d.length+k - q):=Nat.one_le_pow _ _ (by decide);generalize 10 ^ (d.length+k - q)=u at a ⊢;generalize val d k=v at hs ⊢;have c:=Nat.div_mul_le_self v u;have e:v<v / u*u+u:=by
   have h:=Nat.div_add_mod v u;have:=AA v a;rw [wJ] at h;omega
  refine ⟨c,?_,Nat.min_le_right _ _⟩;rw [Nat.le_min];omega
 ·exact ⟨aP _,aP _,hs⟩
def mtk (d:aa):Nat->Nat->Bool
 | 0,_=>true
 | k+1,w=>(decide (d.getD k 0=88)||decide ((d.getD k 0).toNat=48+w%10))&&mtk d k (w / 10)
theorem FY (d:aa) (k w:Nat):mtk d (k+1) w=((decide (d.getD k 0=88)||decide ((d.getD k 0).toNat=48+w%10))&&mtk d k (w / 10)):=rfl
theorem FH {d:aa} {k:Nat} {c:UInt8} (h:d[k]?=some c):d.getD k 0=c:=by
 rw [BP,h];rfl
def GQ (d:aa) (k q:Nat):Nat:=if 0<q then 10 ^ (d.length+k - q) else 1
def memP (d:aa) (x s:Int) (w:Nat):Prop:=if hasX d=true then mtk d 4 w=true/\w / 10 ^ 4=0 else val d x.toNat / GQ d x.toNat s.toNat=w / GQ d x.toNat s.toNat
instance (d:aa) (x s:Int) (w:Nat):Decidable (memP d x s w):=by unfold memP;infer_instance
def wOf (g:Bool) (v:Int):Int:=if g then -v else v
def inP (g:Bool) (d:aa) (x s v:Int):Prop:=-10000000000000000<=v/\v<=10000000000000000/\0<=wOf g v/\¬(hasX d=true/\g=true/\wOf g v=0)/\memP d x s (wOf g v).toNat
instance (g:Bool) (d:aa) (x s v:Int):Decidable (inP g d x s v):=by unfold inP;infer_instance
theorem Sj {d:aa} {x s:Int} {w:Nat} (a:hasX d=true):memP d x s w↔mtk d 4 w=true/\w / 10 ^ 4=0:=by unfold memP;rw [ae a]
theorem TQ {d:aa} {x s:Int} {w:Nat} (a:hasX d=false):memP d x s w↔val d x.toNat / GQ d x.toNat s.toNat=w / GQ d x.toNat s.toNat:=by unfold memP;rw [ab (by rw [a];simp)]
def loK (d:aa) (k:Nat):Nat:=dval 0 ((jv 48 d).take k)
def hiK (d:aa) (k:Nat):Nat:=dval 0 ((jv 57 d).take k)
theorem xa (z:UInt8) {d:aa} {k:Nat} {c:UInt8} (h:d[k]?=some c):dval 0 ((jv z d).take (k+1))=dval 0 ((jv z d).take k)*10+((if c=88 then z else c).toNat - 48):=by
 rw [VG (Jz h),N1]
theorem AL (d:aa) (f:d.length=4) (j:∀c∈d,bp c=true\/c=88):∀(k w:Nat),k<=4->w<10 ^ k->mtk d k w=true->loK d k<=w/\w<=hiK d k
 | 0,w,l,b,a=>by
  simp at b;subst b;simp [loK,hiK,tA]
 | k+1,w,l,b,a=>by
  obtain ⟨c,hc⟩:∃c,d[k]?=some c:=⟨d[k],bn (by omega)⟩;rw [FY,FH hc,az,gM,dl,dl] at a;have hp:(10:Nat) ^ (k+1)=10 ^ k*10:=wR 10 k;have ih:=AL d f j k (w / 10) (by omega) (by omega) a.2;have h:=xa 48 hc;have i:=xa 57 hc;unfold loK hiK at ih ⊢;rw [h,i];by_cases hx:c=88
  ·rw [ae hx,ae hx];have e:(48:UInt8).toNat - 48=0:=rfl;have g:(57:UInt8).toNat - 48=9:=rfl;rw [e,g];omega
  ·rw [ab hx,ab hx];have:=a.1.resolve_left hx;omega
theorem zN (z:UInt8) (f:bp z=true) (d:aa) (j:d.length=4) (g:∀c∈d,bp c=true\/c=88):∀k,k<=4->mtk d k (dval 0 ((jv z d).take k))=true
 | 0,_=>rfl
 | k+1,n=>by
  obtain ⟨c,hc⟩:∃c,d[k]?=some c:=⟨d[k],bn (by omega)⟩;have ih:=zN z f d j g k (by omega);have e:bp (if c=88 then z else c)=true:=by
   by_cases hx:c=88
   ·rw [ae hx];exact f
   ·rw [ab hx];exact (g c (f7 hc)).resolve_right hx
  have l:=(cq _).1 e;rw [FY,FH hc,xa z hc];generalize h:(if c=88 then z else c)=b at l ⊢;generalize dval 0 ((jv z d).take k)=a at ih ⊢;have i:(a*10+(b.toNat - 48)) / 10=a:=by omega
  have m:(a*10+(b.toNat - 48))%10=b.toNat - 48:=by omega
  rw [i,m,ih,E7];by_cases hx:c=88
  ·rw [au hx];rfl
  ·rw [ab hx] at h;rw [h,au (show b.toNat=48+(b.toNat - 48) by omega),Bool.or_true]
def zp:List (aa):=[[48,48,48,88],[48,48,88,48],[48,48,88,88],[48,88,48,48],[48,88,48,88],[48,88,88,48],[48,88,88,88],[88,48,48,48],[88,48,48,88],[88,48,88,48],[88,48,88,88],[88,88,48,48],[88,88,48,88],[88,88,88,48],[88,88,88,88]]
theorem VU:zp.all (λd=>mtk d 4 (sT d)&&decide (1<=sT d)&&decide (sT d<=1000)&&(List.range 1000).all (λw=>decide (w=0)||!mtk d 4 w||decide (sT d<=w)))=true:=by decide +kernel
theorem A3 {d:aa} (g:d∈zp):mtk d 4 (sT d)=true/\1<=sT d/\sT d<=1000/\∀w,1<=w->mtk d 4 w=true->sT d<=w:=by
 have h:=co.1 VU d g;simp only [az,dl,co,kj,gM,kP] at h;obtain ⟨⟨⟨c,f⟩,i⟩,e⟩:=h;refine ⟨c,f,i,λw k b=>?_⟩;rcases aF w 1000 with a | j
 ·rcases e w a with (h | h) | h
  ·omega
  ·rw [b] at h;cases h
  ·exact h
 ·omega
theorem CY {d:aa} (a:d.length=4) (e:∀c∈d,bp c=true\/c=88) (b:hasX d=true) (f:dval 0 (jv 48 d)=0):d∈zp:=
 GV a (H9 a e f) b (λd=>d∈zp) (by decide) (by decide) (by decide) (by decide) (by decide) (by decide) (by decide) (by decide) (by decide) (by decide) (by decide) (by decide) (by decide) (by decide) (by decide)
theorem Qy {d:aa} (a:d.length=4):loK d 4=dval 0 (jv 48 d):=by
 unfold loK;rw [lu (by rw [tq];omega)]
theorem Px {d:aa} (a:d.length=4):hiK d 4=dval 0 (jv 57 d):=by
 unfold hiK;rw [lu (by rw [tq];omega)]
theorem ML {g:Bool} {d:aa} (b:d.length=4) (f:∀c∈d,bp c=true\/c=88) (q:hasX d=true):
  (xG g d).1<10000/\(xG g d).2<10000/\mtk d 4 (xG g d).1=true/\mtk d 4 (xG g d).2=true/\1<=(xG g d).2/\(g=true->1<=(xG g d).1)/\∀w,w<10000->mtk d 4 w=true->(g=true->1<=w)->(xG g d).1<=w/\w<=(xG g d).2:=by
 have r:(10:Nat) ^ 4=10000:=by decide
 have n:=vW (z:=48) (by decide) f;have p:=vW (z:=57) (by decide) f;have b1:=AH (jv 48 d) 0 0 n (by simp);have b2:=AH (jv 57 d) 0 0 p (by simp);rw [tq,b,cn,r] at b1 b2;have m1:=zN 48 (by decide) d b f 4 (by omega);have m2:=zN 57 (by decide) d b f 4 (by omega);rw [lu (by rw [tq];omega)] at m1 m2;have k:∀w,w<10000->mtk d 4 w=true->dval 0 (jv 48 d)<=w/\w<=dval 0 (jv 57 d):=λw m i=>by
  have:=AL d b f 4 w (by omega) (by omega) i;rw [Qy b,Px b] at this;exact this
 have j:1<=dval 0 (jv 57 d):=by
  rcases Eh (dval 0 (jv 57 d)) with h | h
  ·exfalso;have e:dval 0 (jv 48 d)=0:=by
    have:=(k _ b1 m1).2;omega
   have o:=CY b f q e;have a:=A3 o;have:=(k _ (by omega) a.1).2;omega
  ·exact h
 unfold xG;by_cases e:g=true/\dval 0 (jv 48 d)=0
 ·rw [ae e];have a:=A3 (CY b f q e.2);refine ⟨by simp only;omega,b2,a.1,m2,j,λ_=>a.2.1,λw m i l=>⟨a.2.2.2 w (l e.1) i,(k w m i).2⟩⟩
 ·rw [ab e];refine ⟨b1,b2,m1,m2,j,λl=>?_,λw m i l=>k w m i⟩;simp only;rcases Eh (dval 0 (jv 48 d)) with h | h
  ·exact absurd ⟨l,h⟩ e
  ·exact h
theorem N8 {g l:Bool} {d:aa} {x s:Int} (c:okY g l d x s):(sA g d x s).1<=10000000000000000/\(sA g d x s).2<=10000000000000000/\memP d x s (sA g d x s).1/\memP d x s (sA g d x s).2/\(hasX d=true->1<=(sA g d x s).2/\(g=true->1<=(sA g d x s).1))/\
  ∀w,w<=10000000000000000->memP d x s w->(hasX d=true->g=true->1<=w)->(sA g d x s).1<=w/\w<=(sA g d x s).2:=by
 unfold sA memP;cases p:hasX d with
 | true=>
  obtain ⟨rfl,rfl,rfl,I,L⟩:=wL c p;obtain ⟨K,J,H,G,N,D,E⟩:=ML (g:=g) I L p;have C:(10:Nat) ^ 4=10000:=by decide
  simp only [aK,C];refine ⟨by omega,by omega,⟨H,Nat.div_eq_of_lt K⟩,⟨G,Nat.div_eq_of_lt J⟩,λ_=>⟨N,D⟩,λw B m O=>E w (by omega) m.1 (O trivial)⟩
 | false=>
  obtain ⟨k,q,rfl,rfl,A⟩:=BJ c p;have hs:=A.small;have M:dval 0 d*10 ^ k=val d k:=rfl;rw [M] at hs;obtain ⟨f,e,b⟩:=Qv A;unfold E16 at b;simp only [bA,aC,cV];unfold GQ;unfold He at f e b ⊢;by_cases j:0<q
  ·rw [ae j] at f e b ⊢;rw [ae j];have y:1<=10 ^ (d.length+k - q):=Nat.one_le_pow _ _ (by decide);generalize 10 ^ (d.length+k - q)=u at *;generalize val d k=v at *;simp only at f e b ⊢;have i:v / u*u / u=v / u:=Nat.mul_div_cancel _ y;have r:∀w,v / u*u<=w->w<v / u*u+u->w / u=v / u:=by
    intro w t o;apply Nat.div_eq_of_lt_le
    ·exact t
    ·rw [Nat.succ_mul];exact o
   have a:∀w,v / u=w / u->v / u*u<=w/\w<v / u*u+u:=by
    intro w h;rw [h];have t:=Nat.div_mul_le_self w u;have o:=Nat.div_add_mod w u;have P:=AA w y;rw [wJ] at o;omega
   have z:min (v / u*u+u - 1) E16<=v / u*u+u - 1:=Nat.min_le_left _ _;have n:=a v rfl;refine ⟨by omega,b,i.symm,(r _ (by omega) (by omega)).symm,λq=>(by cases q),λw B m _=>?_⟩;obtain ⟨F,Q⟩:=a w m;refine ⟨F,?_⟩;rw [Nat.le_min];unfold E16;omega
  ·rw [ab j] at f e b ⊢;rw [ab j];simp only [AD] at f e b ⊢;refine ⟨b,b,trivial,trivial,λq=>(by cases q),λw B m _=>by omega⟩
theorem Qr {g l:Bool} {d:aa} {x s:Int} (j:okY g l d x s):inP g d x s (sgn g (sA g d x s)).1/\inP g d x s (sgn g (sA g d x s)).2/\∀v,inP g d x s v->(sgn g (sA g d x s)).1<=v/\v<=(sgn g (sA g d x s)).2:=by
 obtain ⟨p,o,n,m,t,i⟩:=N8 j;generalize sA g d x s=D at *;obtain ⟨lo,hi⟩:=D;simp only at p o n m t i;cases g with
 | true=>
  have b:∀a:Nat,wOf true (-(a:Int))=(a:Int):=λa=>by unfold wOf;simp
  have mk:∀a:Nat,a<=10000000000000000->memP d x s a->(hasX d=true->1<=a)->inP true d x s (-(a:Int)):=by
   intro a A f y;refine ⟨by omega,by omega,by rw [b];omega,λq=>?_,by rw [b,cV];exact f⟩;have:=y q.1;have B:=q.2.2;rw [b] at B;omega
  simp only [sgn,aK];refine ⟨mk hi o m (λh=>(t h).1),mk lo p n (λh=>(t h).2 rfl),λv r=>?_⟩;obtain ⟨C,z,k,u,c⟩:=r;have w:wOf true v=-v:=rfl;rw [w] at k u c
  have:=i (-v).toNat (by omega) c (λhx _=>by
   have:¬-v=0:=λe=>u ⟨hx,rfl,e⟩;omega)
  omega
 | false=>
  have b:∀a:Int,wOf false a=a:=λa=>rfl;have mk:∀a:Nat,a<=10000000000000000->memP d x s a->inP false d x s (a:Int):=by
   intro a A f;exact ⟨by omega,by omega,by rw [b];omega,λq=>(by cases q.2.1),by rw [b,cV];exact f⟩
  simp only [sgn,bA,aC];refine ⟨mk lo p n,mk hi o m,λv r=>?_⟩;obtain ⟨C,z,k,u,c⟩:=r;rw [b] at k c;have:=i v.toNat (by omega) c (λ_ q=>by cases q);omega
end Go.Sh
namespace Go.Sh.Mk
open Go.Abs
def okB (c:UInt8):Bool:=c.toNat==88||(decide (48<=c.toNat)&&decide (c.toNat<=57))
def chk (s:aa):Int:=if 18<s.length then 3 else if s.all okB then (if s=[] then 5 else 0) else 5
theorem uH (n:Nat) (s0 s:aa) (t:s.length+1<n):
  aq (gV n) n (s0,s,0)=some (if s.all okB then .inr s0 else .inl 5):=by
 have:=gO (step:=gV n) (λx=>x.1=s0/\x.2.1=s/\x.2.2<=s.length) (λx=>s.length - x.2.2)
  (λx=>if (s.drop x.2.2).all okB then .inr s0 else .inl 5) ?_ n (s0,s,0) ⟨rfl,rfl,jh _⟩ (by simp;omega)
 ·simpa using this
 rintro ⟨a,b,i⟩ ⟨rfl,rfl,hi⟩;simp only at hi ⊢;rcases aF i b.length with k | o
 ·obtain ⟨c,hc⟩:∃c,b[i]?=some c:=⟨b[i],bn k⟩;have m:Nat.blt i b.length=true:=cr k;rw [bY hc,lA];simp only [gV,m,aj];by_cases j:c.toNat<128
  ·rw [zB hc j];by_cases g:c.toNat=88
   ·refine .inl ⟨(a,b,i+1),by simp [g],⟨rfl,rfl,by simp only;omega⟩,by simp only;omega,?_⟩;simp [okB,g]
   ·by_cases p:c.toNat<48
    ·refine .inr ?_;have d:(((c.toNat:Nat):Int) != 88)=true:=by simp;omega
     have f:(decide (((c.toNat:Nat):Int)<48))=true:=by simp;omega
     have e:okB c=false:=by simp [okB];omega
     simp [d,f,e]
    ·by_cases q:57<c.toNat
     ·refine .inr ?_;have d:(((c.toNat:Nat):Int) != 88)=true:=by simp;omega
      have f:(decide (((c.toNat:Nat):Int)<48))=false:=by simp;omega
      have l:(decide (((c.toNat:Nat):Int)>57))=true:=by simp;omega
      have e:okB c=false:=by simp [okB];omega
      simp [d,f,e,l]
     ·have d:(((c.toNat:Nat):Int) != 88)=true:=by simp;omega
      have f:(decide (((c.toNat:Nat):Int)<48))=false:=by simp;omega
      have l:(decide (((c.toNat:Nat):Int)>57))=false:=by simp;omega
      have e:okB c=true:=by simp [okB];omega
      refine .inl ⟨(a,b,i+1),by simp only [d,f,l,aj,ah],⟨rfl,rfl,by simp only;omega⟩,by simp only;omega,?_⟩;simp [e]
  ·obtain ⟨r,u⟩:=Fj hc (by omega);refine .inr ?_;have d:((((dec b i).1:Nat):Int) != 88)=true:=by simp;omega
   have f:(decide ((((dec b i).1:Nat):Int)<48))=false:=by simp;omega
   have l:(decide ((((dec b i).1:Nat):Int)>57))=true:=by simp;omega
   have e:okB c=false:=by simp [okB];omega
   simp [d,f,e,l]
 ·have m:Nat.blt i b.length=false:=by
   cases h:Nat.blt i b.length with
   | false=>rfl
   | true=>have:i<b.length:=aE h;omega
  refine .inr ?_;simp only [gV,m,ah];rw [iP o];rfl
theorem kH (n:Nat) (s:aa) (b:30<=n):jl n s=some (chk s):=by
 unfold jl chk;by_cases h:18<s.length
 ·have:(decide (((List.length s:Nat):Int)>18))=true:=by simp;omega
  simp [this,h]
 ·have e:(decide (((List.length s:Nat):Int)>18))=false:=by simp;omega
  simp only [e,ah,h,aC];rw [uH n s s (by omega)];by_cases a:s.all okB=true
  ·simp only [a,aK,ob];by_cases hs:s=[]
   ·simp [hs]
   ·have:(s==([]:aa))=false:=by simpa using hs
    simp [this,hs]
  ·simp [a,ob]
theorem mC {s:aa} (h:chk s=0):s.length<=18/\s≠[]/\∀c∈s,okB c=true:=by
 unfold chk at h;split at h
 ·simp at h
 ·split at h
  ·rename_i a;split at h
   ·simp at h
   ·rename_i hs;exact ⟨by omega,hs,by simpa using a⟩
  ·simp at h
def nums (l:aa):List Int:=l.map λb=>((b.toNat:Nat):Int)
def over (d:List Int) (i:Nat) (l:List Int):List Int:=d.take i++(l++d.drop (i+l.length))
theorem zZ (d:List Int) (i:Nat) (x:Int) (l:List Int) (h:i<d.length):over (d.set i x) (i+1) l=over d i (x::l):=by
 unfold over;rw [show (d.set i x).take (i+1)=d.take i++[x] from by
  rw [K7 (by simpa using h)];simp [List.take_set_of_le]]
 rw [List.drop_set_of_lt (by omega)];simp [fY,oN 1]
theorem EB (d:List Int) (i:Nat):over d i []=d:=by simp [over]
theorem LQ (d:List Int) (i:Nat) (l:List Int) (h:i+l.length<=d.length):(over d i l).length=d.length:=by
 unfold over;simp;omega
theorem NJ {x y:UInt8}:(((x.toNat:Nat):Int)==((y.toNat:Nat):Int))=decide (x=y):=by
 by_cases h:x=y
 ·simp [h]
 ·have:x.toNat≠y.toNat:=λe=>h (gZ.1 e);simp [h];omega
theorem zP {x:UInt8}:(((x.toNat:Nat):Int)==88)=decide (x=88):=by
 have:=NJ (x:=x) (y:=88);simpa using this
def dg:Nat->Int->List Int
 | 0,_=>[]
 | L+1,k=>dg L (k / 10)++[48+k%10]
theorem vS:∀(L:Nat) (k:Int),(dg L k).length=L
 | 0,_=>rfl
 | L+1,k=>by simp [dg,vS L]
theorem th:∀(L:Nat) (k:Int),∀x∈dg L k,48<=x/\x<58
 | 0,_,x,h=>by simp [dg] at h
 | L+1,k,x,h=>by
  simp only [dg,mX,mn] at h;rcases h with h | rfl
  ·exact th L _ x h
  ·omega
def iI:aa->List Int->Bool
 | c::m,d::l=>(c==88||decide (((c.toNat:Nat):Int)=d))&&iI m l
 | _,_=>true
theorem ut:∀{a c:aa} {b d:List Int},a.length=b.length->iI (a++c) (b++d)=(iI a b&&iI c d)
 | [],c,[],d,_=>by simp [iI]
 | x::a,c,y::b,d,h=>by
  simp only [aM,wi] at h;simp only [ep,iI,ut h,Bool.and_assoc]
def hasM (m:aa) (k:Int):Bool:=decide (0<=k)&&(decide (k<10 ^ m.length)&&iI m (dg m.length k))
theorem NR (L:Nat) (h:L<=18):oK 20000000 ((L:Nat):Int)=some (10 ^ L):=by
 have b:allN (λi=>match oK 20000000 ((i:Nat):Int) with | some r=>decide (r=10 ^ i) | none=>false) 19=true:=by kernel_rfl
 have:=Dy b L (by omega);split at this
 ·rename_i r a;rw [a];simpa using this
 ·cases this
theorem CS (L:Nat) (h:L<=18):(10:Int) ^ L<=1000000000000000000:=by
 have a:allN (λi=>decide ((10:Int) ^ i<=1000000000000000000)) 19=true:=by kernel_rfl
 simpa using Dy a L (by omega)
theorem RU {k:Int} (h:0<=k):Int.tmod k 10=k%10:=Int.tmod_eq_emod_of_nonneg h
theorem RG {k:Int} (h:0<=k):Int.tdiv k 10=k / 10:=OU h
theorem GO (k:Int) (i:Nat) (d:List Int) (a:0<=k) (e:k<9223372036854775808) (hi:i<=18) (b:d.length=18):
  aq (gX 20000000) 20000000 (k,(i:Int) - 1,d)=some (over d 0 (dg i k)):=by
 have:=gO (step:=gX 20000000) (λx=>(0<=x.1/\x.1<9223372036854775808)/\(-1<=x.2.1/\x.2.1<=17)/\x.2.2.length=18) (λx=>(x.2.1+1).toNat)
  (λx=>over x.2.2 0 (dg (x.2.1+1).toNat x.1)) ?_ 20000000 (k,(i:Int) - 1,d) ⟨⟨a,e⟩,⟨by simp only;omega,by simp only;omega⟩,b⟩ (by simp only;omega)
 ·simpa using this
 rintro ⟨k,i,d⟩ ⟨⟨a,e⟩,⟨n,o⟩,b⟩;simp only at a e n o b ⊢;by_cases hi:0<=i
 ·obtain ⟨j,rfl⟩:∃j:Nat,i=j:=⟨i.toNat,by omega⟩;have f:j<18:=by omega
  have c:decide ((j:Int)>=0)=true:=by simp
  have l:Nat.blt j 18=true:=cr f;have h:IntKind.wrap .i64 ((j:Int) - 1)=(j:Int) - 1:=wrap_i64 _ (by omega) (by omega);have m:IntKind.wrap .i64 (Int.tdiv k 10)=k / 10:=by rw [RG a];exact wrap_i64 _ (by omega) (by omega)
  have q:IntKind.wrap .u8 (IntKind.wrap .i64 (48+Int.tmod k 10))=48+k%10:=by rw [RU a,wrap_i64 _ (by omega) (by omega),mr _ (by omega) (by omega)]
  refine .inl ⟨(k / 10,(j:Int) - 1,d.set j (48+k%10)),by simp only [gX,c,aj,eu f,ob,l,h,m,q],⟨⟨by simp only;omega,by simp only;omega⟩,⟨by simp only;omega,by simp only;omega⟩,by simpa using b⟩,by simp only;omega,?_⟩;have g:((j:Int) - 1+1).toNat=j:=by omega
  have p:((j:Int)+1).toNat=j+1:=by omega
  simp only [g,p,over,lw,dD,vS,cP,dg,fi];congr 1;rw [List.drop_set,ab (by omega),AG,pR (by omega)];simp only [List.set_cons_zero,bH,vS,aM,dP,ep,dD,cP]
 ·have c:decide (i>=0)=false:=by simp;omega
  have s:(i+1).toNat=0:=by omega
  refine .inr ?_;simp only [gX,c,ah,s,dg,EB]
theorem MI (m:aa) (k:Int) (b:m.length<=18) (a:0<=k) (c:k<9223372036854775808):
  kq 20000000 m k=some (over [0,0,0,0,0,0,0,0,0,0,0,0,0,0,0,0,0,0] 0 (dg m.length k)):=by
 have w:IntKind.wrap .i64 (((List.length m:Nat):Int) - 1)=(m.length:Int) - 1:=wrap_i64 _ (by omega) (by omega);simp only [kq,w,GO k m.length [0,0,0,0,0,0,0,0,0,0,0,0,0,0,0,0,0,0] a c b (by rfl),ob]
theorem uT {d l:List Int} {i:Nat} (h:i<l.length):(over d 0 l)[i]?=l[i]?:=by
 unfold over;simp only [lw,dD];rw [mQ h]
theorem yv:∀(l:List Int),(∀x∈l,0<=x/\x<256)->nums (gI l)=l
 | [],_=>rfl
 | x::l,h=>by
  have ih:=yv l λy hy=>h y (eO _ hy);obtain ⟨a,c⟩:=h x (by simp);have e:(((UInt8.ofNat x.toNat).toNat:Nat):Int)=x:=by
   rw [Dk,o6 (by omega)];omega
  simp only [nums,gI,tP] at ih ⊢;simp only [fk,Function.comp,e];rw [show List.map ((λb:UInt8=>((b.toNat:Nat):Int)) ∘ λn:Int=>UInt8.ofNat n.toNat) l=l from ih]
theorem NX (l:aa):(nums l).length=l.length:=by simp [nums]
def cnt:aa->Nat
 | []=>0
 | c::r=>if c=88 then cnt r+1 else cnt r
def dv (c:UInt8):Int:=((c.toNat:Nat):Int) - 48
def nth:aa->Int->Int
 | [],_=>0
 | c::r,i=>if c=88 then 10*nth r (i / 10)+i%10 else 10*nth r i+dv c
def ag:aa->Int->Bool
 | [],_=>true
 | c::r,k=>ag r (k / 10)&&(decide (c=88)||decide (dv c=k%10))
def idx:aa->Int->Int
 | [],_=>0
 | c::r,k=>if c=88 then 10*idx r (k / 10)+k%10 else idx r (k / 10)
def okR (r:aa):Prop:=∀c∈r,c=88\/(0<=dv c/\dv c<10)
theorem ya {m:aa} (h:∀c∈m,okB c=true):okR m.reverse:=by
 intro c hc;have:=h c (Dt.1 hc);simp only [okB,gM,bQ,az,dl] at this;rcases this with h | h
 ·exact .inl (gZ.1 (by simpa using h))
 ·exact .inr (by unfold dv;omega)
theorem qX {c:UInt8} {r:aa} (h:okR (c::r)):okR r:=λx hx=>h x (eO _ hx)
theorem gW (n:Nat):(10:Int) ^ (n+1)=10*10 ^ n:=by rw [Int.pow_succ,Int.mul_comm]
theorem sR (n:Nat):(0:Int)<10 ^ n:=Int.pow_pos (by omega)
theorem qw:∀{r:aa},okR r->∀i,0<=i->0<=nth r i/\nth r i<10 ^ r.length
 | [],_,i,_=>by simp [nth]
 | c::r,h,i,hi=>by
  simp only [nth,aM,gW];split
  ·have:=qw (qX h) (i / 10) (by omega);omega
  ·rename_i hc;have:=qw (qX h) i hi;have:=(h c (by simp)).resolve_left hc;omega
theorem H7:∀{r:aa},okR r->∀i,0<=i->ag r (nth r i)=true
 | [],_,_,_=>rfl
 | c::r,h,i,hi=>by
  simp only [nth,ag];split
  ·rename_i hc;have e:(10*nth r (i / 10)+i%10) / 10=nth r (i / 10):=by omega
   rw [e,H7 (qX h) (i / 10) (by omega)];simp [hc]
  ·rename_i hc;have b:=(h c (by simp)).resolve_left hc;have e:(10*nth r i+dv c) / 10=nth r i:=by omega
   have a:(10*nth r i+dv c)%10=dv c:=by omega
   rw [e,a,H7 (qX h) i hi];simp
theorem wB:∀(r:aa) (k:Int),0<=k->0<=idx r k/\idx r k<10 ^ cnt r
 | [],k,_=>by simp [idx,cnt]
 | c::r,k,a=>by
  have:=wB r (k / 10) (by omega);simp only [idx,cnt];split
  ·rw [gW];omega
  ·exact this
theorem Kp:∀{r:aa} {k:Int},0<=k->k<10 ^ r.length->ag r k=true->nth r (idx r k)=k
 | [],k,d,b,_=>by simp at b;simp [nth];omega
 | c::r,k,d,b,a=>by
  simp only [ag,az,gM,dl] at a;rw [aM,gW] at b;have ih:=Kp (r:=r) (k:=k / 10) (by omega) (by omega) a.1;simp only [nth,idx];split
  ·have:=wB r (k / 10) (by omega);have e:(10*idx r (k / 10)+k%10) / 10=idx r (k / 10):=by omega
   have f:(10*idx r (k / 10)+k%10)%10=k%10:=by omega
   rw [e,f,ih];omega
  ·rename_i hc;rw [ih];have:=a.2.resolve_left hc;omega
theorem Aj:∀{r:aa},okR r->∀i j,0<=i->i<j->j<10 ^ cnt r->nth r i<nth r j
 | [],_,i,j,b,d,a=>by simp [cnt] at a;omega
 | c::r,h,i,j,b,d,a=>by
  simp only [nth,cnt] at a ⊢;split
  ·rename_i hc;rw [ae hc,gW] at a;by_cases e:i / 10=j / 10
   ·rw [e];omega
   ·have:=Aj (qX h) (i / 10) (j / 10) (by omega) (by omega) (by omega);omega
  ·rename_i hc;rw [ab hc] at a;have:=Aj (qX h) i j b d a;omega
theorem Fv:∀(r:aa),∀k,iI r.reverse (dg r.length k)=ag r k
 | [],k=>rfl
 | c::r,k=>by
  simp only [List.reverse_cons,aM,dg,ag];rw [ut (by rw [yN,vS]),Fv r];have a:decide (((c.toNat:Nat):Int)=48+k%10)=decide (dv c=k%10):=nI.2 (by unfold dv;omega);have b:(c==88)=decide (c=88):=by by_cases h:c=88<;>simp [h]
  simp only [iI,E7,a,b]
theorem Dp (m:aa) (k:Int):hasM m k=(decide (0<=k)&&(decide (k<10 ^ m.length)&&ag m.reverse k)):=by
 have:=Fv m.reverse k;rw [vk,yN] at this;unfold hasM;rw [this]
theorem vC:∀(m:aa),cnt m=m.count 88
 | []=>rfl
 | c::m=>by
  simp only [cnt,vC m,List.count_cons];by_cases h:c=88<;>simp [h]
theorem sG (m:aa):cnt m.reverse=cnt m:=by rw [vC,vC,List.count_reverse]
def fd (x y:Int):Int:=(if y=88 then x else y) - 48
def fval (x:Int) (l:List Int):Int:=l.foldl (λn y=>10*n+fd x y) 0
theorem zT (x:Int):∀(l:List Int) (n:Int),l.foldl (λn y=>10*n+fd x y) n=n*10 ^ l.length+fval x l
 | [],n=>by simp [fval]
 | y::l,n=>by
  have e:=zT x l (10*n+fd x y);have a:=zT x l (10*0+fd x y);simp only [fval,uq,aM,gW] at e a ⊢;rw [e,a,Int.add_mul,Int.add_mul];have:10*n*10 ^ l.length=n*(10*10 ^ l.length):=by rw [Int.mul_comm 10 n,Int.mul_assoc]
  omega
theorem xb (s:aa) (x:Int) (A:s.length<=18) (hs:∀c∈s,0<=fd x ((c.toNat:Nat):Int)/\fd x ((c.toNat:Nat):Int)<10):kZ 20000000 s x=some (fval x (nums s)):=by
 have hs':∀y∈nums s,0<=fd x y/\fd x y<10:=by
  intro y hy;obtain ⟨c,hc,rfl⟩:=fq.1 hy;exact hs c hc
 have t:(nums s).length=s.length:=NX s;have:=gO (step:=fX 20000000)
  (λst=>st.1=x/\st.2.2.1=((s.length:Nat):Int)/\st.2.2.2.2=nums s/\(0<=st.2.2.2.1/\st.2.2.2.1<=s.length)/\0<=st.2.1/\st.2.1<10 ^ st.2.2.2.1.toNat) (λst=>s.length - st.2.2.2.1.toNat)
  (λst=>((nums s).drop st.2.2.2.1.toNat).foldl (λn y=>10*n+fd x y) st.2.1) ?_ 20000000 (x,0,((s.length:Nat):Int),0,nums s) ⟨rfl,rfl,rfl,⟨by simp,by simp⟩,by simp,by simp⟩ (by simp;omega)
 ·show (ob (aq (fX 20000000) 20000000 (x,0,((List.length (nums s):Nat):Int),0,nums s)) λf=>some f)=_;rw [t,this];rfl
 rintro ⟨b,n,len,i,l⟩ ⟨q,r,m,⟨w,hi⟩,u,p⟩;simp only at q r m w hi u p ⊢;subst q r m;obtain ⟨j,rfl⟩:∃j:Nat,i=j:=⟨i.toNat,by omega⟩;simp only [cV] at p ⊢;rcases aF j s.length with v | D
 ·obtain ⟨y,hy⟩:∃c,(nums s)[j]?=some c:=⟨(nums s)[j]'(by omega),bn (by omega)⟩;obtain ⟨d0,d⟩:=hs' y (f7 hy);have g:(decide ((j:Int)<((s.length:Nat):Int)))=true:=by simp;omega
  have C:IntKind.wrap .i64 ((j:Int)+1)=((j+1:Nat):Int):=by rw [wrap_i64 _ (by omega) (by omega)];omega
  have k:=CS (j+1) (by omega);rw [gW] at k;have B:IntKind.wrap .i64 (10*n)=10*n:=wrap_i64 _ (by omega) (by omega);have o:∀z:Int,0<=z->z<10->IntKind.wrap .i64 (10*n+IntKind.wrap .i64 (IntKind.wrap .u8 z))=10*n+z:=λz E z1=>by
   rw [mr z (by omega) (by omega),wrap_i64 z (by omega) (by omega),wrap_i64 _ (by omega) (by omega)]
  rw [bY hy,uq];simp only [fX,g,aj,eu (show j<(nums s).length by omega),ob,hy,C,B];have next:0<=10*n+fd b y/\10*n+fd b y<10 ^ (j+1):=by rw [gW];omega
  by_cases a:y=88
  ·have e:(y==88)=true:=by simpa using a
   have h:fd b y=b - 48:=by simp [fd,a]
   rw [h] at d0 d next ⊢;refine .inl ⟨(b,10*n+(b - 48),((s.length:Nat):Int),((j+1:Nat):Int),nums s),by simp only [e,aj,o _ d0 d],⟨rfl,rfl,rfl,⟨by simp only;omega,by simp only;omega⟩,next.1,by simpa only [cV] using next.2⟩,by simp only [cV];omega,by simp only [cV]⟩
  ·have e:(y==88)=false:=by simpa using a
   have h:fd b y=y - 48:=by simp [fd,a]
   rw [h] at d0 d next ⊢;refine .inl ⟨(b,10*n+(y - 48),((s.length:Nat):Int),((j+1:Nat):Int),nums s),by simp only [e,ah,o _ d0 d],⟨rfl,rfl,rfl,⟨by simp only;omega,by simp only;omega⟩,next.1,by simpa only [cV] using next.2⟩,by simp only [cV];omega,by simp only [cV]⟩
 ·have g:(decide ((j:Int)<((s.length:Nat):Int)))=false:=by simp;omega
  refine .inr ?_;simp only [fX,g,ah];rw [iP (by omega)];rfl
theorem xg (x:Int) (l:List Int) (y:Int):fval x (l++[y])=10*fval x l+fd x y:=by simp [fval,E1]
theorem BH (r:aa) (c:UInt8):nums ((c::r).reverse)=nums r.reverse++[((c.toNat:Nat):Int)]:=by simp [nums]
theorem C2 (x:Int) (c:UInt8):fd x ((c.toNat:Nat):Int)=if c=88 then x - 48 else dv c:=by
 unfold fd dv;by_cases h:c=88
 ·simp [h]
 ·have:¬((c.toNat:Nat):Int)=88:=λe=>h (gZ.1 (by simpa using (by omega:c.toNat=88)));rw [ab this,ab h]
theorem yF:∀(r:aa),fval 48 (nums r.reverse)=nth r 0
 | []=>rfl
 | c::r=>by
  rw [BH,xg,yF r,C2];simp only [nth];split<;>simp
theorem s8:∀(r:aa),fval 57 (nums r.reverse)=nth r (10 ^ cnt r - 1)
 | []=>rfl
 | c::r=>by
  have hp:=sR (cnt r);rw [BH,xg,s8 r,C2];simp only [nth,cnt];split
  ·rw [gW];have a:(10*(10:Int) ^ cnt r - 1) / 10=10 ^ cnt r - 1:=by omega
   have b:(10*(10:Int) ^ cnt r - 1)%10=9:=by omega
   rw [a,b];omega
  ·rfl
theorem U1 {m:aa} (a:∀c∈m,okB c=true) {x:Int} (hx:48<=x/\x<58):∀c∈m,0<=fd x ((c.toNat:Nat):Int)/\fd x ((c.toNat:Nat):Int)<10:=by
 intro c hc;rw [C2];have:=ya a c (Dt.2 hc);split
 ·omega
 ·rename_i h;exact this.resolve_left h
theorem L6 {m:aa} (c:chk m=0):oH 20000000 m=some (nth m.reverse 0,0):=by
 obtain ⟨a,_,b⟩:=mC c;have d:((0:Int) != 0)=false:=by simp
 have:=yF m.reverse;rw [vk] at this;simp only [oH,kH 20000000 m (by omega),c,ob,d,ah,xb m 48 a (U1 b (by omega)),this]
theorem D3 {m:aa} (c:chk m=0):kC 20000000 m=some (nth m.reverse (10 ^ cnt m - 1),0):=by
 obtain ⟨a,_,b⟩:=mC c;have d:((0:Int) != 0)=false:=by simp
 have:=s8 m.reverse;rw [vk,sG] at this;simp only [kC,kH 20000000 m (by omega),c,ob,d,ah,xb m 57 a (U1 b (by omega)),this]
theorem MB {m:aa} {l:List Int} (z:List Int) (a:m.length<=18) (f:l.length=m.length) (d:∀y∈l,48<=y/\y<58):fH 20000000 m (over z 0 l)=some (fval 0 l):=by
 have g:List.take m.length (over z 0 l)=l:=by
  unfold over;rw [lw,dD,ul (by omega),lu (by omega)]
 have e:nums (gI l)=l:=yv l λy hy=>by have:=d y hy;omega
 have h:(gI l).length=m.length:=by simp [gI,f]
 simp only [fH,fQ a,ob,cP,show Nat.ble m.length 18=true from cr a,aj,ch,g];rw [xb (gI l) 0 (by omega) ?_,e];intro c hc;have b:((c.toNat:Nat):Int)∈l:=by rw [<-e];exact fq.2 ⟨c,hc,rfl⟩
 have:=d _ b;unfold fd;rw [ab (by omega)];omega
theorem FZ {m:aa} (e:chk m=0) {i:Int} (c:0<=i):hasM m (nth m.reverse i)=true:=by
 obtain ⟨d,_,a⟩:=mC e;have b:=qw (ya a) i c;rw [yN] at b;rw [Dp,H7 (ya a) i c,au b.1,au b.2];rfl
def vl:List Int->Int
 | []=>0
 | y::l=>(y - 48)*10 ^ l.length+vl l
def digl (l:List Int):Prop:=∀y∈l,48<=y/\y<58
theorem dj {y:Int} {l:List Int} (h:digl (y::l)):digl l:=λx hx=>h x (eO _ hx)
theorem uR:∀{l:List Int},digl l->0<=vl l/\vl l<10 ^ l.length
 | [],_=>by simp [vl]
 | y::l,h=>by
  have ih:=uR (dj h);have hy:=h y (by simp);have hp:=sR l.length;simp only [vl,aM,gW];have a1:0<=(y - 48)*10 ^ l.length:=Int.mul_nonneg (by omega) (by omega);have a2:(y - 48)*10 ^ l.length<=9*10 ^ l.length:=OQ (by omega) (by omega);omega
theorem QS {y z:Int} {a b:List Int} (c:a.length=b.length) (e:digl a) (f:digl b) (h:y<z):vl (y::a)<vl (z::b):=by
 have g:=uR e;have d:=uR f;have hp:=sR a.length;simp only [vl];rw [<-c] at d ⊢;have a2:(y - 48+1)*10 ^ a.length<=(z - 48)*10 ^ a.length:=OQ (by omega) (by omega);rw [Int.add_mul] at a2;omega
theorem zO:∀{l:List Int},digl l->fval 0 l=vl l
 | [],_=>rfl
 | y::l,h=>by
  have hy:=h y (by simp);have e:fval 0 (y::l)=l.foldl (λn y=>10*n+fd 0 y) (10*0+fd 0 y):=rfl;have a:fd 0 y=y - 48:=by unfold fd;rw [ab (by omega)]
  rw [e,zT,zO (dj h),a];simp only [vl,Int.mul_zero,Int.zero_add]
theorem Kz {l:List Int} {y:Int} (h:digl (l++[y])):vl (l++[y])=10*vl l+(y - 48):=by
 have hy:=h y (by simp);have a:digl l:=λx hx=>h x (by simp [hx]);rw [<-zO h,<-zO a,xg];unfold fd;rw [ab (by omega)]
theorem L8:∀(L:Nat) (k:Int),0<=k->k<10 ^ L->vl (dg L k)=k
 | 0,k,c,a=>by simp at a;simp [dg,vl];omega
 | L+1,k,c,a=>by
  rw [gW] at a;have:=L8 L (k / 10) (by omega) (by omega);have b:=th (L+1) k;simp only [dg] at b ⊢;rw [Kz b,this];omega
theorem Vt {l:List Int} (h:digl l):dg l.length (vl l)=l:=by
 have c:∀(r:List Int),digl r.reverse->dg r.length (vl r.reverse)=r.reverse:=by
  intro r
  induction r with
  | nil=>intro _;rfl
  | cons y r ih=>
   intro h;simp only [List.reverse_cons,aM] at h ⊢;have hy:=h y (by simp);rw [Kz h];simp only [dg];have a:(10*vl r.reverse+(y - 48)) / 10=vl r.reverse:=by omega
   have b:48+(10*vl r.reverse+(y - 48))%10=y:=by omega
   rw [a,b,ih λx hx=>h x (mX.2 (.inl hx))]
 have:=c l.reverse (by rw [vk];exact h);rwa [vk,yN] at this
def fst (up:Bool):Int:=cond up 48 57
def lst (up:Bool):Int:=cond up 57 48
def stp (up:Bool) (y:Int):Int:=cond up (y+1) (y - 1)
def fil (up:Bool) (m:aa):List Int:=m.map λc=>cond (decide (c=88)) (fst up) ((c.toNat:Nat):Int)
def nx (up:Bool):aa->List Int->Option (List Int)
 | c::m,y::l=>
  if c=88 then
   match nx up m l with
   | some r=>some (y::r)
   | none=>if y=lst up then none else some (stp up y::fil up m)
  else if ((c.toNat:Nat):Int)=y then (nx up m l).map λr=>y::r
  else if decide (((c.toNat:Nat):Int)>y)=up then some (((c.toNat:Nat):Int)::fil up m) else none
 | _,_=>some []
def okM (m:aa):Prop:=∀c∈m,okB c=true
theorem ru {c:UInt8} {m:aa} (h:okM (c::m)):okM m:=λx hx=>h x (eO _ hx)
theorem ES {c:UInt8} (h:okB c=true) (a:¬c=88):48<=((c.toNat:Nat):Int)/\((c.toNat:Nat):Int)<58:=by
 simp only [okB,gM,bQ,az,dl] at h;have:¬c.toNat=88:=λe=>a (gZ.1 (by simpa using e));omega
theorem zh (up:Bool) (m:aa):(fil up m).length=m.length:=by simp [fil]
theorem Ip (up:Bool) {m:aa} (h:okM m):digl (fil up m):=by
 intro y hy;obtain ⟨c,hc,rfl⟩:=fq.1 hy;by_cases a:c=88
 ·simp only [au a,aj];cases up<;>simp [fst]
 ·simp only [av a,ah];exact ES (h c hc) a
theorem vo (up:Bool):∀(m:aa),iI m (fil up m)=true
 | []=>rfl
 | c::m=>by
  have:=vo up m;simp only [fil,fk,iI] at this ⊢;rw [this];by_cases a:c=88
  ·simp [a]
  ·simp [a]
def eG (up:Bool) (a b:Int):Prop:=match up with | true=>a<=b | false=>b<=a
theorem zS (up:Bool):∀{m:aa} {e:List Int},okM m->m.length=e.length->digl e->iI m e=true->eG up (vl (fil up m)) (vl e)
 | [],[],_,_,_,_=>by cases up<;>simp [fil,vl,eG]
 | c::m,y::e,l,i,j,k=>by
  simp only [aM,wi] at i;simp only [iI,az,gM,bQ,dl] at k;have ih:=zS up (ru l) i (dj j) k.2;have hy:=j y (by simp);have f:=zh up m;have n:=Ip up (ru l);have a:∀z:Int,vl (z::fil up m)=(z - 48)*10 ^ m.length+vl (fil up m):=λz=>by rw [vl,f]
  have g:fil up (c::m)=(cond (decide (c=88)) (fst up) ((c.toNat:Nat):Int))::fil up m:=rfl;rw [g];by_cases b:c=88
  ·simp only [au b,aj];by_cases d:y=fst up
   ·rw [<-d,a,vl,<-i];cases up<;>simp only [eG] at ih ⊢<;>omega
   ·cases up
    ·exact Int.le_of_lt (QS (by rw [f,i]) (dj j) n (by simp [fst] at d ⊢;omega))
    ·exact Int.le_of_lt (QS (by rw [f,i]) n (dj j) (by simp [fst] at d ⊢;omega))
  ·simp only [av b,ah];rw [k.1.resolve_left b,a,vl,<-i];cases up<;>simp only [eG] at ih ⊢<;>omega
 | [],_::_,_,h,_,_=>by simp at h
 | _::_,[],_,h,_,_=>by simp at h
theorem Pq (up:Bool):∀{m:aa} {l:List Int},okM m->m.length=l.length->digl l->
  match nx up m l with
  | some r=>r.length=m.length/\digl r/\iI m r=true/\eG up (vl l) (vl r)/\∀e,e.length=m.length->digl e->iI m e=true->eG up (vl l) (vl e)->eG up (vl r) (vl e)
  | none=>∀e,e.length=m.length->digl e->iI m e=true->¬eG up (vl l) (vl e)
 | [],[],_,_,_=>by
  simp only [nx];refine ⟨rfl,by intro y hy;simp at hy,rfl,by cases up<;>simp [eG],?_⟩;intro e C _ _ _;simp only [dP] at C;rw [sQ C];cases up<;>simp [eG]
 | c::m,y::l,M,t,T=>by
  simp only [aM,wi] at t;have ih:=Pq up (ru M) t (dj T);have hy:=T y (by simp);have x:=dj T;have u:=zh up m;have B:=Ip up (ru M);have L:∀{z w:Int} {a b:List Int},a.length=m.length->b.length=m.length->digl a->digl b->z<w->vl (z::a)<vl (w::b):=λC J N O Q=>QS (by rw [C,J]) N O Q;have f:∀(z:Int) {a b:List Int},a.length=m.length->b.length=m.length->(eG up (vl (z::a)) (vl (z::b))↔eG up (vl a) (vl b)):=λz a b C J=>by
   simp only [vl,C,J];cases up<;>simp only [eG]<;>omega
  have p:∀{z w:Int} {a b:List Int},a.length=m.length->b.length=m.length->digl a->digl b->z≠w->(eG up (vl (z::a)) (vl (w::b))↔eG up z w):=λ{z w a b} C J N O Q=>by
   rcases Int.lt_trichotomy z w with h | h | h
   ·have:=L C J N O h;cases up<;>simp only [eG]<;>omega
   ·exact absurd h Q
   ·have:=L J C O N h;cases up<;>simp only [eG]<;>omega
  have d:∀e:List Int,e.length=(c::m).length->∃w a,e=w::a/\a.length=m.length:=λe h=>by
   match e,h with
   | w::a,h=>exact ⟨w,a,rfl,by simpa using h⟩
  by_cases g:c=88
  ·cases D:nx up m l with
   | some r=>
    rw [D] at ih;obtain ⟨H,P,R,S,V⟩:=ih;simp only [nx,ae g,D];refine ⟨by simp [H],λz s=>?_,by simp [iI,g,R],(f y t.symm H).2 S,λe v j o q=>?_⟩
    ·rcases cf.1 s with rfl | s
     ·exact hy
     ·exact P z s
    ·obtain ⟨w,a,rfl,i⟩:=d e v;simp only [iI,g,um,FT,qo] at o;by_cases E:y=w
     ·subst E;exact (f y H i).2 (V a i (dj j) o ((f y t.symm i).1 q))
     ·exact (p H i P (dj j) E).2 ((p t.symm i x (dj j) E).1 q)
   | none=>
    rw [D] at ih;by_cases k:y=lst up
    ·simp only [nx,ae g,D,ae k];intro e v j o q;obtain ⟨w,a,rfl,i⟩:=d e v;simp only [iI,g,um,FT,qo] at o;have W:=j w (by simp);by_cases E:y=w
     ·subst E;exact ih a i (dj j) o ((f y t.symm i).1 q)
     ·have:=(p t.symm i x (dj j) E).1 q;cases up<;>simp only [eG,lst,aj,ah] at this k<;>omega
    ·simp only [nx,ae g,D,ab k];have hs:48<=stp up y/\stp up y<58/\y≠stp up y/\eG up y (stp up y)/\∀w,w≠y->eG up y w->eG up (stp up y) w:=by
      cases up<;>simp only [eG,lst,stp,aj,ah] at k ⊢<;>exact ⟨by omega,by omega,by omega,by omega,λw C J=>by omega⟩
     obtain ⟨Z,Y,s3,s4,X⟩:=hs;refine ⟨by simp [u],λz s=>?_,by simp [iI,g,vo],(p t.symm u x B s3).2 s4,λe v j o q=>?_⟩
     ·rcases cf.1 s with rfl | s
      ·exact ⟨Z,Y⟩
      ·exact B z s
     ·obtain ⟨w,a,rfl,i⟩:=d e v;simp only [iI,g,um,FT,qo] at o;by_cases E:y=w
      ·subst E;exact absurd ((f y t.symm i).1 q) (ih a i (dj j) o)
      ·have h9:=X w (λh=>E h.symm) ((p t.symm i x (dj j) E).1 q);by_cases K:stp up y=w
       ·rw [K];exact (f w u i).2 (zS up (ru M) i.symm (dj j) o)
       ·exact (p u i B (dj j) K).2 h9
  ·have U:=ES (M c (by simp)) g;have G:∀w a,iI (c::m) (w::a)=true->w=((c.toNat:Nat):Int)/\iI m a=true:=λw a h=>by
    simp only [iI,az,gM,bQ,dl] at h;exact ⟨(h.1.resolve_left g).symm,h.2⟩
   by_cases n:((c.toNat:Nat):Int)=y
   ·cases D:nx up m l with
    | some r=>
     rw [D] at ih;obtain ⟨H,P,R,S,V⟩:=ih;simp only [nx,ab g,ae n,D,eo];refine ⟨by simp [H],λz s=>?_,by simp [iI,n,R],(f y t.symm H).2 S,λe v j o q=>?_⟩
     ·rcases cf.1 s with rfl | s
      ·exact hy
      ·exact P z s
     ·obtain ⟨w,a,rfl,i⟩:=d e v;obtain ⟨rfl,A⟩:=G w a o;rw [n] at q ⊢;exact (f y H i).2 (V a i (dj j) A ((f y t.symm i).1 q))
    | none=>
     rw [D] at ih;simp only [nx,ab g,ae n,D,hO];intro e v j o q;obtain ⟨w,a,rfl,i⟩:=d e v;obtain ⟨rfl,A⟩:=G w a o;rw [n] at q;exact ih a i (dj j) A ((f y t.symm i).1 q)
   ·have I:decide (((c.toNat:Nat):Int)>y)=up↔eG up y ((c.toNat:Nat):Int):=by
     cases up
     ·simp only [vX,eG];omega
     ·simp only [dl,eG];omega
    by_cases F:decide (((c.toNat:Nat):Int)>y)=up
    ·simp only [nx,ab g,ab n,ae F];refine ⟨by simp [u],λz s=>?_,by simp [iI,vo],(p t.symm u x B (λh=>n h.symm)).2 (I.1 F),λe v j o q=>?_⟩
     ·rcases cf.1 s with rfl | s
      ·exact U
      ·exact B z s
     ·obtain ⟨w,a,rfl,i⟩:=d e v;obtain ⟨rfl,A⟩:=G w a o;exact (f _ u i).2 (zS up (ru M) i.symm (dj j) A)
    ·simp only [nx,ab g,ab n,ab F];intro e v j o q;obtain ⟨w,a,rfl,i⟩:=d e v;obtain ⟨rfl,A⟩:=G w a o;exact F (I.2 ((p t.symm i x (dj j) (λh=>n h.symm)).1 q))
 | [],_::_,_,h,_=>by simp at h
 | _::_,[],_,h,_=>by simp at h
def ap:aa->List Int->Nat
 | c::m,y::l=>if c=88\/((c.toNat:Nat):Int)=y then ap m l+1 else 0
 | _,_=>0
theorem Um:∀(m:aa) (l:List Int),ap m l<=m.length
 | [],_=>by simp [ap]
 | c::m,[]=>by simp [ap]
 | c::m,y::l=>by
  have:=Um m l;simp only [ap,aM];split<;>omega
theorem Kv:∀(m:aa) (l:List Int),iI (m.take (ap m l)) (l.take (ap m l))=true
 | [],_=>by simp [ap,iI]
 | c::m,[]=>by simp [ap,iI]
 | c::m,y::l=>by
  have:=Kv m l;simp only [ap];split
  ·rename_i h;simp only [mz,iI,this,E7,gM,bQ,dl];exact h
  ·rfl
theorem Kt:∀{m:aa} {l:List Int} {c:UInt8} {y:Int},m[ap m l]?=some c->l[ap m l]?=some y->¬c=88/\¬((c.toNat:Nat):Int)=y
 | [],_,c,y,h,_=>by simp at h
 | x::m,[],c,y,_,h=>by simp at h
 | x::m,z::l,c,y,b,a=>by
  by_cases h:x=88\/((x.toNat:Nat):Int)=z
  ·simp only [ap,ae h,FR] at b a;exact Kt b a
  ·simp only [ap,ab h,kU,ak] at b a;subst b a;exact ⟨λe=>h (.inl e),λe=>h (.inr e)⟩
def bkn (up:Bool):aa->List Int->aa->Option (List Int)
 | c::m,y::d,m'=>
  match bkn up m d m' with
  | some r=>some (y::r)
  | none=>if c=88/\y≠lst up then some (stp up y::fil up (m++m')) else none
 | _,_,_=>none
theorem CC (up:Bool):∀{m m':aa} {d d':List Int},m.length=d.length->iI m d=true->
  nx up (m++m') (d++d')=match nx up m' d' with | some r=>some (d++r) | none=>bkn up m d m'
 | [],m',[],d',_,_=>by
  simp only [dD];cases nx up m' d'<;>rfl
 | c::m,m',y::d,d',e,b=>by
  simp only [aM,wi] at e;simp only [iI,az,gM,bQ,dl] at b;have ih:=CC up (m':=m') (d':=d') e b.2;simp only [ep,nx,ih,bkn];by_cases a:c=88
  ·simp only [ae a];cases nx up m' d' with
   | some r=>rfl
   | none=>
    cases bkn up m d m' with
    | some r=>rfl
    | none=>
     by_cases hy:y=lst up
     ·simp [hy]
     ·simp [hy,a]
  ·simp only [ab a,ae (b.1.resolve_left a)];cases nx up m' d' with
   | some r=>rfl
   | none=>
    cases bkn up m d m' with
    | some r=>rfl
    | none=>simp [a]
 | [],_,_::_,_,h,_=>by simp at h
 | _::_,_,[],_,h,_=>by simp at h
theorem EU (up:Bool) (c:UInt8) (y:Int):∀{m m':aa} {d:List Int},m.length=d.length->
  bkn up (m++[c]) (d++[y]) m'=if c=88/\y≠lst up then some (d++stp up y::fil up m') else bkn up m d (c::m')
 | [],m',[],_=>by simp [bkn]
 | x::m,m',z::d,a=>by
  simp only [aM,wi] at a;have ih:=EU up c y (m':=m') a;simp only [ep,bkn,ih];by_cases h:c=88/\y≠lst up
  ·simp only [ae h]
  ·simp only [ab h,fi,ep,dD]
 | [],_,_::_,h=>by simp at h
 | _::_,_,[],h=>by simp at h
def bki (up:Bool) (m:aa) (l:List Int):Nat->Option Nat
 | 0=>none
 | j+1=>if m[j]?=some 88/\l[j]?≠some (lst up) then some j else bki up m l j
theorem Of (up:Bool) (m:aa) (l:List Int):∀{j a:Nat},bki up m l j=some a->a<j
 | 0,a,h=>by simp [bki] at h
 | j+1,a,h=>by
  simp only [bki] at h;split at h
  ·simp only [ak] at h;omega
  ·have:=Of up m l h;omega
theorem Gk (up:Bool) (m:aa) (l:List Int) (d:m.length=l.length):∀j,j<=m.length->
  bkn up (m.take j) (l.take j) (m.drop j)=(bki up m l j).map λa=>l.take a++stp up (l.getD a 0)::fil up (m.drop (a+1))
 | 0,_=>by simp [bkn,bki]
 | j+1,h=>by
  obtain ⟨c,hc⟩:∃c,m[j]?=some c:=⟨m[j]'(by omega),bn (by omega)⟩;obtain ⟨y,hy⟩:∃c,l[j]?=some c:=⟨l[j]'(by omega),bn (by omega)⟩;have ih:=Gk up m l d j (by omega);rw [bY hc] at ih;rw [wj,wj,hc,hy];simp only [Option.toList_some];rw [EU up c y (by simp;omega),ih];have e:l.getD j 0=y:=by rw [BP,hy];rfl
  simp only [bki,hc,hy,ne_eq,ak];by_cases b:c=88/\¬y=lst up
  ·rw [ae b,ae b,eo,e]
  ·rw [ab b,ab b]
section
variable {m:List UInt8} {l z:List Int}
theorem k7 (A:m.length=l.length) (u:m.length<=18) (k f g:Int) (up:Bool):
  aq (fe 20000000) 20000000 (m,k,up,f,g,0,over z 0 l,over z 0 l)=some (m,k,up,f,g,((ap m l:Nat):Int),over z 0 l,over z 0 l):=by
 have:=gO (step:=fe 20000000) (λx=>x.1=m/\(0<=x.2.2.2.2.2.1/\x.2.2.2.2.2.1<=m.length)/\x.2.2.2.2.2.2.1=over z 0 l) (λx=>m.length - x.2.2.2.2.2.1.toNat)
  (λx=>(x.1,x.2.1,x.2.2.1,x.2.2.2.1,x.2.2.2.2.1,x.2.2.2.2.2.1+((ap (m.drop x.2.2.2.2.2.1.toNat) (l.drop x.2.2.2.2.2.1.toNat):Nat):Int),x.2.2.2.2.2.2.1,x.2.2.2.2.2.2.2)) ?_ 20000000 (m,k,up,f,g,0,over z 0 l,over z 0 l) ⟨rfl,⟨by simp,by simp⟩,rfl⟩ (by simp;omega)
 ·simpa using this
 rintro ⟨m',k,up,f,g,i,d,o⟩ ⟨r,⟨t,hi⟩,s⟩;simp only at r t hi s ⊢;subst r s;obtain ⟨j,rfl⟩:∃j:Nat,i=j:=⟨i.toNat,by omega⟩;simp only [cV];rcases aF j m'.length with p | q
 ·obtain ⟨c,hc⟩:∃c,m'[j]?=some c:=⟨m'[j],bn p⟩;obtain ⟨y,hy⟩:∃c,l[j]?=some c:=⟨l[j]'(by omega),bn (by omega)⟩;have v:(over z 0 l)[j]?=some y:=by rw [uT (by omega)];exact hy
  have n:(decide ((j:Int)<((List.length m':Nat):Int)))=true:=by simp;omega
  have w:IntKind.wrap .i64 ((j:Int)+1)=((j+1:Nat):Int):=by rw [wrap_i64 _ (by omega) (by omega)];omega
  rw [bY hc,bY hy];simp only [fe,n,aj,ew hc,ob,zP,w,eu (show j<18 by omega),v,ap];by_cases a:c=88
  ·refine .inl ⟨(m',k,up,f,g,((j+1:Nat):Int),over z 0 l,o),by simp only [au a,aj],⟨rfl,⟨by simp only;omega,by simp only;omega⟩,rfl⟩,by simp only [cV];omega,?_⟩;simp only [cV,ae (show c=88\/((c.toNat:Nat):Int)=y from .inl a)];congr 6;omega
  ·simp only [av a,ah];by_cases b:((c.toNat:Nat):Int)=y
   ·have e:(((c.toNat:Nat):Int)==y)=true:=by simpa using b
    refine .inl ⟨(m',k,up,f,g,((j+1:Nat):Int),over z 0 l,o),by simp only [e,aj],⟨rfl,⟨by simp only;omega,by simp only;omega⟩,rfl⟩,by simp only [cV];omega,?_⟩;simp only [cV,ae (show c=88\/((c.toNat:Nat):Int)=y from .inr b)];congr 6;omega
   ·have e:(((c.toNat:Nat):Int)==y)=false:=by simpa using b
    refine .inr ?_;simp only [e,ah,ab (show ¬(c=88\/((c.toNat:Nat):Int)=y) from λh=>h.elim a b),Int.ofNat_zero,Int.add_zero,Int.natCast_zero]
 ·have n:(decide ((j:Int)<((List.length m':Nat):Int)))=false:=by simp;omega
  refine .inr ?_;simp only [fe,n,ah];rw [iP q];simp [ap]
theorem HM (A:m.length=l.length) (t:m.length<=18) (f:Int) (up:Bool) (o:List Int) (i:Nat) (hi:i<=m.length):
  aq (ca 20000000) 20000000 (m,up,f,lst up,(i:Int),over z 0 l,o) =
   some (match bki up m l i with | none=>.inl (0,16) | some a=>.inr (m,up,f,((a:Nat):Int),o)):=by
 have:=gO (step:=ca 20000000) (λx=>x.1=m/\x.2.2.2.1=lst up/\(0<=x.2.2.2.2.1/\x.2.2.2.2.1<=m.length)/\x.2.2.2.2.2.1=over z 0 l) (λx=>x.2.2.2.2.1.toNat)
  (λx=>match bki up m l x.2.2.2.2.1.toNat with | none=>.inl (0,16) | some a=>.inr (x.1,x.2.1,x.2.2.1,((a:Nat):Int),x.2.2.2.2.2.2)) ?_ 20000000 (m,up,f,lst up,(i:Int),over z 0 l,o) ⟨rfl,rfl,⟨by simp only;omega,by simp only;omega⟩,rfl⟩ (by simp;omega)
 ·simpa using this
 rintro ⟨m',n,f,g,i,d,o⟩ ⟨q,p,⟨s,hi⟩,r⟩;simp only at q p s hi r ⊢;subst q r p;obtain ⟨j,rfl⟩:∃j:Nat,i=j:=⟨i.toNat,by omega⟩;simp only [cV];rcases j with _ | j
 ·refine .inr ?_;have w:IntKind.wrap .i64 (((0:Nat):Int) - 1)=-1:=wrap_i64 _ (by omega) (by omega);simp only [ca,w,show decide ((-1:Int)<0)=true from rfl,aj,bki]
 ·have w:IntKind.wrap .i64 (((j+1:Nat):Int) - 1)=(j:Int):=by rw [wrap_i64 _ (by omega) (by omega)];omega
  have u:decide ((j:Int)<0)=false:=by simp
  obtain ⟨c,hc⟩:∃c,m'[j]?=some c:=⟨m'[j]'(by omega),bn (by omega)⟩;obtain ⟨y,hy⟩:∃c,l[j]?=some c:=⟨l[j]'(by omega),bn (by omega)⟩;have v:(over z 0 l)[j]?=some y:=by rw [uT (by omega)];exact hy
  simp only [ca,w,u,ah,ew hc,ob,zP,eu (show j<18 by omega),v,bki,hc,hy,ak,ne_eq];by_cases b:c=88
  ·by_cases k:y=lst up
   ·have e:(y != lst up)=false:=by simpa using k
    refine .inl ⟨(m',n,f,lst up,(j:Int),over z 0 l,o),by simp only [au b,aj,e,ah],⟨rfl,rfl,⟨by simp only;omega,by simp only;omega⟩,rfl⟩,by simp only [cV];omega,?_⟩;simp only [cV,ab (show ¬(c=88/\¬y=lst up) from λh=>h.2 k)]
   ·have e:(y != lst up)=true:=by simpa using k
    refine .inr ?_;simp only [au b,aj,e,ae (show c=88/\¬y=lst up from ⟨b,k⟩)]
  ·refine .inl ⟨(m',n,f,lst up,(j:Int),over z 0 l,o),by simp only [av b,ah],⟨rfl,rfl,⟨by simp only;omega,by simp only;omega⟩,rfl⟩,by simp only [cV];omega,?_⟩;simp only [cV,ab (show ¬(c=88/\¬y=lst up) from λh=>b h.1)]
theorem Ce (q:m.length<=18) (up:Bool) (d:List Int) (e:d.length=18) (i:Nat) (hi:i<=m.length):
  aq (bi 20000000) 20000000 (m,fst up,(i:Int),d)=some (m,over d i (fil up (m.drop i))):=by
 have:=gO (step:=bi 20000000) (λx=>x.1=m/\x.2.1=fst up/\(0<=x.2.2.1/\x.2.2.1<=m.length)/\x.2.2.2.length=18) (λx=>m.length - x.2.2.1.toNat)
  (λx=>(m,over x.2.2.2 x.2.2.1.toNat (fil up (m.drop x.2.2.1.toNat)))) ?_ 20000000 (m,fst up,(i:Int),d) ⟨rfl,rfl,⟨by simp only;omega,by simp only;omega⟩,e⟩ (by simp;omega)
 ·simpa using this
 rintro ⟨m',f,i,d⟩ ⟨o,l,⟨p,hi⟩,e⟩;simp only at o l p hi e ⊢;subst o l;obtain ⟨j,rfl⟩:∃j:Nat,i=j:=⟨i.toNat,by omega⟩;simp only [cV];rcases aF j m'.length with k | g
 ·obtain ⟨c,hc⟩:∃c,m'[j]?=some c:=⟨m'[j],bn k⟩;have n:j<18:=by omega
  have h:(decide ((j:Int)<((List.length m':Nat):Int)))=true:=by simp;omega
  have s:IntKind.wrap .i64 ((j:Int)+1)=((j+1:Nat):Int):=by rw [wrap_i64 _ (by omega) (by omega)];omega
  have r:Nat.blt j 18=true:=cr n;have b:∀c:UInt8,fil up (c::m'.drop (j+1))=(cond (decide (c=88)) (fst up) ((c.toNat:Nat):Int))::fil up (m'.drop (j+1)):=λ_=>rfl;rw [bY hc,b];simp only [bi,h,aj,ew hc,ob,zP,eu n,r,s];by_cases a:c=88
  ·refine .inl ⟨(m',fst up,((j+1:Nat):Int),(d.set j ((c.toNat:Nat):Int)).set j (fst up)),by simp only [au a,aj],⟨rfl,rfl,⟨by simp only;omega,by simp only;omega⟩,by simpa using e⟩,by simp only [cV];omega,?_⟩;simp only [cV,au a,aj];rw [List.set_set,zZ _ _ _ _ (by omega)]
  ·refine .inl ⟨(m',fst up,((j+1:Nat):Int),d.set j ((c.toNat:Nat):Int)),by simp only [av a,ah],⟨rfl,rfl,⟨by simp only;omega,by simp only;omega⟩,by simpa using e⟩,by simp only [cV];omega,?_⟩;simp only [cV,av a,ah];rw [zZ _ _ _ _ (by omega)]
 ·have h:(decide ((j:Int)<((List.length m':Nat):Int)))=false:=by simp;omega
  refine .inr ?_;simp only [bi,h,ah];rw [iP g];simp [fil,EB]
theorem CN (z l F:List Int) (i:Nat) (h:i+F.length=l.length):over (over z 0 l) i F=over z 0 (l.take i++F):=by
 unfold over;simp only [lw,dD,cP,bH,fZ,sy (show i<=l.length by omega),h];rw [ul (by omega),List.drop_append_of_le_length (by omega),List.drop_of_length_le (aP l.length)];simp
end
theorem Lu {m:aa} (hm:chk m=0) (up:Bool) (k:Int) (T:0<=k) (Y:k<10 ^ m.length):
  de 20000000 m k up=some (match nx up m (dg m.length k) with | some r=>(vl r,0) | none=>(0,16)):=by
 obtain ⟨g,_,K⟩:=mC hm;have hp:=CS m.length g;have f:=vS m.length k;have o:=th m.length k;have S:=L8 m.length k T Y;have J:=Pq up K f.symm o;have j:=MI m k g T (by omega);generalize dg m.length k=l at f o S J j ⊢;have n:(over [0,0,0,0,0,0,0,0,0,0,0,0,0,0,0,0,0,0] 0 l).length=18:=by rw [LQ _ _ _ (by simp;omega)];rfl
 have fin:∀r:List Int,nx up m l=some r->fH 20000000 m (over [0,0,0,0,0,0,0,0,0,0,0,0,0,0,0,0,0,0] 0 r)=some (vl r):=by
  intro r W;rw [W] at J;obtain ⟨Z,V,_⟩:=J;rw [MB _ g Z V,zO V]
 have x:=Um m l;have D:=Kv m l;have b:=CC up (m:=m.take (ap m l)) (m':=m.drop (ap m l)) (d:=l.take (ap m l)) (d':=l.drop (ap m l)) (by simp;omega) D;rw [tW,tW] at b;have h:kq 20000000 m k=some (over [0,0,0,0,0,0,0,0,0,0,0,0,0,0,0,0,0,0] 0 l):=j;generalize hzz:([0,0,0,0,0,0,0,0,0,0,0,0,0,0,0,0,0,0]:List Int)=z at n fin h;rcases aF (ap m l) m.length with P | hge
 ·obtain ⟨c,hc⟩:∃c,m[ap m l]?=some c:=⟨m[ap m l],bn P⟩;obtain ⟨y,hy⟩:∃c,l[ap m l]?=some c:=⟨l[ap m l]'(by omega),bn (by omega)⟩;obtain ⟨C,O⟩:=Kt hc hy;have B:(over z 0 l)[ap m l]?=some y:=by rw [uT (by omega)];exact hy
  have q:(((ap m l:Nat):Int)==((List.length m:Nat):Int))=false:=by simp;omega
  have A:ap m l<18:=by omega
  have I:fil up (m.drop (ap m l))=((c.toNat:Nat):Int)::fil up (m.drop (ap m l+1)):=by
   rw [bY hc];simp [fil,C]
  have G:=Gk up m l f.symm (ap m l) x;have M:nx up (m.drop (ap m l)) (l.drop (ap m l))=if decide (((c.toNat:Nat):Int)>y)=up then some (fil up (m.drop (ap m l))) else none:=by
   rw [I,bY hc,bY hy];simp only [nx,ab C,ab O]
  rw [M] at b;by_cases p:decide (((c.toNat:Nat):Int)>y)=up
  ·rw [ae p] at b;simp only at b;have u:=fin _ b;rw [b];simp only [];rw [<-CN z l _ _ (by rw [zh,cY];omega)] at u;have E:=Ce g up _ n (ap m l) x;cases up
   ·have i:=k7 (z:=z) f.symm g k 57 48 false;have l2':aq (bi 20000000) 20000000 (m,57,((ap m l:Nat):Int),over z 0 l)=_:=E;simp only [de,iv,aj,h,ob,i,q,ah,ew hc,eu A,B,p,um,cX,l2',u]
   ·have i:=k7 (z:=z) f.symm g k 48 57 true;have l2':aq (bi 20000000) 20000000 (m,48,((ap m l:Nat):Int),over z 0 l)=_:=E;simp only [de,cX,aj,h,ob,i,q,ah,ew hc,eu A,B,p,um,l2',u]
  ·rw [ab p] at b;simp only [G] at b;have s:(!(decide (((c.toNat:Nat):Int)>y)==up))=true:=by
    cases up<;>cases hh:decide (((c.toNat:Nat):Int)>y)<;>simp_all
   have t:=HM (z:=z) f.symm g (fst up) up (over z 0 l) (ap m l) x;cases L:bki up m l (ap m l) with
   | none=>
    rw [L] at b t;simp only [hO] at b;rw [b];simp only [] at t ⊢;cases up
    ·have i:=k7 (z:=z) f.symm g k 57 48 false;have l1':aq (ca 20000000) 20000000 (m,false,57,48,((ap m l:Nat):Int),over z 0 l,over z 0 l)=_:=t;simp only [de,iv,aj,h,ob,i,q,ah,ew hc,eu A,B,s,l1']
    ·have i:=k7 (z:=z) f.symm g k 48 57 true;have l1':aq (ca 20000000) 20000000 (m,true,48,57,((ap m l:Nat):Int),over z 0 l,over z 0 l)=_:=t;simp only [de,cX,aj,h,ob,i,q,ah,ew hc,eu A,B,s,l1']
   | some a=>
    have ha:=Of up m l L;obtain ⟨w,Q⟩:∃c,l[a]?=some c:=⟨l[a]'(by omega),bn (by omega)⟩;have F:(over z 0 l)[a]?=some w:=by rw [uT (by omega)];exact Q
    have N:l.getD a 0=w:=by rw [BP,Q];rfl
    have X:=o w (f7 Q);have v:a<18:=by omega
    have R:Nat.blt a 18=true:=cr v;have U:IntKind.wrap .i64 ((a:Int)+1)=((a+1:Nat):Int):=by rw [wrap_i64 _ (by omega) (by omega)];omega
    rw [L] at b t;simp only [eo,N] at b;have u:=fin _ b;rw [b];simp only [] at t ⊢;rw [<-CN z l _ _ (by rw [aM,zh,cY];omega),<-zZ _ _ _ _ (by omega)] at u;have E:=Ce g up ((over z 0 l).set a (stp up w)) (by simpa using n) (a+1) (by omega);cases up
    ·have i:=k7 (z:=z) f.symm g k 57 48 false;have l1':aq (ca 20000000) 20000000 (m,false,57,48,((ap m l:Nat):Int),over z 0 l,over z 0 l)=some (.inr (m,false,57,((a:Nat):Int),over z 0 l)):=t;have l2':aq (bi 20000000) 20000000 (m,57,((a+1:Nat):Int),(over z 0 l).set a (w - 1))=_:=E;have H:IntKind.wrap .u8 (w - 1)=w - 1:=mr _ (by omega) (by omega);simp only [de,iv,aj,h,ob,i,q,ah,ew hc,eu A,B,s,l1',eu v,F,R,U,H,l2',u]
    ·have i:=k7 (z:=z) f.symm g k 48 57 true;have l1':aq (ca 20000000) 20000000 (m,true,48,57,((ap m l:Nat):Int),over z 0 l,over z 0 l)=some (.inr (m,true,48,((a:Nat):Int),over z 0 l)):=t;have l2':aq (bi 20000000) 20000000 (m,48,((a+1:Nat):Int),(over z 0 l).set a (w+1))=_:=E;have H:IntKind.wrap .u8 (w+1)=w+1:=mr _ (by omega) (by omega);simp only [de,cX,aj,h,ob,i,q,ah,ew hc,eu A,B,s,l1',eu v,F,R,U,H,l2',u]
 ·have e:ap m l=m.length:=by omega
  rw [e,rI,<-f,rI,nM] at b;simp only [nx,lL] at b;have q:(((ap m l:Nat):Int)==((List.length m:Nat):Int))=true:=by rw [e];simp
  rw [b];simp only [S];cases up
  ·have i:=k7 (z:=z) f.symm g k 57 48 false;simp only [de,iv,aj,h,ob,i,q]
  ·have i:=k7 (z:=z) f.symm g k 48 57 true;simp only [de,cX,ah,h,ob,i,q,aj]
def near (up:Bool) (m:aa) (k:Int):Option Int->Prop
 | some R=>hasM m R=true/\eG up k R/\∀e,hasM m e=true->eG up k e->eG up R e
 | none=>∀e,hasM m e=true->¬eG up k e
def res (o:Option Int):Int×Int:=match o with | some r=>(r,0) | none=>(0,16)
theorem nJ {m:aa} {e:Int} (h:hasM m e=true):(dg m.length e).length=m.length/\digl (dg m.length e)/\iI m (dg m.length e)=true/\vl (dg m.length e)=e/\0<=e/\e<10 ^ m.length:=by
 unfold hasM at h;simp only [az,dl] at h;exact ⟨vS _ _,th _ _,h.2.2,L8 _ _ h.1 h.2.1,h.1,h.2.1⟩
theorem Qh {m:aa} {r:List Int} (d:r.length=m.length) (b:digl r) (e:iI m r=true):hasM m (vl r)=true:=by
 have a:=uR b;have c:=Vt b;rw [d] at a c;unfold hasM;rw [c,e,au a.1,au a.2];rfl
theorem wW {m:aa} (n:chk m=0) (up:Bool) (k:Int) (l:0<=k) (p:k<10 ^ m.length):∃o,de 20000000 m k up=some (res o)/\near up m k o:=by
 obtain ⟨s,_,h⟩:=mC n;have a:=Pq up h (vS m.length k).symm (th m.length k);have j:=L8 m.length k l p;refine ⟨(nx up m (dg m.length k)).map vl,?_,?_⟩
 ·rw [Lu n up k l p];cases nx up m (dg m.length k)<;>rfl
 ·cases hx:nx up m (dg m.length k) with
  | none=>
   rw [hx] at a;intro e f i;obtain ⟨c,g,d,b,_⟩:=nJ f;exact a _ c g d (by rw [j,b];exact i)
  | some r=>
   rw [hx] at a;obtain ⟨w,t,v,q,u⟩:=a;refine ⟨Qh w t v,by rw [j] at q;exact q,λe f i=>?_⟩;obtain ⟨c,g,d,b,_⟩:=nJ f;have:=u _ c g d (by rw [j,b];exact i);rwa [b] at this
theorem F9 {m:aa} {e:Int} (h:hasM m e=true):0<=idx m.reverse e/\idx m.reverse e<10 ^ cnt m/\nth m.reverse (idx m.reverse e)=e:=by
 rw [Dp] at h;simp only [az,dl] at h;obtain ⟨k0,k1,k2⟩:=h;have:=wB m.reverse e k0;rw [sG] at this;exact ⟨this.1,this.2,Kp k0 (by rw [yN];exact k1) k2⟩
section
variable {m:List UInt8} (hm:chk m=0)
include hm
theorem KB {i j:Int} (b:0<=i) (d:i<=j) (e:j<10 ^ cnt m):nth m.reverse i<=nth m.reverse j:=by
 obtain ⟨c,_,a⟩:=mC hm;rcases Int.lt_or_eq_of_le d with h | rfl
 ·exact Int.le_of_lt (Aj (ya a) i j b h (by rw [sG];exact e))
 ·exact yw _
theorem BX (k:Int):kN 20000000 m k=some (decide (0<=k/\k<10 ^ m.length)):=by
 obtain ⟨b,_,c⟩:=mC hm;simp only [kN,NR m.length b,ob];by_cases a:0<=k
 ·have d0:decide (k>=0)=true:=by simpa using a
  simp only [d0,aj,a,mN,sD]
 ·have d0:decide (k>=0)=false:=by simpa using a
  simp only [d0,ah,a,false_and,pV]
theorem Ly (k:Int):∃o,rq 20000000 m k=some (res o)/\near true m k o:=by
 obtain ⟨g,_,d⟩:=mC hm;have l:((0:Int) != 0)=false:=by simp
 simp only [rq,kH 20000000 m (by omega),hm,lI,l,ah,BX hm];by_cases a:k<0
 ·refine ⟨some (nth m.reverse 0),by simp only [au a,aj,L6 hm,lI,res],FZ hm (by omega),?_,λe b f=>?_⟩
  ·have:=(qw (ya d) 0 (by omega)).1;simp only [eG];omega
  ·obtain ⟨j,q,r⟩:=F9 b;have:=KB hm (yw 0) j q;simp only [eG];omega
 ·by_cases c:k<10 ^ m.length
  ·obtain ⟨o,p,n⟩:=wW hm true k (by omega) c;exact ⟨o,by simp only [av a,ah,au (show 0<=k/\k<10 ^ m.length from ⟨by omega,c⟩),cX,p,lI],n⟩
  ·refine ⟨none,by simp only [av a,ah,av (show ¬(0<=k/\k<10 ^ m.length) from λh=>c h.2),iv,aj,res],λe b f=>?_⟩;obtain ⟨_,_,_,_,_,i⟩:=nJ b;simp only [eG] at f;omega
theorem Jm (k:Int):∃o,rn 20000000 m k=some (res o)/\near false m k o:=by
 obtain ⟨g,_,d⟩:=mC hm;have l:((0:Int) != 0)=false:=by simp
 simp only [rn,kH 20000000 m (by omega),hm,lI,l,ah,BX hm];by_cases a:k<0
 ·refine ⟨none,by simp only [au a,aj,res],λe b f=>?_⟩;obtain ⟨_,_,_,_,i,_⟩:=nJ b;simp only [eG] at f;omega
 ·by_cases c:k<10 ^ m.length
  ·obtain ⟨o,n,p⟩:=wW hm false k (by omega) c;exact ⟨o,by simp only [av a,ah,au (show 0<=k/\k<10 ^ m.length from ⟨by omega,c⟩),cX,n,lI],p⟩
  ·have q:=sR (cnt m);refine ⟨some (nth m.reverse (10 ^ cnt m - 1)),by simp only [av a,ah,av (show ¬(0<=k/\k<10 ^ m.length) from λh=>c h.2),iv,aj,D3 hm,lI,res],FZ hm (by omega),?_,λe b f=>?_⟩
   ·have:=(qw (ya d) (10 ^ cnt m - 1) (by omega)).2;rw [yN] at this;simp only [eG];omega
   ·obtain ⟨j,s,r⟩:=F9 b;have:=KB hm j (show idx m.reverse e<=10 ^ cnt m - 1 by omega) (by omega);simp only [eG];omega
end
end Go.Sh.Mk
namespace Go.Sh
open Go.Abs
def fitN (s:aa) (g:Nat):List Nat:=(List.range' 1 g).filter (agr s)
def xL (l:List Nat):List Int:=l.map λk:Nat=>(k:Int)
theorem Bo (l:List Nat):(xL l).length=l.length:=by simp [xL]
theorem BO (c:UInt8) {j:Nat} (a:j<10):(IntKind.wrap .i64 (IntKind.wrap .u8 (((c.toNat:Nat):Int) - 48))==((j:Nat):Int))=(c==UInt8.ofNat (48+j)):=by
 have hc:=c.toNat_lt;have d:=zu (((c.toNat:Nat):Int) - 48);rw [wrap_i64 _ (by omega) (by omega),HI,xh,bQ,bQ];have b:(UInt8.ofNat (48+j)).toNat=48+j:=by simp;omega
 constructor
 ·intro h;apply gZ.1;omega
 ·rintro rfl;omega
theorem JE (n:Nat) (a b:UInt8) {k:Nat} (l:k<=31):jA n [a,b] (k:Int)=some (agr [a,b] k):=by
 have d:IntKind.wrap .i64 (Int.tdiv (k:Int) 10)=((k / 10:Nat):Int):=by
  rw [show Int.tdiv (k:Int) 10=((k / 10:Nat):Int) from rfl,wrap_i64 _ (by omega) (by omega)]
 have g:Int.tmod (k:Int) 10=((k%10:Nat):Int):=rfl;have s0:sx [a,b] 0=some a:=rfl;have e:sx [a,b] 1=some b:=rfl;have c:(88:Int)=((88:Nat):Int):=rfl;unfold jA;simp only [s0,e,ob,d,g];rw [BO a (show k / 10<10 by omega),BO b (show k%10<10 by omega),c,yd (by omega),yd (by omega)];show _=some ((a==UInt8.ofNat 88||a==UInt8.ofNat (48+k / 10))&&(b==UInt8.ofNat 88||b==UInt8.ofNat (48+k%10)));generalize (a==UInt8.ofNat 88)=i;generalize (b==UInt8.ofNat 88)=h;generalize (a==UInt8.ofNat (48+k / 10))=f;generalize (b==UInt8.ofNat (48+k%10))=j;cases i<;>cases h<;>cases f<;>cases j<;>rfl
theorem room {k:Nat} (h:k<=60000000):Nat.ble (k+1) dR=true:=cr (by unfold dR;omega)
theorem Nw {X Y:Type} {step:X->Option (X⊕Y)} {f:Nat->List Int->X} {y:List Int->Y} {p:Nat->Bool} {g:Nat} (e:g<=1000)
  (h:∀i out,i<g->out.length<=1000->step (f i out)=some (.inl (f (i+1) (if p (i+1) then out++[((i+1:Nat):Int)] else out))))
  (c:∀out,step (f g out)=some (.inr (y out))) {N:Nat} (a:g<N):aq step N (f 0 [])=some (y (xL ((List.range' 1 g).filter p))):=by
 have d:∀(r i:Nat) (out:List Int),i+r=g->out.length<=i->∀N,r<N->aq step N (f i out)=some (y (out++xL ((List.range' (i+1) r).filter p))):=by
  intro r
  induction r with
  | zero=>
   intro i out hi b N a;obtain ⟨N,rfl⟩:∃q,N=q+1:=⟨N - 1,by omega⟩;obtain rfl:i=g:=by omega
   rw [aq,c];simp [xL]
  | succ r ih=>
   intro i out hi b N a;obtain ⟨N,rfl⟩:∃q,N=q+1:=⟨N - 1,by omega⟩;rw [aq,h i out (by omega) (by omega)];show aq step N _=_;by_cases hp:p (i+1)=true
   ·rw [ae hp,ih (i+1) _ (by omega) (by simp;omega) N (by omega),Ey,List.filter_cons_of_pos hp];simp [xL]
   ·rw [ab hp,ih (i+1) _ (by omega) (by omega) N (by omega),Ey,List.filter_cons_of_neg hp]
 have:=d g 0 [] (by omega) (by simp) N a;simpa using this
theorem Ie (n:Nat) (h:100<n) (a b:UInt8) {g:Nat} (j:g<=31):eN n [a,b] (g:Int)=some (xL (fitN [a,b] g)):=by
 unfold eN
 have:=Nw (step:=ft n) (f:=λi out=>([a,b],(g:Int),(i:Int),out)) (y:=λl=>l) (p:=agr [a,b]) (g:=g) (by omega)
  (λi out hi e=>by
   have d:IntKind.wrap .i64 ((i:Int)+1)=((i+1:Nat):Int):=by rw [wrap_i64 _ (by omega) (by omega)];omega
   unfold ft;simp only [d];rw [au (show (i:Int)<(g:Int) by omega),JE n a b (by omega),room (by omega)];by_cases hp:agr [a,b] (i+1)=true
   ·rw [ae hp];simp only [ob,hp,aj]
   ·rw [ab hp];rw [fS9] at hp;simp only [ob,hp,aj,ah])
  (λout=>by
   unfold ft;simp only [av (show ¬(g:Int)<(g:Int) by omega),ah])
  (N:=n) (by omega)
 have c:aq (ft n) n ([a,b],(g:Int),0,([]:List Int))=_:=this;rw [c];rfl
def monI (m:aa):List Int:=if m=[] then [0] else if 0<sea m then [sea m] else xL (fitN m 12)
def dayI (d:aa):List Int:=if d=[] then [0] else xL (fitN d 31)
theorem kl {l:aa} (h:l≠[]):(l==([]:aa))=false:=aW.2 h
theorem len2 {s:aa} (h:s.length=2):∃a b,s=[a,b]:=by
 match s,h with
 | [a,b],_=>exact ⟨a,b,rfl⟩
theorem Vu (n:Nat) (k:100<n) (g l:Bool) (dg:aa) (x q:Int) (m d:aa) (k0 k1 k2:Int) (j:m=[]\/m.length=2) (o:d=[]\/d.length=2):
  pq n g l dg x q m d k0 k1 k2=some (g,l,dg,x,q,m,d,k0,k1,k2,monI m,dayI d):=by
 have f:m.length<=18:=by rcases j with h | h;(rw [h];simp);omega
 have i:d≠[]->eN n d 31=some (dayI d):=λh=>by
  obtain ⟨a,b,rfl⟩:=len2 (o.resolve_left h);rw [show (31:Int)=((31:Nat):Int) from rfl,Ie n k a b (by omega)];unfold dayI;rw [ab h]
 have e:d=[]->dayI d=[0]:=λh=>by unfold dayI;rw [ae h]
 have p:m≠[]->¬0<sea m->eN n m 12=some (monI m):=λh hs=>by
  obtain ⟨a,b,rfl⟩:=len2 (j.resolve_left h);rw [show (12:Int)=((12:Nat):Int) from rfl,Ie n k a b (by omega)];unfold monI;rw [ab h,ab hs]
 unfold pq;rw [ow n g l dg x q m d k0 k1 k2 f];simp only [ob];by_cases hs:0<sea m
 ·have c:m≠[]:=by rintro rfl;exact absurd hs (by decide)
  have hm':monI m=[sea m]:=by unfold monI;rw [ab c,ae hs]
  rw [au hs];by_cases h:d=[]
  ·rw [h,<-h,e h,hm',h];rfl
  ·rw [kl h,i h,hm'];rfl
 ·rw [av hs];by_cases c:m=[]
  ·have hm':monI m=[0]:=by unfold monI;rw [ae c]
   by_cases h:d=[]
   ·rw [e h,hm',h,c];rfl
   ·rw [kl h,i h,hm',c];rfl
  ·rw [kl c,p c hs];by_cases h:d=[]
   ·rw [e h,h];rfl
   ·rw [kl h,i h];rfl
def w9 (y:Int):Bool:=decide (y%4=0)&&(decide (y%100≠0)||decide (y%400=0))
def lenI (y m:Int):Int:=if m=4\/m=6\/m=9\/m=11 then 30 else if m=2 then (if w9 y then 29 else 28) else 31
theorem xx (n:Nat) {y:Int} (h:-20000000000000000<=y/\y<=20000000000000000):eS n y=some (1+(y - 1) / 4 - (y - 1) / 100+(y - 1) / 400):=by
 unfold eS;rw [wrap_i64 (y - 1) (by omega) (by omega),vt n (by omega) (by omega) (by omega) (by omega),vt n (by omega) (by omega) (by omega) (by omega),vt n (by omega) (by omega) (by omega) (by omega)];show some _=some _;have f:-5000000000000001<=(y - 1) / 4/\(y - 1) / 4<=5000000000000001:=by omega
 have e:-5000000000000001<=(y - 1) / 100/\(y - 1) / 100<=5000000000000001:=by omega
 have d:-5000000000000001<=(y - 1) / 400/\(y - 1) / 400<=5000000000000001:=by omega
 generalize (y - 1) / 4=a at *;generalize (y - 1) / 100=b at *;generalize (y - 1) / 400=c at *;simp only [];rw [wrap_i64 (1*a) (by omega) (by omega),wrap_i64 (-1*b) (by omega) (by omega),wrap_i64 (1*c) (by omega) (by omega),wrap_i64 (1+1*a) (by omega) (by omega),wrap_i64 (1+1*a+-1*b) (by omega) (by omega),wrap_i64 _ (by omega) (by omega)];congr 1;omega
theorem N5 (y:Int):(1+y / 4 - y / 100+y / 400>1+(y - 1) / 4 - (y - 1) / 100+(y - 1) / 400)↔w9 y=true:=by
 unfold w9;simp only [az,gM,dl];omega
theorem P9 (n:Nat) {y:Int} (h:dI y):jr n y=some (w9 y,0):=by
 unfold jr;have h':=h;unfold dI at h';rw [fN,ae h,wrap_i64 (y+1) (by omega) (by omega),xx n (by omega),xx n (by omega),show y+1 - 1=y by omega];have b:=N5 y;show some (decide (1+y / 4 - y / 100+y / 400>1+(y - 1) / 4 - (y - 1) / 100+(y - 1) / 400),(0:Int))=_;by_cases a:w9 y=true
 ·rw [a,au (b.2 a)]
 ·rw [fS9] at a;rw [a,av (λe=>by rw [b.1 e] at a;cases a)]
theorem vA (n:Nat) {y:Int} (h:dI y) {m:Nat} (d:1<=m) (c:m<=12):dS n y (m:Int)=some (lenI y (m:Int)):=by
 unfold dS;rw [P9 n h];show cond (w9 y&&((m:Int)==2)) _ _=_;have a:IntKind.wrap .i64 ((m:Int) - 1)=((m - 1:Nat):Int):=by rw [wrap_i64 _ (by omega) (by omega)];omega
 rw [a,eu (show m - 1<12 by omega)];have b:m=1\/m=2\/m=3\/m=4\/m=5\/m=6\/m=7\/m=8\/m=9\/m=10\/m=11\/m=12:=by omega
 rcases b with rfl | rfl | rfl | rfl | rfl | rfl | rfl | rfl | rfl | rfl | rfl | rfl<;>unfold lenI<;>cases w9 y<;>rfl
theorem Jp (n:Nat) {y:Int} (h:dI y) {m:Nat} (b:1<=m) (a:m<=12):oi n y (m:Int)=some (lenI y (m:Int),0):=by
 unfold oi;rw [Gv n h b a,vA n h b a];rfl
theorem rk (y m:Int):28<=lenI y m/\lenI y m<=31:=by
 unfold lenI;split
 ·omega
 ·split
  ·split<;>omega
  ·omega
def xC (d:aa) (y m:Int):Int:=if d=[] then 0 else lenI y m
def Ot (d:aa) (y a:Int):List (Int×Int×Int):=((dayI d).filter λk=>decide (k<=xC d y a)).map λk=>(y,a,k)
def NM (m d:aa) (y:Int):List (Int×Int×Int):=(monI m).flatMap (Ot d y)
theorem Fq (s:aa) (g:Nat):(fitN s g).length<=g:=by
 have:=HU (agr s) (List.range' 1 g);rw [List.length_range'] at this;exact this
theorem NQ (d:aa):(dayI d).length<=31:=by
 unfold dayI;split
 ·simp
 ·rw [Bo];exact Fq d 31
theorem LJ (m:aa):(monI m).length<=12:=by
 unfold monI;split
 ·simp
 ·split
  ·simp
  ·rw [Bo];exact Fq m 12
theorem Rz {a b c e:UInt8} (k:bp a=true\/a=88) (l:bp b=true\/b=88) (hc:bp c=true\/c=88) (j:bp e=true\/e=88) (w:Nat):
  mtk [a,b,c,e] 4 w=Mk.ag [e,c,b,a] (w:Int):=by
 have one:∀(z:UInt8) (v:Nat),(decide (z=88)||decide (z.toNat=48+v%10))=(decide (z=88)||decide (Mk.dv z=(v:Int)%10)):=by
  intro z v;have:(z.toNat=48+v%10)↔(Mk.dv z=(v:Int)%10):=by unfold Mk.dv;omega
  rw [nI.2 this]
 have d:∀v:Nat,(v:Int) / 10=((v / 10:Nat):Int):=λv=>by omega
 show ((decide (e=88)||decide (e.toNat=48+w%10))&&((decide (c=88)||decide (c.toNat=48+w / 10%10))&&((decide (b=88)||decide (b.toNat=48+w / 10 / 10%10))&&((decide (a=88)||decide (a.toNat=48+w / 10 / 10 / 10%10))&&true))))
  = ((((true&&(decide (a=88)||decide (Mk.dv a=(w:Int) / 10 / 10 / 10%10)))&&(decide (b=88)||decide (Mk.dv b=(w:Int) / 10 / 10%10)))&&(decide (c=88)||decide (Mk.dv c=(w:Int) / 10%10)))&&(decide (e=88)||decide (Mk.dv e=(w:Int)%10)))
 rw [one e w,one c (w / 10),one b (w / 10 / 10),one a (w / 10 / 10 / 10),d w,d (w / 10),d (w / 10 / 10)];generalize (decide (e=88)||decide (Mk.dv e=(w:Int)%10))=h;generalize (decide (c=88)||decide (Mk.dv c=((w / 10:Nat):Int)%10))=g;generalize (decide (b=88)||decide (Mk.dv b=((w / 10 / 10:Nat):Int)%10))=f;generalize (decide (a=88)||decide (Mk.dv a=((w / 10 / 10 / 10:Nat):Int)%10))=i;cases h<;>cases g<;>cases f<;>cases i<;>rfl
theorem QL {c:UInt8} (h:bp c=true\/c=88):Mk.okB c=true:=by
 rcases h with h | h
 ·have h:=(cq c).1 h;unfold Mk.okB;simp only [gM,az,dl];right
  first | omega | (obtain ⟨b,a⟩:=h;constructor<;>omega)
 ·subst h;decide
theorem NI {d:aa} (a:d.length=4) (h:∀c∈d,bp c=true\/c=88):Mk.chk d=0:=by
 unfold Mk.chk;have:d.all Mk.okB=true:=co.2 λc hc=>QL (h c hc);rw [ab (by omega),ae this,ab (by rintro rfl;simp at a)]
theorem EY {d:aa} (g:d.length=4) (h:∀c∈d,bp c=true\/c=88) (w:Nat):Mk.hasM d (w:Int)=true↔mtk d 4 w=true/\w / 10 ^ 4=0:=by
 obtain ⟨a,b,c,e,rfl⟩:∃a b c e,d=[a,b,c,e]:=by
  match d,g with
  | [a,b,c,e],_=>exact ⟨a,b,c,e,rfl⟩
 rw [Mk.Dp,Rz (h a (by simp)) (h b (by simp)) (h c (by simp)) (h e (by simp)) w];simp only [az,dl];show 0<=(w:Int)/\(w:Int)<10 ^ 4/\Mk.ag [e,c,b,a] (w:Int)=true↔Mk.ag [e,c,b,a] (w:Int)=true/\w / 10 ^ 4=0;have i:(10:Int) ^ 4=10000:=by decide
 have e4':(10:Nat) ^ 4=10000:=by decide
 rw [i,e4'];constructor
 ·rintro ⟨_,j,f⟩;exact ⟨f,by omega⟩
 ·rintro ⟨f,j⟩;exact ⟨by omega,by omega,f⟩
theorem Gm {g l:Bool} {d:aa} {x q:Int} (f:okY g l d x q) (h:hasX d=true) (v:Int):inP g d x q v↔(Mk.hasM d (wOf g v)=true/\(g=true->1<=wOf g v)):=by
 obtain ⟨rfl,rfl,rfl,a,j⟩:=wL f h;unfold inP;rw [Sj h];have m:∀k:Int,Mk.hasM d k=true->0<=k/\k<10000:=λk r=>by
  have:=(Mk.nJ r).2.2.2.2;rw [a] at this;have w:(10:Int) ^ 4=10000:=by decide
  omega
 constructor
 ·rintro ⟨b,i,t,p,o⟩;have:=(EY a j (wOf g v).toNat).2 o;rw [show (((wOf g v).toNat:Nat):Int)=wOf g v by omega] at this;refine ⟨this,λc=>?_⟩;have s:¬wOf g v=0:=λe=>p ⟨h,c,e⟩;omega
 ·rintro ⟨b,i⟩;have hr':=m _ b;have n:=(EY a j (wOf g v).toNat).1 (by rw [show (((wOf g v).toNat:Nat):Int)=wOf g v by omega];exact b);have u:v=wOf g v\/v=- wOf g v:=by
   unfold wOf;split
   ·right;omega
   ·left;rfl
  refine ⟨by omega,by omega,hr'.1,?_,n⟩;rintro ⟨_,c,e⟩;have:=i c;omega
theorem DZ {g l:Bool} {d:aa} {x:Int} (a:okY g l d x 0) (b:hasX d=false) (v:Int):inP g d x 0 v↔v=(if g then -((val d x.toNat:Nat):Int) else ((val d x.toNat:Nat):Int)):=by
 obtain ⟨k,q,rfl,n,m⟩:=BJ a b;have hs:=m.small;have j:dval 0 d*10 ^ k=val d k:=rfl;rw [j] at hs;unfold E16 at hs;unfold inP;rw [TQ b];have f:GQ d (k:Int).toNat (0:Int).toNat=1:=rfl;rw [f,cV,AD,AD,b];unfold wOf;cases g with
 | true=>
  simp only [aK];constructor
  ·rintro ⟨c,h,i,_,e⟩;omega
  ·rintro rfl;refine ⟨by omega,by omega,by omega,by simp,by omega⟩
 | false=>
  simp only [bA,aC];constructor
  ·rintro ⟨c,h,i,_,e⟩;omega
  ·rintro rfl;refine ⟨by omega,by omega,by omega,by simp,by omega⟩
def Dv (up:Bool) (Y:Int->Prop) (v w:Int) (a:Bool):Prop:=
 (a=true->Y w/\Mk.eG up v w/\∀e,Y e->Mk.eG up v e->Mk.eG up w e)/\(a=false->∀e,Y e->¬Mk.eG up v e)
theorem eQ (a b:Int):Mk.eG true a b↔a<=b:=Iff.rfl
theorem gn (a b:Int):Mk.eG false a b↔b<=a:=Iff.rfl
theorem OR (o:Option Int):(Mk.res o).2=0/\(∃r,o=some r/\(Mk.res o).1=r)\/(Mk.res o).2=16/\o=none/\(Mk.res o).1=0:=by
 cases o with
 | none=>exact .inr ⟨rfl,rfl,rfl⟩
 | some r=>exact .inl ⟨rfl,r,rfl,rfl⟩
theorem uy {m:aa} (j:Mk.chk m=0) (v a:Int) (q:0<=a):∃w f,fc 20000000 m v true a=some (w,f)/\Dv true (λe=>Mk.hasM m e=true/\a<=e) v w f/\(0<=w/\w<1000000000000000000):=by
 obtain ⟨o,l,d⟩:=Mk.Ly j (cond (decide (a>v)) a v);unfold fc;rw [l];simp only [ob,aj];have hc:(cond (decide (a>v)) a v)=max v a:=by
  by_cases h:a>v
  ·rw [au h];show a=_;omega
  ·rw [av h];show v=_;omega
 rw [hc] at d;rcases OR o with ⟨g,r,rfl,c⟩ | ⟨g,rfl,c⟩
 ·refine ⟨_,_,rfl,?_,?_⟩
  ·rw [g,c];obtain ⟨a1,a2,p⟩:=d;rw [eQ] at a2;refine ⟨λ_=>⟨⟨a1,by omega⟩,?_,λe b i=>?_⟩,λh=>by cases h⟩
   ·rw [eQ];omega
   ·rw [eQ] at i;exact p e b.1 (by rw [eQ];have:=b.2;omega)
  ·have:=(Mk.nJ d.1).2.2.2.2;have k:=Mk.mC j;have hp:(10:Int) ^ m.length<=10 ^ 18:=by
    have:=qD (show 0<10 by decide) k.1
    exact_mod_cast this
   have n:(10:Int) ^ 18=1000000000000000000:=by decide
   rw [c];omega
 ·refine ⟨_,_,rfl,?_,by rw [c];omega⟩;rw [g];refine ⟨(λh=>by cases h),λ_ e b i=>?_⟩;rw [eQ] at i;exact d e b.1 (by rw [eQ];have:=b.2;omega)
theorem us {m:aa} (j:Mk.chk m=0) (v a:Int) (s:0<=a):∃w f,fc 20000000 m v false a=some (w,f)/\Dv false (λe=>Mk.hasM m e=true/\a<=e) v w f/\(0<=w/\w<1000000000000000000):=by
 obtain ⟨o,p,k⟩:=Mk.Jm j v;unfold fc;rw [p];simp only [ob,ah];rcases OR o with ⟨g,r,rfl,i⟩ | ⟨g,rfl,i⟩
 ·rw [g,i];obtain ⟨a1,a2,l⟩:=k;rw [gn] at a2;have t:=(Mk.nJ a1).2.2.2.2;have n:=Mk.mC j;have hp:(10:Int) ^ m.length<=10 ^ 18:=by
   have:=qD (show 0<10 by decide) n.1
   exact_mod_cast this
  have q:(10:Int) ^ 18=1000000000000000000:=by decide
  refine ⟨_,_,rfl,?_,by omega⟩;by_cases c:r>=a
  ·rw [au c];refine ⟨λ_=>⟨⟨a1,by omega⟩,by rw [gn];omega,λe b d=>l e b.1 d⟩,λh=>by cases h⟩
  ·rw [av c];refine ⟨(λh=>by cases h),λ_ e b d=>?_⟩;have:=l e b.1 d;rw [gn] at this;have:=b.2;omega
 ·rw [g,i];refine ⟨_,_,rfl,?_,by omega⟩;refine ⟨(λh=>by cases h),λ_ e b d=>k e b.1 d⟩
theorem Kq {g l:Bool} {dg:aa} {x:Int} (k:okY g l dg x 0) (m d:aa) (k0 k1 k2:Int) (v:Int) (H:-9223372036854775808<=v/\v<9223372036854775808) (up:Bool) (C F:List Int):
  ∃w f,bX 20000000 g l dg x 0 m d k0 k1 k2 v up C F=some (w,f)/\Dv up (inP g dg x 0) v w f:=by
 have D:=ma k;unfold bX;rw [tG];simp only [ob];cases s:hasX dg with
 | false=>
  have c:=DZ k s;rw [AK 20000000 g l dg x 0 (by omega) (by omega),ae ⟨k,s⟩];simp only [iv,aj];generalize (if g then -((val dg x.toNat:Nat):Int) else ((val dg x.toNat:Nat):Int))=w at *;cases up with
  | true=>
   by_cases h:w>=v
   ·refine ⟨w,true,?_,?_⟩
    ·simp only [au h,aj]
    ·refine ⟨λ_=>⟨(c w).2 rfl,h,λe b _=>?_⟩,λh=>by cases h⟩;rw [(c e).1 b];exact yw _
   ·refine ⟨w,false,?_,?_⟩
    ·simp only [av h,aj,ah,cX]
    ·refine ⟨(λh=>by cases h),λ_ e b n=>?_⟩;rw [(c e).1 b,eQ] at n;omega
  | false=>
   by_cases h:w<=v
   ·refine ⟨w,true,?_,?_⟩
    ·simp only [au h,aj,ah,iv]
    ·refine ⟨λ_=>⟨(c w).2 rfl,h,λe b _=>?_⟩,λh=>by cases h⟩;rw [(c e).1 b];exact yw _
   ·refine ⟨w,false,?_,?_⟩
    ·simp only [av h,aj,ah,iv]
    ·refine ⟨(λh=>by cases h),λ_ e b n=>?_⟩;rw [(c e).1 b,gn] at n;omega
 | true=>
  have c:=Gm k s;obtain ⟨rfl,rfl,_,z,E⟩:=wL k s;have t:=NI z E;simp only [cX,ah];cases g with
  | false=>
   simp only [iv,aj];have q:∀w f,Dv up (λe=>Mk.hasM dg e=true/\0<=e) v w f->Dv up (inP false dg 0 0) v w f:=λw f h=>by
    have a:∀e,(Mk.hasM dg e=true/\0<=e)↔inP false dg 0 0 e:=λe=>by
     rw [c e];constructor
     ·rintro ⟨i,_⟩;exact ⟨i,λh=>by cases h⟩
     ·rintro ⟨i,_⟩;exact ⟨i,(Mk.nJ i).2.2.2.2.1⟩
    refine ⟨λj=>?_,λj e b=>h.2 j e ((a e).2 b)⟩;obtain ⟨b1,b2,r⟩:=h.1 j;exact ⟨(a w).1 b1,b2,λe b=>r e ((a e).2 b)⟩
   cases up with
   | true=>
    obtain ⟨w,f,i,o,_⟩:=uy t v 0 (by omega);exact ⟨w,f,by rw [i],q w f o⟩
   | false=>
    obtain ⟨w,f,i,o,_⟩:=us t v 0 (by omega);exact ⟨w,f,by rw [i],q w f o⟩
  | true=>
   simp only [cX,ah];have hc:IntKind.wrap .i64 (0 - (cond (decide (((-9223372036854775807):Int)>v)) (-9223372036854775807) v))=min (-v) 9223372036854775807:=by
    by_cases h:((-9223372036854775807):Int)>v
    ·rw [au h,aj,wrap_i64 _ (by omega) (by omega)];omega
    ·rw [av h,ah,wrap_i64 _ (by omega) (by omega)];omega
   rw [hc];have y:∀e,Mk.hasM dg e=true->0<=e/\e<10000:=λe b=>by
    have:=(Mk.nJ b).2.2.2.2;rw [z] at this;have G:(10:Int) ^ 4=10000:=by decide
    omega
   have a:∀e,inP true dg 0 0 e↔(Mk.hasM dg (-e)=true/\1<=-e):=λe=>by
    rw [c e];exact ⟨λh=>⟨h.1,h.2 rfl⟩,λh=>⟨h.1,λ_=>h.2⟩⟩
   have A:∀w:Int,0<=w/\w<1000000000000000000->IntKind.wrap .i64 (0 - w)=-w:=λw h=>by rw [wrap_i64 _ (by omega) (by omega)];omega
   cases up with
   | true=>
    obtain ⟨w,f,i,o,u⟩:=us t (min (-v) 9223372036854775807) 1 (by omega);refine ⟨-w,f,by rw [cX,i];simp only [A w u],?_,?_⟩
    ·intro j;obtain ⟨b1,b2,r⟩:=o.1 j;rw [gn] at b2;refine ⟨(a _).2 (by rw [Int.neg_neg];exact b1),by rw [eQ];omega,λe b n=>?_⟩;rw [eQ] at n;have p:=(a e).1 b;have:=r (-e) p (by rw [gn];have:=y _ p.1;omega);rw [gn] at this;rw [eQ];omega
    ·intro j e b n;rw [eQ] at n;have p:=(a e).1 b;exact o.2 j (-e) p (by rw [gn];have:=y _ p.1;omega)
   | false=>
    obtain ⟨w,f,i,o,u⟩:=uy t (min (-v) 9223372036854775807) 1 (by omega);refine ⟨-w,f,by rw [iv,i];simp only [A w u],?_,?_⟩
    ·intro j;obtain ⟨b1,b2,r⟩:=o.1 j;rw [eQ] at b2;have B:=y _ b1.1;refine ⟨(a _).2 (by rw [Int.neg_neg];exact b1),by rw [gn];omega,λe b n=>?_⟩;rw [gn] at n;have p:=(a e).1 b;have:=r (-e) p (by rw [eQ];omega);rw [eQ] at this;rw [gn];omega
    ·intro j e b n;rw [gn] at n;have p:=(a e).1 b;exact o.2 j (-e) p (by rw [eQ];omega)
theorem vM {X Y A:Type} {step:X->Option (X⊕Y)} {f:Nat->X} {L:List A} {G:A->Option Y} {e:Y}
  (h:∀i a,L[i]?=some a->step (f i)=some ((G a).elim (.inl (f (i+1))) Sum.inr)) (c:step (f L.length)=some (.inr e)) {N:Nat} (b:L.length<N):
  aq step N (f 0)=some ((L.findSome? G).getD e):=by
 have d:∀(r i:Nat),i+r=L.length->∀N,r<N->aq step N (f i)=some (((L.drop i).findSome? G).getD e):=by
  intro r
  induction r with
  | zero=>
   intro i hi N b;obtain ⟨N,rfl⟩:∃q,N=q+1:=⟨N - 1,by omega⟩;obtain rfl:i=L.length:=by omega
   rw [aq,c];simp
  | succ r ih=>
   intro i hi N b;obtain ⟨N,rfl⟩:∃q,N=q+1:=⟨N - 1,by omega⟩;have g:L[i]?=some L[i]:=bn (by omega);rw [aq,h i L[i] g,pR (show i<L.length by omega),BZ];cases j:G L[i] with
   | some y=>rfl
   | none=>exact ih (i+1) (by omega) N (by omega)
 have:=d L.length 0 (by omega) N b;simpa using this
def ahd (up:Bool) (a b:Int):Bool:=cond up (decide (a<b)) (decide (a>b))
theorem FM (n:Nat) (a b:Int) (up:Bool):cw n a b up=some (ahd up a b):=by
 unfold cw ahd;cases up
 ·rfl
 ·simp only [aj,cX,ah];cases decide (a<b)<;>rfl
def zn (up a:Bool) (d:aa) (b most k:Int):Bool:=decide (k<=most)&&!(a&&(!(d==([]:aa))&&ahd up k b))
def Lq (up:Bool) (m:aa) (c a y b:Int):Bool:=(y==c)&&(!(m==([]:aa))&&ahd up b a)
def Hh (m:aa) (c a y b:Int):Bool:=(y==c)&&((m==([]:aa))||(b==a))
def C7 (up:Bool) (m d:aa) (b c e y:Int) (f:List Int) (a:Int):Option (Int×Int×Int):=
 if Lq up m b c y a then none else (f.find? (zn up (Hh m b c y a) d e (xC d y a))).map λk=>(y,a,k)
def Ec (up:Bool) (m d:aa) (e f b:Int) (a c:List Int) (y:Int):Option (Int×Int×Int):=a.findSome? (C7 up m d e f b y c)
def KE (d:aa) (a:List Int):Prop:=a.length<=31/\(d≠[]->∀b∈a,1<=b/\b<=12)
theorem K8 (n:Nat) (g l:Bool) (dg:aa) (x q:Int) (m d:aa) (k0 k1 k2:Int) {y:Int} (hy:dI y) {a:Int} (c:d≠[]->1<=a/\a<=12) (e f:List Int):
  eC n g l dg x q m d k0 k1 k2 y a e f=some (xC d y a):=by
 unfold eC xC;by_cases b:d=[]
 ·subst b;rfl
 ·rw [kl b,ab b];have:=c b;obtain ⟨k,rfl⟩:∃k:Nat,a=(k:Int):=⟨a.toNat,by omega⟩;rw [ah,Jp n hy (by omega) (by omega)];rfl
theorem P2 {A B Y:Type} (L:List A) (p:A->Bool) (F:A->B) (J:B->Y) (e:Y):(L.findSome? λa=>if p a then some (J (F a)) else none).getD e=((L.find? p).map F).elim e J:=by
 induction L with
 | nil=>rfl
 | cons a L ih=>
  rw [List.find?_cons,BZ];cases h:p a
  ·simpa using ih
  ·simp
theorem UL {A B Y:Type} (L:List A) (G:A->Option B) (J:B->Y) (e:Y):(L.findSome? λa=>(G a).map J).getD e=(L.findSome? G).elim e J:=by
 induction L with
 | nil=>rfl
 | cons a L ih=>
  rw [BZ,BZ];cases h:G a
  ·simpa using ih
  ·simp
theorem Np (n:Nat) (s y f:Int) (a:Bool) (most p j:Int) (o b:List Int) (g l:Bool) (dg:aa) (x q:Int) (m d:aa) (k0 k1 k2 t v c:Int) (up:Bool) (r u rd:Int) (i:Nat) (k:Int) (hi:b[i]?=some k) (w:i<1000):
  bC n (s,y,f,a,most,p,j,((b.length:Nat):Int),(i:Int),o,b,g,l,dg,x,q,m,d,k0,k1,k2,t,v,c,up,r,u,rd)=some ((if zn up a d c most k then some (.inl (true,y,f,k)) else none).elim (.inl (s,y,f,a,most,p,j,((b.length:Nat):Int),((i+1:Nat):Int),o,b,g,l,dg,x,q,m,d,k0,k1,k2,t,v,c,up,r,u,rd)) Sum.inr):=by
 have e:i<b.length:=(rP.1 hi).1;have h:IntKind.wrap .i64 ((i:Int)+1)=((i+1:Nat):Int):=by rw [wrap_i64 _ (by omega) (by omega)];omega
 unfold bC gC zn;simp only [d4,d8,d16,eu e,hi,ob,h,FM];rw [au (show (i:Int)<((b.length:Nat):Int) by omega)];simp only [aj];cases decide (k<=most)<;>cases a<;>cases (d==([]:aa))<;>cases ahd up k c<;>simp only [cX,iv,aj,ah,h]<;>rfl
theorem Qm (n:Nat) (s y p:Int) (b:Bool) (most h c:Int) (e a:List Int) (g l:Bool) (dg:aa) (x q:Int) (m d:aa) (k0 k1 k2 j o f:Int) (up:Bool) (i k rd:Int):
  bC n (s,y,p,b,most,h,c,((a.length:Nat):Int),((a.length:Nat):Int),e,a,g,l,dg,x,q,m,d,k0,k1,k2,j,o,f,up,i,k,rd)=some (.inr (.inr (s,y,h,c,e,a,g,l,dg,x,q,m,d,k0,k1,k2,j,o,f,up,i,k,rd))):=by
 unfold bC;simp only [d4,d8,d16];rw [av (show ¬((a.length:Nat):Int)<((a.length:Nat):Int) by omega)];rfl
theorem QI (n:Nat) (A:1000<n) (s y h:Int) (a:Bool) (most p j:Int) (o b:List Int) (g l:Bool) (dg:aa) (x q:Int) (m d:aa) (k0 k1 k2 t v c:Int) (up:Bool) (r u rd:Int) (B:b.length<=31):
  aq (bC n) n (s,y,h,a,most,p,j,((b.length:Nat):Int),0,o,b,g,l,dg,x,q,m,d,k0,k1,k2,t,v,c,up,r,u,rd)=some (((b.find? (zn up a d c most)).map (λk=>(y,h,k))).elim (.inr (s,y,p,j,o,b,g,l,dg,x,q,m,d,k0,k1,k2,t,v,c,up,r,u,rd)) (λz=>.inl (true,z))):=by
 have:=vM (step:=bC n) (f:=λi=>(s,y,h,a,most,p,j,((b.length:Nat):Int),(i:Int),o,b,g,l,dg,x,q,m,d,k0,k1,k2,t,v,c,up,r,u,rd)) (L:=b) (G:=λk=>if zn up a d c most k then some (.inl (true,y,h,k)) else none) (e:=.inr (s,y,p,j,o,b,g,l,dg,x,q,m,d,k0,k1,k2,t,v,c,up,r,u,rd))
  (λi k hi=>by
   have w:i<b.length:=(rP.1 hi).1;exact Np n s y h a most p j o b g l dg x q m d k0 k1 k2 t v c up r u rd i k hi (by omega))
  (Qm n s y h a most p j o b g l dg x q m d k0 k1 k2 t v c up r u rd) (N:=n) (by omega)
 exact this.trans (ci some (P2 b (zn up a d c most) (λk=>(y,h,k)) (λz=>Sum.inl (true,z)) _))
theorem LW (n:Nat) (C:1000<n) (s y:Int) (hy:dI y) (o p:List Int) (g l:Bool) (dg:aa) (x q:Int) (m d:aa) (k0 k1 k2 e j r:Int) (up:Bool) (t u rd:Int) (B:KE d o) (E:p.length<=31) (i:Nat) (f:Int) (hi:o[i]?=some f):
  bU n (s,y,((o.length:Nat):Int),(i:Int),o,p,g,l,dg,x,q,m,d,k0,k1,k2,e,j,r,up,t,u,rd)=some (((C7 up m d e j r y p f).map (λz=>(.inl (true,z):(Bool×Int×Int×Int)⊕_))).elim (.inl (s,y,((o.length:Nat):Int),((i+1:Nat):Int),o,p,g,l,dg,x,q,m,d,k0,k1,k2,e,j,r,up,t,u,rd)) Sum.inr):=by
 have v:i<o.length:=(rP.1 hi).1;have D:=B.1;have A:IntKind.wrap .i64 ((i:Int)+1)=((i+1:Nat):Int):=by rw [wrap_i64 _ (by omega) (by omega)];omega
 have w:d≠[]->1<=f/\f<=12:=λh=>B.2 h f (f7 hi);have j20:∀a b:Int,eI n s y f (y==e) a b o p g l dg x q m d k0 k1 k2 e j r up t u rd=some (s,y,f,(y==e),a,b,Lq up m e j y f,o,p,g,l,dg,x,q,m,d,k0,k1,k2,e,j,r,up,t,u,rd):=by
  intro a b;unfold eI Lq;simp only [FM,ob];cases (y==e)<;>cases (m==([]:aa))<;>rfl
 have j23:∀a b c:Int,eF n s y f (y==e) a b c o p g l dg x q m d k0 k1 k2 e j r up t u rd=some (s,y,f,Hh m e j y f,a,b,c,o,p,g,l,dg,x,q,m,d,k0,k1,k2,e,j,r,up,t,u,rd):=by
  intro a b c;unfold eF Hh;cases (y==e)<;>cases (m==([]:aa))<;>rfl
 unfold bU gJ C7;simp only [d4,d8,d16,eu v,hi,ob,j20];rw [au (show (i:Int)<((o.length:Nat):Int) by omega)];simp only [aj];cases hs:Lq up m e j y f with
 | true=>simp only [aj,aK,hO,A];rfl
 | false=>
  simp only [ah,bA,aC,K8 n g l dg x q m d k0 k1 k2 hy w,j23,QI n C s y f (Hh m e j y f) (xC d y f) _ _ o p g l dg x q m d k0 k1 k2 e j r up t u rd E];cases p.find? (zn up (Hh m e j y f) d r (xC d y f)) with
  | some k=>rfl
  | none=>simp only [hO,Option.elim_none,A]
theorem P3 (n:Nat) (t:1000<n) (s y:Int) (hy:dI y) (a b:List Int) (g l:Bool) (dg:aa) (x q:Int) (m d:aa) (k0 k1 k2 j c h:Int) (up:Bool) (k o rd:Int) (r:KE d a) (v:b.length<=31):
  aq (bU n) n (s,y,((a.length:Nat):Int),0,a,b,g,l,dg,x,q,m,d,k0,k1,k2,j,c,h,up,k,o,rd)=some ((Ec up m d j c h a b y).elim (.inr (s,y,a,b,g,l,dg,x,q,m,d,k0,k1,k2,j,c,h,up,k,o,rd)) (λz=>.inl (true,z))):=by
 have u:=r.1;have:=vM (step:=bU n) (f:=λi=>(s,y,((a.length:Nat):Int),(i:Int),a,b,g,l,dg,x,q,m,d,k0,k1,k2,j,c,h,up,k,o,rd)) (L:=a) (G:=λp=>(C7 up m d j c h y b p).map (λz=>(.inl (true,z):(Bool×Int×Int×Int)⊕_))) (e:=.inr (s,y,a,b,g,l,dg,x,q,m,d,k0,k1,k2,j,c,h,up,k,o,rd))
  (λi p hi=>LW n t s y hy a b g l dg x q m d k0 k1 k2 j c h up k o rd r v i p hi)
  (by
   unfold bU;simp only [d4,d8,d16];rw [av (show ¬((a.length:Nat):Int)<((a.length:Nat):Int) by omega)];rfl)
  (N:=n) (by omega)
 exact this.trans (ci some (UL a (C7 up m d j c h y b) (λz=>Sum.inl (true,z)) _))
theorem LZ (n:Nat) (k:1000<n) (s y:Int) (hy:dI y) (a b:List Int) (g l:Bool) (dg:aa) (x q:Int) (m d:aa) (k0 k1 k2 e f c:Int) (up:Bool) (h i rd:Int) (j:KE d a) (o:b.length<=31):
  cH n (s,y,true,a,b,g,l,dg,x,q,m,d,k0,k1,k2,e,f,c,up,h,i,rd)=(Ec up m d e f c a b y).elim (ob (bX n g l dg x q m d k0 k1 k2 (IntKind.wrap .i64 (y+s)) up a b) λr=>some (.inl (s,r.1,r.2,a,b,g,l,dg,x,q,m,d,k0,k1,k2,e,f,c,up,h,i,rd))) (λz=>some (.inr (.inl (true,z)))):=by
 unfold cH;simp only [d4,d8,d16,aj,ob,P3 n k s y hy a b g l dg x q m d k0 k1 k2 e f c up h i rd j o];cases Ec up m d e f c a b y<;>rfl
def FU (up:Bool) (Y:Int->Prop) (F:Int->Option (Int×Int×Int)) (v:Int):Option (Int×Int×Int)->Prop
 | some z=>∃e,Y e/\Mk.eG up v e/\F e=some z/\∀a,Y a->Mk.eG up v a->¬Mk.eG up e a->F a=none
 | none=>∀e,Y e->Mk.eG up v e->F e=none
theorem HH {X:Type} {step:X->Option (X⊕((Bool×Int×Int×Int)⊕(Int×Int×Int)))} {st:Int->Bool->X} {F:Int->Option (Int×Int×Int)} {Y:Int->Prop} {up:Bool} {s lo hi:Int} {E:Int×Int×Int} {fy:Int->Option (Int×Bool)}
  (hs:s=if up then 1 else -1) (u:∀e,Y e->lo<=e/\e<=hi) (P:-10000000000000000<=lo) (d:hi<=10000000000000000)
  (a:∀y,Y y->step (st y true)=(F y).elim (ob (fy (IntKind.wrap .i64 (y+s))) λr=>some (.inl (st r.1 r.2))) (λz=>some (.inr (.inl (true,z)))))
  (c:∀y,step (st y false)=some (.inr (.inr E)))
  (p:∀v,-9223372036854775808<=v/\v<9223372036854775808->∃w f,fy v=some (w,f)/\Dv up Y v w f):
  ∀(r:Nat) (v y:Int) (f:Bool),Dv up Y v y f->(f=true->(if up then hi - y else y - lo)<(r:Int))->∀N,r<N->
   ∃o,aq step N (st y f)=some (o.elim (.inr E) (λz=>.inl (true,z)))/\FU up Y F v o:=by
 intro r
 induction r with
 | zero=>
  intro v y f k n N K;obtain ⟨N,rfl⟩:∃q,N=q+1:=⟨N - 1,by omega⟩;cases f with
  | true=>
   obtain ⟨a1,_,_⟩:=k.1 rfl;have:=u y a1;have:=n rfl;cases up<;>simp at this<;>omega
  | false=>
   refine ⟨none,by rw [aq,c];rfl,λe i l=>absurd l (k.2 rfl e i)⟩
 | succ r ih=>
  intro v y f k n N K;obtain ⟨N,rfl⟩:∃q,N=q+1:=⟨N - 1,by omega⟩;cases f with
  | false=>
   refine ⟨none,by rw [aq,c];rfl,λe i l=>absurd l (k.2 rfl e i)⟩
  | true=>
   obtain ⟨a1,a2,x⟩:=k.1 rfl;have O:=u y a1;cases m:F y with
   | some z=>
    refine ⟨some z,?_,y,a1,a2,m,λb d j g=>absurd (x b d j) g⟩;rw [aq,a y a1,m];rfl
   | none=>
    have L:IntKind.wrap .i64 (y+s)=y+s:=by
     have:-1<=s/\s<=1:=by rw [hs];cases up<;>simp
     exact wrap_i64 _ (by omega) (by omega)
    obtain ⟨w,A,D,t⟩:=p (y+s) (by
     have:-1<=s/\s<=1:=by rw [hs];cases up<;>simp
     omega)
    have hstep':step (st y true)=some (.inl (st w A)):=by
     rw [a y a1,m,L];show ob (fy (y+s)) _=_;rw [D];rfl
    obtain ⟨o,J,B⟩:=ih (y+s) w A t (λH=>by
     obtain ⟨b1,b2,_⟩:=t.1 H;have:=n rfl;cases up
     ·rw [gn] at b2;simp only [bA,aC] at hs this ⊢;omega
     ·rw [eQ] at b2;simp only [aK] at hs this ⊢;omega) N (by omega)
    refine ⟨o,by rw [aq,hstep'];exact J,?_⟩;have split:∀b,Y b->Mk.eG up v b->b=y\/Mk.eG up (y+s) b:=λb d j=>by
     have g:=x b d j;cases up
     ·rw [gn] at g ⊢;simp only [bA,aC] at hs;omega
     ·rw [eQ] at g ⊢;simp only [aK] at hs;omega
    cases o with
    | none=>
     intro e i l;rcases split e i l with rfl | h
     ·exact m
     ·exact B e i h
    | some z=>
     obtain ⟨e,I,C,M,G⟩:=B;refine ⟨e,I,?_,M,λb d j g=>?_⟩
     ·cases up
      ·rw [gn] at C a2 ⊢;simp only [bA,aC] at hs;omega
      ·rw [eQ] at C a2 ⊢;simp only [aK] at hs;omega
     ·rcases split b d j with rfl | h
      ·exact m
      ·exact G b d h g
theorem GT {g l:Bool} {dg:aa} {x:Int} (c:okY g l dg x 0):∃lo hi:Int,(∀e,inP g dg x 0 e->lo<=e/\e<=hi)/\hi - lo<=10000/\-10000000000000000<=lo/\hi<=10000000000000000:=by
 cases d:hasX dg with
 | false=>
  have a:=DZ c d;by_cases f:-10000000000000000<=(if g then -((val dg x.toNat:Nat):Int) else ((val dg x.toNat:Nat):Int))/\(if g then -((val dg x.toNat:Nat):Int) else ((val dg x.toNat:Nat):Int))<=10000000000000000
  ·refine ⟨_,_,λe b=>?_,?_,f.1,f.2⟩
   ·rw [(a e).1 b];exact ⟨yw _,yw _⟩
   ·omega
  ·refine ⟨0,0,λe b=>?_,by omega,by omega,by omega⟩;exfalso;have:=(a e).1 b;unfold inP at b;exact f ⟨by rw [<-this];exact b.1,by rw [<-this];exact b.2.1⟩
 | true=>
  have a:=Gm c d;obtain ⟨_,_,_,i,j⟩:=wL c d;refine ⟨if g then -9999 else 0,if g then 0 else 9999,λe b=>?_,by cases g<;>simp,by cases g<;>simp,by cases g<;>simp⟩;have h:=((a e).1 b).1;have:=(Mk.nJ h).2.2.2.2;rw [i] at this;have k:(10:Int) ^ 4=10000:=by decide
  unfold wOf at this;cases g
  ·simp at this ⊢;omega
  ·simp at this ⊢;omega
theorem zi {g:Bool} {dg:aa} {x q e:Int} (h:inP g dg x q e):dI e:=⟨h.1,h.2.1⟩
theorem HA {g l:Bool} {dg:aa} {x:Int} (e:okY g l dg x 0) (m d:aa) (k0 k1 k2:Int) (a i h:Int) (n:-9223372036854775808<=a/\a<9223372036854775808) (b c:List Int) (C:KE d b) (A:c.length<=31):
  ∃o,hZ 20000000 g l dg x 0 m d k0 k1 k2 a i h true b c=some (o.elim (0,0,0,false) λz=>(z.1,z.2.1,z.2.2,true))/\FU true (inP g dg x 0) (Ec true m d a i h b c) a o:=by
 obtain ⟨lo,hi,q,G,k,j⟩:=GT e;obtain ⟨w,f,r,p⟩:=Kq e m d k0 k1 k2 a n true b c;obtain ⟨o,u,D⟩:=HH (step:=cH 20000000) (st:=λy f=>(1,y,f,b,c,g,l,dg,x,0,m,d,k0,k1,k2,a,i,h,true,0,0,0)) (F:=Ec true m d a i h b c) (Y:=inP g dg x 0) (up:=true) (s:=1) (lo:=lo) (hi:=hi) (E:=(0,0,0)) (fy:=λv=>bX 20000000 g l dg x 0 m d k0 k1 k2 v true b c)
  rfl q k j
  (λy hy=>LZ 20000000 (by omega) 1 y (zi hy) b c g l dg x 0 m d k0 k1 k2 a i h true 0 0 0 C A)
  (λy=>rfl)
  (λv B=>Kq e m d k0 k1 k2 v B true b c)
  10002 a w f p (λt=>by have:=q w (p.1 t).1;simp;omega) 20000000 (by omega)
 refine ⟨o,?_,D⟩;unfold hZ ic;simp only [cX,ah,ob,d4,d8,d16,r];have i1':aq (cH 20000000) 20000000 (1,w,f,b,c,g,l,dg,x,0,m,d,k0,k1,k2,a,i,h,true,0,0,0)=_:=u;rw [i1'];cases o<;>rfl
theorem F8 (m d:aa) (o n:Int) {g e:Int} (h:e≠g) (l f:List Int):Ec true m d g o n l f e=none↔(l.flatMap λa=>(f.filter λk=>decide (k<=xC d e a)).map λk=>(e,a,k))=[]:=by
 have i:(e==g)=false:=aW.2 h;unfold Ec;rw [List.findSome?_eq_none_iff,List.flatMap_eq_nil_iff];have:∀a,C7 true m d g o n e f a=none↔((f.filter λk=>decide (k<=xC d e a)).map λk=>(e,a,k))=[]:=by
  intro a;unfold C7 Lq Hh;rw [i];simp only [wQ,bA,aC,Option.map_eq_none_iff,List.find?_eq_none,List.map_eq_nil_iff,List.filter_eq_nil_iff];constructor
  ·intro b k j;have:=b k j;unfold zn at this;simpa using this
  ·intro b k j;have:=b k j;unfold zn;simpa using this
 exact ⟨λb a c=>(this a).1 (b a c),λb a c=>(this a).2 (b a c)⟩
def hasF (g:Bool) (dg:aa) (x:Int) (m d:aa):Prop:=∃e,inP g dg x 0 e/\NM m d e≠[]
open Classical in
noncomputable def chkF (g l:Bool) (dg:aa) (x q:Int) (m d:aa) (k0 k1 k2:Int):Int:=
 if chkD g l dg x q m d k0 k1 k2=0/\d≠[]/\¬hasF g dg x m d then 8 else chkD g l dg x q m d k0 k1 k2
theorem vH {g l:Bool} {dg:aa} {x q:Int} {m d:aa} {k0 k1 k2:Int} (h:chkD g l dg x q m d k0 k1 k2=0):okY g l dg x q/\(m=[]\/m.length=2)/\(d=[]\/d.length=2)/\(0<q->m=[])/\(d≠[]->m≠[]/\sea m=0):=by
 obtain ⟨b,i,c,o⟩:=IC h;unfold yrD at b;by_cases a:okY g l dg x q
 ·rw [ae a] at b;refine ⟨a,?_,?_,λn=>?_,λk=>?_⟩
  ·rcases i with h | h | h
   ·exact .inl h
   ·exact .inr (Ic h).1
   ·exact .inr (rz (by omega) h).1
  ·rcases c with h | ⟨_,_,h⟩
   ·exact .inl h
   ·exact .inr (rz (by omega) h).1
  ·unfold yrB at b;simp only [az,kP] at b;have:=b.1;rw [au n,qo] at this;by_cases e:m=[]
   ·exact e
   ·rw [kl e] at this;cases this
  ·rcases c with h | ⟨f,j,_⟩
   ·exact absurd h k
   ·exact ⟨f,j⟩
 ·rw [ab a] at b;cases b
theorem V3 {g l:Bool} {dg:aa} {x q:Int} (h:okY g l dg x q):0<=q:=(ma h).2.2.1
theorem Lo {m d:aa} (h:d≠[]->m≠[]/\sea m=0):KE d (monI m):=by
 refine ⟨rV (LJ m) (by omega),λc g a=>?_⟩;obtain ⟨b,f⟩:=h c;unfold monI at a;rw [ab b,ab (by omega)] at a;obtain ⟨k,e,rfl⟩:=fq.1 a;have:=List.mem_range'_1.1 (oL.1 e).1;omega
theorem uW {g l:Bool} {dg:aa} {x q:Int} {m d:aa} {k0 k1 k2:Int} (p:m.length<=18) (n:dg.length<=100) (D:0<=k0) (y:0<=k1) (w:0<=k2):
  bj 20000000 g l dg x q m d k0 k1 k2=some (chkF g l dg x q m d k0 k1 k2):=by
 unfold bj chkF;rw [zE 20000000 (by omega) g l dg x q m d k0 k1 k2 p n D y w];simp only [ob];by_cases hc:chkD g l dg x q m d k0 k1 k2=0
 ·obtain ⟨f,s,k,B,c⟩:=vH hc;rw [hc];simp only [fj,ah];by_cases i:d=[]
  ·subst i;rw [ab (by simp)];rfl
  ·rw [kl i,ah];have r:q=0:=by
    have:=V3 f;by_cases h:0<q
    ·exact absurd (B h) (c i).1
    ·omega
   subst r;have e:=Vu 20000000 (by omega) g l dg x 0 m d k0 k1 k2 s k;have t:=Lo c;obtain ⟨o,o1,u⟩:=HA f m d k0 k1 k2 (-9223372036854775808) 0 0 (by omega) (monI m) (dayI d) t (NQ d);have b:∀e,inP g dg x 0 e->e≠-9223372036854775808:=λe E=>by have:=zi E;unfold dI at this;omega
   have key:(∃z,o=some z)↔hasF g dg x m d:=by
    constructor
    ·rintro ⟨z,rfl⟩;obtain ⟨e,a,_,v,_⟩:=u;refine ⟨e,a,λA=>?_⟩;have:=(F8 m d 0 0 (b e a) (monI m) (dayI d)).2 A;rw [this] at v;cases v
    ·rintro ⟨e,a,F⟩;cases o with
     | some z=>exact ⟨z,rfl⟩
     | none=>
      have:=u e a (by rw [eQ];have:=zi a;unfold dI at this;omega);exact absurd ((F8 m d 0 0 (b e a) (monI m) (dayI d)).1 this) F
   rw [e];by_cases j:hasF g dg x m d
   ·obtain ⟨z,rfl⟩:=key.2 j;rw [ab (λh=>h.2.2 j)]
    all_goals
     simp only [d4,d8,o1];rfl
   ·have C:o=none:=by
     cases o with
     | none=>rfl
     | some z=>exact absurd (key.1 ⟨z,rfl⟩) j
    subst C;rw [ae ⟨rfl,i,j⟩]
    all_goals
     simp only [d4,d8,o1];rfl
 ·rw [ab (λh=>hc h.1)];have:(chkD g l dg x q m d k0 k1 k2 != 0)=true:=by simp [hc]
  rw [this];rfl
theorem qA {g l:Bool} {dg:aa} {x q:Int} {m d:aa} {k0 k1 k2:Int} (h:chkF g l dg x q m d k0 k1 k2=0):chkD g l dg x q m d k0 k1 k2=0:=by
 unfold chkF at h;split at h
 ·cases h
 ·exact h
theorem bne0 {e:Int} (h:e≠0):(e != 0)=true:=by simp [h]
theorem MQ {m d:aa} {y:Int} {z:Int×Int×Int}:z∈NM m d y↔z.1=y/\z.2.1∈monI m/\z.2.2∈dayI d/\z.2.2<=xC d y z.2.1:=by
 unfold NM Ot;simp only [Di,fq,oL,dl];constructor
 ·rintro ⟨f,a,k,⟨b,c⟩,rfl⟩;exact ⟨rfl,a,b,c⟩
 ·rintro ⟨e,a,b,c⟩;exact ⟨z.2.1,a,z.2.2,⟨b,c⟩,by rw [<-e]⟩
def plN (P:Nat×Nat×Nat) (i:Nat):Nat:=if i=0 then P.1 else if i=1 then P.2.1 else P.2.2
theorem yS {g l:Bool} {dg:aa} {x q:Int} {m d:aa} {k0 k1 k2:Int} (a:allM k0 k1 k2 (ei m d)=0):chkF g l dg x q m d k0 k1 k2=0\/chkF g l dg x q m d k0 k1 k2=6\/chkF g l dg x q m d k0 k1 k2=7\/chkF g l dg x q m d k0 k1 k2=8:=by
 unfold chkF;split
 ·exact .inr (.inr (.inr rfl))
 ·exact KR a
noncomputable def chkR (r:DR):Nat:=(chkF r.1 r.2.1 r.2.2.1 (r.2.2.2.1:Int) (r.2.2.2.2.1:Int) r.2.2.2.2.2.1 r.2.2.2.2.2.2.1 (r.2.2.2.2.2.2.2.1.1:Int) (r.2.2.2.2.2.2.2.1.2.1:Int) (r.2.2.2.2.2.2.2.1.2.2:Int)).toNat
noncomputable def eT (S:aa) (a:Nat):(Nat×Nat×Nat)⊕DR:=
 match qM S a with
 | .inl k=>.inl (k,5,k)
 | .inr r=>if chkR r=0 then .inr r else .inl (plN r.2.2.2.2.2.2.2.2.1 (chkR r - 6),chkR r,r.2.2.2.2.2.2.2.2.2)
def Rn (S:aa):(Nat×Nat×Nat)⊕DR->(Int×Int×aa×Int)⊕(Bool×Bool×aa×Int×Int×aa×aa×Int×Int×Int×Int×aa×Int)
 | .inl (k,E,p)=>.inl ((k:Int),(E:Int),S,(p:Int))
 | .inr (g,l,dg,x,s,m,d,M,P,e)=>.inr (g,l,dg,(x:Int),(s:Int),m,d,(M.1:Int),(M.2.1:Int),(M.2.2:Int),(P.1:Int),S,(e:Int))
theorem DW (S:aa) (a:Nat) (h:a<=S.length) (i:S.length<100000):gy 20000000 S (a:Int)=some (Rn S (eT S a)):=by
 have j:iU 20000000 S (a:Int)=_:=QT 19999700 S a h i (by omega);unfold gy eT;rw [j];cases o:qM S a with
 | inl k=>rfl
 | inr r=>
  obtain ⟨g,l,dg,x,s,f,d,M,P,e⟩:=r;have b:=EI h o;have p:=b.all;have t:=b.m2;have n:=b.dg17;simp only [ob,Sm,d4,d8];rw [uW (g:=g) (l:=l) (x:=(x:Int)) (q:=(s:Int)) (d:=d) (show f.length<=18 by omega) (show dg.length<=100 by omega) (show (0:Int)<=(M.1:Int) by omega) (show (0:Int)<=(M.2.1:Int) by omega) (show (0:Int)<=(M.2.2:Int) by omega)];simp only [ob];have c:=yS (g:=g) (l:=l) (dg:=dg) (x:=(x:Int)) (q:=(s:Int)) (m:=f) (d:=d) (k0:=(M.1:Int)) (k1:=(M.2.1:Int)) (k2:=(M.2.2:Int)) (Aw p);unfold chkR;simp only [];rcases c with hc | hc | hc | hc<;>rw [hc]<;>rfl
def dayY (y:Int):Int:=365*y+(1+(y - 1) / 4 - (y - 1) / 100+(y - 1) / 400)
def cumM (y:Int):Nat->Int
 | 0=>0
 | k+1=>cumM y k+lenI y ((k+1:Nat):Int)
def dayM (y:Int) (m:Nat):Int:=if m<=12 then dayY y+cumM y (m - 1) else dayY (y+1)+cumM (y+1) (m - 13)
theorem J9 (y:Int):dayY (y+1)=dayY y+365+(if w9 y then 1 else 0):=by
 unfold dayY w9;simp only [az,gM,dl];split<;>omega
theorem nX {y:Int} (h:-20000000000000000<=y/\y<=20000000000000000):-8000000000000000000<=dayY y/\dayY y<=8000000000000000000:=by
 unfold dayY;omega
theorem Vr (y:Int):cumM y 12=365+(if w9 y then 1 else 0):=by
 have e:∀k:Nat,cumM y (k+1)=cumM y k+lenI y ((k+1:Nat):Int):=λ_=>rfl;have z:cumM y 0=0:=rfl;rw [e 11,e 10,e 9,e 8,e 7,e 6,e 5,e 4,e 3,e 2,e 1,e 0,z];unfold lenI;cases w9 y<;>rfl
theorem sY (y:Int):∀k:Nat,0<=cumM y k/\cumM y k<=31*(k:Int)
 | 0=>by simp [cumM]
 | k+1=>by
  have b:=sY y k;have a:=rk y ((k+1:Nat):Int);show 0<=cumM y k+lenI y ((k+1:Nat):Int)/\cumM y k+lenI y ((k+1:Nat):Int)<=_;omega
theorem yz {y:Int} (h:dI y) {m:Nat} (a:m<=24):-8100000000000000000<=dayM y m/\dayM y m<=8100000000000000000:=by
 unfold dI at h;unfold dayM;split
 ·have:=sY y (m - 1);have:=nX (y:=y) (by omega);omega
 ·have:=sY (y+1) (m - 13);have:=nX (y:=y+1) (by omega);omega
theorem O1 (y:Int):dayM y 13=dayY (y+1):=by
 unfold dayM;rw [ab (by omega)];simp [cumM]
theorem Jy (y:Int) {m:Nat} (b:1<=m) (a:m<=12):dayM y (m+1)=dayM y m+lenI y (m:Int):=by
 obtain ⟨k,rfl⟩:∃k,m=k+1:=⟨m - 1,by omega⟩;have e:dayM y (k+1)=dayY y+cumM y k:=by unfold dayM;rw [ae (by omega)];rfl
 rw [e];by_cases h:k+1=12
 ·obtain rfl:k=11:=by omega
  rw [O1,J9];have:=Vr y;have e:cumM y 12=cumM y 11+lenI y ((11+1:Nat):Int):=rfl;omega
 ·have:dayM y (k+1+1)=dayY y+cumM y (k+1):=by unfold dayM;rw [ae (by omega)];rfl
  rw [this];show dayY y+(cumM y k+lenI y ((k+1:Nat):Int))=_;omega
theorem Jh (y:Int) {m:Nat} (b:1<=m) (a:m<=12):dayM y (m+12)=dayM (y+1) m:=by
 unfold dayM;rw [ab (by omega),ae a];congr 2
theorem rN (n:Nat) {y:Int} (h:-10000000000000001<=y/\y<=10000000000000001):kA n y=some (dayY y):=by
 have a:=nX (y:=y) (by omega);unfold kA;rw [xx n (by omega),wrap_i64 (365*y) (by omega) (by omega)];show some (IntKind.wrap .i64 (dayY y))=_;rw [wrap_i64 _ (by omega) (by omega)]
theorem rR (n:Nat) {y:Int} (h:dI y):ke n y=some (dayY y,0):=by
 unfold ke;have h':=h;unfold dI at h';rw [fN,ae h,rN n (by omega)];rfl
theorem Cf (n:Nat) {y:Int} (h:dI y):tD n y=some (dayY (y+1) - 1,0):=by
 unfold tD;have h':=h;unfold dI at h';have a:=nX (y:=y+1) (by omega);rw [fN,ae h,wrap_i64 (y+1) (by omega) (by omega),rN n (by omega)];show some (IntKind.wrap .i64 (dayY (y+1) - 1),(0:Int))=_;rw [wrap_i64 _ (by omega) (by omega)]
theorem DU (n:Nat) {y:Int} (h:dI y) {m:Nat} (e:m<=11):∀(r j:Nat),j+r=m->∀N,r<N->aq (bz n) N (y,dayY y+cumM y j,(m:Int),(j:Int))=some (dayY y+cumM y m):=by
 have h':=h;unfold dI at h';have d:=nX (y:=y) (by omega);intro r
 induction r with
 | zero=>
  intro j a N b;obtain ⟨N,rfl⟩:∃k,N=k+1:=⟨N - 1,by omega⟩;obtain rfl:j=m:=by omega
  have:bz n (y,dayY y+cumM y j,(j:Int),(j:Int))=some (.inr (dayY y+cumM y j)):=by
   unfold bz;rw [bL,ab (show ¬((j:Int)<(j:Int)) by omega)]
  rw [aq,this]
 | succ r ih=>
  intro j a N b;obtain ⟨N,rfl⟩:∃k,N=k+1:=⟨N - 1,by omega⟩;have w:IntKind.wrap .i64 ((j:Int)+1)=((j+1:Nat):Int):=by rw [wrap_i64 _ (by omega) (by omega)];omega
  have hc:=sY y j;have c:=rk y ((j+1:Nat):Int);have:bz n (y,dayY y+cumM y j,(m:Int),(j:Int))=some (.inl (y,dayY y+cumM y (j+1),(m:Int),((j+1:Nat):Int))):=by
   unfold bz;rw [bL,ae (show ((j:Int)<(m:Int)) by omega)];simp only [w,vA n h (show 1<=j+1 by omega) (show j+1<=12 by omega),ob];rw [wrap_i64 (dayY y+cumM y j+lenI y ((j+1:Nat):Int)) (by omega) (by omega),Int.add_assoc];rfl
  rw [aq,this];exact ih (j+1) (by omega) N (by omega)
theorem tC (n:Nat) (c:100<n) {y:Int} (h:dI y) {m:Nat} (b:1<=m) (a:m<=12):eV n y (m:Int)=some (dayM y m,0):=by
 unfold eV;have w:IntKind.wrap .i64 ((m:Int) - 1)=((m - 1:Nat):Int):=by rw [wrap_i64 _ (by omega) (by omega)];omega
 rw [Gv n h b a,rR n h,w];have:=DU n h (m:=m - 1) (by omega) (m - 1) 0 (by omega) n (by omega);rw [show dayY y+cumM y 0=dayY y by simp [cumM]] at this;show ob (aq (bz n) n (y,dayY y,((m - 1:Nat):Int),((0:Nat):Int))) _=_;rw [this];unfold dayM;rw [ae a];rfl
theorem Dx (n:Nat) (c:100<n) {y:Int} (h:dI y) {m:Nat} (a:1<=m) (b:m<=12):f8 n y (m:Int)=some (dayM y (m+1) - 1,0):=by
 unfold f8;have e:=yz h (m:=m) (by omega);have d:=rk y (m:Int);rw [tC n c h a b,vA n h a b,Jy y a b];show some (IntKind.wrap .i64 (IntKind.wrap .i64 (dayM y m+lenI y (m:Int)) - 1),(0:Int))=_;rw [wrap_i64 (dayM y m+lenI y (m:Int)) (by omega) (by omega),wrap_i64 _ (by omega) (by omega)]
theorem G5 (n:Nat) (b:100<n) {y:Int} (h:dI y) {j m c:Nat} (i:j<21) (e:ng[j]?=some ((m:Int),(c:Int))) (f:1<=m) (g:m<=12) (l:1<=c) (k:c<=6) (hy:12<m+c - 1->y≠10000000000000000):
  gz n y ((21+j:Nat):Int)=some (0,dayM y m,0,dayM y (m+c) - 1,0):=by
 have o:eW n ((21+j:Nat):Int)=some ((m:Int),(c:Int),0):=by
  unfold eW dp;rw [bL,bL,ab (by omega),ab (by omega)];have:IntKind.wrap .i64 (((21+j:Nat):Int) - 21)=(j:Int):=by rw [wrap_i64 _ (by omega) (by omega)];omega
  rw [this,eu i];show ob (ng[j]?) _=_;rw [e];rfl
 unfold gz;rw [o];simp only [ob,fj,ah];rw [tC n b h f g];simp only [ob,fj,ah];rw [madd n h f g l k];have h':=h;unfold dI at h';by_cases a:12<m+c - 1
 ·rw [ae a,ab (hy a)];have d:dI (y+1):=by unfold dI;have:=hy a;omega
  simp only [ob,fj,ah];rw [Dx n b d (m:=m+c - 1 - 12) (by omega) (by omega)];have:=Jh y (m:=m+c - 1 - 12+1) (by omega) (by omega);rw [show m+c - 1 - 12+1+12=m+c by omega] at this;rw [this]
 ·rw [ab a];simp only [ob,fj,ah];rw [Dx n b h (m:=m+c - 1) (by omega) (by omega),show m+c - 1+1=m+c by omega]
def twoV (s:aa):Nat:=match s with
 | [a,b]=>10*(a.toNat - 48)+(b.toNat - 48)
 | _=>0
def yOf (g:Bool) (dg:aa) (x:Int):Int:=if g then -((val dg x.toNat:Nat):Int) else ((val dg x.toNat:Nat):Int)
def spF (m:aa):Nat:=((ng.getD (sea m - 21).toNat (0,0)).1).toNat
def spC (m:aa):Nat:=((ng.getD (sea m - 21).toNat (0,0)).2).toNat
def uF (g:Bool) (dg:aa) (x:Int) (m d:aa):Int×Int:=
 if m=[] then (dayY (yOf g dg x),dayY (yOf g dg x+1) - 1)
 else if 0<sea m then (dayM (yOf g dg x) (spF m),dayM (yOf g dg x) (spF m+spC m) - 1)
 else if d=[] then (dayM (yOf g dg x) (twoV m),dayM (yOf g dg x) (twoV m+1) - 1)
 else (dayM (yOf g dg x) (twoV m)+(twoV d:Int) - 1,dayM (yOf g dg x) (twoV m)+(twoV d:Int) - 1)
def exD (dg m d:aa) (q:Int):Bool:=!(hasX dg||(hasX m||hasX d))&&(q==0)
theorem Oy {s:aa} (h:hasX s=false) {c:UInt8} (hc:c∈s):c≠88:=by
 rintro rfl;unfold hasX at h;rw [s9] at h;exact h 88 hc (by decide)
theorem JL {s:aa} (h:hasX s=false) {k:Nat} (l:k<100) (c:agr s k=true):twoV s=k/\s=two k:=by
 unfold agr at c;split at c
 ·rename_i a b;have d:a≠88:=Oy h (by simp);have g:b≠88:=Oy h (by simp);simp only [az,gM,bQ] at c;obtain ⟨e,f⟩:=c;have e:=e.resolve_left d;have f:=f.resolve_left g;subst e f;refine ⟨?_,rfl⟩;unfold twoV;have j:(UInt8.ofNat (48+k / 10)).toNat=48+k / 10:=by simp;omega
  have i:(UInt8.ofNat (48+k%10)).toNat=48+k%10:=by simp;omega
  simp only [j,i];omega
 ·cases c
theorem yK {s:aa} (h:hasX s=false) {g:Nat} (d:g<100) (a:ju s g=true):1<=twoV s/\twoV s<=g/\s=two (twoV s):=by
 unfold ju at a;obtain ⟨i,hi,a⟩:=uz.1 a;have:=kj.1 hi;obtain ⟨b,c⟩:=JL h (by omega) a;rw [b];exact ⟨by omega,by omega,c⟩
theorem Jv {s:aa} (h:hasX s=false) {g:Nat} (d:g<100) {k:Int} (a:k∈xL (fitN s g)):k=(twoV s:Int):=by
 obtain ⟨i,hi,rfl⟩:=fq.1 a;obtain ⟨c,b⟩:=oL.1 hi;have:=List.mem_range'_1.1 c;rw [(JL h (by omega) b).1]
theorem EP {k:Nat} (c:k<100):Lib.atoi (two k)=some (k:Int):=by
 have a:(UInt8.ofNat (48+k / 10)).toNat=48+k / 10:=by simp;omega
 have b:(UInt8.ofNat (48+k%10)).toNat=48+k%10:=by simp;omega
 unfold two;rw [EJ (by omega) (by omega),a,b];congr 2;omega
structure Exact (g l:Bool) (dg:aa) (x:Int) (m d:aa):Prop where
 ok:okY g l dg x 0
 num:hasX dg=false
 cal:dI (yOf g dg x)
 mon:m=[]\/(∃j,j<21/\m=two (21+j)/\(j=3\/j=7\/j=9->yOf g dg x≠10000000000000000))\/(sea m=0/\1<=twoV m/\twoV m<=12/\m=two (twoV m))
 day:d=[]\/(m≠[]/\sea m=0/\1<=twoV d/\twoV d<=31/\d=two (twoV d)/\(twoV d:Int)<=lenI (yOf g dg x) (twoV m:Int))
theorem M5 {g l:Bool} {dg:aa} {x q:Int} {m d:aa} {k0 k1 k2:Int} (hc:chkF g l dg x q m d k0 k1 k2=0) (r:exD dg m d q=true):q=0/\Exact g l dg x m d:=by
 unfold exD at r;simp only [az,kP,n8,bQ] at r;obtain ⟨⟨C,f,k⟩,rfl⟩:=r;refine ⟨rfl,?_⟩;have D:=qA hc;obtain ⟨a,J,H,R,B⟩:=vH D;obtain ⟨n,M,P,Q⟩:=IC D;have o:=DZ a C;obtain ⟨G,_,_⟩:=Qr a;have hy:inP g dg x 0 (yOf g dg x):=by
  have:=(o _).1 G;have e:yOf g dg x=(sgn g (sA g dg x 0)).1:=by rw [this];rfl
  rw [e];exact G
 have i:=zi hy;refine ⟨a,C,i,?_,?_⟩
 ·by_cases s:m=[]
  ·exact .inl s
  ·right;rcases n7 m with K | ⟨j,F,e⟩
   ·right;rcases M with h | h | h
    ·exact absurd h s
    ·omega
    ·obtain ⟨a1,a2,A⟩:=yK f (by omega) h;exact ⟨K,a1,a2,A⟩
   ·left;refine ⟨j,F,e,λN=>?_⟩;unfold yrD at n;rw [ae a] at n;unfold yrB at n;simp only [az,kP] at n;have v:wint (sea m)=true:=by
     rw [e,mS F];rcases N with rfl | rfl | rfl<;>rfl
    have p:=n.2;rw [v,qo] at p;unfold Dc at p;rw [C] at p;intro b;unfold yOf at b;cases g with
    | true=>
     simp only [aK] at b;omega
    | false=>
     simp only [bA,aC] at b;have:val dg x.toNat=E16:=by unfold E16;omega
     rw [au this] at p;cases p
 ·by_cases c:d=[]
  ·exact .inl c
  ·right;obtain ⟨s,hs⟩:=B c;rcases P with h | ⟨_,_,h⟩
   ·exact absurd h c
   ·obtain ⟨a1,a2,A⟩:=yK k (by omega) h;refine ⟨s,hs,a1,a2,A,?_⟩;have O:hasF g dg x m d:=by
     unfold chkF at hc;split at hc
     ·cases hc
     ·rename_i I;by_cases h:hasF g dg x m d
      ·exact h
      ·exact absurd ⟨D,c,h⟩ I
    obtain ⟨e,r,w⟩:=O;obtain ⟨z,L,t⟩:=List.exists_cons_of_ne_nil w;have t:z∈NM m d e:=by rw [t];exact km
    obtain ⟨z1,z2,E,y⟩:=MQ.1 t;have u:e=yOf g dg x:=(o e).1 r;unfold monI at z2;rw [ab s,ab (by omega)] at z2;unfold dayI at E;rw [ab c] at E;unfold xC at y;rw [ab c,Jv k (by omega) E,Jv f (by omega) z2,u] at y;exact y
theorem PH {j:Nat} (a:j<21):∃f c:Nat,ng[j]?=some ((f:Int),(c:Int))/\1<=f/\f<=12/\1<=c/\c<=6/\(12<f+c - 1↔j=3\/j=7\/j=9)/\spF (two (21+j))=f/\spC (two (21+j))=c:=by
 obtain ⟨f,c,e,d,i,k,h,g⟩:=EQ a;have hs:(sea (two (21+j)) - 21).toNat=j:=by rw [mS a];omega
 have b:ng.getD j (0,0)=((f:Int),(c:Int)):=by rw [BP,e];rfl
 refine ⟨f,c,e,d,i,k,h,g,?_,?_⟩
 ·unfold spF;rw [hs,b];rfl
 ·unfold spC;rw [hs,b];rfl
theorem Gz (n:Nat) (g l:Bool) (dg:aa) (x q:Int) (m d:aa) (k0 k1 k2:Int) (b:m.length<=1000) (a:dg.length<=1000) (h:d.length<=1000):kM n g l dg x q m d k0 k1 k2=some (exD dg m d q):=by
 unfold kM exD;rw [BB n g l dg x q m d k0 k1 k2 b a h];simp only [ob];cases (hasX dg||(hasX m||hasX d))<;>rfl
theorem OA {Y:Type} (a b:Y):∀s:aa,((s.findSome? λc=>if c=88 then some a else none).getD b)=if hasX s then a else b
 | []=>rfl
 | c::s=>by
  have ih:=OA a b s;unfold hasX at ih ⊢;rw [BZ,qm];by_cases hc:c=88
  ·subst hc;rfl
  ·rw [ab hc];have e:(c==88)=false:=aW.2 hc;rw [e,pP];exact ih
theorem xN (n:Nat) (s:aa) (g l:Bool) (dg:aa) (x q:Int) (m d:aa) (k0 k1 k2:Int) (hs:s.length<=100000) {N:Nat} (a:s.length<N):
  aq (dL n) N (s,0,g,l,dg,x,q,m,d,k0,k1,k2)=some (if hasX s then .inl 0 else .inr (g,l,dg,x,q,m,d,k0,k1,k2)):=by
 have:=vM (step:=dL n) (f:=λi=>(s,(i:Int),g,l,dg,x,q,m,d,k0,k1,k2)) (L:=s) (G:=λc=>if c=88 then some (.inl 0) else none) (e:=.inr (g,l,dg,x,q,m,d,k0,k1,k2))
  (λi c hi=>by
   have j:=(rP.1 hi).1;have b:IntKind.wrap .i64 ((i:Int)+1)=((i+1:Nat):Int):=by rw [wrap_i64 _ (by omega) (by omega)];omega
   unfold dL;simp only [d4,d8,b];rw [au (show (i:Int)<((s.length:Nat):Int) by omega),ew hi];simp only [aj,ob];by_cases hc:c=88
   ·subst hc;rw [ae rfl];rfl
   ·rw [ab hc];have:(((c.toNat:Nat):Int)==88)=false:=by
     rw [aW];intro h;apply hc;apply gZ.1;have:c.toNat=88:=by omega
     rw [this];rfl
    rw [this];rfl)
  (by
   unfold dL;simp only [d4,d8];rw [av (show ¬((s.length:Nat):Int)<((s.length:Nat):Int) by omega)];rfl)
  a
 rw [show ((0:Nat):Int)=0 from rfl] at this;rw [this];rw [OA]
theorem H8 (n:Nat) (g l:Bool) (dg:aa) (x q:Int) (m d:aa) (k0 k1 k2:Int) (e:m.length<=1000) (i:dg.length<=1000) (h:d.length<=1000) (f:4000<n):aU n g l dg x q m d k0 k1 k2=some (if exD dg m d q then 1 else 0):=by
 unfold aU;rw [gj (by omega)];simp only [ob];rw [gj (by rw [bH];omega)];simp only [];rw [xN n _ _ _ _ _ _ _ _ _ _ _ (by simp only [bH];omega) (by simp only [bH];omega)];rw [uU,uU];unfold exD;cases hasX dg<;>cases hasX m<;>cases hasX d<;>(try rfl);simp only [ur,bA,aC,ob,d4,iv,qo];by_cases a:q=0
 ·subst a;rfl
 ·have b:(q != 0)=true:=by simp [a]
  have c:(q==0)=false:=aW.2 a;rw [b,c];rfl
theorem QD (n:Nat) (c:100<n) {y:Int} (h:dI y) {m k:Nat} (a:1<=m) (b:m<=12) (k1:1<=k) (k2:(k:Int)<=lenI y (m:Int)):qZ n y (m:Int) (k:Int)=some (dayM y m+(k:Int) - 1,0):=by
 have e:=yz h (m:=m) (by omega);have d:=rk y (m:Int);unfold qZ qx;rw [Jp n h a b];simp only [ob,fj,ah];rw [av (show ¬(k:Int)<1 by omega),av (show ¬(k:Int)>lenI y (m:Int) by omega),tC n c h a b];simp only [ob,fj,ah];rw [wrap_i64 (dayM y m+(k:Int)) (by omega) (by omega),wrap_i64 _ (by omega) (by omega)]
section
variable {g l:Bool} {dg:List UInt8} {x:Int} {m d:List UInt8} {k0 k1 k2:Int}
theorem D8 (n:Nat) (u:100<n) (y:m.length<=18) (E:Exact g l dg x m d) (q r:Int) (w:m≠[]->q=if 0<sea m then sea m else (twoV m:Int)) (I:d≠[]->r=(twoV d:Int)):
  (ob (il n) λz=>(ob (aY n g l dg x 0 m d k0 k1 k2) λk=>(cond (k==0) (ob (fD n (yOf g dg x) ([q,r]:List (Int))) λb=>(some (b.1,b.2.1,b.2.2.1,b.2.2.2,(0:Int)))) (cond (k==1) (ob (fM n (yOf g dg x) ([q,r]:List (Int))) λo=>(some (o.1,o.2.1,o.2.2.1,o.2.2.2,0))) (cond (k==2) (ob (fO n (yOf g dg x) ([q,r]:List (Int))) λa=>(some (a.1,a.2.1,a.2.2.1,a.2.2.2,0))) (cond (k==3) (ob (fL n (yOf g dg x) ([q,r]:List (Int))) λi=>(some (i.1,i.2.1,i.2.2.1,i.2.2.2,0))) none)))))) =
   some (0,(uF g dg x m d).1,0,(uF g dg x m d).2,0):=by
 have K:il n=some ():=rfl;have B:ix ([q,r]:List Int).length 0=some 0:=rfl;have L:ix ([q,r]:List Int).length 1=some 1:=rfl;have g0:([q,r]:List Int)[0]?=some q:=rfl;have G:([q,r]:List Int)[1]?=some r:=rfl;rw [K,HO n g l dg x 0 m d k0 k1 k2 y];unfold uF;by_cases t:d=[]
 ·rw [ae t];by_cases p:m=[]
  ·have hs:sea m=0:=by rw [p];decide
   rw [ab (show ¬0<sea m by omega),ae p,ae p];unfold fM;rw [rR n E.cal,Cf n E.cal];rfl
  ·rw [ab p];by_cases hs:0<sea m
   ·rw [ae hs,ae hs];rcases E.mon with h | ⟨j,s,e,D⟩ | ⟨h,_⟩
    ·exact absurd h p
    ·obtain ⟨f,c,F,a1,a2,J,O,N,M,P⟩:=PH s;have A:q=((21+j:Nat):Int):=by rw [w p,ae hs,e,mS s]
     unfold fD;rw [B];simp only [ob,g0];rw [A,G5 n u E.cal s F a1 a2 J O (λh=>D (N.1 h)),e,M,P];rfl
    ·omega
   ·rw [ab hs,ab hs,ab p,ae t];rcases E.mon with h | ⟨j,s,e,D⟩ | ⟨_,a1,a2,_⟩
    ·exact absurd h p
    ·rw [e,mS s] at hs;omega
    ·have A:q=(twoV m:Int):=by rw [w p,ab hs]
     unfold fO;rw [B];simp only [ob,g0];rw [A,tC n u E.cal a1 a2,Dx n u E.cal a1 a2];rfl
 ·rw [ab t];rcases E.day with h | ⟨p,hs,b1,b2,Q,H⟩
  ·exact absurd h t
  ·rw [ab p,ab (show ¬0<sea m by omega),ab t];rcases E.mon with h | ⟨j,s,e,D⟩ | ⟨_,a1,a2,_⟩
   ·exact absurd h p
   ·rw [e,mS s] at hs;omega
   ·have C:q=(twoV m:Int):=by rw [w p,ab (by omega)]
    have v:=I t;unfold fL;rw [B,L];simp only [ob,g0,G];rw [C,v,QD n u E.cal a1 a2 b1 H];rfl
theorem Me (E:Exact g l dg x m d) (b:m≠[]):Lib.atoi m=some (if 0<sea m then sea m else (twoV m:Int)):=by
 rcases E.mon with h | ⟨j,a,e,_⟩ | ⟨f,a1,a2,c⟩
 ·exact absurd h b
 ·rw [e,mS a,ae (by omega)];exact wo a
 ·rw [ab (by omega)];have:=EP (k:=twoV m) (by omega);rw [<-c] at this;exact this
theorem LS (E:Exact g l dg x m d) (b:d≠[]):Lib.atoi d=some (twoV d:Int):=by
 rcases E.day with h | ⟨_,_,a1,a2,a,_⟩
 ·exact absurd h b
 ·have:=EP (k:=twoV d) (by omega);rw [<-a] at this;exact this
theorem zf:Lib.atoi []=none:=by kernel_rfl
theorem Ez {q:Int} (b:m.length<=18) (e:dg.length<=100) (r:d.length<=18) (k:0<=k0) (n:0<=k1) (p:0<=k2):
  fK 20000000 g l dg x q m d k0 k1 k2=some (if chkF g l dg x q m d k0 k1 k2=0 then (if exD dg m d q=true then (0,(uF g dg x m d).1,0,(uF g dg x m d).2,0) else (0,0,0,0,1)) else (0,0,0,0,chkF g l dg x q m d k0 k1 k2)):=by
 have o:Nat.ble m.length 18=true:=cr b;have t:Nat.ble d.length 18=true:=cr r;unfold fK;rw [uW b e k n p];simp only [ob];by_cases hc:chkF g l dg x q m d k0 k1 k2=0
 ·rw [ae hc,hc,Gz 20000000 g l dg x q m d k0 k1 k2 (by omega) (by omega) (by omega)];simp only [ob,fj,ah];by_cases c:exD dg m d q=true
  ·rw [ae c,c];obtain ⟨rfl,E⟩:=M5 hc c;have s:dX 20000000 g l dg x 0=some (yOf g dg x,0):=by
    rw [AK 20000000 g l dg x 0 (by omega) e,ae ⟨E.ok,E.num⟩];rfl
   rw [s,o,t];simp only [cX,ah,aj,ob];by_cases f:m=[]
   ·have a:d=[]:=by
     rcases E.day with h | ⟨h,_⟩
     ·exact h
     ·exact absurd f h
    have:=D8 (k0:=k0) (k1:=k1) (k2:=k2) 20000000 (by omega) b E 0 0 (λh=>absurd f h) (λh=>absurd a h);have i:Lib.atoi m=none:=by rw [f];exact zf
    have j:Lib.atoi d=none:=by rw [a];exact zf
    rw [i,j];simp only [opt];exact this
   ·have i:=Me E f;by_cases a:d=[]
    ·have:=D8 (k0:=k0) (k1:=k1) (k2:=k2) 20000000 (by omega) b E (if 0<sea m then sea m else (twoV m:Int)) 0 (λ_=>rfl) (λh=>absurd a h);have j:Lib.atoi d=none:=by rw [a];exact zf
     rw [i,j];simp only [opt];exact this
    ·have:=D8 (k0:=k0) (k1:=k1) (k2:=k2) 20000000 (by omega) b E (if 0<sea m then sea m else (twoV m:Int)) (twoV d:Int) (λ_=>rfl) (λ_=>rfl);rw [i,LS E a];simp only [opt];exact this
  ·rw [ab c];rw [fS9] at c;rw [c];rfl
 ·rw [ab hc,bne0 hc];rfl
end
end Go.Sh
