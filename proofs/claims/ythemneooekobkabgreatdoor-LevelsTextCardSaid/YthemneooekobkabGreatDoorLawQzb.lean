
/- Plain proofs, kept as far as they are needed here (printed by prune.py).
   Conditions: none. -/
import Derived.Test.YthemneooekobkabGreatDoorLawQza
set_option linter.unusedVariables false
set_option linter.unusedSimpArgs false
set_option maxRecDepth 100000
namespace Go.Sh
open Go.Abs
def cA (A B:Nat) (w:aa):aa:=mt A++w++mt B
def qI (g l:Bool) (dg:aa) (x q:Int) (m d:aa) (k0 k1 k2:Nat):aa:=
 cA (plA (dj m d) k0 k1 k2).1 (plB (dj m d) k0 k1 k2).1 (gN g l dg x q)
  ++ ((if m=[] then [] else 45::cA (plA (dj m d) k0 k1 k2).2.1 (plB (dj m d) k0 k1 k2).2.1 m)
  ++ (if d=[] then [] else 45::cA (plA (dj m d) k0 k1 k2).2.2 (plB (dj m d) k0 k1 k2).2.2 d))
structure OkD (g l:Bool) (dg:aa) (x q:Nat) (m d:aa) (k0 k1 k2:Nat):Prop where
 yr:okY g l dg (x:Int) (q:Int)
 x16:x<=16
 q17:q<=17
 dg17:dg.length<=17
 noM:0<q->m=[]
 mon:m=[]\/(m.length=2/\∀c∈m,isDX c=true)
 day:d=[]\/(m≠[]/\d.length=2/\∀c∈d,isDX c=true)
 m0:k0<4
 m1:k1<4
 m2:k2<4
 z1:dj m d<2->k1=0
 z2:dj m d<3->k2=0
theorem Hr {g l:Bool} {dg:aa} {x q:Int} {m d:aa} {k0 k1 k2:Int} (v:0<=k0) (C:0<=k1) (y:0<=k2) (h:chkD g l dg x q m d k0 k1 k2=0):
  ∃o p a b c:Nat,x=(o:Int)/\q=(p:Int)/\k0=(a:Int)/\k1=(b:Int)/\k2=(c:Int)/\OkD g l dg o p m d a b c:=by
 obtain ⟨hy,f,j,k⟩:=Oj h;unfold yrD at hy;by_cases e:okY g l dg x q
 rotate_left
 ·rw [ab e] at hy;cases hy
 rw [ae e] at hy;obtain ⟨s,A,t,w,u,r⟩:=kg e;have hk':¬(3<k0\/3<k1\/3<k2\/(dj m d<2/\k1≠0)\/(dj m d<3/\k2≠0)):=by
  intro z;unfold allM at k;rw [ae z] at k;exact absurd k (by decide)
 refine ⟨x.toNat,q.toNat,k0.toNat,k1.toNat,k2.toNat,by omega,by omega,by omega,by omega,by omega,?_⟩;rw [<-H5 s,<-H5 t] at e;refine ⟨e,by omega,by omega,r,?_,?_,?_,by omega,by omega,by omega,by omega,by omega⟩
 ·intro B;unfold yrB at hy;have hq':decide (0<q)=true:=by simp;omega
  rw [hq'] at hy;by_cases i:m=[]
  ·exact i
  ·have:(m==[])=false:=aK.2 i;rw [this] at hy;simp at hy
 ·rcases f with f | f | f
  ·exact .inl f
  ·exact .inr (L9 f)
  ·exact .inr (sB (by omega) f)
 ·rcases j with j | ⟨j,_,n⟩
  ·exact .inl j
  ·have:=sB (show 31<=31 by omega) n;exact .inr ⟨j,this.1,this.2⟩
theorem PS (n k i:Nat) (hi:i<k) (t:k<=3) (A B:List Nat) (a b:Nat) (o:A[i]?=some a) (q:B[i]?=some b) (f:a<4) (g:b<4) (ws:List (aa)) (C:ws.length=k) (w:aa) (w0 e d:aa) (m:[w0,e,d][i]?=some w) (h:w.length<=1000):
  aT n (k,(k:Int),(i:Int),A.map cI,B.map cI,ws,[w0,e,d])=some (.inl (k,(k:Int),((i+1:Nat):Int),A.map cI,B.map cI,ws.set i (cA a b w),[w0,e,d])):=by
 have w2':IntKind.wrap .i64 ((i:Int)+1)=((i+1:Nat):Int):=by rw [wrap_i64 _ (by omega) (by omega)];omega
 have p:(A.map cI)[i]?=some (a:Int):=by rw [m6,o];rfl
 have r:(B.map cI)[i]?=some (b:Int):=by rw [m6,q];rfl
 have c:∀z:Nat,z<4->(mt z).length<=1:=λz u=>by
  unfold mt;split
  ·simp
  ·split
   ·simp
   ·split<;>simp
 unfold aT;rw [bD,ae (show (i:Int)<(k:Int) by omega)];simp only [dZ hi,dZ (show i<3 by omega),ob,m,d4,p,r,(Cf n a f).1,(Cf n b g).1];have y:=c a f;have x:=c b g;have j:cat (mt a) w=some (mt a++w):=du (by omega);have l:cat (mt a++w) (mt b)=some (mt a++w++mt b):=du (by rw [bg];omega);rw [j];simp only [ob];rw [l];simp only [ob];have hi':i<ws.length:=by omega
 obtain ⟨v,s⟩:∃v,ws[i]?=some v:=⟨ws[i],bf hi'⟩;rw [dZ hi'];simp only [ob,s,w2'];rfl
theorem ES (n k:Nat) (A B:List Int) (ws V:List (aa)):aT n (k,(k:Int),(k:Int),A,B,ws,V)=some (.inr ws):=by
 unfold aT;rw [bD,ab (show ¬((k:Int)<(k:Int)) by omega)]
theorem nq (a b:Nat) (w:aa):(cA a b w).length<=w.length+2:=by
 have c:∀z:Nat,(mt z).length<=1:=λz=>by
  unfold mt;split
  ·simp
  ·split
   ·simp
   ·split<;>simp
 have:=c a;have:=c b;unfold cA;simp only [bg];omega
theorem Ib:dj [] []=1:=rfl
theorem DN {m:aa} (h:m≠[]):dj m []=2:=by unfold dj;rw [aK.2 h];rfl
theorem CP {m d:aa} (h:m≠[]) (a:d≠[]):dj m d=3:=by unfold dj;rw [aK.2 h,aK.2 a];rfl
theorem pI {d:aa} (h:d.length=2):d≠[]:=by rintro rfl;simp at h
theorem RI (n:Nat) (g l:Bool) (dg:aa) (x q:Nat) (m d:aa) (k0 k1 k2:Nat) (W:m.length<=18) (N:dg.length<=100):
  db (n+300) g l dg (x:Int) (q:Int) m d (k0:Int) (k1:Int) (k2:Int)=some (if chkD g l dg (x:Int) (q:Int) m d (k0:Int) (k1:Int) (k2:Int)=0 then (qI g l dg (x:Int) (q:Int) m d k0 k1 k2,0) else ([],chkD g l dg (x:Int) (q:Int) m d (k0:Int) (k1:Int) (k2:Int))):=by
 unfold db;rw [AY (n+300) (by omega) g l dg _ _ m d _ _ _ W N (by omega) (by omega) (by omega)];show cond (chkD g l dg (x:Int) (q:Int) m d (k0:Int) (k1:Int) (k2:Int) != 0) _ _=_;rw [wb];by_cases D:chkD g l dg (x:Int) (q:Int) m d (k0:Int) (k1:Int) (k2:Int)=0
 rotate_left
 ·rw [ab D,ab D]
 rw [ae D,ae D];obtain ⟨x',Z,a,b,c,e1,e2,e3,e4,e5,o⟩:=Hr (by omega) (by omega) (by omega) D;obtain rfl:x=x':=by omega
 obtain rfl:q=Z:=by omega
 obtain rfl:k0=a:=by omega
 obtain rfl:k1=b:=by omega
 obtain rfl:k2=c:=by omega
 have hc:=pK m d;have M:=(V7 n (dj m d) k0 k1 k2 hc o.m0 o.m1 o.m2 o.z1 o.z2).1;obtain ⟨F,K,O,y,H,P⟩:=RU (k:=dj m d) o.m0 o.m1 o.m2;rw [ub (n+300) (by omega)];simp only [ob];rw [M,BI (n+300) g l dg _ _ (by omega) N,ae o.yr];simp only [ob,dF,af,Lo o.yr,ah];have C:(decide ((0:Int)<=((dj m d:Nat):Int))&&(decide (((dj m d:Nat):Int)<=((dj m d:Nat):Int))&&decide (((dj m d:Nat):Int)<=(67108864:Int))))=true:=by
  rw [am (by omega),am (by omega),am (by omega)];rfl
 rw [C,ef (show dj m d<=3 by omega)];simp only [ob,ah,cg];have I:=ug o.yr;have Q:Nat.ble 1 140737488355328=true:=rfl;have R:Nat.ble 2 140737488355328=true:=rfl;have X:Nat.ble 3 140737488355328=true:=rfl;unfold qI;generalize gN g l dg (x:Int) (q:Int)=Y at I;generalize B:plA (dj m d) k0 k1 k2=U at *;generalize E:plB (dj m d) k0 k1 k2=PB at *;obtain ⟨f,r,s⟩:=U;obtain ⟨j,p,t⟩:=PB;simp only at F K O y H P;have st:=λ(k i:Nat) (hi:i<k) (hk:k<=3) (a b:Nat) (ha:[f,r,s][i]?=some a) (hb:[j,p,t][i]?=some b) (a4:a<4) (b4:b<4) (ws:List (aa)) (hl:ws.length=k) (w:aa) (w0 w1 w2:aa) (G:[w0,w1,w2][i]?=some w) (hwl:w.length<=1000)=>PS (n+300) k i hi hk [f,r,s] [j,p,t] a b ha hb a4 b4 ws hl w w0 w1 w2 G hwl;have A:∀L:aa,L.length<=1000->Nat.ble L.length 140737488355328=true:=λL h=>cT (by omega);by_cases u:m=[]
 ·have v:d=[]:=o.day.resolve_right (λz=>z.1 u);subst u v;show ob (ar (aT (n+300)) (n+299+1) (1,((1:Nat):Int),((0:Nat):Int),[f,r,s].map cI,[j,p,t].map cI,[[]],[Y,[],[]])) _=_;rw [ar,st 1 0 (by omega) (by omega) f j rfl rfl F y [[]] rfl Y Y [] [] rfl (by omega)];show ob (ar (aT (n+300)) (n+298+1) (1,((1:Nat):Int),((1:Nat):Int),[f,r,s].map cI,[j,p,t].map cI,[cA f j Y],[Y,[],[]])) _=_;rw [ar,ES];simp only [ob];have e:Lib.join [cA f j Y] [45]=cA f j Y:=Lib.join_one _ _;have G:=nq f j Y;rw [e,A _ (by omega)];simp [Q]
 ·have T:m.length=2:=(o.mon.resolve_left u).1;by_cases v:d=[]
  ·subst v;rw [DN u] at B E ⊢;show ob (ar (aT (n+300)) (n+299+1) (2,((2:Nat):Int),((0:Nat):Int),[f,r,s].map cI,[j,p,t].map cI,[[],[]],[Y,m,[]])) _=_;rw [ar,st 2 0 (by omega) (by omega) f j rfl rfl F y [[],[]] rfl Y Y m [] rfl (by omega)];show ob (ar (aT (n+300)) (n+298+1) (2,((2:Nat):Int),((1:Nat):Int),[f,r,s].map cI,[j,p,t].map cI,[cA f j Y,[]],[Y,m,[]])) _=_;rw [ar,st 2 1 (by omega) (by omega) r p rfl rfl K H [cA f j Y,[]] rfl m Y m [] rfl (by omega)];show ob (ar (aT (n+300)) (n+297+1) (2,((2:Nat):Int),((2:Nat):Int),[f,r,s].map cI,[j,p,t].map cI,[cA f j Y,cA r p m],[Y,m,[]])) _=_;rw [ar,ES];simp only [ob];have e:Lib.join [cA f j Y,cA r p m] [45]=cA f j Y++(45::cA r p m):=by rw [Lib.join_cons];simp [Lib.joinTail]
   have G:=nq f j Y;have J:=nq r p m;rw [e,A _ (by simp only [bg,aE];omega)];rw [ab u];simp [R]
  ·have S:d.length=2:=(o.day.resolve_left v).2.1;rw [CP u v] at B E ⊢;show ob (ar (aT (n+300)) (n+299+1) (3,((3:Nat):Int),((0:Nat):Int),[f,r,s].map cI,[j,p,t].map cI,[[],[],[]],[Y,m,d])) _=_;rw [ar,st 3 0 (by omega) (by omega) f j rfl rfl F y [[],[],[]] rfl Y Y m d rfl (by omega)];show ob (ar (aT (n+300)) (n+298+1) (3,((3:Nat):Int),((1:Nat):Int),[f,r,s].map cI,[j,p,t].map cI,[cA f j Y,[],[]],[Y,m,d])) _=_;rw [ar,st 3 1 (by omega) (by omega) r p rfl rfl K H [cA f j Y,[],[]] rfl m Y m d rfl (by omega)];show ob (ar (aT (n+300)) (n+297+1) (3,((3:Nat):Int),((2:Nat):Int),[f,r,s].map cI,[j,p,t].map cI,[cA f j Y,cA r p m,[]],[Y,m,d])) _=_;rw [ar,st 3 2 (by omega) (by omega) s t rfl rfl O P [cA f j Y,cA r p m,[]] rfl d Y m d rfl (by omega)];show ob (ar (aT (n+300)) (n+296+1) (3,((3:Nat):Int),((3:Nat):Int),[f,r,s].map cI,[j,p,t].map cI,[cA f j Y,cA r p m,cA s t d],[Y,m,d])) _=_;rw [ar,ES];simp only [ob];have e:Lib.join [cA f j Y,cA r p m,cA s t d] [45]=cA f j Y++(45::cA r p m++(45::cA s t d)):=by rw [Lib.join_cons];simp [Lib.joinTail]
   have G:=nq f j Y;have J:=nq r p m;have V:=nq s t d;rw [e,A _ (by simp only [bg,aE];omega)];rw [ab u,ab v];simp [X]
theorem IT (n:Nat) {g l:Bool} {dg:aa} {x q:Nat} {m d:aa} {k0 k1 k2:Nat} (e:OkD g l dg x q m d k0 k1 k2):
  fV (n+300) g l dg (x:Int) (q:Int) m d (k0:Int) (k1:Int) (k2:Int)=some (qI g l dg (x:Int) (q:Int) m d k0 k1 k2):=by
 have hc:=pK m d;have u:=(V7 n (dj m d) k0 k1 k2 hc e.m0 e.m1 e.m2 e.z1 e.z2).2;obtain ⟨C,D,E,p,B,F⟩:=RU (k:=dj m d) e.m0 e.m1 e.m2;have t:=ug e.yr;have hx:=e.x16;have V:=e.q17;have K:=e.dg17;unfold fV;rw [oU (n+300)];simp only [ob];rw [u,Qu (n+300) g l dg x q (by omega) (by omega) (by omega)];unfold qI;generalize gN g l dg (x:Int) (q:Int)=Y at t ⊢;generalize H:plA (dj m d) k0 k1 k2=O at *;generalize R:plB (dj m d) k0 k1 k2=PB at *;obtain ⟨w,s,v⟩:=O;obtain ⟨y,r,A⟩:=PB;simp only at C D E p B F;have i:∀z:Nat,(mt z).length<=1:=λz=>by
  unfold mt;split
  ·simp
  ·split
   ·simp
   ·split<;>simp
 have N:=i w;have L:=i s;have S:=i v;have U:=i y;have I:=i r;have T:=i A;have M:m.length<=2:=by
  rcases e.mon with h | h
  ·rw [h];simp
  ·omega
 have J:d.length<=2:=by
  rcases e.day with h | h
  ·rw [h];simp
  ·omega
 have Q:∀a b c:Nat,(l3 (a,b,c))[0]?=some (a:Int):=λ_ _ _=>rfl;have P:∀a b c:Nat,(l3 (a,b,c))[1]?=some (b:Int):=λ_ _ _=>rfl;have G:∀a b c:Nat,(l3 (a,b,c))[2]?=some (c:Int):=λ_ _ _=>rfl;have f:∀a b:aa,a.length+b.length<=1000000->cat a b=some (a++b):=λa b h=>du h;simp only [ob,Q,P,G,(Cf (n+300) w C).2,(Cf (n+300) s D).2,(Cf (n+300) v E).2,(Cf (n+300) y p).2,(Cf (n+300) r B).2,(Cf (n+300) A F).2];rw [f (mt w) Y (by omega)];simp only [ob];rw [f _ (mt y) (by simp only [bg];omega)];simp only [ob];have k1':decide (((dj m d:Nat):Int)>1)=decide (1<dj m d):=by rw [nX];omega
 have k2':decide (((dj m d:Nat):Int)>2)=decide (2<dj m d):=by rw [nX];omega
 rw [k1',k2'];by_cases j:m=[]
 ·have o:d=[]:=e.day.resolve_right (λz=>z.1 j);subst j o;rw [Ib];simp [cA]
 ·by_cases o:d=[]
  ·subst o;rw [DN j,ab j];simp only [show decide (1<2)=true from rfl,show decide (2<2)=false from rfl,ah,af];rw [f [45] (mt s) (by simp;omega)];simp only [ob];rw [f _ m (by simp only [bg,aE,bz];omega)];simp only [ob];rw [f _ (mt r) (by simp only [bg,aE,bz];omega)];simp only [ob];rw [f _ _ (by simp only [bg,aE,bz];omega)];simp [cA]
  ·rw [CP j o,ab j,ab o];simp only [show decide (1<3)=true from rfl,show decide (2<3)=true from rfl,ah,af];rw [f [45] (mt s) (by simp;omega)];simp only [ob];rw [f _ m (by simp only [bg,aE,bz];omega)];simp only [ob];rw [f _ (mt r) (by simp only [bg,aE,bz];omega)];simp only [ob];rw [f _ _ (by simp only [bg,aE,bz];omega)];simp only [ob];rw [f [45] (mt v) (by simp;omega)];simp only [ob];rw [f _ d (by simp only [bg,aE,bz];omega)];simp only [ob];rw [f _ (mt A) (by simp only [bg,aE,bz];omega)];simp only [ob];rw [f _ _ (by simp only [bg,aE,bz];omega)];simp [cA]
def isMk (c:UInt8):Bool:=decide (0<mkOf c)
theorem gV {S u v:aa} {a:Nat} (h:S.drop a=u++v):S.drop (a+u.length)=v:=by
 rw [<-jw,h,En];rfl
theorem K3 {A:Nat} (d:A<4) {r:aa} (b:cV isMk r):mkS (mt A++r)=A/\mkN (mt A++r)=(mt A).length:=by
 have a:mkS r=0:=by
  cases r with
  | nil=>rfl
  | cons c r=>
   have:=b c rfl;unfold isMk at this;have:=of_decide_eq_false this;show mkOf c=0;omega
 have h:A=0\/A=1\/A=2\/A=3:=by omega
 rcases h with rfl | rfl | rfl | rfl
 ·refine ⟨a,?_⟩;show mkN r=0;unfold mkN;rw [ae a]
 ·exact ⟨rfl,rfl⟩
 ·exact ⟨rfl,rfl⟩
 ·exact ⟨rfl,rfl⟩
theorem eG {p:UInt8->Bool} {c:UInt8} {r:aa} (h:p c=false):cV p (c::r):=λa hc=>by
 simp only [o5,au] at hc;rw [<-hc];exact h
theorem K9 {p:UInt8->Bool} (B:Nat) {r:aa} (d:p 63=false) (a:p 126=false) (b:p 37=false) (c:cV p r):cV p (mt B++r):=by
 unfold mt;split
 ·exact eG d
 ·split
  ·exact eG a
  ·split
   ·exact eG b
   ·exact c
theorem IN {c:UInt8} (h:isDX c=true):isMk c=false:=by
 have:=iW (λc=>!(isDX c)||!(isMk c)) (by decide +kernel) c;rw [h] at this;simpa using this
theorem vT {p q:UInt8->Bool} {w r:aa} (b:w≠[]) (h:∀c∈w,p c=true) (a:∀c,p c=true->q c=false):cV q (w++r):=by
 cases w with
 | nil=>exact absurd rfl b
 | cons c w=>exact eG (a c (h c mV))
theorem NX {g l:Bool} {d:aa} {x s:Int} (h:okY g l d x s):∀c∈d,isDX c=true:=by
 intro c hc;unfold okY at h;have:bB c=true\/c=88:=by
  split at h
  ·exact .inl (h.1.1 c hc)
  ·exact h.2.1 c hc
 unfold isDX;rcases this with a | a
 ·rw [a];rfl
 ·rw [a];decide
theorem I8 {g l:Bool} {d:aa} {x s:Nat} (h:okY g l d (x:Int) (s:Int)) (r:aa):cV isMk (gN g l d (x:Int) (s:Int)++r):=by
 have a:d≠[]:=by
  have:=(kg h).2.2.2.2.1;rintro rfl;simp at this
 rw [kC];cases l with
 | true=>exact eG (by decide)
 | false=>
  cases g with
  | true=>exact eG (by decide)
  | false=>
   simp only [bv,aB,dX,fN];exact vT a (NX h) (λc=>IN)
theorem uA {S:aa} {p A B:Nat} {w R:aa} (h:S.drop p=cA A B w++R) (f:A<4) (k:B<4) (i:cV isMk (w++(mt B++R))) (l:cV isMk R):
  mkS (S.drop p)=A/\S.drop (mkE S p)=w++(mt B++R)/\mkS (S.drop (mkE S p+w.length))=B/\S.drop (mkE S (mkE S p+w.length))=R/\mkE S (mkE S p+w.length)=p+(cA A B w).length:=by
 have h':S.drop p=mt A++(w++(mt B++R)):=by rw [h];unfold cA;simp
 obtain ⟨g,m⟩:=K3 f i;obtain ⟨e,j⟩:=K3 k l;have d:mkE S p=p+(mt A).length:=by unfold mkE;rw [h',m]
 have c:S.drop (mkE S p)=w++(mt B++R):=by rw [d];exact gV h'
 have b:S.drop (mkE S p+w.length)=mt B++R:=gV c;have a:mkE S (mkE S p+w.length)=mkE S p+w.length+(mt B).length:=by
  show mkE S p+w.length+mkN (S.drop (mkE S p+w.length))=_;rw [b,j]
 refine ⟨by rw [h',g],c,by rw [b,e],by rw [a];exact gV b,?_⟩;rw [a,d];unfold cA;simp only [bg];omega
theorem AX {m r:aa} (f:m.length=2) (h:∀c∈m,isDX c=true):twoN (m++r)=2/\(m++r).take 2=m:=by
 match m,f with
 | [a,b],_=>
  have d:=h a (by simp);have e:=h b (by simp);refine ⟨?_,rfl⟩;unfold twoN;show bH isDX 2 (a::b::r)=2;simp [bH,d,e]
theorem TK {k a b c:Nat} (e:k<2->b=0) (d:k<3->c=0) (f:1<=k):(k<2->(plA k a b c).2.1=0/\(plB k a b c).2.1=0)/\(k<3->(plA k a b c).2.2=0/\(plB k a b c).2.2=0):=by
 unfold plA plB;constructor
 ·intro h;have:k=1:=by omega
  subst this;have:=e h;split
  ·simp
  ·simp [this]
 ·intro h;have:=d h;split
  ·split
   ·simp
   ·have:k=2:=by omega
    simp [this]
  ·simp [this]
def rawD (A B:Nat×Nat×Nat) (g l:Bool) (dg:aa) (x q:Int) (m d:aa):aa:=
 cA A.1 B.1 (gN g l dg x q)++((if m=[] then [] else 45::cA A.2.1 B.2.1 m)++(if d=[] then [] else 45::cA A.2.2 B.2.2 d))
structure MkD (A B:Nat×Nat×Nat) (m d:aa):Prop where
 a0:A.1<4
 a1:A.2.1<4
 a2:A.2.2<4
 b0:B.1<4
 b1:B.2.1<4
 b2:B.2.2<4
 zm:m=[]->A.2.1=0/\B.2.1=0
 zd:d=[]->A.2.2=0/\B.2.2=0
structure ShD (g l:Bool) (dg:aa) (x q:Nat) (m d:aa):Prop where
 yr:okY g l dg (x:Int) (q:Int)
 noM:0<q->m=[]
 mon:m=[]\/(m.length=2/\∀c∈m,isDX c=true)
 day:d=[]\/(m≠[]/\d.length=2/\∀c∈d,isDX c=true)
theorem OkD.sh {g l:Bool} {dg:aa} {x q:Nat} {m d:aa} {k0 k1 k2:Nat} (h:OkD g l dg x q m d k0 k1 k2):ShD g l dg x q m d:=⟨h.yr,h.noM,h.mon,h.day⟩
theorem OkD.marks {g l:Bool} {dg:aa} {x q:Nat} {m d:aa} {k0 k1 k2:Nat} (h:OkD g l dg x q m d k0 k1 k2):MkD (plA (dj m d) k0 k1 k2) (plB (dj m d) k0 k1 k2) m d:=by
 obtain ⟨W,U,O,E,Q,Y⟩:=RU (k:=dj m d) h.m0 h.m1 h.m2;obtain ⟨J,G⟩:=TK (a:=k0) h.z1 h.z2 (pK m d).1;refine ⟨W,U,O,E,Q,Y,λC=>J ?_,λX=>G ?_⟩
 ·have F:d=[]:=h.day.resolve_right (λz=>z.1 C);subst C F;rw [Ib];omega
 ·subst X;by_cases C:m=[]
  ·subst C;rw [Ib];omega
  ·rw [DN C];omega
theorem HT {A B:Nat×Nat×Nat} {g l:Bool} {dg:aa} {x q:Nat} {m d:aa} (b:ShD g l dg x q m d) (o:MkD A B m d) {S:aa} {a:Nat} {post:aa} (h:S.drop a=rawD A B g l dg (x:Int) (q:Int) m d++post)
  (hp1:cV isYC post) (C:cV isMk post) (M:cV (λc=>c==45) post):
  ∃P:Nat×Nat×Nat,P.1=a+(mt A.1).length/\qL S a=.inr (g,l,dg,x,q,m,d,spM A B,P,a+(rawD A B g l dg (x:Int) (q:Int) m d).length):=by
 obtain ⟨l0,l1,l2,V,l4,l5,N,H⟩:=o;obtain ⟨j,t,J⟩:=A;obtain ⟨k,n,I⟩:=B;simp only at l0 l1 l2 V l4 l5 N H h;unfold rawD at h ⊢;simp only at h ⊢;have E:isMk 45=false:=by decide
 have W:isYC 45=false:=by decide
 have T:∀r:aa,cV (λc=>c==45) r->fD 45 r=0:=λr hr=>by
  cases r with
  | nil=>rfl
  | cons c r=>
   have:=hr c rfl;exact pG (λe=>by rw [e] at this;exact absurd this (by decide)) r
 have hyx:=ML b.yr;have Z:=I8 b.yr;generalize hY:gN g l dg (x:Int) (q:Int)=Y at *;have D:∀R:aa,S.drop a=cA j k Y++R->cV isYC R->cV isMk R->
   mkE S a=a+(mt j).length/\mkS (S.drop a)=j/\pX (S.drop (mkE S a))=.inr (g,l,dg,x,q,Y.length)/\mkS (S.drop (mkE S a+Y.length))=k/\S.drop (mkE S (mkE S a+Y.length))=R/\mkE S (mkE S a+Y.length)=a+(cA j k Y).length:=by
  intro R hR h1 h2;obtain ⟨w,v,G,p,F⟩:=uA hR l0 V (Z _) h2;refine ⟨?_,w,?_,G,p,F⟩
  ·have hR':S.drop a=mt j++(Y++(mt k++R)):=by rw [hR];unfold cA;simp
   unfold mkE;rw [hR',(K3 l0 (Z _)).2]
  rw [v];exact hyx _ (K9 k (by decide) (by decide) (by decide) h1)
 unfold qL;by_cases f:m=[]
 ·have i:d=[]:=b.day.resolve_right (λz=>z.1 f);subst f i;simp only [aL,lO] at h ⊢;obtain ⟨w0,w,v,G,p,F⟩:=D post h hp1 C;rw [v];simp only [];rw [p,ae (.inr (T post M)),w,G,F];obtain ⟨rfl,rfl⟩:=N rfl;obtain ⟨rfl,rfl⟩:=H rfl;exact ⟨_,w0,rfl⟩
 ·have X:¬0<q:=λz=>f (b.noM z);obtain ⟨s,y⟩:=b.mon.resolve_left f;rw [ab f] at h ⊢;have o:∀r,cV isMk (m++r):=λr=>vT f y (λc=>IN);by_cases i:d=[]
  ·subst i;rw [ae rfl,lO] at h ⊢;have h':S.drop a=cA j k Y++(45::(cA t n m++post)):=by rw [h];simp
   obtain ⟨w0,w,v,G,p,F⟩:=D _ h' (eG W) (eG E);rw [v];simp only [];rw [p,oq,ab (λz=>z.elim X (by omega)),w,G];unfold rd2;have h2:S.drop (mkE S (mkE S a+Y.length)+1)=cA t n m++post:=gV (u:=[45]) p;obtain ⟨v1,v2,v3,K,L⟩:=uA h2 l1 l4 (o _) C;obtain ⟨U,u2⟩:=AX (r:=mt n++post) s y;rw [<-v2] at U u2;rw [s] at v3 K L;rw [U,ab (by omega),K,T post M,ae rfl,u2,v1,v3,L,F];obtain ⟨rfl,rfl⟩:=H rfl;have:a+(cA j k Y).length+1+(cA t n m).length=a+(cA j k Y++45::cA t n m).length:=by simp only [bg,aE];omega
   rw [this];exact ⟨_,w0,rfl⟩
  ·obtain ⟨_,Q,O⟩:=b.day.resolve_left i;rw [ab i] at h ⊢;have hdk:∀r,cV isMk (d++r):=λr=>vT i O (λc=>IN);have h':S.drop a=cA j k Y++(45::(cA t n m++(45::(cA J I d++post)))):=by rw [h];simp
   obtain ⟨w0,w,v,G,p,F⟩:=D _ h' (eG W) (eG E);rw [v];simp only [];rw [p,oq,ab (λz=>z.elim X (by omega)),w,G];unfold rd2;have h2:S.drop (mkE S (mkE S a+Y.length)+1)=cA t n m++(45::(cA J I d++post)):=gV (u:=[45]) p;obtain ⟨v1,v2,v3,K,L⟩:=uA h2 l1 l4 (o _) (eG E);obtain ⟨U,u2⟩:=AX (r:=mt n++(45::(cA J I d++post))) s y;rw [<-v2] at U u2;rw [s] at v3 K L;rw [U,ab (by omega),K,oq,ab (by omega),u2,v1,v3];unfold rd3;have h3:S.drop (mkE S (mkE S (mkE S (mkE S a+Y.length)+1)+2)+1)=cA J I d++post:=gV (u:=[45]) K;obtain ⟨x1,x2,x3,x4,x5⟩:=uA h3 l2 l5 (hdk _) C;obtain ⟨s1,s2⟩:=AX (r:=mt I++post) Q O;rw [<-x2] at s1 s2;rw [Q] at x3 x4 x5;rw [s1,ab (by omega),s2,x1,x3,x5,L,F];have:a+(cA j k Y).length+1+(cA t n m).length+1+(cA J I d).length=a+(cA j k Y++(45::cA t n m++45::cA J I d)).length:=by simp only [bg,aE];omega
   rw [this];exact ⟨_,w0,rfl⟩
theorem I4 {g l:Bool} {dg:aa} {x q:Nat} {m d:aa} {k0 k1 k2:Nat} (b:OkD g l dg x q m d k0 k1 k2) {S:aa} {a:Nat} {post:aa} (h:S.drop a=qI g l dg (x:Int) (q:Int) m d k0 k1 k2++post)
  (f:cV isYC post) (i:cV isMk post) (e:cV (λc=>c==45) post):
  ∃P,qL S a=.inr (g,l,dg,x,q,m,d,(k0,k1,k2),P,a+(qI g l dg (x:Int) (q:Int) m d k0 k1 k2).length):=by
 obtain ⟨P,_,j⟩:=HT b.sh b.marks (S:=S) (a:=a) (post:=post) h f i e;rw [Xx (dj m d) k0 k1 k2 (pK m d) b.m0 b.m1 b.m2 b.z1 b.z2] at j;exact ⟨P,j⟩
theorem Lp {g l:Bool} {dg:aa} {x q:Nat} {m d:aa} {k0 k1 k2:Nat} (a:OkD g l dg x q m d k0 k1 k2):(qI g l dg (x:Int) (q:Int) m d k0 k1 k2).length<=37:=by
 have hy:=ug a.yr;have i:=nq (plA (dj m d) k0 k1 k2).1 (plB (dj m d) k0 k1 k2).1 (gN g l dg (x:Int) (q:Int));have e:=nq (plA (dj m d) k0 k1 k2).2.1 (plB (dj m d) k0 k1 k2).2.1 m;have f:=nq (plA (dj m d) k0 k1 k2).2.2 (plB (dj m d) k0 k1 k2).2.2 d;have b:m.length<=2:=by
  rcases a.mon with h | h
  ·rw [h];simp
  ·omega
 have c:d.length<=2:=by
  rcases a.day with h | h
  ·rw [h];simp
  ·omega
 unfold qI;simp only [bg];have a1:(if m=[] then [] else 45::cA (plA (dj m d) k0 k1 k2).2.1 (plB (dj m d) k0 k1 k2).2.1 m).length<=5:=by
  split
  ·simp
  ·simp only [aE];omega
 have a2:(if d=[] then [] else 45::cA (plA (dj m d) k0 k1 k2).2.2 (plB (dj m d) k0 k1 k2).2.2 d).length<=5:=by
  split
  ·simp
  ·simp only [aE];omega
 omega
theorem Sm {A B:Nat×Nat×Nat} (f:A.1<4) (d:A.2.1<4) (e:A.2.2<4) (g0:B.1<4) (c:B.2.1<4) (b:B.2.2<4):(spM A B).1<4/\(spM A B).2.1<4/\(spM A B).2.2<4:=by
 have a:∀x y:Nat,x<4->y<4->x ||| y<4:=λx y hx hy=>(or4 hx hy).2;exact ⟨a _ _ (a _ _ (a _ _ f g0) c) b,a _ _ (a _ _ d c) b,a _ _ e b⟩
structure RdOK (S:aa) (a:Nat) (dg m d:aa) (M:Nat×Nat×Nat) (e:Nat):Prop where
 dg17:dg.length<=17
 m2:m.length<=2
 d2:d.length<=2
 all:inM (dj m d) M
 le:a<=e
 end_:e<=S.length
theorem AD {S:aa} {a:Nat} (h:a<=S.length) {g l:Bool} {dg:aa} {x s:Nat} {m d:aa} {M P:Nat×Nat×Nat} {e:Nat} (b:qL S a=.inr (g,l,dg,x,s,m,d,M,P,e)):RdOK S a dg m d M e:=by
 have c:∀p,mkS (S.drop p)<4:=λp=>CQ _;have o:0<4:=by omega
 have b0:=k7 h;have g0:a<=mkE S a:=A9 _ _;have n:∀p,p<=mkE S p:=λp=>A9 _ _;unfold qL at b;cases hy:pX (S.drop (mkE S a)) with
 | inl k=>rw [hy] at b;cases b
 | inr y=>
  obtain ⟨G,J,F,Q,s',k⟩:=y;obtain ⟨_,bk,_,_,i⟩:=qR hy;have bk:mkE S a+k<=S.length:=by
   rw [bN] at bk;omega
  have b1:=k7 bk;rw [hy] at b;simp only [] at b;by_cases hc:0<s'\/fD 45 (S.drop (mkE S (mkE S a+k)))=0
  ·rw [ae hc] at b;cases b;have:=Sm (A:=(mkS (S.drop a),0,0)) (B:=(mkS (S.drop (mkE S a+k)),0,0)) (c _) o o (c _) o o;refine ⟨i,by simp,by simp,⟨this.1,this.2.1,this.2.2,λ_=>by simp [spM],λ_=>by simp [spM]⟩,?_,b1⟩;have:=n (mkE S a+k);omega
  ·rw [ab hc] at b;have v:=sA (λz=>hc (.inr z));have H:=k7 v;unfold rd2 at b;by_cases u:twoN (S.drop (mkE S (mkE S (mkE S a+k)+1)))<2
   ·rw [ae u] at b;cases b
   ·rw [ab u] at b;have b2:=vv u;have w:=k7 b2;have j:(List.take 2 (S.drop (mkE S (mkE S (mkE S a+k)+1)))).length=2:=by rw [dG,bN];omega
    have I:=n (mkE S a+k);have O:=n (mkE S (mkE S a+k)+1);have L:=n (mkE S (mkE S (mkE S a+k)+1)+2);by_cases f:fD 45 (S.drop (mkE S (mkE S (mkE S (mkE S a+k)+1)+2)))=0
    ·rw [ae f] at b;cases b;have:=Sm (A:=(mkS (S.drop a),mkS (S.drop (mkE S (mkE S a+k)+1)),0)) (B:=(mkS (S.drop (mkE S a+k)),mkS (S.drop (mkE S (mkE S (mkE S a+k)+1)+2)),0)) (c _) (c _) o (c _) (c _) o;refine ⟨i,by omega,by simp,⟨this.1,this.2.1,this.2.2,λz=>?_,λ_=>by simp [spM]⟩,by omega,w⟩;rw [DN (pI j)] at z;omega
    ·rw [ab f] at b;have t:=sA f;have C:=k7 t;unfold rd3 at b;by_cases r:twoN (S.drop (mkE S (mkE S (mkE S (mkE S (mkE S a+k)+1)+2)+1)))<2
     ·rw [ae r] at b;cases b
     ·rw [ab r] at b;have D:=vv r;have E:=k7 D;have q:(List.take 2 (S.drop (mkE S (mkE S (mkE S (mkE S (mkE S a+k)+1)+2)+1)))).length=2:=by rw [dG,bN];omega
      cases b;have K:=n (mkE S (mkE S (mkE S (mkE S a+k)+1)+2)+1);have N:=n (mkE S (mkE S (mkE S (mkE S (mkE S a+k)+1)+2)+1)+2);have:=Sm (A:=(mkS (S.drop a),mkS (S.drop (mkE S (mkE S a+k)+1)),mkS (S.drop (mkE S (mkE S (mkE S (mkE S a+k)+1)+2)+1)))) (B:=(mkS (S.drop (mkE S a+k)),mkS (S.drop (mkE S (mkE S (mkE S a+k)+1)+2)),mkS (S.drop (mkE S (mkE S (mkE S (mkE S (mkE S a+k)+1)+2)+1)+2)))) (c _) (c _) (c _) (c _) (c _) (c _);refine ⟨i,by omega,by omega,⟨this.1,this.2.1,this.2.2,λz=>?_,λz=>?_⟩,by omega,E⟩
      ·rw [CP (pI j) (pI q)] at z;omega
      ·rw [CP (pI j) (pI q)] at z;omega
theorem N2 {g l:Bool} {dg:aa} {x q:Int} {m d:aa} {k0 k1 k2:Int} (a:allM k0 k1 k2 (dj m d)=0):chkD g l dg x q m d k0 k1 k2=0\/chkD g l dg x q m d k0 k1 k2=6\/chkD g l dg x q m d k0 k1 k2=7\/chkD g l dg x q m d k0 k1 k2=8:=by
 unfold chkD;rw [a];generalize yrD g l dg x q m=b1;generalize (!(m==[])&&(!(decide (0<sea m))&&!(ii m 12)))=b2;generalize (!(d==[])&&((m==[])||(decide (0<sea m)||!(ii d 31))))=b;cases b1<;>cases b2<;>cases b<;>simp
theorem uY {p:UInt8->Bool}:cV p []:=λc hc=>by cases hc
theorem r40 {p:Nat->Bool} (h:(List.range 40).all p=true) {a:Nat} (b:a<40):p a=true:=(cK.1 h) a (kX.2 b)
theorem Nv (n:Nat) (g l:Bool) (dg:aa) (x q:Int) (m d:aa) (k0 k1 k2:Int) (a:m.length<=18):bj n g l dg x q m d k0 k1 k2=some (if d=[] then (if 0<sea m then 0 else if m=[] then 1 else 2) else 3):=by
 unfold bj;rw [qM n g l dg x q m d k0 k1 k2 a];by_cases b:d=[]
 ·rw [ae b,b];show cond (decide (0<sea m)) _ _=_;rw [bD];by_cases hs:0<sea m
  ·rw [ae hs,ae hs]
  ·rw [ab hs,ab hs];by_cases a:m=[]
   ·rw [ae a,a];rfl
   ·rw [ab a,aK.2 a];rfl
 ·rw [ab b,aK.2 b];rfl
theorem HW (n:Nat) (g l:Bool) (dg:aa) (x q:Int) (m d:aa) (k0 k1 k2:Int) (f:m.length<=18) (h:dg.length<=100) (j:0<=k0) (e:0<=k1) (i:0<=k2):
  db (n+300) g l dg x q m d k0 k1 k2=some (if chkD g l dg x q m d k0 k1 k2=0 then (qI g l dg x q m d k0.toNat k1.toNat k2.toNat,0) else ([],chkD g l dg x q m d k0 k1 k2)):=by
 by_cases hc:chkD g l dg x q m d k0 k1 k2=0
 ·obtain ⟨p,r,a,b,c,o,v,k,s,u,t⟩:=Hr j e i hc;subst o v k s u;exact RI n g l dg p r m d a b c f h
 ·rw [ab hc];unfold db;rw [AY (n+300) (by omega) g l dg _ _ m d _ _ _ f h j e i];show cond (chkD g l dg x q m d k0 k1 k2 != 0) _ _=_;rw [wb,ab hc]
theorem Lj (n:Nat) {g l:Bool} {dg:aa} {x q:Int} {m d:aa} {k0 k1 k2:Int} (k:0<=k0) (h:0<=k1) (j:0<=k2) (hc:chkD g l dg x q m d k0 k1 k2=0):
  fV (n+300) g l dg x q m d k0 k1 k2=some (qI g l dg x q m d k0.toNat k1.toNat k2.toNat):=by
 obtain ⟨s,t,a,b,c,i,r,f,o,p,e⟩:=Hr k h j hc;subst i r f o p;exact IT n e
theorem vW (a b:aa):hasX (a++b)=(hasX a||hasX b):=by unfold hasX;rw [sX]
theorem DK (n:Nat) (g l:Bool) (dg:aa) (x q:Int) (m d:aa) (k0 k1 k2:Int) (b:m.length<=1000) (a:dg.length<=1000) (h:d.length<=1000):
  dV n g l dg x q m d k0 k1 k2=some (hasX dg||(hasX m||hasX d)):=by
 unfold dV;rw [du (by omega)];simp only [ob];rw [du (by simp only [bg];omega)];simp only [ob];rw [CL,vW,vW,Bool.or_assoc]
def Bl (d:aa) (k q:Nat):Nat×Nat:=if 0<q then (val d k / 10 ^ (d.length+k - q)*10 ^ (d.length+k - q),min (val d k / 10 ^ (d.length+k - q)*10 ^ (d.length+k - q)+10 ^ (d.length+k - q) - 1) E16) else (val d k,val d k)
def sgn (g:Bool) (p:Nat×Nat):Int×Int:=if g then (-(p.2:Int),-(p.1:Int)) else ((p.1:Int),(p.2:Int))
theorem Dv (n:Nat) (g l:Bool) (d:aa) (k q:Nat) (E:200<n) (r:d.length<=100) (b:Num d k q):
  aN n g l d (k:Int) (q:Int)=some (sgn g (Bl d k q)):=by
 have D:=b.wide;have hs:=b.small;have B:=b.sig;unfold aN;rw [pH n g l d k q (by omega) (by omega),H9 b.dig,jB n d k b.dig r (by omega) (by omega),ae hs];have z:dval 0 d*10 ^ k=val d k:=rfl;rw [z] at hs ⊢;unfold E16 at hs;have h:((if false=true then (1:Int) else 0)==1)=false:=rfl;simp only [ob,h,af];by_cases j:0<q
 ·have f:decide ((q:Int)>0)=true:=am (by omega);have w0:IntKind.wrap .i64 (IntKind.wrap .i64 (((d.length:Nat):Int)+(k:Int)) - (q:Int))=((d.length+k - q:Nat):Int):=by
   rw [wrap_i64 (((d.length:Nat):Int)+(k:Int)) (by omega) (by omega),wrap_i64 _ (by omega) (by omega)];omega
  have w:10 ^ (d.length+k - q)<=10 ^ 16:=oI (by decide) (by omega);have s:(10:Nat) ^ 16=10000000000000000:=by decide
  have one:dval 0 [49]=1:=by decide
  have a:dval 0 [49]*10 ^ (d.length+k - q)<=E16:=by rw [one];unfold E16;omega
  rw [f,w0,jB n [49] (d.length+k - q) (by decide) (by decide) (by omega) (by simp;omega),ae a,one,xn];simp only [ah];have C:1<=10 ^ (d.length+k - q):=Ar _ _ (by decide);unfold sgn Bl;rw [ae j];clear a;generalize 10 ^ (d.length+k - q)=u at *;generalize val d k=v at *;have d2:(((u:Nat):Int)==0)=false:=aK.2 (by omega);have c:Int.tdiv ((v:Nat):Int) ((u:Nat):Int)=((v / u:Nat):Int):=rfl;have A:v / u*u<=v:=F7 v u;have m:v / u<=v:=E0 v u;have p:IntKind.wrap .i64 ((v / u:Nat):Int)=((v / u:Nat):Int):=by
   generalize v / u=t at *;exact wrap_i64 _ (by omega) (by omega)
  have o:IntKind.wrap .i64 (((v / u:Nat):Int)*((u:Nat):Int))=((v / u*u:Nat):Int):=by
   rw [<-Hu];exact wrap_i64 _ (by omega) (by omega)
  rw [d2,af,c,p,o];generalize v / u*u=lo at *;have x:IntKind.wrap .i64 (IntKind.wrap .i64 (((lo:Nat):Int)+((u:Nat):Int)) - 1)=((lo+u - 1:Nat):Int):=by
   rw [wrap_i64 (((lo:Nat):Int)+((u:Nat):Int)) (by omega) (by omega),wrap_i64 _ (by omega) (by omega)];omega
  rw [x];have e:(cond (decide ((10000000000000000:Int)<((lo+u - 1:Nat):Int))) (10000000000000000:Int) ((lo+u - 1:Nat):Int))=((min (lo+u - 1) E16:Nat):Int):=by
   unfold E16;by_cases i:(10000000000000000:Int)<((lo+u - 1:Nat):Int)
   ·rw [am i,ah];omega
   ·rw [aq i,af];omega
  rw [e];have y:min (lo+u - 1) E16<=10000000000000000:=Nat.min_le_right _ _;generalize min (lo+u - 1) E16=hi at *;cases g with
  | true=>
   simp only [ah,aL];rw [wrap_i64 _ (by omega) (by omega),wrap_i64 _ (by omega) (by omega),zJ,zJ]
  | false=>simp
 ·have f:decide ((q:Int)>0)=false:=aq (by omega);rw [f,af];unfold sgn Bl;rw [ab j];cases g with
  | true=>
   simp only [ah,aL];rw [wrap_i64 _ (by omega) (by omega),zJ]
  | false=>simp
def eO (z:UInt8) (d:aa):aa:=d.map λc=>if c=88 then z else c
theorem jy (z:UInt8) (d:aa):(eO z d).length=d.length:=by simp [eO]
theorem rQ {z:UInt8} (a:bB z=true) {d:aa} (h:∀c∈d,bB c=true\/c=88):∀c∈eO z d,bB c=true:=by
 intro c hc;obtain ⟨b,e,rfl⟩:=eY.1 hc;by_cases hx:b=88
 ·rw [ae hx];exact a
 ·rw [ab hx];exact (h b e).resolve_right hx
theorem yj {z:UInt8} {d:aa} {i:Nat} {c:UInt8} (h:d[i]?=some c):(eO z d)[i]?=some (if c=88 then z else c):=by
 simp [eO,h]
def ul (d:aa):Nat:=10 ^ (d.reverse.takeWhile (λc=>c != 88)).length
def kZ (g:Bool) (d:aa):Nat×Nat:=(if g=true/\dval 0 (eO 48 d)=0 then ul d else dval 0 (eO 48 d),dval 0 (eO 57 d))
theorem TB (m:Nat):aN (m+300) true false [48,48,48,88] 0 0=some (sgn true (kZ true [48,48,48,88])):=by kernel_rfl
theorem Uf (m:Nat):aN (m+300) true false [48,48,88,48] 0 0=some (sgn true (kZ true [48,48,88,48])):=by kernel_rfl
theorem Tc (m:Nat):aN (m+300) true false [48,48,88,88] 0 0=some (sgn true (kZ true [48,48,88,88])):=by kernel_rfl
theorem TV (m:Nat):aN (m+300) true false [48,88,48,48] 0 0=some (sgn true (kZ true [48,88,48,48])):=by kernel_rfl
theorem Tz (m:Nat):aN (m+300) true false [48,88,48,88] 0 0=some (sgn true (kZ true [48,88,48,88])):=by kernel_rfl
theorem Uc (m:Nat):aN (m+300) true false [48,88,88,48] 0 0=some (sgn true (kZ true [48,88,88,48])):=by kernel_rfl
theorem Uh (m:Nat):aN (m+300) true false [48,88,88,88] 0 0=some (sgn true (kZ true [48,88,88,88])):=by kernel_rfl
theorem RX (m:Nat):aN (m+300) true false [88,48,48,48] 0 0=some (sgn true (kZ true [88,48,48,48])):=by kernel_rfl
theorem SG (m:Nat):aN (m+300) true false [88,48,48,88] 0 0=some (sgn true (kZ true [88,48,48,88])):=by kernel_rfl
theorem Ui (m:Nat):aN (m+300) true false [88,48,88,48] 0 0=some (sgn true (kZ true [88,48,88,48])):=by kernel_rfl
theorem PP (m:Nat):aN (m+300) true false [88,48,88,88] 0 0=some (sgn true (kZ true [88,48,88,88])):=by kernel_rfl
theorem OE (m:Nat):aN (m+300) true false [88,88,48,48] 0 0=some (sgn true (kZ true [88,88,48,48])):=by kernel_rfl
theorem OO (m:Nat):aN (m+300) true false [88,88,48,88] 0 0=some (sgn true (kZ true [88,88,48,88])):=by kernel_rfl
theorem Qw (m:Nat):aN (m+300) true false [88,88,88,48] 0 0=some (sgn true (kZ true [88,88,88,48])):=by kernel_rfl
theorem O3 (m:Nat):aN (m+300) true false [88,88,88,88] 0 0=some (sgn true (kZ true [88,88,88,88])):=by kernel_rfl
theorem D5 {d:aa} (l:d.length=4) (h:∀c∈d,bB c=true\/c=88) (k:dval 0 (eO 48 d)=0):∀c∈d,c=48\/c=88:=by
 match d,l with
 | [a,b,c,e],_=>
  have g:=rQ (z:=48) (by decide) h;have i:dval 0 (eO 48 [a,b,c,e])=((((0*10+((if a=88 then (48:UInt8) else a).toNat - 48))*10+((if b=88 then (48:UInt8) else b).toNat - 48))*10+((if c=88 then (48:UInt8) else c).toNat - 48))*10+((if e=88 then (48:UInt8) else e).toNat - 48)):=by
   simp only [eO,gf,List.map_nil,o7,qu,vM]
  rw [i] at k;have key:∀x:UInt8,bB (if x=88 then (48:UInt8) else x)=true->(if x=88 then (48:UInt8) else x).toNat - 48=0->x=48\/x=88:=by
   intro x hx j;by_cases f:x=88
   ·exact .inr f
   ·rw [ab f] at hx j;have:=(cw x).1 hx;exact .inl (gJ.1 (by show x.toNat=48;omega))
  simp only [eO,gf,List.map_nil,cL,tc,uP,Gt,forall_eq] at g ⊢;exact ⟨key a g.1 (by omega),key b g.2.1 (by omega),key c g.2.2.1 (by omega),key e g.2.2.2 (by omega)⟩
theorem zN {d:aa} (z:d.length=4) (h:∀c∈d,c=48\/c=88) (v:hasX d=true) (P:aa->Prop) (t:P [48,48,48,88]) (o:P [48,48,88,48]) (x:P [48,48,88,88]) (l:P [48,88,48,48]) (q:P [48,88,48,88]) (y:P [48,88,88,48]) (r:P [48,88,88,88]) (p:P [88,48,48,48]) (m:P [88,48,48,88]) (w:P [88,48,88,48]) (f:P [88,48,88,88]) (k:P [88,88,48,48]) (i:P [88,88,48,88]) (j:P [88,88,88,48]) (g:P [88,88,88,88]):P d:=by
 match d,z with
 | [a,b,c,e],_=>
  simp only [cL,tc,uP,Gt,forall_eq] at h;obtain ⟨s,u,hc,n⟩:=h;rcases s with rfl | rfl<;>rcases u with rfl | rfl<;>rcases hc with rfl | rfl<;>rcases n with rfl | rfl
  ·exact absurd v (by decide)
  ·exact t
  ·exact o
  ·exact x
  ·exact l
  ·exact q
  ·exact y
  ·exact r
  ·exact p
  ·exact m
  ·exact w
  ·exact f
  ·exact k
  ·exact i
  ·exact j
  ·exact g
theorem FN (n:Nat) (g l:Bool) (d:aa) (x s:Int) (p:d.length=4) (o:4<n):ar (gp n) n ([],[],0,g,l,d,x,s)=some (eO 48 d,eO 57 d,g,l,d,x,s):=by
 refine fO (step:=gp n) (λq=>∃i:Nat,i<=4/\q=((eO 48 d).take i,(eO 57 d).take i,(i:Int),g,l,d,x,s)) (λq=>4 - q.2.2.1.toNat) (λ_=>(eO 48 d,eO 57 d,g,l,d,x,s)) ?_ n _ ⟨0,by omega,by simp⟩ (by simp;omega);rintro q ⟨i,hi,rfl⟩;rcases aH i 4 with k | m
 ·obtain ⟨c,hc⟩:∃c,d[i]?=some c:=⟨d[i],bf (by omega)⟩;have b:=TC (yj (z:=48) hc);have f:=TC (yj (z:=57) hc);have h:decide ((i:Int)<4)=true:=am (by omega);have j:IntKind.wrap .i64 ((i:Int)+1)=((i+1:Nat):Int):=by rw [wrap_i64 _ (by omega) (by omega)];omega
  refine .inl ⟨((eO 48 d).take (i+1),(eO 57 d).take (i+1),((i+1:Nat):Int),g,l,d,x,s),?_,⟨i+1,by omega,rfl⟩,by simp only [cg];omega,rfl⟩;simp only [gp,h,ah,j,ef (show i+1<=d.length by omega),ef (show i<=i+1 by omega),ob,cut1 hc];have a:∀z:UInt8,((eO z d).take i).length<=4:=λz=>by rw [dG];omega
  rw [b,f];by_cases hx:c=88
  ·have e:(([c]:aa)==[88])=true:=by rw [hx];rfl
   rw [e,ah,ae hx,ae hx,du (by have:=a 48;simp;omega),du (by have:=a 57;simp;omega)]
  ·have e:(([c]:aa)==[88])=false:=by
    rw [aK];intro e;exact hx (by simpa using e)
   rw [e,af,ab hx,ab hx,du (by have:=a 48;simp;omega),du (by have:=a 57;simp;omega)]
 ·have:i=4:=by omega
  subst this;refine .inr ?_;rw [jd (by rw [jy];omega),jd (by rw [jy];omega)];rfl
theorem IV {d:aa} (h:d=[48,48,48,48]):dval 0 d=0:=by rw [h];decide
theorem BS (m:Nat) (g:Bool) (d:aa) (h:okY g false d 0 0) (k:hasX d=true):aN (m+300) g false d 0 0=some (sgn g (kZ g d)):=by
 obtain ⟨_,_,_,j,l⟩:=rL h k;by_cases i:g=true/\dval 0 (eO 48 d)=0
 ·obtain ⟨rfl,i⟩:=i;exact zN j (D5 j l i) k (λd=>aN (m+300) true false d 0 0=some (sgn true (kZ true d))) (TB m) (Uf m) (Tc m) (TV m) (Tz m) (Uc m) (Uh m) (RX m) (SG m) (Ui m) (PP m) (OE m) (OO m) (Qw m) (O3 m)
 ·have hs:kZ g d=(dval 0 (eO 48 d),dval 0 (eO 57 d)):=by unfold kZ;rw [ab i]
  have c:=rQ (z:=48) (by decide) l;have f:=rQ (z:=57) (by decide) l;have o:=uZ (eO 48 d) 0 0 c (by simp);have p:=uZ (eO 57 d) 0 0 f (by simp);rw [jy,j] at o p;have r:(10:Nat) ^ (4+0)=10000:=by decide
  have m1:ak (m+300) (eO 48 d) 0=some (((dval 0 (eO 48 d):Nat):Int),1):=by
   have:=jB (m+300) (eO 48 d) 0 c (by rw [jy];omega) (by omega) (by rw [jy];omega);rw [ae (by unfold E16;simp only [A8,rz];omega)] at this;simpa using this
  have m2:ak (m+300) (eO 57 d) 0=some (((dval 0 (eO 57 d):Nat):Int),1):=by
   have:=jB (m+300) (eO 57 d) 0 f (by rw [jy];omega) (by omega) (by rw [jy];omega);rw [ae (by unfold E16;simp only [A8,rz];omega)] at this;simpa using this
  have q:((if true=true then (1:Int) else 0)==1)=true:=rfl;have n:decide ((0:Int)>0)=false:=rfl;unfold aN;rw [pH _ g false d 0 0 (by omega) (by omega),k,FN _ g false d 0 0 j (by omega),hs];simp only [ob,aL,rh,ah];cases g with
  | true=>
   have e:(eO 48 d==([48,48,48,48]:aa))=false:=by
    rw [aK];intro e;exact i ⟨rfl,IV e⟩
   simp only [ah,e,af,m1,m2,n,sgn,aL];generalize dval 0 (eO 48 d)=a at *;generalize dval 0 (eO 57 d)=b at *;rw [wrap_i64 _ (by omega) (by omega),wrap_i64 _ (by omega) (by omega),zJ,zJ]
  | false=>simp only [af,m1,m2,n,sgn,bv,aB]
def qc (g:Bool) (d:aa) (x s:Int):Nat×Nat:=if hasX d then kZ g d else Bl d x.toNat s.toNat
theorem Py (m:Nat) (g l:Bool) (d:aa) (x s:Int) (c:d.length<=100) (h:okY g l d x s):aN (m+300) g l d x s=some (sgn g (qc g d x s)):=by
 unfold qc;cases a:hasX d with
 | true=>
  obtain ⟨rfl,rfl,rfl,f,b⟩:=rL h a;exact BS m g d h a
 | false=>
  obtain ⟨k,q,rfl,rfl,e⟩:=uu h a;exact Dv _ g l d k q (by omega) c e
theorem Ud {d:aa} {k q:Nat} (h:Num d k q):(Bl d k q).1<=val d k/\val d k<=(Bl d k q).2/\(Bl d k q).2<=E16:=by
 have hs:=h.small;have b:dval 0 d*10 ^ k=val d k:=rfl;rw [b] at hs;unfold Bl;split
 ·have a:1<=10 ^ (d.length+k - q):=Ar _ _ (by decide);generalize 10 ^ (d.length+k - q)=u at a ⊢;generalize val d k=v at hs ⊢;have c:=F7 v u;have e:v<v / u*u+u:=by
   have h:=Nat.div_add_mod v u;have:=A7 v a;rw [u0] at h;omega
  refine ⟨c,?_,Nat.min_le_right _ _⟩;rw [Nat.le_min];omega
 ·exact ⟨aY _,aY _,hs⟩
def mtk (d:aa):Nat->Nat->Bool
 | 0,_=>true
 | k+1,w=>(decide (d.getD k 0=88)||decide ((d.getD k 0).toNat=48+w%10))&&mtk d k (w / 10)
theorem Ai (d:aa) (k w:Nat):mtk d (k+1) w=((decide (d.getD k 0=88)||decide ((d.getD k 0).toNat=48+w%10))&&mtk d k (w / 10)):=rfl
theorem Aw {d:aa} {k:Nat} {c:UInt8} (h:d[k]?=some c):d.getD k 0=c:=by
 rw [DU,h];rfl
theorem JV (n:Nat) (g l:Bool) (d:aa) (x s:Int) (A:d.length=4):∀(k w:Nat),k<=4->w<100000000000000000->∀q,k<q->
  ar (bU n) q ((w:Int),(k:Int) - 1,g,l,d,x,s)=some (if mtk d k w=true then .inr ((w / 10 ^ k:Nat):Int) else .inl 0)
 | 0,w,r,v,q,y=>by
  obtain ⟨q,rfl⟩:∃p,q=p+1:=⟨q - 1,by omega⟩;have f:decide (((0:Nat):Int) - 1>=0)=false:=rfl;have b:mtk d 0 w=true:=rfl;simp only [ar,bU,f,af];rw [ae b];simp
 | k+1,w,r,v,q,y=>by
  obtain ⟨q,rfl⟩:∃p,q=p+1:=⟨q - 1,by omega⟩;have ih:=JV n g l d x s A k (w / 10) (by omega) (by omega) q (by omega);obtain ⟨c,hc⟩:∃c,d[k]?=some c:=⟨d[k],bf (by omega)⟩;have m:((k+1:Nat):Int) - 1=(k:Int):=by omega
  have f:decide ((k:Int)>=0)=true:=am (by omega);have B:Int.tmod (w:Int) 10=((w%10:Nat):Int):=rfl;have eq':Int.tdiv (w:Int) 10=((w / 10:Nat):Int):=rfl;have u:IntKind.wrap .i64 (48+((w%10:Nat):Int))=((48+w%10:Nat):Int):=by rw [wrap_i64 _ (by omega) (by omega)];omega
  have t:IntKind.wrap .u8 ((48+w%10:Nat):Int)=((48+w%10:Nat):Int):=kz _ (by omega) (by omega);have z:IntKind.wrap .i64 ((w / 10:Nat):Int)=((w / 10:Nat):Int):=wrap_i64 _ (by omega) (by omega);have o:IntKind.wrap .i64 ((k:Int) - 1)=(k:Int) - 1:=wrap_i64 _ (by omega) (by omega);have a:w / 10 ^ (k+1)=w / 10 / 10 ^ k:=by rw [tq,u0,Nat.div_div_eq_div_mul]
  rw [Ai,Aw hc,a,m];simp only [ar,bU,f,ah,dI hc,ob,B,eq',u,t,z,o];by_cases hx:c=88
  ·have h:(((c.toNat:Nat):Int) != 88)=false:=by rw [hx];rfl
   rw [h,am hx];simp only [af,GF,om];exact ih
  ·have h:(((c.toNat:Nat):Int) != 88)=true:=by
    simp only [bne,lz,aK];intro e;exact hx (gJ.1 (by show c.toNat=88;omega))
   rw [h,aq hx];simp only [ah,pf];by_cases i:c.toNat=48+w%10
   ·have j:(((c.toNat:Nat):Int) != ((48+w%10:Nat):Int))=false:=by rw [i];simp
    rw [j,am i];simp only [af,om];exact ih
   ·have j:(((c.toNat:Nat):Int) != ((48+w%10:Nat):Int))=true:=by
     simp only [bne,lz,aK];omega
    rw [j,aq i];simp only [ah,yd];rfl
def FT (d:aa) (k q:Nat):Nat:=if 0<q then 10 ^ (d.length+k - q) else 1
def memP (d:aa) (x s:Int) (w:Nat):Prop:=if hasX d=true then mtk d 4 w=true/\w / 10 ^ 4=0 else val d x.toNat / FT d x.toNat s.toNat=w / FT d x.toNat s.toNat
instance (d:aa) (x s:Int) (w:Nat):Decidable (memP d x s w):=by unfold memP;infer_instance
def wOf (g:Bool) (v:Int):Int:=if g then -v else v
def inP (g:Bool) (d:aa) (x s v:Int):Prop:=-10000000000000000<=v/\v<=10000000000000000/\0<=wOf g v/\¬(hasX d=true/\g=true/\wOf g v=0)/\memP d x s (wOf g v).toNat
instance (g:Bool) (d:aa) (x s v:Int):Decidable (inP g d x s v):=by unfold inP;infer_instance
noncomputable def inT (n:Nat) (a0 a1:Bool) (a2:aa) (h g W:Int):Option Int:=
 (ob (aF n a0 a1 a2 h g) λf=>(cond (f==1) (ob (ar (bU n) n (W,3,a0,a1,a2,h,g)) λd=>(Sum.casesOn (motive:=λ_=>Option _) d (λc=>(some c)) (λe=>(cond (decide (e>0)) (some 0) (some 1))))) (ob (ak n a2 h) λb=>(cond (decide (g>0)) (ob (ak n [49] (IntKind.wrap .i64 ((IntKind.wrap .i64 (((List.length a2:Nat):Int)+h)) - g))) λa=>(cond (a.1==0) none (cond (a.1==0) none (cond ((IntKind.wrap .i64 (Int.tdiv b.1 a.1))==(IntKind.wrap .i64 (Int.tdiv W a.1))) (some 1) (some 0))))) (cond ((IntKind.wrap .i64 (Int.tdiv b.1 1))==(IntKind.wrap .i64 (Int.tdiv W 1))) (some 1) (some 0))))))
theorem Oo (a b:Nat):(((a:Nat):Int)==((b:Nat):Int))=decide (a=b):=by
 by_cases h:a=b
 ·subst h;simp
 ·rw [aq h,aK];omega
theorem Hh {d:aa} {x s:Int} {w:Nat} (a:hasX d=true):memP d x s w↔mtk d 4 w=true/\w / 10 ^ 4=0:=by unfold memP;rw [ae a]
theorem Ri {d:aa} {x s:Int} {w:Nat} (a:hasX d=false):memP d x s w↔val d x.toNat / FT d x.toNat s.toNat=w / FT d x.toNat s.toNat:=by unfold memP;rw [ab (by rw [a];simp)]
theorem in_T (m:Nat) {g l:Bool} {d:aa} {x s:Int} (j:okY g l d x s) (w:Nat) (S:w<=10000000000000000):inT (m+300) g l d x s (w:Int)=some (if memP d x s w then 1 else 0):=by
 have K:=kg j;have G:=pH (m+300) g l d x s (by omega) (by omega);unfold inT;cases i:hasX d with
 | true=>
  obtain ⟨rfl,rfl,rfl,Q,_⟩:=rL j i;have B:=JV (m+300) g false d 0 0 Q 4 w (by omega) (by omega) (m+300) (by omega);have hlp':ar (bU (m+300)) (m+300) ((w:Int),3,g,false,d,0,0)=_:=B;have F:((1:Int)==1)=true:=rfl;have o:aF (m+300) g false d 0 0=some 1:=by rw [G,i];rfl
  rw [o];simp only [ob,F,ah,hlp'];by_cases y:mtk d 4 w=true
  ·rw [ae y];by_cases A:w / 10 ^ 4=0
   ·have e:decide (((w / 10 ^ 4:Nat):Int)>0)=false:=aq (by rw [A];decide);rw [ae ((Hh i).2 ⟨y,A⟩)];simp only [e,af]
   ·have e:decide (((w / 10 ^ 4:Nat):Int)>0)=true:=am (by
     generalize w / 10 ^ 4=t at A ⊢;omega)
    rw [ab (λq=>A ((Hh i).1 q).2)];simp only [e,ah]
  ·rw [ab y,ab (λq=>y ((Hh i).1 q).1)]
 | false=>
  obtain ⟨k,q,rfl,rfl,z⟩:=uu j i;have hw':=z.wide;have hs:=z.small;have R:=z.sig;have J:dval 0 d*10 ^ k=val d k:=rfl;have H:=jB (m+300) d k z.dig (by omega) (by omega) (by omega);rw [ae hs,J] at H;rw [J] at hs;unfold E16 at hs;have E:((0:Int)==1)=false:=rfl;have o:aF (m+300) g l d k q=some 0:=by rw [G,i];rfl
  have c:=Ri (x:=(k:Int)) (s:=(q:Int)) (w:=w) i;rw [cg,cg] at c;unfold FT at c;rw [o];simp only [ob,E,af,H];by_cases I:0<q
  ·have C:decide ((q:Int)>0)=true:=am (by omega);have w0:IntKind.wrap .i64 (IntKind.wrap .i64 (((d.length:Nat):Int)+(k:Int)) - (q:Int))=((d.length+k - q:Nat):Int):=by
    rw [wrap_i64 (((d.length:Nat):Int)+(k:Int)) (by omega) (by omega),wrap_i64 _ (by omega) (by omega)];omega
   have D:10 ^ (d.length+k - q)<=10 ^ 16:=oI (by decide) (by omega);have N:(10:Nat) ^ 16=10000000000000000:=by decide
   have one:dval 0 [49]=1:=by decide
   have h:dval 0 [49]*10 ^ (d.length+k - q)<=E16:=by rw [one];unfold E16;omega
   have n:=jB (m+300) [49] (d.length+k - q) (by decide) (by decide) (by omega) (by simp;omega);rw [ae h,one,xn] at n;have L:1<=10 ^ (d.length+k - q):=Ar _ _ (by decide);rw [C,w0,n];rw [ae I] at c;clear h n;generalize 10 ^ (d.length+k - q)=u at L D c ⊢;generalize val d k=v at hs c ⊢;have d2:(((u:Nat):Int)==0)=false:=aK.2 (by omega);have r:Int.tdiv ((v:Nat):Int) ((u:Nat):Int)=((v / u:Nat):Int):=rfl;have p:Int.tdiv ((w:Nat):Int) ((u:Nat):Int)=((w / u:Nat):Int):=rfl;have M:v / u<=v:=E0 v u;have O:w / u<=w:=E0 w u;simp only [ah,d2,af,r,p];generalize v / u=a at M c ⊢;generalize w / u=b at O c ⊢;rw [wrap_i64 _ (by omega) (by omega),wrap_i64 _ (by omega) (by omega),Oo];by_cases f:a=b
   ·rw [am f,ae (c.2 f)];rfl
   ·rw [aq f,ab (λq=>f (c.1 q))];rfl
  ·have C:decide ((q:Int)>0)=false:=aq (by omega);have P:∀a:Nat,Int.tdiv ((a:Nat):Int) 1=((a:Nat):Int):=λa=>by
    have:Int.tdiv ((a:Nat):Int) 1=((a / 1:Nat):Int):=rfl;rw [this,tG]
   rw [ab I,tG,tG] at c;rw [C];simp only [af,P];rw [wrap_i64 _ (by omega) (by omega),wrap_i64 _ (by omega) (by omega),Oo];by_cases f:val d k=w
   ·rw [am f,ae (c.2 f)];rfl
   ·rw [aq f,ab (λq=>f (c.1 q))];rfl
theorem UH (m:Nat) {g l:Bool} {d:aa} {x s:Int} (n:okY g l d x s) (v:Int):nD (m+300) g l d x s v=some (if inP g d x s v then 1 else 0):=by
 have y:=kg n;have a:=λw o=>in_T m n w o;have p:=pH (m+300) g l d x s (by omega) (by omega);unfold inT at a;unfold nD;by_cases t:v < -10000000000000000
 ·rw [am t,ab (λq=>by have:=q.1;omega)];rfl
 ·rw [aq t,af];by_cases u:v>10000000000000000
  ·rw [am u,ab (λq=>by have:=q.2.1;omega)];rfl
  ·rw [aq u,af];cases g with
   | true=>
    have w0:IntKind.wrap .i64 (0 - v)=-v:=by rw [wrap_i64 _ (by omega) (by omega)];omega
    simp only [ah,w0];by_cases k:-v<0
    ·rw [am k,ab (λq=>by have:=q.2.2.1;unfold wOf at this;simp only [aL] at this;omega)];rfl
    ·rw [aq k,af];obtain ⟨w,o⟩:∃w:Nat,-v=(w:Int):=⟨(-v).toNat,by omega⟩;have a:=a w (by omega);have h:wOf true v=(w:Int):=by unfold wOf;simpa using o
     have c:¬(hasX d=true/\w=0)->(inP true d x s v↔memP d x s w):=by
      intro r;unfold inP;rw [h,cg];constructor
      ·exact λq=>q.2.2.2.2
      ·exact λq=>⟨by omega,by omega,by omega,λq=>r ⟨q.1,by omega⟩,q⟩
     rw [o];cases i:hasX d with
     | true=>
      have b:aF (m+300) true l d x s=some 1:=by rw [p,i];rfl
      rw [b];have f:((1:Int)==1)=true:=rfl;simp only [ob,f,ah];by_cases r:w=0
      ·have e:(((w:Nat):Int)==0)=true:=bI.2 (by omega);rw [e,ab (λq=>q.2.2.2.1 ⟨i,rfl,by rw [h];omega⟩)];rfl
      ·have e:(((w:Nat):Int)==0)=false:=aK.2 (by omega);rw [b] at a;simp only [ob,f,ah] at a;rw [e,af,a];have:=c (λq=>r q.2);by_cases hp:memP d x s w
       ·rw [ae hp,ae (this.2 hp)]
       ·rw [ab hp,ab (λq=>hp (this.1 q))]
     | false=>
      have b:aF (m+300) true l d x s=some 0:=by rw [p,i];rfl
      have j:((0:Int)==1)=false:=rfl;rw [b] at a ⊢;simp only [ob,j,af] at a ⊢;rw [a];have:=c (λq=>by rw [i] at q;cases q.1);by_cases hp:memP d x s w
      ·rw [ae hp,ae (this.2 hp)]
      ·rw [ab hp,ab (λq=>hp (this.1 q))]
   | false=>
    simp only [af];by_cases k:v<0
    ·rw [am k,ab (λq=>by have:=q.2.2.1;unfold wOf at this;simp only [bv,aB] at this;omega)];rfl
    ·rw [aq k,af];obtain ⟨w,rfl⟩:∃w:Nat,v=(w:Int):=⟨v.toNat,by omega⟩;have a:=a w (by omega);have h:wOf false (w:Int)=(w:Int):=rfl;have c:inP false d x s (w:Int)↔memP d x s w:=by
      unfold inP;rw [h,cg];constructor
      ·exact λq=>q.2.2.2.2
      ·exact λq=>⟨by omega,by omega,by omega,λq=>(by cases q.2.1),q⟩
     cases i:hasX d with
     | true=>
      have b:aF (m+300) false l d x s=some 1:=by rw [p,i];rfl
      rw [b] at a ⊢;have f:((1:Int)==1)=true:=rfl;simp only [ob,f,ah] at a ⊢;rw [a];by_cases hp:memP d x s w
      ·rw [ae hp,ae (c.2 hp)]
      ·rw [ab hp,ab (λq=>hp (c.1 q))]
     | false=>
      have b:aF (m+300) false l d x s=some 0:=by rw [p,i];rfl
      rw [b] at a ⊢;have j:((0:Int)==1)=false:=rfl;simp only [ob,j,af] at a ⊢;rw [a];by_cases hp:memP d x s w
      ·rw [ae hp,ae (c.2 hp)]
      ·rw [ab hp,ab (λq=>hp (c.1 q))]
def loK (d:aa) (k:Nat):Nat:=dval 0 ((eO 48 d).take k)
def hiK (d:aa) (k:Nat):Nat:=dval 0 ((eO 57 d).take k)
theorem wT (z:UInt8) {d:aa} {k:Nat} {c:UInt8} (h:d[k]?=some c):dval 0 ((eO z d).take (k+1))=dval 0 ((eO z d).take k)*10+((if c=88 then z else c).toNat - 48):=by
 rw [TC (yj h),HE]
theorem C3 (d:aa) (j:d.length=4) (h:∀c∈d,bB c=true\/c=88):∀(k w:Nat),k<=4->w<10 ^ k->mtk d k w=true->loK d k<=w/\w<=hiK d k
 | 0,w,g,b,a=>by
  simp at b;subst b;simp [loK,hiK,qu]
 | k+1,w,g,b,a=>by
  obtain ⟨c,hc⟩:∃c,d[k]?=some c:=⟨d[k],bf (by omega)⟩;rw [Ai,Aw hc,aA,iV,cn,cn] at a;have hp:(10:Nat) ^ (k+1)=10 ^ k*10:=tq 10 k;have ih:=C3 d j h k (w / 10) (by omega) (by omega) a.2;have e:=wT 48 hc;have i:=wT 57 hc;unfold loK hiK at ih ⊢;rw [e,i];by_cases hx:c=88
  ·rw [ae hx,ae hx];have f:(48:UInt8).toNat - 48=0:=rfl;have l:(57:UInt8).toNat - 48=9:=rfl;rw [f,l];omega
  ·rw [ab hx,ab hx];have:=a.1.resolve_left hx;omega
theorem A5 (z:UInt8) (h:bB z=true) (d:aa) (l:d.length=4) (f:∀c∈d,bB c=true\/c=88):∀k,k<=4->mtk d k (dval 0 ((eO z d).take k))=true
 | 0,_=>rfl
 | k+1,n=>by
  obtain ⟨c,hc⟩:∃c,d[k]?=some c:=⟨d[k],bf (by omega)⟩;have ih:=A5 z h d l f k (by omega);have e:bB (if c=88 then z else c)=true:=by
   by_cases hx:c=88
   ·rw [ae hx];exact h
   ·rw [ab hx];exact (f c (gM hc)).resolve_right hx
  have j:=(cw _).1 e;rw [Ai,Aw hc,wT z hc];generalize g:(if c=88 then z else c)=b at j ⊢;generalize dval 0 ((eO z d).take k)=a at ih ⊢;have i:(a*10+(b.toNat - 48)) / 10=a:=by omega
  have m:(a*10+(b.toNat - 48))%10=b.toNat - 48:=by omega
  rw [i,m,ih,CW];by_cases hx:c=88
  ·rw [am hx];rfl
  ·rw [ab hx] at g;rw [g,am (show b.toNat=48+(b.toNat - 48) by omega),Bool.or_true]
def BF:List (aa):=[[48,48,48,88],[48,48,88,48],[48,48,88,88],[48,88,48,48],[48,88,48,88],[48,88,88,48],[48,88,88,88],[88,48,48,48],[88,48,48,88],[88,48,88,48],[88,48,88,88],[88,88,48,48],[88,88,48,88],[88,88,88,48],[88,88,88,88]]
theorem XB:BF.all (λd=>mtk d 4 (ul d)&&decide (1<=ul d)&&decide (ul d<=1000)&&(List.range 1000).all (λw=>decide (w=0)||!mtk d 4 w||decide (ul d<=w)))=true:=by decide +kernel
theorem Ef {d:aa} (g:d∈BF):mtk d 4 (ul d)=true/\1<=ul d/\ul d<=1000/\∀w,1<=w->mtk d 4 w=true->ul d<=w:=by
 have h:=cK.1 XB d g;simp only [aA,cn,cK,kX,iV,lz] at h;obtain ⟨⟨⟨c,i⟩,b⟩,f⟩:=h;refine ⟨c,i,b,λw k e=>?_⟩;rcases aH w 1000 with a | j
 ·rcases f w a with (h | h) | h
  ·omega
  ·rw [e] at h;cases h
  ·exact h
 ·omega
theorem Ej {d:aa} (a:d.length=4) (b:∀c∈d,bB c=true\/c=88) (e:hasX d=true) (f:dval 0 (eO 48 d)=0):d∈BF:=
 zN a (D5 a b f) e (λd=>d∈BF) (by decide) (by decide) (by decide) (by decide) (by decide) (by decide) (by decide) (by decide) (by decide) (by decide) (by decide) (by decide) (by decide) (by decide) (by decide)
theorem Um {d:aa} (a:d.length=4):loK d 4=dval 0 (eO 48 d):=by
 unfold loK;rw [jd (by rw [jy];omega)]
theorem RH {d:aa} (a:d.length=4):hiK d 4=dval 0 (eO 57 d):=by
 unfold hiK;rw [jd (by rw [jy];omega)]
theorem Pi {g:Bool} {d:aa} (b:d.length=4) (e:∀c∈d,bB c=true\/c=88) (q:hasX d=true):
  (kZ g d).1<10000/\(kZ g d).2<10000/\mtk d 4 (kZ g d).1=true/\mtk d 4 (kZ g d).2=true/\1<=(kZ g d).2/\(g=true->1<=(kZ g d).1)/\∀w,w<10000->mtk d 4 w=true->(g=true->1<=w)->(kZ g d).1<=w/\w<=(kZ g d).2:=by
 have r:(10:Nat) ^ 4=10000:=by decide
 have n:=rQ (z:=48) (by decide) e;have p:=rQ (z:=57) (by decide) e;have b1:=uZ (eO 48 d) 0 0 n (by simp);have b2:=uZ (eO 57 d) 0 0 p (by simp);rw [jy,b,cP,r] at b1 b2;have m1:=A5 48 (by decide) d b e 4 (by omega);have m2:=A5 57 (by decide) d b e 4 (by omega);rw [jd (by rw [jy];omega)] at m1 m2;have m:∀w,w<10000->mtk d 4 w=true->dval 0 (eO 48 d)<=w/\w<=dval 0 (eO 57 d):=λw k h=>by
  have:=C3 d b e 4 w (by omega) (by omega) h;rw [Um b,RH b] at this;exact this
 have j:1<=dval 0 (eO 57 d):=by
  rcases Bj (dval 0 (eO 57 d)) with i | i
  ·exfalso;have f:dval 0 (eO 48 d)=0:=by
    have:=(m _ b1 m1).2;omega
   have o:=Ej b e q f;have a:=Ef o;have:=(m _ (by omega) a.1).2;omega
  ·exact i
 unfold kZ;by_cases f:g=true/\dval 0 (eO 48 d)=0
 ·rw [ae f];have a:=Ef (Ej b e q f.2);refine ⟨by simp only;omega,b2,a.1,m2,j,λ_=>a.2.1,λw k h l=>⟨a.2.2.2 w (l f.1) h,(m w k h).2⟩⟩
 ·rw [ab f];refine ⟨b1,b2,m1,m2,j,λl=>?_,λw k h l=>m w k h⟩;simp only;rcases Bj (dval 0 (eO 48 d)) with i | i
  ·exact absurd ⟨l,i⟩ f
  ·exact i
theorem Qa {g l:Bool} {d:aa} {x s:Int} (e:okY g l d x s):(qc g d x s).1<=10000000000000000/\(qc g d x s).2<=10000000000000000/\memP d x s (qc g d x s).1/\memP d x s (qc g d x s).2/\(hasX d=true->1<=(qc g d x s).2/\(g=true->1<=(qc g d x s).1))/\
  ∀w,w<=10000000000000000->memP d x s w->(hasX d=true->g=true->1<=w)->(qc g d x s).1<=w/\w<=(qc g d x s).2:=by
 unfold qc memP;cases p:hasX d with
 | true=>
  obtain ⟨rfl,rfl,rfl,H,E⟩:=rL e p;obtain ⟨F,G,J,K,O,N,C⟩:=Pi (g:=g) H E p;have D:(10:Nat) ^ 4=10000:=by decide
  simp only [aL,D];refine ⟨by omega,by omega,⟨J,Nat.div_eq_of_lt F⟩,⟨K,Nat.div_eq_of_lt G⟩,λ_=>⟨O,N⟩,λw z j I=>C w (by omega) j.1 (I trivial)⟩
 | false=>
  obtain ⟨k,q,rfl,rfl,A⟩:=uu e p;have hs:=A.small;have M:dval 0 d*10 ^ k=val d k:=rfl;rw [M] at hs;obtain ⟨c,f,b⟩:=Ud A;unfold E16 at b;simp only [bv,aB,cg];unfold FT;unfold Bl at c f b ⊢;by_cases m:0<q
  ·rw [ae m] at c f b ⊢;rw [ae m];have y:1<=10 ^ (d.length+k - q):=Ar _ _ (by decide);generalize 10 ^ (d.length+k - q)=u at *;generalize val d k=v at *;simp only at c f b ⊢;have i:v / u*u / u=v / u:=Nat.mul_div_cancel _ y;have o:∀w,v / u*u<=w->w<v / u*u+u->w / u=v / u:=by
    intro w t r;apply Nat.div_eq_of_lt_le
    ·exact t
    ·rw [Nat.succ_mul];exact r
   have a:∀w,v / u=w / u->v / u*u<=w/\w<v / u*u+u:=by
    intro w h;rw [h];have t:=F7 w u;have r:=Nat.div_add_mod w u;have P:=A7 w y;rw [u0] at r;omega
   have B:min (v / u*u+u - 1) E16<=v / u*u+u - 1:=Nat.min_le_left _ _;have n:=a v rfl;refine ⟨by omega,b,i.symm,(o _ (by omega) (by omega)).symm,λq=>(by cases q),λw z j _=>?_⟩;obtain ⟨L,Q⟩:=a w j;refine ⟨L,?_⟩;rw [Nat.le_min];unfold E16;omega
  ·rw [ab m] at c f b ⊢;rw [ab m];simp only [tG] at c f b ⊢;refine ⟨b,b,trivial,trivial,λq=>(by cases q),λw z j _=>by omega⟩
theorem LK {g l:Bool} {d:aa} {x s:Int} (i:okY g l d x s):inP g d x s (sgn g (qc g d x s)).1/\inP g d x s (sgn g (qc g d x s)).2/\∀v,inP g d x s v->(sgn g (qc g d x s)).1<=v/\v<=(sgn g (qc g d x s)).2:=by
 obtain ⟨j,k,m,n,w,r⟩:=Qa i;generalize qc g d x s=C at *;obtain ⟨lo,hi⟩:=C;simp only at j k m n w r;cases g with
 | true=>
  have b:∀a:Nat,wOf true (-(a:Int))=(a:Int):=λa=>by unfold wOf;simp
  have mk:∀a:Nat,a<=10000000000000000->memP d x s a->(hasX d=true->1<=a)->inP true d x s (-(a:Int)):=by
   intro a z u y;refine ⟨by omega,by omega,by rw [b];omega,λq=>?_,by rw [b,cg];exact u⟩;have:=y q.1;have A:=q.2.2;rw [b] at A;omega
  simp only [sgn,aL];refine ⟨mk hi k n (λh=>(w h).1),mk lo j m (λh=>(w h).2 rfl),λv p=>?_⟩;obtain ⟨D,B,t,o,c⟩:=p;have f:wOf true v=-v:=rfl;rw [f] at t o c
  have:=r (-v).toNat (by omega) c (λhx _=>by
   have:¬-v=0:=λe=>o ⟨hx,rfl,e⟩;omega)
  omega
 | false=>
  have b:∀a:Int,wOf false a=a:=λa=>rfl;have mk:∀a:Nat,a<=10000000000000000->memP d x s a->inP false d x s (a:Int):=by
   intro a z u;exact ⟨by omega,by omega,by rw [b];omega,λq=>(by cases q.2.1),by rw [b,cg];exact u⟩
  simp only [sgn,bv,aB];refine ⟨mk lo j m,mk hi k n,λv p=>?_⟩;obtain ⟨D,B,t,o,c⟩:=p;rw [b] at t c;have:=r v.toNat (by omega) c (λ_ q=>by cases q);omega
end Go.Sh
namespace Go.Sh.Mk
open Go.Abs
def okB (c:UInt8):Bool:=c.toNat==88||(decide (48<=c.toNat)&&decide (c.toNat<=57))
def chk (s:aa):Int:=if 18<s.length then 3 else if s.all okB then (if s=[] then 5 else 0) else 5
theorem vN (n:Nat) (s0 s:aa) (u:s.length+1<n):
  ar (i7 n) n (s0,s,0)=some (if s.all okB then .inr s0 else .inl 5):=by
 have:=fO (step:=i7 n) (λx=>x.1=s0/\x.2.1=s/\x.2.2<=s.length) (λx=>s.length - x.2.2)
  (λx=>if (s.drop x.2.2).all okB then .inr s0 else .inl 5) ?_ n (s0,s,0) ⟨rfl,rfl,ft _⟩ (by simp;omega)
 ·simpa using this
 rintro ⟨a,b,i⟩ ⟨rfl,rfl,hi⟩;simp only at hi ⊢;rcases aH i b.length with l | o
 ·obtain ⟨c,hc⟩:∃c,b[i]?=some c:=⟨b[i],bf l⟩;have m:Nat.blt i b.length=true:=cT l;rw [bX hc,mY];simp only [i7,m,ah];by_cases k:c.toNat<128
  ·rw [AZ hc k];by_cases g:c.toNat=88
   ·refine .inl ⟨(a,b,i+1),by simp [g],⟨rfl,rfl,by simp only;omega⟩,by simp only;omega,?_⟩;simp [okB,g]
   ·by_cases q:c.toNat<48
    ·refine .inr ?_;have f:(((c.toNat:Nat):Int) != 88)=true:=by simp;omega
     have e:(decide (((c.toNat:Nat):Int)<48))=true:=by simp;omega
     have d:okB c=false:=by simp [okB];omega
     simp [f,e,d]
    ·by_cases p:57<c.toNat
     ·refine .inr ?_;have f:(((c.toNat:Nat):Int) != 88)=true:=by simp;omega
      have e:(decide (((c.toNat:Nat):Int)<48))=false:=by simp;omega
      have j:(decide (((c.toNat:Nat):Int)>57))=true:=by simp;omega
      have d:okB c=false:=by simp [okB];omega
      simp [f,e,d,j]
     ·have f:(((c.toNat:Nat):Int) != 88)=true:=by simp;omega
      have e:(decide (((c.toNat:Nat):Int)<48))=false:=by simp;omega
      have j:(decide (((c.toNat:Nat):Int)>57))=false:=by simp;omega
      have d:okB c=true:=by simp [okB];omega
      refine .inl ⟨(a,b,i+1),by simp only [f,e,j,ah,af],⟨rfl,rfl,by simp only;omega⟩,by simp only;omega,?_⟩;simp [d]
  ·obtain ⟨r,t⟩:=GT hc (by omega);refine .inr ?_;have f:((((dec b i).1:Nat):Int) != 88)=true:=by simp;omega
   have e:(decide ((((dec b i).1:Nat):Int)<48))=false:=by simp;omega
   have j:(decide ((((dec b i).1:Nat):Int)>57))=true:=by simp;omega
   have d:okB c=false:=by simp [okB];omega
   simp [f,e,d,j]
 ·have m:Nat.blt i b.length=false:=by
   cases h:Nat.blt i b.length with
   | false=>rfl
   | true=>have:i<b.length:=aJ h;omega
  refine .inr ?_;simp only [i7,m,af];rw [js o];rfl
theorem mr (n:Nat) (s:aa) (b:30<=n):kv n s=some (chk s):=by
 unfold kv chk;by_cases h:18<s.length
 ·have:(decide (((List.length s:Nat):Int)>18))=true:=by simp;omega
  simp [this,h]
 ·have e:(decide (((List.length s:Nat):Int)>18))=false:=by simp;omega
  simp only [e,af,h,aB];rw [vN n s s (by omega)];by_cases a:s.all okB=true
  ·simp only [a,aL,ob];by_cases hs:s=[]
   ·simp [hs]
   ·have:(s==([]:aa))=false:=by simpa using hs
    simp [this,hs]
  ·simp [a,ob]
theorem n6 {s:aa} (h:chk s=0):s.length<=18/\s≠[]/\∀c∈s,okB c=true:=by
 unfold chk at h;split at h
 ·simp at h
 ·split at h
  ·rename_i a;split at h
   ·simp at h
   ·rename_i hs;exact ⟨by omega,hs,by simpa using a⟩
  ·simp at h
def nums (l:aa):List Int:=l.map λb=>((b.toNat:Nat):Int)
def over (d:List Int) (i:Nat) (l:List Int):List Int:=d.take i++(l++d.drop (i+l.length))
theorem BQ (d:List Int) (i:Nat) (x:Int) (l:List Int) (h:i<d.length):over (d.set i x) (i+1) l=over d i (x::l):=by
 unfold over;rw [show (d.set i x).take (i+1)=d.take i++[x] from by
  rw [Lm (by simpa using h)];simp [List.take_set_of_le]]
 rw [List.drop_set_of_lt (by omega)];simp [iP,qY 1]
theorem GR (d:List Int) (i:Nat):over d i []=d:=by simp [over]
theorem QI (d:List Int) (i:Nat) (l:List Int) (h:i+l.length<=d.length):(over d i l).length=d.length:=by
 unfold over;simp;omega
theorem QH {x y:UInt8}:(((x.toNat:Nat):Int)==((y.toNat:Nat):Int))=decide (x=y):=by
 by_cases h:x=y
 ·simp [h]
 ·have:x.toNat≠y.toNat:=λe=>h (gJ.1 e);simp [h];omega
theorem BN {x:UInt8}:(((x.toNat:Nat):Int)==88)=decide (x=88):=by
 have:=QH (x:=x) (y:=88);simpa using this
def dg:Nat->Int->List Int
 | 0,_=>[]
 | L+1,k=>dg L (k / 10)++[48+k%10]
theorem wy:∀(L:Nat) (k:Int),(dg L k).length=L
 | 0,_=>rfl
 | L+1,k=>by simp [dg,wy L]
theorem tR:∀(L:Nat) (k:Int),∀x∈dg L k,48<=x/\x<58
 | 0,_,x,h=>by simp [dg] at h
 | L+1,k,x,h=>by
  simp only [dg,nO,n9] at h;rcases h with h | rfl
  ·exact tR L _ x h
  ·omega
def jG:aa->List Int->Bool
 | c::m,d::l=>(c==88||decide (((c.toNat:Nat):Int)=d))&&jG m l
 | _,_=>true
theorem vB:∀{a c:aa} {b d:List Int},a.length=b.length->jG (a++c) (b++d)=(jG a b&&jG c d)
 | [],c,[],d,_=>by simp [jG]
 | x::a,c,y::b,d,h=>by
  simp only [aE,xm] at h;simp only [fg,jG,vB h,Bool.and_assoc]
def hasM (m:aa) (k:Int):Bool:=decide (0<=k)&&(decide (k<10 ^ m.length)&&jG m (dg m.length k))
theorem O8 (L:Nat) (h:L<=18):ql 20000000 ((L:Nat):Int)=some (10 ^ L):=by
 have b:allN (λi=>match ql 20000000 ((i:Nat):Int) with | some r=>decide (r=10 ^ i) | none=>false) 19=true:=by kernel_rfl
 have:=Fz b L (by omega);split at this
 ·rename_i r a;rw [a];simpa using this
 ·cases this
theorem Dp (L:Nat) (h:L<=18):(10:Int) ^ L<=1000000000000000000:=by
 have a:allN (λi=>decide ((10:Int) ^ i<=1000000000000000000)) 19=true:=by kernel_rfl
 simpa using Fz a L (by omega)
theorem VU {k:Int} (h:0<=k):Int.tmod k 10=k%10:=LE h
theorem Xe {k:Int} (h:0<=k):Int.tdiv k 10=k / 10:=Q8 h
theorem JC (k:Int) (i:Nat) (d:List Int) (a:0<=k) (c:k<9223372036854775808) (hi:i<=18) (b:d.length=18):
  ar (jc 20000000) 20000000 (k,(i:Int) - 1,d)=some (over d 0 (dg i k)):=by
 have:=fO (step:=jc 20000000) (λx=>(0<=x.1/\x.1<9223372036854775808)/\(-1<=x.2.1/\x.2.1<=17)/\x.2.2.length=18) (λx=>(x.2.1+1).toNat)
  (λx=>over x.2.2 0 (dg (x.2.1+1).toNat x.1)) ?_ 20000000 (k,(i:Int) - 1,d) ⟨⟨a,c⟩,⟨by simp only;omega,by simp only;omega⟩,b⟩ (by simp only;omega)
 ·simpa using this
 rintro ⟨k,i,d⟩ ⟨⟨a,c⟩,⟨n,g⟩,b⟩;simp only at a c n g b ⊢;by_cases hi:0<=i
 ·obtain ⟨j,rfl⟩:∃j:Nat,i=j:=⟨i.toNat,by omega⟩;have f:j<18:=by omega
  have e:decide ((j:Int)>=0)=true:=by simp
  have q:Nat.blt j 18=true:=cT f;have m:IntKind.wrap .i64 ((j:Int) - 1)=(j:Int) - 1:=wrap_i64 _ (by omega) (by omega);have l:IntKind.wrap .i64 (Int.tdiv k 10)=k / 10:=by rw [Xe a];exact wrap_i64 _ (by omega) (by omega)
  have p:IntKind.wrap .u8 (IntKind.wrap .i64 (48+Int.tmod k 10))=48+k%10:=by rw [VU a,wrap_i64 _ (by omega) (by omega),kz _ (by omega) (by omega)]
  refine .inl ⟨(k / 10,(j:Int) - 1,d.set j (48+k%10)),by simp only [jc,e,ah,dZ f,ob,q,m,l,p],⟨⟨by simp only;omega,by simp only;omega⟩,⟨by simp only;omega,by simp only;omega⟩,by simpa using b⟩,by simp only;omega,?_⟩;have h:((j:Int) - 1+1).toNat=j:=by omega
  have o:((j:Int)+1).toNat=j+1:=by omega
  simp only [h,o,over,lT,dX,wy,da,dg,fN];congr 1;rw [List.drop_set,ab (by omega),B6,qE (by omega)];simp only [List.set_cons_zero,bg,wy,aE,bz,fg,dX,da]
 ·have e:decide (i>=0)=false:=by simp;omega
  have s:(i+1).toNat=0:=by omega
  refine .inr ?_;simp only [jc,e,af,s,dg,GR]
theorem P3 (m:aa) (k:Int) (b:m.length<=18) (a:0<=k) (c:k<9223372036854775808):
  l7 20000000 m k=some (over [0,0,0,0,0,0,0,0,0,0,0,0,0,0,0,0,0,0] 0 (dg m.length k)):=by
 have w:IntKind.wrap .i64 (((List.length m:Nat):Int) - 1)=(m.length:Int) - 1:=wrap_i64 _ (by omega) (by omega);simp only [l7,w,JC k m.length [0,0,0,0,0,0,0,0,0,0,0,0,0,0,0,0,0,0] a c b (by rfl),ob]
theorem wh {d l:List Int} {i:Nat} (h:i<l.length):(over d 0 l)[i]?=l[i]?:=by
 unfold over;simp only [lT,dX];rw [od h]
theorem zp:∀(l:List Int),(∀x∈l,0<=x/\x<256)->nums (iv l)=l
 | [],_=>rfl
 | x::l,h=>by
  have ih:=zp l λy hy=>h y (fY _ hy);obtain ⟨a,c⟩:=h x (by simp);have e:(((UInt8.ofNat x.toNat).toNat:Nat):Int)=x:=by
   rw [EI,rP (by omega)];omega
  simp only [nums,iv,tn] at ih ⊢;simp only [gf,Function.comp,e];rw [show List.map ((λb:UInt8=>((b.toNat:Nat):Int)) ∘ λn:Int=>UInt8.ofNat n.toNat) l=l from ih]
theorem O5 (l:aa):(nums l).length=l.length:=by simp [nums]
def cnt:aa->Nat
 | []=>0
 | c::r=>if c=88 then cnt r+1 else cnt r
def dv (c:UInt8):Int:=((c.toNat:Nat):Int) - 48
def nth:aa->Int->Int
 | [],_=>0
 | c::r,i=>if c=88 then 10*nth r (i / 10)+i%10 else 10*nth r i+dv c
def ag:aa->Int->Bool
 | [],_=>true
 | c::r,k=>ag r (k / 10)&&(decide (c=88)||decide (dv c=k%10))
def idx:aa->Int->Int
 | [],_=>0
 | c::r,k=>if c=88 then 10*idx r (k / 10)+k%10 else idx r (k / 10)
def okR (r:aa):Prop:=∀c∈r,c=88\/(0<=dv c/\dv c<10)
theorem zk {m:aa} (h:∀c∈m,okB c=true):okR m.reverse:=by
 intro c hc;have:=h c (Fh.1 hc);simp only [okB,iV,bI,aA,cn] at this;rcases this with h | h
 ·exact .inl (gJ.1 (by simpa using h))
 ·exact .inr (by unfold dv;omega)
theorem su {c:UInt8} {r:aa} (h:okR (c::r)):okR r:=λx hx=>h x (fY _ hx)
theorem i6 (n:Nat):(10:Int) ^ (n+1)=10*10 ^ n:=by rw [Int.pow_succ,Ae]
theorem uy (n:Nat):(0:Int)<10 ^ n:=Int.pow_pos (by omega)
theorem qU:∀{r:aa},okR r->∀i,0<=i->0<=nth r i/\nth r i<10 ^ r.length
 | [],_,i,_=>by simp [nth]
 | c::r,h,i,hi=>by
  simp only [nth,aE,i6];split
  ·have:=qU (su h) (i / 10) (by omega);omega
  ·rename_i hc;have:=qU (su h) i hi;have:=(h c (by simp)).resolve_left hc;omega
theorem L2:∀{r:aa},okR r->∀i,0<=i->ag r (nth r i)=true
 | [],_,_,_=>rfl
 | c::r,h,i,hi=>by
  simp only [nth,ag];split
  ·rename_i hc;have e:(10*nth r (i / 10)+i%10) / 10=nth r (i / 10):=by omega
   rw [e,L2 (su h) (i / 10) (by omega)];simp [hc]
  ·rename_i hc;have b:=(h c (by simp)).resolve_left hc;have e:(10*nth r i+dv c) / 10=nth r i:=by omega
   have a:(10*nth r i+dv c)%10=dv c:=by omega
   rw [e,a,L2 (su h) i hi];simp
theorem ww:∀(r:aa) (k:Int),0<=k->0<=idx r k/\idx r k<10 ^ cnt r
 | [],k,_=>by simp [idx,cnt]
 | c::r,k,a=>by
  have:=ww r (k / 10) (by omega);simp only [idx,cnt];split
  ·rw [i6];omega
  ·exact this
theorem LV:∀{r:aa} {k:Int},0<=k->k<10 ^ r.length->ag r k=true->nth r (idx r k)=k
 | [],k,d,b,_=>by simp at b;simp [nth];omega
 | c::r,k,d,b,a=>by
  simp only [ag,aA,iV,cn] at a;rw [aE,i6] at b;have ih:=LV (r:=r) (k:=k / 10) (by omega) (by omega) a.1;simp only [nth,idx];split
  ·have:=ww r (k / 10) (by omega);have e:(10*idx r (k / 10)+k%10) / 10=idx r (k / 10):=by omega
   have f:(10*idx r (k / 10)+k%10)%10=k%10:=by omega
   rw [e,f,ih];omega
  ·rename_i hc;rw [ih];have:=a.2.resolve_left hc;omega
theorem Br:∀{r:aa},okR r->∀i j,0<=i->i<j->j<10 ^ cnt r->nth r i<nth r j
 | [],_,i,j,b,d,a=>by simp [cnt] at a;omega
 | c::r,h,i,j,b,d,a=>by
  simp only [nth,cnt] at a ⊢;split
  ·rename_i hc;rw [ae hc,i6] at a;by_cases e:i / 10=j / 10
   ·rw [e];omega
   ·have:=Br (su h) (i / 10) (j / 10) (by omega) (by omega) (by omega);omega
  ·rename_i hc;rw [ab hc] at a;have:=Br (su h) i j b d a;omega
theorem IC:∀(r:aa),∀k,jG r.reverse (dg r.length k)=ag r k
 | [],k=>rfl
 | c::r,k=>by
  simp only [List.reverse_cons,aE,dg,ag];rw [vB (by rw [vi,wy]),IC r];have a:decide (((c.toNat:Nat):Int)=48+k%10)=decide (dv c=k%10):=nX.2 (by unfold dv;omega);have b:(c==88)=decide (c=88):=by by_cases h:c=88<;>simp [h]
  simp only [jG,CW,a,b]
theorem F6 (m:aa) (k:Int):hasM m k=(decide (0<=k)&&(decide (k<10 ^ m.length)&&ag m.reverse k)):=by
 have:=IC m.reverse k;rw [yv,vi] at this;unfold hasM;rw [this]
theorem wX:∀(m:aa),cnt m=m.count 88
 | []=>rfl
 | c::m=>by
  simp only [cnt,wX m,List.count_cons];by_cases h:c=88<;>simp [h]
theorem tK (m:aa):cnt m.reverse=cnt m:=by rw [wX,wX,List.count_reverse]
theorem JZ:∀(m:aa),cnt m<=m.length
 | []=>by simp [cnt]
 | c::m=>by
  have:=JZ m;simp only [cnt,aE];split<;>omega
def fd (x y:Int):Int:=(if y=88 then x else y) - 48
def fval (x:Int) (l:List Int):Int:=l.foldl (λn y=>10*n+fd x y) 0
theorem AK (x:Int):∀(l:List Int) (n:Int),l.foldl (λn y=>10*n+fd x y) n=n*10 ^ l.length+fval x l
 | [],n=>by simp [fval]
 | y::l,n=>by
  have e:=AK x l (10*n+fd x y);have a:=AK x l (10*0+fd x y);simp only [fval,vC,aE,i6] at e a ⊢;rw [e,a,Int.add_mul,Int.add_mul];have:10*n*10 ^ l.length=n*(10*10 ^ l.length):=by rw [Ae 10 n,Int.mul_assoc]
  omega
theorem wF (s:aa) (x:Int) (A:s.length<=18) (hs:∀c∈s,0<=fd x ((c.toNat:Nat):Int)/\fd x ((c.toNat:Nat):Int)<10):mM 20000000 s x=some (fval x (nums s)):=by
 have hs':∀y∈nums s,0<=fd x y/\fd x y<10:=by
  intro y hy;obtain ⟨c,hc,rfl⟩:=eY.1 hy;exact hs c hc
 have C:(nums s).length=s.length:=O5 s;have:=fO (step:=ib 20000000)
  (λst=>st.1=x/\st.2.2.1=((s.length:Nat):Int)/\st.2.2.2.2=nums s/\(0<=st.2.2.2.1/\st.2.2.2.1<=s.length)/\0<=st.2.1/\st.2.1<10 ^ st.2.2.2.1.toNat) (λst=>s.length - st.2.2.2.1.toNat)
  (λst=>((nums s).drop st.2.2.2.1.toNat).foldl (λn y=>10*n+fd x y) st.2.1) ?_ 20000000 (x,0,((s.length:Nat):Int),0,nums s) ⟨rfl,rfl,rfl,⟨by simp,by simp⟩,by simp,by simp⟩ (by simp;omega)
 ·show (ob (ar (ib 20000000) 20000000 (x,0,((List.length (nums s):Nat):Int),0,nums s)) λe=>some e)=_;rw [C,this];rfl
 rintro ⟨b,n,len,i,l⟩ ⟨o,p,q,⟨w,hi⟩,v,r⟩;simp only at o p q w hi v r ⊢;subst o p q;obtain ⟨j,rfl⟩:∃j:Nat,i=j:=⟨i.toNat,by omega⟩;simp only [cg] at r ⊢;rcases aH j s.length with B | D
 ·obtain ⟨y,hy⟩:∃c,(nums s)[j]?=some c:=⟨(nums s)[j]'(by omega),bf (by omega)⟩;obtain ⟨d0,d⟩:=hs' y (gM hy);have h:(decide ((j:Int)<((s.length:Nat):Int)))=true:=by simp;omega
  have u:IntKind.wrap .i64 ((j:Int)+1)=((j+1:Nat):Int):=by rw [wrap_i64 _ (by omega) (by omega)];omega
  have k:=Dp (j+1) (by omega);rw [i6] at k;have t:IntKind.wrap .i64 (10*n)=10*n:=wrap_i64 _ (by omega) (by omega);have m:∀z:Int,0<=z->z<10->IntKind.wrap .i64 (10*n+IntKind.wrap .i64 (IntKind.wrap .u8 z))=10*n+z:=λz E z1=>by
   rw [kz z (by omega) (by omega),wrap_i64 z (by omega) (by omega),wrap_i64 _ (by omega) (by omega)]
  rw [bX hy,vC];simp only [ib,h,ah,dZ (show j<(nums s).length by omega),ob,hy,u,t];have next:0<=10*n+fd b y/\10*n+fd b y<10 ^ (j+1):=by rw [i6];omega
  by_cases a:y=88
  ·have f:(y==88)=true:=by simpa using a
   have g:fd b y=b - 48:=by simp [fd,a]
   rw [g] at d0 d next ⊢;refine .inl ⟨(b,10*n+(b - 48),((s.length:Nat):Int),((j+1:Nat):Int),nums s),by simp only [f,ah,m _ d0 d],⟨rfl,rfl,rfl,⟨by simp only;omega,by simp only;omega⟩,next.1,by simpa only [cg] using next.2⟩,by simp only [cg];omega,by simp only [cg]⟩
  ·have f:(y==88)=false:=by simpa using a
   have g:fd b y=y - 48:=by simp [fd,a]
   rw [g] at d0 d next ⊢;refine .inl ⟨(b,10*n+(y - 48),((s.length:Nat):Int),((j+1:Nat):Int),nums s),by simp only [f,af,m _ d0 d],⟨rfl,rfl,rfl,⟨by simp only;omega,by simp only;omega⟩,next.1,by simpa only [cg] using next.2⟩,by simp only [cg];omega,by simp only [cg]⟩
 ·have h:(decide ((j:Int)<((s.length:Nat):Int)))=false:=by simp;omega
  refine .inr ?_;simp only [ib,h,af];rw [js (by omega)];rfl
theorem xz (x:Int) (l:List Int) (y:Int):fval x (l++[y])=10*fval x l+fd x y:=by simp [fval,Hi]
theorem Ee (r:aa) (c:UInt8):nums ((c::r).reverse)=nums r.reverse++[((c.toNat:Nat):Int)]:=by simp [nums]
theorem Ft (x:Int) (c:UInt8):fd x ((c.toNat:Nat):Int)=if c=88 then x - 48 else dv c:=by
 unfold fd dv;by_cases h:c=88
 ·simp [h]
 ·have:¬((c.toNat:Nat):Int)=88:=λe=>h (gJ.1 (by simpa using (by omega:c.toNat=88)));rw [ab this,ab h]
theorem zL:∀(r:aa),fval 48 (nums r.reverse)=nth r 0
 | []=>rfl
 | c::r=>by
  rw [Ee,xz,zL r,Ft];simp only [nth];split<;>simp
theorem ua:∀(r:aa),fval 57 (nums r.reverse)=nth r (10 ^ cnt r - 1)
 | []=>rfl
 | c::r=>by
  have hp:=uy (cnt r);rw [Ee,xz,ua r,Ft];simp only [nth,cnt];split
  ·rw [i6];have a:(10*(10:Int) ^ cnt r - 1) / 10=10 ^ cnt r - 1:=by omega
   have b:(10*(10:Int) ^ cnt r - 1)%10=9:=by omega
   rw [a,b];omega
  ·rfl
theorem VK {m:aa} (a:∀c∈m,okB c=true) {x:Int} (hx:48<=x/\x<58):∀c∈m,0<=fd x ((c.toNat:Nat):Int)/\fd x ((c.toNat:Nat):Int)<10:=by
 intro c hc;rw [Ft];have:=zk a c (Fh.2 hc);split
 ·omega
 ·rename_i h;exact this.resolve_left h
theorem PI {m:aa} (c:chk m=0):qa 20000000 m=some (nth m.reverse 0,0):=by
 obtain ⟨b,_,a⟩:=n6 c;have d:((0:Int) != 0)=false:=by simp
 have:=zL m.reverse;rw [yv] at this;simp only [qa,mr 20000000 m (by omega),c,ob,d,af,wF m 48 b (VK a (by omega)),this]
theorem E9 {m:aa} (c:chk m=0):mq 20000000 m=some (nth m.reverse (10 ^ cnt m - 1),0):=by
 obtain ⟨b,_,a⟩:=n6 c;have d:((0:Int) != 0)=false:=by simp
 have:=ua m.reverse;rw [yv,tK] at this;simp only [mq,mr 20000000 m (by omega),c,ob,d,af,wF m 57 b (VK a (by omega)),this]
theorem O6 {m:aa} {l:List Int} (z:List Int) (b:m.length<=18) (g:l.length=m.length) (e:∀y∈l,48<=y/\y<58):gB 20000000 m (over z 0 l)=some (fval 0 l):=by
 have f:List.take m.length (over z 0 l)=l:=by
  unfold over;rw [lT,dX,vq (by omega),jd (by omega)]
 have d:nums (iv l)=l:=zp l λy hy=>by have:=e y hy;omega
 have h:(iv l).length=m.length:=by simp [iv,g]
 simp only [gB,ef b,ob,da,show Nat.ble m.length 18=true from cT b,ah,bV,f];rw [wF (iv l) 0 (by omega) ?_,d];intro c hc;have a:((c.toNat:Nat):Int)∈l:=by rw [<-d];exact eY.2 ⟨c,hc,rfl⟩
 have:=e _ a;unfold fd;rw [ab (by omega)];omega
theorem Ie {m:aa} (d:chk m=0) {i:Int} (c:0<=i):hasM m (nth m.reverse i)=true:=by
 obtain ⟨e,_,a⟩:=n6 d;have b:=qU (zk a) i c;rw [vi] at b;rw [F6,L2 (zk a) i c,am b.1,am b.2];rfl
def vl:List Int->Int
 | []=>0
 | y::l=>(y - 48)*10 ^ l.length+vl l
def digl (l:List Int):Prop:=∀y∈l,48<=y/\y<58
theorem dA {y:Int} {l:List Int} (h:digl (y::l)):digl l:=λx hx=>h x (fY _ hx)
theorem vR:∀{l:List Int},digl l->0<=vl l/\vl l<10 ^ l.length
 | [],_=>by simp [vl]
 | y::l,h=>by
  have ih:=vR (dA h);have hy:=h y (by simp);have hp:=uy l.length;simp only [vl,aE,i6];have a1:0<=(y - 48)*10 ^ l.length:=Int.mul_nonneg (by omega) (by omega);have a2:(y - 48)*10 ^ l.length<=9*10 ^ l.length:=Rb (by omega) (by omega);omega
theorem TG {y z:Int} {a b:List Int} (f:a.length=b.length) (e:digl a) (d:digl b) (h:y<z):vl (y::a)<vl (z::b):=by
 have g:=vR e;have c:=vR d;have hp:=uy a.length;simp only [vl];rw [<-f] at c ⊢;have a2:(y - 48+1)*10 ^ a.length<=(z - 48)*10 ^ a.length:=Rb (by omega) (by omega);rw [Int.add_mul] at a2;omega
theorem AL:∀{l:List Int},digl l->fval 0 l=vl l
 | [],_=>rfl
 | y::l,h=>by
  have hy:=h y (by simp);have e:fval 0 (y::l)=l.foldl (λn y=>10*n+fd 0 y) (10*0+fd 0 y):=rfl;have a:fd 0 y=y - 48:=by unfold fd;rw [ab (by omega)]
  rw [e,AK,AL (dA h),a];simp only [vl,Int.mul_zero,Int.zero_add]
theorem MR {l:List Int} {y:Int} (h:digl (l++[y])):vl (l++[y])=10*vl l+(y - 48):=by
 have hy:=h y (by simp);have a:digl l:=λx hx=>h x (by simp [hx]);rw [<-AL h,<-AL a,xz];unfold fd;rw [ab (by omega)]
theorem OP:∀(L:Nat) (k:Int),0<=k->k<10 ^ L->vl (dg L k)=k
 | 0,k,c,a=>by simp at a;simp [dg,vl];omega
 | L+1,k,c,a=>by
  rw [i6] at a;have:=OP L (k / 10) (by omega) (by omega);have b:=tR (L+1) k;simp only [dg] at b ⊢;rw [MR b,this];omega
theorem XV {l:List Int} (h:digl l):dg l.length (vl l)=l:=by
 have b:∀(r:List Int),digl r.reverse->dg r.length (vl r.reverse)=r.reverse:=by
  intro r
  induction r with
  | nil=>intro _;rfl
  | cons y r ih=>
   intro h;simp only [List.reverse_cons,aE] at h ⊢;have hy:=h y (by simp);rw [MR h];simp only [dg];have a:(10*vl r.reverse+(y - 48)) / 10=vl r.reverse:=by omega
   have c:48+(10*vl r.reverse+(y - 48))%10=y:=by omega
   rw [a,c,ih λx hx=>h x (nO.2 (.inl hx))]
 have:=b l.reverse (by rw [yv];exact h);rwa [yv,vi] at this
def fst (up:Bool):Int:=cond up 48 57
def lst (up:Bool):Int:=cond up 57 48
def stp (up:Bool) (y:Int):Int:=cond up (y+1) (y - 1)
def fil (up:Bool) (m:aa):List Int:=m.map λc=>cond (decide (c=88)) (fst up) ((c.toNat:Nat):Int)
def nx (up:Bool):aa->List Int->Option (List Int)
 | c::m,y::l=>
  if c=88 then
   match nx up m l with
   | some r=>some (y::r)
   | none=>if y=lst up then none else some (stp up y::fil up m)
  else if ((c.toNat:Nat):Int)=y then (nx up m l).map λr=>y::r
  else if decide (((c.toNat:Nat):Int)>y)=up then some (((c.toNat:Nat):Int)::fil up m) else none
 | _,_=>some []
def okM (m:aa):Prop:=∀c∈m,okB c=true
theorem rU {c:UInt8} {m:aa} (h:okM (c::m)):okM m:=λx hx=>h x (fY _ hx)
theorem H4 {c:UInt8} (h:okB c=true) (a:¬c=88):48<=((c.toNat:Nat):Int)/\((c.toNat:Nat):Int)<58:=by
 simp only [okB,iV,bI,aA,cn] at h;have:¬c.toNat=88:=λe=>a (gJ.1 (by simpa using e));omega
theorem A3 (up:Bool) (m:aa):(fil up m).length=m.length:=by simp [fil]
theorem MJ (up:Bool) {m:aa} (h:okM m):digl (fil up m):=by
 intro y hy;obtain ⟨c,hc,rfl⟩:=eY.1 hy;by_cases a:c=88
 ·simp only [am a,ah];cases up<;>simp [fst]
 ·simp only [aq a,af];exact H4 (h c hc) a
theorem xQ (up:Bool):∀(m:aa),jG m (fil up m)=true
 | []=>rfl
 | c::m=>by
  have:=xQ up m;simp only [fil,gf,jG] at this ⊢;rw [this];by_cases a:c=88
  ·simp [a]
  ·simp [a]
def fq (up:Bool) (a b:Int):Prop:=match up with | true=>a<=b | false=>b<=a
theorem Bf (up:Bool):∀{m:aa} {e:List Int},okM m->m.length=e.length->digl e->jG m e=true->fq up (vl (fil up m)) (vl e)
 | [],[],_,_,_,_=>by cases up<;>simp [fil,vl,fq]
 | c::m,y::e,n,i,j,k=>by
  simp only [aE,xm] at i;simp only [jG,aA,iV,bI,cn] at k;have ih:=Bf up (rU n) i (dA j) k.2;have hy:=j y (by simp);have f:=A3 up m;have l:=MJ up (rU n);have a:∀z:Int,vl (z::fil up m)=(z - 48)*10 ^ m.length+vl (fil up m):=λz=>by rw [vl,f]
  have g:fil up (c::m)=(cond (decide (c=88)) (fst up) ((c.toNat:Nat):Int))::fil up m:=rfl;rw [g];by_cases b:c=88
  ·simp only [am b,ah];by_cases d:y=fst up
   ·rw [<-d,a,vl,<-i];cases up<;>simp only [fq] at ih ⊢<;>omega
   ·cases up
    ·exact Int.le_of_lt (TG (by rw [f,i]) (dA j) l (by simp [fst] at d ⊢;omega))
    ·exact Int.le_of_lt (TG (by rw [f,i]) l (dA j) (by simp [fst] at d ⊢;omega))
  ·simp only [aq b,af];rw [k.1.resolve_left b,a,vl,<-i];cases up<;>simp only [fq] at ih ⊢<;>omega
 | [],_::_,_,h,_,_=>by simp at h
 | _::_,[],_,h,_,_=>by simp at h
theorem Ue (up:Bool):∀{m:aa} {l:List Int},okM m->m.length=l.length->digl l->
  match nx up m l with
  | some r=>r.length=m.length/\digl r/\jG m r=true/\fq up (vl l) (vl r)/\∀e,e.length=m.length->digl e->jG m e=true->fq up (vl l) (vl e)->fq up (vl r) (vl e)
  | none=>∀e,e.length=m.length->digl e->jG m e=true->¬fq up (vl l) (vl e)
 | [],[],_,_,_=>by
  simp only [nx];refine ⟨rfl,by intro y hy;simp at hy,rfl,by cases up<;>simp [fq],?_⟩;intro e C _ _ _;simp only [bz] at C;rw [uc C];cases up<;>simp [fq]
 | c::m,y::l,L,u,R=>by
  simp only [aE,xm] at u;have ih:=Ue up (rU L) u (dA R);have hy:=R y (by simp);have v:=dA R;have t:=A3 up m;have B:=MJ up (rU L);have M:∀{z w:Int} {a b:List Int},a.length=m.length->b.length=m.length->digl a->digl b->z<w->vl (z::a)<vl (w::b):=λC J O P V=>TG (by rw [C,J]) O P V;have d:∀(z:Int) {a b:List Int},a.length=m.length->b.length=m.length->(fq up (vl (z::a)) (vl (z::b))↔fq up (vl a) (vl b)):=λz a b C J=>by
   simp only [vl,C,J];cases up<;>simp only [fq]<;>omega
  have o:∀{z w:Int} {a b:List Int},a.length=m.length->b.length=m.length->digl a->digl b->z≠w->(fq up (vl (z::a)) (vl (w::b))↔fq up z w):=λ{z w a b} C J O P V=>by
   rcases Int.lt_trichotomy z w with h | h | h
   ·have:=M C J O P h;cases up<;>simp only [fq]<;>omega
   ·exact absurd h V
   ·have:=M J C P O h;cases up<;>simp only [fq]<;>omega
  have f:∀e:List Int,e.length=(c::m).length->∃w a,e=w::a/\a.length=m.length:=λe h=>by
   match e,h with
   | w::a,h=>exact ⟨w,a,rfl,by simpa using h⟩
  by_cases g:c=88
  ·cases E:nx up m l with
   | some r=>
    rw [E] at ih;obtain ⟨I,N,T,U,Q⟩:=ih;simp only [nx,ae g,E];refine ⟨by simp [I],λz s=>?_,by simp [jG,g,T],(d y u.symm I).2 U,λe x j p q=>?_⟩
    ·rcases cL.1 s with rfl | s
     ·exact hy
     ·exact N z s
    ·obtain ⟨w,a,rfl,i⟩:=f e x;simp only [jG,g,xK,GF,om] at p;by_cases D:y=w
     ·subst D;exact (d y I i).2 (Q a i (dA j) p ((d y u.symm i).1 q))
     ·exact (o I i N (dA j) D).2 ((o u.symm i v (dA j) D).1 q)
   | none=>
    rw [E] at ih;by_cases k:y=lst up
    ·simp only [nx,ae g,E,ae k];intro e x j p q;obtain ⟨w,a,rfl,i⟩:=f e x;simp only [jG,g,xK,GF,om] at p;have X:=j w (by simp);by_cases D:y=w
     ·subst D;exact ih a i (dA j) p ((d y u.symm i).1 q)
     ·have:=(o u.symm i v (dA j) D).1 q;cases up<;>simp only [fq,lst,ah,af] at this k<;>omega
    ·simp only [nx,ae g,E,ab k];have hs:48<=stp up y/\stp up y<58/\y≠stp up y/\fq up y (stp up y)/\∀w,w≠y->fq up y w->fq up (stp up y) w:=by
      cases up<;>simp only [fq,lst,stp,ah,af] at k ⊢<;>exact ⟨by omega,by omega,by omega,by omega,λw C J=>by omega⟩
     obtain ⟨W,Y,s3,s4,Z⟩:=hs;refine ⟨by simp [t],λz s=>?_,by simp [jG,g,xQ],(o u.symm t v B s3).2 s4,λe x j p q=>?_⟩
     ·rcases cL.1 s with rfl | s
      ·exact ⟨W,Y⟩
      ·exact B z s
     ·obtain ⟨w,a,rfl,i⟩:=f e x;simp only [jG,g,xK,GF,om] at p;by_cases D:y=w
      ·subst D;exact absurd ((d y u.symm i).1 q) (ih a i (dA j) p)
      ·have h9:=Z w (λh=>D h.symm) ((o u.symm i v (dA j) D).1 q);by_cases K:stp up y=w
       ·rw [K];exact (d w t i).2 (Bf up (rU L) i.symm (dA j) p)
       ·exact (o t i B (dA j) K).2 h9
  ·have S:=H4 (L c (by simp)) g;have G:∀w a,jG (c::m) (w::a)=true->w=((c.toNat:Nat):Int)/\jG m a=true:=λw a h=>by
    simp only [jG,aA,iV,bI,cn] at h;exact ⟨(h.1.resolve_left g).symm,h.2⟩
   by_cases n:((c.toNat:Nat):Int)=y
   ·cases E:nx up m l with
    | some r=>
     rw [E] at ih;obtain ⟨I,N,T,U,Q⟩:=ih;simp only [nx,ab g,ae n,E,fb];refine ⟨by simp [I],λz s=>?_,by simp [jG,n,T],(d y u.symm I).2 U,λe x j p q=>?_⟩
     ·rcases cL.1 s with rfl | s
      ·exact hy
      ·exact N z s
     ·obtain ⟨w,a,rfl,i⟩:=f e x;obtain ⟨rfl,A⟩:=G w a p;rw [n] at q ⊢;exact (d y I i).2 (Q a i (dA j) A ((d y u.symm i).1 q))
    | none=>
     rw [E] at ih;simp only [nx,ab g,ae n,E,je];intro e x j p q;obtain ⟨w,a,rfl,i⟩:=f e x;obtain ⟨rfl,A⟩:=G w a p;rw [n] at q;exact ih a i (dA j) A ((d y u.symm i).1 q)
   ·have H:decide (((c.toNat:Nat):Int)>y)=up↔fq up y ((c.toNat:Nat):Int):=by
     cases up
     ·simp only [uT,fq];omega
     ·simp only [cn,fq];omega
    by_cases F:decide (((c.toNat:Nat):Int)>y)=up
    ·simp only [nx,ab g,ab n,ae F];refine ⟨by simp [t],λz s=>?_,by simp [jG,xQ],(o u.symm t v B (λh=>n h.symm)).2 (H.1 F),λe x j p q=>?_⟩
     ·rcases cL.1 s with rfl | s
      ·exact S
      ·exact B z s
     ·obtain ⟨w,a,rfl,i⟩:=f e x;obtain ⟨rfl,A⟩:=G w a p;exact (d _ t i).2 (Bf up (rU L) i.symm (dA j) A)
    ·simp only [nx,ab g,ab n,ab F];intro e x j p q;obtain ⟨w,a,rfl,i⟩:=f e x;obtain ⟨rfl,A⟩:=G w a p;exact F (H.2 ((o u.symm i v (dA j) (λh=>n h.symm)).1 q))
 | [],_::_,_,h,_=>by simp at h
 | _::_,[],_,h,_=>by simp at h
def ap:aa->List Int->Nat
 | c::m,y::l=>if c=88\/((c.toNat:Nat):Int)=y then ap m l+1 else 0
 | _,_=>0
theorem U2:∀(m:aa) (l:List Int),ap m l<=m.length
 | [],_=>by simp [ap]
 | c::m,[]=>by simp [ap]
 | c::m,y::l=>by
  have:=U2 m l;simp only [ap,aE];split<;>omega
theorem KY:∀(m:aa) (l:List Int),jG (m.take (ap m l)) (l.take (ap m l))=true
 | [],_=>by simp [ap,jG]
 | c::m,[]=>by simp [ap,jG]
 | c::m,y::l=>by
  have:=KY m l;simp only [ap];split
  ·rename_i h;simp only [oc,jG,this,CW,iV,bI,cn];exact h
  ·rfl
theorem Kp:∀{m:aa} {l:List Int} {c:UInt8} {y:Int},m[ap m l]?=some c->l[ap m l]?=some y->¬c=88/\¬((c.toNat:Nat):Int)=y
 | [],_,c,y,h,_=>by simp at h
 | x::m,[],c,y,_,h=>by simp at h
 | x::m,z::l,c,y,b,a=>by
  by_cases h:x=88\/((x.toNat:Nat):Int)=z
  ·simp only [ap,ae h,HK] at b a;exact Kp b a
  ·simp only [ap,ab h,mL,au] at b a;subst b a;exact ⟨λe=>h (.inl e),λe=>h (.inr e)⟩
def bkn (up:Bool):aa->List Int->aa->Option (List Int)
 | c::m,y::d,m'=>
  match bkn up m d m' with
  | some r=>some (y::r)
  | none=>if c=88/\y≠lst up then some (stp up y::fil up (m++m')) else none
 | _,_,_=>none
theorem Dy (up:Bool):∀{m m':aa} {d d':List Int},m.length=d.length->jG m d=true->
  nx up (m++m') (d++d')=match nx up m' d' with | some r=>some (d++r) | none=>bkn up m d m'
 | [],m',[],d',_,_=>by
  simp only [dX];cases nx up m' d'<;>rfl
 | c::m,m',y::d,d',e,b=>by
  simp only [aE,xm] at e;simp only [jG,aA,iV,bI,cn] at b;have ih:=Dy up (m':=m') (d':=d') e b.2;simp only [fg,nx,ih,bkn];by_cases a:c=88
  ·simp only [ae a];cases nx up m' d' with
   | some r=>rfl
   | none=>
    cases bkn up m d m' with
    | some r=>rfl
    | none=>
     by_cases hy:y=lst up
     ·simp [hy]
     ·simp [hy,a]
  ·simp only [ab a,ae (b.1.resolve_left a)];cases nx up m' d' with
   | some r=>rfl
   | none=>
    cases bkn up m d m' with
    | some r=>rfl
    | none=>simp [a]
 | [],_,_::_,_,h,_=>by simp at h
 | _::_,_,[],_,h,_=>by simp at h
theorem GA (up:Bool) (c:UInt8) (y:Int):∀{m m':aa} {d:List Int},m.length=d.length->
  bkn up (m++[c]) (d++[y]) m'=if c=88/\y≠lst up then some (d++stp up y::fil up m') else bkn up m d (c::m')
 | [],m',[],_=>by simp [bkn]
 | x::m,m',z::d,a=>by
  simp only [aE,xm] at a;have ih:=GA up c y (m':=m') a;simp only [fg,bkn,ih];by_cases h:c=88/\y≠lst up
  ·simp only [ae h]
  ·simp only [ab h,fN,fg,dX]
 | [],_,_::_,h=>by simp at h
 | _::_,_,[],h=>by simp at h
def bki (up:Bool) (m:aa) (l:List Int):Nat->Option Nat
 | 0=>none
 | j+1=>if m[j]?=some 88/\l[j]?≠some (lst up) then some j else bki up m l j
theorem Q1 (up:Bool) (m:aa) (l:List Int):∀{j a:Nat},bki up m l j=some a->a<j
 | 0,a,h=>by simp [bki] at h
 | j+1,a,h=>by
  simp only [bki] at h;split at h
  ·simp only [au] at h;omega
  ·have:=Q1 up m l h;omega
theorem HF (up:Bool) (m:aa) (l:List Int) (e:m.length=l.length):∀j,j<=m.length->
  bkn up (m.take j) (l.take j) (m.drop j)=(bki up m l j).map λa=>l.take a++stp up (l.getD a 0)::fil up (m.drop (a+1))
 | 0,_=>by simp [bkn,bki]
 | j+1,h=>by
  obtain ⟨c,hc⟩:∃c,m[j]?=some c:=⟨m[j]'(by omega),bf (by omega)⟩;obtain ⟨y,hy⟩:∃c,l[j]?=some c:=⟨l[j]'(by omega),bf (by omega)⟩;have ih:=HF up m l e j (by omega);rw [bX hc] at ih;rw [rC,rC,hc,hy];simp only [Option.toList_some];rw [GA up c y (by simp;omega),ih];have d:l.getD j 0=y:=by rw [DU,hy];rfl
  simp only [bki,hc,hy,ne_eq,au];by_cases b:c=88/\¬y=lst up
  ·rw [ae b,ae b,fb,d]
  ·rw [ab b,ab b]
section
variable {m:List UInt8} {l z:List Int}
theorem mP (A:m.length=l.length) (w:m.length<=18) (k f g:Int) (up:Bool):
  ar (fX 20000000) 20000000 (m,k,up,f,g,0,over z 0 l,over z 0 l)=some (m,k,up,f,g,((ap m l:Nat):Int),over z 0 l,over z 0 l):=by
 have:=fO (step:=fX 20000000) (λx=>x.1=m/\(0<=x.2.2.2.2.2.1/\x.2.2.2.2.2.1<=m.length)/\x.2.2.2.2.2.2.1=over z 0 l) (λx=>m.length - x.2.2.2.2.2.1.toNat)
  (λx=>(x.1,x.2.1,x.2.2.1,x.2.2.2.1,x.2.2.2.2.1,x.2.2.2.2.2.1+((ap (m.drop x.2.2.2.2.2.1.toNat) (l.drop x.2.2.2.2.2.1.toNat):Nat):Int),x.2.2.2.2.2.2.1,x.2.2.2.2.2.2.2)) ?_ 20000000 (m,k,up,f,g,0,over z 0 l,over z 0 l) ⟨rfl,⟨by simp,by simp⟩,rfl⟩ (by simp;omega)
 ·simpa using this
 rintro ⟨m',k,up,f,g,i,d,o⟩ ⟨r,⟨v,hi⟩,s⟩;simp only at r v hi s ⊢;subst r s;obtain ⟨j,rfl⟩:∃j:Nat,i=j:=⟨i.toNat,by omega⟩;simp only [cg];rcases aH j m'.length with p | q
 ·obtain ⟨c,hc⟩:∃c,m'[j]?=some c:=⟨m'[j],bf p⟩;obtain ⟨y,hy⟩:∃c,l[j]?=some c:=⟨l[j]'(by omega),bf (by omega)⟩;have u:(over z 0 l)[j]?=some y:=by rw [wh (by omega)];exact hy
  have n:(decide ((j:Int)<((List.length m':Nat):Int)))=true:=by simp;omega
  have t:IntKind.wrap .i64 ((j:Int)+1)=((j+1:Nat):Int):=by rw [wrap_i64 _ (by omega) (by omega)];omega
  rw [bX hc,bX hy];simp only [fX,n,ah,dI hc,ob,BN,t,dZ (show j<18 by omega),u,ap];by_cases b:c=88
  ·refine .inl ⟨(m',k,up,f,g,((j+1:Nat):Int),over z 0 l,o),by simp only [am b,ah],⟨rfl,⟨by simp only;omega,by simp only;omega⟩,rfl⟩,by simp only [cg];omega,?_⟩;simp only [cg,ae (show c=88\/((c.toNat:Nat):Int)=y from .inl b)];congr 6;omega
  ·simp only [aq b,af];by_cases a:((c.toNat:Nat):Int)=y
   ·have e:(((c.toNat:Nat):Int)==y)=true:=by simpa using a
    refine .inl ⟨(m',k,up,f,g,((j+1:Nat):Int),over z 0 l,o),by simp only [e,ah],⟨rfl,⟨by simp only;omega,by simp only;omega⟩,rfl⟩,by simp only [cg];omega,?_⟩;simp only [cg,ae (show c=88\/((c.toNat:Nat):Int)=y from .inr a)];congr 6;omega
   ·have e:(((c.toNat:Nat):Int)==y)=false:=by simpa using a
    refine .inr ?_;simp only [e,af,ab (show ¬(c=88\/((c.toNat:Nat):Int)=y) from λh=>h.elim b a),Int.ofNat_zero,Int.add_zero,Int.natCast_zero]
 ·have n:(decide ((j:Int)<((List.length m':Nat):Int)))=false:=by simp;omega
  refine .inr ?_;simp only [fX,n,af];rw [js q];simp [ap]
theorem KH (A:m.length=l.length) (v:m.length<=18) (f:Int) (up:Bool) (o:List Int) (i:Nat) (hi:i<=m.length):
  ar (cG 20000000) 20000000 (m,up,f,lst up,(i:Int),over z 0 l,o) =
   some (match bki up m l i with | none=>.inl (0,16) | some a=>.inr (m,up,f,((a:Nat):Int),o)):=by
 have:=fO (step:=cG 20000000) (λx=>x.1=m/\x.2.2.2.1=lst up/\(0<=x.2.2.2.2.1/\x.2.2.2.2.1<=m.length)/\x.2.2.2.2.2.1=over z 0 l) (λx=>x.2.2.2.2.1.toNat)
  (λx=>match bki up m l x.2.2.2.2.1.toNat with | none=>.inl (0,16) | some a=>.inr (x.1,x.2.1,x.2.2.1,((a:Nat):Int),x.2.2.2.2.2.2)) ?_ 20000000 (m,up,f,lst up,(i:Int),over z 0 l,o) ⟨rfl,rfl,⟨by simp only;omega,by simp only;omega⟩,rfl⟩ (by simp;omega)
 ·simpa using this
 rintro ⟨m',n,f,g,i,d,o⟩ ⟨q,p,⟨u,hi⟩,r⟩;simp only at q p u hi r ⊢;subst q r p;obtain ⟨j,rfl⟩:∃j:Nat,i=j:=⟨i.toNat,by omega⟩;simp only [cg];rcases j with _ | j
 ·refine .inr ?_;have w:IntKind.wrap .i64 (((0:Nat):Int) - 1)=-1:=wrap_i64 _ (by omega) (by omega);simp only [cG,w,show decide ((-1:Int)<0)=true from rfl,ah,bki]
 ·have w:IntKind.wrap .i64 (((j+1:Nat):Int) - 1)=(j:Int):=by rw [wrap_i64 _ (by omega) (by omega)];omega
  have s:decide ((j:Int)<0)=false:=by simp
  obtain ⟨c,hc⟩:∃c,m'[j]?=some c:=⟨m'[j]'(by omega),bf (by omega)⟩;obtain ⟨y,hy⟩:∃c,l[j]?=some c:=⟨l[j]'(by omega),bf (by omega)⟩;have t:(over z 0 l)[j]?=some y:=by rw [wh (by omega)];exact hy
  simp only [cG,w,s,af,dI hc,ob,BN,dZ (show j<18 by omega),t,bki,hc,hy,au,ne_eq];by_cases b:c=88
  ·by_cases k:y=lst up
   ·have e:(y != lst up)=false:=by simpa using k
    refine .inl ⟨(m',n,f,lst up,(j:Int),over z 0 l,o),by simp only [am b,ah,e,af],⟨rfl,rfl,⟨by simp only;omega,by simp only;omega⟩,rfl⟩,by simp only [cg];omega,?_⟩;simp only [cg,ab (show ¬(c=88/\¬y=lst up) from λh=>h.2 k)]
   ·have e:(y != lst up)=true:=by simpa using k
    refine .inr ?_;simp only [am b,ah,e,ae (show c=88/\¬y=lst up from ⟨b,k⟩)]
  ·refine .inl ⟨(m',n,f,lst up,(j:Int),over z 0 l,o),by simp only [aq b,af],⟨rfl,rfl,⟨by simp only;omega,by simp only;omega⟩,rfl⟩,by simp only [cg];omega,?_⟩;simp only [cg,ab (show ¬(c=88/\¬y=lst up) from λh=>b h.1)]
theorem EE (r:m.length<=18) (up:Bool) (d:List Int) (e:d.length=18) (i:Nat) (hi:i<=m.length):
  ar (bC 20000000) 20000000 (m,fst up,(i:Int),d)=some (m,over d i (fil up (m.drop i))):=by
 have:=fO (step:=bC 20000000) (λx=>x.1=m/\x.2.1=fst up/\(0<=x.2.2.1/\x.2.2.1<=m.length)/\x.2.2.2.length=18) (λx=>m.length - x.2.2.1.toNat)
  (λx=>(m,over x.2.2.2 x.2.2.1.toNat (fil up (m.drop x.2.2.1.toNat)))) ?_ 20000000 (m,fst up,(i:Int),d) ⟨rfl,rfl,⟨by simp only;omega,by simp only;omega⟩,e⟩ (by simp;omega)
 ·simpa using this
 rintro ⟨m',f,i,d⟩ ⟨o,n,⟨q,hi⟩,e⟩;simp only at o n q hi e ⊢;subst o n;obtain ⟨j,rfl⟩:∃j:Nat,i=j:=⟨i.toNat,by omega⟩;simp only [cg];rcases aH j m'.length with k | g
 ·obtain ⟨c,hc⟩:∃c,m'[j]?=some c:=⟨m'[j],bf k⟩;have l:j<18:=by omega
  have h:(decide ((j:Int)<((List.length m':Nat):Int)))=true:=by simp;omega
  have p:IntKind.wrap .i64 ((j:Int)+1)=((j+1:Nat):Int):=by rw [wrap_i64 _ (by omega) (by omega)];omega
  have s:Nat.blt j 18=true:=cT l;have b:∀c:UInt8,fil up (c::m'.drop (j+1))=(cond (decide (c=88)) (fst up) ((c.toNat:Nat):Int))::fil up (m'.drop (j+1)):=λ_=>rfl;rw [bX hc,b];simp only [bC,h,ah,dI hc,ob,BN,dZ l,s,p];by_cases a:c=88
  ·refine .inl ⟨(m',fst up,((j+1:Nat):Int),(d.set j ((c.toNat:Nat):Int)).set j (fst up)),by simp only [am a,ah],⟨rfl,rfl,⟨by simp only;omega,by simp only;omega⟩,by simpa using e⟩,by simp only [cg];omega,?_⟩;simp only [cg,am a,ah];rw [List.set_set,BQ _ _ _ _ (by omega)]
  ·refine .inl ⟨(m',fst up,((j+1:Nat):Int),d.set j ((c.toNat:Nat):Int)),by simp only [aq a,af],⟨rfl,rfl,⟨by simp only;omega,by simp only;omega⟩,by simpa using e⟩,by simp only [cg];omega,?_⟩;simp only [cg,aq a,af];rw [BQ _ _ _ _ (by omega)]
 ·have h:(decide ((j:Int)<((List.length m':Nat):Int)))=false:=by simp;omega
  refine .inr ?_;simp only [bC,h,af];rw [js g];simp [fil,GR]
theorem C6 (z l F:List Int) (i:Nat) (h:i+F.length=l.length):over (over z 0 l) i F=over z 0 (l.take i++F):=by
 unfold over;simp only [lT,dX,da,bg,dG,sY (show i<=l.length by omega),h];rw [vq (by omega),List.drop_append_of_le_length (by omega),List.drop_of_length_le (aY l.length)];simp
end
theorem Kv {m:aa} (Z:chk m=0) (up:Bool) (k:Int) (U:0<=k) (Y:k<10 ^ m.length):
  dr 20000000 m k up=some (match nx up m (dg m.length k) with | some r=>(vl r,0) | none=>(0,16)):=by
 obtain ⟨g,_,J⟩:=n6 Z;have hp:=Dp m.length g;have f:=wy m.length k;have o:=tR m.length k;have V:=OP m.length k U Y;have Q:=Ue up J f.symm o;have j:=P3 m k g U (by omega);generalize dg m.length k=l at f o V Q j ⊢;have n:(over [0,0,0,0,0,0,0,0,0,0,0,0,0,0,0,0,0,0] 0 l).length=18:=by rw [QI _ _ _ (by simp;omega)];rfl
 have fin:∀r:List Int,nx up m l=some r->gB 20000000 m (over [0,0,0,0,0,0,0,0,0,0,0,0,0,0,0,0,0,0] 0 r)=some (vl r):=by
  intro r X;rw [X] at Q;obtain ⟨i1,R,_⟩:=Q;rw [O6 _ g i1 R,AL R]
 have u:=U2 m l;have F:=KY m l;have b:=Dy up (m:=m.take (ap m l)) (m':=m.drop (ap m l)) (d:=l.take (ap m l)) (d':=l.drop (ap m l)) (by simp;omega) F;rw [ve,ve] at b;have h:l7 20000000 m k=some (over [0,0,0,0,0,0,0,0,0,0,0,0,0,0,0,0,0,0] 0 l):=j;generalize W:([0,0,0,0,0,0,0,0,0,0,0,0,0,0,0,0,0,0]:List Int)=z at n fin h;rcases aH (ap m l) m.length with O | hge
 ·obtain ⟨c,hc⟩:∃c,m[ap m l]?=some c:=⟨m[ap m l],bf O⟩;obtain ⟨y,hy⟩:∃c,l[ap m l]?=some c:=⟨l[ap m l]'(by omega),bf (by omega)⟩;obtain ⟨D,P⟩:=Kp hc hy;have A:(over z 0 l)[ap m l]?=some y:=by rw [wh (by omega)];exact hy
  have p:(((ap m l:Nat):Int)==((List.length m:Nat):Int))=false:=by simp;omega
  have B:ap m l<18:=by omega
  have H:fil up (m.drop (ap m l))=((c.toNat:Nat):Int)::fil up (m.drop (ap m l+1)):=by
   rw [bX hc];simp [fil,D]
  have L:=HF up m l f.symm (ap m l) u;have M:nx up (m.drop (ap m l)) (l.drop (ap m l))=if decide (((c.toNat:Nat):Int)>y)=up then some (fil up (m.drop (ap m l))) else none:=by
   rw [H,bX hc,bX hy];simp only [nx,ab D,ab P]
  rw [M] at b;by_cases q:decide (((c.toNat:Nat):Int)>y)=up
  ·rw [ae q] at b;simp only at b;have v:=fin _ b;rw [b];simp only [];rw [<-C6 z l _ _ (by rw [A3,bN];omega)] at v;have E:=EE g up _ n (ap m l) u;cases up
   ·have i:=mP (z:=z) f.symm g k 57 48 false;have l2':ar (bC 20000000) 20000000 (m,57,((ap m l:Nat):Int),over z 0 l)=_:=E;simp only [dr,il,ah,h,ob,i,p,af,dI hc,dZ B,A,q,xK,ci,l2',v]
   ·have i:=mP (z:=z) f.symm g k 48 57 true;have l2':ar (bC 20000000) 20000000 (m,48,((ap m l:Nat):Int),over z 0 l)=_:=E;simp only [dr,ci,ah,h,ob,i,p,af,dI hc,dZ B,A,q,xK,l2',v]
  ·rw [ab q] at b;simp only [L] at b;have s:(!(decide (((c.toNat:Nat):Int)>y)==up))=true:=by
    cases up<;>cases hh:decide (((c.toNat:Nat):Int)>y)<;>simp_all
   have t:=KH (z:=z) f.symm g (fst up) up (over z 0 l) (ap m l) u;cases N:bki up m l (ap m l) with
   | none=>
    rw [N] at b t;simp only [je] at b;rw [b];simp only [] at t ⊢;cases up
    ·have i:=mP (z:=z) f.symm g k 57 48 false;have l1':ar (cG 20000000) 20000000 (m,false,57,48,((ap m l:Nat):Int),over z 0 l,over z 0 l)=_:=t;simp only [dr,il,ah,h,ob,i,p,af,dI hc,dZ B,A,s,l1']
    ·have i:=mP (z:=z) f.symm g k 48 57 true;have l1':ar (cG 20000000) 20000000 (m,true,48,57,((ap m l:Nat):Int),over z 0 l,over z 0 l)=_:=t;simp only [dr,ci,ah,h,ob,i,p,af,dI hc,dZ B,A,s,l1']
   | some a=>
    have ha:=Q1 up m l N;obtain ⟨w,K⟩:∃c,l[a]?=some c:=⟨l[a]'(by omega),bf (by omega)⟩;have C:(over z 0 l)[a]?=some w:=by rw [wh (by omega)];exact K
    have G:l.getD a 0=w:=by rw [DU,K];rfl
    have hwr:=o w (gM K);have x:a<18:=by omega
    have T:Nat.blt a 18=true:=cT x;have S:IntKind.wrap .i64 ((a:Int)+1)=((a+1:Nat):Int):=by rw [wrap_i64 _ (by omega) (by omega)];omega
    rw [N] at b t;simp only [fb,G] at b;have v:=fin _ b;rw [b];simp only [] at t ⊢;rw [<-C6 z l _ _ (by rw [aE,A3,bN];omega),<-BQ _ _ _ _ (by omega)] at v;have E:=EE g up ((over z 0 l).set a (stp up w)) (by simpa using n) (a+1) (by omega);cases up
    ·have i:=mP (z:=z) f.symm g k 57 48 false;have l1':ar (cG 20000000) 20000000 (m,false,57,48,((ap m l:Nat):Int),over z 0 l,over z 0 l)=some (.inr (m,false,57,((a:Nat):Int),over z 0 l)):=t;have l2':ar (bC 20000000) 20000000 (m,57,((a+1:Nat):Int),(over z 0 l).set a (w - 1))=_:=E;have I:IntKind.wrap .u8 (w - 1)=w - 1:=kz _ (by omega) (by omega);simp only [dr,il,ah,h,ob,i,p,af,dI hc,dZ B,A,s,l1',dZ x,C,T,S,I,l2',v]
    ·have i:=mP (z:=z) f.symm g k 48 57 true;have l1':ar (cG 20000000) 20000000 (m,true,48,57,((ap m l:Nat):Int),over z 0 l,over z 0 l)=some (.inr (m,true,48,((a:Nat):Int),over z 0 l)):=t;have l2':ar (bC 20000000) 20000000 (m,48,((a+1:Nat):Int),(over z 0 l).set a (w+1))=_:=E;have I:IntKind.wrap .u8 (w+1)=w+1:=kz _ (by omega) (by omega);simp only [dr,ci,ah,h,ob,i,p,af,dI hc,dZ B,A,s,l1',dZ x,C,T,S,I,l2',v]
 ·have e:ap m l=m.length:=by omega
  rw [e,sT,<-f,sT,ma] at b;simp only [nx,lO] at b;have p:(((ap m l:Nat):Int)==((List.length m:Nat):Int))=true:=by rw [e];simp
  rw [b];simp only [V];cases up
  ·have i:=mP (z:=z) f.symm g k 57 48 false;simp only [dr,il,ah,h,ob,i,p]
  ·have i:=mP (z:=z) f.symm g k 48 57 true;simp only [dr,ci,af,h,ob,i,p,ah]
def near (up:Bool) (m:aa) (k:Int):Option Int->Prop
 | some R=>hasM m R=true/\fq up k R/\∀e,hasM m e=true->fq up k e->fq up R e
 | none=>∀e,hasM m e=true->¬fq up k e
def res (o:Option Int):Int×Int:=match o with | some r=>(r,0) | none=>(0,16)
theorem oL {m:aa} {e:Int} (h:hasM m e=true):(dg m.length e).length=m.length/\digl (dg m.length e)/\jG m (dg m.length e)=true/\vl (dg m.length e)=e/\0<=e/\e<10 ^ m.length:=by
 unfold hasM at h;simp only [aA,cn] at h;exact ⟨wy _ _,tR _ _,h.2.2,OP _ _ h.1 h.2.1,h.1,h.2.1⟩
theorem RF {m:aa} {r:List Int} (e:r.length=m.length) (b:digl r) (d:jG m r=true):hasM m (vl r)=true:=by
 have a:=vR b;have c:=XV b;rw [e] at a c;unfold hasM;rw [c,d,am a.1,am a.2];rfl
theorem xw {m:aa} (p:chk m=0) (up:Bool) (k:Int) (q:0<=k) (n:k<10 ^ m.length):∃o,dr 20000000 m k up=some (res o)/\near up m k o:=by
 obtain ⟨w,_,g⟩:=n6 p;have a:=Ue up g (wy m.length k).symm (tR m.length k);have d:=OP m.length k q n;refine ⟨(nx up m (dg m.length k)).map vl,?_,?_⟩
 ·rw [Kv p up k q n];cases nx up m (dg m.length k)<;>rfl
 ·cases hx:nx up m (dg m.length k) with
  | none=>
   rw [hx] at a;intro e i h;obtain ⟨f,j,c,b,_⟩:=oL i;exact a _ f j c (by rw [d,b];exact h)
  | some r=>
   rw [hx] at a;obtain ⟨v,s,u,l,t⟩:=a;refine ⟨RF v s u,by rw [d] at l;exact l,λe i h=>?_⟩;obtain ⟨f,j,c,b,_⟩:=oL i;have:=t _ f j c (by rw [d,b];exact h);rwa [b] at this
theorem H6 {m:aa} {e:Int} (h:hasM m e=true):0<=idx m.reverse e/\idx m.reverse e<10 ^ cnt m/\nth m.reverse (idx m.reverse e)=e:=by
 rw [F6] at h;simp only [aA,cn] at h;obtain ⟨k0,k1,k2⟩:=h;have:=ww m.reverse e k0;rw [tK] at this;exact ⟨this.1,this.2,LV k0 (by rw [vi];exact k1) k2⟩
section
variable {m:List UInt8} (hm:chk m=0)
include hm
theorem Ll {i j:Int} (d:0<=i) (b:i<=j) (c:j<10 ^ cnt m):nth m.reverse i<=nth m.reverse j:=by
 obtain ⟨e,_,a⟩:=n6 hm;rcases Int.lt_or_eq_of_le b with h | rfl
 ·exact Int.le_of_lt (Br (zk a) i j d h (by rw [tK];exact c))
 ·exact xW _
theorem Du (k:Int):mJ 20000000 m k=some (decide (0<=k/\k<10 ^ m.length)):=by
 obtain ⟨b,_,c⟩:=n6 hm;simp only [mJ,O8 m.length b,ob];by_cases a:0<=k
 ·have d0:decide (k>=0)=true:=by simpa using a
  simp only [d0,ah,a,jN,oK]
 ·have d0:decide (k>=0)=false:=by simpa using a
  simp only [d0,af,a,xO,nU]
theorem Ln (k:Int):∃o,sg 20000000 m k=some (res o)/\near true m k o:=by
 obtain ⟨p,_,c⟩:=n6 hm;have j:((0:Int) != 0)=false:=by simp
 simp only [sg,mr 20000000 m (by omega),hm,m9,j,af,Du hm];by_cases b:k<0
 ·refine ⟨some (nth m.reverse 0),by simp only [am b,ah,PI hm,m9,res],Ie hm (by omega),?_,λe d f=>?_⟩
  ·have:=(qU (zk c) 0 (by omega)).1;simp only [fq];omega
  ·obtain ⟨l,q,r⟩:=H6 d;have:=Ll hm (xW 0) l q;simp only [fq];omega
 ·by_cases a:k<10 ^ m.length
  ·obtain ⟨o,n,g⟩:=xw hm true k (by omega) a;exact ⟨o,by simp only [aq b,af,am (show 0<=k/\k<10 ^ m.length from ⟨by omega,a⟩),ci,n,m9],g⟩
  ·refine ⟨none,by simp only [aq b,af,aq (show ¬(0<=k/\k<10 ^ m.length) from λh=>a h.2),il,ah,res],λe d f=>?_⟩;obtain ⟨_,_,_,_,_,i⟩:=oL d;simp only [fq] at f;omega
theorem MK (k:Int):∃o,sC 20000000 m k=some (res o)/\near false m k o:=by
 obtain ⟨q,_,c⟩:=n6 hm;have l:((0:Int) != 0)=false:=by simp
 simp only [sC,mr 20000000 m (by omega),hm,m9,l,af,Du hm];by_cases b:k<0
 ·refine ⟨none,by simp only [am b,ah,res],λe d f=>?_⟩;obtain ⟨_,_,_,_,i,_⟩:=oL d;simp only [fq] at f;omega
 ·by_cases a:k<10 ^ m.length
  ·obtain ⟨o,p,g⟩:=xw hm false k (by omega) a;exact ⟨o,by simp only [aq b,af,am (show 0<=k/\k<10 ^ m.length from ⟨by omega,a⟩),ci,p,m9],g⟩
  ·have j:=uy (cnt m);refine ⟨some (nth m.reverse (10 ^ cnt m - 1)),by simp only [aq b,af,aq (show ¬(0<=k/\k<10 ^ m.length) from λh=>a h.2),il,ah,E9 hm,m9,res],Ie hm (by omega),?_,λe d f=>?_⟩
   ·have:=(qU (zk c) (10 ^ cnt m - 1) (by omega)).2;rw [vi] at this;simp only [fq];omega
   ·obtain ⟨n,s,r⟩:=H6 d;have:=Ll hm n (show idx m.reverse e<=10 ^ cnt m - 1 by omega) (by omega);simp only [fq];omega
end
end Go.Sh.Mk
namespace Go.Sh
open Go.Abs
def fitN (s:aa) (g:Nat):List Nat:=(List.range' 1 g).filter (agr s)
def ux (l:List Nat):List Int:=l.map λk:Nat=>(k:Int)
theorem DD (l:List Nat):(ux l).length=l.length:=by simp [ux]
theorem C9 (c:UInt8) {j:Nat} (b:j<10):(IntKind.wrap .i64 (IntKind.wrap .u8 (((c.toNat:Nat):Int) - 48))==((j:Nat):Int))=(c==UInt8.ofNat (48+j)):=by
 have hc:=c.toNat_lt;have d:=BK (((c.toNat:Nat):Int) - 48);rw [wrap_i64 _ (by omega) (by omega),Jv,us,bI,bI];have a:(UInt8.ofNat (48+j)).toNat=48+j:=by simp;omega
 constructor
 ·intro h;apply gJ.1;omega
 ·rintro rfl;omega
theorem JO (n:Nat) (a b:UInt8) {k:Nat} (l:k<=31):lD n [a,b] (k:Int)=some (agr [a,b] k):=by
 have e:IntKind.wrap .i64 (Int.tdiv (k:Int) 10)=((k / 10:Nat):Int):=by
  rw [show Int.tdiv (k:Int) 10=((k / 10:Nat):Int) from rfl,wrap_i64 _ (by omega) (by omega)]
 have j:Int.tmod (k:Int) 10=((k%10:Nat):Int):=rfl;have s0:sx [a,b] 0=some a:=rfl;have d:sx [a,b] 1=some b:=rfl;have c:(88:Int)=((88:Nat):Int):=rfl;unfold lD;simp only [s0,d,ob,e,j];rw [C9 a (show k / 10<10 by omega),C9 b (show k%10<10 by omega),c,vJ (by omega),vJ (by omega)];show _=some ((a==UInt8.ofNat 88||a==UInt8.ofNat (48+k / 10))&&(b==UInt8.ofNat 88||b==UInt8.ofNat (48+k%10)));generalize (a==UInt8.ofNat 88)=i;generalize (b==UInt8.ofNat 88)=f;generalize (a==UInt8.ofNat (48+k / 10))=g;generalize (b==UInt8.ofNat (48+k%10))=h;cases i<;>cases f<;>cases g<;>cases h<;>rfl
theorem room {k:Nat} (h:k<=60000000):Nat.ble (k+1) dE=true:=cT (by unfold dE;omega)
theorem HG {X Y:Type} {step:X->Option (X⊕Y)} {f:Nat->List Int->X} {y:List Int->Y} {p:Nat->Bool} {g:Nat} (e:g<=1000)
  (h:∀i out,i<g->out.length<=1000->step (f i out)=some (.inl (f (i+1) (if p (i+1) then out++[((i+1:Nat):Int)] else out))))
  (d:∀out,step (f g out)=some (.inr (y out))) {N:Nat} (a:g<N):ar step N (f 0 [])=some (y (ux ((List.range' 1 g).filter p))):=by
 have c:∀(r i:Nat) (out:List Int),i+r=g->out.length<=i->∀N,r<N->ar step N (f i out)=some (y (out++ux ((List.range' (i+1) r).filter p))):=by
  intro r
  induction r with
  | zero=>
   intro i out hi b N a;obtain ⟨N,rfl⟩:∃q,N=q+1:=⟨N - 1,by omega⟩;obtain rfl:i=g:=by omega
   rw [ar,d];simp [ux]
  | succ r ih=>
   intro i out hi b N a;obtain ⟨N,rfl⟩:∃q,N=q+1:=⟨N - 1,by omega⟩;rw [ar,h i out (by omega) (by omega)];show ar step N _=_;by_cases hp:p (i+1)=true
   ·rw [ae hp,ih (i+1) _ (by omega) (by simp;omega) N (by omega),yg,Ro hp];simp [ux]
   ·rw [ab hp,ih (i+1) _ (by omega) (by omega) N (by omega),yg,Re hp]
 have:=c g 0 [] (by omega) (by simp) N a;simpa using this
theorem Oc (n:Nat) (j:100<n) (a b:UInt8) {g:Nat} (h:g<=31):fw n [a,b] (g:Int)=some (ux (fitN [a,b] g)):=by
 unfold fw
 have:=HG (step:=gh n) (f:=λi out=>([a,b],(g:Int),(i:Int),out)) (y:=λl=>l) (p:=agr [a,b]) (g:=g) (by omega)
  (λi out hi e=>by
   have c:IntKind.wrap .i64 ((i:Int)+1)=((i+1:Nat):Int):=by rw [wrap_i64 _ (by omega) (by omega)];omega
   unfold gh;simp only [c];rw [am (show (i:Int)<(g:Int) by omega),JO n a b (by omega),room (by omega)];by_cases hp:agr [a,b] (i+1)=true
   ·rw [ae hp];simp only [ob,hp,ah]
   ·rw [ab hp];rw [HC] at hp;simp only [ob,hp,ah,af])
  (λout=>by
   unfold gh;simp only [aq (show ¬(g:Int)<(g:Int) by omega),af])
  (N:=n) (by omega)
 have d:ar (gh n) n ([a,b],(g:Int),0,([]:List Int))=_:=this;rw [d];rfl
def monI (m:aa):List Int:=if m=[] then [0] else if 0<sea m then [sea m] else ux (fitN m 12)
def dayI (d:aa):List Int:=if d=[] then [0] else ux (fitN d 31)
theorem gj {l:aa} (h:l≠[]):(l==([]:aa))=false:=aK.2 h
theorem len2 {s:aa} (h:s.length=2):∃a b,s=[a,b]:=by
 match s,h with
 | [a,b],_=>exact ⟨a,b,rfl⟩
theorem X5 (n:Nat) (k:100<n) (g l:Bool) (dg:aa) (x q:Int) (m d:aa) (k0 k1 k2:Int) (j:m=[]\/m.length=2) (o:d=[]\/d.length=2):
  pP n g l dg x q m d k0 k1 k2=some (g,l,dg,x,q,m,d,k0,k1,k2,monI m,dayI d):=by
 have f:m.length<=18:=by rcases j with h | h;(rw [h];simp);omega
 have i:d≠[]->fw n d 31=some (dayI d):=λh=>by
  obtain ⟨a,b,rfl⟩:=len2 (o.resolve_left h);rw [show (31:Int)=((31:Nat):Int) from rfl,Oc n k a b (by omega)];unfold dayI;rw [ab h]
 have e:d=[]->dayI d=[0]:=λh=>by unfold dayI;rw [ae h]
 have p:m≠[]->¬0<sea m->fw n m 12=some (monI m):=λh hs=>by
  obtain ⟨a,b,rfl⟩:=len2 (j.resolve_left h);rw [show (12:Int)=((12:Nat):Int) from rfl,Oc n k a b (by omega)];unfold monI;rw [ab h,ab hs]
 unfold pP;rw [qM n g l dg x q m d k0 k1 k2 f];simp only [ob];by_cases hs:0<sea m
 ·have c:m≠[]:=by rintro rfl;exact absurd hs (by decide)
  have hm':monI m=[sea m]:=by unfold monI;rw [ab c,ae hs]
  rw [am hs];by_cases h:d=[]
  ·rw [h,<-h,e h,hm',h];rfl
  ·rw [gj h,i h,hm'];rfl
 ·rw [aq hs];by_cases c:m=[]
  ·have hm':monI m=[0]:=by unfold monI;rw [ae c]
   by_cases h:d=[]
   ·rw [e h,hm',h,c];rfl
   ·rw [gj h,i h,hm',c];rfl
  ·rw [gj c,p c hs];by_cases h:d=[]
   ·rw [e h,h];rfl
   ·rw [gj h,i h];rfl
theorem I2 (n:Nat) (e:100<n) (g l:Bool) (dg:aa) (x q:Int) (m d:aa) (k0 k1 k2:Int):jH n g l dg x q m d k0 k1 k2=some (monI m):=by
 unfold jH;by_cases a:m=[]
 ·unfold monI;rw [ae a,a];rfl
 ·rw [gj a,pF n e];simp only [ob,af];unfold monI;rw [ab a];by_cases hs:0<sea m
  ·rw [ae hs,am (show sea m>0 from hs)];rfl
  ·rw [ab hs,aq (show ¬sea m>0 from hs)]
   have:=HG (step:=dQ n) (f:=λi out=>(((i+1:Nat):Int),g,l,dg,x,q,m,d,k0,k1,k2,out)) (y:=λl=>l) (p:=agr m) (g:=12) (by omega)
    (λi out hi h=>by
     have c:IntKind.wrap .i64 (((i+1:Nat):Int)+1)=((i+1+1:Nat):Int):=by rw [wrap_i64 _ (by omega) (by omega)];omega
     unfold dQ;simp only [d4,d8,c];rw [am (show ((i+1:Nat):Int)<=12 by omega),vg n m (i+1) (by omega),room (by omega)];by_cases hp:agr m (i+1)=true
     ·rw [ae hp,ae hp];rfl
     ·rw [ab hp,ab hp];rfl)
    (λout=>by
     unfold dQ;simp only [d4,d8,aq (show ¬((12+1:Nat):Int)<=12 by omega),af])
    (N:=n) (by omega)
   have b:ar (dQ n) n (1,g,l,dg,x,q,m,d,k0,k1,k2,([]:List Int))=_:=this;rw [b];rfl
def tA (y:Int):Bool:=decide (y%4=0)&&(decide (y%100≠0)||decide (y%400=0))
def lenI (y m:Int):Int:=if m=4\/m=6\/m=9\/m=11 then 30 else if m=2 then (if tA y then 29 else 28) else 31
theorem NP (y:Int) {b:Int} (d:0<b):(Int.tmod y b==0)=decide (y%b=0):=by
 rw [us,bI,decide_eq_true_iff];have h:=JI (a:=y) (b:=b);have g:=Lq y (show b≠0 by omega);have f:=LH y d;by_cases hc:0<=y\/b∣y
 ·rw [ae hc] at h;omega
 ·rw [ab hc] at h;have c:¬b∣y:=λe=>hc (.inr e);have:y%b≠0:=λe=>c (MI e);omega
theorem Ap (n:Nat) (y m:Int):eK n y m=some (lenI y m):=by
 have b:(Int.tmod y 100 != 0)=decide (y%100≠0):=by
  rw [bne,NP y (by omega)];by_cases h:y%100=0<;>simp [h]
 unfold eK;rw [NP y (by omega),NP y (by omega),b];have body:(cond (m==2) (cond (decide (y%4=0)) (cond (decide (y%100≠0)) (some (29:Int)) (cond (decide (y%400=0)) (some 29) (some 28))) (some 28)) (some 31))=some (if m=2 then (if tA y=true then 29 else 28) else 31):=by
  rw [kl];by_cases c:m=2
  ·rw [ae c,ae c];unfold tA;cases decide (y%4=0)<;>cases decide (y%100≠0)<;>cases decide (y%400=0)<;>rfl
  ·rw [ab c,ab c]
 rw [body];unfold lenI;by_cases e:m=4
 ·subst e;rfl
 ·by_cases f:m=6
  ·subst f;rfl
  ·by_cases d:m=9
   ·subst d;rfl
   ·by_cases a:m=11
    ·subst a;rfl
    ·rw [aK.2 e,aK.2 f,aK.2 d,aK.2 a,ab (show ¬(m=4\/m=6\/m=9\/m=11) by omega)];rfl
theorem wC (n:Nat) {y:Int} (h:-20000000000000000<=y/\y<=20000000000000000):fJ n y=some (1+(y - 1) / 4 - (y - 1) / 100+(y - 1) / 400):=by
 unfold fJ;rw [wrap_i64 (y - 1) (by omega) (by omega),wV n (by omega) (by omega) (by omega) (by omega),wV n (by omega) (by omega) (by omega) (by omega),wV n (by omega) (by omega) (by omega) (by omega)];show some _=some _;have f:-5000000000000001<=(y - 1) / 4/\(y - 1) / 4<=5000000000000001:=by omega
 have e:-5000000000000001<=(y - 1) / 100/\(y - 1) / 100<=5000000000000001:=by omega
 have d:-5000000000000001<=(y - 1) / 400/\(y - 1) / 400<=5000000000000001:=by omega
 generalize (y - 1) / 4=a at *;generalize (y - 1) / 100=b at *;generalize (y - 1) / 400=c at *;simp only [];rw [wrap_i64 (1*a) (by omega) (by omega),wrap_i64 (-1*b) (by omega) (by omega),wrap_i64 (1*c) (by omega) (by omega),wrap_i64 (1+1*a) (by omega) (by omega),wrap_i64 (1+1*a+-1*b) (by omega) (by omega),wrap_i64 _ (by omega) (by omega)];congr 1;omega
theorem PT (y:Int):(1+y / 4 - y / 100+y / 400>1+(y - 1) / 4 - (y - 1) / 100+(y - 1) / 400)↔tA y=true:=by
 unfold tA;simp only [aA,iV,cn];omega
theorem SU (n:Nat) {y:Int} (h:ee y):kN n y=some (tA y,0):=by
 unfold kN;have h':=h;unfold ee at h';rw [gy,ae h,wrap_i64 (y+1) (by omega) (by omega),wC n (by omega),wC n (by omega),show y+1 - 1=y by omega];have b:=PT y;show some (decide (1+y / 4 - y / 100+y / 400>1+(y - 1) / 4 - (y - 1) / 100+(y - 1) / 400),(0:Int))=_;by_cases a:tA y=true
 ·rw [a,am (b.2 a)]
 ·rw [HC] at a;rw [a,aq (λe=>by rw [b.1 e] at a;cases a)]
theorem yF (n:Nat) {y:Int} (h:ee y) {m:Nat} (d:1<=m) (c:m<=12):eJ n y (m:Int)=some (lenI y (m:Int)):=by
 unfold eJ;rw [SU n h];show cond (tA y&&((m:Int)==2)) _ _=_;have a:IntKind.wrap .i64 ((m:Int) - 1)=((m - 1:Nat):Int):=by rw [wrap_i64 _ (by omega) (by omega)];omega
 rw [a,dZ (show m - 1<12 by omega)];have b:m=1\/m=2\/m=3\/m=4\/m=5\/m=6\/m=7\/m=8\/m=9\/m=10\/m=11\/m=12:=by omega
 rcases b with rfl | rfl | rfl | rfl | rfl | rfl | rfl | rfl | rfl | rfl | rfl | rfl<;>unfold lenI<;>cases tA y<;>rfl
theorem LW (n:Nat) {y:Int} (h:ee y) {m:Nat} (b:1<=m) (a:m<=12):o6 n y (m:Int)=some (lenI y (m:Int),0):=by
 unfold o6;rw [G6 n h b a,yF n h b a];rfl
theorem lU (y m:Int):28<=lenI y m/\lenI y m<=31:=by
 unfold lenI;split
 ·omega
 ·split
  ·split<;>omega
  ·omega
def wL (d:aa) (y m:Int):Int:=if d=[] then 0 else lenI y m
def vw (d:aa) (y a:Int):List (Int×Int×Int):=((dayI d).filter λk=>decide (k<=wL d y a)).map λk=>(y,a,k)
def wW (m d:aa) (y:Int):List (Int×Int×Int):=(monI m).flatMap (vw d y)
theorem Om {X Y A:Type} {step:X->Option (X⊕Y)} {f:Nat->List A->X} {y:List A->Y} {p:Nat->Bool} {e:Nat->A} {g:Nat} (a:List A)
  (h:∀i out,i<g->out.length<=a.length+i->step (f i out)=some (.inl (f (i+1) (if p (i+1) then out++[e (i+1)] else out))))
  (j:∀out,step (f g out)=some (.inr (y out))) {N:Nat} (b:g<N):ar step N (f 0 a)=some (y (a++((List.range' 1 g).filter p).map e)):=by
 have d:∀(r i:Nat) (out:List A),i+r=g->out.length<=a.length+i->∀N,r<N->ar step N (f i out)=some (y (out++((List.range' (i+1) r).filter p).map e)):=by
  intro r
  induction r with
  | zero=>
   intro i out hi c N b;obtain ⟨N,rfl⟩:∃q,N=q+1:=⟨N - 1,by omega⟩;obtain rfl:i=g:=by omega
   rw [ar,j];simp
  | succ r ih=>
   intro i out hi c N b;obtain ⟨N,rfl⟩:∃q,N=q+1:=⟨N - 1,by omega⟩;rw [ar,h i out (by omega) (by omega)];show ar step N _=_;by_cases hp:p (i+1)=true
   ·rw [ae hp,ih (i+1) _ (by omega) (by simp;omega) N (by omega),yg,Ro hp];simp
   ·rw [ab hp,ih (i+1) _ (by omega) (by omega) N (by omega),yg,Re hp]
 exact d g 0 a (by omega) (by omega) N b
theorem MU {X Y A B:Type} {step:X->Option (X⊕Y)} {f:Nat->List A->X} {y:List A->Y} {F:B->List A} {L:List B} {c:Nat} (hc:∀b∈L,(F b).length<=c)
  (h:∀i b out,L[i]?=some b->out.length<=c*i->step (f i out)=some (.inl (f (i+1) (out++F b))))
  (j:∀out,step (f L.length out)=some (.inr (y out))) {N:Nat} (a:L.length<N):ar step N (f 0 [])=some (y (L.flatMap F)):=by
 have e:∀(r i:Nat) (out:List A),i+r=L.length->out.length<=c*i->∀N,r<N->ar step N (f i out)=some (y (out++(L.drop i).flatMap F)):=by
  intro r
  induction r with
  | zero=>
   intro i out hi d N a;obtain ⟨N,rfl⟩:∃q,N=q+1:=⟨N - 1,by omega⟩;obtain rfl:i=L.length:=by omega
   rw [ar,j];simp
  | succ r ih=>
   intro i out hi d N a;obtain ⟨N,rfl⟩:∃q,N=q+1:=⟨N - 1,by omega⟩;have g:L[i]?=some L[i]:=bf (by omega);rw [ar,h i L[i] out g d];show ar step N _=_;have k:=hc L[i] (Ig _);rw [ih (i+1) _ (by omega) (by rw [bg,Nat.mul_add];omega) N (by omega),qE (show i<L.length by omega),oC,fN]
 have:=e L.length 0 [] (by omega) (by simp) N a;simpa using this
theorem SZ (d:aa) (L:Nat) (h:L<=31):(ux (fitN d 31)).filter (λk=>decide (k<=(L:Int)))=ux ((List.range' 1 L).filter (agr d)):=by
 have hs:List.range' 1 31=List.range' 1 L++List.range' (1+L) (31 - L):=by
  have:=List.range'_append_1 (s:=1) (m:=L) (n:=31 - L);rw [this,show L+(31 - L)=31 by omega]
 unfold fitN ux;rw [hs,Le,Ge,Le];have c:(List.map (λk:Nat=>(k:Int)) (List.filter (agr d) (List.range' 1 L))).filter (λk=>decide (k<=(L:Int)))=List.map (λk:Nat=>(k:Int)) (List.filter (agr d) (List.range' 1 L)):=by
  rw [List.filter_eq_self];intro k b;obtain ⟨j,a,rfl⟩:=eY.1 b;have:=BL.1 (oh.1 a).1;exact am (by omega)
 have e:(List.map (λk:Nat=>(k:Int)) (List.filter (agr d) (List.range' (1+L) (31 - L)))).filter (λk=>decide (k<=(L:Int)))=[]:=by
  rw [List.filter_eq_nil_iff];intro k b;obtain ⟨j,a,rfl⟩:=eY.1 b;have:=BL.1 (oh.1 a).1;simp only [cn];omega
 rw [c,e,lO]
theorem Ic (s:aa) (g:Nat):(fitN s g).length<=g:=by
 have:=Cc (agr s) (List.range' 1 g);rw [List.length_range'] at this;exact this
theorem He (d:aa):(dayI d).length<=31:=by
 unfold dayI;split
 ·simp
 ·rw [DD];exact Ic d 31
theorem G2 (m:aa):(monI m).length<=12:=by
 unfold monI;split
 ·simp
 ·split
  ·simp
  ·rw [DD];exact Ic m 12
theorem Jq (d:aa) (y a:Int):(vw d y a).length<=31:=by
 unfold vw;rw [xp];exact qX (Cc _ _) (He d)
theorem LJ (y a:Int):vw [] y a=[(y,a,0)]:=rfl
theorem Ja {d:aa} (h:d≠[]) (y a:Int):vw d y a=((List.range' 1 (lenI y a).toNat).filter (agr d)).map λk:Nat=>(y,a,(k:Int)):=by
 have b:=lU y a;unfold vw dayI wL;rw [ab h,ab h];have:=SZ d (lenI y a).toNat (by omega);rw [show (((lenI y a).toNat:Nat):Int)=lenI y a by omega] at this;rw [this,ux,tn];rfl
theorem Jp (n:Nat) (A:100<n) (g l:Bool) (dg:aa) (x q:Int) (m d:aa) (k0 k1 k2 y:Int):
  kW n g l dg x q m d k0 k1 k2 y=some (wW m d y):=by
 have u:=G2 m;unfold kW;rw [I2 n A];have:=MU (step:=eX n) (f:=λi out=>(y,(i:Int),g,l,dg,x,q,m,d,k0,k1,k2,monI m,out)) (y:=λo=>o) (F:=vw d y) (L:=monI m) (c:=31) (λb _=>Jq d y b)
  (λi h out hi C=>by
   have a:i<(monI m).length:=(qH.1 hi).1;have t:IntKind.wrap .i64 ((i:Int)+1)=((i+1:Nat):Int):=by rw [wrap_i64 _ (by omega) (by omega)];omega
   unfold eX;simp only [d4,d8,t];rw [am (show (i:Int)<(((monI m).length:Nat):Int) by omega),dZ a];by_cases r:d=[]
   ·subst r;rw [LJ];simp only [ob,hi,ah,room (show out.length<=60000000 by omega)];rfl
   ·rw [gj r];have D:=lU y h;have s:=Om (step:=eW n) (f:=λj o=>(y,(i:Int),((j+1:Nat):Int),g,l,dg,x,q,m,d,k0,k1,k2,monI m,o)) (y:=λo=>(y,(i:Int),g,l,dg,x,q,m,d,k0,k1,k2,monI m,o)) (p:=agr d) (e:=λk=>(y,h,(k:Int))) (g:=(lenI y h).toNat) out
     (λj o B w=>by
      have v:IntKind.wrap .i64 (((j+1:Nat):Int)+1)=((j+1+1:Nat):Int):=by rw [wrap_i64 _ (by omega) (by omega)];omega
      unfold eW;simp only [d4,d8,v,dZ a,ob,hi,Ap];rw [am (show ((j+1:Nat):Int)<=lenI y h by omega),vg n d (j+1) (by omega),room (show o.length<=60000000 by omega)];by_cases hp:agr d (j+1)=true
      ·rw [ae hp,ae hp];rfl
      ·rw [ab hp,ab hp];rfl)
     (λo=>by
      unfold eW;simp only [d4,d8,dZ a,ob,hi,Ap];rw [aq (show ¬(((lenI y h).toNat+1:Nat):Int)<=lenI y h by omega)];rfl)
     (N:=n) (by omega)
    have hin':ar (eW n) n (y,(i:Int),1,g,l,dg,x,q,m,d,k0,k1,k2,monI m,out)=_:=s;simp only [ah,af];rw [hin',Ja r];simp only [ob,d4,d8,t])
  (λout=>by
   unfold eX;simp only [d4,d8];rw [aq (show ¬(((monI m).length:Nat):Int)<(((monI m).length:Nat):Int) by omega)];rfl)
  (N:=n) (by omega)
 have z:ar (eX n) n (y,0,g,l,dg,x,q,m,d,k0,k1,k2,monI m,([]:List (Int×Int×Int)))=_:=this;simp only [ob];rw [z];rfl
theorem Xb {a b c e:UInt8} (k:bB a=true\/a=88) (j:bB b=true\/b=88) (hc:bB c=true\/c=88) (l:bB e=true\/e=88) (w:Nat):
  mtk [a,b,c,e] 4 w=Mk.ag [e,c,b,a] (w:Int):=by
 have one:∀(z:UInt8) (v:Nat),(decide (z=88)||decide (z.toNat=48+v%10))=(decide (z=88)||decide (Mk.dv z=(v:Int)%10)):=by
  intro z v;have:(z.toNat=48+v%10)↔(Mk.dv z=(v:Int)%10):=by unfold Mk.dv;omega
  rw [nX.2 this]
 have d:∀v:Nat,(v:Int) / 10=((v / 10:Nat):Int):=λv=>by omega
 show ((decide (e=88)||decide (e.toNat=48+w%10))&&((decide (c=88)||decide (c.toNat=48+w / 10%10))&&((decide (b=88)||decide (b.toNat=48+w / 10 / 10%10))&&((decide (a=88)||decide (a.toNat=48+w / 10 / 10 / 10%10))&&true))))
  = ((((true&&(decide (a=88)||decide (Mk.dv a=(w:Int) / 10 / 10 / 10%10)))&&(decide (b=88)||decide (Mk.dv b=(w:Int) / 10 / 10%10)))&&(decide (c=88)||decide (Mk.dv c=(w:Int) / 10%10)))&&(decide (e=88)||decide (Mk.dv e=(w:Int)%10)))
 rw [one e w,one c (w / 10),one b (w / 10 / 10),one a (w / 10 / 10 / 10),d w,d (w / 10),d (w / 10 / 10)];generalize (decide (e=88)||decide (Mk.dv e=(w:Int)%10))=i;generalize (decide (c=88)||decide (Mk.dv c=((w / 10:Nat):Int)%10))=f;generalize (decide (b=88)||decide (Mk.dv b=((w / 10 / 10:Nat):Int)%10))=g;generalize (decide (a=88)||decide (Mk.dv a=((w / 10 / 10 / 10:Nat):Int)%10))=h;cases i<;>cases f<;>cases g<;>cases h<;>rfl
theorem Rx {c:UInt8} (h:bB c=true\/c=88):Mk.okB c=true:=by
 rcases h with h | h
 ·have h:=(cw c).1 h;unfold Mk.okB;simp only [iV,aA,cn];right
  first | omega | (obtain ⟨b,a⟩:=h;constructor<;>omega)
 ·subst h;decide
theorem PM {d:aa} (a:d.length=4) (h:∀c∈d,bB c=true\/c=88):Mk.chk d=0:=by
 unfold Mk.chk;have:d.all Mk.okB=true:=cK.2 λc hc=>Rx (h c hc);rw [ab (by omega),ae this,ab (by rintro rfl;simp at a)]
theorem Hz {d:aa} (i:d.length=4) (h:∀c∈d,bB c=true\/c=88) (w:Nat):Mk.hasM d (w:Int)=true↔mtk d 4 w=true/\w / 10 ^ 4=0:=by
 obtain ⟨a,b,c,e,rfl⟩:∃a b c e,d=[a,b,c,e]:=by
  match d,i with
  | [a,b,c,e],_=>exact ⟨a,b,c,e,rfl⟩
 rw [Mk.F6,Xb (h a (by simp)) (h b (by simp)) (h c (by simp)) (h e (by simp)) w];simp only [aA,cn];show 0<=(w:Int)/\(w:Int)<10 ^ 4/\Mk.ag [e,c,b,a] (w:Int)=true↔Mk.ag [e,c,b,a] (w:Int)=true/\w / 10 ^ 4=0;have j:(10:Int) ^ 4=10000:=by decide
 have e4':(10:Nat) ^ 4=10000:=by decide
 rw [j,e4'];constructor
 ·rintro ⟨_,g,f⟩;exact ⟨f,by omega⟩
 ·rintro ⟨f,g⟩;exact ⟨by omega,by omega,f⟩
theorem GZ {g l:Bool} {d:aa} {x q:Int} (c:okY g l d x q) (a:hasX d=true) (v:Int):inP g d x q v↔(Mk.hasM d (wOf g v)=true/\(g=true->1<=wOf g v)):=by
 obtain ⟨rfl,rfl,rfl,h,i⟩:=rL c a;unfold inP;rw [Hh a];have r:∀k:Int,Mk.hasM d k=true->0<=k/\k<10000:=λk m=>by
  have:=(Mk.oL m).2.2.2.2;rw [h] at this;have w:(10:Int) ^ 4=10000:=by decide
  omega
 constructor
 ·rintro ⟨b,j,s,n,p⟩;have:=(Hz h i (wOf g v).toNat).2 p;rw [show (((wOf g v).toNat:Nat):Int)=wOf g v by omega] at this;refine ⟨this,λf=>?_⟩;have u:¬wOf g v=0:=λe=>n ⟨a,f,e⟩;omega
 ·rintro ⟨b,j⟩;have hr':=r _ b;have o:=(Hz h i (wOf g v).toNat).1 (by rw [show (((wOf g v).toNat:Nat):Int)=wOf g v by omega];exact b);have t:v=wOf g v\/v=- wOf g v:=by
   unfold wOf;split
   ·right;omega
   ·left;rfl
  refine ⟨by omega,by omega,hr'.1,?_,o⟩;rintro ⟨_,f,e⟩;have:=j f;omega
theorem EO {g l:Bool} {d:aa} {x:Int} (b:okY g l d x 0) (a:hasX d=false) (v:Int):inP g d x 0 v↔v=(if g then -((val d x.toNat:Nat):Int) else ((val d x.toNat:Nat):Int)):=by
 obtain ⟨k,q,rfl,n,m⟩:=uu b a;have hs:=m.small;have e:dval 0 d*10 ^ k=val d k:=rfl;rw [e] at hs;unfold E16 at hs;unfold inP;rw [Ri a];have h:FT d (k:Int).toNat (0:Int).toNat=1:=rfl;rw [h,cg,tG,tG,a];unfold wOf;cases g with
 | true=>
  simp only [aL];constructor
  ·rintro ⟨f,i,c,_,j⟩;omega
  ·rintro rfl;refine ⟨by omega,by omega,by omega,by simp,by omega⟩
 | false=>
  simp only [bv,aB];constructor
  ·rintro ⟨f,i,c,_,j⟩;omega
  ·rintro rfl;refine ⟨by omega,by omega,by omega,by simp,by omega⟩
def F5 (up:Bool) (Y:Int->Prop) (v w:Int) (a:Bool):Prop:=
 (a=true->Y w/\Mk.fq up v w/\∀e,Y e->Mk.fq up v e->Mk.fq up w e)/\(a=false->∀e,Y e->¬Mk.fq up v e)
theorem fi (a b:Int):Mk.fq true a b↔a<=b:=Iff.rfl
theorem iy (a b:Int):Mk.fq false a b↔b<=a:=Iff.rfl
theorem Rk (o:Option Int):(Mk.res o).2=0/\(∃r,o=some r/\(Mk.res o).1=r)\/(Mk.res o).2=16/\o=none/\(Mk.res o).1=0:=by
 cases o with
 | none=>exact .inr ⟨rfl,rfl,rfl⟩
 | some r=>exact .inl ⟨rfl,r,rfl,rfl⟩
theorem vz {m:aa} (j:Mk.chk m=0) (v a:Int) (q:0<=a):∃w f,fM 20000000 m v true a=some (w,f)/\F5 true (λe=>Mk.hasM m e=true/\a<=e) v w f/\(0<=w/\w<1000000000000000000):=by
 obtain ⟨o,k,c⟩:=Mk.Ln j (cond (decide (a>v)) a v);unfold fM;rw [k];simp only [ob,ah];have hc:(cond (decide (a>v)) a v)=max v a:=by
  by_cases h:a>v
  ·rw [am h];show a=_;omega
  ·rw [aq h];show v=_;omega
 rw [hc] at c;rcases Rk o with ⟨i,r,rfl,d⟩ | ⟨i,rfl,d⟩
 ·refine ⟨_,_,rfl,?_,?_⟩
  ·rw [i,d];obtain ⟨a1,a2,p⟩:=c;rw [fi] at a2;refine ⟨λ_=>⟨⟨a1,by omega⟩,?_,λe b g=>?_⟩,λh=>by cases h⟩
   ·rw [fi];omega
   ·rw [fi] at g;exact p e b.1 (by rw [fi];have:=b.2;omega)
  ·have:=(Mk.oL c.1).2.2.2.2;have l:=Mk.n6 j;have hp:(10:Int) ^ m.length<=10 ^ 18:=by
    have:=oI (show 0<10 by decide) l.1
    exact_mod_cast this
   have n:(10:Int) ^ 18=1000000000000000000:=by decide
   rw [d];omega
 ·refine ⟨_,_,rfl,?_,by rw [d];omega⟩;rw [i];refine ⟨(λh=>by cases h),λ_ e b g=>?_⟩;rw [fi] at g;exact c e b.1 (by rw [fi];have:=b.2;omega)
theorem vF {m:aa} (j:Mk.chk m=0) (v a:Int) (s:0<=a):∃w f,fM 20000000 m v false a=some (w,f)/\F5 false (λe=>Mk.hasM m e=true/\a<=e) v w f/\(0<=w/\w<1000000000000000000):=by
 obtain ⟨o,n,k⟩:=Mk.MK j v;unfold fM;rw [n];simp only [ob,af];rcases Rk o with ⟨g,r,rfl,i⟩ | ⟨g,rfl,i⟩
 ·rw [g,i];obtain ⟨a1,a2,l⟩:=k;rw [iy] at a2;have t:=(Mk.oL a1).2.2.2.2;have p:=Mk.n6 j;have hp:(10:Int) ^ m.length<=10 ^ 18:=by
   have:=oI (show 0<10 by decide) p.1
   exact_mod_cast this
  have q:(10:Int) ^ 18=1000000000000000000:=by decide
  refine ⟨_,_,rfl,?_,by omega⟩;by_cases d:r>=a
  ·rw [am d];refine ⟨λ_=>⟨⟨a1,by omega⟩,by rw [iy];omega,λe b c=>l e b.1 c⟩,λh=>by cases h⟩
  ·rw [aq d];refine ⟨(λh=>by cases h),λ_ e b c=>?_⟩;have:=l e b.1 c;rw [iy] at this;have:=b.2;omega
 ·rw [g,i];refine ⟨_,_,rfl,?_,by omega⟩;refine ⟨(λh=>by cases h),λ_ e b c=>k e b.1 c⟩
theorem KQ {g l:Bool} {dg:aa} {x:Int} (j:okY g l dg x 0) (m d:aa) (k0 k1 k2:Int) (v:Int) (G:-9223372036854775808<=v/\v<9223372036854775808) (up:Bool) (E C:List Int):
  ∃w f,cr 20000000 g l dg x 0 m d k0 k1 k2 v up E C=some (w,f)/\F5 up (inP g dg x 0) v w f:=by
 have B:=kg j;unfold cr;rw [tU];simp only [ob];cases t:hasX dg with
 | false=>
  have c:=EO j t;rw [AP 20000000 g l dg x 0 (by omega) (by omega),ae ⟨j,t⟩];simp only [il,ah];generalize (if g then -((val dg x.toNat:Nat):Int) else ((val dg x.toNat:Nat):Int))=w at *;cases up with
  | true=>
   by_cases h:w>=v
   ·refine ⟨w,true,?_,?_⟩
    ·simp only [am h,ah]
    ·refine ⟨λ_=>⟨(c w).2 rfl,h,λe b _=>?_⟩,λh=>by cases h⟩;rw [(c e).1 b];exact xW _
   ·refine ⟨w,false,?_,?_⟩
    ·simp only [aq h,ah,af,ci]
    ·refine ⟨(λh=>by cases h),λ_ e b k=>?_⟩;rw [(c e).1 b,fi] at k;omega
  | false=>
   by_cases h:w<=v
   ·refine ⟨w,true,?_,?_⟩
    ·simp only [am h,ah,af,il]
    ·refine ⟨λ_=>⟨(c w).2 rfl,h,λe b _=>?_⟩,λh=>by cases h⟩;rw [(c e).1 b];exact xW _
   ·refine ⟨w,false,?_,?_⟩
    ·simp only [aq h,ah,af,il]
    ·refine ⟨(λh=>by cases h),λ_ e b k=>?_⟩;rw [(c e).1 b,iy] at k;omega
 | true=>
  have c:=GZ j t;obtain ⟨rfl,rfl,_,A,D⟩:=rL j t;have s:=PM A D;simp only [ci,af];cases g with
  | false=>
   simp only [il,ah];have q:∀w f,F5 up (λe=>Mk.hasM dg e=true/\0<=e) v w f->F5 up (inP false dg 0 0) v w f:=λw f h=>by
    have a:∀e,(Mk.hasM dg e=true/\0<=e)↔inP false dg 0 0 e:=λe=>by
     rw [c e];constructor
     ·rintro ⟨i,_⟩;exact ⟨i,λh=>by cases h⟩
     ·rintro ⟨i,_⟩;exact ⟨i,(Mk.oL i).2.2.2.2.1⟩
    refine ⟨λn=>?_,λn e b=>h.2 n e ((a e).2 b)⟩;obtain ⟨b1,b2,r⟩:=h.1 n;exact ⟨(a w).1 b1,b2,λe b=>r e ((a e).2 b)⟩
   cases up with
   | true=>
    obtain ⟨w,f,i,p,_⟩:=vz s v 0 (by omega);exact ⟨w,f,by rw [i],q w f p⟩
   | false=>
    obtain ⟨w,f,i,p,_⟩:=vF s v 0 (by omega);exact ⟨w,f,by rw [i],q w f p⟩
  | true=>
   simp only [ci,af];have hc:IntKind.wrap .i64 (0 - (cond (decide (((-9223372036854775807):Int)>v)) (-9223372036854775807) v))=min (-v) 9223372036854775807:=by
    by_cases h:((-9223372036854775807):Int)>v
    ·rw [am h,ah,wrap_i64 _ (by omega) (by omega)];omega
    ·rw [aq h,af,wrap_i64 _ (by omega) (by omega)];omega
   rw [hc];have y:∀e,Mk.hasM dg e=true->0<=e/\e<10000:=λe b=>by
    have:=(Mk.oL b).2.2.2.2;rw [A] at this;have H:(10:Int) ^ 4=10000:=by decide
    omega
   have a:∀e,inP true dg 0 0 e↔(Mk.hasM dg (-e)=true/\1<=-e):=λe=>by
    rw [c e];exact ⟨λh=>⟨h.1,h.2 rfl⟩,λh=>⟨h.1,λ_=>h.2⟩⟩
   have z:∀w:Int,0<=w/\w<1000000000000000000->IntKind.wrap .i64 (0 - w)=-w:=λw h=>by rw [wrap_i64 _ (by omega) (by omega)];omega
   cases up with
   | true=>
    obtain ⟨w,f,i,p,u⟩:=vF s (min (-v) 9223372036854775807) 1 (by omega);refine ⟨-w,f,by rw [ci,i];simp only [z w u],?_,?_⟩
    ·intro n;obtain ⟨b1,b2,r⟩:=p.1 n;rw [iy] at b2;refine ⟨(a _).2 (by rw [Int.neg_neg];exact b1),by rw [fi];omega,λe b k=>?_⟩;rw [fi] at k;have o:=(a e).1 b;have:=r (-e) o (by rw [iy];have:=y _ o.1;omega);rw [iy] at this;rw [fi];omega
    ·intro n e b k;rw [fi] at k;have o:=(a e).1 b;exact p.2 n (-e) o (by rw [iy];have:=y _ o.1;omega)
   | false=>
    obtain ⟨w,f,i,p,u⟩:=vz s (min (-v) 9223372036854775807) 1 (by omega);refine ⟨-w,f,by rw [il,i];simp only [z w u],?_,?_⟩
    ·intro n;obtain ⟨b1,b2,r⟩:=p.1 n;rw [fi] at b2;have F:=y _ b1.1;refine ⟨(a _).2 (by rw [Int.neg_neg];exact b1),by rw [iy];omega,λe b k=>?_⟩;rw [iy] at k;have o:=(a e).1 b;have:=r (-e) o (by rw [fi];omega);rw [fi] at this;rw [iy];omega
    ·intro n e b k;rw [iy] at k;have o:=(a e).1 b;exact p.2 n (-e) o (by rw [fi];omega)
theorem tN {X Y A:Type} {step:X->Option (X⊕Y)} {f:Nat->X} {L:List A} {G:A->Option Y} {e:Y}
  (h:∀i a,L[i]?=some a->step (f i)=some ((G a).elim (.inl (f (i+1))) Sum.inr)) (g:step (f L.length)=some (.inr e)) {N:Nat} (b:L.length<N):
  ar step N (f 0)=some ((L.findSome? G).getD e):=by
 have c:∀(r i:Nat),i+r=L.length->∀N,r<N->ar step N (f i)=some (((L.drop i).findSome? G).getD e):=by
  intro r
  induction r with
  | zero=>
   intro i hi N b;obtain ⟨N,rfl⟩:∃q,N=q+1:=⟨N - 1,by omega⟩;obtain rfl:i=L.length:=by omega
   rw [ar,g];simp
  | succ r ih=>
   intro i hi N b;obtain ⟨N,rfl⟩:∃q,N=q+1:=⟨N - 1,by omega⟩;have d:L[i]?=some L[i]:=bf (by omega);rw [ar,h i L[i] d,qE (show i<L.length by omega),Df];cases j:G L[i] with
   | some y=>rfl
   | none=>exact ih (i+1) (by omega) N (by omega)
 have:=c L.length 0 (by omega) N b;simpa using this
def ahd (up:Bool) (a b:Int):Bool:=cond up (decide (a<b)) (decide (a>b))
theorem HY (n:Nat) (a b:Int) (up:Bool):cS n a b up=some (ahd up a b):=by
 unfold cS ahd;cases up
 ·rfl
 ·simp only [ah,ci,af];cases decide (a<b)<;>rfl
def BG (up a:Bool) (d:aa) (b most k:Int):Bool:=decide (k<=most)&&!(a&&(!(d==([]:aa))&&ahd up k b))
def Nb (up:Bool) (m:aa) (c a y b:Int):Bool:=(y==c)&&(!(m==([]:aa))&&ahd up b a)
def Jr (m:aa) (c a y b:Int):Bool:=(y==c)&&((m==([]:aa))||(b==a))
def F9 (up:Bool) (m d:aa) (b c f y:Int) (e:List Int) (a:Int):Option (Int×Int×Int):=
 if Nb up m b c y a then none else (e.find? (BG up (Jr m b c y a) d f (wL d y a))).map λk=>(y,a,k)
def Fa (up:Bool) (m d:aa) (b e f:Int) (c a:List Int) (y:Int):Option (Int×Int×Int):=c.findSome? (F9 up m d b e f y a)
def Og (d:aa) (b:List Int):Prop:=b.length<=31/\(d≠[]->∀a∈b,1<=a/\a<=12)
theorem MG (n:Nat) (g l:Bool) (dg:aa) (x q:Int) (m d:aa) (k0 k1 k2:Int) {y:Int} (hy:ee y) {a:Int} (c:d≠[]->1<=a/\a<=12) (e f:List Int):
  fh n g l dg x q m d k0 k1 k2 y a e f=some (wL d y a):=by
 unfold fh wL;by_cases b:d=[]
 ·subst b;rfl
 ·rw [gj b,ab b];have:=c b;obtain ⟨k,rfl⟩:∃k:Nat,a=(k:Int):=⟨a.toNat,by omega⟩;rw [af,LW n hy (by omega) (by omega)];rfl
theorem S3 {A B Y:Type} (L:List A) (p:A->Bool) (F:A->B) (J:B->Y) (e:Y):(L.findSome? λa=>if p a then some (J (F a)) else none).getD e=((L.find? p).map F).elim e J:=by
 induction L with
 | nil=>rfl
 | cons a L ih=>
  rw [List.find?_cons,Df];cases h:p a
  ·simpa using ih
  ·simp
theorem Xj {A B Y:Type} (L:List A) (G:A->Option B) (J:B->Y) (e:Y):(L.findSome? λa=>(G a).map J).getD e=(L.findSome? G).elim e J:=by
 induction L with
 | nil=>rfl
 | cons a L ih=>
  rw [Df,Df];cases h:G a
  ·simpa using ih
  ·simp
theorem Qy (n:Nat) (s y e:Int) (a:Bool) (most h t:Int) (p b:List Int) (g l:Bool) (dg:aa) (x q:Int) (m d:aa) (k0 k1 k2 j u c:Int) (up:Bool) (v o rd:Int) (i:Nat) (k:Int) (hi:b[i]?=some k) (w:i<1000):
  bQ n (s,y,e,a,most,h,t,((b.length:Nat):Int),(i:Int),p,b,g,l,dg,x,q,m,d,k0,k1,k2,j,u,c,up,v,o,rd)=some ((if BG up a d c most k then some (.inl (true,y,e,k)) else none).elim (.inl (s,y,e,a,most,h,t,((b.length:Nat):Int),((i+1:Nat):Int),p,b,g,l,dg,x,q,m,d,k0,k1,k2,j,u,c,up,v,o,rd)) Sum.inr):=by
 have f:i<b.length:=(qH.1 hi).1;have r:IntKind.wrap .i64 ((i:Int)+1)=((i+1:Nat):Int):=by rw [wrap_i64 _ (by omega) (by omega)];omega
 unfold bQ iE BG;simp only [d4,d8,d16,dZ f,hi,ob,r,HY];rw [am (show (i:Int)<((b.length:Nat):Int) by omega)];simp only [ah];cases decide (k<=most)<;>cases a<;>cases (d==([]:aa))<;>cases ahd up k c<;>simp only [ci,il,ah,af,r]<;>rfl
theorem Uj (n:Nat) (s y p:Int) (b:Bool) (most c i:Int) (h a:List Int) (g l:Bool) (dg:aa) (x q:Int) (m d:aa) (k0 k1 k2 e k j:Int) (up:Bool) (o f rd:Int):
  bQ n (s,y,p,b,most,c,i,((a.length:Nat):Int),((a.length:Nat):Int),h,a,g,l,dg,x,q,m,d,k0,k1,k2,e,k,j,up,o,f,rd)=some (.inr (.inr (s,y,c,i,h,a,g,l,dg,x,q,m,d,k0,k1,k2,e,k,j,up,o,f,rd))):=by
 unfold bQ;simp only [d4,d8,d16];rw [aq (show ¬((a.length:Nat):Int)<((a.length:Nat):Int) by omega)];rfl
theorem Sv (n:Nat) (B:1000<n) (s y h:Int) (a:Bool) (most j t:Int) (r b:List Int) (g l:Bool) (dg:aa) (x q:Int) (m d:aa) (k0 k1 k2 o u c:Int) (up:Bool) (v p rd:Int) (A:b.length<=31):
  ar (bQ n) n (s,y,h,a,most,j,t,((b.length:Nat):Int),0,r,b,g,l,dg,x,q,m,d,k0,k1,k2,o,u,c,up,v,p,rd)=some (((b.find? (BG up a d c most)).map (λk=>(y,h,k))).elim (.inr (s,y,j,t,r,b,g,l,dg,x,q,m,d,k0,k1,k2,o,u,c,up,v,p,rd)) (λz=>.inl (true,z))):=by
 have:=tN (step:=bQ n) (f:=λi=>(s,y,h,a,most,j,t,((b.length:Nat):Int),(i:Int),r,b,g,l,dg,x,q,m,d,k0,k1,k2,o,u,c,up,v,p,rd)) (L:=b) (G:=λk=>if BG up a d c most k then some (.inl (true,y,h,k)) else none) (e:=.inr (s,y,j,t,r,b,g,l,dg,x,q,m,d,k0,k1,k2,o,u,c,up,v,p,rd))
  (λi k hi=>by
   have w:i<b.length:=(qH.1 hi).1;exact Qy n s y h a most j t r b g l dg x q m d k0 k1 k2 o u c up v p rd i k hi (by omega))
  (Uj n s y h a most j t r b g l dg x q m d k0 k1 k2 o u c up v p rd) (N:=n) (by omega)
 exact this.trans (cj some (S3 b (BG up a d c most) (λk=>(y,h,k)) (λz=>Sum.inl (true,z)) _))
theorem PZ (n:Nat) (D:1000<n) (s y:Int) (hy:ee y) (j p:List Int) (g l:Bool) (dg:aa) (x q:Int) (m d:aa) (k0 k1 k2 e o r:Int) (up:Bool) (u t rd:Int) (A:Og d j) (C:p.length<=31) (i:Nat) (f:Int) (hi:j[i]?=some f):
  cq n (s,y,((j.length:Nat):Int),(i:Int),j,p,g,l,dg,x,q,m,d,k0,k1,k2,e,o,r,up,u,t,rd)=some (((F9 up m d e o r y p f).map (λz=>(.inl (true,z):(Bool×Int×Int×Int)⊕_))).elim (.inl (s,y,((j.length:Nat):Int),((i+1:Nat):Int),j,p,g,l,dg,x,q,m,d,k0,k1,k2,e,o,r,up,u,t,rd)) Sum.inr):=by
 have v:i<j.length:=(qH.1 hi).1;have E:=A.1;have B:IntKind.wrap .i64 ((i:Int)+1)=((i+1:Nat):Int):=by rw [wrap_i64 _ (by omega) (by omega)];omega
 have w:d≠[]->1<=f/\f<=12:=λh=>A.2 h f (gM hi);have j20:∀a b:Int,fj n s y f (y==e) a b j p g l dg x q m d k0 k1 k2 e o r up u t rd=some (s,y,f,(y==e),a,b,Nb up m e o y f,j,p,g,l,dg,x,q,m,d,k0,k1,k2,e,o,r,up,u,t,rd):=by
  intro a b;unfold fj Nb;simp only [HY,ob];cases (y==e)<;>cases (m==([]:aa))<;>rfl
 have j23:∀a b c:Int,fm n s y f (y==e) a b c j p g l dg x q m d k0 k1 k2 e o r up u t rd=some (s,y,f,Jr m e o y f,a,b,c,j,p,g,l,dg,x,q,m,d,k0,k1,k2,e,o,r,up,u,t,rd):=by
  intro a b c;unfold fm Jr;cases (y==e)<;>cases (m==([]:aa))<;>rfl
 unfold cq iG F9;simp only [d4,d8,d16,dZ v,hi,ob,j20];rw [am (show (i:Int)<((j.length:Nat):Int) by omega)];simp only [ah];cases hs:Nb up m e o y f with
 | true=>simp only [ah,aL,je,B];rfl
 | false=>
  simp only [af,bv,aB,MG n g l dg x q m d k0 k1 k2 hy w,j23,Sv n D s y f (Jr m e o y f) (wL d y f) _ _ j p g l dg x q m d k0 k1 k2 e o r up u t rd C];cases p.find? (BG up (Jr m e o y f) d r (wL d y f)) with
  | some k=>rfl
  | none=>simp only [je,Option.elim_none,B]
theorem RE (n:Nat) (u:1000<n) (s y:Int) (hy:ee y) (a b:List Int) (g l:Bool) (dg:aa) (x q:Int) (m d:aa) (k0 k1 k2 c j h:Int) (up:Bool) (o k rd:Int) (r:Og d a) (t:b.length<=31):
  ar (cq n) n (s,y,((a.length:Nat):Int),0,a,b,g,l,dg,x,q,m,d,k0,k1,k2,c,j,h,up,o,k,rd)=some ((Fa up m d c j h a b y).elim (.inr (s,y,a,b,g,l,dg,x,q,m,d,k0,k1,k2,c,j,h,up,o,k,rd)) (λz=>.inl (true,z))):=by
 have v:=r.1;have:=tN (step:=cq n) (f:=λi=>(s,y,((a.length:Nat):Int),(i:Int),a,b,g,l,dg,x,q,m,d,k0,k1,k2,c,j,h,up,o,k,rd)) (L:=a) (G:=λp=>(F9 up m d c j h y b p).map (λz=>(.inl (true,z):(Bool×Int×Int×Int)⊕_))) (e:=.inr (s,y,a,b,g,l,dg,x,q,m,d,k0,k1,k2,c,j,h,up,o,k,rd))
  (λi p hi=>PZ n u s y hy a b g l dg x q m d k0 k1 k2 c j h up o k rd r t i p hi)
  (by
   unfold cq;simp only [d4,d8,d16];rw [aq (show ¬((a.length:Nat):Int)<((a.length:Nat):Int) by omega)];rfl)
  (N:=n) (by omega)
 exact this.trans (cj some (Xj a (F9 up m d c j h y b) (λz=>Sum.inl (true,z)) _))
theorem OR (n:Nat) (o:1000<n) (s y:Int) (hy:ee y) (a b:List Int) (g l:Bool) (dg:aa) (x q:Int) (m d:aa) (k0 k1 k2 c f e:Int) (up:Bool) (i h rd:Int) (j:Og d a) (k:b.length<=31):
  cY n (s,y,true,a,b,g,l,dg,x,q,m,d,k0,k1,k2,c,f,e,up,i,h,rd)=(Fa up m d c f e a b y).elim (ob (cr n g l dg x q m d k0 k1 k2 (IntKind.wrap .i64 (y+s)) up a b) λr=>some (.inl (s,r.1,r.2,a,b,g,l,dg,x,q,m,d,k0,k1,k2,c,f,e,up,i,h,rd))) (λz=>some (.inr (.inl (true,z)))):=by
 unfold cY;simp only [d4,d8,d16,ah,ob,RE n o s y hy a b g l dg x q m d k0 k1 k2 c f e up i h rd j k];cases Fa up m d c f e a b y<;>rfl
def Iw (up:Bool) (Y:Int->Prop) (F:Int->Option (Int×Int×Int)) (v:Int):Option (Int×Int×Int)->Prop
 | some z=>∃e,Y e/\Mk.fq up v e/\F e=some z/\∀a,Y a->Mk.fq up v a->¬Mk.fq up e a->F a=none
 | none=>∀e,Y e->Mk.fq up v e->F e=none
theorem IJ {X:Type} {step:X->Option (X⊕((Bool×Int×Int×Int)⊕(Int×Int×Int)))} {st:Int->Bool->X} {F:Int->Option (Int×Int×Int)} {Y:Int->Prop} {up:Bool} {s lo hi:Int} {E:Int×Int×Int} {fy:Int->Option (Int×Bool)}
  (hs:s=if up then 1 else -1) (x:∀e,Y e->lo<=e/\e<=hi) (M:-10000000000000000<=lo) (d:hi<=10000000000000000)
  (b:∀y,Y y->step (st y true)=(F y).elim (ob (fy (IntKind.wrap .i64 (y+s))) λr=>some (.inl (st r.1 r.2))) (λz=>some (.inr (.inl (true,z)))))
  (c:∀y,step (st y false)=some (.inr (.inr E)))
  (p:∀v,-9223372036854775808<=v/\v<9223372036854775808->∃w f,fy v=some (w,f)/\F5 up Y v w f):
  ∀(r:Nat) (v y:Int) (f:Bool),F5 up Y v y f->(f=true->(if up then hi - y else y - lo)<(r:Int))->∀N,r<N->
   ∃o,ar step N (st y f)=some (o.elim (.inr E) (λz=>.inl (true,z)))/\Iw up Y F v o:=by
 intro r
 induction r with
 | zero=>
  intro v y f m n N I;obtain ⟨N,rfl⟩:∃q,N=q+1:=⟨N - 1,by omega⟩;cases f with
  | true=>
   obtain ⟨a1,_,_⟩:=m.1 rfl;have:=x y a1;have:=n rfl;cases up<;>simp at this<;>omega
  | false=>
   refine ⟨none,by rw [ar,c];rfl,λe i j=>absurd j (m.2 rfl e i)⟩
 | succ r ih=>
  intro v y f m n N I;obtain ⟨N,rfl⟩:∃q,N=q+1:=⟨N - 1,by omega⟩;cases f with
  | false=>
   refine ⟨none,by rw [ar,c];rfl,λe i j=>absurd j (m.2 rfl e i)⟩
  | true=>
   obtain ⟨a1,a2,u⟩:=m.1 rfl;have O:=x y a1;cases k:F y with
   | some z=>
    refine ⟨some z,?_,y,a1,a2,k,λa d l g=>absurd (u a d l) g⟩;rw [ar,b y a1,k];rfl
   | none=>
    have H:IntKind.wrap .i64 (y+s)=y+s:=by
     have:-1<=s/\s<=1:=by rw [hs];cases up<;>simp
     exact wrap_i64 _ (by omega) (by omega)
    obtain ⟨w,C,D,A⟩:=p (y+s) (by
     have:-1<=s/\s<=1:=by rw [hs];cases up<;>simp
     omega)
    have hstep':step (st y true)=some (.inl (st w C)):=by
     rw [b y a1,k,H];show ob (fy (y+s)) _=_;rw [D];rfl
    obtain ⟨o,K,t⟩:=ih (y+s) w C A (λJ=>by
     obtain ⟨b1,b2,_⟩:=A.1 J;have:=n rfl;cases up
     ·rw [iy] at b2;simp only [bv,aB] at hs this ⊢;omega
     ·rw [fi] at b2;simp only [aL] at hs this ⊢;omega) N (by omega)
    refine ⟨o,by rw [ar,hstep'];exact K,?_⟩;have split:∀a,Y a->Mk.fq up v a->a=y\/Mk.fq up (y+s) a:=λa d l=>by
     have g:=u a d l;cases up
     ·rw [iy] at g ⊢;simp only [bv,aB] at hs;omega
     ·rw [fi] at g ⊢;simp only [aL] at hs;omega
    cases o with
    | none=>
     intro e i j;rcases split e i j with rfl | h
     ·exact k
     ·exact t e i h
    | some z=>
     obtain ⟨e,L,B,G,c4⟩:=t;refine ⟨e,L,?_,G,λa d l g=>?_⟩
     ·cases up
      ·rw [iy] at B a2 ⊢;simp only [bv,aB] at hs;omega
      ·rw [fi] at B a2 ⊢;simp only [aL] at hs;omega
     ·rcases split a d l with rfl | h
      ·exact k
      ·exact c4 a d h g
theorem zT {g l:Bool} {dg:aa} {x:Int} (c:okY g l dg x 0):∃lo hi:Int,(∀e,inP g dg x 0 e->lo<=e/\e<=hi)/\hi - lo<=10000/\-10000000000000000<=lo/\hi<=10000000000000000:=by
 cases d:hasX dg with
 | false=>
  have a:=EO c d;by_cases f:-10000000000000000<=(if g then -((val dg x.toNat:Nat):Int) else ((val dg x.toNat:Nat):Int))/\(if g then -((val dg x.toNat:Nat):Int) else ((val dg x.toNat:Nat):Int))<=10000000000000000
  ·refine ⟨_,_,λe b=>?_,?_,f.1,f.2⟩
   ·rw [(a e).1 b];exact ⟨xW _,xW _⟩
   ·omega
  ·refine ⟨0,0,λe b=>?_,by omega,by omega,by omega⟩;exfalso;have:=(a e).1 b;unfold inP at b;exact f ⟨by rw [<-this];exact b.1,by rw [<-this];exact b.2.1⟩
 | true=>
  have a:=GZ c d;obtain ⟨_,_,_,i,j⟩:=rL c d;refine ⟨if g then -9999 else 0,if g then 0 else 9999,λe b=>?_,by cases g<;>simp,by cases g<;>simp,by cases g<;>simp⟩;have h:=((a e).1 b).1;have:=(Mk.oL h).2.2.2.2;rw [i] at this;have k:(10:Int) ^ 4=10000:=by decide
  unfold wOf at this;cases g
  ·simp at this ⊢;omega
  ·simp at this ⊢;omega
theorem Ah {g:Bool} {dg:aa} {x q e:Int} (h:inP g dg x q e):ee e:=⟨h.1,h.2.1⟩
theorem Ju {g l:Bool} {dg:aa} {x:Int} (e:okY g l dg x 0) (m d:aa) (k0 k1 k2:Int) (a h i:Int) (j:-9223372036854775808<=a/\a<9223372036854775808) (c b:List Int) (A:Og d c) (u:b.length<=31):
  ∃o,ji 20000000 g l dg x 0 m d k0 k1 k2 a h i true c b=some (o.elim (0,0,0,false) λz=>(z.1,z.2.1,z.2.2,true))/\Iw true (inP g dg x 0) (Fa true m d a h i c b) a o:=by
 obtain ⟨lo,hi,q,G,n,k⟩:=zT e;obtain ⟨w,f,t,p⟩:=KQ e m d k0 k1 k2 a j true c b;obtain ⟨o,C,r⟩:=IJ (step:=cY 20000000) (st:=λy f=>(1,y,f,c,b,g,l,dg,x,0,m,d,k0,k1,k2,a,h,i,true,0,0,0)) (F:=Fa true m d a h i c b) (Y:=inP g dg x 0) (up:=true) (s:=1) (lo:=lo) (hi:=hi) (E:=(0,0,0)) (fy:=λv=>cr 20000000 g l dg x 0 m d k0 k1 k2 v true c b)
  rfl q n k
  (λy hy=>OR 20000000 (by omega) 1 y (Ah hy) c b g l dg x 0 m d k0 k1 k2 a h i true 0 0 0 A u)
  (λy=>rfl)
  (λv D=>KQ e m d k0 k1 k2 v D true c b)
  10002 a w f p (λB=>by have:=q w (p.1 B).1;simp;omega) 20000000 (by omega)
 refine ⟨o,?_,r⟩;unfold ji jz;simp only [ci,af,ob,d4,d8,d16,t];have i1':ar (cY 20000000) 20000000 (1,w,f,c,b,g,l,dg,x,0,m,d,k0,k1,k2,a,h,i,true,0,0,0)=_:=C;rw [i1'];cases o<;>rfl
theorem HS (m d:aa) (n o:Int) {g e:Int} (h:e≠g) (l f:List Int):Fa true m d g n o l f e=none↔(l.flatMap λa=>(f.filter λk=>decide (k<=wL d e a)).map λk=>(e,a,k))=[]:=by
 have i:(e==g)=false:=aK.2 h;unfold Fa;rw [QZ,List.flatMap_eq_nil_iff];have:∀a,F9 true m d g n o e f a=none↔((f.filter λk=>decide (k<=wL d e a)).map λk=>(e,a,k))=[]:=by
  intro a;unfold F9 Nb Jr;rw [i];simp only [yd,bv,aB,Option.map_eq_none_iff,List.find?_eq_none,List.map_eq_nil_iff,List.filter_eq_nil_iff];constructor
  ·intro b k j;have:=b k j;unfold BG at this;simpa using this
  ·intro b k j;have:=b k j;unfold BG;simpa using this
 exact ⟨λb a c=>(this a).1 (b a c),λb a c=>(this a).2 (b a c)⟩
def hasF (g:Bool) (dg:aa) (x:Int) (m d:aa):Prop:=∃e,inP g dg x 0 e/\wW m d e≠[]
open Classical in
noncomputable def chkF (g l:Bool) (dg:aa) (x q:Int) (m d:aa) (k0 k1 k2:Int):Int:=
 if chkD g l dg x q m d k0 k1 k2=0/\d≠[]/\¬hasF g dg x m d then 8 else chkD g l dg x q m d k0 k1 k2
theorem tY {g l:Bool} {dg:aa} {x q:Int} {m d:aa} {k0 k1 k2:Int} (h:chkD g l dg x q m d k0 k1 k2=0):okY g l dg x q/\(m=[]\/m.length=2)/\(d=[]\/d.length=2)/\(0<q->m=[])/\(d≠[]->m≠[]/\sea m=0):=by
 obtain ⟨a,i,e,c4⟩:=Oj h;unfold yrD at a;by_cases b:okY g l dg x q
 ·rw [ae b] at a;refine ⟨b,?_,?_,λn=>?_,λj=>?_⟩
  ·rcases i with h | h | h
   ·exact .inl h
   ·exact .inr (L9 h).1
   ·exact .inr (sB (by omega) h).1
  ·rcases e with h | ⟨_,_,h⟩
   ·exact .inl h
   ·exact .inr (sB (by omega) h).1
  ·unfold yrB at a;simp only [aA,lz] at a;have:=a.1;rw [am n,om] at this;by_cases c:m=[]
   ·exact c
   ·rw [gj c] at this;cases this
  ·rcases e with h | ⟨f,k,_⟩
   ·exact absurd h j
   ·exact ⟨f,k⟩
 ·rw [ab b] at a;cases a
theorem WM {g l:Bool} {dg:aa} {x q:Int} (h:okY g l dg x q):0<=q:=(kg h).2.2.1
theorem M4 {m d:aa} (h:d≠[]->m≠[]/\sea m=0):Og d (monI m):=by
 refine ⟨qX (G2 m) (by omega),λe f a=>?_⟩;obtain ⟨b,g⟩:=h e;unfold monI at a;rw [ab b,ab (by omega)] at a;obtain ⟨k,c,rfl⟩:=eY.1 a;have:=BL.1 (oh.1 c).1;omega
theorem wu {g l:Bool} {dg:aa} {x q:Int} {m d:aa} {k0 k1 k2:Int} (p:m.length<=18) (n:dg.length<=100) (D:0<=k0) (A:0<=k1) (E:0<=k2):
  bG 20000000 g l dg x q m d k0 k1 k2=some (chkF g l dg x q m d k0 k1 k2):=by
 unfold bG chkF;rw [AY 20000000 (by omega) g l dg x q m d k0 k1 k2 p n D A E];simp only [ob];by_cases hc:chkD g l dg x q m d k0 k1 k2=0
 ·obtain ⟨c,r,k,w,b⟩:=tY hc;rw [hc];simp only [dF,af];by_cases i:d=[]
  ·subst i;rw [ab (by simp)];rfl
  ·rw [gj i,af];have t:q=0:=by
    have:=WM c;by_cases h:0<q
    ·exact absurd (w h) (b i).1
    ·omega
   subst t;have e:=X5 20000000 (by omega) g l dg x 0 m d k0 k1 k2 r k;have s:=M4 b;obtain ⟨o,o1,v⟩:=Ju c m d k0 k1 k2 (-9223372036854775808) 0 0 (by omega) (monI m) (dayI d) s (He d);have f:∀e,inP g dg x 0 e->e≠-9223372036854775808:=λe y=>by have:=Ah y;unfold ee at this;omega
   have key:(∃z,o=some z)↔hasF g dg x m d:=by
    constructor
    ·rintro ⟨z,rfl⟩;obtain ⟨e,a,_,u,_⟩:=v;refine ⟨e,a,λF=>?_⟩;have:=(HS m d 0 0 (f e a) (monI m) (dayI d)).2 F;rw [this] at u;cases u
    ·rintro ⟨e,a,C⟩;cases o with
     | some z=>exact ⟨z,rfl⟩
     | none=>
      have:=v e a (by rw [fi];have:=Ah a;unfold ee at this;omega);exact absurd ((HS m d 0 0 (f e a) (monI m) (dayI d)).1 this) C
   rw [e];by_cases j:hasF g dg x m d
   ·obtain ⟨z,rfl⟩:=key.2 j;rw [ab (λh=>h.2.2 j)]
    all_goals
     simp only [d4,d8,o1];rfl
   ·have B:o=none:=by
     cases o with
     | none=>rfl
     | some z=>exact absurd (key.1 ⟨z,rfl⟩) j
    subst B;rw [ae ⟨rfl,i,j⟩]
    all_goals
     simp only [d4,d8,o1];rfl
 ·rw [ab (λh=>hc h.1)];have:(chkD g l dg x q m d k0 k1 k2 != 0)=true:=by simp [hc]
  rw [this];rfl
theorem Qj {g l:Bool} {dg:aa} {x:Int} (c:okY g l dg x 0) (m d:aa) (k0 k1 k2:Int):
  ∃r,ly 20000000 g l dg x 0 m d k0 k1 k2=some r/\(r=1/\hasF g dg x m d\/r=0/\¬hasF g dg x m d):=by
 have H:=kg c;obtain ⟨lo,hi,B,Q,P,O⟩:=zT c;obtain ⟨D,J,M⟩:=LK c;have v:=Py 19999700 g l dg x 0 (by omega) c;unfold ly;rw [show (20000000:Nat)=19999700+300 from rfl,v];simp only [ob];generalize (sgn g (qc g dg x 0)).1=a at *;generalize (sgn g (qc g dg x 0)).2=b at *;have R:=B a D;have hb':=B b J;have K:=λy=>UH 19999700 c y;have step:∀i y,((List.range (b - a+1).toNat).map (λj:Nat=>a+(j:Int)))[i]?=some y->i<(b - a+1).toNat/\y=a+(i:Int):=by
  intro i y h;rw [m6] at h;cases u:(List.range (b - a+1).toNat)[i]? with
  | none=>rw [u] at h;cases h
  | some j=>
   rw [u] at h;have hi:=qH.1 u;obtain ⟨A,C⟩:=hi;rw [List.getElem_range] at C;rw [List.length_range] at A;subst C;exact ⟨A,(bm h).symm⟩
 have p:((List.range (b - a+1).toNat).map (λj:Nat=>a+(j:Int))).length=(b - a+1).toNat:=by simp
 have:=tN (step:=gn (19999700+300)) (f:=λi=>(b,a+(i:Int),g,l,dg,x,0,m,d,k0,k1,k2)) (L:=(List.range (b - a+1).toNat).map (λj:Nat=>a+(j:Int))) (G:=λy=>if inP g dg x 0 y/\wW m d y≠[] then some (.inl 1) else none) (e:=.inr ())
  (λi y h=>by
   obtain ⟨hi,rfl⟩:=step i y h;have E:IntKind.wrap .i64 (a+(i:Int)+1)=a+((i+1:Nat):Int):=by rw [wrap_i64 _ (by omega) (by omega)];omega
   unfold gn;simp only [d4,d8,E];rw [am (show a+(i:Int)<=b by omega),K,Jp (19999700+300) (by omega)];by_cases o:inP g dg x 0 (a+(i:Int))
   ·rw [ae o];by_cases n:wW m d (a+(i:Int))=[]
    ·rw [ab (λh=>h.2 n),n];rfl
    ·rw [ae ⟨o,n⟩];have hp:0<(wW m d (a+(i:Int))).length:=List.length_pos_iff.2 n;have I:decide ((((wW m d (a+(i:Int))).length:Nat):Int)>0)=true:=am (by omega);simp only [ah,ob,I];rfl
   ·rw [ab o,ab (λh=>o h.1)];rfl)
  (by
   unfold gn;simp only [d4,d8];rw [p,aq (show ¬a+(((b - a+1).toNat:Nat):Int)<=b by omega)];rfl)
  (N:=19999700+300) (by rw [p];omega)
 rw [show a+((0:Nat):Int)=a by omega] at this;rw [this];cases q:(List.findSome? (λy=>if inP g dg x 0 y/\wW m d y≠[] then some (Sum.inl (1:Int)) else none) ((List.range (b - a+1).toNat).map (λj:Nat=>a+(j:Int))):Option (Int⊕Unit)) with
 | none=>
  refine ⟨0,rfl,.inr ⟨rfl,?_⟩⟩;rintro ⟨e,s,w⟩;rw [QZ] at q;have hs:=M e s;have:=q e (eY.2 ⟨(e - a).toNat,kX.2 (by omega),by omega⟩);rw [ae ⟨s,w⟩] at this;cases this
 | some z=>
  obtain ⟨y,F,k⟩:=List.exists_of_findSome?_eq_some q;by_cases t:inP g dg x 0 y/\wW m d y≠[]
  ·rw [ae t] at k;obtain rfl:=bm k;exact ⟨1,rfl,.inl ⟨rfl,y,t.1,t.2⟩⟩
  ·rw [ab t] at k;cases k
theorem ta {g l:Bool} {dg:aa} {x q:Int} {m d:aa} {k0 k1 k2:Int} (f:dg.length<=100) (p:0<=k0) (j:0<=k1) (n:0<=k2):
  bS 20000000 g l dg x q m d k0 k1 k2=some (chkF g l dg x q m d k0 k1 k2):=by
 unfold bS chkF;rw [EZ 20000000 (by omega) g l dg x q m d k0 k1 k2 f p j n];simp only [ob];by_cases hc:chkD g l dg x q m d k0 k1 k2=0
 ·obtain ⟨a,k,o,t,c⟩:=tY hc;rw [hc];by_cases b:d=[]
  ·subst b;rw [ab (by simp)];rfl
  ·have i:q=0:=by
    have:=WM a;by_cases h:0<q
    ·exact absurd (t h) (c b).1
    ·omega
   subst i;obtain ⟨r,u,s⟩:=Qj a m d k0 k1 k2;rw [gj b,u];rcases s with ⟨rfl,e⟩ | ⟨rfl,e⟩
   ·rw [ab (λh=>h.2.2 e)];rfl
   ·rw [ae ⟨rfl,b,e⟩];rfl
 ·rw [ab (λh=>hc h.1)];have:(chkD g l dg x q m d k0 k1 k2==0)=false:=aK.2 hc;rw [this];rfl
theorem oZ {g l:Bool} {dg:aa} {x q:Int} {m d:aa} {k0 k1 k2:Int} (h:chkF g l dg x q m d k0 k1 k2=0):chkD g l dg x q m d k0 k1 k2=0:=by
 unfold chkF at h;split at h
 ·cases h
 ·exact h
theorem bne0 {e:Int} (h:e≠0):(e != 0)=true:=by simp [h]
theorem Qg {m d:aa} {y:Int} {z:Int×Int×Int}:z∈wW m d y↔z.1=y/\z.2.1∈monI m/\z.2.2∈dayI d/\z.2.2<=wL d y z.2.1:=by
 unfold wW vw;simp only [E8,eY,oh,cn];constructor
 ·rintro ⟨f,b,k,⟨c,a⟩,rfl⟩;exact ⟨rfl,b,c,a⟩
 ·rintro ⟨e,b,c,a⟩;exact ⟨z.2.1,b,z.2.2,⟨c,a⟩,by rw [<-e]⟩
def plN (P:Nat×Nat×Nat) (i:Nat):Nat:=if i=0 then P.1 else if i=1 then P.2.1 else P.2.2
theorem vo {g l:Bool} {dg:aa} {x q:Int} {m d:aa} {k0 k1 k2:Int} (a:allM k0 k1 k2 (dj m d)=0):chkF g l dg x q m d k0 k1 k2=0\/chkF g l dg x q m d k0 k1 k2=6\/chkF g l dg x q m d k0 k1 k2=7\/chkF g l dg x q m d k0 k1 k2=8:=by
 unfold chkF;split
 ·exact .inr (.inr (.inr rfl))
 ·exact N2 a
noncomputable def chkR (r:DR):Nat:=(chkF r.1 r.2.1 r.2.2.1 (r.2.2.2.1:Int) (r.2.2.2.2.1:Int) r.2.2.2.2.2.1 r.2.2.2.2.2.2.1 (r.2.2.2.2.2.2.2.1.1:Int) (r.2.2.2.2.2.2.2.1.2.1:Int) (r.2.2.2.2.2.2.2.1.2.2:Int)).toNat
noncomputable def cv (S:aa) (a:Nat):(Nat×Nat×Nat)⊕DR:=
 match qL S a with
 | .inl k=>.inl (k,5,k)
 | .inr r=>if chkR r=0 then .inr r else .inl (plN r.2.2.2.2.2.2.2.2.1 (chkR r - 6),chkR r,r.2.2.2.2.2.2.2.2.2)
def VA (S:aa):(Nat×Nat×Nat)⊕DR->(Int×Int×aa×Int)⊕(Bool×Bool×aa×Int×Int×aa×aa×Int×Int×Int×Int×aa×Int)
 | .inl (k,E,p)=>.inl ((k:Int),(E:Int),S,(p:Int))
 | .inr (g,l,dg,x,s,m,d,M,P,e)=>.inr (g,l,dg,(x:Int),(s:Int),m,d,(M.1:Int),(M.2.1:Int),(M.2.2:Int),(P.1:Int),S,(e:Int))
theorem Gm (S:aa) (a:Nat) (h:a<=S.length) (i:S.length<100000):iL 20000000 S (a:Int)=some (VA S (cv S a)):=by
 have j:jZ 20000000 S (a:Int)=_:=R2 19999700 S a h i (by omega);unfold iL cv;rw [j];cases n:qL S a with
 | inl k=>rfl
 | inr r=>
  obtain ⟨g,l,dg,x,s,f,d,M,P,e⟩:=r;have b:=AD h n;have o:=b.all;have t:=b.m2;have p:=b.dg17;simp only [ob,W9,d4,d8];rw [wu (g:=g) (l:=l) (x:=(x:Int)) (q:=(s:Int)) (d:=d) (show f.length<=18 by omega) (show dg.length<=100 by omega) (show (0:Int)<=(M.1:Int) by omega) (show (0:Int)<=(M.2.1:Int) by omega) (show (0:Int)<=(M.2.2:Int) by omega)];simp only [ob];have c:=vo (g:=g) (l:=l) (dg:=dg) (x:=(x:Int)) (q:=(s:Int)) (m:=f) (d:=d) (k0:=(M.1:Int)) (k1:=(M.2.1:Int)) (k2:=(M.2.2:Int)) (xj o);unfold chkR;simp only [];rcases c with hc | hc | hc | hc<;>rw [hc]<;>rfl
def dayY (y:Int):Int:=365*y+(1+(y - 1) / 4 - (y - 1) / 100+(y - 1) / 400)
def cumM (y:Int):Nat->Int
 | 0=>0
 | k+1=>cumM y k+lenI y ((k+1:Nat):Int)
def dayM (y:Int) (m:Nat):Int:=if m<=12 then dayY y+cumM y (m - 1) else dayY (y+1)+cumM (y+1) (m - 13)
theorem DV (y:Int):dayY (y+1)=dayY y+365+(if tA y then 1 else 0):=by
 unfold dayY tA;simp only [aA,iV,cn];split<;>omega
theorem GU (n:Int):dayY (400*n)=146097*n:=by
 unfold dayY;omega
theorem kD {y:Int} (h:-20000000000000000<=y/\y<=20000000000000000):-8000000000000000000<=dayY y/\dayY y<=8000000000000000000:=by
 unfold dayY;omega
theorem XS (y:Int):cumM y 12=365+(if tA y then 1 else 0):=by
 have e:∀k:Nat,cumM y (k+1)=cumM y k+lenI y ((k+1:Nat):Int):=λ_=>rfl;have z:cumM y 0=0:=rfl;rw [e 11,e 10,e 9,e 8,e 7,e 6,e 5,e 4,e 3,e 2,e 1,e 0,z];unfold lenI;cases tA y<;>rfl
theorem qO (y:Int):∀k:Nat,0<=cumM y k/\cumM y k<=31*(k:Int)
 | 0=>by simp [cumM]
 | k+1=>by
  have b:=qO y k;have a:=lU y ((k+1:Nat):Int);show 0<=cumM y k+lenI y ((k+1:Nat):Int)/\cumM y k+lenI y ((k+1:Nat):Int)<=_;omega
theorem pu {y:Int} (h:ee y) {m:Nat} (a:m<=24):-8100000000000000000<=dayM y m/\dayM y m<=8100000000000000000:=by
 unfold ee at h;unfold dayM;split
 ·have:=qO y (m - 1);have:=kD (y:=y) (by omega);omega
 ·have:=qO (y+1) (m - 13);have:=kD (y:=y+1) (by omega);omega
theorem Ua (y:Int):dayM y 13=dayY (y+1):=by
 unfold dayM;rw [ab (by omega)];simp [cumM]
theorem KW (y:Int) {m:Nat} (b:1<=m) (a:m<=12):dayM y (m+1)=dayM y m+lenI y (m:Int):=by
 obtain ⟨k,rfl⟩:∃k,m=k+1:=⟨m - 1,by omega⟩;have e:dayM y (k+1)=dayY y+cumM y k:=by unfold dayM;rw [ae (by omega)];rfl
 rw [e];by_cases h:k+1=12
 ·obtain rfl:k=11:=by omega
  rw [Ua,DV];have:=XS y;have e:cumM y 12=cumM y 11+lenI y ((11+1:Nat):Int):=rfl;omega
 ·have:dayM y (k+1+1)=dayY y+cumM y (k+1):=by unfold dayM;rw [ae (by omega)];rfl
  rw [this];show dayY y+(cumM y k+lenI y ((k+1:Nat):Int))=_;omega
theorem Ei (y:Int) {m:Nat} (b:1<=m) (a:m<=12):dayM y (m+12)=dayM (y+1) m:=by
 unfold dayM;rw [ab (by omega),ae a];congr 2
theorem sM (n:Nat) {y:Int} (h:-10000000000000001<=y/\y<=10000000000000001):md n y=some (dayY y):=by
 have a:=kD (y:=y) (by omega);unfold md;rw [wC n (by omega),wrap_i64 (365*y) (by omega) (by omega)];show some (IntKind.wrap .i64 (dayY y))=_;rw [wrap_i64 _ (by omega) (by omega)]
theorem sN (n:Nat) {y:Int} (h:ee y):mc n y=some (dayY y,0):=by
 unfold mc;have h':=h;unfold ee at h';rw [gy,ae h,sM n (by omega)];rfl
theorem Dj (n:Nat) {y:Int} (h:ee y):t7 n y=some (dayY (y+1) - 1,0):=by
 unfold t7;have h':=h;unfold ee at h';have a:=kD (y:=y+1) (by omega);rw [gy,ae h,wrap_i64 (y+1) (by omega) (by omega),sM n (by omega)];show some (IntKind.wrap .i64 (dayY (y+1) - 1),(0:Int))=_;rw [wrap_i64 _ (by omega) (by omega)]
theorem Gp (n:Nat) {y:Int} (h:ee y) {m:Nat} (c:m<=11):∀(r j:Nat),j+r=m->∀N,r<N->ar (bM n) N (y,dayY y+cumM y j,(m:Int),(j:Int))=some (dayY y+cumM y m):=by
 have h':=h;unfold ee at h';have d:=kD (y:=y) (by omega);intro r
 induction r with
 | zero=>
  intro j a N b;obtain ⟨N,rfl⟩:∃k,N=k+1:=⟨N - 1,by omega⟩;obtain rfl:j=m:=by omega
  have:bM n (y,dayY y+cumM y j,(j:Int),(j:Int))=some (.inr (dayY y+cumM y j)):=by
   unfold bM;rw [bD,ab (show ¬((j:Int)<(j:Int)) by omega)]
  rw [ar,this]
 | succ r ih=>
  intro j a N b;obtain ⟨N,rfl⟩:∃k,N=k+1:=⟨N - 1,by omega⟩;have w:IntKind.wrap .i64 ((j:Int)+1)=((j+1:Nat):Int):=by rw [wrap_i64 _ (by omega) (by omega)];omega
  have hc:=qO y j;have e:=lU y ((j+1:Nat):Int);have:bM n (y,dayY y+cumM y j,(m:Int),(j:Int))=some (.inl (y,dayY y+cumM y (j+1),(m:Int),((j+1:Nat):Int))):=by
   unfold bM;rw [bD,ae (show ((j:Int)<(m:Int)) by omega)];simp only [w,yF n h (show 1<=j+1 by omega) (show j+1<=12 by omega),ob];rw [wrap_i64 (dayY y+cumM y j+lenI y ((j+1:Nat):Int)) (by omega) (by omega),Int.add_assoc];rfl
  rw [ar,this];exact ih (j+1) (by omega) N (by omega)
theorem uB (n:Nat) (c:100<n) {y:Int} (h:ee y) {m:Nat} (b:1<=m) (a:m<=12):fG n y (m:Int)=some (dayM y m,0):=by
 unfold fG;have w:IntKind.wrap .i64 ((m:Int) - 1)=((m - 1:Nat):Int):=by rw [wrap_i64 _ (by omega) (by omega)];omega
 rw [G6 n h b a,sN n h,w];have:=Gp n h (m:=m - 1) (by omega) (m - 1) 0 (by omega) n (by omega);rw [show dayY y+cumM y 0=dayY y by simp [cumM]] at this;show ob (ar (bM n) n (y,dayY y,((m - 1:Nat):Int),((0:Nat):Int))) _=_;rw [this];unfold dayM;rw [ae a];rfl
theorem Fj (n:Nat) (c:100<n) {y:Int} (h:ee y) {m:Nat} (a:1<=m) (b:m<=12):ia n y (m:Int)=some (dayM y (m+1) - 1,0):=by
 unfold ia;have d:=pu h (m:=m) (by omega);have e:=lU y (m:Int);rw [uB n c h a b,yF n h a b,KW y a b];show some (IntKind.wrap .i64 (IntKind.wrap .i64 (dayM y m+lenI y (m:Int)) - 1),(0:Int))=_;rw [wrap_i64 (dayM y m+lenI y (m:Int)) (by omega) (by omega),wrap_i64 _ (by omega) (by omega)]
theorem IH (n:Nat) (d:100<n) {y:Int} (h:ee y) {j m c:Nat} (i:j<21) (e:n8[j]?=some ((m:Int),(c:Int))) (f:1<=m) (g:m<=12) (k:1<=c) (l:c<=6) (hy:12<m+c - 1->y≠10000000000000000):
  iI n y ((21+j:Nat):Int)=some (0,dayM y m,0,dayM y (m+c) - 1,0):=by
 have o:fF n ((21+j:Nat):Int)=some ((m:Int),(c:Int),0):=by
  unfold fF dM;rw [bD,bD,ab (by omega),ab (by omega)];have:IntKind.wrap .i64 (((21+j:Nat):Int) - 21)=(j:Int):=by rw [wrap_i64 _ (by omega) (by omega)];omega
  rw [this,dZ i];show ob (n8[j]?) _=_;rw [e];rfl
 unfold iI;rw [o];simp only [ob,dF,af];rw [uB n d h f g];simp only [ob,dF,af];rw [madd n h f g k l];have h':=h;unfold ee at h';by_cases a:12<m+c - 1
 ·rw [ae a,ab (hy a)];have b:ee (y+1):=by unfold ee;have:=hy a;omega
  simp only [ob,dF,af];rw [Fj n d b (m:=m+c - 1 - 12) (by omega) (by omega)];have:=Ei y (m:=m+c - 1 - 12+1) (by omega) (by omega);rw [show m+c - 1 - 12+1+12=m+c by omega] at this;rw [this]
 ·rw [ab a];simp only [ob,dF,af];rw [Fj n d h (m:=m+c - 1) (by omega) (by omega),show m+c - 1+1=m+c by omega]
theorem zS (n:Nat) {y:Int} (hy:-10000000000000002<=y/\y<=10000000000000002):∀(r:Nat) (z:Int),z+(r:Int)=y->-10000000000000402<=z->∀N,r<N->ar (cU n) N (y,dayY z,z)=some (dayY y):=by
 intro r
 induction r with
 | zero=>
  intro z e b N c;obtain ⟨N,rfl⟩:∃k,N=k+1:=⟨N - 1,by omega⟩;obtain rfl:z=y:=by omega
  have:cU n (z,dayY z,z)=some (.inr (dayY z)):=by
   unfold cU;rw [bD,ab (show ¬(z<z) by omega)]
  rw [ar,this]
 | succ r ih=>
  intro z e b N c;obtain ⟨N,rfl⟩:∃k,N=k+1:=⟨N - 1,by omega⟩;have f:=kD (y:=z) (by omega);have a:=DV z;have:cU n (y,dayY z,z)=some (.inl (y,dayY (z+1),z+1)):=by
   unfold cU;rw [bD,ae (show z<y by omega),Ap];have d:lenI z 2=if tA z then 29 else 28:=rfl
   simp only [ob,d];rw [wrap_i64 (dayY z+365) (by omega) (by omega),wrap_i64 (dayY z+365+1) (by omega) (by omega),wrap_i64 (z+1) (by omega) (by omega),a];cases tA z
   ·simp
   ·rfl
  rw [ar,this];exact ih (z+1) (by omega) (by omega) N (by omega)
theorem se (n:Nat) (e:1000<n) {y:Int} (hy:-10000000000000002<=y/\y<=10000000000000002):ch n y=some (dayY y):=by
 have b:=Int.mul_tdiv_add_tmod y 400;have d:Int.tmod y 400=if 0<=y then y%400 else -((-y)%400):=by
  by_cases h:0<=y
  ·rw [ae h,LE h]
  ·rw [ab h,<-LE (show 0<=-y by omega),Int.neg_tmod,Int.neg_neg]
 unfold ch;by_cases a:Int.tmod y 400<0
 ·rw [am a];have c:Int.tdiv y 400 - 1=y / 400:=by
   rw [d] at a b;split at a
   ·omega
   ·rw [ab (by assumption)] at b;omega
  rw [wrap_i64 (Int.tdiv y 400) (by omega) (by omega),c,wrap_i64 (y / 400) (by omega) (by omega),wrap_i64 (y / 400*146097) (by omega) (by omega),wrap_i64 (y / 400*400) (by omega) (by omega)];have:=zS n hy (y - y / 400*400).toNat (y / 400*400) (by omega) (by omega) n (by omega);rw [show dayY (y / 400*400)=y / 400*146097 by rw [Ae,GU,Ae]] at this;simp only [ah,this,ob]
 ·rw [aq a];have c:Int.tdiv y 400=y / 400:=by
   rw [d] at a b;split at a
   ·rw [ae (by assumption)] at b;omega
   ·rw [ab (by assumption)] at b;omega
  rw [c,wrap_i64 (y / 400) (by omega) (by omega),wrap_i64 (y / 400*146097) (by omega) (by omega),wrap_i64 (y / 400*400) (by omega) (by omega)];have:=zS n hy (y - y / 400*400).toNat (y / 400*400) (by omega) (by omega) n (by omega);rw [show dayY (y / 400*400)=y / 400*146097 by rw [Ae,GU,Ae]] at this;simp only [af,this,ob]
theorem yD {step:Int×Int×Int×Int->Option ((Int×Int×Int×Int)⊕Int)} (n:Nat)
  (hs:step=λx=>(cond (decide (x.2.2.2<x.2.1)) (ob (eK n x.1 x.2.2.2) λr=>(some (.inl (x.1,x.2.1,(IntKind.wrap .i64 (x.2.2.1+r)),(IntKind.wrap .i64 (x.2.2.2+1)))))) (some (.inr x.2.2.1))))
  {y:Int} (hy:-10000000000000002<=y/\y<=10000000000000002) {m:Nat} (f:1<=m) (d:m<=12) {N:Nat} (a:20<N):ar step N (y,(m:Int),dayY y,1)=some (dayM y m):=by
 have g:=kD (y:=y) (by omega);have c:∀(r j:Nat),j+1+r=m->∀N,r<N->ar step N (y,(m:Int),dayY y+cumM y j,((j+1:Nat):Int))=some (dayY y+cumM y (m - 1)):=by
  intro r
  induction r with
  | zero=>
   intro j b N a;obtain ⟨N,rfl⟩:∃k,N=k+1:=⟨N - 1,by omega⟩;obtain rfl:j+1=m:=by omega
   have:step (y,((j+1:Nat):Int),dayY y+cumM y j,((j+1:Nat):Int))=some (.inr (dayY y+cumM y j)):=by
    rw [hs];simp only [];rw [aq (show ¬(((j+1:Nat):Int)<((j+1:Nat):Int)) by omega)];rfl
   rw [ar,this];rfl
  | succ r ih=>
   intro j b N a;obtain ⟨N,rfl⟩:∃k,N=k+1:=⟨N - 1,by omega⟩;have w:IntKind.wrap .i64 (((j+1:Nat):Int)+1)=((j+1+1:Nat):Int):=by rw [wrap_i64 _ (by omega) (by omega)];omega
   have hc:=qO y j;have h:=lU y ((j+1:Nat):Int);have:step (y,(m:Int),dayY y+cumM y j,((j+1:Nat):Int))=some (.inl (y,(m:Int),dayY y+cumM y (j+1),((j+1+1:Nat):Int))):=by
    rw [hs];simp only [];rw [am (show (((j+1:Nat):Int)<(m:Int)) by omega),Ap];simp only [ah,ob,w];rw [wrap_i64 (dayY y+cumM y j+lenI y ((j+1:Nat):Int)) (by omega) (by omega),Int.add_assoc];rfl
   rw [ar,this];exact ih (j+1) (by omega) N (by omega)
 have:=c (m - 1) 0 (by omega) N (by omega);rw [show dayY y+cumM y 0=dayY y by simp [cumM]] at this;have e:dayM y m=dayY y+cumM y (m - 1):=by unfold dayM;rw [ae d]
 rw [e];exact this
theorem qQ (n:Nat) (a:1000<n) {y:Int} (hy:-10000000000000001<=y/\y<=10000000000000001) {m:Nat} (c:1<=m) (b:m<=24):aS n y (m:Int)=some (dayM y m):=by
 unfold aS;by_cases h:12<m
 ·rw [am (show (m:Int)>12 by omega),wrap_i64 (y+1) (by omega) (by omega),wrap_i64 ((m:Int) - 12) (by omega) (by omega),show (m:Int) - 12=((m - 12:Nat):Int) by omega];unfold kw;rw [aq (show ¬((m - 12:Nat):Int)>12 by omega),se n a (by omega)];simp only [ah,af,ob];have:=yD (step:=jf n) n rfl (y:=y+1) (by omega) (m:=m - 12) (by omega) (by omega) (N:=n) (by omega);rw [this,<-Ei y (by omega) (by omega),show m - 12+12=m by omega]
 ·rw [aq (show ¬(m:Int)>12 by omega),se n a (by omega)];simp only [af,ob];have:=yD (step:=ky n) n rfl (y:=y) (by omega) (m:=m) (by omega) (by omega) (N:=n) (by omega);rw [this]
def twoV (s:aa):Nat:=match s with
 | [a,b]=>10*(a.toNat - 48)+(b.toNat - 48)
 | _=>0
def yOf (g:Bool) (dg:aa) (x:Int):Int:=if g then -((val dg x.toNat:Nat):Int) else ((val dg x.toNat:Nat):Int)
def spF (m:aa):Nat:=((n8.getD (sea m - 21).toNat (0,0)).1).toNat
def spC (m:aa):Nat:=((n8.getD (sea m - 21).toNat (0,0)).2).toNat
def qp (g:Bool) (dg:aa) (x:Int) (m d:aa):Int×Int:=
 if m=[] then (dayY (yOf g dg x),dayY (yOf g dg x+1) - 1)
 else if 0<sea m then (dayM (yOf g dg x) (spF m),dayM (yOf g dg x) (spF m+spC m) - 1)
 else if d=[] then (dayM (yOf g dg x) (twoV m),dayM (yOf g dg x) (twoV m+1) - 1)
 else (dayM (yOf g dg x) (twoV m)+(twoV d:Int) - 1,dayM (yOf g dg x) (twoV m)+(twoV d:Int) - 1)
def exD (dg m d:aa) (q:Int):Bool:=!(hasX dg||(hasX m||hasX d))&&(q==0)
theorem QJ {s:aa} (h:hasX s=false) {c:UInt8} (hc:c∈s):c≠88:=by
 rintro rfl;unfold hasX at h;rw [sU] at h;exact h 88 hc (by decide)
theorem L6 {s:aa} (h:hasX s=false) {k:Nat} (l:k<100) (c:agr s k=true):twoV s=k/\s=two k:=by
 unfold agr at c;split at c
 ·rename_i a b;have g:a≠88:=QJ h (by simp);have d:b≠88:=QJ h (by simp);simp only [aA,iV,bI] at c;obtain ⟨e,f⟩:=c;have e:=e.resolve_left g;have f:=f.resolve_left d;subst e f;refine ⟨?_,rfl⟩;unfold twoV;have j:(UInt8.ofNat (48+k / 10)).toNat=48+k / 10:=by simp;omega
  have i:(UInt8.ofNat (48+k%10)).toNat=48+k%10:=by simp;omega
  simp only [j,i];omega
 ·cases c
theorem zj {s:aa} (h:hasX s=false) {g:Nat} (d:g<100) (a:ii s g=true):1<=twoV s/\twoV s<=g/\s=two (twoV s):=by
 unfold ii at a;obtain ⟨i,hi,a⟩:=tX.1 a;have:=kX.1 hi;obtain ⟨b,c⟩:=L6 h (by omega) a;rw [b];exact ⟨by omega,by omega,c⟩
theorem LF {s:aa} (h:hasX s=false) {g:Nat} (d:g<100) {k:Int} (b:k∈ux (fitN s g)):k=(twoV s:Int):=by
 obtain ⟨i,hi,rfl⟩:=eY.1 b;obtain ⟨c,a⟩:=oh.1 hi;have:=BL.1 c;rw [(L6 h (by omega) a).1]
theorem Ip {k:Nat} (c:k<100):Lib.atoi (two k)=some (k:Int):=by
 have a:(UInt8.ofNat (48+k / 10)).toNat=48+k / 10:=by simp;omega
 have b:(UInt8.ofNat (48+k%10)).toNat=48+k%10:=by simp;omega
 unfold two;rw [H8 (by omega) (by omega),a,b];congr 2;omega
theorem za (n:Nat) {k:Nat} (d:k<100):aZ n (two k)=some (k:Int):=by
 have b:(UInt8.ofNat (48+k / 10)).toNat=48+k / 10:=by simp;omega
 have c:(UInt8.ofNat (48+k%10)).toNat=48+k%10:=by simp;omega
 have s0:sx (two k) 0=some (UInt8.ofNat (48+k / 10)):=rfl;have a:sx (two k) 1=some (UInt8.ofNat (48+k%10)):=rfl;unfold aZ;rw [s0,a];simp only [ob,b,c]
 rw [kz (((48+k / 10:Nat):Int) - 48) (by omega) (by omega),kz (((48+k%10:Nat):Int) - 48) (by omega) (by omega),
  wrap_i64 (((48+k / 10:Nat):Int) - 48) (by omega) (by omega),wrap_i64 (((48+k%10:Nat):Int) - 48) (by omega) (by omega),
  wrap_i64 (10*(((48+k / 10:Nat):Int) - 48)) (by omega) (by omega),wrap_i64 _ (by omega) (by omega)]
 congr 1;omega
structure Exact (g l:Bool) (dg:aa) (x:Int) (m d:aa):Prop where
 ok:okY g l dg x 0
 num:hasX dg=false
 cal:ee (yOf g dg x)
 mon:m=[]\/(∃j,j<21/\m=two (21+j)/\(j=3\/j=7\/j=9->yOf g dg x≠10000000000000000))\/(sea m=0/\1<=twoV m/\twoV m<=12/\m=two (twoV m))
 day:d=[]\/(m≠[]/\sea m=0/\1<=twoV d/\twoV d<=31/\d=two (twoV d)/\(twoV d:Int)<=lenI (yOf g dg x) (twoV m:Int))
theorem vU {g l:Bool} {dg:aa} {x q:Int} {m d:aa} {k0 k1 k2:Int} (hc:chkF g l dg x q m d k0 k1 k2=0) (f:exD dg m d q=true):q=0/\Exact g l dg x m d:=by
 unfold exD at f;simp only [aA,lz,pM,bI] at f;obtain ⟨⟨D,n,i⟩,rfl⟩:=f;refine ⟨rfl,?_⟩;have v:=oZ hc;obtain ⟨a,K,H,Q,t⟩:=tY v;obtain ⟨o,N,I,c4⟩:=Oj v;have p:=EO a D;obtain ⟨F,_,_⟩:=LK a;have hy:inP g dg x 0 (yOf g dg x):=by
  have:=(p _).1 F;have e:yOf g dg x=(sgn g (qc g dg x 0)).1:=by rw [this];rfl
  rw [e];exact F
 have s:=Ah hy;refine ⟨a,D,s,?_,?_⟩
 ·by_cases k:m=[]
  ·exact .inl k
  ·right;rcases pJ m with O | ⟨j,G,e⟩
   ·right;rcases N with h | h | h
    ·exact absurd h k
    ·omega
    ·obtain ⟨a1,a2,y⟩:=zj n (by omega) h;exact ⟨O,a1,a2,y⟩
   ·left;refine ⟨j,G,e,λJ=>?_⟩;unfold yrD at o;rw [ae a] at o;unfold yrB at o;simp only [aA,lz] at o;have C:wint (sea m)=true:=by
     rw [e,lY G];rcases J with rfl | rfl | rfl<;>rfl
    have r:=o.2;rw [C,om] at r;unfold uJ at r;rw [D] at r;intro b;unfold yOf at b;cases g with
    | true=>
     simp only [aL] at b;omega
    | false=>
     simp only [bv,aB] at b;have:val dg x.toNat=E16:=by unfold E16;omega
     rw [am this] at r;cases r
 ·by_cases c:d=[]
  ·exact .inl c
  ·right;obtain ⟨k,hs⟩:=t c;rcases I with h | ⟨_,_,h⟩
   ·exact absurd h c
   ·obtain ⟨a1,a2,y⟩:=zj i (by omega) h;refine ⟨k,hs,a1,a2,y,?_⟩;have M:hasF g dg x m d:=by
     unfold chkF at hc;split at hc
     ·cases hc
     ·rename_i P;by_cases h:hasF g dg x m d
      ·exact h
      ·exact absurd ⟨v,c,h⟩ P
    obtain ⟨e,f,E⟩:=M;obtain ⟨z,L,w⟩:=List.exists_cons_of_ne_nil E;have w:z∈wW m d e:=by rw [w];exact mV
    obtain ⟨z1,z2,A,B⟩:=Qg.1 w;have u:e=yOf g dg x:=(p e).1 f;unfold monI at z2;rw [ab k,ab (by omega)] at z2;unfold dayI at A;rw [ab c] at A;unfold wL at B;rw [ab c,LF i (by omega) A,LF n (by omega) z2,u] at B;exact B
theorem JS {j:Nat} (a:j<21):∃f c:Nat,n8[j]?=some ((f:Int),(c:Int))/\1<=f/\f<=12/\1<=c/\c<=6/\(12<f+c - 1↔j=3\/j=7\/j=9)/\spF (two (21+j))=f/\spC (two (21+j))=c:=by
 obtain ⟨f,c,e,g,i,d,h,k⟩:=GX a;have hs:(sea (two (21+j)) - 21).toNat=j:=by rw [lY a];omega
 have b:n8.getD j (0,0)=((f:Int),(c:Int)):=by rw [DU,e];rfl
 refine ⟨f,c,e,g,i,d,h,k,?_,?_⟩
 ·unfold spF;rw [hs,b];rfl
 ·unfold spC;rw [hs,b];rfl
theorem D8 (n:Nat) {j:Nat} (a:j<21):gZ n ((21+j:Nat):Int)=n8[j]?:=by
 have:j=0\/j=1\/j=2\/j=3\/j=4\/j=5\/j=6\/j=7\/j=8\/j=9\/j=10\/j=11\/j=12\/j=13\/j=14\/j=15\/j=16\/j=17\/j=18\/j=19\/j=20:=by omega
 rcases this with rfl | rfl | rfl | rfl | rfl | rfl | rfl | rfl | rfl | rfl | rfl | rfl | rfl | rfl | rfl | rfl | rfl | rfl | rfl | rfl | rfl<;>rfl
theorem GN (n:Nat) (g l:Bool) (dg:aa) (x q:Int) (m d:aa) (k0 k1 k2:Int) (b:m.length<=1000) (a:dg.length<=1000) (h:d.length<=1000):mF n g l dg x q m d k0 k1 k2=some (exD dg m d q):=by
 unfold mF exD;rw [DK n g l dg x q m d k0 k1 k2 b a h];simp only [ob];cases (hasX dg||(hasX m||hasX d))<;>rfl
theorem QN {Y:Type} (a b:Y):∀s:aa,((s.findSome? λc=>if c=88 then some a else none).getD b)=if hasX s then a else b
 | []=>rfl
 | c::s=>by
  have ih:=QN a b s;unfold hasX at ih ⊢;rw [Df,ri];by_cases hc:c=88
  ·subst hc;rfl
  ·rw [ab hc];have e:(c==88)=false:=aK.2 hc;rw [e,pf];exact ih
theorem yW (n:Nat) (s:aa) (g l:Bool) (dg:aa) (x q:Int) (m d:aa) (k0 k1 k2:Int) (hs:s.length<=100000) {N:Nat} (b:s.length<N):
  ar (eu n) N (s,0,g,l,dg,x,q,m,d,k0,k1,k2)=some (if hasX s then .inl 0 else .inr (g,l,dg,x,q,m,d,k0,k1,k2)):=by
 have:=tN (step:=eu n) (f:=λi=>(s,(i:Int),g,l,dg,x,q,m,d,k0,k1,k2)) (L:=s) (G:=λc=>if c=88 then some (.inl 0) else none) (e:=.inr (g,l,dg,x,q,m,d,k0,k1,k2))
  (λi c hi=>by
   have a:=(qH.1 hi).1;have j:IntKind.wrap .i64 ((i:Int)+1)=((i+1:Nat):Int):=by rw [wrap_i64 _ (by omega) (by omega)];omega
   unfold eu;simp only [d4,d8,j];rw [am (show (i:Int)<((s.length:Nat):Int) by omega),dI hi];simp only [ah,ob];by_cases hc:c=88
   ·subst hc;rw [ae rfl];rfl
   ·rw [ab hc];have:(((c.toNat:Nat):Int)==88)=false:=by
     rw [aK];intro h;apply hc;apply gJ.1;have:c.toNat=88:=by omega
     rw [this];rfl
    rw [this];rfl)
  (by
   unfold eu;simp only [d4,d8];rw [aq (show ¬((s.length:Nat):Int)<((s.length:Nat):Int) by omega)];rfl)
  b
 rw [show ((0:Nat):Int)=0 from rfl] at this;rw [this];rw [QN]
theorem Eb (n:Nat) (g l:Bool) (dg:aa) (x q:Int) (m d:aa) (k0 k1 k2:Int) (e:m.length<=1000) (f:dg.length<=1000) (h:d.length<=1000) (i:4000<n):aP n g l dg x q m d k0 k1 k2=some (if exD dg m d q then 1 else 0):=by
 unfold aP;rw [du (by omega)];simp only [ob];rw [du (by rw [bg];omega)];simp only [];rw [yW n _ _ _ _ _ _ _ _ _ _ _ (by simp only [bg];omega) (by simp only [bg];omega)];rw [vW,vW];unfold exD;cases hasX dg<;>cases hasX m<;>cases hasX d<;>(try rfl);simp only [xc,bv,aB,ob,d4,il,om];by_cases a:q=0
 ·subst a;rfl
 ·have b:(q != 0)=true:=by simp [a]
  have c:(q==0)=false:=aK.2 a;rw [b,c];rfl
theorem TQ (n:Nat) (c:100<n) {y:Int} (h:ee y) {m k:Nat} (a:1<=m) (b:m<=12) (k1:1<=k) (k2:(k:Int)<=lenI y (m:Int)):sc n y (m:Int) (k:Int)=some (dayM y m+(k:Int) - 1,0):=by
 have d:=pu h (m:=m) (by omega);have e:=lU y (m:Int);unfold sc qV;rw [LW n h a b];simp only [ob,dF,af];rw [aq (show ¬(k:Int)<1 by omega),aq (show ¬(k:Int)>lenI y (m:Int) by omega),uB n c h a b];simp only [ob,dF,af];rw [wrap_i64 (dayM y m+(k:Int)) (by omega) (by omega),wrap_i64 _ (by omega) (by omega)]
section
variable {g l:Bool} {dg:List UInt8} {x:Int} {m d:List UInt8} {k0 k1 k2:Int}
theorem Fv (n:Nat) (u:100<n) (z:m.length<=18) (E:Exact g l dg x m d) (q r:Int) (y:m≠[]->q=if 0<sea m then sea m else (twoV m:Int)) (O:d≠[]->r=(twoV d:Int)):
  (ob (jm n) λv=>(ob (bj n g l dg x 0 m d k0 k1 k2) λi=>(cond (i==0) (ob (gz n (yOf g dg x) ([q,r]:List (Int))) λo=>(some (o.1,o.2.1,o.2.2.1,o.2.2.2,(0:Int)))) (cond (i==1) (ob (gA n (yOf g dg x) ([q,r]:List (Int))) λb=>(some (b.1,b.2.1,b.2.2.1,b.2.2.2,0))) (cond (i==2) (ob (gD n (yOf g dg x) ([q,r]:List (Int))) λk=>(some (k.1,k.2.1,k.2.2.1,k.2.2.2,0))) (cond (i==3) (ob (gK n (yOf g dg x) ([q,r]:List (Int))) λa=>(some (a.1,a.2.1,a.2.2.1,a.2.2.2,0))) none)))))) =
   some (0,(qp g dg x m d).1,0,(qp g dg x m d).2,0):=by
 have K:jm n=some ():=rfl;have D:ix ([q,r]:List Int).length 0=some 0:=rfl;have L:ix ([q,r]:List Int).length 1=some 1:=rfl;have g0:([q,r]:List Int)[0]?=some q:=rfl;have G:([q,r]:List Int)[1]?=some r:=rfl;rw [K,Nv n g l dg x 0 m d k0 k1 k2 z];unfold qp;by_cases t:d=[]
 ·rw [ae t];by_cases p:m=[]
  ·have hs:sea m=0:=by rw [p];decide
   rw [ab (show ¬0<sea m by omega),ae p,ae p];unfold gA;rw [sN n E.cal,Dj n E.cal];rfl
  ·rw [ab p];by_cases hs:0<sea m
   ·rw [ae hs,ae hs];rcases E.mon with h | ⟨j,s,e,A⟩ | ⟨h,_⟩
    ·exact absurd h p
    ·obtain ⟨f,c,J,a1,a2,I,M,F,H,P⟩:=JS s;have C:q=((21+j:Nat):Int):=by rw [y p,ae hs,e,lY s]
     unfold gz;rw [D];simp only [ob,g0];rw [C,IH n u E.cal s J a1 a2 I M (λh=>A (F.1 h)),e,H,P];rfl
    ·omega
   ·rw [ab hs,ab hs,ab p,ae t];rcases E.mon with h | ⟨j,s,e,A⟩ | ⟨_,a1,a2,_⟩
    ·exact absurd h p
    ·rw [e,lY s] at hs;omega
    ·have C:q=(twoV m:Int):=by rw [y p,ab hs]
     unfold gD;rw [D];simp only [ob,g0];rw [C,uB n u E.cal a1 a2,Fj n u E.cal a1 a2];rfl
 ·rw [ab t];rcases E.day with h | ⟨p,hs,b1,b2,Q,N⟩
  ·exact absurd h t
  ·rw [ab p,ab (show ¬0<sea m by omega),ab t];rcases E.mon with h | ⟨j,s,e,A⟩ | ⟨_,a1,a2,_⟩
   ·exact absurd h p
   ·rw [e,lY s] at hs;omega
   ·have w:q=(twoV m:Int):=by rw [y p,ab (by omega)]
    have B:=O t;unfold gK;rw [D,L];simp only [ob,g0,G];rw [w,B,TQ n u E.cal a1 a2 b1 N];rfl
theorem OV (E:Exact g l dg x m d) (c:m≠[]):Lib.atoi m=some (if 0<sea m then sea m else (twoV m:Int)):=by
 rcases E.mon with h | ⟨j,a,e,_⟩ | ⟨f,a1,a2,b⟩
 ·exact absurd h c
 ·rw [e,lY a,ae (by omega)];exact xJ a
 ·rw [ab (by omega)];have:=Ip (k:=twoV m) (by omega);rw [<-b] at this;exact this
theorem Pn (E:Exact g l dg x m d) (a:d≠[]):Lib.atoi d=some (twoV d:Int):=by
 rcases E.day with h | ⟨_,_,a1,a2,b,_⟩
 ·exact absurd h a
 ·have:=Ip (k:=twoV d) (by omega);rw [<-b] at this;exact this
theorem AN:Lib.atoi []=none:=by kernel_rfl
theorem EK {q:Int} (b:m.length<=18) (e:dg.length<=100) (r:d.length<=18) (t:0<=k0) (o:0<=k1) (s:0<=k2):
  gG 20000000 g l dg x q m d k0 k1 k2=some (if chkF g l dg x q m d k0 k1 k2=0 then (if exD dg m d q=true then (0,(qp g dg x m d).1,0,(qp g dg x m d).2,0) else (0,0,0,0,1)) else (0,0,0,0,chkF g l dg x q m d k0 k1 k2)):=by
 have k:Nat.ble m.length 18=true:=cT b;have n:Nat.ble d.length 18=true:=cT r;unfold gG;rw [wu b e t o s];simp only [ob];by_cases hc:chkF g l dg x q m d k0 k1 k2=0
 ·rw [ae hc,hc,GN 20000000 g l dg x q m d k0 k1 k2 (by omega) (by omega) (by omega)];simp only [ob,dF,af];by_cases c:exD dg m d q=true
  ·rw [ae c,c];obtain ⟨rfl,E⟩:=vU hc c;have p:eS 20000000 g l dg x 0=some (yOf g dg x,0):=by
    rw [AP 20000000 g l dg x 0 (by omega) e,ae ⟨E.ok,E.num⟩];rfl
   rw [p,k,n];simp only [ci,af,ah,ob];by_cases f:m=[]
   ·have a:d=[]:=by
     rcases E.day with h | ⟨h,_⟩
     ·exact h
     ·exact absurd f h
    have:=Fv (k0:=k0) (k1:=k1) (k2:=k2) 20000000 (by omega) b E 0 0 (λh=>absurd f h) (λh=>absurd a h);have i:Lib.atoi m=none:=by rw [f];exact AN
    have j:Lib.atoi d=none:=by rw [a];exact AN
    rw [i,j];simp only [opt];exact this
   ·have i:=OV E f;by_cases a:d=[]
    ·have:=Fv (k0:=k0) (k1:=k1) (k2:=k2) 20000000 (by omega) b E (if 0<sea m then sea m else (twoV m:Int)) 0 (λ_=>rfl) (λh=>absurd a h);have j:Lib.atoi d=none:=by rw [a];exact AN
     rw [i,j];simp only [opt];exact this
    ·have:=Fv (k0:=k0) (k1:=k1) (k2:=k2) 20000000 (by omega) b E (if 0<sea m then sea m else (twoV m:Int)) (twoV d:Int) (λ_=>rfl) (λ_=>rfl);rw [i,Pn E a];simp only [opt];exact this
  ·rw [ab c];rw [HC] at c;rw [c];rfl
 ·rw [ab hc,bne0 hc];rfl
theorem vb (E:Exact g l dg x m d) (J:dg.length<=100):bq 20000000 g l dg x 0 m d k0 k1 k2=some (qp g dg x m d):=by
 obtain ⟨k,q,rfl,X,I⟩:=uu E.ok E.num;have V:k<=17:=by have:=I.wide;omega
 have hs:=I.small;have C:ak 20000000 dg (k:Int)=some (((val dg k:Nat):Int),1):=by
  rw [jB 20000000 dg k I.dig J (by omega) (by omega),ae I.small];rfl
 have T:dval 0 dg*10 ^ k=val dg k:=rfl;rw [T] at hs;unfold E16 at hs;have hy:yOf g dg (k:Int)=if g then -((val dg k:Nat):Int) else ((val dg k:Nat):Int):=by unfold yOf;rw [cg]
 have H:=E.cal;unfold ee at H;have key:∀y:Int,y=yOf g dg (k:Int)->
   (ob (aR 20000000 g l dg (k:Int) 0 m d k0 k1 k2) λn=>(cond (m==([]:aa)) (ob (ch 20000000 y) λp=>(ob (ch 20000000 (IntKind.wrap .i64 (y+1))) λt=>(some (p,(IntKind.wrap .i64 (t - 1)))))) (cond (decide (n>0)) (ob (gZ 20000000 n) λa=>(ob (aS 20000000 y a.1) λr=>(ob (aS 20000000 y (IntKind.wrap .i64 (a.1+a.2))) λz=>(some (r,(IntKind.wrap .i64 (z - 1))))))) (cond (d==([]:aa)) (ob (aZ 20000000 m) λu=>(ob (aS 20000000 y u) λA=>(ob (aZ 20000000 m) λv=>(ob (aS 20000000 y (IntKind.wrap .i64 (v+1))) λo=>(some (A,(IntKind.wrap .i64 (o - 1)))))))) (ob (aZ 20000000 m) λs=>(ob (aS 20000000 y s) λb=>(ob (aZ 20000000 d) λi=>(some ((IntKind.wrap .i64 ((IntKind.wrap .i64 (b+i)) - 1)),(IntKind.wrap .i64 ((IntKind.wrap .i64 (b+i)) - 1)))))))))) )=some (qp g dg (k:Int) m d):=by
  intro y L;subst L;have hcal':=E.cal;have Y:=kD (y:=yOf g dg (k:Int)+1) (by omega);rw [pF 20000000 (by omega)];simp only [ob];unfold qp;by_cases B:m=[]
  ·have e:(m==([]:aa))=true:=by rw [B];rfl
   rw [ae B,e,se 20000000 (by omega) (by omega),wrap_i64 (yOf g dg (k:Int)+1) (by omega) (by omega),se 20000000 (by omega) (by omega)];simp only [ah,ob];rw [wrap_i64 _ (by omega) (by omega)]
  ·rw [ab B,gj B];simp only [af];by_cases hs:0<sea m
   ·rw [ae hs,am (show sea m>0 from hs)];rcases E.mon with h | ⟨j,G,e,_⟩ | ⟨h,_⟩
    ·exact absurd h B
    ·obtain ⟨f,c,S,a1,a2,N,Z,W,Q,U⟩:=JS G;have K:sea m=((21+j:Nat):Int):=by rw [e,lY G]
     have P:=pu hcal' (m:=f+c) (by omega);rw [K,D8 20000000 G,S];simp only [ah,ob];rw [qQ 20000000 (by omega) (by omega) a1 (by omega)];simp only [ob];rw [wrap_i64 ((f:Int)+(c:Int)) (by omega) (by omega),show (f:Int)+(c:Int)=((f+c:Nat):Int) by omega,qQ 20000000 (by omega) (by omega) (by omega) (by omega)];simp only [ob];rw [wrap_i64 _ (by omega) (by omega),e,Q,U]
    ·omega
   ·rw [ab hs,aq (show ¬sea m>0 from hs)];simp only [af];rcases E.mon with h | ⟨j,G,e,_⟩ | ⟨_,a1,a2,N⟩
    ·exact absurd h B
    ·rw [e,lY G] at hs;omega
    ·have M:=za 20000000 (k:=twoV m) (by omega);rw [<-N] at M;have P:=pu hcal' (m:=twoV m) (by omega);have O:=pu hcal' (m:=twoV m+1) (by omega);by_cases F:d=[]
     ·have e:(d==([]:aa))=true:=by rw [F];rfl
      rw [ae F,e,M];simp only [ah,ob];rw [qQ 20000000 (by omega) (by omega) a1 (by omega)];simp only [ob];rw [wrap_i64 ((twoV m:Int)+1) (by omega) (by omega),show (twoV m:Int)+1=((twoV m+1:Nat):Int) by omega,qQ 20000000 (by omega) (by omega) (by omega) (by omega)];simp only [ob];rw [wrap_i64 _ (by omega) (by omega)]
     ·rw [ab F,gj F];rcases E.day with h | ⟨_,_,b1,b2,R,b4⟩
      ·exact absurd h F
      ·have D:=za 20000000 (k:=twoV d) (by omega);rw [<-R] at D;rw [M];simp only [af,ob];rw [qQ 20000000 (by omega) (by omega) a1 (by omega),D];simp only [ob];rw [wrap_i64 (dayM (yOf g dg (k:Int)) (twoV m)+(twoV d:Int)) (by omega) (by omega),wrap_i64 _ (by omega) (by omega)]
 unfold bq;rw [C];simp only [ob];cases g with
 | true=>
  have w:IntKind.wrap .i64 (0 - ((val dg k:Nat):Int))=yOf true dg (k:Int):=by
   rw [wrap_i64 _ (by omega) (by omega),hy];simp
  rw [w];simp only [ah];exact key _ rfl
 | false=>
  have w:((val dg k:Nat):Int)=yOf false dg (k:Int):=by rw [hy];rfl
  rw [w];simp only [af];exact key _ rfl
end
end Go.Sh
