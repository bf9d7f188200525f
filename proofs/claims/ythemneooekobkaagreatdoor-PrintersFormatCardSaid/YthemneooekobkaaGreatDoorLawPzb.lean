
/- Plain proofs, kept as far as they are needed here (printed by prune.py).
   Conditions: none. -/
import Derived.Test.YthemneooekobkaaGreatDoorLawPza
set_option linter.unusedVariables false
set_option linter.unusedSimpArgs false
set_option maxRecDepth 100000
namespace Go.Sh
open Go.Abs
def cE (A B:Nat) (w:aa):aa:=mt A++w++mt B
def qj (g l:Bool) (dg:aa) (x q:Int) (m d:aa) (k0 k1 k2:Nat):aa:=
 cE (plA (br m d) k0 k1 k2).1 (plB (br m d) k0 k1 k2).1 (gQ g l dg x q)
  ++ ((if m=[] then [] else 45::cE (plA (br m d) k0 k1 k2).2.1 (plB (br m d) k0 k1 k2).2.1 m)
  ++ (if d=[] then [] else 45::cE (plA (br m d) k0 k1 k2).2.2 (plB (br m d) k0 k1 k2).2.2 d))
structure OkD (g l:Bool) (dg:aa) (x q:Nat) (m d:aa) (k0 k1 k2:Nat):Prop where
 yr:okY g l dg (x:Int) (q:Int)
 x16:x<=16
 q17:q<=17
 dg17:dg.length<=17
 noM:0<q->m=[]
 mon:m=[]\/(m.length=2/\∀c∈m,isDX c=true)
 day:d=[]\/(m≠[]/\d.length=2/\∀c∈d,isDX c=true)
 m0:k0<4
 m1:k1<4
 m2:k2<4
 z1:br m d<2->k1=0
 z2:br m d<3->k2=0
theorem D5 {g l:Bool} {dg:aa} {x q:Int} {m d:aa} {k0 k1 k2:Int} (A:0<=k0) (v:0<=k1) (C:0<=k2) (h:chkD g l dg x q m d k0 k1 k2=0):
  ∃o p a b c:Nat,x=(o:Int)/\q=(p:Int)/\k0=(a:Int)/\k1=(b:Int)/\k2=(c:Int)/\OkD g l dg o p m d a b c:=by
 obtain ⟨hy,f,j,n⟩:=DN h;unfold yrD at hy;by_cases e:okY g l dg x q
 rotate_left
 ·rw [ab e] at hy;cases hy
 rw [ae e] at hy;obtain ⟨r,y,t,B,w,s⟩:=iN e;have hk':¬(3<k0\/3<k1\/3<k2\/(br m d<2/\k1≠0)\/(br m d<3/\k2≠0)):=by
  intro z;unfold allM at n;rw [ae z] at n;exact absurd n (by decide)
 refine ⟨x.toNat,q.toNat,k0.toNat,k1.toNat,k2.toNat,by omega,by omega,by omega,by omega,by omega,?_⟩;rw [<-IS r,<-IS t] at e;refine ⟨e,by omega,by omega,s,?_,?_,?_,by omega,by omega,by omega,by omega,by omega⟩
 ·intro u;unfold yrB at hy;have hq':decide (0<q)=true:=by simp;omega
  rw [hq'] at hy;by_cases i:m=[]
  ·exact i
  ·have:(m==[])=false:=aI.2 i;rw [this] at hy;simp at hy
 ·rcases f with f | f | f
  ·exact .inl f
  ·exact .inr (GW f)
  ·exact .inr (nY (by omega) f)
 ·rcases j with j | ⟨j,_,k⟩
  ·exact .inl j
  ·have:=nY (show 31<=31 by omega) k;exact .inr ⟨j,this.1,this.2⟩
theorem PS (n k i:Nat) (hi:i<k) (u:k<=3) (A B:List Nat) (a b:Nat) (m:A[i]?=some a) (l:B[i]?=some b) (f:a<4) (g:b<4) (ws:List (aa)) (y:ws.length=k) (w:aa) (w0 d e:aa) (p:[w0,d,e][i]?=some w) (j:w.length<=1000):
  aU n (k,(k:Int),(i:Int),A.map cI,B.map cI,ws,[w0,d,e])=some (.inl (k,(k:Int),((i+1:Nat):Int),A.map cI,B.map cI,ws.set i (cE a b w),[w0,d,e])):=by
 have w2':IntKind.wrap .i64 ((i:Int)+1)=((i+1:Nat):Int):=by rw [wrap_i64 _ (by omega) (by omega)];omega
 have s:(A.map cI)[i]?=some (a:Int):=by rw [nr,m];rfl
 have r:(B.map cI)[i]?=some (b:Int):=by rw [nr,l];rfl
 have c:∀z:Nat,z<4->(mt z).length<=1:=λz x=>by
  unfold mt;split
  ·simp
  ·split
   ·simp
   ·split<;>simp
 unfold aU;rw [bE,ae (show (i:Int)<(k:Int) by omega)];simp only [dk hi,dk (show i<3 by omega),ob,p,d4,s,r,(EQ n a f).1,(EQ n b g).1];have t:=c a f;have C:=c b g;have q:cat (mt a) w=some (mt a++w):=bQ (by omega);have o:cat (mt a++w) (mt b)=some (mt a++w++mt b):=bQ (by rw [aO];omega);rw [q];simp only [ob];rw [o];simp only [ob];have hi':i<ws.length:=by omega
 obtain ⟨v,h⟩:∃v,ws[i]?=some v:=⟨ws[i],aT hi'⟩;rw [dk hi'];simp only [ob,h,w2'];rfl
theorem G5 (n k:Nat) (A B:List Int) (ws V:List (aa)):aU n (k,(k:Int),(k:Int),A,B,ws,V)=some (.inr ws):=by
 unfold aU;rw [bE,ab (show ¬((k:Int)<(k:Int)) by omega)]
theorem nN (a b:Nat) (w:aa):(cE a b w).length<=w.length+2:=by
 have c:∀z:Nat,(mt z).length<=1:=λz=>by
  unfold mt;split
  ·simp
  ·split
   ·simp
   ·split<;>simp
 have:=c a;have:=c b;unfold cE;simp only [aO];omega
theorem LX:br [] []=1:=rfl
theorem HJ {m:aa} (h:m≠[]):br m []=2:=by unfold br;rw [aI.2 h];rfl
theorem IP {m d:aa} (h:m≠[]) (a:d≠[]):br m d=3:=by unfold br;rw [aI.2 h,aI.2 a];rfl
theorem pI {d:aa} (h:d.length=2):d≠[]:=by rintro rfl;simp at h
theorem Vk (n:Nat) (g l:Bool) (dg:aa) (x q:Nat) (m d:aa) (k0 k1 k2:Nat) (R:m.length<=18) (O:dg.length<=100):
  cS (n+300) g l dg (x:Int) (q:Int) m d (k0:Int) (k1:Int) (k2:Int)=some (if chkD g l dg (x:Int) (q:Int) m d (k0:Int) (k1:Int) (k2:Int)=0 then (qj g l dg (x:Int) (q:Int) m d k0 k1 k2,0) else ([],chkD g l dg (x:Int) (q:Int) m d (k0:Int) (k1:Int) (k2:Int))):=by
 unfold cS;rw [CY (n+300) (by omega) g l dg _ _ m d _ _ _ R O (by omega) (by omega) (by omega)];show cond (chkD g l dg (x:Int) (q:Int) m d (k0:Int) (k1:Int) (k2:Int) != 0) _ _=_;rw [wH];by_cases C:chkD g l dg (x:Int) (q:Int) m d (k0:Int) (k1:Int) (k2:Int)=0
 rotate_left
 ·rw [ab C,ab C]
 rw [ae C,ae C];obtain ⟨S,X,a,b,c,e1,e2,e3,e4,e5,o⟩:=D5 (by omega) (by omega) (by omega) C;obtain rfl:x=S:=by omega
 obtain rfl:q=X:=by omega
 obtain rfl:k0=a:=by omega
 obtain rfl:k1=b:=by omega
 obtain rfl:k2=c:=by omega
 have hc:=lC m d;have J:=(V0 n (br m d) k0 k1 k2 hc o.m0 o.m1 o.m2 o.z1 o.z2).1;obtain ⟨G,I,P,y,H,N⟩:=UE (k:=br m d) o.m0 o.m1 o.m2;rw [uQ (n+300) (by omega)];simp only [ob];rw [J,C3 (n+300) g l dg _ _ (by omega) O,ae o.yr];simp only [ob,fC,af,K6 o.yr,ah];have E:(decide ((0:Int)<=((br m d:Nat):Int))&&(decide (((br m d:Nat):Int)<=((br m d:Nat):Int))&&decide (((br m d:Nat):Int)<=(67108864:Int))))=true:=by
  rw [aq (by omega),aq (by omega),aq (by omega)];rfl
 rw [E,cT (show br m d<=3 by omega)];simp only [ob,ah,bO];have K:=vb o.yr;have V:Nat.ble 1 140737488355328=true:=rfl;have U:Nat.ble 2 140737488355328=true:=rfl;have W:Nat.ble 3 140737488355328=true:=rfl;unfold qj;generalize gQ g l dg (x:Int) (q:Int)=Y at K;generalize D:plA (br m d) k0 k1 k2=T at *;generalize B:plB (br m d) k0 k1 k2=PB at *;obtain ⟨f,r,s⟩:=T;obtain ⟨j,p,t⟩:=PB;simp only at G I P y H N;have st:=λ(k i:Nat) (hi:i<k) (hk:k<=3) (a b:Nat) (ha:[f,r,s][i]?=some a) (hb:[j,p,t][i]?=some b) (a4:a<4) (b4:b<4) (ws:List (aa)) (hl:ws.length=k) (w:aa) (w0 w1 w2:aa) (F:[w0,w1,w2][i]?=some w) (hwl:w.length<=1000)=>PS (n+300) k i hi hk [f,r,s] [j,p,t] a b ha hb a4 b4 ws hl w w0 w1 w2 F hwl;have A:∀L:aa,L.length<=1000->Nat.ble L.length 140737488355328=true:=λL h=>cP (by omega);by_cases u:m=[]
 ·have v:d=[]:=o.day.resolve_right (λz=>z.1 u);subst u v;show ob (aw (aU (n+300)) (n+299+1) (1,((1:Nat):Int),((0:Nat):Int),[f,r,s].map cI,[j,p,t].map cI,[[]],[Y,[],[]])) _=_;rw [aw,st 1 0 (by omega) (by omega) f j rfl rfl G y [[]] rfl Y Y [] [] rfl (by omega)];show ob (aw (aU (n+300)) (n+298+1) (1,((1:Nat):Int),((1:Nat):Int),[f,r,s].map cI,[j,p,t].map cI,[cE f j Y],[Y,[],[]])) _=_;rw [aw,G5];simp only [ob];have e:Lib.join [cE f j Y] [45]=cE f j Y:=Lib.join_one _ _;have F:=nN f j Y;rw [e,A _ (by omega)];simp [V]
 ·have Q:m.length=2:=(o.mon.resolve_left u).1;by_cases v:d=[]
  ·subst v;rw [HJ u] at D B ⊢;show ob (aw (aU (n+300)) (n+299+1) (2,((2:Nat):Int),((0:Nat):Int),[f,r,s].map cI,[j,p,t].map cI,[[],[]],[Y,m,[]])) _=_;rw [aw,st 2 0 (by omega) (by omega) f j rfl rfl G y [[],[]] rfl Y Y m [] rfl (by omega)];show ob (aw (aU (n+300)) (n+298+1) (2,((2:Nat):Int),((1:Nat):Int),[f,r,s].map cI,[j,p,t].map cI,[cE f j Y,[]],[Y,m,[]])) _=_;rw [aw,st 2 1 (by omega) (by omega) r p rfl rfl I H [cE f j Y,[]] rfl m Y m [] rfl (by omega)];show ob (aw (aU (n+300)) (n+297+1) (2,((2:Nat):Int),((2:Nat):Int),[f,r,s].map cI,[j,p,t].map cI,[cE f j Y,cE r p m],[Y,m,[]])) _=_;rw [aw,G5];simp only [ob];have e:Lib.join [cE f j Y,cE r p m] [45]=cE f j Y++(45::cE r p m):=by rw [Lib.join_cons];simp [Lib.joinTail]
   have F:=nN f j Y;have M:=nN r p m;rw [e,A _ (by simp only [aO,aC];omega)];rw [ab u];simp [U]
  ·have Z:d.length=2:=(o.day.resolve_left v).2.1;rw [IP u v] at D B ⊢;show ob (aw (aU (n+300)) (n+299+1) (3,((3:Nat):Int),((0:Nat):Int),[f,r,s].map cI,[j,p,t].map cI,[[],[],[]],[Y,m,d])) _=_;rw [aw,st 3 0 (by omega) (by omega) f j rfl rfl G y [[],[],[]] rfl Y Y m d rfl (by omega)];show ob (aw (aU (n+300)) (n+298+1) (3,((3:Nat):Int),((1:Nat):Int),[f,r,s].map cI,[j,p,t].map cI,[cE f j Y,[],[]],[Y,m,d])) _=_;rw [aw,st 3 1 (by omega) (by omega) r p rfl rfl I H [cE f j Y,[],[]] rfl m Y m d rfl (by omega)];show ob (aw (aU (n+300)) (n+297+1) (3,((3:Nat):Int),((2:Nat):Int),[f,r,s].map cI,[j,p,t].map cI,[cE f j Y,cE r p m,[]],[Y,m,d])) _=_;rw [aw,st 3 2 (by omega) (by omega) s t rfl rfl P N [cE f j Y,cE r p m,[]] rfl d Y m d rfl (by omega)];show ob (aw (aU (n+300)) (n+296+1) (3,((3:Nat):Int),((3:Nat):Int),[f,r,s].map cI,[j,p,t].map cI,[cE f j Y,cE r p m,cE s t d],[Y,m,d])) _=_;rw [aw,G5];simp only [ob];have e:Lib.join [cE f j Y,cE r p m,cE s t d] [45]=cE f j Y++(45::cE r p m++(45::cE s t d)):=by rw [Lib.join_cons];simp [Lib.joinTail]
   have F:=nN f j Y;have M:=nN r p m;have hw2:=nN s t d;rw [e,A _ (by simp only [aO,aC];omega)];rw [ab u,ab v];simp [W]
theorem J3 (n:Nat) {g l:Bool} {dg:aa} {x q:Nat} {m d:aa} {k0 k1 k2:Nat} (e:OkD g l dg x q m d k0 k1 k2):
  cK (n+300) g l dg (x:Int) (q:Int) m d (k0:Int) (k1:Int) (k2:Int)=some (qj g l dg (x:Int) (q:Int) m d k0 k1 k2):=by
 have hc:=lC m d;have v:=(V0 n (br m d) k0 k1 k2 hc e.m0 e.m1 e.m2 e.z1 e.z2).2;obtain ⟨F,D,E,p,B,C⟩:=UE (k:=br m d) e.m0 e.m1 e.m2;have w:=vb e.yr;have hx:=e.x16;have V:=e.q17;have K:=e.dg17;unfold cK;rw [dA (n+300)];simp only [ob];rw [v,P8 (n+300) g l dg x q (by omega) (by omega) (by omega)];unfold qj;generalize gQ g l dg (x:Int) (q:Int)=Y at w ⊢;generalize T:plA (br m d) k0 k1 k2=I at *;generalize N:plB (br m d) k0 k1 k2=PB at *;obtain ⟨y,s,t⟩:=I;obtain ⟨A,r,u⟩:=PB;simp only at F D E p B C;have j:∀z:Nat,(mt z).length<=1:=λz=>by
  unfold mt;split
  ·simp
  ·split
   ·simp
   ·split<;>simp
 have S:=j y;have H:=j s;have Q:=j t;have O:=j A;have P:=j r;have R:=j u;have G:m.length<=2:=by
  rcases e.mon with h | h
  ·rw [h];simp
  ·omega
 have U:d.length<=2:=by
  rcases e.day with h | h
  ·rw [h];simp
  ·omega
 have M:∀a b c:Nat,(l3 (a,b,c))[0]?=some (a:Int):=λ_ _ _=>rfl;have L:∀a b c:Nat,(l3 (a,b,c))[1]?=some (b:Int):=λ_ _ _=>rfl;have J:∀a b c:Nat,(l3 (a,b,c))[2]?=some (c:Int):=λ_ _ _=>rfl;have f:∀a b:aa,a.length+b.length<=1000000->cat a b=some (a++b):=λa b h=>bQ h;simp only [ob,M,L,J,(EQ (n+300) y F).2,(EQ (n+300) s D).2,(EQ (n+300) t E).2,(EQ (n+300) A p).2,(EQ (n+300) r B).2,(EQ (n+300) u C).2];rw [f (mt y) Y (by omega)];simp only [ob];rw [f _ (mt A) (by simp only [aO];omega)];simp only [ob];have k1':decide (((br m d:Nat):Int)>1)=decide (1<br m d):=by rw [n8];omega
 have k2':decide (((br m d:Nat):Int)>2)=decide (2<br m d):=by rw [n8];omega
 rw [k1',k2'];by_cases i:m=[]
 ·have o:d=[]:=e.day.resolve_right (λz=>z.1 i);subst i o;rw [LX];simp [cE]
 ·by_cases o:d=[]
  ·subst o;rw [HJ i,ab i];simp only [show decide (1<2)=true from rfl,show decide (2<2)=false from rfl,ah,af];rw [f [45] (mt s) (by simp;omega)];simp only [ob];rw [f _ m (by simp only [aO,aC,bh];omega)];simp only [ob];rw [f _ (mt r) (by simp only [aO,aC,bh];omega)];simp only [ob];rw [f _ _ (by simp only [aO,aC,bh];omega)];simp [cE]
  ·rw [IP i o,ab i,ab o];simp only [show decide (1<3)=true from rfl,show decide (2<3)=true from rfl,ah,af];rw [f [45] (mt s) (by simp;omega)];simp only [ob];rw [f _ m (by simp only [aO,aC,bh];omega)];simp only [ob];rw [f _ (mt r) (by simp only [aO,aC,bh];omega)];simp only [ob];rw [f _ _ (by simp only [aO,aC,bh];omega)];simp only [ob];rw [f [45] (mt t) (by simp;omega)];simp only [ob];rw [f _ d (by simp only [aO,aC,bh];omega)];simp only [ob];rw [f _ (mt u) (by simp only [aO,aC,bh];omega)];simp only [ob];rw [f _ _ (by simp only [aO,aC,bh];omega)];simp [cE]
def isMk (c:UInt8):Bool:=decide (0<mkOf c)
theorem gV {S u v:aa} {a:Nat} (h:S.drop a=u++v):S.drop (a+u.length)=v:=by
 rw [<-jv,h,EM];rfl
theorem KW {A:Nat} (d:A<4) {r:aa} (b:di isMk r):mkS (mt A++r)=A/\mkN (mt A++r)=(mt A).length:=by
 have a:mkS r=0:=by
  cases r with
  | nil=>rfl
  | cons c r=>
   have:=b c rfl;unfold isMk at this;have:=of_decide_eq_false this;show mkOf c=0;omega
 have h:A=0\/A=1\/A=2\/A=3:=by omega
 rcases h with rfl | rfl | rfl | rfl
 ·refine ⟨a,?_⟩;show mkN r=0;unfold mkN;rw [ae a]
 ·exact ⟨rfl,rfl⟩
 ·exact ⟨rfl,rfl⟩
 ·exact ⟨rfl,rfl⟩
theorem eo {p:UInt8->Bool} {c:UInt8} {r:aa} (h:p c=false):di p (c::r):=λa hc=>by
 simp only [o5,av] at hc;rw [<-hc];exact h
theorem Oq {p:UInt8->Bool} (B:Nat) {r:aa} (c:p 63=false) (b:p 126=false) (d:p 37=false) (a:di p r):di p (mt B++r):=by
 unfold mt;split
 ·exact eo c
 ·split
  ·exact eo b
  ·split
   ·exact eo d
   ·exact a
theorem JO {c:UInt8} (h:isDX c=true):isMk c=false:=by
 have:=ja (λc=>!(isDX c)||!(isMk c)) (by decide +kernel) c;rw [h] at this;simpa using this
theorem wC {p q:UInt8->Bool} {w r:aa} (b:w≠[]) (h:∀c∈w,p c=true) (a:∀c,p c=true->q c=false):di q (w++r):=by
 cases w with
 | nil=>exact absurd rfl b
 | cons c w=>exact eo (a c (h c nl))
theorem O4 {g l:Bool} {d:aa} {x s:Int} (h:okY g l d x s):∀c∈d,isDX c=true:=by
 intro c hc;unfold okY at h;have:be c=true\/c=88:=by
  split at h
  ·exact .inl (h.1.1 c hc)
  ·exact h.2.1 c hc
 unfold isDX;rcases this with a | a
 ·rw [a];rfl
 ·rw [a];decide
theorem JZ {g l:Bool} {d:aa} {x s:Nat} (h:okY g l d (x:Int) (s:Int)) (r:aa):di isMk (gQ g l d (x:Int) (s:Int)++r):=by
 have a:d≠[]:=by
  have:=(iN h).2.2.2.2.1;rintro rfl;simp at this
 rw [kM];cases l with
 | true=>exact eo (by decide)
 | false=>
  cases g with
  | true=>exact eo (by decide)
  | false=>
   simp only [bz,aE,dS,fQ];exact wC a (O4 h) (λc=>JO)
theorem uS {S:aa} {p A B:Nat} {w R:aa} (h:S.drop p=cE A B w++R) (e:A<4) (j:B<4) (k:di isMk (w++(mt B++R))) (i:di isMk R):
  mkS (S.drop p)=A/\S.drop (mkE S p)=w++(mt B++R)/\mkS (S.drop (mkE S p+w.length))=B/\S.drop (mkE S (mkE S p+w.length))=R/\mkE S (mkE S p+w.length)=p+(cE A B w).length:=by
 have h':S.drop p=mt A++(w++(mt B++R)):=by rw [h];unfold cE;simp
 obtain ⟨f,m⟩:=KW e k;obtain ⟨g,l⟩:=KW j i;have d:mkE S p=p+(mt A).length:=by unfold mkE;rw [h',m]
 have c:S.drop (mkE S p)=w++(mt B++R):=by rw [d];exact gV h'
 have b:S.drop (mkE S p+w.length)=mt B++R:=gV c;have a:mkE S (mkE S p+w.length)=mkE S p+w.length+(mt B).length:=by
  show mkE S p+w.length+mkN (S.drop (mkE S p+w.length))=_;rw [b,l]
 refine ⟨by rw [h',f],c,by rw [b,g],by rw [a];exact gV b,?_⟩;rw [a,d];unfold cE;simp only [aO];omega
theorem Bq {m r:aa} (f:m.length=2) (h:∀c∈m,isDX c=true):twoN (m++r)=2/\(m++r).take 2=m:=by
 match m,f with
 | [a,b],_=>
  have e:=h a (by simp);have d:=h b (by simp);refine ⟨?_,rfl⟩;unfold twoN;show bG isDX 2 (a::b::r)=2;simp [bG,e,d]
theorem Uz {k a b c:Nat} (e:k<2->b=0) (d:k<3->c=0) (f:1<=k):(k<2->(plA k a b c).2.1=0/\(plB k a b c).2.1=0)/\(k<3->(plA k a b c).2.2=0/\(plB k a b c).2.2=0):=by
 unfold plA plB;constructor
 ·intro h;have:k=1:=by omega
  subst this;have:=e h;split
  ·simp
  ·simp [this]
 ·intro h;have:=d h;split
  ·split
   ·simp
   ·have:k=2:=by omega
    simp [this]
  ·simp [this]
def rawD (A B:Nat×Nat×Nat) (g l:Bool) (dg:aa) (x q:Int) (m d:aa):aa:=
 cE A.1 B.1 (gQ g l dg x q)++((if m=[] then [] else 45::cE A.2.1 B.2.1 m)++(if d=[] then [] else 45::cE A.2.2 B.2.2 d))
structure MkD (A B:Nat×Nat×Nat) (m d:aa):Prop where
 a0:A.1<4
 a1:A.2.1<4
 a2:A.2.2<4
 b0:B.1<4
 b1:B.2.1<4
 b2:B.2.2<4
 zm:m=[]->A.2.1=0/\B.2.1=0
 zd:d=[]->A.2.2=0/\B.2.2=0
structure ShD (g l:Bool) (dg:aa) (x q:Nat) (m d:aa):Prop where
 yr:okY g l dg (x:Int) (q:Int)
 noM:0<q->m=[]
 mon:m=[]\/(m.length=2/\∀c∈m,isDX c=true)
 day:d=[]\/(m≠[]/\d.length=2/\∀c∈d,isDX c=true)
theorem OkD.sh {g l:Bool} {dg:aa} {x q:Nat} {m d:aa} {k0 k1 k2:Nat} (h:OkD g l dg x q m d k0 k1 k2):ShD g l dg x q m d:=⟨h.yr,h.noM,h.mon,h.day⟩
theorem OkD.marks {g l:Bool} {dg:aa} {x q:Nat} {m d:aa} {k0 k1 k2:Nat} (h:OkD g l dg x q m d k0 k1 k2):MkD (plA (br m d) k0 k1 k2) (plB (br m d) k0 k1 k2) m d:=by
 obtain ⟨Y,W,Q,J,O,U⟩:=UE (k:=br m d) h.m0 h.m1 h.m2;obtain ⟨G,E⟩:=Uz (a:=k0) h.z1 h.z2 (lC m d).1;refine ⟨Y,W,Q,J,O,U,λC=>G ?_,λX=>E ?_⟩
 ·have F:d=[]:=h.day.resolve_right (λz=>z.1 C);subst C F;rw [LX];omega
 ·subst X;by_cases C:m=[]
  ·subst C;rw [LX];omega
  ·rw [HJ C];omega
theorem IM {A B:Nat×Nat×Nat} {g l:Bool} {dg:aa} {x q:Nat} {m d:aa} (b:ShD g l dg x q m d) (o:MkD A B m d) {S:aa} {a:Nat} {post:aa} (h:S.drop a=rawD A B g l dg (x:Int) (q:Int) m d++post)
  (hp1:di isYC post) (w:di isMk post) (W:di (λc=>c==45) post):
  ∃P:Nat×Nat×Nat,P.1=a+(mt A.1).length/\sj S a=.inr (g,l,dg,x,q,m,d,spM A B,P,a+(rawD A B g l dg (x:Int) (q:Int) m d).length):=by
 obtain ⟨l0,l1,l2,l3',l4,l5,hz1,G⟩:=o;obtain ⟨j,t,J⟩:=A;obtain ⟨k,n,y⟩:=B;simp only at l0 l1 l2 l3' l4 l5 hz1 G h;unfold rawD at h ⊢;simp only at h ⊢;have H:isMk 45=false:=by decide
 have L:isYC 45=false:=by decide
 have U:∀r:aa,di (λc=>c==45) r->fk 45 r=0:=λr hr=>by
  cases r with
  | nil=>rfl
  | cons c r=>
   have:=hr c rfl;exact pY (λe=>by rw [e] at this;exact absurd this (by decide)) r
 have hyx:=K7 b.yr;have O:=JZ b.yr;generalize hY:gQ g l dg (x:Int) (q:Int)=Y at *;have E:∀R:aa,S.drop a=cE j k Y++R->di isYC R->di isMk R->
   mkE S a=a+(mt j).length/\mkS (S.drop a)=j/\qE (S.drop (mkE S a))=.inr (g,l,dg,x,q,Y.length)/\mkS (S.drop (mkE S a+Y.length))=k/\S.drop (mkE S (mkE S a+Y.length))=R/\mkE S (mkE S a+Y.length)=a+(cE j k Y).length:=by
  intro R hR h1 N;obtain ⟨C,F,v,s,D⟩:=uS hR l0 l3' (O _) N;refine ⟨?_,C,?_,v,s,D⟩
  ·have hR':S.drop a=mt j++(Y++(mt k++R)):=by rw [hR];unfold cE;simp
   unfold mkE;rw [hR',(KW l0 (O _)).2]
  rw [F];exact hyx _ (Oq k (by decide) (by decide) (by decide) h1)
 unfold sj;by_cases f:m=[]
 ·have i:d=[]:=b.day.resolve_right (λz=>z.1 f);subst f i;simp only [aM,kR] at h ⊢;obtain ⟨w0,C,F,v,s,D⟩:=E post h hp1 w;rw [F];simp only [];rw [s,ae (.inr (U post W)),C,v,D];obtain ⟨rfl,rfl⟩:=hz1 rfl;obtain ⟨rfl,rfl⟩:=G rfl;exact ⟨_,w0,rfl⟩
 ·have X:¬0<q:=λz=>f (b.noM z);obtain ⟨p,I⟩:=b.mon.resolve_left f;rw [ab f] at h ⊢;have o:∀r,di isMk (m++r):=λr=>wC f I (λc=>JO);by_cases i:d=[]
  ·subst i;rw [ae rfl,kR] at h ⊢;have h':S.drop a=cE j k Y++(45::(cE t n m++post)):=by rw [h];simp
   obtain ⟨w0,C,F,v,s,D⟩:=E _ h' (eo L) (eo H);rw [F];simp only [];rw [s,oG,ab (λz=>z.elim X (by omega)),C,v];unfold rd2;have N:S.drop (mkE S (mkE S a+Y.length)+1)=cE t n m++post:=gV (u:=[45]) s;obtain ⟨v1,v2,T,K,M⟩:=uS N l1 l4 (o _) w;obtain ⟨V,u2⟩:=Bq (r:=mt n++post) p I;rw [<-v2] at V u2;rw [p] at T K M;rw [V,ab (by omega),K,U post W,ae rfl,u2,v1,T,M,D];obtain ⟨rfl,rfl⟩:=G rfl;have:a+(cE j k Y).length+1+(cE t n m).length=a+(cE j k Y++45::cE t n m).length:=by simp only [aO,aC];omega
   rw [this];exact ⟨_,w0,rfl⟩
  ·obtain ⟨_,Z,Q⟩:=b.day.resolve_left i;rw [ab i] at h ⊢;have hdk:∀r,di isMk (d++r):=λr=>wC i Q (λc=>JO);have h':S.drop a=cE j k Y++(45::(cE t n m++(45::(cE J y d++post)))):=by rw [h];simp
   obtain ⟨w0,C,F,v,s,D⟩:=E _ h' (eo L) (eo H);rw [F];simp only [];rw [s,oG,ab (λz=>z.elim X (by omega)),C,v];unfold rd2;have N:S.drop (mkE S (mkE S a+Y.length)+1)=cE t n m++(45::(cE J y d++post)):=gV (u:=[45]) s;obtain ⟨v1,v2,T,K,M⟩:=uS N l1 l4 (o _) (eo H);obtain ⟨V,u2⟩:=Bq (r:=mt n++(45::(cE J y d++post))) p I;rw [<-v2] at V u2;rw [p] at T K M;rw [V,ab (by omega),K,oG,ab (by omega),u2,v1,T];unfold rd3;have h3:S.drop (mkE S (mkE S (mkE S (mkE S a+Y.length)+1)+2)+1)=cE J y d++post:=gV (u:=[45]) K;obtain ⟨x1,x2,x3,x4,x5⟩:=uS h3 l2 l5 (hdk _) w;obtain ⟨s1,s2⟩:=Bq (r:=mt y++post) Z Q;rw [<-x2] at s1 s2;rw [Z] at x3 x4 x5;rw [s1,ab (by omega),s2,x1,x3,x5,M,D];have:a+(cE j k Y).length+1+(cE t n m).length+1+(cE J y d).length=a+(cE j k Y++(45::cE t n m++45::cE J y d)).length:=by simp only [aO,aC];omega
   rw [this];exact ⟨_,w0,rfl⟩
theorem Ko {g l:Bool} {dg:aa} {x q:Nat} {m d:aa} {k0 k1 k2:Nat} (b:OkD g l dg x q m d k0 k1 k2) {S:aa} {a:Nat} {post:aa} (h:S.drop a=qj g l dg (x:Int) (q:Int) m d k0 k1 k2++post)
  (i:di isYC post) (e:di isMk post) (f:di (λc=>c==45) post):
  ∃P,sj S a=.inr (g,l,dg,x,q,m,d,(k0,k1,k2),P,a+(qj g l dg (x:Int) (q:Int) m d k0 k1 k2).length):=by
 obtain ⟨P,_,j⟩:=IM b.sh b.marks (S:=S) (a:=a) (post:=post) h i e f;rw [YK (br m d) k0 k1 k2 (lC m d) b.m0 b.m1 b.m2 b.z1 b.z2] at j;exact ⟨P,j⟩
theorem NK {g l:Bool} {dg:aa} {x q:Nat} {m d:aa} {k0 k1 k2:Nat} (a:OkD g l dg x q m d k0 k1 k2):(qj g l dg (x:Int) (q:Int) m d k0 k1 k2).length<=37:=by
 have hy:=vb a.yr;have f:=nN (plA (br m d) k0 k1 k2).1 (plB (br m d) k0 k1 k2).1 (gQ g l dg (x:Int) (q:Int));have e:=nN (plA (br m d) k0 k1 k2).2.1 (plB (br m d) k0 k1 k2).2.1 m;have i:=nN (plA (br m d) k0 k1 k2).2.2 (plB (br m d) k0 k1 k2).2.2 d;have b:m.length<=2:=by
  rcases a.mon with h | h
  ·rw [h];simp
  ·omega
 have c:d.length<=2:=by
  rcases a.day with h | h
  ·rw [h];simp
  ·omega
 unfold qj;simp only [aO];have a1:(if m=[] then [] else 45::cE (plA (br m d) k0 k1 k2).2.1 (plB (br m d) k0 k1 k2).2.1 m).length<=5:=by
  split
  ·simp
  ·simp only [aC];omega
 have a2:(if d=[] then [] else 45::cE (plA (br m d) k0 k1 k2).2.2 (plB (br m d) k0 k1 k2).2.2 d).length<=5:=by
  split
  ·simp
  ·simp only [aC];omega
 omega
theorem UG {A B:Nat×Nat×Nat} (e:A.1<4) (d:A.2.1<4) (f:A.2.2<4) (g0:B.1<4) (c:B.2.1<4) (b:B.2.2<4):(spM A B).1<4/\(spM A B).2.1<4/\(spM A B).2.2<4:=by
 have a:∀x y:Nat,x<4->y<4->x ||| y<4:=λx y hx hy=>(or4 hx hy).2;exact ⟨a _ _ (a _ _ (a _ _ e g0) c) b,a _ _ (a _ _ d c) b,a _ _ f b⟩
structure RdOK (S:aa) (a:Nat) (dg m d:aa) (M:Nat×Nat×Nat) (e:Nat):Prop where
 dg17:dg.length<=17
 m2:m.length<=2
 d2:d.length<=2
 all:inM (br m d) M
 le:a<=e
 end_:e<=S.length
theorem Ju {S:aa} {a:Nat} (h:a<=S.length) {g l:Bool} {dg:aa} {x s:Nat} {m d:aa} {M P:Nat×Nat×Nat} {e:Nat} (b:sj S a=.inr (g,l,dg,x,s,m,d,M,P,e)):RdOK S a dg m d M e:=by
 have c:∀p,mkS (S.drop p)<4:=λp=>EA _;have n:0<4:=by omega
 have b0:=lH h;have g0:a<=mkE S a:=Da _ _;have o:∀p,p<=mkE S p:=λp=>Da _ _;unfold sj at b;cases hy:qE (S.drop (mkE S a)) with
 | inl k=>rw [hy] at b;cases b
 | inr y=>
  obtain ⟨G,J,F,H,s',k⟩:=y;obtain ⟨_,bk,_,_,i⟩:=rH hy;have bk:mkE S a+k<=S.length:=by
   rw [bN] at bk;omega
  have b1:=lH bk;rw [hy] at b;simp only [] at b;by_cases hc:0<s'\/fk 45 (S.drop (mkE S (mkE S a+k)))=0
  ·rw [ae hc] at b;cases b;have:=UG (A:=(mkS (S.drop a),0,0)) (B:=(mkS (S.drop (mkE S a+k)),0,0)) (c _) n n (c _) n n;refine ⟨i,by simp,by simp,⟨this.1,this.2.1,this.2.2,λ_=>by simp [spM],λ_=>by simp [spM]⟩,?_,b1⟩;have:=o (mkE S a+k);omega
  ·rw [ab hc] at b;have v:=sO (λz=>hc (.inr z));have K:=lH v;unfold rd2 at b;by_cases r:twoN (S.drop (mkE S (mkE S (mkE S a+k)+1)))<2
   ·rw [ae r] at b;cases b
   ·rw [ab r] at b;have b2:=wc r;have C:=lH b2;have f:(List.take 2 (S.drop (mkE S (mkE S (mkE S a+k)+1)))).length=2:=by rw [cV,bN];omega
    have I:=o (mkE S a+k);have O:=o (mkE S (mkE S a+k)+1);have N:=o (mkE S (mkE S (mkE S a+k)+1)+2);by_cases j:fk 45 (S.drop (mkE S (mkE S (mkE S (mkE S a+k)+1)+2)))=0
    ·rw [ae j] at b;cases b;have:=UG (A:=(mkS (S.drop a),mkS (S.drop (mkE S (mkE S a+k)+1)),0)) (B:=(mkS (S.drop (mkE S a+k)),mkS (S.drop (mkE S (mkE S (mkE S a+k)+1)+2)),0)) (c _) (c _) n (c _) (c _) n;refine ⟨i,by omega,by simp,⟨this.1,this.2.1,this.2.2,λz=>?_,λ_=>by simp [spM]⟩,by omega,C⟩;rw [HJ (pI f)] at z;omega
    ·rw [ab j] at b;have t:=sO j;have w:=lH t;unfold rd3 at b;by_cases u:twoN (S.drop (mkE S (mkE S (mkE S (mkE S (mkE S a+k)+1)+2)+1)))<2
     ·rw [ae u] at b;cases b
     ·rw [ab u] at b;have D:=wc u;have E:=lH D;have q:(List.take 2 (S.drop (mkE S (mkE S (mkE S (mkE S (mkE S a+k)+1)+2)+1)))).length=2:=by rw [cV,bN];omega
      cases b;have Q:=o (mkE S (mkE S (mkE S (mkE S a+k)+1)+2)+1);have L:=o (mkE S (mkE S (mkE S (mkE S (mkE S a+k)+1)+2)+1)+2);have:=UG (A:=(mkS (S.drop a),mkS (S.drop (mkE S (mkE S a+k)+1)),mkS (S.drop (mkE S (mkE S (mkE S (mkE S a+k)+1)+2)+1)))) (B:=(mkS (S.drop (mkE S a+k)),mkS (S.drop (mkE S (mkE S (mkE S a+k)+1)+2)),mkS (S.drop (mkE S (mkE S (mkE S (mkE S (mkE S a+k)+1)+2)+1)+2)))) (c _) (c _) (c _) (c _) (c _) (c _);refine ⟨i,by omega,by omega,⟨this.1,this.2.1,this.2.2,λz=>?_,λz=>?_⟩,by omega,E⟩
      ·rw [IP (pI f) (pI q)] at z;omega
      ·rw [IP (pI f) (pI q)] at z;omega
theorem MI {g l:Bool} {dg:aa} {x q:Int} {m d:aa} {k0 k1 k2:Int} (b:allM k0 k1 k2 (br m d)=0):chkD g l dg x q m d k0 k1 k2=0\/chkD g l dg x q m d k0 k1 k2=6\/chkD g l dg x q m d k0 k1 k2=7\/chkD g l dg x q m d k0 k1 k2=8:=by
 unfold chkD;rw [b];generalize yrD g l dg x q m=b1;generalize (!(m==[])&&(!(decide (0<sea m))&&!(ef m 12)))=b2;generalize (!(d==[])&&((m==[])||(decide (0<sea m)||!(ef d 31))))=a;cases b1<;>cases b2<;>cases a<;>simp
theorem vL {p:UInt8->Bool}:di p []:=λc hc=>by cases hc
def monT (j:Nat):aa:=if j=0 then [] else if j<=12 then two j else if j<=33 then two (j+8) else ([[48,88],[49,88],[88,50],[88,88],[88,48],[88,57]]:List (aa)).getD (j - 34) []
def YQ (m:aa):Nat:=if m=[48,50] then 28 else if m=[48,52]\/m=[48,54]\/m=[48,57]\/m=[49,49]\/m=[88,57] then 30 else 31
def dayT (j:Nat) (m:aa):aa:=if j=0 then [] else if j<=31 then two (min j (YQ m)) else if m=[48,50]/\j=35 then [50,88] else ([[48,88],[49,88],[50,88],[51,88],[88,48],[88,49],[88,88],[88,56]]:List (aa)).getD (j - 32) []
theorem r40 {p:Nat->Bool} (h:(List.range 40).all p=true) {a:Nat} (b:a<40):p a=true:=(bW.1 h) a (jA.2 b)
noncomputable def SU (m:Nat) (a0:Int) (a1:Bool) (a2 d a e f c b:Int) (j:Nat):Bool:=gj (m+300) a0 a1 a2 d a (j:Int) e f c b==some (monT j)
theorem OL (m:Nat) (a0:Int) (a1:Bool) (a2 d a e f c b:Int):((List.range 40).all λj=>SU m a0 a1 a2 d a e f c b j)=true:=by kernel_rfl
theorem TA (a:Nat) (h:a<256):IntKind.wrap .i64 (Int.tmod (a:Int) 40)=((a%40:Nat):Int):=by
 have:Int.tmod (a:Int) 40=((a%40:Nat):Int):=rfl;rw [this,wrap_i64 _ (by omega) (by omega)]
theorem S9 (j:Nat) (h:j<40):IntKind.wrap .i64 (Int.tmod (j:Int) 40)=((j:Nat):Int):=by
 rw [TA j (by omega)];have:j%40=j:=by omega
 rw [this]
theorem zV (m:Nat) (a0:Int) (a1:Bool) (a2 g d:Int) (b:Nat) (i j f e:Int) (h:b<256):gj (m+300) a0 a1 a2 g d (b:Int) i j f e=some (monT (b%40)):=by
 have c:b%40<40:=by omega
 have a:=r40 (OL m a0 a1 a2 g d i j f e) c;unfold SU at a;have a:=bp.1 a;unfold gj at a ⊢;rw [S9 _ c] at a;rw [TA _ h];exact a
theorem MV {j:Nat} (h:j<40):monT j=[]\/0<sea (monT j)\/(sea (monT j)=0/\ef (monT j) 12=true):=by
 have:((List.range 40).all λj=>decide (monT j=[])||(decide (0<sea (monT j))||(decide (sea (monT j)=0)&&ef (monT j) 12)))=true:=by decide +kernel
 have:=r40 this h;simpa using this
theorem EB {j:Nat} (h:j<40) (hs:sea (monT j)=0) (a:monT j≠[]):monT j∈((List.range 12).map λi=>two (i+1))++[[48,88],[49,88],[88,50],[88,88],[88,48],[88,57]]:=by
 have:((List.range 40).all λj=>!decide (sea (monT j)=0)||(decide (monT j=[])||decide (monT j∈((List.range 12).map λi=>two (i+1))++[[48,88],[49,88],[88,50],[88,88],[88,48],[88,57]])))=true:=by decide +kernel
 have:=r40 this h;rw [aq hs,ar a] at this;simpa using this
noncomputable def RY (m:Nat) (a0:Int) (a1:Bool) (a2 f c b g e d:Int) (a:aa) (j:Nat):Bool:=i7 (m+300) a0 a1 a2 f c b (j:Int) g e d a==some (dayT j a)
theorem OV (m:Nat) (a0:Int) (a1:Bool) (a2 f b a g e c:Int):((((List.range 12).map λi=>two (i+1))++[[48,88],[49,88],[88,50],[88,88],[88,48],[88,57]]).all λd=>(List.range 40).all λj=>RY m a0 a1 a2 f b a g e c d j)=true:=by kernel_rfl
theorem H7 (m:Nat) (a0:Int) (a1:Bool) (a2 k f d:Int) (c:Nat) (l j g:Int) (b:aa) (n:b∈((List.range 12).map λi=>two (i+1))++[[48,88],[49,88],[88,50],[88,88],[88,48],[88,57]]) (h:c<256):i7 (m+300) a0 a1 a2 k f d (c:Int) l j g b=some (dayT (c%40) b):=by
 have e:c%40<40:=by omega
 have a:=r40 ((bW.1 (OV m a0 a1 a2 k f d l j g)) b n) e;unfold RY at a;have a:=bp.1 a;unfold i7 at a ⊢;rw [S9 _ e] at a;rw [TA _ h];exact a
theorem O7 {j:Nat} (h:j<40) {a:aa} (b:a∈((List.range 12).map λi=>two (i+1))++[[48,88],[49,88],[88,50],[88,88],[88,48],[88,57]]):dayT j a=[]\/ef (dayT j a) 31=true:=by
 have:((((List.range 12).map λi=>two (i+1))++[[48,88],[49,88],[88,50],[88,88],[88,48],[88,57]]).all λa=>(List.range 40).all λj=>decide (dayT j a=[])||ef (dayT j a) 31)=true:=by decide +kernel
 have:=r40 ((bW.1 this) a b) h;simpa using this
def mksT (k a b c:Nat):Nat×Nat×Nat:=(a%4,if 1<k then b%4 else 0,if 2<k then c%4 else 0)
theorem xh (k a b c:Nat):allM ((mksT k a b c).1:Int) ((mksT k a b c).2.1:Int) ((mksT k a b c).2.2:Int) k=0:=by
 apply xR;refine ⟨by simp only [mksT];omega,?_,?_,?_,?_⟩
 ·simp only [mksT];split<;>omega
 ·simp only [mksT];split<;>omega
 ·intro h;simp only [mksT];rw [ab (by omega)]
 ·intro h;simp only [mksT];rw [ab (by omega)]
theorem IL {g l:Bool} {d:aa} {x s:Int} (h:okY g l d x s) (c:d.length<=5) (f:x<=11):rn g d x=false:=by
 unfold rn;cases e:hasX d with
 | true=>rfl
 | false=>
  obtain ⟨k,q,rfl,rfl,j⟩:=th h e;have a:=rJ d 0 0 j.dig (by decide);rw [cM] at a;have m:dval 0 d<10 ^ 5:=pi a (ly (by omega) c);have i:10 ^ k<=10 ^ 11:=ly (by omega) (by omega);have b:val d k≠E16:=by
   unfold val E16;have:dval 0 d*10 ^ k<=99999*10 ^ 11:=zy (by omega) i;omega
  rw [bO,ar b];simp
theorem Ff {g l:Bool} {dg:aa} {x q:Int} {m d:aa} {k0 k1 k2:Int} (h:okY g l dg x q) (p:rn g dg x=false) (c:0<q->m=[]) (i:m=[]\/0<sea m\/(sea m=0/\ef m 12=true)) (n:d=[]\/(m≠[]/\sea m=0/\ef d 31=true)) (f:allM k0 k1 k2 (br m d)=0):chkD g l dg x q m d k0 k1 k2=0:=by
 have hy:yrD g l dg x q m=true:=by
  unfold yrD yrB;rw [ae h,p];by_cases a:0<q
  ·rw [c a];simp
  ·simp [a]
 unfold chkD;rw [hy,f];have b:(!(m==[])&&(!(decide (0<sea m))&&!(ef m 12)))=false:=by
  rcases i with h | h | ⟨_,h⟩
  ·rw [h];rfl
  ·rw [aq h];simp
  ·rw [h];simp
 have j:(!(d==[])&&((m==[])||(decide (0<sea m)||!(ef d 31))))=false:=by
  rcases n with h | ⟨e,k,o⟩
  ·rw [h];rfl
  ·rw [aI.2 e,k,o];simp
 rw [b,j];rfl
def minL (a:Nat):Nat:=if a=2 then 28 else if a=4\/a=6\/a=9\/a=11 then 30 else 31
def fitD (a d:aa):Bool:=(List.range' 1 12).any λi=>agr a i&&(List.range' 1 (minL i)).any (agr d)
theorem Tj:((((List.range 12).map λi=>two (i+1))++[[48,88],[49,88],[88,50],[88,88],[88,48],[88,57]]).all λa=>(List.range 40).all λj=>(dayT j a==[])||fitD a (dayT j a))=true:=by decide +kernel
theorem HA {j:Nat} (h:j<40) {a:aa} (b:a∈((List.range 12).map λi=>two (i+1))++[[48,88],[49,88],[88,50],[88,88],[88,48],[88,57]]):dayT j a=[]\/fitD a (dayT j a)=true:=by
 have:=r40 ((bW.1 Tj) a b) h;simp only [ip,bp] at this;exact this
theorem WX (m a0 a2 J G C y i j n:Nat) (g:Bool) (I:a2<65536) (X:J<256) (R:G<256) (U:C<256) (S:y<256) (h7:i<256) (h8:j<256) (h9:n<256):
  ∃k l dg x q f d k0 k1 k2,aK (m+300) (a0:Int) g (a2:Int) (J:Int) (G:Int) (C:Int) (y:Int) (i:Int) (j:Int) (n:Int)=some (k,l,dg,((x:Nat):Int),((q:Nat):Int),f,d,((k0:Nat):Int),((k1:Nat):Int),((k2:Nat):Int))/\chkD k l dg (x:Int) (q:Int) f d (k0:Int) (k1:Int) (k2:Int)=0/\OkD k l dg x q f d k0 k1 k2/\(d=[]\/fitD f d=true):=by
 obtain ⟨k,l,dg,x,q,e,B,L,E⟩:=Xo m a0 a2 J G g I X R;have K:=IL B L E;obtain ⟨s1,s2,s3,s4,s5,s6⟩:=iN B
 suffices H:∃f d,aK (m+300) (a0:Int) g (a2:Int) (J:Int) (G:Int) (C:Int) (y:Int) (i:Int) (j:Int) (n:Int)=some (k,l,dg,x,q,f,d,((mksT (br f d) i j n).1:Int),((mksT (br f d) i j n).2.1:Int),((mksT (br f d) i j n).2.2:Int))/\chkD k l dg x q f d ((mksT (br f d) i j n).1:Int) ((mksT (br f d) i j n).2.1:Int) ((mksT (br f d) i j n).2.2:Int)=0/\(d=[]\/fitD f d=true) by
  obtain ⟨f,d,V,I,T⟩:=H;obtain ⟨W,Y,a,b,c,e1,Z,P,N,Q,M⟩:=D5 (by omega) (by omega) (by omega) I;subst e1 Z;refine ⟨k,l,dg,W,Y,f,d,a,b,c,?_,?_,M,T⟩
  ·rw [V,P,N,Q]
  ·rw [<-P,<-N,<-Q];exact I
 have t7:Int.tmod (i:Int) 4=((i%4:Nat):Int):=rfl;have t8:Int.tmod (j:Int) 4=((j%4:Nat):Int):=rfl;have t9:Int.tmod (n:Int) 4=((n%4:Nat):Int):=rfl;have p:∀(f d:aa) (o:Option (Bool×Bool×aa×Int×Int×aa×aa×Int×Int×Int)),
   (ob (au (m+300) k l dg x q f d 0 0 0) λr=>(cond (decide ((0:Int)<r)) (ob (au (m+300) k l dg x q f d (Int.tmod (i:Int) 4) 0 0) λr=>(cond (decide ((1:Int)<r)) (ob (au (m+300) k l dg x q f d (Int.tmod (i:Int) 4) (Int.tmod (j:Int) 4) 0) λr=>(cond (decide ((2:Int)<r)) (ob (au (m+300) k l dg x q f d (Int.tmod (i:Int) 4) (Int.tmod (j:Int) 4) (Int.tmod (n:Int) 4)) λr=>(cond (decide ((3:Int)<r)) none (some (k,l,dg,x,q,f,d,(Int.tmod (i:Int) 4),(Int.tmod (j:Int) 4),(Int.tmod (n:Int) 4))))) (some (k,l,dg,x,q,f,d,(Int.tmod (i:Int) 4),(Int.tmod (j:Int) 4),0)))) (some (k,l,dg,x,q,f,d,(Int.tmod (i:Int) 4),0,0)))) (some (k,l,dg,x,q,f,d,0,0,0))))=some (k,l,dg,x,q,f,d,((mksT (br f d) i j n).1:Int),((mksT (br f d) i j n).2.1:Int),((mksT (br f d) i j n).2.2:Int)):=by
  intro f d _;have hc:=lC f d;have:br f d=1\/br f d=2\/br f d=3:=by omega
  rw [dA,dA,dA,dA];rcases this with h | h | h<;>rw [h]<;>rfl
 unfold aK;rw [e];simp only [ob,d4];rw [gU];by_cases O:q=0
 ·rw [ae O];rw [zV m _ _ _ _ _ C _ _ _ _ U];have F:C%40<40:=by omega
  have w:=MV F;have D:=EB F;generalize monT (C%40)=f at w D ⊢;show ∃t d,cond (!(f==[])) _ _=_/\_;by_cases s:f=[]
  ·subst s;refine ⟨[],[],p [] [] none,?_,.inl rfl⟩;exact Ff B K (λ_=>rfl) (.inl rfl) (.inl rfl) (xh _ _ _ _)
  ·rw [aI.2 s];show ∃t d,ob (aN (m+300) k l dg x q f [] 0 0 0) _=_/\_;rw [mn (m+300) (by omega)];show ∃t d,cond (sea f==0) _ _=_/\_;rw [gU];by_cases hs:sea f=0
   ·rw [ae hs];have v:=D hs s;rw [H7 m _ _ _ _ _ _ y _ _ _ f v S];have A:=O7 (show y%40<40 by omega) v;have u:=HA (show y%40<40 by omega) v;generalize dayT (y%40) f=d at A u ⊢;refine ⟨f,d,p f d none,?_,u⟩;refine Ff B K (λz=>by omega) w ?_ (xh _ _ _ _);rcases A with A | A
    ·exact .inl A
    ·exact .inr ⟨s,hs,A⟩
   ·rw [ab hs];refine ⟨f,[],p f [] none,?_,.inl rfl⟩;exact Ff B K (λz=>by omega) w (.inl rfl) (xh _ _ _ _)
 ·rw [ab O];refine ⟨[],[],p [] [] none,?_,.inl rfl⟩;exact Ff B K (λ_=>rfl) (.inl rfl) (.inl rfl) (xh _ _ _ _)
theorem Pl (n:Nat) (g l:Bool) (dg:aa) (x q:Int) (m d:aa) (k0 k1 k2:Int) (a:m.length<=18):bn n g l dg x q m d k0 k1 k2=some (if d=[] then (if 0<sea m then 0 else if m=[] then 1 else 2) else 3):=by
 unfold bn;rw [rA n g l dg x q m d k0 k1 k2 a];by_cases b:d=[]
 ·rw [ae b,b];show cond (decide (0<sea m)) _ _=_;rw [bE];by_cases hs:0<sea m
  ·rw [ae hs,ae hs]
  ·rw [ab hs,ab hs];by_cases a:m=[]
   ·rw [ae a,a];rfl
   ·rw [ab a,aI.2 a];rfl
 ·rw [ab b,aI.2 b];rfl
theorem Hk (n:Nat) (g l:Bool) (dg:aa) (x q:Int) (m d:aa) (k0 k1 k2:Int) (f:m.length<=18) (j:dg.length<=100) (h:0<=k0) (e:0<=k1) (i:0<=k2):
  cS (n+300) g l dg x q m d k0 k1 k2=some (if chkD g l dg x q m d k0 k1 k2=0 then (qj g l dg x q m d k0.toNat k1.toNat k2.toNat,0) else ([],chkD g l dg x q m d k0 k1 k2)):=by
 by_cases hc:chkD g l dg x q m d k0 k1 k2=0
 ·obtain ⟨r,t,a,b,c,o,v,s,u,k,p⟩:=D5 h e i hc;subst o v s u k;exact Vk n g l dg r t m d a b c f j
 ·rw [ab hc];unfold cS;rw [CY (n+300) (by omega) g l dg _ _ m d _ _ _ f j h e i];show cond (chkD g l dg x q m d k0 k1 k2 != 0) _ _=_;rw [wH,ab hc]
theorem Eb (n:Nat) {g l:Bool} {dg:aa} {x q:Int} {m d:aa} {k0 k1 k2:Int} (j:0<=k0) (h:0<=k1) (k:0<=k2) (hc:chkD g l dg x q m d k0 k1 k2=0):
  cK (n+300) g l dg x q m d k0 k1 k2=some (qj g l dg x q m d k0.toNat k1.toNat k2.toNat):=by
 obtain ⟨s,t,a,b,c,i,r,o,p,f,e⟩:=D5 j h k hc;subst i r o p f;exact J3 n e
theorem wL (a b:aa):hasX (a++b)=(hasX a||hasX b):=by unfold hasX;rw [tw]
theorem Dz (n:Nat) (g l:Bool) (dg:aa) (x q:Int) (m d:aa) (k0 k1 k2:Int) (a:m.length<=1000) (b:dg.length<=1000) (h:d.length<=1000):
  fi n g l dg x q m d k0 k1 k2=some (hasX dg||(hasX m||hasX d)):=by
 unfold fi;rw [bQ (by omega)];simp only [ob];rw [bQ (by simp only [aO];omega)];simp only [ob];rw [Dy,wL,wL,Bool.or_assoc]
def Bo (d:aa) (k q:Nat):Nat×Nat:=if 0<q then (val d k / 10 ^ (d.length+k - q)*10 ^ (d.length+k - q),min (val d k / 10 ^ (d.length+k - q)*10 ^ (d.length+k - q)+10 ^ (d.length+k - q) - 1) E16) else (val d k,val d k)
def sgn (g:Bool) (p:Nat×Nat):Int×Int:=if g then (-(p.2:Int),-(p.1:Int)) else ((p.1:Int),(p.2:Int))
theorem DZ (n:Nat) (g l:Bool) (d:aa) (k q:Nat) (D:200<n) (r:d.length<=100) (e:Num d k q):
  aP n g l d (k:Int) (q:Int)=some (sgn g (Bo d k q)):=by
 have C:=e.wide;have hs:=e.small;have B:=e.sig;unfold aP;rw [pR n g l d k q (by omega) (by omega),ve e.dig,jO n d k e.dig r (by omega) (by omega),ae hs];have o:dval 0 d*10 ^ k=val d k:=rfl;rw [o] at hs ⊢;unfold E16 at hs;have f:((if false=true then (1:Int) else 0)==1)=false:=rfl;simp only [ob,f,af];by_cases m:0<q
 ·have h:decide ((q:Int)>0)=true:=aq (by omega);have w0:IntKind.wrap .i64 (IntKind.wrap .i64 (((d.length:Nat):Int)+(k:Int)) - (q:Int))=((d.length+k - q:Nat):Int):=by
   rw [wrap_i64 (((d.length:Nat):Int)+(k:Int)) (by omega) (by omega),wrap_i64 _ (by omega) (by omega)];omega
  have z:10 ^ (d.length+k - q)<=10 ^ 16:=ly (by decide) (by omega);have A:(10:Nat) ^ 16=10000000000000000:=by decide
  have one:dval 0 [49]=1:=by decide
  have a:dval 0 [49]*10 ^ (d.length+k - q)<=E16:=by rw [one];unfold E16;omega
  rw [h,w0,jO n [49] (d.length+k - q) (by decide) (by decide) (by omega) (by simp;omega),ae a,one,xH];simp only [ah];have E:1<=10 ^ (d.length+k - q):=CO _ _ (by decide);unfold sgn Bo;rw [ae m];clear a;generalize 10 ^ (d.length+k - q)=u at *;generalize val d k=v at *;have d2:(((u:Nat):Int)==0)=false:=aI.2 (by omega);have b:Int.tdiv ((v:Nat):Int) ((u:Nat):Int)=((v / u:Nat):Int):=rfl;have s:v / u*u<=v:=FT v u;have i:v / u<=v:=FK v u;have w:IntKind.wrap .i64 ((v / u:Nat):Int)=((v / u:Nat):Int):=by
   generalize v / u=t at *;exact wrap_i64 _ (by omega) (by omega)
  have y:IntKind.wrap .i64 (((v / u:Nat):Int)*((u:Nat):Int))=((v / u*u:Nat):Int):=by
   rw [<-Ig];exact wrap_i64 _ (by omega) (by omega)
  rw [d2,af,b,w,y];generalize v / u*u=lo at *;have p:IntKind.wrap .i64 (IntKind.wrap .i64 (((lo:Nat):Int)+((u:Nat):Int)) - 1)=((lo+u - 1:Nat):Int):=by
   rw [wrap_i64 (((lo:Nat):Int)+((u:Nat):Int)) (by omega) (by omega),wrap_i64 _ (by omega) (by omega)];omega
  rw [p];have c:(cond (decide ((10000000000000000:Int)<((lo+u - 1:Nat):Int))) (10000000000000000:Int) ((lo+u - 1:Nat):Int))=((min (lo+u - 1) E16:Nat):Int):=by
   unfold E16;by_cases j:(10000000000000000:Int)<((lo+u - 1:Nat):Int)
   ·rw [aq j,ah];omega
   ·rw [ar j,af];omega
  rw [c];have x:min (lo+u - 1) E16<=10000000000000000:=G8 _ _;generalize min (lo+u - 1) E16=hi at *;cases g with
  | true=>
   simp only [ah,aM];rw [wrap_i64 _ (by omega) (by omega),wrap_i64 _ (by omega) (by omega),Az,Az]
  | false=>simp
 ·have h:decide ((q:Int)>0)=false:=ar (by omega);rw [h,af];unfold sgn Bo;rw [ab m];cases g with
  | true=>
   simp only [ah,aM];rw [wrap_i64 _ (by omega) (by omega),Az]
  | false=>simp
def eS (z:UInt8) (d:aa):aa:=d.map λc=>if c=88 then z else c
theorem jE (z:UInt8) (d:aa):(eS z d).length=d.length:=by simp [eS]
theorem ru {z:UInt8} (e:be z=true) {d:aa} (h:∀c∈d,be c=true\/c=88):∀c∈eS z d,be c=true:=by
 intro c hc;obtain ⟨b,a,rfl⟩:=eG.1 hc;by_cases hx:b=88
 ·rw [ae hx];exact e
 ·rw [ab hx];exact (h b a).resolve_right hx
theorem yu {z:UInt8} {d:aa} {i:Nat} {c:UInt8} (h:d[i]?=some c):(eS z d)[i]?=some (if c=88 then z else c):=by
 simp [eS,h]
def ut (d:aa):Nat:=10 ^ (d.reverse.takeWhile (λc=>c != 88)).length
def lp (g:Bool) (d:aa):Nat×Nat:=(if g=true/\dval 0 (eS 48 d)=0 then ut d else dval 0 (eS 48 d),dval 0 (eS 57 d))
theorem VO (m:Nat):aP (m+300) true false [48,48,48,88] 0 0=some (sgn true (lp true [48,48,48,88])):=by kernel_rfl
theorem UM (m:Nat):aP (m+300) true false [48,48,88,48] 0 0=some (sgn true (lp true [48,48,88,48])):=by kernel_rfl
theorem Tq (m:Nat):aP (m+300) true false [48,48,88,88] 0 0=some (sgn true (lp true [48,48,88,88])):=by kernel_rfl
theorem Tz (m:Nat):aP (m+300) true false [48,88,48,48] 0 0=some (sgn true (lp true [48,88,48,48])):=by kernel_rfl
theorem TY (m:Nat):aP (m+300) true false [48,88,48,88] 0 0=some (sgn true (lp true [48,88,48,88])):=by kernel_rfl
theorem TP (m:Nat):aP (m+300) true false [48,88,88,48] 0 0=some (sgn true (lp true [48,88,88,48])):=by kernel_rfl
theorem U5 (m:Nat):aP (m+300) true false [48,88,88,88] 0 0=some (sgn true (lp true [48,88,88,88])):=by kernel_rfl
theorem Vy (m:Nat):aP (m+300) true false [88,48,48,48] 0 0=some (sgn true (lp true [88,48,48,48])):=by kernel_rfl
theorem UQ (m:Nat):aP (m+300) true false [88,48,48,88] 0 0=some (sgn true (lp true [88,48,48,88])):=by kernel_rfl
theorem TN (m:Nat):aP (m+300) true false [88,48,88,48] 0 0=some (sgn true (lp true [88,48,88,48])):=by kernel_rfl
theorem QX (m:Nat):aP (m+300) true false [88,48,88,88] 0 0=some (sgn true (lp true [88,48,88,88])):=by kernel_rfl
theorem Qf (m:Nat):aP (m+300) true false [88,88,48,48] 0 0=some (sgn true (lp true [88,88,48,48])):=by kernel_rfl
theorem Qa (m:Nat):aP (m+300) true false [88,88,48,88] 0 0=some (sgn true (lp true [88,88,48,88])):=by kernel_rfl
theorem PW (m:Nat):aP (m+300) true false [88,88,88,48] 0 0=some (sgn true (lp true [88,88,88,48])):=by kernel_rfl
theorem Rw (m:Nat):aP (m+300) true false [88,88,88,88] 0 0=some (sgn true (lp true [88,88,88,88])):=by kernel_rfl
theorem ES {d:aa} (l:d.length=4) (h:∀c∈d,be c=true\/c=88) (i:dval 0 (eS 48 d)=0):∀c∈d,c=48\/c=88:=by
 match d,l with
 | [a,b,c,e],_=>
  have g:=ru (z:=48) (by decide) h;have k:dval 0 (eS 48 [a,b,c,e])=((((0*10+((if a=88 then (48:UInt8) else a).toNat - 48))*10+((if b=88 then (48:UInt8) else b).toNat - 48))*10+((if c=88 then (48:UInt8) else c).toNat - 48))*10+((if e=88 then (48:UInt8) else e).toNat - 48)):=by
   simp only [eS,ge,List.map_nil,qg,qt,wv]
  rw [k] at i;have key:∀x:UInt8,be (if x=88 then (48:UInt8) else x)=true->(if x=88 then (48:UInt8) else x).toNat - 48=0->x=48\/x=88:=by
   intro x hx j;by_cases f:x=88
   ·exact .inr f
   ·rw [ab f] at hx j;have:=(ca x).1 hx;exact .inl (gD.1 (by show x.toNat=48;omega))
  simp only [eS,ge,List.map_nil,cN,o7,qi,A5,forall_eq] at g ⊢;exact ⟨key a g.1 (by omega),key b g.2.1 (by omega),key c g.2.2.1 (by omega),key e g.2.2.2 (by omega)⟩
theorem Aq {d:aa} (y:d.length=4) (h:∀c∈d,c=48\/c=88) (u:hasX d=true) (P:aa->Prop) (w:P [48,48,48,88]) (o:P [48,48,88,48]) (r:P [48,48,88,88]) (x:P [48,88,48,48]) (l:P [48,88,48,88]) (n:P [48,88,88,48]) (m:P [48,88,88,88]) (p:P [88,48,48,48]) (z:P [88,48,48,88]) (s:P [88,48,88,48]) (i:P [88,48,88,88]) (g:P [88,88,48,48]) (f:P [88,88,48,88]) (j:P [88,88,88,48]) (k:P [88,88,88,88]):P d:=by
 match d,y with
 | [a,b,c,e],_=>
  simp only [cN,o7,qi,A5,forall_eq] at h;obtain ⟨t,q,hc,v⟩:=h;rcases t with rfl | rfl<;>rcases q with rfl | rfl<;>rcases hc with rfl | rfl<;>rcases v with rfl | rfl
  ·exact absurd u (by decide)
  ·exact w
  ·exact o
  ·exact r
  ·exact x
  ·exact l
  ·exact n
  ·exact m
  ·exact p
  ·exact z
  ·exact s
  ·exact i
  ·exact g
  ·exact f
  ·exact j
  ·exact k
theorem F3 (n:Nat) (g l:Bool) (d:aa) (x s:Int) (p:d.length=4) (o:4<n):aw (gy n) n ([],[],0,g,l,d,x,s)=some (eS 48 d,eS 57 d,g,l,d,x,s):=by
 refine fW (step:=gy n) (λq=>∃i:Nat,i<=4/\q=((eS 48 d).take i,(eS 57 d).take i,(i:Int),g,l,d,x,s)) (λq=>4 - q.2.2.1.toNat) (λ_=>(eS 48 d,eS 57 d,g,l,d,x,s)) ?_ n _ ⟨0,by omega,by simp⟩ (by simp;omega);rintro q ⟨i,hi,rfl⟩;rcases aH i 4 with m | j
 ·obtain ⟨c,hc⟩:∃c,d[i]?=some c:=⟨d[i],aT (by omega)⟩;have f:=U7 (yu (z:=48) hc);have b:=U7 (yu (z:=57) hc);have h:decide ((i:Int)<4)=true:=aq (by omega);have k:IntKind.wrap .i64 ((i:Int)+1)=((i+1:Nat):Int):=by rw [wrap_i64 _ (by omega) (by omega)];omega
  refine .inl ⟨((eS 48 d).take (i+1),(eS 57 d).take (i+1),((i+1:Nat):Int),g,l,d,x,s),?_,⟨i+1,by omega,rfl⟩,by simp only [bO];omega,rfl⟩;simp only [gy,h,ah,k,cT (show i+1<=d.length by omega),cT (show i<=i+1 by omega),ob,cut1 hc];have a:∀z:UInt8,((eS z d).take i).length<=4:=λz=>by rw [cV];omega
  rw [f,b];by_cases hx:c=88
  ·have e:(([c]:aa)==[88])=true:=by rw [hx];rfl
   rw [e,ah,ae hx,ae hx,bQ (by have:=a 48;simp;omega),bQ (by have:=a 57;simp;omega)]
  ·have e:(([c]:aa)==[88])=false:=by
    rw [aI];intro e;exact hx (by simpa using e)
   rw [e,af,ab hx,ab hx,bQ (by have:=a 48;simp;omega),bQ (by have:=a 57;simp;omega)]
 ·have:i=4:=by omega
  subst this;refine .inr ?_;rw [js (by rw [jE];omega),js (by rw [jE];omega)];rfl
theorem JX {d:aa} (h:d=[48,48,48,48]):dval 0 d=0:=by rw [h];decide
theorem Bi (m:Nat) (g:Bool) (d:aa) (h:okY g false d 0 0) (k:hasX d=true):aP (m+300) g false d 0 0=some (sgn g (lp g d)):=by
 obtain ⟨_,_,_,j,l⟩:=rW h k;by_cases f:g=true/\dval 0 (eS 48 d)=0
 ·obtain ⟨rfl,f⟩:=f;exact Aq j (ES j l f) k (λd=>aP (m+300) true false d 0 0=some (sgn true (lp true d))) (VO m) (UM m) (Tq m) (Tz m) (TY m) (TP m) (U5 m) (Vy m) (UQ m) (TN m) (QX m) (Qf m) (Qa m) (PW m) (Rw m)
 ·have hs:lp g d=(dval 0 (eS 48 d),dval 0 (eS 57 d)):=by unfold lp;rw [ab f]
  have c:=ru (z:=48) (by decide) l;have i:=ru (z:=57) (by decide) l;have o:=rJ (eS 48 d) 0 0 c (by simp);have p:=rJ (eS 57 d) 0 0 i (by simp);rw [jE,j] at o p;have r:(10:Nat) ^ (4+0)=10000:=by decide
  have m1:am (m+300) (eS 48 d) 0=some (((dval 0 (eS 48 d):Nat):Int),1):=by
   have:=jO (m+300) (eS 48 d) 0 c (by rw [jE];omega) (by omega) (by rw [jE];omega);rw [ae (by unfold E16;simp only [Cj,rD];omega)] at this;simpa using this
  have m2:am (m+300) (eS 57 d) 0=some (((dval 0 (eS 57 d):Nat):Int),1):=by
   have:=jO (m+300) (eS 57 d) 0 i (by rw [jE];omega) (by omega) (by rw [jE];omega);rw [ae (by unfold E16;simp only [Cj,rD];omega)] at this;simpa using this
  have q:((if true=true then (1:Int) else 0)==1)=true:=rfl;have n:decide ((0:Int)>0)=false:=rfl;unfold aP;rw [pR _ g false d 0 0 (by omega) (by omega),k,F3 _ g false d 0 0 j (by omega),hs];simp only [ob,aM,wb,ah];cases g with
  | true=>
   have e:(eS 48 d==([48,48,48,48]:aa))=false:=by
    rw [aI];intro e;exact f ⟨rfl,JX e⟩
   simp only [ah,e,af,m1,m2,n,sgn,aM];generalize dval 0 (eS 48 d)=a at *;generalize dval 0 (eS 57 d)=b at *;rw [wrap_i64 _ (by omega) (by omega),wrap_i64 _ (by omega) (by omega),Az,Az]
  | false=>simp only [af,m1,m2,n,sgn,bz,aE]
def oH (g:Bool) (d:aa) (x s:Int):Nat×Nat:=if hasX d then lp g d else Bo d x.toNat s.toNat
theorem P2 (m:Nat) (g l:Bool) (d:aa) (x s:Int) (c:d.length<=100) (h:okY g l d x s):aP (m+300) g l d x s=some (sgn g (oH g d x s)):=by
 unfold oH;cases a:hasX d with
 | true=>
  obtain ⟨rfl,rfl,rfl,f,b⟩:=rW h a;exact Bi m g d h a
 | false=>
  obtain ⟨k,q,rfl,rfl,e⟩:=th h a;exact DZ _ g l d k q (by omega) c e
theorem UI {d:aa} {k q:Nat} (h:Num d k q):(Bo d k q).1<=val d k/\val d k<=(Bo d k q).2/\(Bo d k q).2<=E16:=by
 have hs:=h.small;have b:dval 0 d*10 ^ k=val d k:=rfl;rw [b] at hs;unfold Bo;split
 ·have a:1<=10 ^ (d.length+k - q):=CO _ _ (by decide);generalize 10 ^ (d.length+k - q)=u at a ⊢;generalize val d k=v at hs ⊢;have c:=FT v u;have e:v<v / u*u+u:=by
   have h:=Nat.div_add_mod v u;have:=sc v a;rw [vi] at h;omega
  refine ⟨c,?_,G8 _ _⟩;rw [Nat.le_min];omega
 ·exact ⟨aX _,aX _,hs⟩
def mtk (d:aa):Nat->Nat->Bool
 | 0,_=>true
 | k+1,w=>(decide (d.getD k 0=88)||decide ((d.getD k 0).toNat=48+w%10))&&mtk d k (w / 10)
theorem A4 (d:aa) (k w:Nat):mtk d (k+1) w=((decide (d.getD k 0=88)||decide ((d.getD k 0).toNat=48+w%10))&&mtk d k (w / 10)):=rfl
theorem Db {d:aa} {k:Nat} {c:UInt8} (h:d[k]?=some c):d.getD k 0=c:=by
 rw [E9,h];rfl
theorem MU (n:Nat) (g l:Bool) (d:aa) (x s:Int) (y:d.length=4):∀(k w:Nat),k<=4->w<100000000000000000->∀q,k<q->
  aw (bV n) q ((w:Int),(k:Int) - 1,g,l,d,x,s)=some (if mtk d k w=true then .inr ((w / 10 ^ k:Nat):Int) else .inl 0)
 | 0,w,r,z,q,o=>by
  obtain ⟨q,rfl⟩:∃p,q=p+1:=⟨q - 1,by omega⟩;have b:decide (((0:Nat):Int) - 1>=0)=false:=rfl;have f:mtk d 0 w=true:=rfl;simp only [aw,bV,b,af];rw [ae f];simp
 | k+1,w,r,z,q,o=>by
  obtain ⟨q,rfl⟩:∃p,q=p+1:=⟨q - 1,by omega⟩;have ih:=MU n g l d x s y k (w / 10) (by omega) (by omega) q (by omega);obtain ⟨c,hc⟩:∃c,d[k]?=some c:=⟨d[k],aT (by omega)⟩;have B:((k+1:Nat):Int) - 1=(k:Int):=by omega
  have b:decide ((k:Int)>=0)=true:=aq (by omega);have m:Int.tmod (w:Int) 10=((w%10:Nat):Int):=rfl;have eq':Int.tdiv (w:Int) 10=((w / 10:Nat):Int):=rfl;have v:IntKind.wrap .i64 (48+((w%10:Nat):Int))=((48+w%10:Nat):Int):=by rw [wrap_i64 _ (by omega) (by omega)];omega
  have t:IntKind.wrap .u8 ((48+w%10:Nat):Int)=((48+w%10:Nat):Int):=fU _ (by omega) (by omega);have u:IntKind.wrap .i64 ((w / 10:Nat):Int)=((w / 10:Nat):Int):=wrap_i64 _ (by omega) (by omega);have A:IntKind.wrap .i64 ((k:Int) - 1)=(k:Int) - 1:=wrap_i64 _ (by omega) (by omega);have a:w / 10 ^ (k+1)=w / 10 / 10 ^ k:=by rw [um,vi,Nat.div_div_eq_div_mul]
  rw [A4,Db hc,a,B];simp only [aw,bV,b,ah,eJ hc,ob,m,eq',v,t,u,A];by_cases hx:c=88
  ·have j:(((c.toNat:Nat):Int) != 88)=false:=by rw [hx];rfl
   rw [j,aq hx];simp only [af,Hm,qZ];exact ih
  ·have j:(((c.toNat:Nat):Int) != 88)=true:=by
    simp only [bne,jW,aI];intro e;exact hx (gD.1 (by show c.toNat=88;omega))
   rw [j,ar hx];simp only [ah,oO];by_cases h:c.toNat=48+w%10
   ·have i:(((c.toNat:Nat):Int) != ((48+w%10:Nat):Int))=false:=by rw [h];simp
    rw [i,aq h];simp only [af,qZ];exact ih
   ·have i:(((c.toNat:Nat):Int) != ((48+w%10:Nat):Int))=true:=by
     simp only [bne,jW,aI];omega
    rw [i,ar h];simp only [ah,yT];rfl
def FR (d:aa) (k q:Nat):Nat:=if 0<q then 10 ^ (d.length+k - q) else 1
def memP (d:aa) (x s:Int) (w:Nat):Prop:=if hasX d=true then mtk d 4 w=true/\w / 10 ^ 4=0 else val d x.toNat / FR d x.toNat s.toNat=w / FR d x.toNat s.toNat
instance (d:aa) (x s:Int) (w:Nat):Decidable (memP d x s w):=by unfold memP;infer_instance
def wOf (g:Bool) (v:Int):Int:=if g then -v else v
def inP (g:Bool) (d:aa) (x s v:Int):Prop:=-10000000000000000<=v/\v<=10000000000000000/\0<=wOf g v/\¬(hasX d=true/\g=true/\wOf g v=0)/\memP d x s (wOf g v).toNat
instance (g:Bool) (d:aa) (x s v:Int):Decidable (inP g d x s v):=by unfold inP;infer_instance
noncomputable def inT (n:Nat) (a0 a1:Bool) (a2:aa) (h g W:Int):Option Int:=
 (ob (aG n a0 a1 a2 h g) λd=>(cond (d==1) (ob (aw (bV n) n (W,3,a0,a1,a2,h,g)) λc=>(Sum.casesOn (motive:=λ_=>Option _) c (λe=>(some e)) (λf=>(cond (decide (f>0)) (some 0) (some 1))))) (ob (am n a2 h) λb=>(cond (decide (g>0)) (ob (am n [49] (IntKind.wrap .i64 ((IntKind.wrap .i64 (((List.length a2:Nat):Int)+h)) - g))) λa=>(cond (a.1==0) none (cond (a.1==0) none (cond ((IntKind.wrap .i64 (Int.tdiv b.1 a.1))==(IntKind.wrap .i64 (Int.tdiv W a.1))) (some 1) (some 0))))) (cond ((IntKind.wrap .i64 (Int.tdiv b.1 1))==(IntKind.wrap .i64 (Int.tdiv W 1))) (some 1) (some 0))))))
theorem NP (a b:Nat):(((a:Nat):Int)==((b:Nat):Int))=decide (a=b):=by
 by_cases h:a=b
 ·subst h;simp
 ·rw [ar h,aI];omega
theorem HK {d:aa} {x s:Int} {w:Nat} (a:hasX d=true):memP d x s w↔mtk d 4 w=true/\w / 10 ^ 4=0:=by unfold memP;rw [ae a]
theorem SZ {d:aa} {x s:Int} {w:Nat} (a:hasX d=false):memP d x s w↔val d x.toNat / FR d x.toNat s.toNat=w / FR d x.toNat s.toNat:=by unfold memP;rw [ab (by rw [a];simp)]
theorem in_T (m:Nat) {g l:Bool} {d:aa} {x s:Int} (j:okY g l d x s) (w:Nat) (S:w<=10000000000000000):inT (m+300) g l d x s (w:Int)=some (if memP d x s w then 1 else 0):=by
 have L:=iN j;have J:=pR (m+300) g l d x s (by omega) (by omega);unfold inT;cases h:hasX d with
 | true=>
  obtain ⟨rfl,rfl,rfl,N,_⟩:=rW j h;have E:=MU (m+300) g false d 0 0 N 4 w (by omega) (by omega) (m+300) (by omega);have hlp':aw (bV (m+300)) (m+300) ((w:Int),3,g,false,d,0,0)=_:=E;have B:((1:Int)==1)=true:=rfl;have o:aG (m+300) g false d 0 0=some 1:=by rw [J,h];rfl
  rw [o];simp only [ob,B,ah,hlp'];by_cases y:mtk d 4 w=true
  ·rw [ae y];by_cases z:w / 10 ^ 4=0
   ·have e:decide (((w / 10 ^ 4:Nat):Int)>0)=false:=ar (by rw [z];decide);rw [ae ((HK h).2 ⟨y,z⟩)];simp only [e,af]
   ·have e:decide (((w / 10 ^ 4:Nat):Int)>0)=true:=aq (by
     generalize w / 10 ^ 4=t at z ⊢;omega)
    rw [ab (λq=>z ((HK h).1 q).2)];simp only [e,ah]
  ·rw [ab y,ab (λq=>y ((HK h).1 q).1)]
 | false=>
  obtain ⟨k,q,rfl,rfl,A⟩:=th j h;have hw':=A.wide;have hs:=A.small;have R:=A.sig;have G:dval 0 d*10 ^ k=val d k:=rfl;have H:=jO (m+300) d k A.dig (by omega) (by omega) (by omega);rw [ae hs,G] at H;rw [G] at hs;unfold E16 at hs;have C:((0:Int)==1)=false:=rfl;have o:aG (m+300) g l d k q=some 0:=by rw [J,h];rfl
  have c:=SZ (x:=(k:Int)) (s:=(q:Int)) (w:=w) h;rw [bO,bO] at c;unfold FR at c;rw [o];simp only [ob,C,af,H];by_cases I:0<q
  ·have D:decide ((q:Int)>0)=true:=aq (by omega);have w0:IntKind.wrap .i64 (IntKind.wrap .i64 (((d.length:Nat):Int)+(k:Int)) - (q:Int))=((d.length+k - q:Nat):Int):=by
    rw [wrap_i64 (((d.length:Nat):Int)+(k:Int)) (by omega) (by omega),wrap_i64 _ (by omega) (by omega)];omega
   have F:10 ^ (d.length+k - q)<=10 ^ 16:=ly (by decide) (by omega);have Q:(10:Nat) ^ 16=10000000000000000:=by decide
   have one:dval 0 [49]=1:=by decide
   have i:dval 0 [49]*10 ^ (d.length+k - q)<=E16:=by rw [one];unfold E16;omega
   have n:=jO (m+300) [49] (d.length+k - q) (by decide) (by decide) (by omega) (by simp;omega);rw [ae i,one,xH] at n;have M:1<=10 ^ (d.length+k - q):=CO _ _ (by decide);rw [D,w0,n];rw [ae I] at c;clear i n;generalize 10 ^ (d.length+k - q)=u at M F c ⊢;generalize val d k=v at hs c ⊢;have d2:(((u:Nat):Int)==0)=false:=aI.2 (by omega);have p:Int.tdiv ((v:Nat):Int) ((u:Nat):Int)=((v / u:Nat):Int):=rfl;have r:Int.tdiv ((w:Nat):Int) ((u:Nat):Int)=((w / u:Nat):Int):=rfl;have K:v / u<=v:=FK v u;have P:w / u<=w:=FK w u;simp only [ah,d2,af,p,r];generalize v / u=a at K c ⊢;generalize w / u=b at P c ⊢;rw [wrap_i64 _ (by omega) (by omega),wrap_i64 _ (by omega) (by omega),NP];by_cases f:a=b
   ·rw [aq f,ae (c.2 f)];rfl
   ·rw [ar f,ab (λq=>f (c.1 q))];rfl
  ·have D:decide ((q:Int)>0)=false:=ar (by omega);have O:∀a:Nat,Int.tdiv ((a:Nat):Int) 1=((a:Nat):Int):=λa=>by
    have:Int.tdiv ((a:Nat):Int) 1=((a / 1:Nat):Int):=rfl;rw [this,uc]
   rw [ab I,uc,uc] at c;rw [D];simp only [af,O];rw [wrap_i64 _ (by omega) (by omega),wrap_i64 _ (by omega) (by omega),NP];by_cases f:val d k=w
   ·rw [aq f,ae (c.2 f)];rfl
   ·rw [ar f,ab (λq=>f (c.1 q))];rfl
theorem Xg (m:Nat) {g l:Bool} {d:aa} {x s:Int} (k:okY g l d x s) (v:Int):nH (m+300) g l d x s v=some (if inP g d x s v then 1 else 0):=by
 have y:=iN k;have a:=λw p=>in_T m k w p;have o:=pR (m+300) g l d x s (by omega) (by omega);unfold inT at a;unfold nH;by_cases t:v < -10000000000000000
 ·rw [aq t,ab (λq=>by have:=q.1;omega)];rfl
 ·rw [ar t,af];by_cases u:v>10000000000000000
  ·rw [aq u,ab (λq=>by have:=q.2.1;omega)];rfl
  ·rw [ar u,af];cases g with
   | true=>
    have w0:IntKind.wrap .i64 (0 - v)=-v:=by rw [wrap_i64 _ (by omega) (by omega)];omega
    simp only [ah,w0];by_cases n:-v<0
    ·rw [aq n,ab (λq=>by have:=q.2.2.1;unfold wOf at this;simp only [aM] at this;omega)];rfl
    ·rw [ar n,af];obtain ⟨w,p⟩:∃w:Nat,-v=(w:Int):=⟨(-v).toNat,by omega⟩;have a:=a w (by omega);have h:wOf true v=(w:Int):=by unfold wOf;simpa using p
     have c:¬(hasX d=true/\w=0)->(inP true d x s v↔memP d x s w):=by
      intro r;unfold inP;rw [h,bO];constructor
      ·exact λq=>q.2.2.2.2
      ·exact λq=>⟨by omega,by omega,by omega,λq=>r ⟨q.1,by omega⟩,q⟩
     rw [p];cases j:hasX d with
     | true=>
      have b:aG (m+300) true l d x s=some 1:=by rw [o,j];rfl
      rw [b];have f:((1:Int)==1)=true:=rfl;simp only [ob,f,ah];by_cases r:w=0
      ·have e:(((w:Nat):Int)==0)=true:=bp.2 (by omega);rw [e,ab (λq=>q.2.2.2.1 ⟨j,rfl,by rw [h];omega⟩)];rfl
      ·have e:(((w:Nat):Int)==0)=false:=aI.2 (by omega);rw [b] at a;simp only [ob,f,ah] at a;rw [e,af,a];have:=c (λq=>r q.2);by_cases hp:memP d x s w
       ·rw [ae hp,ae (this.2 hp)]
       ·rw [ab hp,ab (λq=>hp (this.1 q))]
     | false=>
      have b:aG (m+300) true l d x s=some 0:=by rw [o,j];rfl
      have i:((0:Int)==1)=false:=rfl;rw [b] at a ⊢;simp only [ob,i,af] at a ⊢;rw [a];have:=c (λq=>by rw [j] at q;cases q.1);by_cases hp:memP d x s w
      ·rw [ae hp,ae (this.2 hp)]
      ·rw [ab hp,ab (λq=>hp (this.1 q))]
   | false=>
    simp only [af];by_cases n:v<0
    ·rw [aq n,ab (λq=>by have:=q.2.2.1;unfold wOf at this;simp only [bz,aE] at this;omega)];rfl
    ·rw [ar n,af];obtain ⟨w,rfl⟩:∃w:Nat,v=(w:Int):=⟨v.toNat,by omega⟩;have a:=a w (by omega);have h:wOf false (w:Int)=(w:Int):=rfl;have c:inP false d x s (w:Int)↔memP d x s w:=by
      unfold inP;rw [h,bO];constructor
      ·exact λq=>q.2.2.2.2
      ·exact λq=>⟨by omega,by omega,by omega,λq=>(by cases q.2.1),q⟩
     cases j:hasX d with
     | true=>
      have b:aG (m+300) false l d x s=some 1:=by rw [o,j];rfl
      rw [b] at a ⊢;have f:((1:Int)==1)=true:=rfl;simp only [ob,f,ah] at a ⊢;rw [a];by_cases hp:memP d x s w
      ·rw [ae hp,ae (c.2 hp)]
      ·rw [ab hp,ab (λq=>hp (c.1 q))]
     | false=>
      have b:aG (m+300) false l d x s=some 0:=by rw [o,j];rfl
      rw [b] at a ⊢;have i:((0:Int)==1)=false:=rfl;simp only [ob,i,af] at a ⊢;rw [a];by_cases hp:memP d x s w
      ·rw [ae hp,ae (c.2 hp)]
      ·rw [ab hp,ab (λq=>hp (c.1 q))]
def loK (d:aa) (k:Nat):Nat:=dval 0 ((eS 48 d).take k)
def hiK (d:aa) (k:Nat):Nat:=dval 0 ((eS 57 d).take k)
theorem xU (z:UInt8) {d:aa} {k:Nat} {c:UInt8} (h:d[k]?=some c):dval 0 ((eS z d).take (k+1))=dval 0 ((eS z d).take k)*10+((if c=88 then z else c).toNat - 48):=by
 rw [U7 (yu h),HV]
theorem Fb (d:aa) (j:d.length=4) (i:∀c∈d,be c=true\/c=88):∀(k w:Nat),k<=4->w<10 ^ k->mtk d k w=true->loK d k<=w/\w<=hiK d k
 | 0,w,f,b,a=>by
  simp at b;subst b;simp [loK,hiK,qt]
 | k+1,w,f,b,a=>by
  obtain ⟨c,hc⟩:∃c,d[k]?=some c:=⟨d[k],aT (by omega)⟩;rw [A4,Db hc,az,ip,cg,cg] at a;have hp:(10:Nat) ^ (k+1)=10 ^ k*10:=um 10 k;have ih:=Fb d j i k (w / 10) (by omega) (by omega) a.2;have e:=xU 48 hc;have h:=xU 57 hc;unfold loK hiK at ih ⊢;rw [e,h];by_cases hx:c=88
  ·rw [ae hx,ae hx];have g:(48:UInt8).toNat - 48=0:=rfl;have l:(57:UInt8).toNat - 48=9:=rfl;rw [g,l];omega
  ·rw [ab hx,ab hx];have:=a.1.resolve_left hx;omega
theorem Bd (z:UInt8) (f:be z=true) (d:aa) (l:d.length=4) (h:∀c∈d,be c=true\/c=88):∀k,k<=4->mtk d k (dval 0 ((eS z d).take k))=true
 | 0,_=>rfl
 | k+1,n=>by
  obtain ⟨c,hc⟩:∃c,d[k]?=some c:=⟨d[k],aT (by omega)⟩;have ih:=Bd z f d l h k (by omega);have e:be (if c=88 then z else c)=true:=by
   by_cases hx:c=88
   ·rw [ae hx];exact f
   ·rw [ab hx];exact (h c (fc hc)).resolve_right hx
  have i:=(ca _).1 e;rw [A4,Db hc,xU z hc];generalize g:(if c=88 then z else c)=b at i ⊢;generalize dval 0 ((eS z d).take k)=a at ih ⊢;have j:(a*10+(b.toNat - 48)) / 10=a:=by omega
  have m:(a*10+(b.toNat - 48))%10=b.toNat - 48:=by omega
  rw [j,m,ih,D3];by_cases hx:c=88
  ·rw [aq hx];rfl
  ·rw [ab hx] at g;rw [g,aq (show b.toNat=48+(b.toNat - 48) by omega),Bool.or_true]
def BZ:List (aa):=[[48,48,48,88],[48,48,88,48],[48,48,88,88],[48,88,48,48],[48,88,48,88],[48,88,88,48],[48,88,88,88],[88,48,48,48],[88,48,48,88],[88,48,88,48],[88,48,88,88],[88,88,48,48],[88,88,48,88],[88,88,88,48],[88,88,88,88]]
theorem Za:BZ.all (λd=>mtk d 4 (ut d)&&decide (1<=ut d)&&decide (ut d<=1000)&&(List.range 1000).all (λw=>decide (w=0)||!mtk d 4 w||decide (ut d<=w)))=true:=by decide +kernel
theorem E8 {d:aa} (i:d∈BZ):mtk d 4 (ut d)=true/\1<=ut d/\ut d<=1000/\∀w,1<=w->mtk d 4 w=true->ut d<=w:=by
 have h:=bW.1 Za d i;simp only [az,cg,bW,jA,ip,jW] at h;obtain ⟨⟨⟨c,g⟩,j⟩,b⟩:=h;refine ⟨c,g,j,λw k e=>?_⟩;rcases aH w 1000 with a | f
 ·rcases b w a with (h | h) | h
  ·omega
  ·rw [e] at h;cases h
  ·exact h
 ·omega
theorem Ez {d:aa} (a:d.length=4) (f:∀c∈d,be c=true\/c=88) (b:hasX d=true) (e:dval 0 (eS 48 d)=0):d∈BZ:=
 Aq a (ES a f e) b (λd=>d∈BZ) (by decide) (by decide) (by decide) (by decide) (by decide) (by decide) (by decide) (by decide) (by decide) (by decide) (by decide) (by decide) (by decide) (by decide) (by decide)
theorem Tv {d:aa} (a:d.length=4):loK d 4=dval 0 (eS 48 d):=by
 unfold loK;rw [js (by rw [jE];omega)]
theorem Tt {d:aa} (a:d.length=4):hiK d 4=dval 0 (eS 57 d):=by
 unfold hiK;rw [js (by rw [jE];omega)]
theorem Rr {g:Bool} {d:aa} (b:d.length=4) (f:∀c∈d,be c=true\/c=88) (q:hasX d=true):
  (lp g d).1<10000/\(lp g d).2<10000/\mtk d 4 (lp g d).1=true/\mtk d 4 (lp g d).2=true/\1<=(lp g d).2/\(g=true->1<=(lp g d).1)/\∀w,w<10000->mtk d 4 w=true->(g=true->1<=w)->(lp g d).1<=w/\w<=(lp g d).2:=by
 have r:(10:Nat) ^ 4=10000:=by decide
 have n:=ru (z:=48) (by decide) f;have p:=ru (z:=57) (by decide) f;have b1:=rJ (eS 48 d) 0 0 n (by simp);have b2:=rJ (eS 57 d) 0 0 p (by simp);rw [jE,b,cM,r] at b1 b2;have m1:=Bd 48 (by decide) d b f 4 (by omega);have m2:=Bd 57 (by decide) d b f 4 (by omega);rw [js (by rw [jE];omega)] at m1 m2;have k:∀w,w<10000->mtk d 4 w=true->dval 0 (eS 48 d)<=w/\w<=dval 0 (eS 57 d):=λw m h=>by
  have:=Fb d b f 4 w (by omega) (by omega) h;rw [Tv b,Tt b] at this;exact this
 have j:1<=dval 0 (eS 57 d):=by
  rcases Ce (dval 0 (eS 57 d)) with i | i
  ·exfalso;have e:dval 0 (eS 48 d)=0:=by
    have:=(k _ b1 m1).2;omega
   have o:=Ez b f q e;have a:=E8 o;have:=(k _ (by omega) a.1).2;omega
  ·exact i
 unfold lp;by_cases e:g=true/\dval 0 (eS 48 d)=0
 ·rw [ae e];have a:=E8 (Ez b f q e.2);refine ⟨by simp only;omega,b2,a.1,m2,j,λ_=>a.2.1,λw m h l=>⟨a.2.2.2 w (l e.1) h,(k w m h).2⟩⟩
 ·rw [ab e];refine ⟨b1,b2,m1,m2,j,λl=>?_,λw m h l=>k w m h⟩;simp only;rcases Ce (dval 0 (eS 48 d)) with i | i
  ·exact absurd ⟨l,i⟩ e
  ·exact i
theorem PK {g l:Bool} {d:aa} {x s:Int} (c:okY g l d x s):(oH g d x s).1<=10000000000000000/\(oH g d x s).2<=10000000000000000/\memP d x s (oH g d x s).1/\memP d x s (oH g d x s).2/\(hasX d=true->1<=(oH g d x s).2/\(g=true->1<=(oH g d x s).1))/\
  ∀w,w<=10000000000000000->memP d x s w->(hasX d=true->g=true->1<=w)->(oH g d x s).1<=w/\w<=(oH g d x s).2:=by
 unfold oH memP;cases o:hasX d with
 | true=>
  obtain ⟨rfl,rfl,rfl,M,F⟩:=rW c o;obtain ⟨G,O,J,I,K,H,L⟩:=Rr (g:=g) M F o;have C:(10:Nat) ^ 4=10000:=by decide
  simp only [aM,C];refine ⟨by omega,by omega,⟨J,Nat.div_eq_of_lt G⟩,⟨I,Nat.div_eq_of_lt O⟩,λ_=>⟨K,H⟩,λw z j N=>L w (by omega) j.1 (N trivial)⟩
 | false=>
  obtain ⟨k,q,rfl,rfl,B⟩:=th c o;have hs:=B.small;have E:dval 0 d*10 ^ k=val d k:=rfl;rw [E] at hs;obtain ⟨f,e,b⟩:=UI B;unfold E16 at b;simp only [bz,aE,bO];unfold FR;unfold Bo at f e b ⊢;by_cases m:0<q
  ·rw [ae m] at f e b ⊢;rw [ae m];have A:1<=10 ^ (d.length+k - q):=CO _ _ (by decide);generalize 10 ^ (d.length+k - q)=u at *;generalize val d k=v at *;simp only at f e b ⊢;have i:v / u*u / u=v / u:=Nat.mul_div_cancel _ A;have r:∀w,v / u*u<=w->w<v / u*u+u->w / u=v / u:=by
    intro w t n;apply Nat.div_eq_of_lt_le
    ·exact t
    ·rw [BH];exact n
   have a:∀w,v / u=w / u->v / u*u<=w/\w<v / u*u+u:=by
    intro w h;rw [h];have t:=FT w u;have n:=Nat.div_add_mod w u;have P:=sc w A;rw [vi] at n;omega
   have y:min (v / u*u+u - 1) E16<=v / u*u+u - 1:=Nat.min_le_left _ _;have p:=a v rfl;refine ⟨by omega,b,i.symm,(r _ (by omega) (by omega)).symm,λq=>(by cases q),λw z j _=>?_⟩;obtain ⟨D,Q⟩:=a w j;refine ⟨D,?_⟩;rw [Nat.le_min];unfold E16;omega
  ·rw [ab m] at f e b ⊢;rw [ab m];simp only [uc] at f e b ⊢;refine ⟨b,b,trivial,trivial,λq=>(by cases q),λw z j _=>by omega⟩
theorem GI {g l:Bool} {d:aa} {x s:Int} (i:okY g l d x s):inP g d x s (sgn g (oH g d x s)).1/\inP g d x s (sgn g (oH g d x s)).2/\∀v,inP g d x s v->(sgn g (oH g d x s)).1<=v/\v<=(sgn g (oH g d x s)).2:=by
 obtain ⟨k,w,p,n,t,m⟩:=PK i;generalize oH g d x s=B at *;obtain ⟨lo,hi⟩:=B;simp only at k w p n t m;cases g with
 | true=>
  have b:∀a:Nat,wOf true (-(a:Int))=(a:Int):=λa=>by unfold wOf;simp
  have mk:∀a:Nat,a<=10000000000000000->memP d x s a->(hasX d=true->1<=a)->inP true d x s (-(a:Int)):=by
   intro a z j A;refine ⟨by omega,by omega,by rw [b];omega,λq=>?_,by rw [b,bO];exact j⟩;have:=A q.1;have y:=q.2.2;rw [b] at y;omega
  simp only [sgn,aM];refine ⟨mk hi w n (λh=>(t h).1),mk lo k p (λh=>(t h).2 rfl),λv f=>?_⟩;obtain ⟨C,D,o,u,c⟩:=f;have r:wOf true v=-v:=rfl;rw [r] at o u c
  have:=m (-v).toNat (by omega) c (λhx _=>by
   have:¬-v=0:=λe=>u ⟨hx,rfl,e⟩;omega)
  omega
 | false=>
  have b:∀a:Int,wOf false a=a:=λa=>rfl;have mk:∀a:Nat,a<=10000000000000000->memP d x s a->inP false d x s (a:Int):=by
   intro a z j;exact ⟨by omega,by omega,by rw [b];omega,λq=>(by cases q.2.1),by rw [b,bO];exact j⟩
  simp only [sgn,bz,aE];refine ⟨mk lo k p,mk hi w n,λv f=>?_⟩;obtain ⟨C,D,o,u,c⟩:=f;rw [b] at o c;have:=m v.toNat (by omega) c (λ_ q=>by cases q);omega
end Go.Sh
namespace Go.Sh.Mk
open Go.Abs
def okB (c:UInt8):Bool:=c.toNat==88||(decide (48<=c.toNat)&&decide (c.toNat<=57))
def chk (s:aa):Int:=if 18<s.length then 3 else if s.all okB then (if s=[] then 5 else 0) else 5
theorem wn (n:Nat) (s0 s:aa) (r:s.length+1<n):
  aw (jf n) n (s0,s,0)=some (if s.all okB then .inr s0 else .inl 5):=by
 have:=fW (step:=jf n) (λx=>x.1=s0/\x.2.1=s/\x.2.2<=s.length) (λx=>s.length - x.2.2)
  (λx=>if (s.drop x.2.2).all okB then .inr s0 else .inl 5) ?_ n (s0,s,0) ⟨rfl,rfl,kE _⟩ (by simp;omega)
 ·simpa using this
 rintro ⟨a,b,i⟩ ⟨rfl,rfl,hi⟩;simp only at hi ⊢;rcases aH i b.length with k | m
 ·obtain ⟨c,hc⟩:∃c,b[i]?=some c:=⟨b[i],aT k⟩;have o:Nat.blt i b.length=true:=cP k;rw [cr hc,nz];simp only [jf,o,ah];by_cases j:c.toNat<128
  ·rw [Bv hc j];by_cases g:c.toNat=88
   ·refine .inl ⟨(a,b,i+1),by simp [g],⟨rfl,rfl,by simp only;omega⟩,by simp only;omega,?_⟩;simp [okB,g]
   ·by_cases p:c.toNat<48
    ·refine .inr ?_;have d:(((c.toNat:Nat):Int) != 88)=true:=by simp;omega
     have f:(decide (((c.toNat:Nat):Int)<48))=true:=by simp;omega
     have e:okB c=false:=by simp [okB];omega
     simp [d,f,e]
    ·by_cases q:57<c.toNat
     ·refine .inr ?_;have d:(((c.toNat:Nat):Int) != 88)=true:=by simp;omega
      have f:(decide (((c.toNat:Nat):Int)<48))=false:=by simp;omega
      have l:(decide (((c.toNat:Nat):Int)>57))=true:=by simp;omega
      have e:okB c=false:=by simp [okB];omega
      simp [d,f,e,l]
     ·have d:(((c.toNat:Nat):Int) != 88)=true:=by simp;omega
      have f:(decide (((c.toNat:Nat):Int)<48))=false:=by simp;omega
      have l:(decide (((c.toNat:Nat):Int)>57))=false:=by simp;omega
      have e:okB c=true:=by simp [okB];omega
      refine .inl ⟨(a,b,i+1),by simp only [d,f,l,ah,af],⟨rfl,rfl,by simp only;omega⟩,by simp only;omega,?_⟩;simp [e]
  ·obtain ⟨t,u⟩:=H6 hc (by omega);refine .inr ?_;have d:((((dec b i).1:Nat):Int) != 88)=true:=by simp;omega
   have f:(decide ((((dec b i).1:Nat):Int)<48))=false:=by simp;omega
   have l:(decide ((((dec b i).1:Nat):Int)>57))=true:=by simp;omega
   have e:okB c=false:=by simp [okB];omega
   simp [d,f,e,l]
 ·have o:Nat.blt i b.length=false:=by
   cases h:Nat.blt i b.length with
   | false=>rfl
   | true=>have:i<b.length:=aL h;omega
  refine .inr ?_;simp only [jf,o,af];rw [jt m];rfl
theorem mA (n:Nat) (s:aa) (b:30<=n):kH n s=some (chk s):=by
 unfold kH chk;by_cases h:18<s.length
 ·have:(decide (((List.length s:Nat):Int)>18))=true:=by simp;omega
  simp [this,h]
 ·have e:(decide (((List.length s:Nat):Int)>18))=false:=by simp;omega
  simp only [e,af,h,aE];rw [wn n s s (by omega)];by_cases a:s.all okB=true
  ·simp only [a,aM,ob];by_cases hs:s=[]
   ·simp [hs]
   ·have:(s==([]:aa))=false:=by simpa using hs
    simp [this,hs]
  ·simp [a,ob]
theorem oi {s:aa} (h:chk s=0):s.length<=18/\s≠[]/\∀c∈s,okB c=true:=by
 unfold chk at h;split at h
 ·simp at h
 ·split at h
  ·rename_i a;split at h
   ·simp at h
   ·rename_i hs;exact ⟨by omega,hs,by simpa using a⟩
  ·simp at h
def nums (l:aa):List Int:=l.map λb=>((b.toNat:Nat):Int)
def over (d:List Int) (i:Nat) (l:List Int):List Int:=d.take i++(l++d.drop (i+l.length))
theorem CX (d:List Int) (i:Nat) (x:Int) (l:List Int) (h:i<d.length):over (d.set i x) (i+1) l=over d i (x::l):=by
 unfold over;rw [show (d.set i x).take (i+1)=d.take i++[x] from by
  rw [K3 (by simpa using h)];simp [List.take_set_of_le]]
 rw [List.drop_set_of_lt (by omega)];simp [gO,pw 1]
theorem IF (d:List Int) (i:Nat):over d i []=d:=by simp [over]
theorem QD (d:List Int) (i:Nat) (l:List Int) (h:i+l.length<=d.length):(over d i l).length=d.length:=by
 unfold over;simp;omega
theorem Q9 {x y:UInt8}:(((x.toNat:Nat):Int)==((y.toNat:Nat):Int))=decide (x=y):=by
 by_cases h:x=y
 ·simp [h]
 ·have:x.toNat≠y.toNat:=λe=>h (gD.1 e);simp [h];omega
theorem B8 {x:UInt8}:(((x.toNat:Nat):Int)==88)=decide (x=88):=by
 have:=Q9 (x:=x) (y:=88);simpa using this
def dg:Nat->Int->List Int
 | 0,_=>[]
 | L+1,k=>dg L (k / 10)++[48+k%10]
theorem xe:∀(L:Nat) (k:Int),(dg L k).length=L
 | 0,_=>rfl
 | L+1,k=>by simp [dg,xe L]
theorem uR:∀(L:Nat) (k:Int),∀x∈dg L k,48<=x/\x<58
 | 0,_,x,h=>by simp [dg] at h
 | L+1,k,x,h=>by
  simp only [dg,lg,uf] at h;rcases h with h | rfl
  ·exact uR L _ x h
  ·omega
def jK:aa->List Int->Bool
 | c::m,d::l=>(c==88||decide (((c.toNat:Nat):Int)=d))&&jK m l
 | _,_=>true
theorem wh:∀{a c:aa} {b d:List Int},a.length=b.length->jK (a++c) (b++d)=(jK a b&&jK c d)
 | [],c,[],d,_=>by simp [jK]
 | x::a,c,y::b,d,h=>by
  simp only [aC,yn] at h;simp only [eK,jK,wh h,Bool.and_assoc]
def hasM (m:aa) (k:Int):Bool:=decide (0<=k)&&(decide (k<10 ^ m.length)&&jK m (dg m.length k))
theorem Qx (L:Nat) (h:L<=18):qz 20000000 ((L:Nat):Int)=some (10 ^ L):=by
 have b:allN (λi=>match qz 20000000 ((i:Nat):Int) with | some r=>decide (r=10 ^ i) | none=>false) 19=true:=by kernel_rfl
 have:=Gw b L (by omega);split at this
 ·rename_i r a;rw [a];simpa using this
 ·cases this
theorem Ef (L:Nat) (h:L<=18):(10:Int) ^ L<=1000000000000000000:=by
 have a:allN (λi=>decide ((10:Int) ^ i<=1000000000000000000)) 19=true:=by kernel_rfl
 simpa using Gw a L (by omega)
theorem VU {k:Int} (h:0<=k):Int.tmod k 10=k%10:=M6 h
theorem XP {k:Int} (h:0<=k):Int.tdiv k 10=k / 10:=Sv h
theorem KE (k:Int) (i:Nat) (d:List Int) (a:0<=k) (c:k<9223372036854775808) (hi:i<=18) (b:d.length=18):
  aw (je 20000000) 20000000 (k,(i:Int) - 1,d)=some (over d 0 (dg i k)):=by
 have:=fW (step:=je 20000000) (λx=>(0<=x.1/\x.1<9223372036854775808)/\(-1<=x.2.1/\x.2.1<=17)/\x.2.2.length=18) (λx=>(x.2.1+1).toNat)
  (λx=>over x.2.2 0 (dg (x.2.1+1).toNat x.1)) ?_ 20000000 (k,(i:Int) - 1,d) ⟨⟨a,c⟩,⟨by simp only;omega,by simp only;omega⟩,b⟩ (by simp only;omega)
 ·simpa using this
 rintro ⟨k,i,d⟩ ⟨⟨a,c⟩,⟨m,p⟩,b⟩;simp only at a c m p b ⊢;by_cases hi:0<=i
 ·obtain ⟨j,rfl⟩:∃j:Nat,i=j:=⟨i.toNat,by omega⟩;have f:j<18:=by omega
  have e:decide ((j:Int)>=0)=true:=by simp
  have q:Nat.blt j 18=true:=cP f;have o:IntKind.wrap .i64 ((j:Int) - 1)=(j:Int) - 1:=wrap_i64 _ (by omega) (by omega);have h:IntKind.wrap .i64 (Int.tdiv k 10)=k / 10:=by rw [XP a];exact wrap_i64 _ (by omega) (by omega)
  have l:IntKind.wrap .u8 (IntKind.wrap .i64 (48+Int.tmod k 10))=48+k%10:=by rw [VU a,wrap_i64 _ (by omega) (by omega),fU _ (by omega) (by omega)]
  refine .inl ⟨(k / 10,(j:Int) - 1,d.set j (48+k%10)),by simp only [je,e,ah,dk f,ob,q,o,h,l],⟨⟨by simp only;omega,by simp only;omega⟩,⟨by simp only;omega,by simp only;omega⟩,by simpa using b⟩,by simp only;omega,?_⟩;have g:((j:Int) - 1+1).toNat=j:=by omega
  have n:((j:Int)+1).toNat=j+1:=by omega
  simp only [g,n,over,nj,dS,xe,dc,dg,fQ];congr 1;rw [List.drop_set,ab (by omega),B5,rP (by omega)];simp only [List.set_cons_zero,aO,xe,aC,bh,eK,dS,dc]
 ·have e:decide (i>=0)=false:=by simp;omega
  have s:(i+1).toNat=0:=by omega
  refine .inr ?_;simp only [je,e,af,s,dg,IF]
theorem Rn (m:aa) (k:Int) (b:m.length<=18) (a:0<=k) (c:k<9223372036854775808):
  mq 20000000 m k=some (over [0,0,0,0,0,0,0,0,0,0,0,0,0,0,0,0,0,0] 0 (dg m.length k)):=by
 have w:IntKind.wrap .i64 (((List.length m:Nat):Int) - 1)=(m.length:Int) - 1:=wrap_i64 _ (by omega) (by omega);simp only [mq,w,KE k m.length [0,0,0,0,0,0,0,0,0,0,0,0,0,0,0,0,0,0] a c b (by rfl),ob]
theorem wO {d l:List Int} {i:Nat} (h:i<l.length):(over d 0 l)[i]?=l[i]?:=by
 unfold over;simp only [nj,dS];rw [oe h]
theorem AA:∀(l:List Int),(∀x∈l,0<=x/\x<256)->nums (iG l)=l
 | [],_=>rfl
 | x::l,h=>by
  have ih:=AA l λy hy=>h y (f7 _ hy);obtain ⟨a,c⟩:=h x (by simp);have e:(((UInt8.ofNat x.toNat).toNat:Nat):Int)=x:=by
   rw [Gz,rG (by omega)];omega
  simp only [nums,iG,ud] at ih ⊢;simp only [ge,Function.comp,e];rw [show List.map ((λb:UInt8=>((b.toNat:Nat):Int)) ∘ λn:Int=>UInt8.ofNat n.toNat) l=l from ih]
theorem QF (l:aa):(nums l).length=l.length:=by simp [nums]
def cnt:aa->Nat
 | []=>0
 | c::r=>if c=88 then cnt r+1 else cnt r
def dv (c:UInt8):Int:=((c.toNat:Nat):Int) - 48
def nth:aa->Int->Int
 | [],_=>0
 | c::r,i=>if c=88 then 10*nth r (i / 10)+i%10 else 10*nth r i+dv c
def ag:aa->Int->Bool
 | [],_=>true
 | c::r,k=>ag r (k / 10)&&(decide (c=88)||decide (dv c=k%10))
def idx:aa->Int->Int
 | [],_=>0
 | c::r,k=>if c=88 then 10*idx r (k / 10)+k%10 else idx r (k / 10)
def okR (r:aa):Prop:=∀c∈r,c=88\/(0<=dv c/\dv c<10)
theorem zT {m:aa} (h:∀c∈m,okB c=true):okR m.reverse:=by
 intro c hc;have:=h c (Gu.1 hc);simp only [okB,ip,bp,az,cg] at this;rcases this with h | h
 ·exact .inl (gD.1 (by simpa using h))
 ·exact .inr (by unfold dv;omega)
theorem sT {c:UInt8} {r:aa} (h:okR (c::r)):okR r:=λx hx=>h x (f7 _ hx)
theorem jh (n:Nat):(10:Int) ^ (n+1)=10*10 ^ n:=by rw [Int.pow_succ,AY]
theorem uO (n:Nat):(0:Int)<10 ^ n:=Int.pow_pos (by omega)
theorem rZ:∀{r:aa},okR r->∀i,0<=i->0<=nth r i/\nth r i<10 ^ r.length
 | [],_,i,_=>by simp [nth]
 | c::r,h,i,hi=>by
  simp only [nth,aC,jh];split
  ·have:=rZ (sT h) (i / 10) (by omega);omega
  ·rename_i hc;have:=rZ (sT h) i hi;have:=(h c (by simp)).resolve_left hc;omega
theorem Nh:∀{r:aa},okR r->∀i,0<=i->ag r (nth r i)=true
 | [],_,_,_=>rfl
 | c::r,h,i,hi=>by
  simp only [nth,ag];split
  ·rename_i hc;have e:(10*nth r (i / 10)+i%10) / 10=nth r (i / 10):=by omega
   rw [e,Nh (sT h) (i / 10) (by omega)];simp [hc]
  ·rename_i hc;have b:=(h c (by simp)).resolve_left hc;have e:(10*nth r i+dv c) / 10=nth r i:=by omega
   have a:(10*nth r i+dv c)%10=dv c:=by omega
   rw [e,a,Nh (sT h) i hi];simp
theorem zf:∀(r:aa) (k:Int),0<=k->0<=idx r k/\idx r k<10 ^ cnt r
 | [],k,_=>by simp [idx,cnt]
 | c::r,k,a=>by
  have:=zf r (k / 10) (by omega);simp only [idx,cnt];split
  ·rw [jh];omega
  ·exact this
theorem M4:∀{r:aa} {k:Int},0<=k->k<10 ^ r.length->ag r k=true->nth r (idx r k)=k
 | [],k,d,b,_=>by simp at b;simp [nth];omega
 | c::r,k,d,b,a=>by
  simp only [ag,az,ip,cg] at a;rw [aC,jh] at b;have ih:=M4 (r:=r) (k:=k / 10) (by omega) (by omega) a.1;simp only [nth,idx];split
  ·have:=zf r (k / 10) (by omega);have e:(10*idx r (k / 10)+k%10) / 10=idx r (k / 10):=by omega
   have f:(10*idx r (k / 10)+k%10)%10=k%10:=by omega
   rw [e,f,ih];omega
  ·rename_i hc;rw [ih];have:=a.2.resolve_left hc;omega
theorem B6:∀{r:aa},okR r->∀i j,0<=i->i<j->j<10 ^ cnt r->nth r i<nth r j
 | [],_,i,j,b,d,a=>by simp [cnt] at a;omega
 | c::r,h,i,j,b,d,a=>by
  simp only [nth,cnt] at a ⊢;split
  ·rename_i hc;rw [ae hc,jh] at a;by_cases e:i / 10=j / 10
   ·rw [e];omega
   ·have:=B6 (sT h) (i / 10) (j / 10) (by omega) (by omega) (by omega);omega
  ·rename_i hc;rw [ab hc] at a;have:=B6 (sT h) i j b d a;omega
theorem Jn:∀(r:aa),∀k,jK r.reverse (dg r.length k)=ag r k
 | [],k=>rfl
 | c::r,k=>by
  simp only [List.reverse_cons,aC,dg,ag];rw [wh (by rw [vP,xe]),Jn r];have a:decide (((c.toNat:Nat):Int)=48+k%10)=decide (dv c=k%10):=n8.2 (by unfold dv;omega);have b:(c==88)=decide (c=88):=by by_cases h:c=88<;>simp [h]
  simp only [jK,D3,a,b]
theorem GG (m:aa) (k:Int):hasM m k=(decide (0<=k)&&(decide (k<10 ^ m.length)&&ag m.reverse k)):=by
 have:=Jn m.reverse k;rw [yQ,vP] at this;unfold hasM;rw [this]
theorem xC:∀(m:aa),cnt m=m.count 88
 | []=>rfl
 | c::m=>by
  simp only [cnt,xC m,List.count_cons];by_cases h:c=88<;>simp [h]
theorem tZ (m:aa):cnt m.reverse=cnt m:=by rw [xC,xC,List.count_reverse]
theorem Lr:∀(m:aa),cnt m<=m.length
 | []=>by simp [cnt]
 | c::m=>by
  have:=Lr m;simp only [cnt,aC];split<;>omega
def fd (x y:Int):Int:=(if y=88 then x else y) - 48
def fval (x:Int) (l:List Int):Int:=l.foldl (λn y=>10*n+fd x y) 0
theorem BL (x:Int):∀(l:List Int) (n:Int),l.foldl (λn y=>10*n+fd x y) n=n*10 ^ l.length+fval x l
 | [],n=>by simp [fval]
 | y::l,n=>by
  have e:=BL x l (10*n+fd x y);have a:=BL x l (10*0+fd x y);simp only [fval,vU,aC,jh] at e a ⊢;rw [e,a,Int.add_mul,Int.add_mul];have:10*n*10 ^ l.length=n*(10*10 ^ l.length):=by rw [AY 10 n,Int.mul_assoc]
  omega
theorem yM (s:aa) (x:Int) (D:s.length<=18) (hs:∀c∈s,0<=fd x ((c.toNat:Nat):Int)/\fd x ((c.toNat:Nat):Int)<10):m9 20000000 s x=some (fval x (nums s)):=by
 have hs':∀y∈nums s,0<=fd x y/\fd x y<10:=by
  intro y hy;obtain ⟨c,hc,rfl⟩:=eG.1 hy;exact hs c hc
 have C:(nums s).length=s.length:=QF s;have:=fW (step:=ii 20000000)
  (λst=>st.1=x/\st.2.2.1=((s.length:Nat):Int)/\st.2.2.2.2=nums s/\(0<=st.2.2.2.1/\st.2.2.2.1<=s.length)/\0<=st.2.1/\st.2.1<10 ^ st.2.2.2.1.toNat) (λst=>s.length - st.2.2.2.1.toNat)
  (λst=>((nums s).drop st.2.2.2.1.toNat).foldl (λn y=>10*n+fd x y) st.2.1) ?_ 20000000 (x,0,((s.length:Nat):Int),0,nums s) ⟨rfl,rfl,rfl,⟨by simp,by simp⟩,by simp,by simp⟩ (by simp;omega)
 ·show (ob (aw (ii 20000000) 20000000 (x,0,((List.length (nums s):Nat):Int),0,nums s)) λg=>some g)=_;rw [C,this];rfl
 rintro ⟨b,n,len,i,l⟩ ⟨o,m,p,⟨B,hi⟩,t,q⟩;simp only at o m p B hi t q ⊢;subst o m p;obtain ⟨j,rfl⟩:∃j:Nat,i=j:=⟨i.toNat,by omega⟩;simp only [bO] at q ⊢;rcases aH j s.length with A | u
 ·obtain ⟨y,hy⟩:∃c,(nums s)[j]?=some c:=⟨(nums s)[j]'(by omega),aT (by omega)⟩;obtain ⟨d0,d⟩:=hs' y (fc hy);have e:(decide ((j:Int)<((s.length:Nat):Int)))=true:=by simp;omega
  have w:IntKind.wrap .i64 ((j:Int)+1)=((j+1:Nat):Int):=by rw [wrap_i64 _ (by omega) (by omega)];omega
  have h:=Ef (j+1) (by omega);rw [jh] at h;have v:IntKind.wrap .i64 (10*n)=10*n:=wrap_i64 _ (by omega) (by omega);have r:∀z:Int,0<=z->z<10->IntKind.wrap .i64 (10*n+IntKind.wrap .i64 (IntKind.wrap .u8 z))=10*n+z:=λz E z1=>by
   rw [fU z (by omega) (by omega),wrap_i64 z (by omega) (by omega),wrap_i64 _ (by omega) (by omega)]
  rw [cr hy,vU];simp only [ii,e,ah,dk (show j<(nums s).length by omega),ob,hy,w,v];have next:0<=10*n+fd b y/\10*n+fd b y<10 ^ (j+1):=by rw [jh];omega
  by_cases a:y=88
  ·have k:(y==88)=true:=by simpa using a
   have f:fd b y=b - 48:=by simp [fd,a]
   rw [f] at d0 d next ⊢;refine .inl ⟨(b,10*n+(b - 48),((s.length:Nat):Int),((j+1:Nat):Int),nums s),by simp only [k,ah,r _ d0 d],⟨rfl,rfl,rfl,⟨by simp only;omega,by simp only;omega⟩,next.1,by simpa only [bO] using next.2⟩,by simp only [bO];omega,by simp only [bO]⟩
  ·have k:(y==88)=false:=by simpa using a
   have f:fd b y=y - 48:=by simp [fd,a]
   rw [f] at d0 d next ⊢;refine .inl ⟨(b,10*n+(y - 48),((s.length:Nat):Int),((j+1:Nat):Int),nums s),by simp only [k,af,r _ d0 d],⟨rfl,rfl,rfl,⟨by simp only;omega,by simp only;omega⟩,next.1,by simpa only [bO] using next.2⟩,by simp only [bO];omega,by simp only [bO]⟩
 ·have e:(decide ((j:Int)<((s.length:Nat):Int)))=false:=by simp;omega
  refine .inr ?_;simp only [ii,e,af];rw [jt (by omega)];rfl
theorem yX (x:Int) (l:List Int) (y:Int):fval x (l++[y])=10*fval x l+fd x y:=by simp [fval,I7]
theorem Es (r:aa) (c:UInt8):nums ((c::r).reverse)=nums r.reverse++[((c.toNat:Nat):Int)]:=by simp [nums]
theorem F6 (x:Int) (c:UInt8):fd x ((c.toNat:Nat):Int)=if c=88 then x - 48 else dv c:=by
 unfold fd dv;by_cases h:c=88
 ·simp [h]
 ·have:¬((c.toNat:Nat):Int)=88:=λe=>h (gD.1 (by simpa using (by omega:c.toNat=88)));rw [ab this,ab h]
theorem Ap:∀(r:aa),fval 48 (nums r.reverse)=nth r 0
 | []=>rfl
 | c::r=>by
  rw [Es,yX,Ap r,F6];simp only [nth];split<;>simp
theorem uz:∀(r:aa),fval 57 (nums r.reverse)=nth r (10 ^ cnt r - 1)
 | []=>rfl
 | c::r=>by
  have hp:=uO (cnt r);rw [Es,yX,uz r,F6];simp only [nth,cnt];split
  ·rw [jh];have a:(10*(10:Int) ^ cnt r - 1) / 10=10 ^ cnt r - 1:=by omega
   have b:(10*(10:Int) ^ cnt r - 1)%10=9:=by omega
   rw [a,b];omega
  ·rfl
theorem Wz {m:aa} (a:∀c∈m,okB c=true) {x:Int} (hx:48<=x/\x<58):∀c∈m,0<=fd x ((c.toNat:Nat):Int)/\fd x ((c.toNat:Nat):Int)<10:=by
 intro c hc;rw [F6];have:=zT a c (Gu.2 hc);split
 ·omega
 ·rename_i h;exact this.resolve_left h
theorem Qv {m:aa} (c:chk m=0):qG 20000000 m=some (nth m.reverse 0,0):=by
 obtain ⟨b,_,a⟩:=oi c;have d:((0:Int) != 0)=false:=by simp
 have:=Ap m.reverse;rw [yQ] at this;simp only [qG,mA 20000000 m (by omega),c,ob,d,af,yM m 48 b (Wz a (by omega)),this]
theorem Ha {m:aa} (c:chk m=0):mG 20000000 m=some (nth m.reverse (10 ^ cnt m - 1),0):=by
 obtain ⟨b,_,a⟩:=oi c;have d:((0:Int) != 0)=false:=by simp
 have:=uz m.reverse;rw [yQ,tZ] at this;simp only [mG,mA 20000000 m (by omega),c,ob,d,af,yM m 57 b (Wz a (by omega)),this]
theorem QN {m:aa} {l:List Int} (z:List Int) (b:m.length<=18) (g:l.length=m.length) (e:∀y∈l,48<=y/\y<58):gL 20000000 m (over z 0 l)=some (fval 0 l):=by
 have f:List.take m.length (over z 0 l)=l:=by
  unfold over;rw [nj,dS,vp (by omega),js (by omega)]
 have d:nums (iG l)=l:=AA l λy hy=>by have:=e y hy;omega
 have h:(iG l).length=m.length:=by simp [iG,g]
 simp only [gL,cT b,ob,dc,show Nat.ble m.length 18=true from cP b,ah,cU,f];rw [yM (iG l) 0 (by omega) ?_,d];intro c hc;have a:((c.toNat:Nat):Int)∈l:=by rw [<-d];exact eG.2 ⟨c,hc,rfl⟩
 have:=e _ a;unfold fd;rw [ab (by omega)];omega
theorem HI {m:aa} (d:chk m=0) {i:Int} (c:0<=i):hasM m (nth m.reverse i)=true:=by
 obtain ⟨e,_,a⟩:=oi d;have b:=rZ (zT a) i c;rw [vP] at b;rw [GG,Nh (zT a) i c,aq b.1,aq b.2];rfl
def vl:List Int->Int
 | []=>0
 | y::l=>(y - 48)*10 ^ l.length+vl l
def digl (l:List Int):Prop:=∀y∈l,48<=y/\y<58
theorem dM {y:Int} {l:List Int} (h:digl (y::l)):digl l:=λx hx=>h x (f7 _ hx)
theorem wV:∀{l:List Int},digl l->0<=vl l/\vl l<10 ^ l.length
 | [],_=>by simp [vl]
 | y::l,h=>by
  have ih:=wV (dM h);have hy:=h y (by simp);have hp:=uO l.length;simp only [vl,aC,jh];have a1:0<=(y - 48)*10 ^ l.length:=Int.mul_nonneg (by omega) (by omega);have a2:(y - 48)*10 ^ l.length<=9*10 ^ l.length:=SL (by omega) (by omega);omega
theorem Vu {y z:Int} {a b:List Int} (e:a.length=b.length) (f:digl a) (c:digl b) (h:y<z):vl (y::a)<vl (z::b):=by
 have g:=wV f;have d:=wV c;have hp:=uO a.length;simp only [vl];rw [<-e] at d ⊢;have a2:(y - 48+1)*10 ^ a.length<=(z - 48)*10 ^ a.length:=SL (by omega) (by omega);rw [Int.add_mul] at a2;omega
theorem CE:∀{l:List Int},digl l->fval 0 l=vl l
 | [],_=>rfl
 | y::l,h=>by
  have hy:=h y (by simp);have e:fval 0 (y::l)=l.foldl (λn y=>10*n+fd 0 y) (10*0+fd 0 y):=rfl;have a:fd 0 y=y - 48:=by unfold fd;rw [ab (by omega)]
  rw [e,BL,CE (dM h),a];simp only [vl,Int.mul_zero,Int.zero_add]
theorem KX {l:List Int} {y:Int} (h:digl (l++[y])):vl (l++[y])=10*vl l+(y - 48):=by
 have hy:=h y (by simp);have a:digl l:=λx hx=>h x (by simp [hx]);rw [<-CE h,<-CE a,yX];unfold fd;rw [ab (by omega)]
theorem QH:∀(L:Nat) (k:Int),0<=k->k<10 ^ L->vl (dg L k)=k
 | 0,k,c,a=>by simp at a;simp [dg,vl];omega
 | L+1,k,c,a=>by
  rw [jh] at a;have:=QH L (k / 10) (by omega) (by omega);have b:=uR (L+1) k;simp only [dg] at b ⊢;rw [KX b,this];omega
theorem ZE {l:List Int} (h:digl l):dg l.length (vl l)=l:=by
 have a:∀(r:List Int),digl r.reverse->dg r.length (vl r.reverse)=r.reverse:=by
  intro r
  induction r with
  | nil=>intro _;rfl
  | cons y r ih=>
   intro h;simp only [List.reverse_cons,aC] at h ⊢;have hy:=h y (by simp);rw [KX h];simp only [dg];have b:(10*vl r.reverse+(y - 48)) / 10=vl r.reverse:=by omega
   have c:48+(10*vl r.reverse+(y - 48))%10=y:=by omega
   rw [b,c,ih λx hx=>h x (lg.2 (.inl hx))]
 have:=a l.reverse (by rw [yQ];exact h);rwa [yQ,vP] at this
def fst (up:Bool):Int:=cond up 48 57
def lst (up:Bool):Int:=cond up 57 48
def stp (up:Bool) (y:Int):Int:=cond up (y+1) (y - 1)
def fil (up:Bool) (m:aa):List Int:=m.map λc=>cond (decide (c=88)) (fst up) ((c.toNat:Nat):Int)
def nx (up:Bool):aa->List Int->Option (List Int)
 | c::m,y::l=>
  if c=88 then
   match nx up m l with
   | some r=>some (y::r)
   | none=>if y=lst up then none else some (stp up y::fil up m)
  else if ((c.toNat:Nat):Int)=y then (nx up m l).map λr=>y::r
  else if decide (((c.toNat:Nat):Int)>y)=up then some (((c.toNat:Nat):Int)::fil up m) else none
 | _,_=>some []
def okM (m:aa):Prop:=∀c∈m,okB c=true
theorem sF {c:UInt8} {m:aa} (h:okM (c::m)):okM m:=λx hx=>h x (f7 _ hx)
theorem It {c:UInt8} (h:okB c=true) (a:¬c=88):48<=((c.toNat:Nat):Int)/\((c.toNat:Nat):Int)<58:=by
 simp only [okB,ip,bp,az,cg] at h;have:¬c.toNat=88:=λe=>a (gD.1 (by simpa using e));omega
theorem Br (up:Bool) (m:aa):(fil up m).length=m.length:=by simp [fil]
theorem L0 (up:Bool) {m:aa} (h:okM m):digl (fil up m):=by
 intro y hy;obtain ⟨c,hc,rfl⟩:=eG.1 hy;by_cases a:c=88
 ·simp only [aq a,ah];cases up<;>simp [fst]
 ·simp only [ar a,af];exact It (h c hc) a
theorem zl (up:Bool):∀(m:aa),jK m (fil up m)=true
 | []=>rfl
 | c::m=>by
  have:=zl up m;simp only [fil,ge,jK] at this ⊢;rw [this];by_cases a:c=88
  ·simp [a]
  ·simp [a]
def fA (up:Bool) (a b:Int):Prop:=match up with | true=>a<=b | false=>b<=a
theorem C4 (up:Bool):∀{m:aa} {e:List Int},okM m->m.length=e.length->digl e->jK m e=true->fA up (vl (fil up m)) (vl e)
 | [],[],_,_,_,_=>by cases up<;>simp [fil,vl,fA]
 | c::m,y::e,n,i,j,k=>by
  simp only [aC,yn] at i;simp only [jK,az,ip,bp,cg] at k;have ih:=C4 up (sF n) i (dM j) k.2;have hy:=j y (by simp);have d:=Br up m;have l:=L0 up (sF n);have a:∀z:Int,vl (z::fil up m)=(z - 48)*10 ^ m.length+vl (fil up m):=λz=>by rw [vl,d]
  have g:fil up (c::m)=(cond (decide (c=88)) (fst up) ((c.toNat:Nat):Int))::fil up m:=rfl;rw [g];by_cases b:c=88
  ·simp only [aq b,ah];by_cases f:y=fst up
   ·rw [<-f,a,vl,<-i];cases up<;>simp only [fA] at ih ⊢<;>omega
   ·cases up
    ·exact Int.le_of_lt (Vu (by rw [d,i]) (dM j) l (by simp [fst] at f ⊢;omega))
    ·exact Int.le_of_lt (Vu (by rw [d,i]) l (dM j) (by simp [fst] at f ⊢;omega))
  ·simp only [ar b,af];rw [k.1.resolve_left b,a,vl,<-i];cases up<;>simp only [fA] at ih ⊢<;>omega
 | [],_::_,_,h,_,_=>by simp at h
 | _::_,[],_,h,_,_=>by simp at h
theorem VK (up:Bool):∀{m:aa} {l:List Int},okM m->m.length=l.length->digl l->
  match nx up m l with
  | some r=>r.length=m.length/\digl r/\jK m r=true/\fA up (vl l) (vl r)/\∀e,e.length=m.length->digl e->jK m e=true->fA up (vl l) (vl e)->fA up (vl r) (vl e)
  | none=>∀e,e.length=m.length->digl e->jK m e=true->¬fA up (vl l) (vl e)
 | [],[],_,_,_=>by
  simp only [nx];refine ⟨rfl,by intro y hy;simp at hy,rfl,by cases up<;>simp [fA],?_⟩;intro e C _ _ _;simp only [bh] at C;rw [tj C];cases up<;>simp [fA]
 | c::m,y::l,K,u,R=>by
  simp only [aC,yn] at u;have ih:=VK up (sF K) u (dM R);have hy:=R y (by simp);have A:=dM R;have t:=Br up m;have B:=L0 up (sF K);have L:∀{z w:Int} {a b:List Int},a.length=m.length->b.length=m.length->digl a->digl b->z<w->vl (z::a)<vl (w::b):=λC J P N Q=>Vu (by rw [C,J]) P N Q;have f:∀(z:Int) {a b:List Int},a.length=m.length->b.length=m.length->(fA up (vl (z::a)) (vl (z::b))↔fA up (vl a) (vl b)):=λz a b C J=>by
   simp only [vl,C,J];cases up<;>simp only [fA]<;>omega
  have q:∀{z w:Int} {a b:List Int},a.length=m.length->b.length=m.length->digl a->digl b->z≠w->(fA up (vl (z::a)) (vl (w::b))↔fA up z w):=λ{z w a b} C J P N Q=>by
   rcases Int.lt_trichotomy z w with h | h | h
   ·have:=L C J P N h;cases up<;>simp only [fA]<;>omega
   ·exact absurd h Q
   ·have:=L J C N P h;cases up<;>simp only [fA]<;>omega
  have d:∀e:List Int,e.length=(c::m).length->∃w a,e=w::a/\a.length=m.length:=λe h=>by
   match e,h with
   | w::a,h=>exact ⟨w,a,rfl,by simpa using h⟩
  by_cases g:c=88
  ·cases E:nx up m l with
   | some r=>
    rw [E] at ih;obtain ⟨H,O,S,V,U⟩:=ih;simp only [nx,ae g,E];refine ⟨by simp [H],λz s=>?_,by simp [jK,g,S],(f y u.symm H).2 V,λe x j p o=>?_⟩
    ·rcases cN.1 s with rfl | s
     ·exact hy
     ·exact O z s
    ·obtain ⟨w,a,rfl,i⟩:=d e x;simp only [jK,g,vG,Hm,qZ] at p;by_cases D:y=w
     ·subst D;exact (f y H i).2 (U a i (dM j) p ((f y u.symm i).1 o))
     ·exact (q H i O (dM j) D).2 ((q u.symm i A (dM j) D).1 o)
   | none=>
    rw [E] at ih;by_cases k:y=lst up
    ·simp only [nx,ae g,E,ae k];intro e x j p o;obtain ⟨w,a,rfl,i⟩:=d e x;simp only [jK,g,vG,Hm,qZ] at p;have hw9:=j w (by simp);by_cases D:y=w
     ·subst D;exact ih a i (dM j) p ((f y u.symm i).1 o)
     ·have:=(q u.symm i A (dM j) D).1 o;cases up<;>simp only [fA,lst,ah,af] at this k<;>omega
    ·simp only [nx,ae g,E,ab k];have hs:48<=stp up y/\stp up y<58/\y≠stp up y/\fA up y (stp up y)/\∀w,w≠y->fA up y w->fA up (stp up y) w:=by
      cases up<;>simp only [fA,lst,stp,ah,af] at k ⊢<;>exact ⟨by omega,by omega,by omega,by omega,λw C J=>by omega⟩
     obtain ⟨s1,X,Z,s4,W⟩:=hs;refine ⟨by simp [t],λz s=>?_,by simp [jK,g,zl],(q u.symm t A B Z).2 s4,λe x j p o=>?_⟩
     ·rcases cN.1 s with rfl | s
      ·exact ⟨s1,X⟩
      ·exact B z s
     ·obtain ⟨w,a,rfl,i⟩:=d e x;simp only [jK,g,vG,Hm,qZ] at p;by_cases D:y=w
      ·subst D;exact absurd ((f y u.symm i).1 o) (ih a i (dM j) p)
      ·have Y:=W w (λh=>D h.symm) ((q u.symm i A (dM j) D).1 o);by_cases M:stp up y=w
       ·rw [M];exact (f w t i).2 (C4 up (sF K) i.symm (dM j) p)
       ·exact (q t i B (dM j) M).2 Y
  ·have T:=It (K c (by simp)) g;have G:∀w a,jK (c::m) (w::a)=true->w=((c.toNat:Nat):Int)/\jK m a=true:=λw a h=>by
    simp only [jK,az,ip,bp,cg] at h;exact ⟨(h.1.resolve_left g).symm,h.2⟩
   by_cases n:((c.toNat:Nat):Int)=y
   ·cases E:nx up m l with
    | some r=>
     rw [E] at ih;obtain ⟨H,O,S,V,U⟩:=ih;simp only [nx,ab g,ae n,E,fg];refine ⟨by simp [H],λz s=>?_,by simp [jK,n,S],(f y u.symm H).2 V,λe x j p o=>?_⟩
     ·rcases cN.1 s with rfl | s
      ·exact hy
      ·exact O z s
     ·obtain ⟨w,a,rfl,i⟩:=d e x;obtain ⟨rfl,v⟩:=G w a p;rw [n] at o ⊢;exact (f y H i).2 (U a i (dM j) v ((f y u.symm i).1 o))
    | none=>
     rw [E] at ih;simp only [nx,ab g,ae n,E,jl];intro e x j p o;obtain ⟨w,a,rfl,i⟩:=d e x;obtain ⟨rfl,v⟩:=G w a p;rw [n] at o;exact ih a i (dM j) v ((f y u.symm i).1 o)
   ·have I:decide (((c.toNat:Nat):Int)>y)=up↔fA up y ((c.toNat:Nat):Int):=by
     cases up
     ·simp only [tN,fA];omega
     ·simp only [cg,fA];omega
    by_cases F:decide (((c.toNat:Nat):Int)>y)=up
    ·simp only [nx,ab g,ab n,ae F];refine ⟨by simp [t],λz s=>?_,by simp [jK,zl],(q u.symm t A B (λh=>n h.symm)).2 (I.1 F),λe x j p o=>?_⟩
     ·rcases cN.1 s with rfl | s
      ·exact T
      ·exact B z s
     ·obtain ⟨w,a,rfl,i⟩:=d e x;obtain ⟨rfl,v⟩:=G w a p;exact (f _ t i).2 (C4 up (sF K) i.symm (dM j) v)
    ·simp only [nx,ab g,ab n,ab F];intro e x j p o;obtain ⟨w,a,rfl,i⟩:=d e x;obtain ⟨rfl,v⟩:=G w a p;exact F (I.2 ((q u.symm i A (dM j) (λh=>n h.symm)).1 o))
 | [],_::_,_,h,_=>by simp at h
 | _::_,[],_,h,_=>by simp at h
def ap:aa->List Int->Nat
 | c::m,y::l=>if c=88\/((c.toNat:Nat):Int)=y then ap m l+1 else 0
 | _,_=>0
theorem XL:∀(m:aa) (l:List Int),ap m l<=m.length
 | [],_=>by simp [ap]
 | c::m,[]=>by simp [ap]
 | c::m,y::l=>by
  have:=XL m l;simp only [ap,aC];split<;>omega
theorem NI:∀(m:aa) (l:List Int),jK (m.take (ap m l)) (l.take (ap m l))=true
 | [],_=>by simp [ap,jK]
 | c::m,[]=>by simp [ap,jK]
 | c::m,y::l=>by
  have:=NI m l;simp only [ap];split
  ·rename_i h;simp only [np,jK,this,D3,ip,bp,cg];exact h
  ·rfl
theorem Ns:∀{m:aa} {l:List Int} {c:UInt8} {y:Int},m[ap m l]?=some c->l[ap m l]?=some y->¬c=88/\¬((c.toNat:Nat):Int)=y
 | [],_,c,y,h,_=>by simp at h
 | x::m,[],c,y,_,h=>by simp at h
 | x::m,z::l,c,y,b,a=>by
  by_cases h:x=88\/((x.toNat:Nat):Int)=z
  ·simp only [ap,ae h,HF] at b a;exact Ns b a
  ·simp only [ap,ab h,lR,av] at b a;subst b a;exact ⟨λe=>h (.inl e),λe=>h (.inr e)⟩
def bkn (up:Bool):aa->List Int->aa->Option (List Int)
 | c::m,y::d,m'=>
  match bkn up m d m' with
  | some r=>some (y::r)
  | none=>if c=88/\y≠lst up then some (stp up y::fil up (m++m')) else none
 | _,_,_=>none
theorem ED (up:Bool):∀{m m':aa} {d d':List Int},m.length=d.length->jK m d=true->
  nx up (m++m') (d++d')=match nx up m' d' with | some r=>some (d++r) | none=>bkn up m d m'
 | [],m',[],d',_,_=>by
  simp only [dS];cases nx up m' d'<;>rfl
 | c::m,m',y::d,d',e,b=>by
  simp only [aC,yn] at e;simp only [jK,az,ip,bp,cg] at b;have ih:=ED up (m':=m') (d':=d') e b.2;simp only [eK,nx,ih,bkn];by_cases a:c=88
  ·simp only [ae a];cases nx up m' d' with
   | some r=>rfl
   | none=>
    cases bkn up m d m' with
    | some r=>rfl
    | none=>
     by_cases hy:y=lst up
     ·simp [hy]
     ·simp [hy,a]
  ·simp only [ab a,ae (b.1.resolve_left a)];cases nx up m' d' with
   | some r=>rfl
   | none=>
    cases bkn up m d m' with
    | some r=>rfl
    | none=>simp [a]
 | [],_,_::_,_,h,_=>by simp at h
 | _::_,_,[],_,h,_=>by simp at h
theorem H3 (up:Bool) (c:UInt8) (y:Int):∀{m m':aa} {d:List Int},m.length=d.length->
  bkn up (m++[c]) (d++[y]) m'=if c=88/\y≠lst up then some (d++stp up y::fil up m') else bkn up m d (c::m')
 | [],m',[],_=>by simp [bkn]
 | x::m,m',z::d,a=>by
  simp only [aC,yn] at a;have ih:=H3 up c y (m':=m') a;simp only [eK,bkn,ih];by_cases h:c=88/\y≠lst up
  ·simp only [ae h]
  ·simp only [ab h,fQ,eK,dS]
 | [],_,_::_,h=>by simp at h
 | _::_,_,[],h=>by simp at h
def bki (up:Bool) (m:aa) (l:List Int):Nat->Option Nat
 | 0=>none
 | j+1=>if m[j]?=some 88/\l[j]?≠some (lst up) then some j else bki up m l j
theorem S5 (up:Bool) (m:aa) (l:List Int):∀{j a:Nat},bki up m l j=some a->a<j
 | 0,a,h=>by simp [bki] at h
 | j+1,a,h=>by
  simp only [bki] at h;split at h
  ·simp only [av] at h;omega
  ·have:=S5 up m l h;omega
theorem HG (up:Bool) (m:aa) (l:List Int) (d:m.length=l.length):∀j,j<=m.length->
  bkn up (m.take j) (l.take j) (m.drop j)=(bki up m l j).map λa=>l.take a++stp up (l.getD a 0)::fil up (m.drop (a+1))
 | 0,_=>by simp [bkn,bki]
 | j+1,h=>by
  obtain ⟨c,hc⟩:∃c,m[j]?=some c:=⟨m[j]'(by omega),aT (by omega)⟩;obtain ⟨y,hy⟩:∃c,l[j]?=some c:=⟨l[j]'(by omega),aT (by omega)⟩;have ih:=HG up m l d j (by omega);rw [cr hc] at ih;rw [qp,qp,hc,hy];simp only [Option.toList_some];rw [H3 up c y (by simp;omega),ih];have e:l.getD j 0=y:=by rw [E9,hy];rfl
  simp only [bki,hc,hy,ne_eq,av];by_cases b:c=88/\¬y=lst up
  ·rw [ae b,ae b,fg,e]
  ·rw [ab b,ab b]
section
variable {m:List UInt8} {l z:List Int}
theorem mK (A:m.length=l.length) (w:m.length<=18) (k f g:Int) (up:Bool):
  aw (f8 20000000) 20000000 (m,k,up,f,g,0,over z 0 l,over z 0 l)=some (m,k,up,f,g,((ap m l:Nat):Int),over z 0 l,over z 0 l):=by
 have:=fW (step:=f8 20000000) (λx=>x.1=m/\(0<=x.2.2.2.2.2.1/\x.2.2.2.2.2.1<=m.length)/\x.2.2.2.2.2.2.1=over z 0 l) (λx=>m.length - x.2.2.2.2.2.1.toNat)
  (λx=>(x.1,x.2.1,x.2.2.1,x.2.2.2.1,x.2.2.2.2.1,x.2.2.2.2.2.1+((ap (m.drop x.2.2.2.2.2.1.toNat) (l.drop x.2.2.2.2.2.1.toNat):Nat):Int),x.2.2.2.2.2.2.1,x.2.2.2.2.2.2.2)) ?_ 20000000 (m,k,up,f,g,0,over z 0 l,over z 0 l) ⟨rfl,⟨by simp,by simp⟩,rfl⟩ (by simp;omega)
 ·simpa using this
 rintro ⟨m',k,up,f,g,i,d,o⟩ ⟨s,⟨u,hi⟩,r⟩;simp only at s u hi r ⊢;subst s r;obtain ⟨j,rfl⟩:∃j:Nat,i=j:=⟨i.toNat,by omega⟩;simp only [bO];rcases aH j m'.length with q | n
 ·obtain ⟨c,hc⟩:∃c,m'[j]?=some c:=⟨m'[j],aT q⟩;obtain ⟨y,hy⟩:∃c,l[j]?=some c:=⟨l[j]'(by omega),aT (by omega)⟩;have t:(over z 0 l)[j]?=some y:=by rw [wO (by omega)];exact hy
  have p:(decide ((j:Int)<((List.length m':Nat):Int)))=true:=by simp;omega
  have v:IntKind.wrap .i64 ((j:Int)+1)=((j+1:Nat):Int):=by rw [wrap_i64 _ (by omega) (by omega)];omega
  rw [cr hc,cr hy];simp only [f8,p,ah,eJ hc,ob,B8,v,dk (show j<18 by omega),t,ap];by_cases a:c=88
  ·refine .inl ⟨(m',k,up,f,g,((j+1:Nat):Int),over z 0 l,o),by simp only [aq a,ah],⟨rfl,⟨by simp only;omega,by simp only;omega⟩,rfl⟩,by simp only [bO];omega,?_⟩;simp only [bO,ae (show c=88\/((c.toNat:Nat):Int)=y from .inl a)];congr 6;omega
  ·simp only [ar a,af];by_cases b:((c.toNat:Nat):Int)=y
   ·have e:(((c.toNat:Nat):Int)==y)=true:=by simpa using b
    refine .inl ⟨(m',k,up,f,g,((j+1:Nat):Int),over z 0 l,o),by simp only [e,ah],⟨rfl,⟨by simp only;omega,by simp only;omega⟩,rfl⟩,by simp only [bO];omega,?_⟩;simp only [bO,ae (show c=88\/((c.toNat:Nat):Int)=y from .inr b)];congr 6;omega
   ·have e:(((c.toNat:Nat):Int)==y)=false:=by simpa using b
    refine .inr ?_;simp only [e,af,ab (show ¬(c=88\/((c.toNat:Nat):Int)=y) from λh=>h.elim a b),Int.ofNat_zero,Int.add_zero,Int.natCast_zero]
 ·have p:(decide ((j:Int)<((List.length m':Nat):Int)))=false:=by simp;omega
  refine .inr ?_;simp only [f8,p,af];rw [jt n];simp [ap]
theorem LO (A:m.length=l.length) (u:m.length<=18) (f:Int) (up:Bool) (o:List Int) (i:Nat) (hi:i<=m.length):
  aw (cG 20000000) 20000000 (m,up,f,lst up,(i:Int),over z 0 l,o) =
   some (match bki up m l i with | none=>.inl (0,16) | some a=>.inr (m,up,f,((a:Nat):Int),o)):=by
 have:=fW (step:=cG 20000000) (λx=>x.1=m/\x.2.2.2.1=lst up/\(0<=x.2.2.2.2.1/\x.2.2.2.2.1<=m.length)/\x.2.2.2.2.2.1=over z 0 l) (λx=>x.2.2.2.2.1.toNat)
  (λx=>match bki up m l x.2.2.2.2.1.toNat with | none=>.inl (0,16) | some a=>.inr (x.1,x.2.1,x.2.2.1,((a:Nat):Int),x.2.2.2.2.2.2)) ?_ 20000000 (m,up,f,lst up,(i:Int),over z 0 l,o) ⟨rfl,rfl,⟨by simp only;omega,by simp only;omega⟩,rfl⟩ (by simp;omega)
 ·simpa using this
 rintro ⟨m',n,f,g,i,d,o⟩ ⟨r,p,⟨t,hi⟩,q⟩;simp only at r p t hi q ⊢;subst r q p;obtain ⟨j,rfl⟩:∃j:Nat,i=j:=⟨i.toNat,by omega⟩;simp only [bO];rcases j with _ | j
 ·refine .inr ?_;have w:IntKind.wrap .i64 (((0:Nat):Int) - 1)=-1:=wrap_i64 _ (by omega) (by omega);simp only [cG,w,show decide ((-1:Int)<0)=true from rfl,ah,bki]
 ·have w:IntKind.wrap .i64 (((j+1:Nat):Int) - 1)=(j:Int):=by rw [wrap_i64 _ (by omega) (by omega)];omega
  have v:decide ((j:Int)<0)=false:=by simp
  obtain ⟨c,hc⟩:∃c,m'[j]?=some c:=⟨m'[j]'(by omega),aT (by omega)⟩;obtain ⟨y,hy⟩:∃c,l[j]?=some c:=⟨l[j]'(by omega),aT (by omega)⟩;have s:(over z 0 l)[j]?=some y:=by rw [wO (by omega)];exact hy
  simp only [cG,w,v,af,eJ hc,ob,B8,dk (show j<18 by omega),s,bki,hc,hy,av,ne_eq];by_cases b:c=88
  ·by_cases k:y=lst up
   ·have e:(y != lst up)=false:=by simpa using k
    refine .inl ⟨(m',n,f,lst up,(j:Int),over z 0 l,o),by simp only [aq b,ah,e,af],⟨rfl,rfl,⟨by simp only;omega,by simp only;omega⟩,rfl⟩,by simp only [bO];omega,?_⟩;simp only [bO,ab (show ¬(c=88/\¬y=lst up) from λh=>h.2 k)]
   ·have e:(y != lst up)=true:=by simpa using k
    refine .inr ?_;simp only [aq b,ah,e,ae (show c=88/\¬y=lst up from ⟨b,k⟩)]
  ·refine .inl ⟨(m',n,f,lst up,(j:Int),over z 0 l,o),by simp only [ar b,af],⟨rfl,rfl,⟨by simp only;omega,by simp only;omega⟩,rfl⟩,by simp only [bO];omega,?_⟩;simp only [bO,ab (show ¬(c=88/\¬y=lst up) from λh=>b h.1)]
theorem Eo (r:m.length<=18) (up:Bool) (d:List Int) (e:d.length=18) (i:Nat) (hi:i<=m.length):
  aw (bA 20000000) 20000000 (m,fst up,(i:Int),d)=some (m,over d i (fil up (m.drop i))):=by
 have:=fW (step:=bA 20000000) (λx=>x.1=m/\x.2.1=fst up/\(0<=x.2.2.1/\x.2.2.1<=m.length)/\x.2.2.2.length=18) (λx=>m.length - x.2.2.1.toNat)
  (λx=>(m,over x.2.2.2 x.2.2.1.toNat (fil up (m.drop x.2.2.1.toNat)))) ?_ 20000000 (m,fst up,(i:Int),d) ⟨rfl,rfl,⟨by simp only;omega,by simp only;omega⟩,e⟩ (by simp;omega)
 ·simpa using this
 rintro ⟨m',f,i,d⟩ ⟨o,l,⟨p,hi⟩,e⟩;simp only at o l p hi e ⊢;subst o l;obtain ⟨j,rfl⟩:∃j:Nat,i=j:=⟨i.toNat,by omega⟩;simp only [bO];rcases aH j m'.length with k | g
 ·obtain ⟨c,hc⟩:∃c,m'[j]?=some c:=⟨m'[j],aT k⟩;have n:j<18:=by omega
  have h:(decide ((j:Int)<((List.length m':Nat):Int)))=true:=by simp;omega
  have q:IntKind.wrap .i64 ((j:Int)+1)=((j+1:Nat):Int):=by rw [wrap_i64 _ (by omega) (by omega)];omega
  have s:Nat.blt j 18=true:=cP n;have b:∀c:UInt8,fil up (c::m'.drop (j+1))=(cond (decide (c=88)) (fst up) ((c.toNat:Nat):Int))::fil up (m'.drop (j+1)):=λ_=>rfl;rw [cr hc,b];simp only [bA,h,ah,eJ hc,ob,B8,dk n,s,q];by_cases a:c=88
  ·refine .inl ⟨(m',fst up,((j+1:Nat):Int),(d.set j ((c.toNat:Nat):Int)).set j (fst up)),by simp only [aq a,ah],⟨rfl,rfl,⟨by simp only;omega,by simp only;omega⟩,by simpa using e⟩,by simp only [bO];omega,?_⟩;simp only [bO,aq a,ah];rw [List.set_set,CX _ _ _ _ (by omega)]
  ·refine .inl ⟨(m',fst up,((j+1:Nat):Int),d.set j ((c.toNat:Nat):Int)),by simp only [ar a,af],⟨rfl,rfl,⟨by simp only;omega,by simp only;omega⟩,by simpa using e⟩,by simp only [bO];omega,?_⟩;simp only [bO,ar a,af];rw [CX _ _ _ _ (by omega)]
 ·have h:(decide ((j:Int)<((List.length m':Nat):Int)))=false:=by simp;omega
  refine .inr ?_;simp only [bA,h,af];rw [jt g];simp [fil,IF]
theorem Fa (z l F:List Int) (i:Nat) (h:i+F.length=l.length):over (over z 0 l) i F=over z 0 (l.take i++F):=by
 unfold over;simp only [nj,dS,dc,aO,cV,tL (show i<=l.length by omega),h];rw [vp (by omega),List.drop_append_of_le_length (by omega),List.drop_of_length_le (aX l.length)];simp
end
theorem Me {m:aa} (Y:chk m=0) (up:Bool) (k:Int) (V:0<=k) (X:k<10 ^ m.length):
  dI 20000000 m k up=some (match nx up m (dg m.length k) with | some r=>(vl r,0) | none=>(0,16)):=by
 obtain ⟨g,_,J⟩:=oi Y;have hp:=Ef m.length g;have f:=xe m.length k;have n:=uR m.length k;have S:=QH m.length k V X;have N:=VK up J f.symm n;have j:=Rn m k g V (by omega);generalize dg m.length k=l at f n S N j ⊢;have o:(over [0,0,0,0,0,0,0,0,0,0,0,0,0,0,0,0,0,0] 0 l).length=18:=by rw [QD _ _ _ (by simp;omega)];rfl
 have v:∀r:List Int,nx up m l=some r->gL 20000000 m (over [0,0,0,0,0,0,0,0,0,0,0,0,0,0,0,0,0,0] 0 r)=some (vl r):=by
  intro r hr;rw [hr] at N;obtain ⟨i1,U,_⟩:=N;rw [QN _ g i1 U,CE U]
 have A:=XL m l;have E:=NI m l;have b:=ED up (m:=m.take (ap m l)) (m':=m.drop (ap m l)) (d:=l.take (ap m l)) (d':=l.drop (ap m l)) (by simp;omega) E;rw [ur,ur] at b;have h:mq 20000000 m k=some (over [0,0,0,0,0,0,0,0,0,0,0,0,0,0,0,0,0,0] 0 l):=j;generalize hzz:([0,0,0,0,0,0,0,0,0,0,0,0,0,0,0,0,0,0]:List Int)=z at o v h;rcases aH (ap m l) m.length with M | hge
 ·obtain ⟨c,hc⟩:∃c,m[ap m l]?=some c:=⟨m[ap m l],aT M⟩;obtain ⟨y,hy⟩:∃c,l[ap m l]?=some c:=⟨l[ap m l]'(by omega),aT (by omega)⟩;obtain ⟨D,Q⟩:=Ns hc hy;have B:(over z 0 l)[ap m l]?=some y:=by rw [wO (by omega)];exact hy
  have q:(((ap m l:Nat):Int)==((List.length m:Nat):Int))=false:=by simp;omega
  have C:ap m l<18:=by omega
  have P:fil up (m.drop (ap m l))=((c.toNat:Nat):Int)::fil up (m.drop (ap m l+1)):=by
   rw [cr hc];simp [fil,D]
  have H:=HG up m l f.symm (ap m l) A;have K:nx up (m.drop (ap m l)) (l.drop (ap m l))=if decide (((c.toNat:Nat):Int)>y)=up then some (fil up (m.drop (ap m l))) else none:=by
   rw [P,cr hc,cr hy];simp only [nx,ab D,ab Q]
  rw [K] at b;by_cases p:decide (((c.toNat:Nat):Int)>y)=up
  ·rw [ae p] at b;simp only at b;have u:=v _ b;rw [b];simp only [];rw [<-Fa z l _ _ (by rw [Br,bN];omega)] at u;have G:=Eo g up _ o (ap m l) A;cases up
   ·have i:=mK (z:=z) f.symm g k 57 48 false;have l2':aw (bA 20000000) 20000000 (m,57,((ap m l:Nat):Int),over z 0 l)=_:=G;simp only [dI,jx,ah,h,ob,i,q,af,eJ hc,dk C,B,p,vG,du,l2',u]
   ·have i:=mK (z:=z) f.symm g k 48 57 true;have l2':aw (bA 20000000) 20000000 (m,48,((ap m l:Nat):Int),over z 0 l)=_:=G;simp only [dI,du,ah,h,ob,i,q,af,eJ hc,dk C,B,p,vG,l2',u]
  ·rw [ab p] at b;simp only [H] at b;have s:(!(decide (((c.toNat:Nat):Int)>y)==up))=true:=by
    cases up<;>cases hh:decide (((c.toNat:Nat):Int)>y)<;>simp_all
   have t:=LO (z:=z) f.symm g (fst up) up (over z 0 l) (ap m l) A;cases I:bki up m l (ap m l) with
   | none=>
    rw [I] at b t;simp only [jl] at b;rw [b];simp only [] at t ⊢;cases up
    ·have i:=mK (z:=z) f.symm g k 57 48 false;have l1':aw (cG 20000000) 20000000 (m,false,57,48,((ap m l:Nat):Int),over z 0 l,over z 0 l)=_:=t;simp only [dI,jx,ah,h,ob,i,q,af,eJ hc,dk C,B,s,l1']
    ·have i:=mK (z:=z) f.symm g k 48 57 true;have l1':aw (cG 20000000) 20000000 (m,true,48,57,((ap m l:Nat):Int),over z 0 l,over z 0 l)=_:=t;simp only [dI,du,ah,h,ob,i,q,af,eJ hc,dk C,B,s,l1']
   | some a=>
    have ha:=S5 up m l I;obtain ⟨w,L⟩:∃c,l[a]?=some c:=⟨l[a]'(by omega),aT (by omega)⟩;have F:(over z 0 l)[a]?=some w:=by rw [wO (by omega)];exact L
    have R:l.getD a 0=w:=by rw [E9,L];rfl
    have Z:=n w (fc L);have x:a<18:=by omega
    have W:Nat.blt a 18=true:=cP x;have T:IntKind.wrap .i64 ((a:Int)+1)=((a+1:Nat):Int):=by rw [wrap_i64 _ (by omega) (by omega)];omega
    rw [I] at b t;simp only [fg,R] at b;have u:=v _ b;rw [b];simp only [] at t ⊢;rw [<-Fa z l _ _ (by rw [aC,Br,bN];omega),<-CX _ _ _ _ (by omega)] at u;have G:=Eo g up ((over z 0 l).set a (stp up w)) (by simpa using o) (a+1) (by omega);cases up
    ·have i:=mK (z:=z) f.symm g k 57 48 false;have l1':aw (cG 20000000) 20000000 (m,false,57,48,((ap m l:Nat):Int),over z 0 l,over z 0 l)=some (.inr (m,false,57,((a:Nat):Int),over z 0 l)):=t;have l2':aw (bA 20000000) 20000000 (m,57,((a+1:Nat):Int),(over z 0 l).set a (w - 1))=_:=G;have O:IntKind.wrap .u8 (w - 1)=w - 1:=fU _ (by omega) (by omega);simp only [dI,jx,ah,h,ob,i,q,af,eJ hc,dk C,B,s,l1',dk x,F,W,T,O,l2',u]
    ·have i:=mK (z:=z) f.symm g k 48 57 true;have l1':aw (cG 20000000) 20000000 (m,true,48,57,((ap m l:Nat):Int),over z 0 l,over z 0 l)=some (.inr (m,true,48,((a:Nat):Int),over z 0 l)):=t;have l2':aw (bA 20000000) 20000000 (m,48,((a+1:Nat):Int),(over z 0 l).set a (w+1))=_:=G;have O:IntKind.wrap .u8 (w+1)=w+1:=fU _ (by omega) (by omega);simp only [dI,du,ah,h,ob,i,q,af,eJ hc,dk C,B,s,l1',dk x,F,W,T,O,l2',u]
 ·have e:ap m l=m.length:=by omega
  rw [e,yb,<-f,yb,nq] at b;simp only [nx,kR] at b;have q:(((ap m l:Nat):Int)==((List.length m:Nat):Int))=true:=by rw [e];simp
  rw [b];simp only [S];cases up
  ·have i:=mK (z:=z) f.symm g k 57 48 false;simp only [dI,jx,ah,h,ob,i,q]
  ·have i:=mK (z:=z) f.symm g k 48 57 true;simp only [dI,du,af,h,ob,i,q,ah]
def near (up:Bool) (m:aa) (k:Int):Option Int->Prop
 | some R=>hasM m R=true/\fA up k R/\∀e,hasM m e=true->fA up k e->fA up R e
 | none=>∀e,hasM m e=true->¬fA up k e
def res (o:Option Int):Int×Int:=match o with | some r=>(r,0) | none=>(0,16)
theorem oZ {m:aa} {e:Int} (h:hasM m e=true):(dg m.length e).length=m.length/\digl (dg m.length e)/\jK m (dg m.length e)=true/\vl (dg m.length e)=e/\0<=e/\e<10 ^ m.length:=by
 unfold hasM at h;simp only [az,cg] at h;exact ⟨xe _ _,uR _ _,h.2.2,QH _ _ h.1 h.2.1,h.1,h.2.1⟩
theorem TB {m:aa} {r:List Int} (d:r.length=m.length) (b:digl r) (e:jK m r=true):hasM m (vl r)=true:=by
 have a:=wV b;have c:=ZE b;rw [d] at a c;unfold hasM;rw [c,e,aq a.1,aq a.2];rfl
theorem yN {m:aa} (n:chk m=0) (up:Bool) (k:Int) (q:0<=k) (l:k<10 ^ m.length):∃o,dI 20000000 m k up=some (res o)/\near up m k o:=by
 obtain ⟨w,_,f⟩:=oi n;have a:=VK up f (xe m.length k).symm (uR m.length k);have c:=QH m.length k q l;refine ⟨(nx up m (dg m.length k)).map vl,?_,?_⟩
 ·rw [Me n up k q l];cases nx up m (dg m.length k)<;>rfl
 ·cases hx:nx up m (dg m.length k) with
  | none=>
   rw [hx] at a;intro e h i;obtain ⟨d,j,g,b,_⟩:=oZ h;exact a _ d j g (by rw [c,b];exact i)
  | some r=>
   rw [hx] at a;obtain ⟨v,s,t,p,u⟩:=a;refine ⟨TB v s t,by rw [c] at p;exact p,λe h i=>?_⟩;obtain ⟨d,j,g,b,_⟩:=oZ h;have:=u _ d j g (by rw [c,b];exact i);rwa [b] at this
theorem Iz {m:aa} {e:Int} (h:hasM m e=true):0<=idx m.reverse e/\idx m.reverse e<10 ^ cnt m/\nth m.reverse (idx m.reverse e)=e:=by
 rw [GG] at h;simp only [az,cg] at h;obtain ⟨k0,k1,k2⟩:=h;have:=zf m.reverse e k0;rw [tZ] at this;exact ⟨this.1,this.2,M4 k0 (by rw [vP];exact k1) k2⟩
section
variable {m:List UInt8} (hm:chk m=0)
include hm
theorem KY {i j:Int} (c:0<=i) (b:i<=j) (d:j<10 ^ cnt m):nth m.reverse i<=nth m.reverse j:=by
 obtain ⟨e,_,a⟩:=oi hm;rcases Int.lt_or_eq_of_le b with h | rfl
 ·exact Int.le_of_lt (B6 (zT a) i j c h (by rw [tZ];exact d))
 ·exact uZ _
theorem Dm (k:Int):m6 20000000 m k=some (decide (0<=k/\k<10 ^ m.length)):=by
 obtain ⟨b,_,c⟩:=oi hm;simp only [m6,Qx m.length b,ob];by_cases a:0<=k
 ·have d0:decide (k>=0)=true:=by simpa using a
  simp only [d0,ah,a,kP,o9]
 ·have d0:decide (k>=0)=false:=by simpa using a
  simp only [d0,af,a,xi,oC]
theorem OF (k:Int):∃o,sK 20000000 m k=some (res o)/\near true m k o:=by
 obtain ⟨n,_,c⟩:=oi hm;have q:((0:Int) != 0)=false:=by simp
 simp only [sK,mA 20000000 m (by omega),hm,nE,q,af,Dm hm];by_cases b:k<0
 ·refine ⟨some (nth m.reverse 0),by simp only [aq b,ah,Qv hm,nE,res],HI hm (by omega),?_,λe d f=>?_⟩
  ·have:=(rZ (zT c) 0 (by omega)).1;simp only [fA];omega
  ·obtain ⟨p,g,r⟩:=Iz d;have:=KY hm (uZ 0) p g;simp only [fA];omega
 ·by_cases a:k<10 ^ m.length
  ·obtain ⟨o,j,l⟩:=yN hm true k (by omega) a;exact ⟨o,by simp only [ar b,af,aq (show 0<=k/\k<10 ^ m.length from ⟨by omega,a⟩),du,j,nE],l⟩
  ·refine ⟨none,by simp only [ar b,af,ar (show ¬(0<=k/\k<10 ^ m.length) from λh=>a h.2),jx,ah,res],λe d f=>?_⟩;obtain ⟨_,_,_,_,_,i⟩:=oZ d;simp only [fA] at f;omega
theorem MC (k:Int):∃o,sQ 20000000 m k=some (res o)/\near false m k o:=by
 obtain ⟨p,_,c⟩:=oi hm;have q:((0:Int) != 0)=false:=by simp
 simp only [sQ,mA 20000000 m (by omega),hm,nE,q,af,Dm hm];by_cases b:k<0
 ·refine ⟨none,by simp only [aq b,ah,res],λe d f=>?_⟩;obtain ⟨_,_,_,_,i,_⟩:=oZ d;simp only [fA] at f;omega
 ·by_cases a:k<10 ^ m.length
  ·obtain ⟨o,j,l⟩:=yN hm false k (by omega) a;exact ⟨o,by simp only [ar b,af,aq (show 0<=k/\k<10 ^ m.length from ⟨by omega,a⟩),du,j,nE],l⟩
  ·have g:=uO (cnt m);refine ⟨some (nth m.reverse (10 ^ cnt m - 1)),by simp only [ar b,af,ar (show ¬(0<=k/\k<10 ^ m.length) from λh=>a h.2),jx,ah,Ha hm,nE,res],HI hm (by omega),?_,λe d f=>?_⟩
   ·have:=(rZ (zT c) (10 ^ cnt m - 1) (by omega)).2;rw [vP] at this;simp only [fA];omega
   ·obtain ⟨n,s,r⟩:=Iz d;have:=KY hm n (show idx m.reverse e<=10 ^ cnt m - 1 by omega) (by omega);simp only [fA];omega
end
end Go.Sh.Mk
namespace Go.Sh
open Go.Abs
def fitN (s:aa) (g:Nat):List Nat:=(List.range' 1 g).filter (agr s)
def uU (l:List Nat):List Int:=l.map λk:Nat=>(k:Int)
theorem Ei (l:List Nat):(uU l).length=l.length:=by simp [uU]
theorem EE (c:UInt8) {j:Nat} (a:j<10):(IntKind.wrap .i64 (IntKind.wrap .u8 (((c.toNat:Nat):Int) - 48))==((j:Nat):Int))=(c==UInt8.ofNat (48+j)):=by
 have hc:=c.toNat_lt;have d:=A8 (((c.toNat:Nat):Int) - 48);rw [wrap_i64 _ (by omega) (by omega),J1,tz,bp,bp];have b:(UInt8.ofNat (48+j)).toNat=48+j:=by simp;omega
 constructor
 ·intro h;apply gD.1;omega
 ·rintro rfl;omega
theorem M7 (n:Nat) (a b:UInt8) {k:Nat} (l:k<=31):ln n [a,b] (k:Int)=some (agr [a,b] k):=by
 have f:IntKind.wrap .i64 (Int.tdiv (k:Int) 10)=((k / 10:Nat):Int):=by
  rw [show Int.tdiv (k:Int) 10=((k / 10:Nat):Int) from rfl,wrap_i64 _ (by omega) (by omega)]
 have j:Int.tmod (k:Int) 10=((k%10:Nat):Int):=rfl;have s0:sx [a,b] 0=some a:=rfl;have d:sx [a,b] 1=some b:=rfl;have c:(88:Int)=((88:Nat):Int):=rfl;unfold ln;simp only [s0,d,ob,f,j];rw [EE a (show k / 10<10 by omega),EE b (show k%10<10 by omega),c,vT (by omega),vT (by omega)];show _=some ((a==UInt8.ofNat 88||a==UInt8.ofNat (48+k / 10))&&(b==UInt8.ofNat 88||b==UInt8.ofNat (48+k%10)));generalize (a==UInt8.ofNat 88)=e;generalize (b==UInt8.ofNat 88)=i;generalize (a==UInt8.ofNat (48+k / 10))=h;generalize (b==UInt8.ofNat (48+k%10))=g;cases e<;>cases i<;>cases h<;>cases g<;>rfl
theorem room {k:Nat} (h:k<=60000000):Nat.ble (k+1) eW=true:=cP (by unfold eW;omega)
theorem Io {X Y:Type} {step:X->Option (X⊕Y)} {f:Nat->List Int->X} {y:List Int->Y} {p:Nat->Bool} {g:Nat} (e:g<=1000)
  (h:∀i out,i<g->out.length<=1000->step (f i out)=some (.inl (f (i+1) (if p (i+1) then out++[((i+1:Nat):Int)] else out))))
  (d:∀out,step (f g out)=some (.inr (y out))) {N:Nat} (a:g<N):aw step N (f 0 [])=some (y (uU ((List.range' 1 g).filter p))):=by
 have c:∀(r i:Nat) (out:List Int),i+r=g->out.length<=i->∀N,r<N->aw step N (f i out)=some (y (out++uU ((List.range' (i+1) r).filter p))):=by
  intro r
  induction r with
  | zero=>
   intro i out hi b N a;obtain ⟨N,rfl⟩:∃q,N=q+1:=⟨N - 1,by omega⟩;obtain rfl:i=g:=by omega
   rw [aw,d];simp [uU]
  | succ r ih=>
   intro i out hi b N a;obtain ⟨N,rfl⟩:∃q,N=q+1:=⟨N - 1,by omega⟩;rw [aw,h i out (by omega) (by omega)];show aw step N _=_;by_cases hp:p (i+1)=true
   ·rw [ae hp,ih (i+1) _ (by omega) (by simp;omega) N (by omega),yG,SE hp];simp [uU]
   ·rw [ab hp,ih (i+1) _ (by omega) (by omega) N (by omega),yG,Td hp]
 have:=c g 0 [] (by omega) (by simp) N a;simpa using this
theorem NQ (n:Nat) (e:100<n) (a b:UInt8) {g:Nat} (h:g<=31):fE n [a,b] (g:Int)=some (uU (fitN [a,b] g)):=by
 unfold fE
 have:=Io (step:=gg n) (f:=λi out=>([a,b],(g:Int),(i:Int),out)) (y:=λl=>l) (p:=agr [a,b]) (g:=g) (by omega)
  (λi out hi j=>by
   have d:IntKind.wrap .i64 ((i:Int)+1)=((i+1:Nat):Int):=by rw [wrap_i64 _ (by omega) (by omega)];omega
   unfold gg;simp only [d];rw [aq (show (i:Int)<(g:Int) by omega),M7 n a b (by omega),room (by omega)];by_cases hp:agr [a,b] (i+1)=true
   ·rw [ae hp];simp only [ob,hp,ah]
   ·rw [ab hp];rw [Jb] at hp;simp only [ob,hp,ah,af])
  (λout=>by
   unfold gg;simp only [ar (show ¬(g:Int)<(g:Int) by omega),af])
  (N:=n) (by omega)
 have c:aw (gg n) n ([a,b],(g:Int),0,([]:List Int))=_:=this;rw [c];rfl
def monI (m:aa):List Int:=if m=[] then [0] else if 0<sea m then [sea m] else uU (fitN m 12)
def dayI (d:aa):List Int:=if d=[] then [0] else uU (fitN d 31)
theorem gi {l:aa} (h:l≠[]):(l==([]:aa))=false:=aI.2 h
theorem len2 {s:aa} (h:s.length=2):∃a b,s=[a,b]:=by
 match s,h with
 | [a,b],_=>exact ⟨a,b,rfl⟩
theorem YZ (n:Nat) (j:100<n) (g l:Bool) (dg:aa) (x q:Int) (m d:aa) (k0 k1 k2:Int) (k:m=[]\/m.length=2) (o:d=[]\/d.length=2):
  qM n g l dg x q m d k0 k1 k2=some (g,l,dg,x,q,m,d,k0,k1,k2,monI m,dayI d):=by
 have f:m.length<=18:=by rcases k with h | h;(rw [h];simp);omega
 have i:d≠[]->fE n d 31=some (dayI d):=λh=>by
  obtain ⟨a,b,rfl⟩:=len2 (o.resolve_left h);rw [show (31:Int)=((31:Nat):Int) from rfl,NQ n j a b (by omega)];unfold dayI;rw [ab h]
 have c:d=[]->dayI d=[0]:=λh=>by unfold dayI;rw [ae h]
 have p:m≠[]->¬0<sea m->fE n m 12=some (monI m):=λh hs=>by
  obtain ⟨a,b,rfl⟩:=len2 (k.resolve_left h);rw [show (12:Int)=((12:Nat):Int) from rfl,NQ n j a b (by omega)];unfold monI;rw [ab h,ab hs]
 unfold qM;rw [rA n g l dg x q m d k0 k1 k2 f];simp only [ob];by_cases hs:0<sea m
 ·have e:m≠[]:=by rintro rfl;exact absurd hs (by decide)
  have hm':monI m=[sea m]:=by unfold monI;rw [ab e,ae hs]
  rw [aq hs];by_cases h:d=[]
  ·rw [h,<-h,c h,hm',h];rfl
  ·rw [gi h,i h,hm'];rfl
 ·rw [ar hs];by_cases e:m=[]
  ·have hm':monI m=[0]:=by unfold monI;rw [ae e]
   by_cases h:d=[]
   ·rw [c h,hm',h,e];rfl
   ·rw [gi h,i h,hm',e];rfl
  ·rw [gi e,p e hs];by_cases h:d=[]
   ·rw [c h,h];rfl
   ·rw [gi h,i h];rfl
theorem J0 (n:Nat) (b:100<n) (g l:Bool) (dg:aa) (x q:Int) (m d:aa) (k0 k1 k2:Int):jJ n g l dg x q m d k0 k1 k2=some (monI m):=by
 unfold jJ;by_cases a:m=[]
 ·unfold monI;rw [ae a,a];rfl
 ·rw [gi a,mn n b];simp only [ob,af];unfold monI;rw [ab a];by_cases hs:0<sea m
  ·rw [ae hs,aq (show sea m>0 from hs)];rfl
  ·rw [ab hs,ar (show ¬sea m>0 from hs)]
   have:=Io (step:=dU n) (f:=λi out=>(((i+1:Nat):Int),g,l,dg,x,q,m,d,k0,k1,k2,out)) (y:=λl=>l) (p:=agr m) (g:=12) (by omega)
    (λi out hi h=>by
     have e:IntKind.wrap .i64 (((i+1:Nat):Int)+1)=((i+1+1:Nat):Int):=by rw [wrap_i64 _ (by omega) (by omega)];omega
     unfold dU;simp only [d4,d8,e];rw [aq (show ((i+1:Nat):Int)<=12 by omega),vq n m (i+1) (by omega),room (by omega)];by_cases hp:agr m (i+1)=true
     ·rw [ae hp,ae hp];rfl
     ·rw [ab hp,ab hp];rfl)
    (λout=>by
     unfold dU;simp only [d4,d8,ar (show ¬((12+1:Nat):Int)<=12 by omega),af])
    (N:=n) (by omega)
   have c:aw (dU n) n (1,g,l,dg,x,q,m,d,k0,k1,k2,([]:List Int))=_:=this;rw [c];rfl
def tP (y:Int):Bool:=decide (y%4=0)&&(decide (y%100≠0)||decide (y%400=0))
def lenI (y m:Int):Int:=if m=4\/m=6\/m=9\/m=11 then 30 else if m=2 then (if tP y then 29 else 28) else 31
theorem LU (y:Int) {b:Int} (c:0<b):(Int.tmod y b==0)=decide (y%b=0):=by
 rw [tz,bp,GE];have h:=Pe (a:=y) (b:=b);have g:=Nx y (show b≠0 by omega);have f:=LK y c;by_cases hc:0<=y\/b∣y
 ·rw [ae hc] at h;omega
 ·rw [ab hc] at h;have d:¬b∣y:=λe=>hc (.inr e);have:y%b≠0:=λe=>d (NW e);omega
theorem Bt (n:Nat) (y m:Int):eQ n y m=some (lenI y m):=by
 have a:(Int.tmod y 100 != 0)=decide (y%100≠0):=by
  rw [bne,LU y (by omega)];by_cases h:y%100=0<;>simp [h]
 unfold eQ;rw [LU y (by omega),LU y (by omega),a];have body:(cond (m==2) (cond (decide (y%4=0)) (cond (decide (y%100≠0)) (some (29:Int)) (cond (decide (y%400=0)) (some 29) (some 28))) (some 28)) (some 31))=some (if m=2 then (if tP y=true then 29 else 28) else 31):=by
  rw [gU];by_cases c:m=2
  ·rw [ae c,ae c];unfold tP;cases decide (y%4=0)<;>cases decide (y%100≠0)<;>cases decide (y%400=0)<;>rfl
  ·rw [ab c,ab c]
 rw [body];unfold lenI;by_cases d:m=4
 ·subst d;rfl
 ·by_cases e:m=6
  ·subst e;rfl
  ·by_cases f:m=9
   ·subst f;rfl
   ·by_cases b:m=11
    ·subst b;rfl
    ·rw [aI.2 d,aI.2 e,aI.2 f,aI.2 b,ab (show ¬(m=4\/m=6\/m=9\/m=11) by omega)];rfl
theorem yv (n:Nat) {y:Int} (h:-20000000000000000<=y/\y<=20000000000000000):fG n y=some (1+(y - 1) / 4 - (y - 1) / 100+(y - 1) / 400):=by
 unfold fG;rw [wrap_i64 (y - 1) (by omega) (by omega),xL n (by omega) (by omega) (by omega) (by omega),xL n (by omega) (by omega) (by omega) (by omega),xL n (by omega) (by omega) (by omega) (by omega)];show some _=some _;have f:-5000000000000001<=(y - 1) / 4/\(y - 1) / 4<=5000000000000001:=by omega
 have e:-5000000000000001<=(y - 1) / 100/\(y - 1) / 100<=5000000000000001:=by omega
 have d:-5000000000000001<=(y - 1) / 400/\(y - 1) / 400<=5000000000000001:=by omega
 generalize (y - 1) / 4=a at *;generalize (y - 1) / 100=b at *;generalize (y - 1) / 400=c at *;simp only [];rw [wrap_i64 (1*a) (by omega) (by omega),wrap_i64 (-1*b) (by omega) (by omega),wrap_i64 (1*c) (by omega) (by omega),wrap_i64 (1+1*a) (by omega) (by omega),wrap_i64 (1+1*a+-1*b) (by omega) (by omega),wrap_i64 _ (by omega) (by omega)];congr 1;omega
theorem Qi (y:Int):(1+y / 4 - y / 100+y / 400>1+(y - 1) / 4 - (y - 1) / 100+(y - 1) / 400)↔tP y=true:=by
 unfold tP;simp only [az,ip,cg];omega
theorem U2 (n:Nat) {y:Int} (h:ej y):kV n y=some (tP y,0):=by
 unfold kV;have h':=h;unfold ej at h';rw [gA,ae h,wrap_i64 (y+1) (by omega) (by omega),yv n (by omega),yv n (by omega),show y+1 - 1=y by omega];have b:=Qi y;show some (decide (1+y / 4 - y / 100+y / 400>1+(y - 1) / 4 - (y - 1) / 100+(y - 1) / 400),(0:Int))=_;by_cases a:tP y=true
 ·rw [a,aq (b.2 a)]
 ·rw [Jb] at a;rw [a,ar (λe=>by rw [b.1 e] at a;cases a)]
theorem xX (n:Nat) {y:Int} (h:ej y) {m:Nat} (d:1<=m) (c:m<=12):eP n y (m:Int)=some (lenI y (m:Int)):=by
 unfold eP;rw [U2 n h];show cond (tP y&&((m:Int)==2)) _ _=_;have a:IntKind.wrap .i64 ((m:Int) - 1)=((m - 1:Nat):Int):=by rw [wrap_i64 _ (by omega) (by omega)];omega
 rw [a,dk (show m - 1<12 by omega)];have b:m=1\/m=2\/m=3\/m=4\/m=5\/m=6\/m=7\/m=8\/m=9\/m=10\/m=11\/m=12:=by omega
 rcases b with rfl | rfl | rfl | rfl | rfl | rfl | rfl | rfl | rfl | rfl | rfl | rfl<;>unfold lenI<;>cases tP y<;>rfl
theorem OB (n:Nat) {y:Int} (h:ej y) {m:Nat} (b:1<=m) (a:m<=12):qb n y (m:Int)=some (lenI y (m:Int),0):=by
 unfold qb;rw [Hz n h b a,xX n h b a];rfl
theorem jN (y m:Int):28<=lenI y m/\lenI y m<=31:=by
 unfold lenI;split
 ·omega
 ·split
  ·split<;>omega
  ·omega
def wz (d:aa) (y m:Int):Int:=if d=[] then 0 else lenI y m
def wg (d:aa) (y a:Int):List (Int×Int×Int):=((dayI d).filter λk=>decide (k<=wz d y a)).map λk=>(y,a,k)
def wu (m d:aa) (y:Int):List (Int×Int×Int):=(monI m).flatMap (wg d y)
theorem Of {X Y A:Type} {step:X->Option (X⊕Y)} {f:Nat->List A->X} {y:List A->Y} {p:Nat->Bool} {e:Nat->A} {g:Nat} (a:List A)
  (h:∀i out,i<g->out.length<=a.length+i->step (f i out)=some (.inl (f (i+1) (if p (i+1) then out++[e (i+1)] else out))))
  (j:∀out,step (f g out)=some (.inr (y out))) {N:Nat} (b:g<N):aw step N (f 0 a)=some (y (a++((List.range' 1 g).filter p).map e)):=by
 have d:∀(r i:Nat) (out:List A),i+r=g->out.length<=a.length+i->∀N,r<N->aw step N (f i out)=some (y (out++((List.range' (i+1) r).filter p).map e)):=by
  intro r
  induction r with
  | zero=>
   intro i out hi c N b;obtain ⟨N,rfl⟩:∃q,N=q+1:=⟨N - 1,by omega⟩;obtain rfl:i=g:=by omega
   rw [aw,j];simp
  | succ r ih=>
   intro i out hi c N b;obtain ⟨N,rfl⟩:∃q,N=q+1:=⟨N - 1,by omega⟩;rw [aw,h i out (by omega) (by omega)];show aw step N _=_;by_cases hp:p (i+1)=true
   ·rw [ae hp,ih (i+1) _ (by omega) (by simp;omega) N (by omega),yG,SE hp];simp
   ·rw [ab hp,ih (i+1) _ (by omega) (by omega) N (by omega),yG,Td hp]
 exact d g 0 a (by omega) (by omega) N b
theorem Lo {X Y A B:Type} {step:X->Option (X⊕Y)} {f:Nat->List A->X} {y:List A->Y} {F:B->List A} {L:List B} {c:Nat} (hc:∀b∈L,(F b).length<=c)
  (h:∀i b out,L[i]?=some b->out.length<=c*i->step (f i out)=some (.inl (f (i+1) (out++F b))))
  (j:∀out,step (f L.length out)=some (.inr (y out))) {N:Nat} (a:L.length<N):aw step N (f 0 [])=some (y (L.flatMap F)):=by
 have g:∀(r i:Nat) (out:List A),i+r=L.length->out.length<=c*i->∀N,r<N->aw step N (f i out)=some (y (out++(L.drop i).flatMap F)):=by
  intro r
  induction r with
  | zero=>
   intro i out hi d N a;obtain ⟨N,rfl⟩:∃q,N=q+1:=⟨N - 1,by omega⟩;obtain rfl:i=L.length:=by omega
   rw [aw,j];simp
  | succ r ih=>
   intro i out hi d N a;obtain ⟨N,rfl⟩:∃q,N=q+1:=⟨N - 1,by omega⟩;have e:L[i]?=some L[i]:=aT (by omega);rw [aw,h i L[i] out e d];show aw step N _=_;have k:=hc L[i] (Jg _);rw [ih (i+1) _ (by omega) (by rw [aO,Nat.mul_add];omega) N (by omega),rP (show i<L.length by omega),pV,fQ]
 have:=g L.length 0 [] (by omega) (by simp) N a;simpa using this
theorem UK (d:aa) (L:Nat) (h:L<=31):(uU (fitN d 31)).filter (λk=>decide (k<=(L:Int)))=uU ((List.range' 1 L).filter (agr d)):=by
 have hs:List.range' 1 31=List.range' 1 L++List.range' (1+L) (31 - L):=by
  have:=List.range'_append_1 (s:=1) (m:=L) (n:=31 - L);rw [this,show L+(31 - L)=31 by omega]
 unfold fitN uU;rw [hs,M9,FD,M9];have e:(List.map (λk:Nat=>(k:Int)) (List.filter (agr d) (List.range' 1 L))).filter (λk=>decide (k<=(L:Int)))=List.map (λk:Nat=>(k:Int)) (List.filter (agr d) (List.range' 1 L)):=by
  rw [List.filter_eq_self];intro k b;obtain ⟨j,a,rfl⟩:=eG.1 b;have:=uk.1 (mg.1 a).1;exact aq (by omega)
 have c:(List.map (λk:Nat=>(k:Int)) (List.filter (agr d) (List.range' (1+L) (31 - L)))).filter (λk=>decide (k<=(L:Int)))=[]:=by
  rw [List.filter_eq_nil_iff];intro k b;obtain ⟨j,a,rfl⟩:=eG.1 b;have:=uk.1 (mg.1 a).1;simp only [cg];omega
 rw [e,c,kR]
theorem IC (s:aa) (g:Nat):(fitN s g).length<=g:=by
 have:=Cf (agr s) (List.range' 1 g);rw [List.length_range'] at this;exact this
theorem I6 (d:aa):(dayI d).length<=31:=by
 unfold dayI;split
 ·simp
 ·rw [Ei];exact IC d 31
theorem Ih (m:aa):(monI m).length<=12:=by
 unfold monI;split
 ·simp
 ·split
  ·simp
  ·rw [Ei];exact IC m 12
theorem KC (d:aa) (y a:Int):(wg d y a).length<=31:=by
 unfold wg;rw [vH];exact rQ (Cf _ _) (I6 d)
theorem LA (y a:Int):wg [] y a=[(y,a,0)]:=rfl
theorem JR {d:aa} (h:d≠[]) (y a:Int):wg d y a=((List.range' 1 (lenI y a).toNat).filter (agr d)).map λk:Nat=>(y,a,(k:Int)):=by
 have b:=jN y a;unfold wg dayI wz;rw [ab h,ab h];have:=UK d (lenI y a).toNat (by omega);rw [show (((lenI y a).toNat:Nat):Int)=lenI y a by omega] at this;rw [this,uU,ud];rfl
theorem JD (n:Nat) (u:100<n) (g l:Bool) (dg:aa) (x q:Int) (m d:aa) (k0 k1 k2 y:Int):
  lj n g l dg x q m d k0 k1 k2 y=some (wu m d y):=by
 have v:=Ih m;unfold lj;rw [J0 n u];have:=Lo (step:=eZ n) (f:=λi out=>(y,(i:Int),g,l,dg,x,q,m,d,k0,k1,k2,monI m,out)) (y:=λo=>o) (F:=wg d y) (L:=monI m) (c:=31) (λb _=>KC d y b)
  (λi h out hi D=>by
   have a:i<(monI m).length:=(qX.1 hi).1;have t:IntKind.wrap .i64 ((i:Int)+1)=((i+1:Nat):Int):=by rw [wrap_i64 _ (by omega) (by omega)];omega
   unfold eZ;simp only [d4,d8,t];rw [aq (show (i:Int)<(((monI m).length:Nat):Int) by omega),dk a];by_cases r:d=[]
   ·subst r;rw [LA];simp only [ob,hi,ah,room (show out.length<=60000000 by omega)];rfl
   ·rw [gi r];have B:=jN y h;have s:=Of (step:=eX n) (f:=λj o=>(y,(i:Int),((j+1:Nat):Int),g,l,dg,x,q,m,d,k0,k1,k2,monI m,o)) (y:=λo=>(y,(i:Int),g,l,dg,x,q,m,d,k0,k1,k2,monI m,o)) (p:=agr d) (e:=λk=>(y,h,(k:Int))) (g:=(lenI y h).toNat) out
     (λj o C A=>by
      have w:IntKind.wrap .i64 (((j+1:Nat):Int)+1)=((j+1+1:Nat):Int):=by rw [wrap_i64 _ (by omega) (by omega)];omega
      unfold eX;simp only [d4,d8,w,dk a,ob,hi,Bt];rw [aq (show ((j+1:Nat):Int)<=lenI y h by omega),vq n d (j+1) (by omega),room (show o.length<=60000000 by omega)];by_cases hp:agr d (j+1)=true
      ·rw [ae hp,ae hp];rfl
      ·rw [ab hp,ab hp];rfl)
     (λo=>by
      unfold eX;simp only [d4,d8,dk a,ob,hi,Bt];rw [ar (show ¬(((lenI y h).toNat+1:Nat):Int)<=lenI y h by omega)];rfl)
     (N:=n) (by omega)
    have hin':aw (eX n) n (y,(i:Int),1,g,l,dg,x,q,m,d,k0,k1,k2,monI m,out)=_:=s;simp only [ah,af];rw [hin',JR r];simp only [ob,d4,d8,t])
  (λout=>by
   unfold eZ;simp only [d4,d8];rw [ar (show ¬(((monI m).length:Nat):Int)<(((monI m).length:Nat):Int) by omega)];rfl)
  (N:=n) (by omega)
 have z:aw (eZ n) n (y,0,g,l,dg,x,q,m,d,k0,k1,k2,monI m,([]:List (Int×Int×Int)))=_:=this;simp only [ob];rw [z];rfl
theorem X2 {a b c e:UInt8} (j:be a=true\/a=88) (k:be b=true\/b=88) (hc:be c=true\/c=88) (l:be e=true\/e=88) (w:Nat):
  mtk [a,b,c,e] 4 w=Mk.ag [e,c,b,a] (w:Int):=by
 have one:∀(z:UInt8) (v:Nat),(decide (z=88)||decide (z.toNat=48+v%10))=(decide (z=88)||decide (Mk.dv z=(v:Int)%10)):=by
  intro z v;have:(z.toNat=48+v%10)↔(Mk.dv z=(v:Int)%10):=by unfold Mk.dv;omega
  rw [n8.2 this]
 have d:∀v:Nat,(v:Int) / 10=((v / 10:Nat):Int):=λv=>by omega
 show ((decide (e=88)||decide (e.toNat=48+w%10))&&((decide (c=88)||decide (c.toNat=48+w / 10%10))&&((decide (b=88)||decide (b.toNat=48+w / 10 / 10%10))&&((decide (a=88)||decide (a.toNat=48+w / 10 / 10 / 10%10))&&true))))
  = ((((true&&(decide (a=88)||decide (Mk.dv a=(w:Int) / 10 / 10 / 10%10)))&&(decide (b=88)||decide (Mk.dv b=(w:Int) / 10 / 10%10)))&&(decide (c=88)||decide (Mk.dv c=(w:Int) / 10%10)))&&(decide (e=88)||decide (Mk.dv e=(w:Int)%10)))
 rw [one e w,one c (w / 10),one b (w / 10 / 10),one a (w / 10 / 10 / 10),d w,d (w / 10),d (w / 10 / 10)];generalize (decide (e=88)||decide (Mk.dv e=(w:Int)%10))=f;generalize (decide (c=88)||decide (Mk.dv c=((w / 10:Nat):Int)%10))=i;generalize (decide (b=88)||decide (Mk.dv b=((w / 10 / 10:Nat):Int)%10))=h;generalize (decide (a=88)||decide (Mk.dv a=((w / 10 / 10 / 10:Nat):Int)%10))=g;cases f<;>cases i<;>cases h<;>cases g<;>rfl
theorem Ug {c:UInt8} (h:be c=true\/c=88):Mk.okB c=true:=by
 rcases h with h | h
 ·have h:=(ca c).1 h;unfold Mk.okB;simp only [ip,az,cg];right
  first | omega | (obtain ⟨b,a⟩:=h;constructor<;>omega)
 ·subst h;decide
theorem Qd {d:aa} (a:d.length=4) (h:∀c∈d,be c=true\/c=88):Mk.chk d=0:=by
 unfold Mk.chk;have:d.all Mk.okB=true:=bW.2 λc hc=>Ug (h c hc);rw [ab (by omega),ae this,ab (by rintro rfl;simp at a)]
theorem Il {d:aa} (g:d.length=4) (h:∀c∈d,be c=true\/c=88) (w:Nat):Mk.hasM d (w:Int)=true↔mtk d 4 w=true/\w / 10 ^ 4=0:=by
 obtain ⟨a,b,c,e,rfl⟩:∃a b c e,d=[a,b,c,e]:=by
  match d,g with
  | [a,b,c,e],_=>exact ⟨a,b,c,e,rfl⟩
 rw [Mk.GG,X2 (h a (by simp)) (h b (by simp)) (h c (by simp)) (h e (by simp)) w];simp only [az,cg];show 0<=(w:Int)/\(w:Int)<10 ^ 4/\Mk.ag [e,c,b,a] (w:Int)=true↔Mk.ag [e,c,b,a] (w:Int)=true/\w / 10 ^ 4=0;have j:(10:Int) ^ 4=10000:=by decide
 have e4':(10:Nat) ^ 4=10000:=by decide
 rw [j,e4'];constructor
 ·rintro ⟨_,i,f⟩;exact ⟨f,by omega⟩
 ·rintro ⟨f,i⟩;exact ⟨by omega,by omega,f⟩
theorem I3 {g l:Bool} {d:aa} {x q:Int} (f:okY g l d x q) (b:hasX d=true) (v:Int):inP g d x q v↔(Mk.hasM d (wOf g v)=true/\(g=true->1<=wOf g v)):=by
 obtain ⟨rfl,rfl,rfl,h,j⟩:=rW f b;unfold inP;rw [HK b];have p:∀k:Int,Mk.hasM d k=true->0<=k/\k<10000:=λk o=>by
  have:=(Mk.oZ o).2.2.2.2;rw [h] at this;have w:(10:Int) ^ 4=10000:=by decide
  omega
 constructor
 ·rintro ⟨a,i,u,m,n⟩;have:=(Il h j (wOf g v).toNat).2 n;rw [show (((wOf g v).toNat:Nat):Int)=wOf g v by omega] at this;refine ⟨this,λc=>?_⟩;have t:¬wOf g v=0:=λe=>m ⟨b,c,e⟩;omega
 ·rintro ⟨a,i⟩;have hr':=p _ a;have r:=(Il h j (wOf g v).toNat).1 (by rw [show (((wOf g v).toNat:Nat):Int)=wOf g v by omega];exact a);have s:v=wOf g v\/v=- wOf g v:=by
   unfold wOf;split
   ·right;omega
   ·left;rfl
  refine ⟨by omega,by omega,hr'.1,?_,r⟩;rintro ⟨_,c,e⟩;have:=i c;omega
theorem Gm {g l:Bool} {d:aa} {x:Int} (b:okY g l d x 0) (a:hasX d=false) (v:Int):inP g d x 0 v↔v=(if g then -((val d x.toNat:Nat):Int) else ((val d x.toNat:Nat):Int)):=by
 obtain ⟨k,q,rfl,n,m⟩:=th b a;have hs:=m.small;have c:dval 0 d*10 ^ k=val d k:=rfl;rw [c] at hs;unfold E16 at hs;unfold inP;rw [SZ a];have h:FR d (k:Int).toNat (0:Int).toNat=1:=rfl;rw [h,bO,uc,uc,a];unfold wOf;cases g with
 | true=>
  simp only [aM];constructor
  ·rintro ⟨e,i,j,_,f⟩;omega
  ·rintro rfl;refine ⟨by omega,by omega,by omega,by simp,by omega⟩
 | false=>
  simp only [bz,aE];constructor
  ·rintro ⟨e,i,j,_,f⟩;omega
  ·rintro rfl;refine ⟨by omega,by omega,by omega,by simp,by omega⟩
def FX (up:Bool) (Y:Int->Prop) (v w:Int) (a:Bool):Prop:=
 (a=true->Y w/\Mk.fA up v w/\∀e,Y e->Mk.fA up v e->Mk.fA up w e)/\(a=false->∀e,Y e->¬Mk.fA up v e)
theorem ft (a b:Int):Mk.fA true a b↔a<=b:=Iff.rfl
theorem iM (a b:Int):Mk.fA false a b↔b<=a:=Iff.rfl
theorem SB (o:Option Int):(Mk.res o).2=0/\(∃r,o=some r/\(Mk.res o).1=r)\/(Mk.res o).2=16/\o=none/\(Mk.res o).1=0:=by
 cases o with
 | none=>exact .inr ⟨rfl,rfl,rfl⟩
 | some r=>exact .inl ⟨rfl,r,rfl,rfl⟩
theorem vZ {m:aa} (j:Mk.chk m=0) (v a:Int) (q:0<=a):∃w f,fS 20000000 m v true a=some (w,f)/\FX true (λe=>Mk.hasM m e=true/\a<=e) v w f/\(0<=w/\w<1000000000000000000):=by
 obtain ⟨o,l,c⟩:=Mk.OF j (cond (decide (a>v)) a v);unfold fS;rw [l];simp only [ob,ah];have hc:(cond (decide (a>v)) a v)=max v a:=by
  by_cases h:a>v
  ·rw [aq h];show a=_;omega
  ·rw [ar h];show v=_;omega
 rw [hc] at c;rcases SB o with ⟨i,r,rfl,d⟩ | ⟨i,rfl,d⟩
 ·refine ⟨_,_,rfl,?_,?_⟩
  ·rw [i,d];obtain ⟨a1,a2,p⟩:=c;rw [ft] at a2;refine ⟨λ_=>⟨⟨a1,by omega⟩,?_,λe b g=>?_⟩,λh=>by cases h⟩
   ·rw [ft];omega
   ·rw [ft] at g;exact p e b.1 (by rw [ft];have:=b.2;omega)
  ·have:=(Mk.oZ c.1).2.2.2.2;have n:=Mk.oi j;have hp:(10:Int) ^ m.length<=10 ^ 18:=by
    have:=ly (show 0<10 by decide) n.1
    exact_mod_cast this
   have k:(10:Int) ^ 18=1000000000000000000:=by decide
   rw [d];omega
 ·refine ⟨_,_,rfl,?_,by rw [d];omega⟩;rw [i];refine ⟨(λh=>by cases h),λ_ e b g=>?_⟩;rw [ft] at g;exact c e b.1 (by rw [ft];have:=b.2;omega)
theorem vX {m:aa} (j:Mk.chk m=0) (v a:Int) (t:0<=a):∃w f,fS 20000000 m v false a=some (w,f)/\FX false (λe=>Mk.hasM m e=true/\a<=e) v w f/\(0<=w/\w<1000000000000000000):=by
 obtain ⟨o,p,k⟩:=Mk.MC j v;unfold fS;rw [p];simp only [ob,af];rcases SB o with ⟨g,r,rfl,i⟩ | ⟨g,rfl,i⟩
 ·rw [g,i];obtain ⟨a1,a2,l⟩:=k;rw [iM] at a2;have s:=(Mk.oZ a1).2.2.2.2;have q:=Mk.oi j;have hp:(10:Int) ^ m.length<=10 ^ 18:=by
   have:=ly (show 0<10 by decide) q.1
   exact_mod_cast this
  have n:(10:Int) ^ 18=1000000000000000000:=by decide
  refine ⟨_,_,rfl,?_,by omega⟩;by_cases d:r>=a
  ·rw [aq d];refine ⟨λ_=>⟨⟨a1,by omega⟩,by rw [iM];omega,λe b c=>l e b.1 c⟩,λh=>by cases h⟩
  ·rw [ar d];refine ⟨(λh=>by cases h),λ_ e b c=>?_⟩;have:=l e b.1 c;rw [iM] at this;have:=b.2;omega
 ·rw [g,i];refine ⟨_,_,rfl,?_,by omega⟩;refine ⟨(λh=>by cases h),λ_ e b c=>k e b.1 c⟩
theorem LJ {g l:Bool} {dg:aa} {x:Int} (k:okY g l dg x 0) (m d:aa) (k0 k1 k2:Int) (v:Int) (G:-9223372036854775808<=v/\v<9223372036854775808) (up:Bool) (F E:List Int):
  ∃w f,ct 20000000 g l dg x 0 m d k0 k1 k2 v up F E=some (w,f)/\FX up (inP g dg x 0) v w f:=by
 have D:=iN k;unfold ct;rw [uP];simp only [ob];cases t:hasX dg with
 | false=>
  have c:=Gm k t;rw [C2 20000000 g l dg x 0 (by omega) (by omega),ae ⟨k,t⟩];simp only [jx,ah];generalize (if g then -((val dg x.toNat:Nat):Int) else ((val dg x.toNat:Nat):Int))=w at *;cases up with
  | true=>
   by_cases h:w>=v
   ·refine ⟨w,true,?_,?_⟩
    ·simp only [aq h,ah]
    ·refine ⟨λ_=>⟨(c w).2 rfl,h,λe b _=>?_⟩,λh=>by cases h⟩;rw [(c e).1 b];exact uZ _
   ·refine ⟨w,false,?_,?_⟩
    ·simp only [ar h,ah,af,du]
    ·refine ⟨(λh=>by cases h),λ_ e b n=>?_⟩;rw [(c e).1 b,ft] at n;omega
  | false=>
   by_cases h:w<=v
   ·refine ⟨w,true,?_,?_⟩
    ·simp only [aq h,ah,af,jx]
    ·refine ⟨λ_=>⟨(c w).2 rfl,h,λe b _=>?_⟩,λh=>by cases h⟩;rw [(c e).1 b];exact uZ _
   ·refine ⟨w,false,?_,?_⟩
    ·simp only [ar h,ah,af,jx]
    ·refine ⟨(λh=>by cases h),λ_ e b n=>?_⟩;rw [(c e).1 b,iM] at n;omega
 | true=>
  have c:=I3 k t;obtain ⟨rfl,rfl,_,A,B⟩:=rW k t;have s:=Qd A B;simp only [du,af];cases g with
  | false=>
   simp only [jx,ah];have q:∀w f,FX up (λe=>Mk.hasM dg e=true/\0<=e) v w f->FX up (inP false dg 0 0) v w f:=λw f h=>by
    have a:∀e,(Mk.hasM dg e=true/\0<=e)↔inP false dg 0 0 e:=λe=>by
     rw [c e];constructor
     ·rintro ⟨i,_⟩;exact ⟨i,λh=>by cases h⟩
     ·rintro ⟨i,_⟩;exact ⟨i,(Mk.oZ i).2.2.2.2.1⟩
    refine ⟨λj=>?_,λj e b=>h.2 j e ((a e).2 b)⟩;obtain ⟨b1,b2,r⟩:=h.1 j;exact ⟨(a w).1 b1,b2,λe b=>r e ((a e).2 b)⟩
   cases up with
   | true=>
    obtain ⟨w,f,i,o,_⟩:=vZ s v 0 (by omega);exact ⟨w,f,by rw [i],q w f o⟩
   | false=>
    obtain ⟨w,f,i,o,_⟩:=vX s v 0 (by omega);exact ⟨w,f,by rw [i],q w f o⟩
  | true=>
   simp only [du,af];have hc:IntKind.wrap .i64 (0 - (cond (decide (((-9223372036854775807):Int)>v)) (-9223372036854775807) v))=min (-v) 9223372036854775807:=by
    by_cases h:((-9223372036854775807):Int)>v
    ·rw [aq h,ah,wrap_i64 _ (by omega) (by omega)];omega
    ·rw [ar h,af,wrap_i64 _ (by omega) (by omega)];omega
   rw [hc];have u:∀e,Mk.hasM dg e=true->0<=e/\e<10000:=λe b=>by
    have:=(Mk.oZ b).2.2.2.2;rw [A] at this;have H:(10:Int) ^ 4=10000:=by decide
    omega
   have a:∀e,inP true dg 0 0 e↔(Mk.hasM dg (-e)=true/\1<=-e):=λe=>by
    rw [c e];exact ⟨λh=>⟨h.1,h.2 rfl⟩,λh=>⟨h.1,λ_=>h.2⟩⟩
   have z:∀w:Int,0<=w/\w<1000000000000000000->IntKind.wrap .i64 (0 - w)=-w:=λw h=>by rw [wrap_i64 _ (by omega) (by omega)];omega
   cases up with
   | true=>
    obtain ⟨w,f,i,o,y⟩:=vX s (min (-v) 9223372036854775807) 1 (by omega);refine ⟨-w,f,by rw [du,i];simp only [z w y],?_,?_⟩
    ·intro j;obtain ⟨b1,b2,r⟩:=o.1 j;rw [iM] at b2;refine ⟨(a _).2 (by rw [Int.neg_neg];exact b1),by rw [ft];omega,λe b n=>?_⟩;rw [ft] at n;have p:=(a e).1 b;have:=r (-e) p (by rw [iM];have:=u _ p.1;omega);rw [iM] at this;rw [ft];omega
    ·intro j e b n;rw [ft] at n;have p:=(a e).1 b;exact o.2 j (-e) p (by rw [iM];have:=u _ p.1;omega)
   | false=>
    obtain ⟨w,f,i,o,y⟩:=vZ s (min (-v) 9223372036854775807) 1 (by omega);refine ⟨-w,f,by rw [jx,i];simp only [z w y],?_,?_⟩
    ·intro j;obtain ⟨b1,b2,r⟩:=o.1 j;rw [ft] at b2;have C:=u _ b1.1;refine ⟨(a _).2 (by rw [Int.neg_neg];exact b1),by rw [iM];omega,λe b n=>?_⟩;rw [iM] at n;have p:=(a e).1 b;have:=r (-e) p (by rw [ft];omega);rw [ft] at this;rw [iM];omega
    ·intro j e b n;rw [iM] at n;have p:=(a e).1 b;exact o.2 j (-e) p (by rw [ft];omega)
theorem vh {X Y A:Type} {step:X->Option (X⊕Y)} {f:Nat->X} {L:List A} {G:A->Option Y} {e:Y}
  (h:∀i a,L[i]?=some a->step (f i)=some ((G a).elim (.inl (f (i+1))) Sum.inr)) (g:step (f L.length)=some (.inr e)) {N:Nat} (b:L.length<N):
  aw step N (f 0)=some ((L.findSome? G).getD e):=by
 have d:∀(r i:Nat),i+r=L.length->∀N,r<N->aw step N (f i)=some (((L.drop i).findSome? G).getD e):=by
  intro r
  induction r with
  | zero=>
   intro i hi N b;obtain ⟨N,rfl⟩:∃q,N=q+1:=⟨N - 1,by omega⟩;obtain rfl:i=L.length:=by omega
   rw [aw,g];simp
  | succ r ih=>
   intro i hi N b;obtain ⟨N,rfl⟩:∃q,N=q+1:=⟨N - 1,by omega⟩;have c:L[i]?=some L[i]:=aT (by omega);rw [aw,h i L[i] c,rP (show i<L.length by omega),EN];cases j:G L[i] with
   | some y=>rfl
   | none=>exact ih (i+1) (by omega) N (by omega)
 have:=d L.length 0 (by omega) N b;simpa using this
def ahd (up:Bool) (a b:Int):Bool:=cond up (decide (a<b)) (decide (a>b))
theorem If (n:Nat) (a b:Int) (up:Bool):de n a b up=some (ahd up a b):=by
 unfold de ahd;cases up
 ·rfl
 ·simp only [ah,du,af];cases decide (a<b)<;>rfl
def BP (up a:Bool) (d:aa) (b most k:Int):Bool:=decide (k<=most)&&!(a&&(!(d==([]:aa))&&ahd up k b))
def Oc (up:Bool) (m:aa) (a b y c:Int):Bool:=(y==a)&&(!(m==([]:aa))&&ahd up c b)
def JI (m:aa) (a b y c:Int):Bool:=(y==a)&&((m==([]:aa))||(c==b))
def Ge (up:Bool) (m d:aa) (b c e y:Int) (f:List Int) (a:Int):Option (Int×Int×Int):=
 if Oc up m b c y a then none else (f.find? (BP up (JI m b c y a) d e (wz d y a))).map λk=>(y,a,k)
def GQ (up:Bool) (m d:aa) (a f b:Int) (e c:List Int) (y:Int):Option (Int×Int×Int):=e.findSome? (Ge up m d a f b y c)
def Oz (d:aa) (a:List Int):Prop:=a.length<=31/\(d≠[]->∀b∈a,1<=b/\b<=12)
theorem KN (n:Nat) (g l:Bool) (dg:aa) (x q:Int) (m d:aa) (k0 k1 k2:Int) {y:Int} (hy:ej y) {a:Int} (c:d≠[]->1<=a/\a<=12) (f e:List Int):
  fj n g l dg x q m d k0 k1 k2 y a f e=some (wz d y a):=by
 unfold fj wz;by_cases b:d=[]
 ·subst b;rfl
 ·rw [gi b,ab b];have:=c b;obtain ⟨k,rfl⟩:∃k:Nat,a=(k:Int):=⟨a.toNat,by omega⟩;rw [af,OB n hy (by omega) (by omega)];rfl
theorem TX {A B Y:Type} (L:List A) (p:A->Bool) (F:A->B) (J:B->Y) (e:Y):(L.findSome? λa=>if p a then some (J (F a)) else none).getD e=((L.find? p).map F).elim e J:=by
 induction L with
 | nil=>rfl
 | cons a L ih=>
  rw [List.find?_cons,EN];cases h:p a
  ·simpa using ih
  ·simp
theorem Yu {A B Y:Type} (L:List A) (G:A->Option B) (J:B->Y) (e:Y):(L.findSome? λa=>(G a).map J).getD e=(L.findSome? G).elim e J:=by
 induction L with
 | nil=>rfl
 | cons a L ih=>
  rw [EN,EN];cases h:G a
  ·simpa using ih
  ·simp
theorem Qz (n:Nat) (s y f:Int) (a:Bool) (most o u:Int) (r b:List Int) (g l:Bool) (dg:aa) (x q:Int) (m d:aa) (k0 k1 k2 h v c:Int) (up:Bool) (p j rd:Int) (i:Nat) (k:Int) (hi:b[i]?=some k) (w:i<1000):
  bP n (s,y,f,a,most,o,u,((b.length:Nat):Int),(i:Int),r,b,g,l,dg,x,q,m,d,k0,k1,k2,h,v,c,up,p,j,rd)=some ((if BP up a d c most k then some (.inl (true,y,f,k)) else none).elim (.inl (s,y,f,a,most,o,u,((b.length:Nat):Int),((i+1:Nat):Int),r,b,g,l,dg,x,q,m,d,k0,k1,k2,h,v,c,up,p,j,rd)) Sum.inr):=by
 have e:i<b.length:=(qX.1 hi).1;have t:IntKind.wrap .i64 ((i:Int)+1)=((i+1:Nat):Int):=by rw [wrap_i64 _ (by omega) (by omega)];omega
 unfold bP iK BP;simp only [d4,d8,d16,dk e,hi,ob,t,If];rw [aq (show (i:Int)<((b.length:Nat):Int) by omega)];simp only [ah];cases decide (k<=most)<;>cases a<;>cases (d==([]:aa))<;>cases ahd up k c<;>simp only [du,jx,ah,af,t]<;>rfl
theorem U1 (n:Nat) (s y p:Int) (b:Bool) (most f k:Int) (j a:List Int) (g l:Bool) (dg:aa) (x q:Int) (m d:aa) (k0 k1 k2 c o h:Int) (up:Bool) (i e rd:Int):
  bP n (s,y,p,b,most,f,k,((a.length:Nat):Int),((a.length:Nat):Int),j,a,g,l,dg,x,q,m,d,k0,k1,k2,c,o,h,up,i,e,rd)=some (.inr (.inr (s,y,f,k,j,a,g,l,dg,x,q,m,d,k0,k1,k2,c,o,h,up,i,e,rd))):=by
 unfold bP;simp only [d4,d8,d16];rw [ar (show ¬((a.length:Nat):Int)<((a.length:Nat):Int) by omega)];rfl
theorem Vw (n:Nat) (A:1000<n) (s y h:Int) (a:Bool) (most p u:Int) (t b:List Int) (g l:Bool) (dg:aa) (x q:Int) (m d:aa) (k0 k1 k2 j v c:Int) (up:Bool) (r o rd:Int) (B:b.length<=31):
  aw (bP n) n (s,y,h,a,most,p,u,((b.length:Nat):Int),0,t,b,g,l,dg,x,q,m,d,k0,k1,k2,j,v,c,up,r,o,rd)=some (((b.find? (BP up a d c most)).map (λk=>(y,h,k))).elim (.inr (s,y,p,u,t,b,g,l,dg,x,q,m,d,k0,k1,k2,j,v,c,up,r,o,rd)) (λz=>.inl (true,z))):=by
 have:=vh (step:=bP n) (f:=λi=>(s,y,h,a,most,p,u,((b.length:Nat):Int),(i:Int),t,b,g,l,dg,x,q,m,d,k0,k1,k2,j,v,c,up,r,o,rd)) (L:=b) (G:=λk=>if BP up a d c most k then some (.inl (true,y,h,k)) else none) (e:=.inr (s,y,p,u,t,b,g,l,dg,x,q,m,d,k0,k1,k2,j,v,c,up,r,o,rd))
  (λi k hi=>by
   have w:i<b.length:=(qX.1 hi).1;exact Qz n s y h a most p u t b g l dg x q m d k0 k1 k2 j v c up r o rd i k hi (by omega))
  (U1 n s y h a most p u t b g l dg x q m d k0 k1 k2 j v c up r o rd) (N:=n) (by omega)
 exact this.trans (cD some (TX b (BP up a d c most) (λk=>(y,h,k)) (λz=>Sum.inl (true,z)) _))
theorem PZ (n:Nat) (D:1000<n) (s y:Int) (hy:ej y) (j p:List Int) (g l:Bool) (dg:aa) (x q:Int) (m d:aa) (k0 k1 k2 e o r:Int) (up:Bool) (u t rd:Int) (A:Oz d j) (E:p.length<=31) (i:Nat) (f:Int) (hi:j[i]?=some f):
  co n (s,y,((j.length:Nat):Int),(i:Int),j,p,g,l,dg,x,q,m,d,k0,k1,k2,e,o,r,up,u,t,rd)=some (((Ge up m d e o r y p f).map (λz=>(.inl (true,z):(Bool×Int×Int×Int)⊕_))).elim (.inl (s,y,((j.length:Nat):Int),((i+1:Nat):Int),j,p,g,l,dg,x,q,m,d,k0,k1,k2,e,o,r,up,u,t,rd)) Sum.inr):=by
 have v:i<j.length:=(qX.1 hi).1;have C:=A.1;have B:IntKind.wrap .i64 ((i:Int)+1)=((i+1:Nat):Int):=by rw [wrap_i64 _ (by omega) (by omega)];omega
 have w:d≠[]->1<=f/\f<=12:=λh=>A.2 h f (fc hi);have j20:∀a b:Int,fD n s y f (y==e) a b j p g l dg x q m d k0 k1 k2 e o r up u t rd=some (s,y,f,(y==e),a,b,Oc up m e o y f,j,p,g,l,dg,x,q,m,d,k0,k1,k2,e,o,r,up,u,t,rd):=by
  intro a b;unfold fD Oc;simp only [If,ob];cases (y==e)<;>cases (m==([]:aa))<;>rfl
 have j23:∀a b c:Int,fp n s y f (y==e) a b c j p g l dg x q m d k0 k1 k2 e o r up u t rd=some (s,y,f,JI m e o y f,a,b,c,j,p,g,l,dg,x,q,m,d,k0,k1,k2,e,o,r,up,u,t,rd):=by
  intro a b c;unfold fp JI;cases (y==e)<;>cases (m==([]:aa))<;>rfl
 unfold co iL Ge;simp only [d4,d8,d16,dk v,hi,ob,j20];rw [aq (show (i:Int)<((j.length:Nat):Int) by omega)];simp only [ah];cases hs:Oc up m e o y f with
 | true=>simp only [ah,aM,jl,B];rfl
 | false=>
  simp only [af,bz,aE,KN n g l dg x q m d k0 k1 k2 hy w,j23,Vw n D s y f (JI m e o y f) (wz d y f) _ _ j p g l dg x q m d k0 k1 k2 e o r up u t rd E];cases p.find? (BP up (JI m e o y f) d r (wz d y f)) with
  | some k=>rfl
  | none=>simp only [jl,Option.elim_none,B]
theorem Vl (n:Nat) (u:1000<n) (s y:Int) (hy:ej y) (a b:List Int) (g l:Bool) (dg:aa) (x q:Int) (m d:aa) (k0 k1 k2 c j h:Int) (up:Bool) (o k rd:Int) (r:Oz d a) (v:b.length<=31):
  aw (co n) n (s,y,((a.length:Nat):Int),0,a,b,g,l,dg,x,q,m,d,k0,k1,k2,c,j,h,up,o,k,rd)=some ((GQ up m d c j h a b y).elim (.inr (s,y,a,b,g,l,dg,x,q,m,d,k0,k1,k2,c,j,h,up,o,k,rd)) (λz=>.inl (true,z))):=by
 have t:=r.1;have:=vh (step:=co n) (f:=λi=>(s,y,((a.length:Nat):Int),(i:Int),a,b,g,l,dg,x,q,m,d,k0,k1,k2,c,j,h,up,o,k,rd)) (L:=a) (G:=λp=>(Ge up m d c j h y b p).map (λz=>(.inl (true,z):(Bool×Int×Int×Int)⊕_))) (e:=.inr (s,y,a,b,g,l,dg,x,q,m,d,k0,k1,k2,c,j,h,up,o,k,rd))
  (λi p hi=>PZ n u s y hy a b g l dg x q m d k0 k1 k2 c j h up o k rd r v i p hi)
  (by
   unfold co;simp only [d4,d8,d16];rw [ar (show ¬((a.length:Nat):Int)<((a.length:Nat):Int) by omega)];rfl)
  (N:=n) (by omega)
 exact this.trans (cD some (Yu a (Ge up m d c j h y b) (λz=>Sum.inl (true,z)) _))
theorem RP (n:Nat) (j:1000<n) (s y:Int) (hy:ej y) (b a:List Int) (g l:Bool) (dg:aa) (x q:Int) (m d:aa) (k0 k1 k2 c f e:Int) (up:Bool) (i h rd:Int) (k:Oz d b) (o:a.length<=31):
  dn n (s,y,true,b,a,g,l,dg,x,q,m,d,k0,k1,k2,c,f,e,up,i,h,rd)=(GQ up m d c f e b a y).elim (ob (ct n g l dg x q m d k0 k1 k2 (IntKind.wrap .i64 (y+s)) up b a) λr=>some (.inl (s,r.1,r.2,b,a,g,l,dg,x,q,m,d,k0,k1,k2,c,f,e,up,i,h,rd))) (λz=>some (.inr (.inl (true,z)))):=by
 unfold dn;simp only [d4,d8,d16,ah,ob,Vl n j s y hy b a g l dg x q m d k0 k1 k2 c f e up i h rd k o];cases GQ up m d c f e b a y<;>rfl
def IV (up:Bool) (Y:Int->Prop) (F:Int->Option (Int×Int×Int)) (v:Int):Option (Int×Int×Int)->Prop
 | some z=>∃e,Y e/\Mk.fA up v e/\F e=some z/\∀a,Y a->Mk.fA up v a->¬Mk.fA up e a->F a=none
 | none=>∀e,Y e->Mk.fA up v e->F e=none
theorem JG {X:Type} {step:X->Option (X⊕((Bool×Int×Int×Int)⊕(Int×Int×Int)))} {st:Int->Bool->X} {F:Int->Option (Int×Int×Int)} {Y:Int->Prop} {up:Bool} {s lo hi:Int} {E:Int×Int×Int} {fy:Int->Option (Int×Bool)}
  (hs:s=if up then 1 else -1) (t:∀e,Y e->lo<=e/\e<=hi) (P:-10000000000000000<=lo) (d:hi<=10000000000000000)
  (a:∀y,Y y->step (st y true)=(F y).elim (ob (fy (IntKind.wrap .i64 (y+s))) λr=>some (.inl (st r.1 r.2))) (λz=>some (.inr (.inl (true,z)))))
  (c:∀y,step (st y false)=some (.inr (.inr E)))
  (n:∀v,-9223372036854775808<=v/\v<9223372036854775808->∃w f,fy v=some (w,f)/\FX up Y v w f):
  ∀(r:Nat) (v y:Int) (f:Bool),FX up Y v y f->(f=true->(if up then hi - y else y - lo)<(r:Int))->∀N,r<N->
   ∃o,aw step N (st y f)=some (o.elim (.inr E) (λz=>.inl (true,z)))/\IV up Y F v o:=by
 intro r
 induction r with
 | zero=>
  intro v y f l p N M;obtain ⟨N,rfl⟩:∃q,N=q+1:=⟨N - 1,by omega⟩;cases f with
  | true=>
   obtain ⟨a1,_,_⟩:=l.1 rfl;have:=t y a1;have:=p rfl;cases up<;>simp at this<;>omega
  | false=>
   refine ⟨none,by rw [aw,c];rfl,λe g k=>absurd k (l.2 rfl e g)⟩
 | succ r ih=>
  intro v y f l p N M;obtain ⟨N,rfl⟩:∃q,N=q+1:=⟨N - 1,by omega⟩;cases f with
  | false=>
   refine ⟨none,by rw [aw,c];rfl,λe g k=>absurd k (l.2 rfl e g)⟩
  | true=>
   obtain ⟨a1,a2,x⟩:=l.1 rfl;have O:=t y a1;cases m:F y with
   | some z=>
    refine ⟨some z,?_,y,a1,a2,m,λb d j i=>absurd (x b d j) i⟩;rw [aw,a y a1,m];rfl
   | none=>
    have J:IntKind.wrap .i64 (y+s)=y+s:=by
     have:-1<=s/\s<=1:=by rw [hs];cases up<;>simp
     exact wrap_i64 _ (by omega) (by omega)
    obtain ⟨w,A,L,B⟩:=n (y+s) (by
     have:-1<=s/\s<=1:=by rw [hs];cases up<;>simp
     omega)
    have hstep':step (st y true)=some (.inl (st w A)):=by
     rw [a y a1,m,J];show ob (fy (y+s)) _=_;rw [L];rfl
    obtain ⟨o,I,u⟩:=ih (y+s) w A B (λG=>by
     obtain ⟨b1,b2,_⟩:=B.1 G;have:=p rfl;cases up
     ·rw [iM] at b2;simp only [bz,aE] at hs this ⊢;omega
     ·rw [ft] at b2;simp only [aM] at hs this ⊢;omega) N (by omega)
    refine ⟨o,by rw [aw,hstep'];exact I,?_⟩;have split:∀b,Y b->Mk.fA up v b->b=y\/Mk.fA up (y+s) b:=λb d j=>by
     have i:=x b d j;cases up
     ·rw [iM] at i ⊢;simp only [bz,aE] at hs;omega
     ·rw [ft] at i ⊢;simp only [aM] at hs;omega
    cases o with
    | none=>
     intro e g k;rcases split e g k with rfl | h
     ·exact m
     ·exact u e g h
    | some z=>
     obtain ⟨e,D,C,H,K⟩:=u;refine ⟨e,D,?_,H,λb d j i=>?_⟩
     ·cases up
      ·rw [iM] at C a2 ⊢;simp only [bz,aE] at hs;omega
      ·rw [ft] at C a2 ⊢;simp only [aM] at hs;omega
     ·rcases split b d j with rfl | h
      ·exact m
      ·exact K b d h i
theorem Ac {g l:Bool} {dg:aa} {x:Int} (c:okY g l dg x 0):∃lo hi:Int,(∀e,inP g dg x 0 e->lo<=e/\e<=hi)/\hi - lo<=10000/\-10000000000000000<=lo/\hi<=10000000000000000:=by
 cases f:hasX dg with
 | false=>
  have a:=Gm c f;by_cases d:-10000000000000000<=(if g then -((val dg x.toNat:Nat):Int) else ((val dg x.toNat:Nat):Int))/\(if g then -((val dg x.toNat:Nat):Int) else ((val dg x.toNat:Nat):Int))<=10000000000000000
  ·refine ⟨_,_,λe b=>?_,?_,d.1,d.2⟩
   ·rw [(a e).1 b];exact ⟨uZ _,uZ _⟩
   ·omega
  ·refine ⟨0,0,λe b=>?_,by omega,by omega,by omega⟩;exfalso;have:=(a e).1 b;unfold inP at b;exact d ⟨by rw [<-this];exact b.1,by rw [<-this];exact b.2.1⟩
 | true=>
  have a:=I3 c f;obtain ⟨_,_,_,i,j⟩:=rW c f;refine ⟨if g then -9999 else 0,if g then 0 else 9999,λe b=>?_,by cases g<;>simp,by cases g<;>simp,by cases g<;>simp⟩;have h:=((a e).1 b).1;have:=(Mk.oZ h).2.2.2.2;rw [i] at this;have k:(10:Int) ^ 4=10000:=by decide
  unfold wOf at this;cases g
  ·simp at this ⊢;omega
  ·simp at this ⊢;omega
theorem CQ {g:Bool} {dg:aa} {x q e:Int} (h:inP g dg x q e):ej e:=⟨h.1,h.2.1⟩
theorem JV {g l:Bool} {dg:aa} {x:Int} (e:okY g l dg x 0) (m d:aa) (k0 k1 k2:Int) (a h i:Int) (k:-9223372036854775808<=a/\a<9223372036854775808) (c b:List Int) (u:Oz d c) (A:b.length<=31):
  ∃o,jm 20000000 g l dg x 0 m d k0 k1 k2 a h i true c b=some (o.elim (0,0,0,false) λz=>(z.1,z.2.1,z.2.2,true))/\IV true (inP g dg x 0) (GQ true m d a h i c b) a o:=by
 obtain ⟨lo,hi,p,G,n,j⟩:=Ac e;obtain ⟨w,f,D,q⟩:=LJ e m d k0 k1 k2 a k true c b;obtain ⟨o,B,C⟩:=JG (step:=dn 20000000) (st:=λy f=>(1,y,f,c,b,g,l,dg,x,0,m,d,k0,k1,k2,a,h,i,true,0,0,0)) (F:=GQ true m d a h i c b) (Y:=inP g dg x 0) (up:=true) (s:=1) (lo:=lo) (hi:=hi) (E:=(0,0,0)) (fy:=λv=>ct 20000000 g l dg x 0 m d k0 k1 k2 v true c b)
  rfl p n j
  (λy hy=>RP 20000000 (by omega) 1 y (CQ hy) c b g l dg x 0 m d k0 k1 k2 a h i true 0 0 0 u A)
  (λy=>rfl)
  (λv r=>LJ e m d k0 k1 k2 v r true c b)
  10002 a w f q (λt=>by have:=p w (q.1 t).1;simp;omega) 20000000 (by omega)
 refine ⟨o,?_,C⟩;unfold jm jz;simp only [du,af,ob,d4,d8,d16,D];have i1':aw (dn 20000000) 20000000 (1,w,f,c,b,g,l,dg,x,0,m,d,k0,k1,k2,a,h,i,true,0,0,0)=_:=B;rw [i1'];cases o<;>rfl
theorem Jr (m d:aa) (o l:Int) {f e:Int} (h:e≠f) (n g:List Int):GQ true m d f o l n g e=none↔(n.flatMap λa=>(g.filter λk=>decide (k<=wz d e a)).map λk=>(e,a,k))=[]:=by
 have j:(e==f)=false:=aI.2 h;unfold GQ;rw [SC,List.flatMap_eq_nil_iff];have:∀a,Ge true m d f o l e g a=none↔((g.filter λk=>decide (k<=wz d e a)).map λk=>(e,a,k))=[]:=by
  intro a;unfold Ge Oc JI;rw [j];simp only [yT,bz,aE,Option.map_eq_none_iff,List.find?_eq_none,List.map_eq_nil_iff,List.filter_eq_nil_iff];constructor
  ·intro b k i;have:=b k i;unfold BP at this;simpa using this
  ·intro b k i;have:=b k i;unfold BP;simpa using this
 exact ⟨λb a c=>(this a).1 (b a c),λb a c=>(this a).2 (b a c)⟩
def hasF (g:Bool) (dg:aa) (x:Int) (m d:aa):Prop:=∃e,inP g dg x 0 e/\wu m d e≠[]
open Classical in
noncomputable def chkF (g l:Bool) (dg:aa) (x q:Int) (m d:aa) (k0 k1 k2:Int):Int:=
 if chkD g l dg x q m d k0 k1 k2=0/\d≠[]/\¬hasF g dg x m d then 8 else chkD g l dg x q m d k0 k1 k2
theorem pX {g l:Bool} {dg:aa} {x q:Int} {m d:aa} {k0 k1 k2:Int} (h:chkD g l dg x q m d k0 k1 k2=0):okY g l dg x q/\(m=[]\/m.length=2)/\(d=[]\/d.length=2)/\(0<q->m=[])/\(d≠[]->m≠[]/\sea m=0):=by
 obtain ⟨a,k,e,o⟩:=DN h;unfold yrD at a;by_cases b:okY g l dg x q
 ·rw [ae b] at a;refine ⟨b,?_,?_,λf=>?_,λn=>?_⟩
  ·rcases k with h | h | h
   ·exact .inl h
   ·exact .inr (GW h).1
   ·exact .inr (nY (by omega) h).1
  ·rcases e with h | ⟨_,_,h⟩
   ·exact .inl h
   ·exact .inr (nY (by omega) h).1
  ·unfold yrB at a;simp only [az,jW] at a;have:=a.1;rw [aq f,qZ] at this;by_cases c:m=[]
   ·exact c
   ·rw [gi c] at this;cases this
  ·rcases e with h | ⟨i,j,_⟩
   ·exact absurd h n
   ·exact ⟨i,j⟩
 ·rw [ab b] at a;cases a
theorem Qh {g l:Bool} {dg:aa} {x q:Int} (h:okY g l dg x q):0<=q:=(iN h).2.2.1
theorem Np {m d:aa} (h:d≠[]->m≠[]/\sea m=0):Oz d (monI m):=by
 refine ⟨rQ (Ih m) (by omega),λe g a=>?_⟩;obtain ⟨b,f⟩:=h e;unfold monI at a;rw [ab b,ab (by omega)] at a;obtain ⟨k,c,rfl⟩:=eG.1 a;have:=uk.1 (mg.1 c).1;omega
theorem xa {g l:Bool} {dg:aa} {x q:Int} {m d:aa} {k0 k1 k2:Int} (k:m.length<=18) (s:dg.length<=100) (D:0<=k0) (w:0<=k1) (y:0<=k2):
  bD 20000000 g l dg x q m d k0 k1 k2=some (chkF g l dg x q m d k0 k1 k2):=by
 unfold bD chkF;rw [CY 20000000 (by omega) g l dg x q m d k0 k1 k2 k s D w y];simp only [ob];by_cases hc:chkD g l dg x q m d k0 k1 k2=0
 ·obtain ⟨c,t,n,A,b⟩:=pX hc;rw [hc];simp only [fC,af];by_cases i:d=[]
  ·subst i;rw [ab (by simp)];rfl
  ·rw [gi i,af];have r:q=0:=by
    have:=Qh c;by_cases h:0<q
    ·exact absurd (A h) (b i).1
    ·omega
   subst r;have e:=YZ 20000000 (by omega) g l dg x 0 m d k0 k1 k2 t n;have p:=Np b;obtain ⟨o,o1,v⟩:=JV c m d k0 k1 k2 (-9223372036854775808) 0 0 (by omega) (monI m) (dayI d) p (I6 d);have f:∀e,inP g dg x 0 e->e≠-9223372036854775808:=λe B=>by have:=CQ B;unfold ej at this;omega
   have key:(∃z,o=some z)↔hasF g dg x m d:=by
    constructor
    ·rintro ⟨z,rfl⟩;obtain ⟨e,a,_,u,_⟩:=v;refine ⟨e,a,λC=>?_⟩;have:=(Jr m d 0 0 (f e a) (monI m) (dayI d)).2 C;rw [this] at u;cases u
    ·rintro ⟨e,a,F⟩;cases o with
     | some z=>exact ⟨z,rfl⟩
     | none=>
      have:=v e a (by rw [ft];have:=CQ a;unfold ej at this;omega);exact absurd ((Jr m d 0 0 (f e a) (monI m) (dayI d)).1 this) F
   rw [e];by_cases j:hasF g dg x m d
   ·obtain ⟨z,rfl⟩:=key.2 j;rw [ab (λh=>h.2.2 j)]
    all_goals
     simp only [d4,d8,o1];rfl
   ·have E:o=none:=by
     cases o with
     | none=>rfl
     | some z=>exact absurd (key.1 ⟨z,rfl⟩) j
    subst E;rw [ae ⟨rfl,i,j⟩]
    all_goals
     simp only [d4,d8,o1];rfl
 ·rw [ab (λh=>hc h.1)];have:(chkD g l dg x q m d k0 k1 k2 != 0)=true:=by simp [hc]
  rw [this];rfl
theorem Rz {g l:Bool} {dg:aa} {x:Int} (c:okY g l dg x 0) (m d:aa) (k0 k1 k2:Int):
  ∃r,lL 20000000 g l dg x 0 m d k0 k1 k2=some r/\(r=1/\hasF g dg x m d\/r=0/\¬hasF g dg x m d):=by
 have F:=iN c;obtain ⟨lo,hi,B,R,P,H⟩:=Ac c;obtain ⟨O,D,J⟩:=GI c;have u:=P2 19999700 g l dg x 0 (by omega) c;unfold lL;rw [show (20000000:Nat)=19999700+300 from rfl,u];simp only [ob];generalize (sgn g (oH g dg x 0)).1=a at *;generalize (sgn g (oH g dg x 0)).2=b at *;have Q:=B a O;have hb':=B b D;have I:=λy=>Xg 19999700 c y;have step:∀i y,((List.range (b - a+1).toNat).map (λj:Nat=>a+(j:Int)))[i]?=some y->i<(b - a+1).toNat/\y=a+(i:Int):=by
  intro i y h;rw [nr] at h;cases w:(List.range (b - a+1).toNat)[i]? with
  | none=>rw [w] at h;cases h
  | some j=>
   rw [w] at h;have hi:=qX.1 w;obtain ⟨A,C⟩:=hi;rw [List.getElem_range] at C;rw [List.length_range] at A;subst C;exact ⟨A,(bm h).symm⟩
 have p:((List.range (b - a+1).toNat).map (λj:Nat=>a+(j:Int))).length=(b - a+1).toNat:=by simp
 have:=vh (step:=gx (19999700+300)) (f:=λi=>(b,a+(i:Int),g,l,dg,x,0,m,d,k0,k1,k2)) (L:=(List.range (b - a+1).toNat).map (λj:Nat=>a+(j:Int))) (G:=λy=>if inP g dg x 0 y/\wu m d y≠[] then some (.inl 1) else none) (e:=.inr ())
  (λi y h=>by
   obtain ⟨hi,rfl⟩:=step i y h;have K:IntKind.wrap .i64 (a+(i:Int)+1)=a+((i+1:Nat):Int):=by rw [wrap_i64 _ (by omega) (by omega)];omega
   unfold gx;simp only [d4,d8,K];rw [aq (show a+(i:Int)<=b by omega),I,JD (19999700+300) (by omega)];by_cases o:inP g dg x 0 (a+(i:Int))
   ·rw [ae o];by_cases n:wu m d (a+(i:Int))=[]
    ·rw [ab (λh=>h.2 n),n];rfl
    ·rw [ae ⟨o,n⟩];have hp:0<(wu m d (a+(i:Int))).length:=List.length_pos_iff.2 n;have E:decide ((((wu m d (a+(i:Int))).length:Nat):Int)>0)=true:=aq (by omega);simp only [ah,ob,E];rfl
   ·rw [ab o,ab (λh=>o h.1)];rfl)
  (by
   unfold gx;simp only [d4,d8];rw [p,ar (show ¬a+(((b - a+1).toNat:Nat):Int)<=b by omega)];rfl)
  (N:=19999700+300) (by rw [p];omega)
 rw [show a+((0:Nat):Int)=a by omega] at this;rw [this];cases q:(List.findSome? (λy=>if inP g dg x 0 y/\wu m d y≠[] then some (Sum.inl (1:Int)) else none) ((List.range (b - a+1).toNat).map (λj:Nat=>a+(j:Int))):Option (Int⊕Unit)) with
 | none=>
  refine ⟨0,rfl,.inr ⟨rfl,?_⟩⟩;rintro ⟨e,s,v⟩;rw [SC] at q;have hs:=J e s;have:=q e (eG.2 ⟨(e - a).toNat,jA.2 (by omega),by omega⟩);rw [ae ⟨s,v⟩] at this;cases this
 | some z=>
  obtain ⟨y,M,k⟩:=List.exists_of_findSome?_eq_some q;by_cases t:inP g dg x 0 y/\wu m d y≠[]
  ·rw [ae t] at k;obtain rfl:=bm k;exact ⟨1,rfl,.inl ⟨rfl,y,t.1,t.2⟩⟩
  ·rw [ab t] at k;cases k
theorem GZ {g l:Bool} {dg:aa} {x q:Int} {m d:aa} {k0 k1 k2:Int} (f:dg.length<=100) (p:0<=k0) (k:0<=k1) (s:0<=k2):
  kD 20000000 g l dg x q m d k0 k1 k2=some (chkF g l dg x q m d k0 k1 k2):=by
 unfold kD chkF;rw [Gh 20000000 (by omega) g l dg x q m d k0 k1 k2 f p k s];simp only [ob];by_cases hc:chkD g l dg x q m d k0 k1 k2=0
 ·obtain ⟨a,o,u,j,c⟩:=pX hc;rw [hc];by_cases b:d=[]
  ·subst b;rw [ab (by simp)];rfl
  ·have e:q=0:=by
    have:=Qh a;by_cases h:0<q
    ·exact absurd (j h) (c b).1
    ·omega
   subst e;obtain ⟨r,n,t⟩:=Rz a m d k0 k1 k2;rw [gi b,n];rcases t with ⟨rfl,i⟩ | ⟨rfl,i⟩
   ·rw [ab (λh=>h.2.2 i)];rfl
   ·rw [ae ⟨rfl,b,i⟩];rfl
 ·rw [ab (λh=>hc h.1)];have:(chkD g l dg x q m d k0 k1 k2==0)=false:=aI.2 hc;rw [this];rfl
theorem mR {g l:Bool} {dg:aa} {x q:Int} {m d:aa} {k0 k1 k2:Int} (h:chkF g l dg x q m d k0 k1 k2=0):chkD g l dg x q m d k0 k1 k2=0:=by
 unfold chkF at h;split at h
 ·cases h
 ·exact h
theorem bne0 {e:Int} (h:e≠0):(e != 0)=true:=by simp [h]
theorem HC {m d:aa} {y:Int} {z:Int×Int×Int}:z∈wu m d y↔z.1=y/\z.2.1∈monI m/\z.2.2∈dayI d/\z.2.2<=wz d y z.2.1:=by
 unfold wu wg;simp only [List.mem_flatMap,eG,mg,cg];constructor
 ·rintro ⟨f,a,k,⟨b,c⟩,rfl⟩;exact ⟨rfl,a,b,c⟩
 ·rintro ⟨e,a,b,c⟩;exact ⟨z.2.1,a,z.2.2,⟨b,c⟩,by rw [<-e]⟩
theorem Ur (y:Int) (i:Nat):(minL i:Int)<=lenI y (i:Int):=by
 unfold minL lenI
 repeat' split
 all_goals omega
theorem RN {g l:Bool} {dg:aa} {x:Int} (c:okY g l dg x 0) {m d:aa} (p:m≠[]) (hs:sea m=0) (h:d≠[]) (a:fitD m d=true):hasF g dg x m d:=by
 obtain ⟨n,_,_⟩:=GI c;refine ⟨_,n,?_⟩;unfold fitD at a;simp only [tf,az] at a;obtain ⟨i,hi,q,k,o,b⟩:=a;have hi':=uk.1 hi;have hk':=uk.1 o;have j:minL i<=31:=by
  unfold minL
  repeat' split
  all_goals omega
 have f:((sgn g (oH g dg x 0)).1,(i:Int),(k:Int))∈wu m d (sgn g (oH g dg x 0)).1:=by
  rw [HC];refine ⟨rfl,?_,?_,?_⟩
  ·unfold monI;rw [ab p,ab (by omega)];exact eG.2 ⟨i,mg.2 ⟨hi,q⟩,rfl⟩
  ·unfold dayI;rw [ab h];exact eG.2 ⟨k,mg.2 ⟨uk.2 (by omega),b⟩,rfl⟩
  ·unfold wz;rw [ab h];have:=Ur (sgn g (oH g dg x 0)).1 i;show (k:Int)<=lenI (sgn g (oH g dg x 0)).1 (i:Int);omega
 intro e;rw [e] at f;cases f
theorem Jf {g l:Bool} {dg:aa} {x q:Int} {m d:aa} {k0 k1 k2:Int} (hc:chkD g l dg x q m d k0 k1 k2=0) (i:d=[]\/fitD m d=true):chkF g l dg x q m d k0 k1 k2=0:=by
 obtain ⟨a,n,p,j,b⟩:=pX hc;unfold chkF;rw [ab,hc];rintro ⟨_,e,k⟩;obtain ⟨f,o⟩:=b e;have c:q=0:=by
  have:=Qh a;by_cases h:0<q
  ·exact absurd (j h) f
  ·omega
 subst c;exact k (RN a f o e (i.resolve_left e))
def plN (P:Nat×Nat×Nat) (i:Nat):Nat:=if i=0 then P.1 else if i=1 then P.2.1 else P.2.2
theorem AX {g l:Bool} {dg:aa} {x q:Int} {m d:aa} {k0 k1 k2:Int} (a:allM k0 k1 k2 (br m d)=0):chkF g l dg x q m d k0 k1 k2=0\/chkF g l dg x q m d k0 k1 k2=6\/chkF g l dg x q m d k0 k1 k2=7\/chkF g l dg x q m d k0 k1 k2=8:=by
 unfold chkF;split
 ·exact .inr (.inr (.inr rfl))
 ·exact MI a
noncomputable def chkR (r:DR):Nat:=(chkF r.1 r.2.1 r.2.2.1 (r.2.2.2.1:Int) (r.2.2.2.2.1:Int) r.2.2.2.2.2.1 r.2.2.2.2.2.2.1 (r.2.2.2.2.2.2.2.1.1:Int) (r.2.2.2.2.2.2.2.1.2.1:Int) (r.2.2.2.2.2.2.2.1.2.2:Int)).toNat
noncomputable def fL (S:aa) (a:Nat):(Nat×Nat×Nat)⊕DR:=
 match sj S a with
 | .inl k=>.inl (k,5,k)
 | .inr r=>if chkR r=0 then .inr r else .inl (plN r.2.2.2.2.2.2.2.2.1 (chkR r - 6),chkR r,r.2.2.2.2.2.2.2.2.2)
def Wc (S:aa):(Nat×Nat×Nat)⊕DR->(Int×Int×aa×Int)⊕(Bool×Bool×aa×Int×Int×aa×aa×Int×Int×Int×Int×aa×Int)
 | .inl (k,E,p)=>.inl ((k:Int),(E:Int),S,(p:Int))
 | .inr (g,l,dg,x,s,m,d,M,P,e)=>.inr (g,l,dg,(x:Int),(s:Int),m,d,(M.1:Int),(M.2.1:Int),(M.2.2:Int),(P.1:Int),S,(e:Int))
theorem Gs (S:aa) (a:Nat) (h:a<=S.length) (i:S.length<100000):iS 20000000 S (a:Int)=some (Wc S (fL S a)):=by
 have n:kg 20000000 S (a:Int)=_:=VE 19999700 S a h i (by omega);unfold iS fL;rw [n];cases o:sj S a with
 | inl k=>rfl
 | inr r=>
  obtain ⟨g,l,dg,x,s,f,d,M,P,e⟩:=r;have b:=Ju h o;have p:=b.all;have t:=b.m2;have j:=b.dg17;simp only [ob,YG,d4,d8];rw [xa (g:=g) (l:=l) (x:=(x:Int)) (q:=(s:Int)) (d:=d) (show f.length<=18 by omega) (show dg.length<=100 by omega) (show (0:Int)<=(M.1:Int) by omega) (show (0:Int)<=(M.2.1:Int) by omega) (show (0:Int)<=(M.2.2:Int) by omega)];simp only [ob];have c:=AX (g:=g) (l:=l) (dg:=dg) (x:=(x:Int)) (q:=(s:Int)) (m:=f) (d:=d) (k0:=(M.1:Int)) (k1:=(M.2.1:Int)) (k2:=(M.2.2:Int)) (xR p);unfold chkR;simp only [];rcases c with hc | hc | hc | hc<;>rw [hc]<;>rfl
def dayY (y:Int):Int:=365*y+(1+(y - 1) / 4 - (y - 1) / 100+(y - 1) / 400)
def cumM (y:Int):Nat->Int
 | 0=>0
 | k+1=>cumM y k+lenI y ((k+1:Nat):Int)
def dayM (y:Int) (m:Nat):Int:=if m<=12 then dayY y+cumM y (m - 1) else dayY (y+1)+cumM (y+1) (m - 13)
theorem zn (y:Int):dayY (y+1)=dayY y+365+(if tP y then 1 else 0):=by
 unfold dayY tP;simp only [az,ip,cg];split<;>omega
theorem HT (n:Int):dayY (400*n)=146097*n:=by
 unfold dayY;omega
theorem kT {y:Int} (h:-20000000000000000<=y/\y<=20000000000000000):-8000000000000000000<=dayY y/\dayY y<=8000000000000000000:=by
 unfold dayY;omega
theorem YP (y:Int):cumM y 12=365+(if tP y then 1 else 0):=by
 have e:∀k:Nat,cumM y (k+1)=cumM y k+lenI y ((k+1:Nat):Int):=λ_=>rfl;have z:cumM y 0=0:=rfl;rw [e 11,e 10,e 9,e 8,e 7,e 6,e 5,e 4,e 3,e 2,e 1,e 0,z];unfold lenI;cases tP y<;>rfl
theorem rX (y:Int):∀k:Nat,0<=cumM y k/\cumM y k<=31*(k:Int)
 | 0=>by simp [cumM]
 | k+1=>by
  have b:=rX y k;have a:=jN y ((k+1:Nat):Int);show 0<=cumM y k+lenI y ((k+1:Nat):Int)/\cumM y k+lenI y ((k+1:Nat):Int)<=_;omega
theorem pD {y:Int} (h:ej y) {m:Nat} (a:m<=24):-8100000000000000000<=dayM y m/\dayM y m<=8100000000000000000:=by
 unfold ej at h;unfold dayM;split
 ·have:=rX y (m - 1);have:=kT (y:=y) (by omega);omega
 ·have:=rX (y+1) (m - 13);have:=kT (y:=y+1) (by omega);omega
theorem Uy (y:Int):dayM y 13=dayY (y+1):=by
 unfold dayM;rw [ab (by omega)];simp [cumM]
theorem zu (y:Int) {m:Nat} (b:1<=m) (a:m<=12):dayM y (m+1)=dayM y m+lenI y (m:Int):=by
 obtain ⟨k,rfl⟩:∃k,m=k+1:=⟨m - 1,by omega⟩;have e:dayM y (k+1)=dayY y+cumM y k:=by unfold dayM;rw [ae (by omega)];rfl
 rw [e];by_cases h:k+1=12
 ·obtain rfl:k=11:=by omega
  rw [Uy,zn];have:=YP y;have e:cumM y 12=cumM y 11+lenI y ((11+1:Nat):Int):=rfl;omega
 ·have:dayM y (k+1+1)=dayY y+cumM y (k+1):=by unfold dayM;rw [ae (by omega)];rfl
  rw [this];show dayY y+(cumM y k+lenI y ((k+1:Nat):Int))=_;omega
theorem uW (y:Int) {m:Nat} (b:1<=m) (a:m<=12):dayM y (m+12)=dayM (y+1) m:=by
 unfold dayM;rw [ab (by omega),ae a];congr 2
theorem tG (n:Nat) {y:Int} (h:-10000000000000001<=y/\y<=10000000000000001):mi n y=some (dayY y):=by
 have a:=kT (y:=y) (by omega);unfold mi;rw [yv n (by omega),wrap_i64 (365*y) (by omega) (by omega)];show some (IntKind.wrap .i64 (dayY y))=_;rw [wrap_i64 _ (by omega) (by omega)]
theorem tu (n:Nat) {y:Int} (h:ej y):l8 n y=some (dayY y,0):=by
 unfold l8;have h':=h;unfold ej at h';rw [gA,ae h,tG n (by omega)];rfl
theorem DJ (n:Nat) {y:Int} (h:ej y):uA n y=some (dayY (y+1) - 1,0):=by
 unfold uA;have h':=h;unfold ej at h';have a:=kT (y:=y+1) (by omega);rw [gA,ae h,wrap_i64 (y+1) (by omega) (by omega),tG n (by omega)];show some (IntKind.wrap .i64 (dayY (y+1) - 1),(0:Int))=_;rw [wrap_i64 _ (by omega) (by omega)]
theorem G7 (n:Nat) {y:Int} (h:ej y) {m:Nat} (d:m<=11):∀(r j:Nat),j+r=m->∀N,r<N->aw (bL n) N (y,dayY y+cumM y j,(m:Int),(j:Int))=some (dayY y+cumM y m):=by
 have h':=h;unfold ej at h';have c:=kT (y:=y) (by omega);intro r
 induction r with
 | zero=>
  intro j a N b;obtain ⟨N,rfl⟩:∃k,N=k+1:=⟨N - 1,by omega⟩;obtain rfl:j=m:=by omega
  have:bL n (y,dayY y+cumM y j,(j:Int),(j:Int))=some (.inr (dayY y+cumM y j)):=by
   unfold bL;rw [bE,ab (show ¬((j:Int)<(j:Int)) by omega)]
  rw [aw,this]
 | succ r ih=>
  intro j a N b;obtain ⟨N,rfl⟩:∃k,N=k+1:=⟨N - 1,by omega⟩;have w:IntKind.wrap .i64 ((j:Int)+1)=((j+1:Nat):Int):=by rw [wrap_i64 _ (by omega) (by omega)];omega
  have hc:=rX y j;have e:=jN y ((j+1:Nat):Int);have:bL n (y,dayY y+cumM y j,(m:Int),(j:Int))=some (.inl (y,dayY y+cumM y (j+1),(m:Int),((j+1:Nat):Int))):=by
   unfold bL;rw [bE,ae (show ((j:Int)<(m:Int)) by omega)];simp only [w,xX n h (show 1<=j+1 by omega) (show j+1<=12 by omega),ob];rw [wrap_i64 (dayY y+cumM y j+lenI y ((j+1:Nat):Int)) (by omega) (by omega),Int.add_assoc];rfl
  rw [aw,this];exact ih (j+1) (by omega) N (by omega)
theorem uM (n:Nat) (c:100<n) {y:Int} (h:ej y) {m:Nat} (b:1<=m) (a:m<=12):fJ n y (m:Int)=some (dayM y m,0):=by
 unfold fJ;have w:IntKind.wrap .i64 ((m:Int) - 1)=((m - 1:Nat):Int):=by rw [wrap_i64 _ (by omega) (by omega)];omega
 rw [Hz n h b a,tu n h,w];have:=G7 n h (m:=m - 1) (by omega) (m - 1) 0 (by omega) n (by omega);rw [show dayY y+cumM y 0=dayY y by simp [cumM]] at this;show ob (aw (bL n) n (y,dayY y,((m - 1:Nat):Int),((0:Nat):Int))) _=_;rw [this];unfold dayM;rw [ae a];rfl
theorem FM (n:Nat) (c:100<n) {y:Int} (h:ej y) {m:Nat} (a:1<=m) (b:m<=12):ic n y (m:Int)=some (dayM y (m+1) - 1,0):=by
 unfold ic;have d:=pD h (m:=m) (by omega);have e:=jN y (m:Int);rw [uM n c h a b,xX n h a b,zu y a b];show some (IntKind.wrap .i64 (IntKind.wrap .i64 (dayM y m+lenI y (m:Int)) - 1),(0:Int))=_;rw [wrap_i64 (dayM y m+lenI y (m:Int)) (by omega) (by omega),wrap_i64 _ (by omega) (by omega)]
theorem Jy (n:Nat) (b:100<n) {y:Int} (h:ej y) {j m c:Nat} (k:j<21) (e:oy[j]?=some ((m:Int),(c:Int))) (f:1<=m) (g:m<=12) (l:1<=c) (i:c<=6) (hy:12<m+c - 1->y≠10000000000000000):
  iD n y ((21+j:Nat):Int)=some (0,dayM y m,0,dayM y (m+c) - 1,0):=by
 have o:fK n ((21+j:Nat):Int)=some ((m:Int),(c:Int),0):=by
  unfold fK dT;rw [bE,bE,ab (by omega),ab (by omega)];have:IntKind.wrap .i64 (((21+j:Nat):Int) - 21)=(j:Int):=by rw [wrap_i64 _ (by omega) (by omega)];omega
  rw [this,dk k];show ob (oy[j]?) _=_;rw [e];rfl
 unfold iD;rw [o];simp only [ob,fC,af];rw [uM n b h f g];simp only [ob,fC,af];rw [madd n h f g l i];have h':=h;unfold ej at h';by_cases a:12<m+c - 1
 ·rw [ae a,ab (hy a)];have d:ej (y+1):=by unfold ej;have:=hy a;omega
  simp only [ob,fC,af];rw [FM n b d (m:=m+c - 1 - 12) (by omega) (by omega)];have:=uW y (m:=m+c - 1 - 12+1) (by omega) (by omega);rw [show m+c - 1 - 12+1+12=m+c by omega] at this;rw [this]
 ·rw [ab a];simp only [ob,fC,af];rw [FM n b h (m:=m+c - 1) (by omega) (by omega),show m+c - 1+1=m+c by omega]
theorem AH (n:Nat) {y:Int} (hy:-10000000000000002<=y/\y<=10000000000000002):∀(r:Nat) (z:Int),z+(r:Int)=y->-10000000000000402<=z->∀N,r<N->aw (dh n) N (y,dayY z,z)=some (dayY y):=by
 intro r
 induction r with
 | zero=>
  intro z c a N e;obtain ⟨N,rfl⟩:∃k,N=k+1:=⟨N - 1,by omega⟩;obtain rfl:z=y:=by omega
  have:dh n (z,dayY z,z)=some (.inr (dayY z)):=by
   unfold dh;rw [bE,ab (show ¬(z<z) by omega)]
  rw [aw,this]
 | succ r ih=>
  intro z c a N e;obtain ⟨N,rfl⟩:∃k,N=k+1:=⟨N - 1,by omega⟩;have f:=kT (y:=z) (by omega);have b:=zn z;have:dh n (y,dayY z,z)=some (.inl (y,dayY (z+1),z+1)):=by
   unfold dh;rw [bE,ae (show z<y by omega),Bt];have d:lenI z 2=if tP z then 29 else 28:=rfl
   simp only [ob,d];rw [wrap_i64 (dayY z+365) (by omega) (by omega),wrap_i64 (dayY z+365+1) (by omega) (by omega),wrap_i64 (z+1) (by omega) (by omega),b];cases tP z
   ·simp
   ·rfl
  rw [aw,this];exact ih (z+1) (by omega) (by omega) N (by omega)
theorem sP (n:Nat) (e:1000<n) {y:Int} (hy:-10000000000000002<=y/\y<=10000000000000002):cn n y=some (dayY y):=by
 have b:=Int.mul_tdiv_add_tmod y 400;have d:Int.tmod y 400=if 0<=y then y%400 else -((-y)%400):=by
  by_cases h:0<=y
  ·rw [ae h,M6 h]
  ·rw [ab h,<-M6 (show 0<=-y by omega),Int.neg_tmod,Int.neg_neg]
 unfold cn;by_cases a:Int.tmod y 400<0
 ·rw [aq a];have c:Int.tdiv y 400 - 1=y / 400:=by
   rw [d] at a b;split at a
   ·omega
   ·rw [ab (by assumption)] at b;omega
  rw [wrap_i64 (Int.tdiv y 400) (by omega) (by omega),c,wrap_i64 (y / 400) (by omega) (by omega),wrap_i64 (y / 400*146097) (by omega) (by omega),wrap_i64 (y / 400*400) (by omega) (by omega)];have:=AH n hy (y - y / 400*400).toNat (y / 400*400) (by omega) (by omega) n (by omega);rw [show dayY (y / 400*400)=y / 400*146097 by rw [AY,HT,AY]] at this;simp only [ah,this,ob]
 ·rw [ar a];have c:Int.tdiv y 400=y / 400:=by
   rw [d] at a b;split at a
   ·rw [ae (by assumption)] at b;omega
   ·rw [ab (by assumption)] at b;omega
  rw [c,wrap_i64 (y / 400) (by omega) (by omega),wrap_i64 (y / 400*146097) (by omega) (by omega),wrap_i64 (y / 400*400) (by omega) (by omega)];have:=AH n hy (y - y / 400*400).toNat (y / 400*400) (by omega) (by omega) n (by omega);rw [show dayY (y / 400*400)=y / 400*146097 by rw [AY,HT,AY]] at this;simp only [af,this,ob]
theorem yK {step:Int×Int×Int×Int->Option ((Int×Int×Int×Int)⊕Int)} (n:Nat)
  (hs:step=λx=>(cond (decide (x.2.2.2<x.2.1)) (ob (eQ n x.1 x.2.2.2) λr=>(some (.inl (x.1,x.2.1,(IntKind.wrap .i64 (x.2.2.1+r)),(IntKind.wrap .i64 (x.2.2.2+1)))))) (some (.inr x.2.2.1))))
  {y:Int} (hy:-10000000000000002<=y/\y<=10000000000000002) {m:Nat} (f:1<=m) (c:m<=12) {N:Nat} (a:20<N):aw step N (y,(m:Int),dayY y,1)=some (dayM y m):=by
 have g:=kT (y:=y) (by omega);have d:∀(r j:Nat),j+1+r=m->∀N,r<N->aw step N (y,(m:Int),dayY y+cumM y j,((j+1:Nat):Int))=some (dayY y+cumM y (m - 1)):=by
  intro r
  induction r with
  | zero=>
   intro j b N a;obtain ⟨N,rfl⟩:∃k,N=k+1:=⟨N - 1,by omega⟩;obtain rfl:j+1=m:=by omega
   have:step (y,((j+1:Nat):Int),dayY y+cumM y j,((j+1:Nat):Int))=some (.inr (dayY y+cumM y j)):=by
    rw [hs];simp only [];rw [ar (show ¬(((j+1:Nat):Int)<((j+1:Nat):Int)) by omega)];rfl
   rw [aw,this];rfl
  | succ r ih=>
   intro j b N a;obtain ⟨N,rfl⟩:∃k,N=k+1:=⟨N - 1,by omega⟩;have w:IntKind.wrap .i64 (((j+1:Nat):Int)+1)=((j+1+1:Nat):Int):=by rw [wrap_i64 _ (by omega) (by omega)];omega
   have hc:=rX y j;have h:=jN y ((j+1:Nat):Int);have:step (y,(m:Int),dayY y+cumM y j,((j+1:Nat):Int))=some (.inl (y,(m:Int),dayY y+cumM y (j+1),((j+1+1:Nat):Int))):=by
    rw [hs];simp only [];rw [aq (show (((j+1:Nat):Int)<(m:Int)) by omega),Bt];simp only [ah,ob,w];rw [wrap_i64 (dayY y+cumM y j+lenI y ((j+1:Nat):Int)) (by omega) (by omega),Int.add_assoc];rfl
   rw [aw,this];exact ih (j+1) (by omega) N (by omega)
 have:=d (m - 1) 0 (by omega) N (by omega);rw [show dayY y+cumM y 0=dayY y by simp [cumM]] at this;have e:dayM y m=dayY y+cumM y (m - 1):=by unfold dayM;rw [ae c]
 rw [e];exact this
theorem rC (n:Nat) (a:1000<n) {y:Int} (hy:-10000000000000001<=y/\y<=10000000000000001) {m:Nat} (c:1<=m) (b:m<=24):aS n y (m:Int)=some (dayM y m):=by
 unfold aS;by_cases h:12<m
 ·rw [aq (show (m:Int)>12 by omega),wrap_i64 (y+1) (by omega) (by omega),wrap_i64 ((m:Int) - 12) (by omega) (by omega),show (m:Int) - 12=((m - 12:Nat):Int) by omega];unfold kL;rw [ar (show ¬((m - 12:Nat):Int)>12 by omega),sP n a (by omega)];simp only [ah,af,ob];have:=yK (step:=ji n) n rfl (y:=y+1) (by omega) (m:=m - 12) (by omega) (by omega) (N:=n) (by omega);rw [this,<-uW y (by omega) (by omega),show m - 12+12=m by omega]
 ·rw [ar (show ¬(m:Int)>12 by omega),sP n a (by omega)];simp only [af,ob];have:=yK (step:=kJ n) n rfl (y:=y) (by omega) (m:=m) (by omega) (by omega) (N:=n) (by omega);rw [this]
def twoV (s:aa):Nat:=match s with
 | [a,b]=>10*(a.toNat - 48)+(b.toNat - 48)
 | _=>0
def yOf (g:Bool) (dg:aa) (x:Int):Int:=if g then -((val dg x.toNat:Nat):Int) else ((val dg x.toNat:Nat):Int)
def spF (m:aa):Nat:=((oy.getD (sea m - 21).toNat (0,0)).1).toNat
def spC (m:aa):Nat:=((oy.getD (sea m - 21).toNat (0,0)).2).toNat
def oN (g:Bool) (dg:aa) (x:Int) (m d:aa):Int×Int:=
 if m=[] then (dayY (yOf g dg x),dayY (yOf g dg x+1) - 1)
 else if 0<sea m then (dayM (yOf g dg x) (spF m),dayM (yOf g dg x) (spF m+spC m) - 1)
 else if d=[] then (dayM (yOf g dg x) (twoV m),dayM (yOf g dg x) (twoV m+1) - 1)
 else (dayM (yOf g dg x) (twoV m)+(twoV d:Int) - 1,dayM (yOf g dg x) (twoV m)+(twoV d:Int) - 1)
def exD (dg m d:aa) (q:Int):Bool:=!(hasX dg||(hasX m||hasX d))&&(q==0)
theorem S1 {s:aa} (h:hasX s=false) {c:UInt8} (hc:c∈s):c≠88:=by
 rintro rfl;unfold hasX at h;rw [ta] at h;exact h 88 hc (by decide)
theorem NT {s:aa} (h:hasX s=false) {k:Nat} (l:k<100) (c:agr s k=true):twoV s=k/\s=two k:=by
 unfold agr at c;split at c
 ·rename_i a b;have f:a≠88:=S1 h (by simp);have d:b≠88:=S1 h (by simp);simp only [az,ip,bp] at c;obtain ⟨e,g⟩:=c;have e:=e.resolve_left f;have g:=g.resolve_left d;subst e g;refine ⟨?_,rfl⟩;unfold twoV;have j:(UInt8.ofNat (48+k / 10)).toNat=48+k / 10:=by simp;omega
  have i:(UInt8.ofNat (48+k%10)).toNat=48+k%10:=by simp;omega
  simp only [j,i];omega
 ·cases c
theorem AE {s:aa} (h:hasX s=false) {g:Nat} (d:g<100) (a:ef s g=true):1<=twoV s/\twoV s<=g/\s=two (twoV s):=by
 unfold ef at a;obtain ⟨i,hi,a⟩:=tf.1 a;have:=jA.1 hi;obtain ⟨b,c⟩:=NT h (by omega) a;rw [b];exact ⟨by omega,by omega,c⟩
theorem L2 {s:aa} (h:hasX s=false) {g:Nat} (d:g<100) {k:Int} (c:k∈uU (fitN s g)):k=(twoV s:Int):=by
 obtain ⟨i,hi,rfl⟩:=eG.1 c;obtain ⟨b,a⟩:=mg.1 hi;have:=uk.1 b;rw [(NT h (by omega) a).1]
theorem IA {k:Nat} (c:k<100):Lib.atoi (two k)=some (k:Int):=by
 have b:(UInt8.ofNat (48+k / 10)).toNat=48+k / 10:=by simp;omega
 have a:(UInt8.ofNat (48+k%10)).toNat=48+k%10:=by simp;omega
 unfold two;rw [Js (by omega) (by omega),b,a];congr 2;omega
theorem zU (n:Nat) {k:Nat} (d:k<100):aZ n (two k)=some (k:Int):=by
 have c:(UInt8.ofNat (48+k / 10)).toNat=48+k / 10:=by simp;omega
 have a:(UInt8.ofNat (48+k%10)).toNat=48+k%10:=by simp;omega
 have s0:sx (two k) 0=some (UInt8.ofNat (48+k / 10)):=rfl;have b:sx (two k) 1=some (UInt8.ofNat (48+k%10)):=rfl;unfold aZ;rw [s0,b];simp only [ob,c,a]
 rw [fU (((48+k / 10:Nat):Int) - 48) (by omega) (by omega),fU (((48+k%10:Nat):Int) - 48) (by omega) (by omega),
  wrap_i64 (((48+k / 10:Nat):Int) - 48) (by omega) (by omega),wrap_i64 (((48+k%10:Nat):Int) - 48) (by omega) (by omega),
  wrap_i64 (10*(((48+k / 10:Nat):Int) - 48)) (by omega) (by omega),wrap_i64 _ (by omega) (by omega)]
 congr 1;omega
structure Exact (g l:Bool) (dg:aa) (x:Int) (m d:aa):Prop where
 ok:okY g l dg x 0
 num:hasX dg=false
 cal:ej (yOf g dg x)
 mon:m=[]\/(∃j,j<21/\m=two (21+j)/\(j=3\/j=7\/j=9->yOf g dg x≠10000000000000000))\/(sea m=0/\1<=twoV m/\twoV m<=12/\m=two (twoV m))
 day:d=[]\/(m≠[]/\sea m=0/\1<=twoV d/\twoV d<=31/\d=two (twoV d)/\(twoV d:Int)<=lenI (yOf g dg x) (twoV m:Int))
theorem xb {g l:Bool} {dg:aa} {x q:Int} {m d:aa} {k0 k1 k2:Int} (hc:chkF g l dg x q m d k0 k1 k2=0) (o:exD dg m d q=true):q=0/\Exact g l dg x m d:=by
 unfold exD at o;simp only [az,jW,oV,bp] at o;obtain ⟨⟨v,s,k⟩,rfl⟩:=o;refine ⟨rfl,?_⟩;have B:=mR hc;obtain ⟨a,O,J,Q,t⟩:=pX B;obtain ⟨f,P,H,R⟩:=DN B;have n:=Gm a v;obtain ⟨F,_,_⟩:=GI a;have hy:inP g dg x 0 (yOf g dg x):=by
  have:=(n _).1 F;have e:yOf g dg x=(sgn g (oH g dg x 0)).1:=by rw [this];rfl
  rw [e];exact F
 have p:=CQ hy;refine ⟨a,v,p,?_,?_⟩
 ·by_cases i:m=[]
  ·exact .inl i
  ·right;rcases pQ m with N | ⟨j,G,e⟩
   ·right;rcases P with h | h | h
    ·exact absurd h i
    ·omega
    ·obtain ⟨a1,a2,C⟩:=AE s (by omega) h;exact ⟨N,a1,a2,C⟩
   ·left;refine ⟨j,G,e,λI=>?_⟩;unfold yrD at f;rw [ae a] at f;unfold yrB at f;simp only [az,jW] at f;have y:wint (sea m)=true:=by
     rw [e,lA G];rcases I with rfl | rfl | rfl<;>rfl
    have r:=f.2;rw [y,qZ] at r;unfold rn at r;rw [v] at r;intro b;unfold yOf at b;cases g with
    | true=>
     simp only [aM] at b;omega
    | false=>
     simp only [bz,aE] at b;have:val dg x.toNat=E16:=by unfold E16;omega
     rw [aq this] at r;cases r
 ·by_cases c:d=[]
  ·exact .inl c
  ·right;obtain ⟨i,hs⟩:=t c;rcases H with h | ⟨_,_,h⟩
   ·exact absurd h c
   ·obtain ⟨a1,a2,C⟩:=AE k (by omega) h;refine ⟨i,hs,a1,a2,C,?_⟩;have M:hasF g dg x m d:=by
     unfold chkF at hc;split at hc
     ·cases hc
     ·rename_i K;by_cases h:hasF g dg x m d
      ·exact h
      ·exact absurd ⟨B,c,h⟩ K
    obtain ⟨e,o,E⟩:=M;obtain ⟨z,L,w⟩:=List.exists_cons_of_ne_nil E;have w:z∈wu m d e:=by rw [w];exact nl
    obtain ⟨z1,z2,u,A⟩:=HC.1 w;have D:e=yOf g dg x:=(n e).1 o;unfold monI at z2;rw [ab i,ab (by omega)] at z2;unfold dayI at u;rw [ab c] at u;unfold wz at A;rw [ab c,L2 k (by omega) u,L2 s (by omega) z2,D] at A;exact A
theorem Gp {j:Nat} (a:j<21):∃f c:Nat,oy[j]?=some ((f:Int),(c:Int))/\1<=f/\f<=12/\1<=c/\c<=6/\(12<f+c - 1↔j=3\/j=7\/j=9)/\spF (two (21+j))=f/\spC (two (21+j))=c:=by
 obtain ⟨f,c,e,h,i,k,d,g⟩:=I4 a;have hs:(sea (two (21+j)) - 21).toNat=j:=by rw [lA a];omega
 have b:oy.getD j (0,0)=((f:Int),(c:Int)):=by rw [E9,e];rfl
 refine ⟨f,c,e,h,i,k,d,g,?_,?_⟩
 ·unfold spF;rw [hs,b];rfl
 ·unfold spC;rw [hs,b];rfl
theorem EO (n:Nat) {j:Nat} (a:j<21):ib n ((21+j:Nat):Int)=oy[j]?:=by
 have:j=0\/j=1\/j=2\/j=3\/j=4\/j=5\/j=6\/j=7\/j=8\/j=9\/j=10\/j=11\/j=12\/j=13\/j=14\/j=15\/j=16\/j=17\/j=18\/j=19\/j=20:=by omega
 rcases this with rfl | rfl | rfl | rfl | rfl | rfl | rfl | rfl | rfl | rfl | rfl | rfl | rfl | rfl | rfl | rfl | rfl | rfl | rfl | rfl | rfl<;>rfl
theorem HH (n:Nat) (g l:Bool) (dg:aa) (x q:Int) (m d:aa) (k0 k1 k2:Int) (a:m.length<=1000) (b:dg.length<=1000) (h:d.length<=1000):mI n g l dg x q m d k0 k1 k2=some (exD dg m d q):=by
 unfold mI exD;rw [Dz n g l dg x q m d k0 k1 k2 a b h];simp only [ob];cases (hasX dg||(hasX m||hasX d))<;>rfl
theorem S4 {Y:Type} (a b:Y):∀s:aa,((s.findSome? λc=>if c=88 then some a else none).getD b)=if hasX s then a else b
 | []=>rfl
 | c::s=>by
  have ih:=S4 a b s;unfold hasX at ih ⊢;rw [EN,rh];by_cases hc:c=88
  ·subst hc;rfl
  ·rw [ab hc];have e:(c==88)=false:=aI.2 hc;rw [e,oO];exact ih
theorem zI (n:Nat) (s:aa) (g l:Bool) (dg:aa) (x q:Int) (m d:aa) (k0 k1 k2:Int) (hs:s.length<=100000) {N:Nat} (j:s.length<N):
  aw (eH n) N (s,0,g,l,dg,x,q,m,d,k0,k1,k2)=some (if hasX s then .inl 0 else .inr (g,l,dg,x,q,m,d,k0,k1,k2)):=by
 have:=vh (step:=eH n) (f:=λi=>(s,(i:Int),g,l,dg,x,q,m,d,k0,k1,k2)) (L:=s) (G:=λc=>if c=88 then some (.inl 0) else none) (e:=.inr (g,l,dg,x,q,m,d,k0,k1,k2))
  (λi c hi=>by
   have a:=(qX.1 hi).1;have b:IntKind.wrap .i64 ((i:Int)+1)=((i+1:Nat):Int):=by rw [wrap_i64 _ (by omega) (by omega)];omega
   unfold eH;simp only [d4,d8,b];rw [aq (show (i:Int)<((s.length:Nat):Int) by omega),eJ hi];simp only [ah,ob];by_cases hc:c=88
   ·subst hc;rw [ae rfl];rfl
   ·rw [ab hc];have:(((c.toNat:Nat):Int)==88)=false:=by
     rw [aI];intro h;apply hc;apply gD.1;have:c.toNat=88:=by omega
     rw [this];rfl
    rw [this];rfl)
  (by
   unfold eH;simp only [d4,d8];rw [ar (show ¬((s.length:Nat):Int)<((s.length:Nat):Int) by omega)];rfl)
  j
 rw [show ((0:Nat):Int)=0 from rfl] at this;rw [this];rw [S4]
theorem Dp (n:Nat) (g l:Bool) (dg:aa) (x q:Int) (m d:aa) (k0 k1 k2:Int) (f:m.length<=1000) (i:dg.length<=1000) (h:d.length<=1000) (e:4000<n):jd n g l dg x q m d k0 k1 k2=some (if exD dg m d q then 1 else 0):=by
 unfold jd;rw [bQ (by omega)];simp only [ob];rw [bQ (by rw [aO];omega)];simp only [];rw [zI n _ _ _ _ _ _ _ _ _ _ _ (by simp only [aO];omega) (by simp only [aO];omega)];rw [wL,wL];unfold exD;cases hasX dg<;>cases hasX m<;>cases hasX d<;>(try rfl);simp only [yF,bz,aE,ob,d4,jx,qZ];by_cases a:q=0
 ·subst a;rfl
 ·have b:(q != 0)=true:=by simp [a]
  have c:(q==0)=false:=aI.2 a;rw [b,c];rfl
theorem Vs (n:Nat) (c:100<n) {y:Int} (h:ej y) {m k:Nat} (a:1<=m) (b:m<=12) (k1:1<=k) (k2:(k:Int)<=lenI y (m:Int)):sD n y (m:Int) (k:Int)=some (dayM y m+(k:Int) - 1,0):=by
 have d:=pD h (m:=m) (by omega);have e:=jN y (m:Int);unfold sD sg;rw [OB n h a b];simp only [ob,fC,af];rw [ar (show ¬(k:Int)<1 by omega),ar (show ¬(k:Int)>lenI y (m:Int) by omega),uM n c h a b];simp only [ob,fC,af];rw [wrap_i64 (dayM y m+(k:Int)) (by omega) (by omega),wrap_i64 _ (by omega) (by omega)]
section
variable {g l:Bool} {dg:List UInt8} {x:Int} {m d:List UInt8} {k0 k1 k2:Int}
theorem G9 (n:Nat) (u:100<n) (y:m.length<=18) (E:Exact g l dg x m d) (q r:Int) (w:m≠[]->q=if 0<sea m then sea m else (twoV m:Int)) (F:d≠[]->r=(twoV d:Int)):
  (ob (jF n) λA=>(ob (bn n g l dg x 0 m d k0 k1 k2) λo=>(cond (o==0) (ob (gK n (yOf g dg x) ([q,r]:List (Int))) λi=>(some (i.1,i.2.1,i.2.2.1,i.2.2.2,(0:Int)))) (cond (o==1) (ob (gB n (yOf g dg x) ([q,r]:List (Int))) λa=>(some (a.1,a.2.1,a.2.2.1,a.2.2.2,0))) (cond (o==2) (ob (gP n (yOf g dg x) ([q,r]:List (Int))) λk=>(some (k.1,k.2.1,k.2.2.1,k.2.2.2,0))) (cond (o==3) (ob (gF n (yOf g dg x) ([q,r]:List (Int))) λb=>(some (b.1,b.2.1,b.2.2.1,b.2.2.2,0))) none)))))) =
   some (0,(oN g dg x m d).1,0,(oN g dg x m d).2,0):=by
 have M:jF n=some ():=rfl;have C:ix ([q,r]:List Int).length 0=some 0:=rfl;have J:ix ([q,r]:List Int).length 1=some 1:=rfl;have g0:([q,r]:List Int)[0]?=some q:=rfl;have I:([q,r]:List Int)[1]?=some r:=rfl;rw [M,Pl n g l dg x 0 m d k0 k1 k2 y];unfold oN;by_cases t:d=[]
 ·rw [ae t];by_cases p:m=[]
  ·have hs:sea m=0:=by rw [p];decide
   rw [ab (show ¬0<sea m by omega),ae p,ae p];unfold gB;rw [tu n E.cal,DJ n E.cal];rfl
  ·rw [ab p];by_cases hs:0<sea m
   ·rw [ae hs,ae hs];rcases E.mon with h | ⟨j,s,e,B⟩ | ⟨h,_⟩
    ·exact absurd h p
    ·obtain ⟨f,c,O,a1,a2,K,G,N,P,H⟩:=Gp s;have v:q=((21+j:Nat):Int):=by rw [w p,ae hs,e,lA s]
     unfold gK;rw [C];simp only [ob,g0];rw [v,Jy n u E.cal s O a1 a2 K G (λh=>B (N.1 h)),e,P,H];rfl
    ·omega
   ·rw [ab hs,ab hs,ab p,ae t];rcases E.mon with h | ⟨j,s,e,B⟩ | ⟨_,a1,a2,_⟩
    ·exact absurd h p
    ·rw [e,lA s] at hs;omega
    ·have v:q=(twoV m:Int):=by rw [w p,ab hs]
     unfold gP;rw [C];simp only [ob,g0];rw [v,uM n u E.cal a1 a2,FM n u E.cal a1 a2];rfl
 ·rw [ab t];rcases E.day with h | ⟨p,hs,b1,b2,Q,L⟩
  ·exact absurd h t
  ·rw [ab p,ab (show ¬0<sea m by omega),ab t];rcases E.mon with h | ⟨j,s,e,B⟩ | ⟨_,a1,a2,_⟩
   ·exact absurd h p
   ·rw [e,lA s] at hs;omega
   ·have z:q=(twoV m:Int):=by rw [w p,ab (by omega)]
    have D:=F t;unfold gF;rw [C,J];simp only [ob,g0,I];rw [z,D,Vs n u E.cal a1 a2 b1 L];rfl
theorem RU (E:Exact g l dg x m d) (c:m≠[]):Lib.atoi m=some (if 0<sea m then sea m else (twoV m:Int)):=by
 rcases E.mon with h | ⟨j,a,e,_⟩ | ⟨f,a1,a2,b⟩
 ·exact absurd h c
 ·rw [e,lA a,ae (by omega)];exact xI a
 ·rw [ab (by omega)];have:=IA (k:=twoV m) (by omega);rw [<-b] at this;exact this
theorem RA (E:Exact g l dg x m d) (b:d≠[]):Lib.atoi d=some (twoV d:Int):=by
 rcases E.day with h | ⟨_,_,a1,a2,a,_⟩
 ·exact absurd h b
 ·have:=IA (k:=twoV d) (by omega);rw [<-a] at this;exact this
theorem C6:Lib.atoi []=none:=by kernel_rfl
theorem F5 {q:Int} (b:m.length<=18) (e:dg.length<=100) (t:d.length<=18) (p:0<=k0) (o:0<=k1) (r:0<=k2):
  gC 20000000 g l dg x q m d k0 k1 k2=some (if chkF g l dg x q m d k0 k1 k2=0 then (if exD dg m d q=true then (0,(oN g dg x m d).1,0,(oN g dg x m d).2,0) else (0,0,0,0,1)) else (0,0,0,0,chkF g l dg x q m d k0 k1 k2)):=by
 have n:Nat.ble m.length 18=true:=cP b;have s:Nat.ble d.length 18=true:=cP t;unfold gC;rw [xa b e p o r];simp only [ob];by_cases hc:chkF g l dg x q m d k0 k1 k2=0
 ·rw [ae hc,hc,HH 20000000 g l dg x q m d k0 k1 k2 (by omega) (by omega) (by omega)];simp only [ob,fC,af];by_cases c:exD dg m d q=true
  ·rw [ae c,c];obtain ⟨rfl,E⟩:=xb hc c;have k:eU 20000000 g l dg x 0=some (yOf g dg x,0):=by
    rw [C2 20000000 g l dg x 0 (by omega) e,ae ⟨E.ok,E.num⟩];rfl
   rw [k,n,s];simp only [du,af,ah,ob];by_cases i:m=[]
   ·have a:d=[]:=by
     rcases E.day with h | ⟨h,_⟩
     ·exact h
     ·exact absurd i h
    have:=G9 (k0:=k0) (k1:=k1) (k2:=k2) 20000000 (by omega) b E 0 0 (λh=>absurd i h) (λh=>absurd a h);have f:Lib.atoi m=none:=by rw [i];exact C6
    have j:Lib.atoi d=none:=by rw [a];exact C6
    rw [f,j];simp only [opt];exact this
   ·have f:=RU E i;by_cases a:d=[]
    ·have:=G9 (k0:=k0) (k1:=k1) (k2:=k2) 20000000 (by omega) b E (if 0<sea m then sea m else (twoV m:Int)) 0 (λ_=>rfl) (λh=>absurd a h);have j:Lib.atoi d=none:=by rw [a];exact C6
     rw [f,j];simp only [opt];exact this
    ·have:=G9 (k0:=k0) (k1:=k1) (k2:=k2) 20000000 (by omega) b E (if 0<sea m then sea m else (twoV m:Int)) (twoV d:Int) (λ_=>rfl) (λ_=>rfl);rw [f,RA E a];simp only [opt];exact this
  ·rw [ab c];rw [Jb] at c;rw [c];rfl
 ·rw [ab hc,bne0 hc];rfl
theorem vF (E:Exact g l dg x m d) (M:dg.length<=100):dw 20000000 g l dg x 0 m d k0 k1 k2=some (oN g dg x m d):=by
 obtain ⟨k,q,rfl,Y,I⟩:=th E.ok E.num;have W:k<=17:=by have:=I.wide;omega
 have hs:=I.small;have D:am 20000000 dg (k:Int)=some (((val dg k:Nat):Int),1):=by
  rw [jO 20000000 dg k I.dig M (by omega) (by omega),ae I.small];rfl
 have O:dval 0 dg*10 ^ k=val dg k:=rfl;rw [O] at hs;unfold E16 at hs;have hy:yOf g dg (k:Int)=if g then -((val dg k:Nat):Int) else ((val dg k:Nat):Int):=by unfold yOf;rw [bO]
 have G:=E.cal;unfold ej at G;have key:∀y:Int,y=yOf g dg (k:Int)->
   (ob (aN 20000000 g l dg (k:Int) 0 m d k0 k1 k2) λi=>(cond (m==([]:aa)) (ob (cn 20000000 y) λt=>(ob (cn 20000000 (IntKind.wrap .i64 (y+1))) λr=>(some (t,(IntKind.wrap .i64 (r - 1)))))) (cond (decide (i>0)) (ob (ib 20000000 i) λa=>(ob (aS 20000000 y a.1) λu=>(ob (aS 20000000 y (IntKind.wrap .i64 (a.1+a.2))) λo=>(some (u,(IntKind.wrap .i64 (o - 1))))))) (cond (d==([]:aa)) (ob (aZ 20000000 m) λp=>(ob (aS 20000000 y p) λv=>(ob (aZ 20000000 m) λz=>(ob (aS 20000000 y (IntKind.wrap .i64 (z+1))) λs=>(some (v,(IntKind.wrap .i64 (s - 1)))))))) (ob (aZ 20000000 m) λA=>(ob (aS 20000000 y A) λb=>(ob (aZ 20000000 d) λn=>(some ((IntKind.wrap .i64 ((IntKind.wrap .i64 (b+n)) - 1)),(IntKind.wrap .i64 ((IntKind.wrap .i64 (b+n)) - 1)))))))))) )=some (oN g dg (k:Int) m d):=by
  intro y K;subst K;have hcal':=E.cal;have V:=kT (y:=yOf g dg (k:Int)+1) (by omega);rw [mn 20000000 (by omega)];simp only [ob];unfold oN;by_cases B:m=[]
  ·have e:(m==([]:aa))=true:=by rw [B];rfl
   rw [ae B,e,sP 20000000 (by omega) (by omega),wrap_i64 (yOf g dg (k:Int)+1) (by omega) (by omega),sP 20000000 (by omega) (by omega)];simp only [ah,ob];rw [wrap_i64 _ (by omega) (by omega)]
  ·rw [ab B,gi B];simp only [af];by_cases hs:0<sea m
   ·rw [ae hs,aq (show sea m>0 from hs)];rcases E.mon with h | ⟨j,H,e,_⟩ | ⟨h,_⟩
    ·exact absurd h B
    ·obtain ⟨f,c,T,a1,a2,N,X,a5,U,Q⟩:=Gp H;have J:sea m=((21+j:Nat):Int):=by rw [e,lA H]
     have P:=pD hcal' (m:=f+c) (by omega);rw [J,EO 20000000 H,T];simp only [ah,ob];rw [rC 20000000 (by omega) (by omega) a1 (by omega)];simp only [ob];rw [wrap_i64 ((f:Int)+(c:Int)) (by omega) (by omega),show (f:Int)+(c:Int)=((f+c:Nat):Int) by omega,rC 20000000 (by omega) (by omega) (by omega) (by omega)];simp only [ob];rw [wrap_i64 _ (by omega) (by omega),e,U,Q]
    ·omega
   ·rw [ab hs,ar (show ¬sea m>0 from hs)];simp only [af];rcases E.mon with h | ⟨j,H,e,_⟩ | ⟨_,a1,a2,N⟩
    ·exact absurd h B
    ·rw [e,lA H] at hs;omega
    ·have L:=zU 20000000 (k:=twoV m) (by omega);rw [<-N] at L;have P:=pD hcal' (m:=twoV m) (by omega);have S:=pD hcal' (m:=twoV m+1) (by omega);by_cases C:d=[]
     ·have e:(d==([]:aa))=true:=by rw [C];rfl
      rw [ae C,e,L];simp only [ah,ob];rw [rC 20000000 (by omega) (by omega) a1 (by omega)];simp only [ob];rw [wrap_i64 ((twoV m:Int)+1) (by omega) (by omega),show (twoV m:Int)+1=((twoV m+1:Nat):Int) by omega,rC 20000000 (by omega) (by omega) (by omega) (by omega)];simp only [ob];rw [wrap_i64 _ (by omega) (by omega)]
     ·rw [ab C,gi C];rcases E.day with h | ⟨_,_,b1,b2,R,Z⟩
      ·exact absurd h C
      ·have F:=zU 20000000 (k:=twoV d) (by omega);rw [<-R] at F;rw [L];simp only [af,ob];rw [rC 20000000 (by omega) (by omega) a1 (by omega),F];simp only [ob];rw [wrap_i64 (dayM (yOf g dg (k:Int)) (twoV m)+(twoV d:Int)) (by omega) (by omega),wrap_i64 _ (by omega) (by omega)]
 unfold dw;rw [D];simp only [ob];cases g with
 | true=>
  have w:IntKind.wrap .i64 (0 - ((val dg k:Nat):Int))=yOf true dg (k:Int):=by
   rw [wrap_i64 _ (by omega) (by omega),hy];simp
  rw [w];simp only [ah];exact key _ rfl
 | false=>
  have w:((val dg k:Nat):Int)=yOf false dg (k:Int):=by rw [hy];rfl
  rw [w];simp only [af];exact key _ rfl
end
end Go.Sh
