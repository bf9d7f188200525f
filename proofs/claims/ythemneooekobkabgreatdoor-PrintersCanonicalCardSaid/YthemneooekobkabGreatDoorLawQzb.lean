
/- Plain proofs, kept as far as they are needed here (printed by prune.py).
   Conditions: none. -/
import Derived.Test.YthemneooekobkabGreatDoorLawQza
set_option linter.unusedVariables false
set_option linter.unusedSimpArgs false
set_option maxRecDepth 100000
namespace Go.Sh
open Go.Abs
def cw (A B:Nat) (w:aa):aa:=mt A++w++mt B
def qi (g l:Bool) (dg:aa) (x q:Int) (m d:aa) (k0 k1 k2:Nat):aa:=
 cw (plA (dj m d) k0 k1 k2).1 (plB (dj m d) k0 k1 k2).1 (gM g l dg x q)
  ++ ((if m=[] then [] else 45::cw (plA (dj m d) k0 k1 k2).2.1 (plB (dj m d) k0 k1 k2).2.1 m)
  ++ (if d=[] then [] else 45::cw (plA (dj m d) k0 k1 k2).2.2 (plB (dj m d) k0 k1 k2).2.2 d))
structure OkD (g l:Bool) (dg:aa) (x q:Nat) (m d:aa) (k0 k1 k2:Nat):Prop where
 yr:okY g l dg (x:Int) (q:Int)
 x16:x<=16
 q17:q<=17
 dg17:dg.length<=17
 noM:0<q->m=[]
 mon:m=[]\/(m.length=2/\∀c∈m,isDX c=true)
 day:d=[]\/(m≠[]/\d.length=2/\∀c∈d,isDX c=true)
 m0:k0<4
 m1:k1<4
 m2:k2<4
 z1:dj m d<2->k1=0
 z2:dj m d<3->k2=0
theorem HI {g l:Bool} {dg:aa} {x q:Int} {m d:aa} {k0 k1 k2:Int} (u:0<=k0) (w:0<=k1) (v:0<=k2) (h:chkD g l dg x q m d k0 k1 k2=0):
  ∃p o a b c:Nat,x=(p:Int)/\q=(o:Int)/\k0=(a:Int)/\k1=(b:Int)/\k2=(c:Int)/\OkD g l dg p o m d a b c:=by
 obtain ⟨hy,f,j,k⟩:=LX h;unfold yrD at hy;by_cases e:okY g l dg x q
 rotate_left
 ·rw [ab e] at hy;cases hy
 rw [ae e] at hy;obtain ⟨r,B,t,y,A,s⟩:=kz e;have hk':¬(3<k0\/3<k1\/3<k2\/(dj m d<2/\k1≠0)\/(dj m d<3/\k2≠0)):=by
  intro z;unfold allM at k;rw [ae z] at k;exact absurd k (by decide)
 refine ⟨x.toNat,q.toNat,k0.toNat,k1.toNat,k2.toNat,by omega,by omega,by omega,by omega,by omega,?_⟩;rw [<-Ip r,<-Ip t] at e;refine ⟨e,by omega,by omega,s,?_,?_,?_,by omega,by omega,by omega,by omega,by omega⟩
 ·intro C;unfold yrB at hy;have hq':decide (0<q)=true:=by simp;omega
  rw [hq'] at hy;by_cases i:m=[]
  ·exact i
  ·have:(m==[])=false:=aL.2 i;rw [this] at hy;simp at hy
 ·rcases f with f | f | f
  ·exact .inl f
  ·exact .inr (JI f)
  ·exact .inr (rR (by omega) f)
 ·rcases j with j | ⟨j,_,n⟩
  ·exact .inl j
  ·have:=rR (show 31<=31 by omega) n;exact .inr ⟨j,this.1,this.2⟩
theorem Px (n k i:Nat) (hi:i<k) (x:k<=3) (A B:List Nat) (a b:Nat) (p:A[i]?=some a) (m:B[i]?=some b) (g:a<4) (f:b<4) (ws:List (aa)) (u:ws.length=k) (w:aa) (w0 d e:aa) (q:[w0,d,e][i]?=some w) (l:w.length<=1000):
  aR n (k,(k:Int),(i:Int),A.map cI,B.map cI,ws,[w0,d,e])=some (.inl (k,(k:Int),((i+1:Nat):Int),A.map cI,B.map cI,ws.set i (cw a b w),[w0,d,e])):=by
 have w2':IntKind.wrap .i64 ((i:Int)+1)=((i+1:Nat):Int):=by rw [wrap_i64 _ (by omega) (by omega)];omega
 have o:(A.map cI)[i]?=some (a:Int):=by rw [m8,p];rfl
 have j:(B.map cI)[i]?=some (b:Int):=by rw [m8,m];rfl
 have c:∀z:Nat,z<4->(mt z).length<=1:=λz y=>by
  unfold mt;split
  ·simp
  ·split
   ·simp
   ·split<;>simp
 unfold aR;rw [bA,ae (show (i:Int)<(k:Int) by omega)];simp only [eG hi,eG (show i<3 by omega),ob,q,d4,o,j,(DG n a g).1,(DG n b f).1];have C:=c a g;have t:=c b f;have h:cat (mt a) w=some (mt a++w):=ci (by omega);have s:cat (mt a++w) (mt b)=some (mt a++w++mt b):=ci (by rw [aU];omega);rw [h];simp only [ob];rw [s];simp only [ob];have hi':i<ws.length:=by omega
 obtain ⟨v,r⟩:∃v,ws[i]?=some v:=⟨ws[i],be hi'⟩;rw [eG hi'];simp only [ob,r,w2'];rfl
theorem FQ (n k:Nat) (A B:List Int) (ws V:List (aa)):aR n (k,(k:Int),(k:Int),A,B,ws,V)=some (.inr ws):=by
 unfold aR;rw [bA,ab (show ¬((k:Int)<(k:Int)) by omega)]
theorem nF (a b:Nat) (w:aa):(cw a b w).length<=w.length+2:=by
 have c:∀z:Nat,(mt z).length<=1:=λz=>by
  unfold mt;split
  ·simp
  ·split
   ·simp
   ·split<;>simp
 have:=c a;have:=c b;unfold cw;simp only [aU];omega
theorem HD:dj [] []=1:=rfl
theorem Ea {m:aa} (h:m≠[]):dj m []=2:=by unfold dj;rw [aL.2 h];rfl
theorem DN {m d:aa} (h:m≠[]) (a:d≠[]):dj m d=3:=by unfold dj;rw [aL.2 h,aL.2 a];rfl
theorem pA {d:aa} (h:d.length=2):d≠[]:=by rintro rfl;simp at h
theorem SL (n:Nat) (g l:Bool) (dg:aa) (x q:Nat) (m d:aa) (k0 k1 k2:Nat) (T:m.length<=18) (P:dg.length<=100):
  cK (n+300) g l dg (x:Int) (q:Int) m d (k0:Int) (k1:Int) (k2:Int)=some (if chkD g l dg (x:Int) (q:Int) m d (k0:Int) (k1:Int) (k2:Int)=0 then (qi g l dg (x:Int) (q:Int) m d k0 k1 k2,0) else ([],chkD g l dg (x:Int) (q:Int) m d (k0:Int) (k1:Int) (k2:Int))):=by
 unfold cK;rw [AV (n+300) (by omega) g l dg _ _ m d _ _ _ T P (by omega) (by omega) (by omega)];show cond (chkD g l dg (x:Int) (q:Int) m d (k0:Int) (k1:Int) (k2:Int) != 0) _ _=_;rw [vR];by_cases D:chkD g l dg (x:Int) (q:Int) m d (k0:Int) (k1:Int) (k2:Int)=0
 rotate_left
 ·rw [ab D,ab D]
 rw [ae D,ae D];obtain ⟨x',R,a,b,c,e1,e2,e3,e4,e5,o⟩:=HI (by omega) (by omega) (by omega) D;obtain rfl:x=x':=by omega
 obtain rfl:q=R:=by omega
 obtain rfl:k0=a:=by omega
 obtain rfl:k1=b:=by omega
 obtain rfl:k2=c:=by omega
 have hc:=oW m d;have I:=(U0 n (dj m d) k0 k1 k2 hc o.m0 o.m1 o.m2 o.z1 o.z2).1;obtain ⟨F,J,O,y,K,N⟩:=RY (k:=dj m d) o.m0 o.m1 o.m2;rw [uj (n+300) (by omega)];simp only [ob];rw [I,Ai (n+300) g l dg _ _ (by omega) P,ae o.yr];simp only [ob,dA,af,NP o.yr,ah];have C:(decide ((0:Int)<=((dj m d:Nat):Int))&&(decide (((dj m d:Nat):Int)<=((dj m d:Nat):Int))&&decide (((dj m d:Nat):Int)<=(67108864:Int))))=true:=by
  rw [am (by omega),am (by omega),am (by omega)];rfl
 rw [C,ef (show dj m d<=3 by omega)];simp only [ob,ah,cb];have M:=t8 o.yr;have Q:Nat.ble 1 140737488355328=true:=rfl;have Z:Nat.ble 2 140737488355328=true:=rfl;have V:Nat.ble 3 140737488355328=true:=rfl;unfold qi;generalize gM g l dg (x:Int) (q:Int)=Y at M;generalize E:plA (dj m d) k0 k1 k2=S at *;generalize B:plB (dj m d) k0 k1 k2=PB at *;obtain ⟨j,p,s⟩:=S;obtain ⟨f,r,t⟩:=PB;simp only at F J O y K N;have st:=λ(k i:Nat) (hi:i<k) (hk:k<=3) (a b:Nat) (ha:[j,p,s][i]?=some a) (hb:[f,r,t][i]?=some b) (a4:a<4) (b4:b<4) (ws:List (aa)) (hl:ws.length=k) (w:aa) (w0 w1 w2:aa) (G:[w0,w1,w2][i]?=some w) (hwl:w.length<=1000)=>Px (n+300) k i hi hk [j,p,s] [f,r,t] a b ha hb a4 b4 ws hl w w0 w1 w2 G hwl;have A:∀L:aa,L.length<=1000->Nat.ble L.length 140737488355328=true:=λL h=>di (by omega);by_cases u:m=[]
 ·have v:d=[]:=o.day.resolve_right (λz=>z.1 u);subst u v;show ob (ar (aR (n+300)) (n+299+1) (1,((1:Nat):Int),((0:Nat):Int),[j,p,s].map cI,[f,r,t].map cI,[[]],[Y,[],[]])) _=_;rw [ar,st 1 0 (by omega) (by omega) j f rfl rfl F y [[]] rfl Y Y [] [] rfl (by omega)];show ob (ar (aR (n+300)) (n+298+1) (1,((1:Nat):Int),((1:Nat):Int),[j,p,s].map cI,[f,r,t].map cI,[cw j f Y],[Y,[],[]])) _=_;rw [ar,FQ];simp only [ob];have e:Lib.join [cw j f Y] [45]=cw j f Y:=Lib.join_one _ _;have G:=nF j f Y;rw [e,A _ (by omega)];simp [Q]
 ·have X:m.length=2:=(o.mon.resolve_left u).1;by_cases v:d=[]
  ·subst v;rw [Ea u] at E B ⊢;show ob (ar (aR (n+300)) (n+299+1) (2,((2:Nat):Int),((0:Nat):Int),[j,p,s].map cI,[f,r,t].map cI,[[],[]],[Y,m,[]])) _=_;rw [ar,st 2 0 (by omega) (by omega) j f rfl rfl F y [[],[]] rfl Y Y m [] rfl (by omega)];show ob (ar (aR (n+300)) (n+298+1) (2,((2:Nat):Int),((1:Nat):Int),[j,p,s].map cI,[f,r,t].map cI,[cw j f Y,[]],[Y,m,[]])) _=_;rw [ar,st 2 1 (by omega) (by omega) p r rfl rfl J K [cw j f Y,[]] rfl m Y m [] rfl (by omega)];show ob (ar (aR (n+300)) (n+297+1) (2,((2:Nat):Int),((2:Nat):Int),[j,p,s].map cI,[f,r,t].map cI,[cw j f Y,cw p r m],[Y,m,[]])) _=_;rw [ar,FQ];simp only [ob];have e:Lib.join [cw j f Y,cw p r m] [45]=cw j f Y++(45::cw p r m):=by rw [Lib.join_cons];simp [Lib.joinTail]
   have G:=nF j f Y;have H:=nF p r m;rw [e,A _ (by simp only [aU,az];omega)];rw [ab u];simp [Z]
  ·have U:d.length=2:=(o.day.resolve_left v).2.1;rw [DN u v] at E B ⊢;show ob (ar (aR (n+300)) (n+299+1) (3,((3:Nat):Int),((0:Nat):Int),[j,p,s].map cI,[f,r,t].map cI,[[],[],[]],[Y,m,d])) _=_;rw [ar,st 3 0 (by omega) (by omega) j f rfl rfl F y [[],[],[]] rfl Y Y m d rfl (by omega)];show ob (ar (aR (n+300)) (n+298+1) (3,((3:Nat):Int),((1:Nat):Int),[j,p,s].map cI,[f,r,t].map cI,[cw j f Y,[],[]],[Y,m,d])) _=_;rw [ar,st 3 1 (by omega) (by omega) p r rfl rfl J K [cw j f Y,[],[]] rfl m Y m d rfl (by omega)];show ob (ar (aR (n+300)) (n+297+1) (3,((3:Nat):Int),((2:Nat):Int),[j,p,s].map cI,[f,r,t].map cI,[cw j f Y,cw p r m,[]],[Y,m,d])) _=_;rw [ar,st 3 2 (by omega) (by omega) s t rfl rfl O N [cw j f Y,cw p r m,[]] rfl d Y m d rfl (by omega)];show ob (ar (aR (n+300)) (n+296+1) (3,((3:Nat):Int),((3:Nat):Int),[j,p,s].map cI,[f,r,t].map cI,[cw j f Y,cw p r m,cw s t d],[Y,m,d])) _=_;rw [ar,FQ];simp only [ob];have e:Lib.join [cw j f Y,cw p r m,cw s t d] [45]=cw j f Y++(45::cw p r m++(45::cw s t d)):=by rw [Lib.join_cons];simp [Lib.joinTail]
   have G:=nF j f Y;have H:=nF p r m;have W:=nF s t d;rw [e,A _ (by simp only [aU,az];omega)];rw [ab u,ab v];simp [V]
theorem Iy (n:Nat) {g l:Bool} {dg:aa} {x q:Nat} {m d:aa} {k0 k1 k2:Nat} (e:OkD g l dg x q m d k0 k1 k2):
  cH (n+300) g l dg (x:Int) (q:Int) m d (k0:Int) (k1:Int) (k2:Int)=some (qi g l dg (x:Int) (q:Int) m d k0 k1 k2):=by
 have hc:=oW m d;have u:=(U0 n (dj m d) k0 k1 k2 hc e.m0 e.m1 e.m2 e.z1 e.z2).2;obtain ⟨D,C,F,p,E,B⟩:=RY (k:=dj m d) e.m0 e.m1 e.m2;have y:=t8 e.yr;have hx:=e.x16;have V:=e.q17;have U:=e.dg17;unfold cH;rw [oK (n+300)];simp only [ob];rw [u,OH (n+300) g l dg x q (by omega) (by omega) (by omega)];unfold qi;generalize gM g l dg (x:Int) (q:Int)=Y at y ⊢;generalize O:plA (dj m d) k0 k1 k2=L at *;generalize J:plB (dj m d) k0 k1 k2=PB at *;obtain ⟨v,r,w⟩:=L;obtain ⟨t,s,A⟩:=PB;simp only at D C F p E B;have j:∀z:Nat,(mt z).length<=1:=λz=>by
  unfold mt;split
  ·simp
  ·split
   ·simp
   ·split<;>simp
 have S:=j v;have P:=j r;have R:=j w;have M:=j t;have I:=j s;have Q:=j A;have T:m.length<=2:=by
  rcases e.mon with h | h
  ·rw [h];simp
  ·omega
 have N:d.length<=2:=by
  rcases e.day with h | h
  ·rw [h];simp
  ·omega
 have H:∀a b c:Nat,(l3 (a,b,c))[0]?=some (a:Int):=λ_ _ _=>rfl;have G:∀a b c:Nat,(l3 (a,b,c))[1]?=some (b:Int):=λ_ _ _=>rfl;have K:∀a b c:Nat,(l3 (a,b,c))[2]?=some (c:Int):=λ_ _ _=>rfl;have f:∀a b:aa,a.length+b.length<=1000000->cat a b=some (a++b):=λa b h=>ci h;simp only [ob,H,G,K,(DG (n+300) v D).2,(DG (n+300) r C).2,(DG (n+300) w F).2,(DG (n+300) t p).2,(DG (n+300) s E).2,(DG (n+300) A B).2];rw [f (mt v) Y (by omega)];simp only [ob];rw [f _ (mt t) (by simp only [aU];omega)];simp only [ob];have k1':decide (((dj m d:Nat):Int)>1)=decide (1<dj m d):=by rw [nY];omega
 have k2':decide (((dj m d:Nat):Int)>2)=decide (2<dj m d):=by rw [nY];omega
 rw [k1',k2'];by_cases i:m=[]
 ·have o:d=[]:=e.day.resolve_right (λz=>z.1 i);subst i o;rw [HD];simp [cw]
 ·by_cases o:d=[]
  ·subst o;rw [Ea i,ab i];simp only [show decide (1<2)=true from rfl,show decide (2<2)=false from rfl,ah,af];rw [f [45] (mt r) (by simp;omega)];simp only [ob];rw [f _ m (by simp only [aU,az,aX];omega)];simp only [ob];rw [f _ (mt s) (by simp only [aU,az,aX];omega)];simp only [ob];rw [f _ _ (by simp only [aU,az,aX];omega)];simp [cw]
  ·rw [DN i o,ab i,ab o];simp only [show decide (1<3)=true from rfl,show decide (2<3)=true from rfl,ah,af];rw [f [45] (mt r) (by simp;omega)];simp only [ob];rw [f _ m (by simp only [aU,az,aX];omega)];simp only [ob];rw [f _ (mt s) (by simp only [aU,az,aX];omega)];simp only [ob];rw [f _ _ (by simp only [aU,az,aX];omega)];simp only [ob];rw [f [45] (mt w) (by simp;omega)];simp only [ob];rw [f _ d (by simp only [aU,az,aX];omega)];simp only [ob];rw [f _ (mt A) (by simp only [aU,az,aX];omega)];simp only [ob];rw [f _ _ (by simp only [aU,az,aX];omega)];simp [cw]
def isMk (c:UInt8):Bool:=decide (0<mkOf c)
theorem gR {S u v:aa} {a:Nat} (h:S.drop a=u++v):S.drop (a+u.length)=v:=by
 rw [<-jp,h,En];rfl
theorem LO {A:Nat} (d:A<4) {r:aa} (b:cY isMk r):mkS (mt A++r)=A/\mkN (mt A++r)=(mt A).length:=by
 have a:mkS r=0:=by
  cases r with
  | nil=>rfl
  | cons c r=>
   have:=b c rfl;unfold isMk at this;have:=of_decide_eq_false this;show mkOf c=0;omega
 have h:A=0\/A=1\/A=2\/A=3:=by omega
 rcases h with rfl | rfl | rfl | rfl
 ·refine ⟨a,?_⟩;show mkN r=0;unfold mkN;rw [ae a]
 ·exact ⟨rfl,rfl⟩
 ·exact ⟨rfl,rfl⟩
 ·exact ⟨rfl,rfl⟩
theorem eu {p:UInt8->Bool} {c:UInt8} {r:aa} (h:p c=false):cY p (c::r):=λa hc=>by
 simp only [pp,au] at hc;rw [<-hc];exact h
theorem JG {p:UInt8->Bool} (B:Nat) {r:aa} (d:p 63=false) (a:p 126=false) (c:p 37=false) (b:cY p r):cY p (mt B++r):=by
 unfold mt;split
 ·exact eu d
 ·split
  ·exact eu a
  ·split
   ·exact eu c
   ·exact b
theorem IL {c:UInt8} (h:isDX c=true):isMk c=false:=by
 have:=iW (λc=>!(isDX c)||!(isMk c)) (by decide +kernel) c;rw [h] at this;simpa using this
theorem wc {p q:UInt8->Bool} {w r:aa} (b:w≠[]) (h:∀c∈w,p c=true) (a:∀c,p c=true->q c=false):cY q (w++r):=by
 cases w with
 | nil=>exact absurd rfl b
 | cons c w=>exact eu (a c (h c mW))
theorem NA {g l:Bool} {d:aa} {x s:Int} (h:okY g l d x s):∀c∈d,isDX c=true:=by
 intro c hc;unfold okY at h;have:bw c=true\/c=88:=by
  split at h
  ·exact .inl (h.1.1 c hc)
  ·exact h.2.1 c hc
 unfold isDX;rcases this with a | a
 ·rw [a];rfl
 ·rw [a];decide
theorem IE {g l:Bool} {d:aa} {x s:Nat} (h:okY g l d (x:Int) (s:Int)) (r:aa):cY isMk (gM g l d (x:Int) (s:Int)++r):=by
 have a:d≠[]:=by
  have:=(kz h).2.2.2.2.1;rintro rfl;simp at this
 rw [kE];cases l with
 | true=>exact eu (by decide)
 | false=>
  cases g with
  | true=>exact eu (by decide)
  | false=>
   simp only [br,aB,dW,fV];exact wc a (NA h) (λc=>IL)
theorem uq {S:aa} {p A B:Nat} {w R:aa} (h:S.drop p=cw A B w++R) (j:A<4) (k:B<4) (g:cY isMk (w++(mt B++R))) (l:cY isMk R):
  mkS (S.drop p)=A/\S.drop (mkE S p)=w++(mt B++R)/\mkS (S.drop (mkE S p+w.length))=B/\S.drop (mkE S (mkE S p+w.length))=R/\mkE S (mkE S p+w.length)=p+(cw A B w).length:=by
 have h':S.drop p=mt A++(w++(mt B++R)):=by rw [h];unfold cw;simp
 obtain ⟨i,e⟩:=LO j g;obtain ⟨f,m⟩:=LO k l;have c:mkE S p=p+(mt A).length:=by unfold mkE;rw [h',e]
 have d:S.drop (mkE S p)=w++(mt B++R):=by rw [c];exact gR h'
 have b:S.drop (mkE S p+w.length)=mt B++R:=gR d;have a:mkE S (mkE S p+w.length)=mkE S p+w.length+(mt B).length:=by
  show mkE S p+w.length+mkN (S.drop (mkE S p+w.length))=_;rw [b,m]
 refine ⟨by rw [h',i],d,by rw [b,f],by rw [a];exact gR b,?_⟩;rw [a,c];unfold cw;simp only [aU];omega
theorem AN {m r:aa} (d:m.length=2) (h:∀c∈m,isDX c=true):twoN (m++r)=2/\(m++r).take 2=m:=by
 match m,d with
 | [a,b],_=>
  have e:=h a (by simp);have f:=h b (by simp);refine ⟨?_,rfl⟩;unfold twoN;show bE isDX 2 (a::b::r)=2;simp [bE,e,f]
theorem Su {k a b c:Nat} (e:k<2->b=0) (d:k<3->c=0) (f:1<=k):(k<2->(plA k a b c).2.1=0/\(plB k a b c).2.1=0)/\(k<3->(plA k a b c).2.2=0/\(plB k a b c).2.2=0):=by
 unfold plA plB;constructor
 ·intro h;have:k=1:=by omega
  subst this;have:=e h;split
  ·simp
  ·simp [this]
 ·intro h;have:=d h;split
  ·split
   ·simp
   ·have:k=2:=by omega
    simp [this]
  ·simp [this]
def rawD (A B:Nat×Nat×Nat) (g l:Bool) (dg:aa) (x q:Int) (m d:aa):aa:=
 cw A.1 B.1 (gM g l dg x q)++((if m=[] then [] else 45::cw A.2.1 B.2.1 m)++(if d=[] then [] else 45::cw A.2.2 B.2.2 d))
structure MkD (A B:Nat×Nat×Nat) (m d:aa):Prop where
 a0:A.1<4
 a1:A.2.1<4
 a2:A.2.2<4
 b0:B.1<4
 b1:B.2.1<4
 b2:B.2.2<4
 zm:m=[]->A.2.1=0/\B.2.1=0
 zd:d=[]->A.2.2=0/\B.2.2=0
structure ShD (g l:Bool) (dg:aa) (x q:Nat) (m d:aa):Prop where
 yr:okY g l dg (x:Int) (q:Int)
 noM:0<q->m=[]
 mon:m=[]\/(m.length=2/\∀c∈m,isDX c=true)
 day:d=[]\/(m≠[]/\d.length=2/\∀c∈d,isDX c=true)
theorem OkD.sh {g l:Bool} {dg:aa} {x q:Nat} {m d:aa} {k0 k1 k2:Nat} (h:OkD g l dg x q m d k0 k1 k2):ShD g l dg x q m d:=⟨h.yr,h.noM,h.mon,h.day⟩
theorem OkD.marks {g l:Bool} {dg:aa} {x q:Nat} {m d:aa} {k0 k1 k2:Nat} (h:OkD g l dg x q m d k0 k1 k2):MkD (plA (dj m d) k0 k1 k2) (plB (dj m d) k0 k1 k2) m d:=by
 obtain ⟨Y,U,W,J,O,Q⟩:=RY (k:=dj m d) h.m0 h.m1 h.m2;obtain ⟨E,F⟩:=Su (a:=k0) h.z1 h.z2 (oW m d).1;refine ⟨Y,U,W,J,O,Q,λC=>E ?_,λX=>F ?_⟩
 ·have G:d=[]:=h.day.resolve_right (λz=>z.1 C);subst C G;rw [HD];omega
 ·subst X;by_cases C:m=[]
  ·subst C;rw [HD];omega
  ·rw [Ea C];omega
theorem Hq {A B:Nat×Nat×Nat} {g l:Bool} {dg:aa} {x q:Nat} {m d:aa} (f:ShD g l dg x q m d) (o:MkD A B m d) {S:aa} {a:Nat} {post:aa} (h:S.drop a=rawD A B g l dg (x:Int) (q:Int) m d++post)
  (hp1:cY isYC post) (C:cY isMk post) (L:cY (λc=>c==45) post):
  ∃P:Nat×Nat×Nat,P.1=a+(mt A.1).length/\qH S a=.inr (g,l,dg,x,q,m,d,spM A B,P,a+(rawD A B g l dg (x:Int) (q:Int) m d).length):=by
 obtain ⟨l0,l1,l2,O,l4,l5,Q,E⟩:=o;obtain ⟨k,t,K⟩:=A;obtain ⟨j,n,G⟩:=B;simp only at l0 l1 l2 O l4 l5 Q E h;unfold rawD at h ⊢;simp only at h ⊢;have v:isMk 45=false:=by decide
 have y45:isYC 45=false:=by decide
 have Z:∀r:aa,cY (λc=>c==45) r->fw 45 r=0:=λr hr=>by
  cases r with
  | nil=>rfl
  | cons c r=>
   have:=hr c rfl;exact o8 (λe=>by rw [e] at this;exact absurd this (by decide)) r
 have hyx:=JY f.yr;have X:=IE f.yr;generalize hY:gM g l dg (x:Int) (q:Int)=Y at *;have I:∀R:aa,S.drop a=cw k j Y++R->cY isYC R->cY isMk R->
   mkE S a=a+(mt k).length/\mkS (S.drop a)=k/\pT (S.drop (mkE S a))=.inr (g,l,dg,x,q,Y.length)/\mkS (S.drop (mkE S a+Y.length))=j/\S.drop (mkE S (mkE S a+Y.length))=R/\mkE S (mkE S a+Y.length)=a+(cw k j Y).length:=by
  intro R hR h1 h2;obtain ⟨D,H,y,s,F⟩:=uq hR l0 O (X _) h2;refine ⟨?_,D,?_,y,s,F⟩
  ·have hR':S.drop a=mt k++(Y++(mt j++R)):=by rw [hR];unfold cw;simp
   unfold mkE;rw [hR',(LO l0 (X _)).2]
  rw [H];exact hyx _ (JG j (by decide) (by decide) (by decide) h1)
 unfold qH;by_cases b:m=[]
 ·have i:d=[]:=f.day.resolve_right (λz=>z.1 b);subst b i;simp only [aJ,lw] at h ⊢;obtain ⟨w0,D,H,y,s,F⟩:=I post h hp1 C;rw [H];simp only [];rw [s,ae (.inr (Z post L)),D,y,F];obtain ⟨rfl,rfl⟩:=Q rfl;obtain ⟨rfl,rfl⟩:=E rfl;exact ⟨_,w0,rfl⟩
 ·have W:¬0<q:=λz=>b (f.noM z);obtain ⟨p,w⟩:=f.mon.resolve_left b;rw [ab b] at h ⊢;have o:∀r,cY isMk (m++r):=λr=>wc b w (λc=>IL);by_cases i:d=[]
  ·subst i;rw [ae rfl,lw] at h ⊢;have h':S.drop a=cw k j Y++(45::(cw t n m++post)):=by rw [h];simp
   obtain ⟨w0,D,H,y,s,F⟩:=I _ h' (eu y45) (eu v);rw [H];simp only [];rw [s,nP,ab (λz=>z.elim W (by omega)),D,y];unfold rd2;have h2:S.drop (mkE S (mkE S a+Y.length)+1)=cw t n m++post:=gR (u:=[45]) s;obtain ⟨v1,v2,N,J,M⟩:=uq h2 l1 l4 (o _) C;obtain ⟨T,u2⟩:=AN (r:=mt n++post) p w;rw [<-v2] at T u2;rw [p] at N J M;rw [T,ab (by omega),J,Z post L,ae rfl,u2,v1,N,M,F];obtain ⟨rfl,rfl⟩:=E rfl;have:a+(cw k j Y).length+1+(cw t n m).length=a+(cw k j Y++45::cw t n m).length:=by simp only [aU,az];omega
   rw [this];exact ⟨_,w0,rfl⟩
  ·obtain ⟨_,U,V⟩:=f.day.resolve_left i;rw [ab i] at h ⊢;have hdk:∀r,cY isMk (d++r):=λr=>wc i V (λc=>IL);have h':S.drop a=cw k j Y++(45::(cw t n m++(45::(cw K G d++post)))):=by rw [h];simp
   obtain ⟨w0,D,H,y,s,F⟩:=I _ h' (eu y45) (eu v);rw [H];simp only [];rw [s,nP,ab (λz=>z.elim W (by omega)),D,y];unfold rd2;have h2:S.drop (mkE S (mkE S a+Y.length)+1)=cw t n m++(45::(cw K G d++post)):=gR (u:=[45]) s;obtain ⟨v1,v2,N,J,M⟩:=uq h2 l1 l4 (o _) (eu v);obtain ⟨T,u2⟩:=AN (r:=mt n++(45::(cw K G d++post))) p w;rw [<-v2] at T u2;rw [p] at N J M;rw [T,ab (by omega),J,nP,ab (by omega),u2,v1,N];unfold rd3;have h3:S.drop (mkE S (mkE S (mkE S (mkE S a+Y.length)+1)+2)+1)=cw K G d++post:=gR (u:=[45]) J;obtain ⟨x1,x2,x3,x4,x5⟩:=uq h3 l2 l5 (hdk _) C;obtain ⟨s1,s2⟩:=AN (r:=mt G++post) U V;rw [<-x2] at s1 s2;rw [U] at x3 x4 x5;rw [s1,ab (by omega),s2,x1,x3,x5,M,F];have:a+(cw k j Y).length+1+(cw t n m).length+1+(cw K G d).length=a+(cw k j Y++(45::cw t n m++45::cw K G d)).length:=by simp only [aU,az];omega
   rw [this];exact ⟨_,w0,rfl⟩
theorem Jf {g l:Bool} {dg:aa} {x q:Nat} {m d:aa} {k0 k1 k2:Nat} (b:OkD g l dg x q m d k0 k1 k2) {S:aa} {a:Nat} {post:aa} (h:S.drop a=qi g l dg (x:Int) (q:Int) m d k0 k1 k2++post)
  (e:cY isYC post) (i:cY isMk post) (f:cY (λc=>c==45) post):
  ∃P,qH S a=.inr (g,l,dg,x,q,m,d,(k0,k1,k2),P,a+(qi g l dg (x:Int) (q:Int) m d k0 k1 k2).length):=by
 obtain ⟨P,_,j⟩:=Hq b.sh b.marks (S:=S) (a:=a) (post:=post) h e i f;rw [Xx (dj m d) k0 k1 k2 (oW m d) b.m0 b.m1 b.m2 b.z1 b.z2] at j;exact ⟨P,j⟩
theorem N8 {g l:Bool} {dg:aa} {x q:Nat} {m d:aa} {k0 k1 k2:Nat} (a:OkD g l dg x q m d k0 k1 k2):(qi g l dg (x:Int) (q:Int) m d k0 k1 k2).length<=37:=by
 have hy:=t8 a.yr;have i:=nF (plA (dj m d) k0 k1 k2).1 (plB (dj m d) k0 k1 k2).1 (gM g l dg (x:Int) (q:Int));have f:=nF (plA (dj m d) k0 k1 k2).2.1 (plB (dj m d) k0 k1 k2).2.1 m;have e:=nF (plA (dj m d) k0 k1 k2).2.2 (plB (dj m d) k0 k1 k2).2.2 d;have b:m.length<=2:=by
  rcases a.mon with h | h
  ·rw [h];simp
  ·omega
 have c:d.length<=2:=by
  rcases a.day with h | h
  ·rw [h];simp
  ·omega
 unfold qi;simp only [aU];have a1:(if m=[] then [] else 45::cw (plA (dj m d) k0 k1 k2).2.1 (plB (dj m d) k0 k1 k2).2.1 m).length<=5:=by
  split
  ·simp
  ·simp only [az];omega
 have a2:(if d=[] then [] else 45::cw (plA (dj m d) k0 k1 k2).2.2 (plB (dj m d) k0 k1 k2).2.2 d).length<=5:=by
  split
  ·simp
  ·simp only [az];omega
 omega
theorem RV {A B:Nat×Nat×Nat} (f:A.1<4) (e:A.2.1<4) (d:A.2.2<4) (g0:B.1<4) (c:B.2.1<4) (b:B.2.2<4):(spM A B).1<4/\(spM A B).2.1<4/\(spM A B).2.2<4:=by
 have a:∀x y:Nat,x<4->y<4->x ||| y<4:=λx y hx hy=>(or4 hx hy).2;exact ⟨a _ _ (a _ _ (a _ _ f g0) c) b,a _ _ (a _ _ e c) b,a _ _ d b⟩
structure RdOK (S:aa) (a:Nat) (dg m d:aa) (M:Nat×Nat×Nat) (e:Nat):Prop where
 dg17:dg.length<=17
 m2:m.length<=2
 d2:d.length<=2
 all:inM (dj m d) M
 le:a<=e
 end_:e<=S.length
theorem AQ {S:aa} {a:Nat} (h:a<=S.length) {g l:Bool} {dg:aa} {x s:Nat} {m d:aa} {M P:Nat×Nat×Nat} {e:Nat} (b:qH S a=.inr (g,l,dg,x,s,m,d,M,P,e)):RdOK S a dg m d M e:=by
 have c:∀p,mkS (S.drop p)<4:=λp=>C3 _;have n:0<4:=by omega
 have b0:=lE h;have g0:a<=mkE S a:=BQ _ _;have o:∀p,p<=mkE S p:=λp=>BQ _ _;unfold qH at b;cases hy:pT (S.drop (mkE S a)) with
 | inl k=>rw [hy] at b;cases b
 | inr y=>
  obtain ⟨L,H,E,O,s',k⟩:=y;obtain ⟨_,bk,_,_,j⟩:=qK hy;have bk:mkE S a+k<=S.length:=by
   rw [bL] at bk;omega
  have b1:=lE bk;rw [hy] at b;simp only [] at b;by_cases hc:0<s'\/fw 45 (S.drop (mkE S (mkE S a+k)))=0
  ·rw [ae hc] at b;cases b;have:=RV (A:=(mkS (S.drop a),0,0)) (B:=(mkS (S.drop (mkE S a+k)),0,0)) (c _) n n (c _) n n;refine ⟨j,by simp,by simp,⟨this.1,this.2.1,this.2.2,λ_=>by simp [spM],λ_=>by simp [spM]⟩,?_,b1⟩;have:=o (mkE S a+k);omega
  ·rw [ab hc] at b;have u:=rS (λz=>hc (.inr z));have K:=lE u;unfold rd2 at b;by_cases v:twoN (S.drop (mkE S (mkE S (mkE S a+k)+1)))<2
   ·rw [ae v] at b;cases b
   ·rw [ab v] at b;have b2:=vA v;have D:=lE b2;have i:(List.take 2 (S.drop (mkE S (mkE S (mkE S a+k)+1)))).length=2:=by rw [db,bL];omega
    have N:=o (mkE S a+k);have Q:=o (mkE S (mkE S a+k)+1);have G:=o (mkE S (mkE S (mkE S a+k)+1)+2);by_cases f:fw 45 (S.drop (mkE S (mkE S (mkE S (mkE S a+k)+1)+2)))=0
    ·rw [ae f] at b;cases b;have:=RV (A:=(mkS (S.drop a),mkS (S.drop (mkE S (mkE S a+k)+1)),0)) (B:=(mkS (S.drop (mkE S a+k)),mkS (S.drop (mkE S (mkE S (mkE S a+k)+1)+2)),0)) (c _) (c _) n (c _) (c _) n;refine ⟨j,by omega,by simp,⟨this.1,this.2.1,this.2.2,λz=>?_,λ_=>by simp [spM]⟩,by omega,D⟩;rw [Ea (pA i)] at z;omega
    ·rw [ab f] at b;have t:=rS f;have C:=lE t;unfold rd3 at b;by_cases r:twoN (S.drop (mkE S (mkE S (mkE S (mkE S (mkE S a+k)+1)+2)+1)))<2
     ·rw [ae r] at b;cases b
     ·rw [ab r] at b;have w:=vA r;have F:=lE w;have q:(List.take 2 (S.drop (mkE S (mkE S (mkE S (mkE S (mkE S a+k)+1)+2)+1)))).length=2:=by rw [db,bL];omega
      cases b;have J:=o (mkE S (mkE S (mkE S (mkE S a+k)+1)+2)+1);have I:=o (mkE S (mkE S (mkE S (mkE S (mkE S a+k)+1)+2)+1)+2);have:=RV (A:=(mkS (S.drop a),mkS (S.drop (mkE S (mkE S a+k)+1)),mkS (S.drop (mkE S (mkE S (mkE S (mkE S a+k)+1)+2)+1)))) (B:=(mkS (S.drop (mkE S a+k)),mkS (S.drop (mkE S (mkE S (mkE S a+k)+1)+2)),mkS (S.drop (mkE S (mkE S (mkE S (mkE S (mkE S a+k)+1)+2)+1)+2)))) (c _) (c _) (c _) (c _) (c _) (c _);refine ⟨j,by omega,by omega,⟨this.1,this.2.1,this.2.2,λz=>?_,λz=>?_⟩,by omega,F⟩
      ·rw [DN (pA i) (pA q)] at z;omega
      ·rw [DN (pA i) (pA q)] at z;omega
theorem JL {g l:Bool} {dg:aa} {x q:Int} {m d:aa} {k0 k1 k2:Int} (a:allM k0 k1 k2 (dj m d)=0):chkD g l dg x q m d k0 k1 k2=0\/chkD g l dg x q m d k0 k1 k2=6\/chkD g l dg x q m d k0 k1 k2=7\/chkD g l dg x q m d k0 k1 k2=8:=by
 unfold chkD;rw [a];generalize yrD g l dg x q m=b1;generalize (!(m==[])&&(!(decide (0<sea m))&&!(ir m 12)))=b2;generalize (!(d==[])&&((m==[])||(decide (0<sea m)||!(ir d 31))))=b;cases b1<;>cases b2<;>cases b<;>simp
theorem vd {p:UInt8->Bool}:cY p []:=λc hc=>by cases hc
theorem r40 {p:Nat->Bool} (h:(List.range 40).all p=true) {a:Nat} (b:a<40):p a=true:=(cN.1 h) a (lp.2 b)
theorem KO (n:Nat) (g l:Bool) (dg:aa) (x q:Int) (m d:aa) (k0 k1 k2:Int) (a:m.length<=18):bh n g l dg x q m d k0 k1 k2=some (if d=[] then (if 0<sea m then 0 else if m=[] then 1 else 2) else 3):=by
 unfold bh;rw [qW n g l dg x q m d k0 k1 k2 a];by_cases b:d=[]
 ·rw [ae b,b];show cond (decide (0<sea m)) _ _=_;rw [bA];by_cases hs:0<sea m
  ·rw [ae hs,ae hs]
  ·rw [ab hs,ab hs];by_cases a:m=[]
   ·rw [ae a,a];rfl
   ·rw [ab a,aL.2 a];rfl
 ·rw [ab b,aL.2 b];rfl
theorem G5 (n:Nat) (g l:Bool) (dg:aa) (x q:Int) (m d:aa) (k0 k1 k2:Int) (f:m.length<=18) (i:dg.length<=100) (j:0<=k0) (h:0<=k1) (e:0<=k2):
  cK (n+300) g l dg x q m d k0 k1 k2=some (if chkD g l dg x q m d k0 k1 k2=0 then (qi g l dg x q m d k0.toNat k1.toNat k2.toNat,0) else ([],chkD g l dg x q m d k0 k1 k2)):=by
 by_cases hc:chkD g l dg x q m d k0 k1 k2=0
 ·obtain ⟨p,s,a,b,c,r,k,o,t,u,v⟩:=HI j h e hc;subst r k o t u;exact SL n g l dg p s m d a b c f i
 ·rw [ab hc];unfold cK;rw [AV (n+300) (by omega) g l dg _ _ m d _ _ _ f i j h e];show cond (chkD g l dg x q m d k0 k1 k2 != 0) _ _=_;rw [vR,ab hc]
theorem Eh (n:Nat) {g l:Bool} {dg:aa} {x q:Int} {m d:aa} {k0 k1 k2:Int} (r:0<=k0) (k:0<=k1) (j:0<=k2) (hc:chkD g l dg x q m d k0 k1 k2=0):
  cH (n+300) g l dg x q m d k0 k1 k2=some (qi g l dg x q m d k0.toNat k1.toNat k2.toNat):=by
 obtain ⟨s,t,a,b,c,i,f,h,p,o,e⟩:=HI r k j hc;subst i f h p o;exact Iy n e
theorem wi (a b:aa):hasX (a++b)=(hasX a||hasX b):=by unfold hasX;rw [sU]
theorem Di (n:Nat) (g l:Bool) (dg:aa) (x q:Int) (m d:aa) (k0 k1 k2:Int) (a:m.length<=1000) (b:dg.length<=1000) (h:d.length<=1000):
  eZ n g l dg x q m d k0 k1 k2=some (hasX dg||(hasX m||hasX d)):=by
 unfold eZ;rw [ci (by omega)];simp only [ob];rw [ci (by simp only [aU];omega)];simp only [ob];rw [Em,wi,wi,Bool.or_assoc]
def Aq (d:aa) (k q:Nat):Nat×Nat:=if 0<q then (val d k / 10 ^ (d.length+k - q)*10 ^ (d.length+k - q),min (val d k / 10 ^ (d.length+k - q)*10 ^ (d.length+k - q)+10 ^ (d.length+k - q) - 1) E16) else (val d k,val d k)
def sgn (g:Bool) (p:Nat×Nat):Int×Int:=if g then (-(p.2:Int),-(p.1:Int)) else ((p.1:Int),(p.2:Int))
theorem Dx (n:Nat) (g l:Bool) (d:aa) (k q:Nat) (D:200<n) (x:d.length<=100) (c:Num d k q):
  aM n g l d (k:Int) (q:Int)=some (sgn g (Aq d k q)):=by
 have C:=c.wide;have hs:=c.small;have E:=c.sig;unfold aM;rw [oS n g l d k q (by omega) (by omega),Gq c.dig,jD n d k c.dig x (by omega) (by omega),ae hs];have z:dval 0 d*10 ^ k=val d k:=rfl;rw [z] at hs ⊢;unfold E16 at hs;have f:((if false=true then (1:Int) else 0)==1)=false:=rfl;simp only [ob,f,af];by_cases j:0<q
 ·have h:decide ((q:Int)>0)=true:=am (by omega);have w0:IntKind.wrap .i64 (IntKind.wrap .i64 (((d.length:Nat):Int)+(k:Int)) - (q:Int))=((d.length+k - q:Nat):Int):=by
   rw [wrap_i64 (((d.length:Nat):Int)+(k:Int)) (by omega) (by omega),wrap_i64 _ (by omega) (by omega)];omega
  have w:10 ^ (d.length+k - q)<=10 ^ 16:=oG (by decide) (by omega);have A:(10:Nat) ^ 16=10000000000000000:=by decide
  have one:dval 0 [49]=1:=by decide
  have a:dval 0 [49]*10 ^ (d.length+k - q)<=E16:=by rw [one];unfold E16;omega
  rw [h,w0,jD n [49] (d.length+k - q) (by decide) (by decide) (by omega) (by simp;omega),ae a,one,yw];simp only [ah];have B:1<=10 ^ (d.length+k - q):=B6 _ _ (by decide);unfold sgn Aq;rw [ae j];clear a;generalize 10 ^ (d.length+k - q)=u at *;generalize val d k=v at *;have d2:(((u:Nat):Int)==0)=false:=aL.2 (by omega);have e:Int.tdiv ((v:Nat):Int) ((u:Nat):Int)=((v / u:Nat):Int):=rfl;have p:v / u*u<=v:=ER v u;have m:v / u<=v:=ES v u;have s:IntKind.wrap .i64 ((v / u:Nat):Int)=((v / u:Nat):Int):=by
   generalize v / u=t at *;exact wrap_i64 _ (by omega) (by omega)
  have y:IntKind.wrap .i64 (((v / u:Nat):Int)*((u:Nat):Int))=((v / u*u:Nat):Int):=by
   rw [<-HF];exact wrap_i64 _ (by omega) (by omega)
  rw [d2,af,e,s,y];generalize v / u*u=lo at *;have o:IntKind.wrap .i64 (IntKind.wrap .i64 (((lo:Nat):Int)+((u:Nat):Int)) - 1)=((lo+u - 1:Nat):Int):=by
   rw [wrap_i64 (((lo:Nat):Int)+((u:Nat):Int)) (by omega) (by omega),wrap_i64 _ (by omega) (by omega)];omega
  rw [o];have b:(cond (decide ((10000000000000000:Int)<((lo+u - 1:Nat):Int))) (10000000000000000:Int) ((lo+u - 1:Nat):Int))=((min (lo+u - 1) E16:Nat):Int):=by
   unfold E16;by_cases i:(10000000000000000:Int)<((lo+u - 1:Nat):Int)
   ·rw [am i,ah];omega
   ·rw [aq i,af];omega
  rw [b];have r:min (lo+u - 1) E16<=10000000000000000:=Nat.min_le_right _ _;generalize min (lo+u - 1) E16=hi at *;cases g with
  | true=>
   simp only [ah,aJ];rw [wrap_i64 _ (by omega) (by omega),wrap_i64 _ (by omega) (by omega),zO,zO]
  | false=>simp
 ·have h:decide ((q:Int)>0)=false:=aq (by omega);rw [h,af];unfold sgn Aq;rw [ab j];cases g with
  | true=>
   simp only [ah,aJ];rw [wrap_i64 _ (by omega) (by omega),zO]
  | false=>simp
def eQ (z:UInt8) (d:aa):aa:=d.map λc=>if c=88 then z else c
theorem jw (z:UInt8) (d:aa):(eQ z d).length=d.length:=by simp [eQ]
theorem rn {z:UInt8} (a:bw z=true) {d:aa} (h:∀c∈d,bw c=true\/c=88):∀c∈eQ z d,bw c=true:=by
 intro c hc;obtain ⟨b,e,rfl⟩:=fe.1 hc;by_cases hx:b=88
 ·rw [ae hx];exact a
 ·rw [ab hx];exact (h b e).resolve_right hx
theorem wA {z:UInt8} {d:aa} {i:Nat} {c:UInt8} (h:d[i]?=some c):(eQ z d)[i]?=some (if c=88 then z else c):=by
 simp [eQ,h]
def tP (d:aa):Nat:=10 ^ (d.reverse.takeWhile (λc=>c != 88)).length
def lh (g:Bool) (d:aa):Nat×Nat:=(if g=true/\dval 0 (eQ 48 d)=0 then tP d else dval 0 (eQ 48 d),dval 0 (eQ 57 d))
theorem Ry (m:Nat):aM (m+300) true false [48,48,48,88] 0 0=some (sgn true (lh true [48,48,48,88])):=by kernel_rfl
theorem RL (m:Nat):aM (m+300) true false [48,48,88,48] 0 0=some (sgn true (lh true [48,48,88,48])):=by kernel_rfl
theorem Uj (m:Nat):aM (m+300) true false [48,48,88,88] 0 0=some (sgn true (lh true [48,48,88,88])):=by kernel_rfl
theorem Tf (m:Nat):aM (m+300) true false [48,88,48,48] 0 0=some (sgn true (lh true [48,88,48,48])):=by kernel_rfl
theorem RD (m:Nat):aM (m+300) true false [48,88,48,88] 0 0=some (sgn true (lh true [48,88,48,88])):=by kernel_rfl
theorem RU (m:Nat):aM (m+300) true false [48,88,88,48] 0 0=some (sgn true (lh true [48,88,88,48])):=by kernel_rfl
theorem TA (m:Nat):aM (m+300) true false [48,88,88,88] 0 0=some (sgn true (lh true [48,88,88,88])):=by kernel_rfl
theorem TP (m:Nat):aM (m+300) true false [88,48,48,48] 0 0=some (sgn true (lh true [88,48,48,48])):=by kernel_rfl
theorem SR (m:Nat):aM (m+300) true false [88,48,48,88] 0 0=some (sgn true (lh true [88,48,48,88])):=by kernel_rfl
theorem Rz (m:Nat):aM (m+300) true false [88,48,88,48] 0 0=some (sgn true (lh true [88,48,88,48])):=by kernel_rfl
theorem P9 (m:Nat):aM (m+300) true false [88,48,88,88] 0 0=some (sgn true (lh true [88,48,88,88])):=by kernel_rfl
theorem Oy (m:Nat):aM (m+300) true false [88,88,48,48] 0 0=some (sgn true (lh true [88,88,48,48])):=by kernel_rfl
theorem PW (m:Nat):aM (m+300) true false [88,88,48,88] 0 0=some (sgn true (lh true [88,88,48,88])):=by kernel_rfl
theorem OO (m:Nat):aM (m+300) true false [88,88,88,48] 0 0=some (sgn true (lh true [88,88,88,48])):=by kernel_rfl
theorem Qs (m:Nat):aM (m+300) true false [88,88,88,88] 0 0=some (sgn true (lh true [88,88,88,88])):=by kernel_rfl
theorem Dc {d:aa} (k:d.length=4) (h:∀c∈d,bw c=true\/c=88) (i:dval 0 (eQ 48 d)=0):∀c∈d,c=48\/c=88:=by
 match d,k with
 | [a,b,c,e],_=>
  have g:=rn (z:=48) (by decide) h;have j:dval 0 (eQ 48 [a,b,c,e])=((((0*10+((if a=88 then (48:UInt8) else a).toNat - 48))*10+((if b=88 then (48:UInt8) else b).toNat - 48))*10+((if c=88 then (48:UInt8) else c).toNat - 48))*10+((if e=88 then (48:UInt8) else e).toNat - 48)):=by
   simp only [eQ,ga,List.map_nil,pE,qc,vK]
  rw [j] at i;have key:∀x:UInt8,bw (if x=88 then (48:UInt8) else x)=true->(if x=88 then (48:UInt8) else x).toNat - 48=0->x=48\/x=88:=by
   intro x hx l;by_cases f:x=88
   ·exact .inr f
   ·rw [ab f] at hx l;have:=(cr x).1 hx;exact .inl (gy.1 (by show x.toNat=48;omega))
  simp only [eQ,ga,List.map_nil,dr,th,uI,EM,forall_eq] at g ⊢;exact ⟨key a g.1 (by omega),key b g.2.1 (by omega),key c g.2.2.1 (by omega),key e g.2.2.2 (by omega)⟩
theorem zW {d:aa} (n:d.length=4) (h:∀c∈d,c=48\/c=88) (x:hasX d=true) (P:aa->Prop) (s:P [48,48,48,88]) (w:P [48,48,88,48]) (y:P [48,48,88,88]) (m:P [48,88,48,48]) (z:P [48,88,48,88]) (p:P [48,88,88,48]) (r:P [48,88,88,88]) (u:P [88,48,48,48]) (t:P [88,48,48,88]) (q:P [88,48,88,48]) (i:P [88,48,88,88]) (k:P [88,88,48,48]) (f:P [88,88,48,88]) (g:P [88,88,88,48]) (j:P [88,88,88,88]):P d:=by
 match d,n with
 | [a,b,c,e],_=>
  simp only [dr,th,uI,EM,forall_eq] at h;obtain ⟨v,o,hc,l⟩:=h;rcases v with rfl | rfl<;>rcases o with rfl | rfl<;>rcases hc with rfl | rfl<;>rcases l with rfl | rfl
  ·exact absurd x (by decide)
  ·exact s
  ·exact w
  ·exact y
  ·exact m
  ·exact z
  ·exact p
  ·exact r
  ·exact u
  ·exact t
  ·exact q
  ·exact i
  ·exact k
  ·exact f
  ·exact g
  ·exact j
theorem EK (n:Nat) (g l:Bool) (d:aa) (x s:Int) (o:d.length=4) (p:4<n):ar (gu n) n ([],[],0,g,l,d,x,s)=some (eQ 48 d,eQ 57 d,g,l,d,x,s):=by
 refine fO (step:=gu n) (λq=>∃i:Nat,i<=4/\q=((eQ 48 d).take i,(eQ 57 d).take i,(i:Int),g,l,d,x,s)) (λq=>4 - q.2.2.1.toNat) (λ_=>(eQ 48 d,eQ 57 d,g,l,d,x,s)) ?_ n _ ⟨0,by omega,by simp⟩ (by simp;omega);rintro q ⟨i,hi,rfl⟩;rcases aG i 4 with j | m
 ·obtain ⟨c,hc⟩:∃c,d[i]?=some c:=⟨d[i],be (by omega)⟩;have f:=S9 (wA (z:=48) hc);have b:=S9 (wA (z:=57) hc);have h:decide ((i:Int)<4)=true:=am (by omega);have k:IntKind.wrap .i64 ((i:Int)+1)=((i+1:Nat):Int):=by rw [wrap_i64 _ (by omega) (by omega)];omega
  refine .inl ⟨((eQ 48 d).take (i+1),(eQ 57 d).take (i+1),((i+1:Nat):Int),g,l,d,x,s),?_,⟨i+1,by omega,rfl⟩,by simp only [cb];omega,rfl⟩;simp only [gu,h,ah,k,ef (show i+1<=d.length by omega),ef (show i<=i+1 by omega),ob,cut1 hc];have a:∀z:UInt8,((eQ z d).take i).length<=4:=λz=>by rw [db];omega
  rw [f,b];by_cases hx:c=88
  ·have e:(([c]:aa)==[88])=true:=by rw [hx];rfl
   rw [e,ah,ae hx,ae hx,ci (by have:=a 48;simp;omega),ci (by have:=a 57;simp;omega)]
  ·have e:(([c]:aa)==[88])=false:=by
    rw [aL];intro e;exact hx (by simpa using e)
   rw [e,af,ab hx,ab hx,ci (by have:=a 48;simp;omega),ci (by have:=a 57;simp;omega)]
 ·have:i=4:=by omega
  subst this;refine .inr ?_;rw [ji (by rw [jw];omega),ji (by rw [jw];omega)];rfl
theorem Jg {d:aa} (h:d=[48,48,48,48]):dval 0 d=0:=by rw [h];decide
theorem AA (m:Nat) (g:Bool) (d:aa) (h:okY g false d 0 0) (k:hasX d=true):aM (m+300) g false d 0 0=some (sgn g (lh g d)):=by
 obtain ⟨_,_,_,j,l⟩:=qY h k;by_cases c:g=true/\dval 0 (eQ 48 d)=0
 ·obtain ⟨rfl,c⟩:=c;exact zW j (Dc j l c) k (λd=>aM (m+300) true false d 0 0=some (sgn true (lh true d))) (Ry m) (RL m) (Uj m) (Tf m) (RD m) (RU m) (TA m) (TP m) (SR m) (Rz m) (P9 m) (Oy m) (PW m) (OO m) (Qs m)
 ·have hs:lh g d=(dval 0 (eQ 48 d),dval 0 (eQ 57 d)):=by unfold lh;rw [ab c]
  have i:=rn (z:=48) (by decide) l;have f:=rn (z:=57) (by decide) l;have q:=va (eQ 48 d) 0 0 i (by simp);have o:=va (eQ 57 d) 0 0 f (by simp);rw [jw,j] at q o;have r:(10:Nat) ^ (4+0)=10000:=by decide
  have m1:ak (m+300) (eQ 48 d) 0=some (((dval 0 (eQ 48 d):Nat):Int),1):=by
   have:=jD (m+300) (eQ 48 d) 0 i (by rw [jw];omega) (by omega) (by rw [jw];omega);rw [ae (by unfold E16;simp only [Ar,rN];omega)] at this;simpa using this
  have m2:ak (m+300) (eQ 57 d) 0=some (((dval 0 (eQ 57 d):Nat):Int),1):=by
   have:=jD (m+300) (eQ 57 d) 0 f (by rw [jw];omega) (by omega) (by rw [jw];omega);rw [ae (by unfold E16;simp only [Ar,rN];omega)] at this;simpa using this
  have p:((if true=true then (1:Int) else 0)==1)=true:=rfl;have n:decide ((0:Int)>0)=false:=rfl;unfold aM;rw [oS _ g false d 0 0 (by omega) (by omega),k,EK _ g false d 0 0 j (by omega),hs];simp only [ob,aJ,rF,ah];cases g with
  | true=>
   have e:(eQ 48 d==([48,48,48,48]:aa))=false:=by
    rw [aL];intro e;exact c ⟨rfl,Jg e⟩
   simp only [ah,e,af,m1,m2,n,sgn,aJ];generalize dval 0 (eQ 48 d)=a at *;generalize dval 0 (eQ 57 d)=b at *;rw [wrap_i64 _ (by omega) (by omega),wrap_i64 _ (by omega) (by omega),zO,zO]
  | false=>simp only [af,m1,m2,n,sgn,br,aB]
def qo (g:Bool) (d:aa) (x s:Int):Nat×Nat:=if hasX d then lh g d else Aq d x.toNat s.toNat
theorem Qm (m:Nat) (g l:Bool) (d:aa) (x s:Int) (e:d.length<=100) (h:okY g l d x s):aM (m+300) g l d x s=some (sgn g (qo g d x s)):=by
 unfold qo;cases a:hasX d with
 | true=>
  obtain ⟨rfl,rfl,rfl,f,b⟩:=qY h a;exact AA m g d h a
 | false=>
  obtain ⟨k,q,rfl,rfl,c⟩:=uy h a;exact Dx _ g l d k q (by omega) e c
theorem TX {d:aa} {k q:Nat} (h:Num d k q):(Aq d k q).1<=val d k/\val d k<=(Aq d k q).2/\(Aq d k q).2<=E16:=by
 have hs:=h.small;have b:dval 0 d*10 ^ k=val d k:=rfl;rw [b] at hs;unfold Aq;split
 ·have a:1<=10 ^ (d.length+k - q):=B6 _ _ (by decide);generalize 10 ^ (d.length+k - q)=u at a ⊢;generalize val d k=v at hs ⊢;have c:=ER v u;have e:v<v / u*u+u:=by
   have h:=Nat.div_add_mod v u;have:=BN v a;rw [vf] at h;omega
  refine ⟨c,?_,Nat.min_le_right _ _⟩;rw [Nat.le_min];omega
 ·exact ⟨aW _,aW _,hs⟩
def mtk (d:aa):Nat->Nat->Bool
 | 0,_=>true
 | k+1,w=>(decide (d.getD k 0=88)||decide ((d.getD k 0).toNat=48+w%10))&&mtk d k (w / 10)
theorem Bq (d:aa) (k w:Nat):mtk d (k+1) w=((decide (d.getD k 0=88)||decide ((d.getD k 0).toNat=48+w%10))&&mtk d k (w / 10)):=rfl
theorem BS {d:aa} {k:Nat} {c:UInt8} (h:d[k]?=some c):d.getD k 0=c:=by
 rw [D9,h];rfl
theorem MG (n:Nat) (g l:Bool) (d:aa) (x s:Int) (A:d.length=4):∀(k w:Nat),k<=4->w<100000000000000000->∀q,k<q->
  ar (bO n) q ((w:Int),(k:Int) - 1,g,l,d,x,s)=some (if mtk d k w=true then .inr ((w / 10 ^ k:Nat):Int) else .inl 0)
 | 0,w,r,o,q,B=>by
  obtain ⟨q,rfl⟩:∃p,q=p+1:=⟨q - 1,by omega⟩;have j:decide (((0:Nat):Int) - 1>=0)=false:=rfl;have h:mtk d 0 w=true:=rfl;simp only [ar,bO,j,af];rw [ae h];simp
 | k+1,w,r,o,q,B=>by
  obtain ⟨q,rfl⟩:∃p,q=p+1:=⟨q - 1,by omega⟩;have ih:=MG n g l d x s A k (w / 10) (by omega) (by omega) q (by omega);obtain ⟨c,hc⟩:∃c,d[k]?=some c:=⟨d[k],be (by omega)⟩;have u:((k+1:Nat):Int) - 1=(k:Int):=by omega
  have j:decide ((k:Int)>=0)=true:=am (by omega);have m:Int.tmod (w:Int) 10=((w%10:Nat):Int):=rfl;have eq':Int.tdiv (w:Int) 10=((w / 10:Nat):Int):=rfl;have z:IntKind.wrap .i64 (48+((w%10:Nat):Int))=((48+w%10:Nat):Int):=by rw [wrap_i64 _ (by omega) (by omega)];omega
  have t:IntKind.wrap .u8 ((48+w%10:Nat):Int)=((48+w%10:Nat):Int):=kD _ (by omega) (by omega);have y:IntKind.wrap .i64 ((w / 10:Nat):Int)=((w / 10:Nat):Int):=wrap_i64 _ (by omega) (by omega);have v:IntKind.wrap .i64 ((k:Int) - 1)=(k:Int) - 1:=wrap_i64 _ (by omega) (by omega);have a:w / 10 ^ (k+1)=w / 10 / 10 ^ k:=by rw [tG,vf,Nat.div_div_eq_div_mul]
  rw [Bq,BS hc,a,u];simp only [ar,bO,j,ah,dI hc,ob,m,eq',z,t,y,v];by_cases hx:c=88
  ·have f:(((c.toNat:Nat):Int) != 88)=false:=by rw [hx];rfl
   rw [f,am hx];simp only [af,GP,nW];exact ih
  ·have f:(((c.toNat:Nat):Int) != 88)=true:=by
    simp only [bne,ly,aL];intro e;exact hx (gy.1 (by show c.toNat=88;omega))
   rw [f,aq hx];simp only [ah,pG];by_cases i:c.toNat=48+w%10
   ·have b:(((c.toNat:Nat):Int) != ((48+w%10:Nat):Int))=false:=by rw [i];simp
    rw [b,am i];simp only [af,nW];exact ih
   ·have b:(((c.toNat:Nat):Int) != ((48+w%10:Nat):Int))=true:=by
     simp only [bne,ly,aL];omega
    rw [b,aq i];simp only [ah,xT];rfl
def Gi (d:aa) (k q:Nat):Nat:=if 0<q then 10 ^ (d.length+k - q) else 1
def memP (d:aa) (x s:Int) (w:Nat):Prop:=if hasX d=true then mtk d 4 w=true/\w / 10 ^ 4=0 else val d x.toNat / Gi d x.toNat s.toNat=w / Gi d x.toNat s.toNat
instance (d:aa) (x s:Int) (w:Nat):Decidable (memP d x s w):=by unfold memP;infer_instance
def wOf (g:Bool) (v:Int):Int:=if g then -v else v
def inP (g:Bool) (d:aa) (x s v:Int):Prop:=-10000000000000000<=v/\v<=10000000000000000/\0<=wOf g v/\¬(hasX d=true/\g=true/\wOf g v=0)/\memP d x s (wOf g v).toNat
instance (g:Bool) (d:aa) (x s v:Int):Decidable (inP g d x s v):=by unfold inP;infer_instance
noncomputable def inT (n:Nat) (a0 a1:Bool) (a2:aa) (g h W:Int):Option Int:=
 (ob (aE n a0 a1 a2 g h) λc=>(cond (c==1) (ob (ar (bO n) n (W,3,a0,a1,a2,g,h)) λe=>(Sum.casesOn (motive:=λ_=>Option _) e (λd=>(some d)) (λf=>(cond (decide (f>0)) (some 0) (some 1))))) (ob (ak n a2 g) λb=>(cond (decide (h>0)) (ob (ak n [49] (IntKind.wrap .i64 ((IntKind.wrap .i64 (((List.length a2:Nat):Int)+g)) - h))) λa=>(cond (a.1==0) none (cond (a.1==0) none (cond ((IntKind.wrap .i64 (Int.tdiv b.1 a.1))==(IntKind.wrap .i64 (Int.tdiv W a.1))) (some 1) (some 0))))) (cond ((IntKind.wrap .i64 (Int.tdiv b.1 1))==(IntKind.wrap .i64 (Int.tdiv W 1))) (some 1) (some 0))))))
theorem J0 (a b:Nat):(((a:Nat):Int)==((b:Nat):Int))=decide (a=b):=by
 by_cases h:a=b
 ·subst h;simp
 ·rw [aq h,aL];omega
theorem HY {d:aa} {x s:Int} {w:Nat} (a:hasX d=true):memP d x s w↔mtk d 4 w=true/\w / 10 ^ 4=0:=by unfold memP;rw [ae a]
theorem Q3 {d:aa} {x s:Int} {w:Nat} (a:hasX d=false):memP d x s w↔val d x.toNat / Gi d x.toNat s.toNat=w / Gi d x.toNat s.toNat:=by unfold memP;rw [ab (by rw [a];simp)]
theorem in_T (m:Nat) {g l:Bool} {d:aa} {x s:Int} (o:okY g l d x s) (w:Nat) (R:w<=10000000000000000):inT (m+300) g l d x s (w:Int)=some (if memP d x s w then 1 else 0):=by
 have O:=kz o;have H:=oS (m+300) g l d x s (by omega) (by omega);unfold inT;cases i:hasX d with
 | true=>
  obtain ⟨rfl,rfl,rfl,L,_⟩:=qY o i;have D:=MG (m+300) g false d 0 0 L 4 w (by omega) (by omega) (m+300) (by omega);have hlp':ar (bO (m+300)) (m+300) ((w:Int),3,g,false,d,0,0)=_:=D;have B:((1:Int)==1)=true:=rfl;have j:aE (m+300) g false d 0 0=some 1:=by rw [H,i];rfl
  rw [j];simp only [ob,B,ah,hlp'];by_cases y:mtk d 4 w=true
  ·rw [ae y];by_cases A:w / 10 ^ 4=0
   ·have e:decide (((w / 10 ^ 4:Nat):Int)>0)=false:=aq (by rw [A];decide);rw [ae ((HY i).2 ⟨y,A⟩)];simp only [e,af]
   ·have e:decide (((w / 10 ^ 4:Nat):Int)>0)=true:=am (by
     generalize w / 10 ^ 4=t at A ⊢;omega)
    rw [ab (λq=>A ((HY i).1 q).2)];simp only [e,ah]
  ·rw [ab y,ab (λq=>y ((HY i).1 q).1)]
 | false=>
  obtain ⟨k,q,rfl,rfl,z⟩:=uy o i;have hw':=z.wide;have hs:=z.small;have S:=z.sig;have J:dval 0 d*10 ^ k=val d k:=rfl;have G:=jD (m+300) d k z.dig (by omega) (by omega) (by omega);rw [ae hs,J] at G;rw [J] at hs;unfold E16 at hs;have C:((0:Int)==1)=false:=rfl;have j:aE (m+300) g l d k q=some 0:=by rw [H,i];rfl
  have c:=Q3 (x:=(k:Int)) (s:=(q:Int)) (w:=w) i;rw [cb,cb] at c;unfold Gi at c;rw [j];simp only [ob,C,af,G];by_cases I:0<q
  ·have E:decide ((q:Int)>0)=true:=am (by omega);have w0:IntKind.wrap .i64 (IntKind.wrap .i64 (((d.length:Nat):Int)+(k:Int)) - (q:Int))=((d.length+k - q:Nat):Int):=by
    rw [wrap_i64 (((d.length:Nat):Int)+(k:Int)) (by omega) (by omega),wrap_i64 _ (by omega) (by omega)];omega
   have F:10 ^ (d.length+k - q)<=10 ^ 16:=oG (by decide) (by omega);have P:(10:Nat) ^ 16=10000000000000000:=by decide
   have one:dval 0 [49]=1:=by decide
   have h:dval 0 [49]*10 ^ (d.length+k - q)<=E16:=by rw [one];unfold E16;omega
   have n:=jD (m+300) [49] (d.length+k - q) (by decide) (by decide) (by omega) (by simp;omega);rw [ae h,one,yw] at n;have K:1<=10 ^ (d.length+k - q):=B6 _ _ (by decide);rw [E,w0,n];rw [ae I] at c;clear h n;generalize 10 ^ (d.length+k - q)=u at K F c ⊢;generalize val d k=v at hs c ⊢;have d2:(((u:Nat):Int)==0)=false:=aL.2 (by omega);have r:Int.tdiv ((v:Nat):Int) ((u:Nat):Int)=((v / u:Nat):Int):=rfl;have p:Int.tdiv ((w:Nat):Int) ((u:Nat):Int)=((w / u:Nat):Int):=rfl;have M:v / u<=v:=ES v u;have N:w / u<=w:=ES w u;simp only [ah,d2,af,r,p];generalize v / u=a at M c ⊢;generalize w / u=b at N c ⊢;rw [wrap_i64 _ (by omega) (by omega),wrap_i64 _ (by omega) (by omega),J0];by_cases f:a=b
   ·rw [am f,ae (c.2 f)];rfl
   ·rw [aq f,ab (λq=>f (c.1 q))];rfl
  ·have E:decide ((q:Int)>0)=false:=aq (by omega);have Q:∀a:Nat,Int.tdiv ((a:Nat):Int) 1=((a:Nat):Int):=λa=>by
    have:Int.tdiv ((a:Nat):Int) 1=((a / 1:Nat):Int):=rfl;rw [this,tc]
   rw [ab I,tc,tc] at c;rw [E];simp only [af,Q];rw [wrap_i64 _ (by omega) (by omega),wrap_i64 _ (by omega) (by omega),J0];by_cases f:val d k=w
   ·rw [am f,ae (c.2 f)];rfl
   ·rw [aq f,ab (λq=>f (c.1 q))];rfl
theorem VF (m:Nat) {g l:Bool} {d:aa} {x s:Int} (n:okY g l d x s) (v:Int):np (m+300) g l d x s v=some (if inP g d x s v then 1 else 0):=by
 have y:=kz n;have a:=λw o=>in_T m n w o;have p:=oS (m+300) g l d x s (by omega) (by omega);unfold inT at a;unfold np;by_cases u:v < -10000000000000000
 ·rw [am u,ab (λq=>by have:=q.1;omega)];rfl
 ·rw [aq u,af];by_cases t:v>10000000000000000
  ·rw [am t,ab (λq=>by have:=q.2.1;omega)];rfl
  ·rw [aq t,af];cases g with
   | true=>
    have w0:IntKind.wrap .i64 (0 - v)=-v:=by rw [wrap_i64 _ (by omega) (by omega)];omega
    simp only [ah,w0];by_cases k:-v<0
    ·rw [am k,ab (λq=>by have:=q.2.2.1;unfold wOf at this;simp only [aJ] at this;omega)];rfl
    ·rw [aq k,af];obtain ⟨w,o⟩:∃w:Nat,-v=(w:Int):=⟨(-v).toNat,by omega⟩;have a:=a w (by omega);have h:wOf true v=(w:Int):=by unfold wOf;simpa using o
     have c:¬(hasX d=true/\w=0)->(inP true d x s v↔memP d x s w):=by
      intro r;unfold inP;rw [h,cb];constructor
      ·exact λq=>q.2.2.2.2
      ·exact λq=>⟨by omega,by omega,by omega,λq=>r ⟨q.1,by omega⟩,q⟩
     rw [o];cases i:hasX d with
     | true=>
      have b:aE (m+300) true l d x s=some 1:=by rw [p,i];rfl
      rw [b];have f:((1:Int)==1)=true:=rfl;simp only [ob,f,ah];by_cases r:w=0
      ·have e:(((w:Nat):Int)==0)=true:=bG.2 (by omega);rw [e,ab (λq=>q.2.2.2.1 ⟨i,rfl,by rw [h];omega⟩)];rfl
      ·have e:(((w:Nat):Int)==0)=false:=aL.2 (by omega);rw [b] at a;simp only [ob,f,ah] at a;rw [e,af,a];have:=c (λq=>r q.2);by_cases hp:memP d x s w
       ·rw [ae hp,ae (this.2 hp)]
       ·rw [ab hp,ab (λq=>hp (this.1 q))]
     | false=>
      have b:aE (m+300) true l d x s=some 0:=by rw [p,i];rfl
      have j:((0:Int)==1)=false:=rfl;rw [b] at a ⊢;simp only [ob,j,af] at a ⊢;rw [a];have:=c (λq=>by rw [i] at q;cases q.1);by_cases hp:memP d x s w
      ·rw [ae hp,ae (this.2 hp)]
      ·rw [ab hp,ab (λq=>hp (this.1 q))]
   | false=>
    simp only [af];by_cases k:v<0
    ·rw [am k,ab (λq=>by have:=q.2.2.1;unfold wOf at this;simp only [br,aB] at this;omega)];rfl
    ·rw [aq k,af];obtain ⟨w,rfl⟩:∃w:Nat,v=(w:Int):=⟨v.toNat,by omega⟩;have a:=a w (by omega);have h:wOf false (w:Int)=(w:Int):=rfl;have c:inP false d x s (w:Int)↔memP d x s w:=by
      unfold inP;rw [h,cb];constructor
      ·exact λq=>q.2.2.2.2
      ·exact λq=>⟨by omega,by omega,by omega,λq=>(by cases q.2.1),q⟩
     cases i:hasX d with
     | true=>
      have b:aE (m+300) false l d x s=some 1:=by rw [p,i];rfl
      rw [b] at a ⊢;have f:((1:Int)==1)=true:=rfl;simp only [ob,f,ah] at a ⊢;rw [a];by_cases hp:memP d x s w
      ·rw [ae hp,ae (c.2 hp)]
      ·rw [ab hp,ab (λq=>hp (c.1 q))]
     | false=>
      have b:aE (m+300) false l d x s=some 0:=by rw [p,i];rfl
      rw [b] at a ⊢;have j:((0:Int)==1)=false:=rfl;simp only [ob,j,af] at a ⊢;rw [a];by_cases hp:memP d x s w
      ·rw [ae hp,ae (c.2 hp)]
      ·rw [ab hp,ab (λq=>hp (c.1 q))]
def loK (d:aa) (k:Nat):Nat:=dval 0 ((eQ 48 d).take k)
def hiK (d:aa) (k:Nat):Nat:=dval 0 ((eQ 57 d).take k)
theorem yA (z:UInt8) {d:aa} {k:Nat} {c:UInt8} (h:d[k]?=some c):dval 0 ((eQ z d).take (k+1))=dval 0 ((eQ z d).take k)*10+((if c=88 then z else c).toNat - 48):=by
 rw [S9 (wA h),Gp]
theorem CN (d:aa) (l:d.length=4) (j:∀c∈d,bw c=true\/c=88):∀(k w:Nat),k<=4->w<10 ^ k->mtk d k w=true->loK d k<=w/\w<=hiK d k
 | 0,w,f,b,a=>by
  simp at b;subst b;simp [loK,hiK,qc]
 | k+1,w,f,b,a=>by
  obtain ⟨c,hc⟩:∃c,d[k]?=some c:=⟨d[k],be (by omega)⟩;rw [Bq,BS hc,aA,iY,ck,ck] at a;have hp:(10:Nat) ^ (k+1)=10 ^ k*10:=tG 10 k;have ih:=CN d l j k (w / 10) (by omega) (by omega) a.2;have i:=yA 48 hc;have h:=yA 57 hc;unfold loK hiK at ih ⊢;rw [i,h];by_cases hx:c=88
  ·rw [ae hx,ae hx];have g:(48:UInt8).toNat - 48=0:=rfl;have e:(57:UInt8).toNat - 48=9:=rfl;rw [g,e];omega
  ·rw [ab hx,ab hx];have:=a.1.resolve_left hx;omega
theorem BC (z:UInt8) (f:bw z=true) (d:aa) (m:d.length=4) (h:∀c∈d,bw c=true\/c=88):∀k,k<=4->mtk d k (dval 0 ((eQ z d).take k))=true
 | 0,_=>rfl
 | k+1,n=>by
  obtain ⟨c,hc⟩:∃c,d[k]?=some c:=⟨d[k],be (by omega)⟩;have ih:=BC z f d m h k (by omega);have e:bw (if c=88 then z else c)=true:=by
   by_cases hx:c=88
   ·rw [ae hx];exact f
   ·rw [ab hx];exact (h c (gB hc)).resolve_right hx
  have l:=(cr _).1 e;rw [Bq,BS hc,yA z hc];generalize g:(if c=88 then z else c)=b at l ⊢;generalize dval 0 ((eQ z d).take k)=a at ih ⊢;have j:(a*10+(b.toNat - 48)) / 10=a:=by omega
  have i:(a*10+(b.toNat - 48))%10=b.toNat - 48:=by omega
  rw [j,i,ih,D1];by_cases hx:c=88
  ·rw [am hx];rfl
  ·rw [ab hx] at g;rw [g,am (show b.toNat=48+(b.toNat - 48) by omega),Bool.or_true]
def Bo:List (aa):=[[48,48,48,88],[48,48,88,48],[48,48,88,88],[48,88,48,48],[48,88,48,88],[48,88,88,48],[48,88,88,88],[88,48,48,48],[88,48,48,88],[88,48,88,48],[88,48,88,88],[88,88,48,48],[88,88,48,88],[88,88,88,48],[88,88,88,88]]
theorem XZ:Bo.all (λd=>mtk d 4 (tP d)&&decide (1<=tP d)&&decide (tP d<=1000)&&(List.range 1000).all (λw=>decide (w=0)||!mtk d 4 w||decide (tP d<=w)))=true:=by decide +kernel
theorem D4 {d:aa} (g:d∈Bo):mtk d 4 (tP d)=true/\1<=tP d/\tP d<=1000/\∀w,1<=w->mtk d 4 w=true->tP d<=w:=by
 have h:=cN.1 XZ d g;simp only [aA,ck,cN,lp,iY,ly] at h;obtain ⟨⟨⟨f,b⟩,e⟩,i⟩:=h;refine ⟨f,b,e,λw k c=>?_⟩;rcases aG w 1000 with a | j
 ·rcases i w a with (h | h) | h
  ·omega
  ·rw [c] at h;cases h
  ·exact h
 ·omega
theorem CX {d:aa} (a:d.length=4) (f:∀c∈d,bw c=true\/c=88) (b:hasX d=true) (e:dval 0 (eQ 48 d)=0):d∈Bo:=
 zW a (Dc a f e) b (λd=>d∈Bo) (by decide) (by decide) (by decide) (by decide) (by decide) (by decide) (by decide) (by decide) (by decide) (by decide) (by decide) (by decide) (by decide) (by decide) (by decide)
theorem Si {d:aa} (a:d.length=4):loK d 4=dval 0 (eQ 48 d):=by
 unfold loK;rw [ji (by rw [jw];omega)]
theorem SI {d:aa} (a:d.length=4):hiK d 4=dval 0 (eQ 57 d):=by
 unfold hiK;rw [ji (by rw [jw];omega)]
theorem OR {g:Bool} {d:aa} (b:d.length=4) (f:∀c∈d,bw c=true\/c=88) (q:hasX d=true):
  (lh g d).1<10000/\(lh g d).2<10000/\mtk d 4 (lh g d).1=true/\mtk d 4 (lh g d).2=true/\1<=(lh g d).2/\(g=true->1<=(lh g d).1)/\∀w,w<10000->mtk d 4 w=true->(g=true->1<=w)->(lh g d).1<=w/\w<=(lh g d).2:=by
 have r:(10:Nat) ^ 4=10000:=by decide
 have p:=rn (z:=48) (by decide) f;have o:=rn (z:=57) (by decide) f;have b1:=va (eQ 48 d) 0 0 p (by simp);have b2:=va (eQ 57 d) 0 0 o (by simp);rw [jw,b,cS,r] at b1 b2;have m1:=BC 48 (by decide) d b f 4 (by omega);have m2:=BC 57 (by decide) d b f 4 (by omega);rw [ji (by rw [jw];omega)] at m1 m2;have l:∀w,w<10000->mtk d 4 w=true->dval 0 (eQ 48 d)<=w/\w<=dval 0 (eQ 57 d):=λw k h=>by
  have:=CN d b f 4 w (by omega) (by omega) h;rw [Si b,SI b] at this;exact this
 have j:1<=dval 0 (eQ 57 d):=by
  rcases BF (dval 0 (eQ 57 d)) with i | i
  ·exfalso;have e:dval 0 (eQ 48 d)=0:=by
    have:=(l _ b1 m1).2;omega
   have n:=CX b f q e;have a:=D4 n;have:=(l _ (by omega) a.1).2;omega
  ·exact i
 unfold lh;by_cases e:g=true/\dval 0 (eQ 48 d)=0
 ·rw [ae e];have a:=D4 (CX b f q e.2);refine ⟨by simp only;omega,b2,a.1,m2,j,λ_=>a.2.1,λw k h m=>⟨a.2.2.2 w (m e.1) h,(l w k h).2⟩⟩
 ·rw [ab e];refine ⟨b1,b2,m1,m2,j,λm=>?_,λw k h m=>l w k h⟩;simp only;rcases BF (dval 0 (eQ 48 d)) with i | i
  ·exact absurd ⟨m,i⟩ e
  ·exact i
theorem OC {g l:Bool} {d:aa} {x s:Int} (f:okY g l d x s):(qo g d x s).1<=10000000000000000/\(qo g d x s).2<=10000000000000000/\memP d x s (qo g d x s).1/\memP d x s (qo g d x s).2/\(hasX d=true->1<=(qo g d x s).2/\(g=true->1<=(qo g d x s).1))/\
  ∀w,w<=10000000000000000->memP d x s w->(hasX d=true->g=true->1<=w)->(qo g d x s).1<=w/\w<=(qo g d x s).2:=by
 unfold qo memP;cases p:hasX d with
 | true=>
  obtain ⟨rfl,rfl,rfl,E,K⟩:=qY f p;obtain ⟨J,C,L,I,D,G,H⟩:=OR (g:=g) E K p;have O:(10:Nat) ^ 4=10000:=by decide
  simp only [aJ,O];refine ⟨by omega,by omega,⟨L,Nat.div_eq_of_lt J⟩,⟨I,Nat.div_eq_of_lt C⟩,λ_=>⟨D,G⟩,λw A j F=>H w (by omega) j.1 (F trivial)⟩
 | false=>
  obtain ⟨k,q,rfl,rfl,B⟩:=uy f p;have hs:=B.small;have N:dval 0 d*10 ^ k=val d k:=rfl;rw [N] at hs;obtain ⟨c,i,b⟩:=TX B;unfold E16 at b;simp only [br,aB,cb];unfold Gi;unfold Aq at c i b ⊢;by_cases m:0<q
  ·rw [ae m] at c i b ⊢;rw [ae m];have t:1<=10 ^ (d.length+k - q):=B6 _ _ (by decide);generalize 10 ^ (d.length+k - q)=u at *;generalize val d k=v at *;simp only at c i b ⊢;have e:v / u*u / u=v / u:=Nat.mul_div_cancel _ t;have n:∀w,v / u*u<=w->w<v / u*u+u->w / u=v / u:=by
    intro w z r;apply Nat.div_eq_of_lt_le
    ·exact z
    ·rw [Nat.succ_mul];exact r
   have a:∀w,v / u=w / u->v / u*u<=w/\w<v / u*u+u:=by
    intro w h;rw [h];have z:=ER w u;have r:=Nat.div_add_mod w u;have Q:=BN w t;rw [vf] at r;omega
   have y:min (v / u*u+u - 1) E16<=v / u*u+u - 1:=Nat.min_le_left _ _;have o:=a v rfl;refine ⟨by omega,b,e.symm,(n _ (by omega) (by omega)).symm,λq=>(by cases q),λw A j _=>?_⟩;obtain ⟨M,P⟩:=a w j;refine ⟨M,?_⟩;rw [Nat.le_min];unfold E16;omega
  ·rw [ab m] at c i b ⊢;rw [ab m];simp only [tc] at c i b ⊢;refine ⟨b,b,trivial,trivial,λq=>(by cases q),λw A j _=>by omega⟩
theorem Lm {g l:Bool} {d:aa} {x s:Int} (w:okY g l d x s):inP g d x s (sgn g (qo g d x s)).1/\inP g d x s (sgn g (qo g d x s)).2/\∀v,inP g d x s v->(sgn g (qo g d x s)).1<=v/\v<=(sgn g (qo g d x s)).2:=by
 obtain ⟨p,i,r,o,k,n⟩:=OC w;generalize qo g d x s=D at *;obtain ⟨lo,hi⟩:=D;simp only at p i r o k n;cases g with
 | true=>
  have b:∀a:Nat,wOf true (-(a:Int))=(a:Int):=λa=>by unfold wOf;simp
  have mk:∀a:Nat,a<=10000000000000000->memP d x s a->(hasX d=true->1<=a)->inP true d x s (-(a:Int)):=by
   intro a A u y;refine ⟨by omega,by omega,by rw [b];omega,λq=>?_,by rw [b,cb];exact u⟩;have:=y q.1;have C:=q.2.2;rw [b] at C;omega
  simp only [sgn,aJ];refine ⟨mk hi i o (λh=>(k h).1),mk lo p r (λh=>(k h).2 rfl),λv t=>?_⟩;obtain ⟨B,z,m,j,c⟩:=t;have f:wOf true v=-v:=rfl;rw [f] at m j c
  have:=n (-v).toNat (by omega) c (λhx _=>by
   have:¬-v=0:=λe=>j ⟨hx,rfl,e⟩;omega)
  omega
 | false=>
  have b:∀a:Int,wOf false a=a:=λa=>rfl;have mk:∀a:Nat,a<=10000000000000000->memP d x s a->inP false d x s (a:Int):=by
   intro a A u;exact ⟨by omega,by omega,by rw [b];omega,λq=>(by cases q.2.1),by rw [b,cb];exact u⟩
  simp only [sgn,br,aB];refine ⟨mk lo p r,mk hi i o,λv t=>?_⟩;obtain ⟨B,z,m,j,c⟩:=t;rw [b] at m c;have:=n v.toNat (by omega) c (λ_ q=>by cases q);omega
end Go.Sh
namespace Go.Sh.Mk
open Go.Abs
def okB (c:UInt8):Bool:=c.toNat==88||(decide (48<=c.toNat)&&decide (c.toNat<=57))
def chk (s:aa):Int:=if 18<s.length then 3 else if s.all okB then (if s=[] then 5 else 0) else 5
theorem vL (n:Nat) (s0 s:aa) (u:s.length+1<n):
  ar (jc n) n (s0,s,0)=some (if s.all okB then .inr s0 else .inl 5):=by
 have:=fO (step:=jc n) (λx=>x.1=s0/\x.2.1=s/\x.2.2<=s.length) (λx=>s.length - x.2.2)
  (λx=>if (s.drop x.2.2).all okB then .inr s0 else .inl 5) ?_ n (s0,s,0) ⟨rfl,rfl,fU _⟩ (by simp;omega)
 ·simpa using this
 rintro ⟨a,b,i⟩ ⟨rfl,rfl,hi⟩;simp only at hi ⊢;rcases aG i b.length with g | o
 ·obtain ⟨c,hc⟩:∃c,b[i]?=some c:=⟨b[i],be g⟩;have m:Nat.blt i b.length=true:=di g;rw [bS hc,m6];simp only [jc,m,ah];by_cases j:c.toNat<128
  ·rw [B7 hc j];by_cases l:c.toNat=88
   ·refine .inl ⟨(a,b,i+1),by simp [l],⟨rfl,rfl,by simp only;omega⟩,by simp only;omega,?_⟩;simp [okB,l]
   ·by_cases q:c.toNat<48
    ·refine .inr ?_;have f:(((c.toNat:Nat):Int) != 88)=true:=by simp;omega
     have d:(decide (((c.toNat:Nat):Int)<48))=true:=by simp;omega
     have e:okB c=false:=by simp [okB];omega
     simp [f,d,e]
    ·by_cases p:57<c.toNat
     ·refine .inr ?_;have f:(((c.toNat:Nat):Int) != 88)=true:=by simp;omega
      have d:(decide (((c.toNat:Nat):Int)<48))=false:=by simp;omega
      have k:(decide (((c.toNat:Nat):Int)>57))=true:=by simp;omega
      have e:okB c=false:=by simp [okB];omega
      simp [f,d,e,k]
     ·have f:(((c.toNat:Nat):Int) != 88)=true:=by simp;omega
      have d:(decide (((c.toNat:Nat):Int)<48))=false:=by simp;omega
      have k:(decide (((c.toNat:Nat):Int)>57))=false:=by simp;omega
      have e:okB c=true:=by simp [okB];omega
      refine .inl ⟨(a,b,i+1),by simp only [f,d,k,ah,af],⟨rfl,rfl,by simp only;omega⟩,by simp only;omega,?_⟩;simp [e]
  ·obtain ⟨t,r⟩:=Iu hc (by omega);refine .inr ?_;have f:((((dec b i).1:Nat):Int) != 88)=true:=by simp;omega
   have d:(decide ((((dec b i).1:Nat):Int)<48))=false:=by simp;omega
   have k:(decide ((((dec b i).1:Nat):Int)>57))=true:=by simp;omega
   have e:okB c=false:=by simp [okB];omega
   simp [f,d,e,k]
 ·have m:Nat.blt i b.length=false:=by
   cases h:Nat.blt i b.length with
   | false=>rfl
   | true=>have:i<b.length:=aI h;omega
  refine .inr ?_;simp only [jc,m,af];rw [jr o];rfl
theorem mr (n:Nat) (s:aa) (b:30<=n):kI n s=some (chk s):=by
 unfold kI chk;by_cases h:18<s.length
 ·have:(decide (((List.length s:Nat):Int)>18))=true:=by simp;omega
  simp [this,h]
 ·have e:(decide (((List.length s:Nat):Int)>18))=false:=by simp;omega
  simp only [e,af,h,aB];rw [vL n s s (by omega)];by_cases a:s.all okB=true
  ·simp only [a,aJ,ob];by_cases hs:s=[]
   ·simp [hs]
   ·have:(s==([]:aa))=false:=by simpa using hs
    simp [this,hs]
  ·simp [a,ob]
theorem nM {s:aa} (h:chk s=0):s.length<=18/\s≠[]/\∀c∈s,okB c=true:=by
 unfold chk at h;split at h
 ·simp at h
 ·split at h
  ·rename_i a;split at h
   ·simp at h
   ·rename_i hs;exact ⟨by omega,hs,by simpa using a⟩
  ·simp at h
def nums (l:aa):List Int:=l.map λb=>((b.toNat:Nat):Int)
def over (d:List Int) (i:Nat) (l:List Int):List Int:=d.take i++(l++d.drop (i+l.length))
theorem A7 (d:List Int) (i:Nat) (x:Int) (l:List Int) (h:i<d.length):over (d.set i x) (i+1) l=over d i (x::l):=by
 unfold over;rw [show (d.set i x).take (i+1)=d.take i++[x] from by
  rw [KN (by simpa using h)];simp [List.take_set_of_le]]
 rw [List.drop_set_of_lt (by omega)];simp [iO,qL 1]
theorem H6 (d:List Int) (i:Nat):over d i []=d:=by simp [over]
theorem OL (d:List Int) (i:Nat) (l:List Int) (h:i+l.length<=d.length):(over d i l).length=d.length:=by
 unfold over;simp;omega
theorem P5 {x y:UInt8}:(((x.toNat:Nat):Int)==((y.toNat:Nat):Int))=decide (x=y):=by
 by_cases h:x=y
 ·simp [h]
 ·have:x.toNat≠y.toNat:=λe=>h (gy.1 e);simp [h];omega
theorem A3 {x:UInt8}:(((x.toNat:Nat):Int)==88)=decide (x=88):=by
 have:=P5 (x:=x) (y:=88);simpa using this
def dg:Nat->Int->List Int
 | 0,_=>[]
 | L+1,k=>dg L (k / 10)++[48+k%10]
theorem wK:∀(L:Nat) (k:Int),(dg L k).length=L
 | 0,_=>rfl
 | L+1,k=>by simp [dg,wK L]
theorem uD:∀(L:Nat) (k:Int),∀x∈dg L k,48<=x/\x<58
 | 0,_,x,h=>by simp [dg] at h
 | L+1,k,x,h=>by
  simp only [dg,oq,wM] at h;rcases h with h | rfl
  ·exact uD L _ x h
  ·omega
def jI:aa->List Int->Bool
 | c::m,d::l=>(c==88||decide (((c.toNat:Nat):Int)=d))&&jI m l
 | _,_=>true
theorem vz:∀{a c:aa} {b d:List Int},a.length=b.length->jI (a++c) (b++d)=(jI a b&&jI c d)
 | [],c,[],d,_=>by simp [jI]
 | x::a,c,y::b,d,h=>by
  simp only [az,wY] at h;simp only [eU,jI,vz h,Bool.and_assoc]
def hasM (m:aa) (k:Int):Bool:=decide (0<=k)&&(decide (k<10 ^ m.length)&&jI m (dg m.length k))
theorem Qh (L:Nat) (h:L<=18):qg 20000000 ((L:Nat):Int)=some (10 ^ L):=by
 have a:allN (λi=>match qg 20000000 ((i:Nat):Int) with | some r=>decide (r=10 ^ i) | none=>false) 19=true:=by kernel_rfl
 have:=EB a L (by omega);split at this
 ·rename_i r b;rw [b];simpa using this
 ·cases this
theorem C9 (L:Nat) (h:L<=18):(10:Int) ^ L<=1000000000000000000:=by
 have a:allN (λi=>decide ((10:Int) ^ i<=1000000000000000000)) 19=true:=by kernel_rfl
 simpa using EB a L (by omega)
theorem UL {k:Int} (h:0<=k):Int.tmod k 10=k%10:=NY h
theorem V4 {k:Int} (h:0<=k):Int.tdiv k 10=k / 10:=Q2 h
theorem IA (k:Int) (i:Nat) (d:List Int) (a:0<=k) (e:k<9223372036854775808) (hi:i<=18) (b:d.length=18):
  ar (je 20000000) 20000000 (k,(i:Int) - 1,d)=some (over d 0 (dg i k)):=by
 have:=fO (step:=je 20000000) (λx=>(0<=x.1/\x.1<9223372036854775808)/\(-1<=x.2.1/\x.2.1<=17)/\x.2.2.length=18) (λx=>(x.2.1+1).toNat)
  (λx=>over x.2.2 0 (dg (x.2.1+1).toNat x.1)) ?_ 20000000 (k,(i:Int) - 1,d) ⟨⟨a,e⟩,⟨by simp only;omega,by simp only;omega⟩,b⟩ (by simp only;omega)
 ·simpa using this
 rintro ⟨k,i,d⟩ ⟨⟨a,e⟩,⟨m,o⟩,b⟩;simp only at a e m o b ⊢;by_cases hi:0<=i
 ·obtain ⟨j,rfl⟩:∃j:Nat,i=j:=⟨i.toNat,by omega⟩;have f:j<18:=by omega
  have c:decide ((j:Int)>=0)=true:=by simp
  have g:Nat.blt j 18=true:=di f;have p:IntKind.wrap .i64 ((j:Int) - 1)=(j:Int) - 1:=wrap_i64 _ (by omega) (by omega);have l:IntKind.wrap .i64 (Int.tdiv k 10)=k / 10:=by rw [V4 a];exact wrap_i64 _ (by omega) (by omega)
  have n:IntKind.wrap .u8 (IntKind.wrap .i64 (48+Int.tmod k 10))=48+k%10:=by rw [UL a,wrap_i64 _ (by omega) (by omega),kD _ (by omega) (by omega)]
  refine .inl ⟨(k / 10,(j:Int) - 1,d.set j (48+k%10)),by simp only [je,c,ah,eG f,ob,g,p,l,n],⟨⟨by simp only;omega,by simp only;omega⟩,⟨by simp only;omega,by simp only;omega⟩,by simpa using b⟩,by simp only;omega,?_⟩;have h:((j:Int) - 1+1).toNat=j:=by omega
  have q:((j:Int)+1).toNat=j+1:=by omega
  simp only [h,q,over,lX,dW,wK,de,dg,fV];congr 1;rw [List.drop_set,ab (by omega),BD,sJ (by omega)];simp only [List.set_cons_zero,aU,wK,az,aX,eU,dW,de]
 ·have c:decide (i>=0)=false:=by simp;omega
  have s:(i+1).toNat=0:=by omega
  refine .inr ?_;simp only [je,c,af,s,dg,H6]
theorem Om (m:aa) (k:Int) (a:m.length<=18) (c:0<=k) (b:k<9223372036854775808):
  l9 20000000 m k=some (over [0,0,0,0,0,0,0,0,0,0,0,0,0,0,0,0,0,0] 0 (dg m.length k)):=by
 have w:IntKind.wrap .i64 (((List.length m:Nat):Int) - 1)=(m.length:Int) - 1:=wrap_i64 _ (by omega) (by omega);simp only [l9,w,IA k m.length [0,0,0,0,0,0,0,0,0,0,0,0,0,0,0,0,0,0] c b a (by rfl),ob]
theorem wu {d l:List Int} {i:Nat} (h:i<l.length):(over d 0 l)[i]?=l[i]?:=by
 unfold over;simp only [lX,dW];rw [oc h]
theorem zj:∀(l:List Int),(∀x∈l,0<=x/\x<256)->nums (iP l)=l
 | [],_=>rfl
 | x::l,h=>by
  have ih:=zj l λy hy=>h y (fN _ hy);obtain ⟨c,a⟩:=h x (by simp);have e:(((UInt8.ofNat x.toNat).toNat:Nat):Int)=x:=by
   rw [FY,qR (by omega)];omega
  simp only [nums,iP,tz] at ih ⊢;simp only [ga,Function.comp,e];rw [show List.map ((λb:UInt8=>((b.toNat:Nat):Int)) ∘ λn:Int=>UInt8.ofNat n.toNat) l=l from ih]
theorem OM (l:aa):(nums l).length=l.length:=by simp [nums]
def cnt:aa->Nat
 | []=>0
 | c::r=>if c=88 then cnt r+1 else cnt r
def dv (c:UInt8):Int:=((c.toNat:Nat):Int) - 48
def nth:aa->Int->Int
 | [],_=>0
 | c::r,i=>if c=88 then 10*nth r (i / 10)+i%10 else 10*nth r i+dv c
def ag:aa->Int->Bool
 | [],_=>true
 | c::r,k=>ag r (k / 10)&&(decide (c=88)||decide (dv c=k%10))
def idx:aa->Int->Int
 | [],_=>0
 | c::r,k=>if c=88 then 10*idx r (k / 10)+k%10 else idx r (k / 10)
def okR (r:aa):Prop:=∀c∈r,c=88\/(0<=dv c/\dv c<10)
theorem zI {m:aa} (h:∀c∈m,okB c=true):okR m.reverse:=by
 intro c hc;have:=h c (FZ.1 hc);simp only [okB,iY,bG,aA,ck] at this;rcases this with h | h
 ·exact .inl (gy.1 (by simpa using h))
 ·exact .inr (by unfold dv;omega)
theorem si {c:UInt8} {r:aa} (h:okR (c::r)):okR r:=λx hx=>h x (fN _ hx)
theorem jd (n:Nat):(10:Int) ^ (n+1)=10*10 ^ n:=by rw [Int.pow_succ,zt]
theorem ux (n:Nat):(0:Int)<10 ^ n:=Int.pow_pos (by omega)
theorem rC:∀{r:aa},okR r->∀i,0<=i->0<=nth r i/\nth r i<10 ^ r.length
 | [],_,i,_=>by simp [nth]
 | c::r,h,i,hi=>by
  simp only [nth,az,jd];split
  ·have:=rC (si h) (i / 10) (by omega);omega
  ·rename_i hc;have:=rC (si h) i hi;have:=(h c (by simp)).resolve_left hc;omega
theorem NM:∀{r:aa},okR r->∀i,0<=i->ag r (nth r i)=true
 | [],_,_,_=>rfl
 | c::r,h,i,hi=>by
  simp only [nth,ag];split
  ·rename_i hc;have e:(10*nth r (i / 10)+i%10) / 10=nth r (i / 10):=by omega
   rw [e,NM (si h) (i / 10) (by omega)];simp [hc]
  ·rename_i hc;have b:=(h c (by simp)).resolve_left hc;have e:(10*nth r i+dv c) / 10=nth r i:=by omega
   have a:(10*nth r i+dv c)%10=dv c:=by omega
   rw [e,a,NM (si h) i hi];simp
theorem wV:∀(r:aa) (k:Int),0<=k->0<=idx r k/\idx r k<10 ^ cnt r
 | [],k,_=>by simp [idx,cnt]
 | c::r,k,a=>by
  have:=wV r (k / 10) (by omega);simp only [idx,cnt];split
  ·rw [jd];omega
  ·exact this
theorem Nh:∀{r:aa} {k:Int},0<=k->k<10 ^ r.length->ag r k=true->nth r (idx r k)=k
 | [],k,f,b,_=>by simp at b;simp [nth];omega
 | c::r,k,f,b,a=>by
  simp only [ag,aA,iY,ck] at a;rw [az,jd] at b;have ih:=Nh (r:=r) (k:=k / 10) (by omega) (by omega) a.1;simp only [nth,idx];split
  ·have:=wV r (k / 10) (by omega);have e:(10*idx r (k / 10)+k%10) / 10=idx r (k / 10):=by omega
   have d:(10*idx r (k / 10)+k%10)%10=k%10:=by omega
   rw [e,d,ih];omega
  ·rename_i hc;rw [ih];have:=a.2.resolve_left hc;omega
theorem Bc:∀{r:aa},okR r->∀i j,0<=i->i<j->j<10 ^ cnt r->nth r i<nth r j
 | [],_,i,j,d,b,a=>by simp [cnt] at a;omega
 | c::r,h,i,j,d,b,a=>by
  simp only [nth,cnt] at a ⊢;split
  ·rename_i hc;rw [ae hc,jd] at a;by_cases e:i / 10=j / 10
   ·rw [e];omega
   ·have:=Bc (si h) (i / 10) (j / 10) (by omega) (by omega) (by omega);omega
  ·rename_i hc;rw [ab hc] at a;have:=Bc (si h) i j d b a;omega
theorem Ig:∀(r:aa),∀k,jI r.reverse (dg r.length k)=ag r k
 | [],k=>rfl
 | c::r,k=>by
  simp only [List.reverse_cons,az,dg,ag];rw [vz (by rw [vo,wK]),Ig r];have b:decide (((c.toNat:Nat):Int)=48+k%10)=decide (dv c=k%10):=nY.2 (by unfold dv;omega);have a:(c==88)=decide (c=88):=by by_cases h:c=88<;>simp [h]
  simp only [jI,D1,b,a]
theorem FW (m:aa) (k:Int):hasM m k=(decide (0<=k)&&(decide (k<10 ^ m.length)&&ag m.reverse k)):=by
 have:=Ig m.reverse k;rw [xF,vo] at this;unfold hasM;rw [this]
theorem yf:∀(m:aa),cnt m=m.count 88
 | []=>rfl
 | c::m=>by
  simp only [cnt,yf m,List.count_cons];by_cases h:c=88<;>simp [h]
theorem tj (m:aa):cnt m.reverse=cnt m:=by rw [yf,yf,List.count_reverse]
theorem NW:∀(m:aa),cnt m<=m.length
 | []=>by simp [cnt]
 | c::m=>by
  have:=NW m;simp only [cnt,az];split<;>omega
def fd (x y:Int):Int:=(if y=88 then x else y) - 48
def fval (x:Int) (l:List Int):Int:=l.foldl (λn y=>10*n+fd x y) 0
theorem A9 (x:Int):∀(l:List Int) (n:Int),l.foldl (λn y=>10*n+fd x y) n=n*10 ^ l.length+fval x l
 | [],n=>by simp [fval]
 | y::l,n=>by
  have e:=A9 x l (10*n+fd x y);have a:=A9 x l (10*0+fd x y);simp only [fval,vG,az,jd] at e a ⊢;rw [e,a,Int.add_mul,Int.add_mul];have:10*n*10 ^ l.length=n*(10*10 ^ l.length):=by rw [zt 10 n,Int.mul_assoc]
  omega
theorem yo (s:aa) (x:Int) (B:s.length<=18) (hs:∀c∈s,0<=fd x ((c.toNat:Nat):Int)/\fd x ((c.toNat:Nat):Int)<10):mz 20000000 s x=some (fval x (nums s)):=by
 have hs':∀y∈nums s,0<=fd x y/\fd x y<10:=by
  intro y hy;obtain ⟨c,hc,rfl⟩:=fe.1 hy;exact hs c hc
 have u:(nums s).length=s.length:=OM s;have:=fO (step:=g9 20000000)
  (λst=>st.1=x/\st.2.2.1=((s.length:Nat):Int)/\st.2.2.2.2=nums s/\(0<=st.2.2.2.1/\st.2.2.2.1<=s.length)/\0<=st.2.1/\st.2.1<10 ^ st.2.2.2.1.toNat) (λst=>s.length - st.2.2.2.1.toNat)
  (λst=>((nums s).drop st.2.2.2.1.toNat).foldl (λn y=>10*n+fd x y) st.2.1) ?_ 20000000 (x,0,((s.length:Nat):Int),0,nums s) ⟨rfl,rfl,rfl,⟨by simp,by simp⟩,by simp,by simp⟩ (by simp;omega)
 ·show (ob (ar (g9 20000000) 20000000 (x,0,((List.length (nums s):Nat):Int),0,nums s)) λh=>some h)=_;rw [u,this];rfl
 rintro ⟨b,n,len,i,l⟩ ⟨m,r,o,⟨A,hi⟩,v,p⟩;simp only at m r o A hi v p ⊢;subst m r o;obtain ⟨j,rfl⟩:∃j:Nat,i=j:=⟨i.toNat,by omega⟩;simp only [cb] at p ⊢;rcases aG j s.length with t | D
 ·obtain ⟨y,hy⟩:∃c,(nums s)[j]?=some c:=⟨(nums s)[j]'(by omega),be (by omega)⟩;obtain ⟨d0,d⟩:=hs' y (gB hy);have g:(decide ((j:Int)<((s.length:Nat):Int)))=true:=by simp;omega
  have C:IntKind.wrap .i64 ((j:Int)+1)=((j+1:Nat):Int):=by rw [wrap_i64 _ (by omega) (by omega)];omega
  have e:=C9 (j+1) (by omega);rw [jd] at e;have w:IntKind.wrap .i64 (10*n)=10*n:=wrap_i64 _ (by omega) (by omega);have q:∀z:Int,0<=z->z<10->IntKind.wrap .i64 (10*n+IntKind.wrap .i64 (IntKind.wrap .u8 z))=10*n+z:=λz E z1=>by
   rw [kD z (by omega) (by omega),wrap_i64 z (by omega) (by omega),wrap_i64 _ (by omega) (by omega)]
  rw [bS hy,vG];simp only [g9,g,ah,eG (show j<(nums s).length by omega),ob,hy,C,w];have next:0<=10*n+fd b y/\10*n+fd b y<10 ^ (j+1):=by rw [jd];omega
  by_cases a:y=88
  ·have f:(y==88)=true:=by simpa using a
   have k:fd b y=b - 48:=by simp [fd,a]
   rw [k] at d0 d next ⊢;refine .inl ⟨(b,10*n+(b - 48),((s.length:Nat):Int),((j+1:Nat):Int),nums s),by simp only [f,ah,q _ d0 d],⟨rfl,rfl,rfl,⟨by simp only;omega,by simp only;omega⟩,next.1,by simpa only [cb] using next.2⟩,by simp only [cb];omega,by simp only [cb]⟩
  ·have f:(y==88)=false:=by simpa using a
   have k:fd b y=y - 48:=by simp [fd,a]
   rw [k] at d0 d next ⊢;refine .inl ⟨(b,10*n+(y - 48),((s.length:Nat):Int),((j+1:Nat):Int),nums s),by simp only [f,af,q _ d0 d],⟨rfl,rfl,rfl,⟨by simp only;omega,by simp only;omega⟩,next.1,by simpa only [cb] using next.2⟩,by simp only [cb];omega,by simp only [cb]⟩
 ·have g:(decide ((j:Int)<((s.length:Nat):Int)))=false:=by simp;omega
  refine .inr ?_;simp only [g9,g,af];rw [jr (by omega)];rfl
theorem yz (x:Int) (l:List Int) (y:Int):fval x (l++[y])=10*fval x l+fd x y:=by simp [fval,GN]
theorem Dl (r:aa) (c:UInt8):nums ((c::r).reverse)=nums r.reverse++[((c.toNat:Nat):Int)]:=by simp [nums]
theorem FO (x:Int) (c:UInt8):fd x ((c.toNat:Nat):Int)=if c=88 then x - 48 else dv c:=by
 unfold fd dv;by_cases h:c=88
 ·simp [h]
 ·have:¬((c.toNat:Nat):Int)=88:=λe=>h (gy.1 (by simpa using (by omega:c.toNat=88)));rw [ab this,ab h]
theorem Aa:∀(r:aa),fval 48 (nums r.reverse)=nth r 0
 | []=>rfl
 | c::r=>by
  rw [Dl,yz,Aa r,FO];simp only [nth];split<;>simp
theorem uh:∀(r:aa),fval 57 (nums r.reverse)=nth r (10 ^ cnt r - 1)
 | []=>rfl
 | c::r=>by
  have hp:=ux (cnt r);rw [Dl,yz,uh r,FO];simp only [nth,cnt];split
  ·rw [jd];have b:(10*(10:Int) ^ cnt r - 1) / 10=10 ^ cnt r - 1:=by omega
   have a:(10*(10:Int) ^ cnt r - 1)%10=9:=by omega
   rw [b,a];omega
  ·rfl
theorem VD {m:aa} (a:∀c∈m,okB c=true) {x:Int} (hx:48<=x/\x<58):∀c∈m,0<=fd x ((c.toNat:Nat):Int)/\fd x ((c.toNat:Nat):Int)<10:=by
 intro c hc;rw [FO];have:=zI a c (FZ.2 hc);split
 ·omega
 ·rename_i h;exact this.resolve_left h
theorem Py {m:aa} (c:chk m=0):qa 20000000 m=some (nth m.reverse 0,0):=by
 obtain ⟨b,_,a⟩:=nM c;have d:((0:Int) != 0)=false:=by simp
 have:=Aa m.reverse;rw [xF] at this;simp only [qa,mr 20000000 m (by omega),c,ob,d,af,yo m 48 b (VD a (by omega)),this]
theorem FK {m:aa} (c:chk m=0):mj 20000000 m=some (nth m.reverse (10 ^ cnt m - 1),0):=by
 obtain ⟨b,_,a⟩:=nM c;have d:((0:Int) != 0)=false:=by simp
 have:=uh m.reverse;rw [xF,tj] at this;simp only [mj,mr 20000000 m (by omega),c,ob,d,af,yo m 57 b (VD a (by omega)),this]
theorem OT {m:aa} {l:List Int} (z:List Int) (a:m.length<=18) (g:l.length=m.length) (d:∀y∈l,48<=y/\y<58):gG 20000000 m (over z 0 l)=some (fval 0 l):=by
 have f:List.take m.length (over z 0 l)=l:=by
  unfold over;rw [lX,dW,vq (by omega),ji (by omega)]
 have e:nums (iP l)=l:=zj l λy hy=>by have:=d y hy;omega
 have h:(iP l).length=m.length:=by simp [iP,g]
 simp only [gG,ef a,ob,de,show Nat.ble m.length 18=true from di a,ah,cf,f];rw [yo (iP l) 0 (by omega) ?_,e];intro c hc;have b:((c.toNat:Nat):Int)∈l:=by rw [<-e];exact fe.2 ⟨c,hc,rfl⟩
 have:=d _ b;unfold fd;rw [ab (by omega)];omega
theorem HG {m:aa} (e:chk m=0) {i:Int} (c:0<=i):hasM m (nth m.reverse i)=true:=by
 obtain ⟨d,_,a⟩:=nM e;have b:=rC (zI a) i c;rw [vo] at b;rw [FW,NM (zI a) i c,am b.1,am b.2];rfl
def vl:List Int->Int
 | []=>0
 | y::l=>(y - 48)*10 ^ l.length+vl l
def digl (l:List Int):Prop:=∀y∈l,48<=y/\y<58
theorem dE {y:Int} {l:List Int} (h:digl (y::l)):digl l:=λx hx=>h x (fN _ hx)
theorem wg:∀{l:List Int},digl l->0<=vl l/\vl l<10 ^ l.length
 | [],_=>by simp [vl]
 | y::l,h=>by
  have ih:=wg (dE h);have hy:=h y (by simp);have hp:=ux l.length;simp only [vl,az,jd];have a1:0<=(y - 48)*10 ^ l.length:=Int.mul_nonneg (by omega) (by omega);have a2:(y - 48)*10 ^ l.length<=9*10 ^ l.length:=QI (by omega) (by omega);omega
theorem RP {y z:Int} {a b:List Int} (f:a.length=b.length) (e:digl a) (c:digl b) (h:y<z):vl (y::a)<vl (z::b):=by
 have g:=wg e;have d:=wg c;have hp:=ux a.length;simp only [vl];rw [<-f] at d ⊢;have a2:(y - 48+1)*10 ^ a.length<=(z - 48)*10 ^ a.length:=QI (by omega) (by omega);rw [Int.add_mul] at a2;omega
theorem AG:∀{l:List Int},digl l->fval 0 l=vl l
 | [],_=>rfl
 | y::l,h=>by
  have hy:=h y (by simp);have e:fval 0 (y::l)=l.foldl (λn y=>10*n+fd 0 y) (10*0+fd 0 y):=rfl;have a:fd 0 y=y - 48:=by unfold fd;rw [ab (by omega)]
  rw [e,A9,AG (dE h),a];simp only [vl,Int.mul_zero,Int.zero_add]
theorem JO {l:List Int} {y:Int} (h:digl (l++[y])):vl (l++[y])=10*vl l+(y - 48):=by
 have hy:=h y (by simp);have a:digl l:=λx hx=>h x (by simp [hx]);rw [<-AG h,<-AG a,yz];unfold fd;rw [ab (by omega)]
theorem Ph:∀(L:Nat) (k:Int),0<=k->k<10 ^ L->vl (dg L k)=k
 | 0,k,c,a=>by simp at a;simp [dg,vl];omega
 | L+1,k,c,a=>by
  rw [jd] at a;have:=Ph L (k / 10) (by omega) (by omega);have b:=uD (L+1) k;simp only [dg] at b ⊢;rw [JO b,this];omega
theorem XD {l:List Int} (h:digl l):dg l.length (vl l)=l:=by
 have b:∀(r:List Int),digl r.reverse->dg r.length (vl r.reverse)=r.reverse:=by
  intro r
  induction r with
  | nil=>intro _;rfl
  | cons y r ih=>
   intro h;simp only [List.reverse_cons,az] at h ⊢;have hy:=h y (by simp);rw [JO h];simp only [dg];have c:(10*vl r.reverse+(y - 48)) / 10=vl r.reverse:=by omega
   have a:48+(10*vl r.reverse+(y - 48))%10=y:=by omega
   rw [c,a,ih λx hx=>h x (oq.2 (.inl hx))]
 have:=b l.reverse (by rw [xF];exact h);rwa [xF,vo] at this
def fst (up:Bool):Int:=cond up 48 57
def lst (up:Bool):Int:=cond up 57 48
def stp (up:Bool) (y:Int):Int:=cond up (y+1) (y - 1)
def fil (up:Bool) (m:aa):List Int:=m.map λc=>cond (decide (c=88)) (fst up) ((c.toNat:Nat):Int)
def nx (up:Bool):aa->List Int->Option (List Int)
 | c::m,y::l=>
  if c=88 then
   match nx up m l with
   | some r=>some (y::r)
   | none=>if y=lst up then none else some (stp up y::fil up m)
  else if ((c.toNat:Nat):Int)=y then (nx up m l).map λr=>y::r
  else if decide (((c.toNat:Nat):Int)>y)=up then some (((c.toNat:Nat):Int)::fil up m) else none
 | _,_=>some []
def okM (m:aa):Prop:=∀c∈m,okB c=true
theorem rX {c:UInt8} {m:aa} (h:okM (c::m)):okM m:=λx hx=>h x (fN _ hx)
theorem G8 {c:UInt8} (h:okB c=true) (a:¬c=88):48<=((c.toNat:Nat):Int)/\((c.toNat:Nat):Int)<58:=by
 simp only [okB,iY,bG,aA,ck] at h;have:¬c.toNat=88:=λe=>a (gy.1 (by simpa using e));omega
theorem AP (up:Bool) (m:aa):(fil up m).length=m.length:=by simp [fil]
theorem LN (up:Bool) {m:aa} (h:okM m):digl (fil up m):=by
 intro y hy;obtain ⟨c,hc,rfl⟩:=fe.1 hy;by_cases a:c=88
 ·simp only [am a,ah];cases up<;>simp [fst]
 ·simp only [aq a,af];exact G8 (h c hc) a
theorem xE (up:Bool):∀(m:aa),jI m (fil up m)=true
 | []=>rfl
 | c::m=>by
  have:=xE up m;simp only [fil,ga,jI] at this ⊢;rw [this];by_cases a:c=88
  ·simp [a]
  ·simp [a]
def fp (up:Bool) (a b:Int):Prop:=match up with | true=>a<=b | false=>b<=a
theorem Be (up:Bool):∀{m:aa} {e:List Int},okM m->m.length=e.length->digl e->jI m e=true->fp up (vl (fil up m)) (vl e)
 | [],[],_,_,_,_=>by cases up<;>simp [fil,vl,fp]
 | c::m,y::e,l,i,j,k=>by
  simp only [az,wY] at i;simp only [jI,aA,iY,bG,ck] at k;have ih:=Be up (rX l) i (dE j) k.2;have hy:=j y (by simp);have f:=AP up m;have n:=LN up (rX l);have a:∀z:Int,vl (z::fil up m)=(z - 48)*10 ^ m.length+vl (fil up m):=λz=>by rw [vl,f]
  have d:fil up (c::m)=(cond (decide (c=88)) (fst up) ((c.toNat:Nat):Int))::fil up m:=rfl;rw [d];by_cases g:c=88
  ·simp only [am g,ah];by_cases b:y=fst up
   ·rw [<-b,a,vl,<-i];cases up<;>simp only [fp] at ih ⊢<;>omega
   ·cases up
    ·exact Int.le_of_lt (RP (by rw [f,i]) (dE j) n (by simp [fst] at b ⊢;omega))
    ·exact Int.le_of_lt (RP (by rw [f,i]) n (dE j) (by simp [fst] at b ⊢;omega))
  ·simp only [aq g,af];rw [k.1.resolve_left g,a,vl,<-i];cases up<;>simp only [fp] at ih ⊢<;>omega
 | [],_::_,_,h,_,_=>by simp at h
 | _::_,[],_,h,_,_=>by simp at h
theorem Ss (up:Bool):∀{m:aa} {l:List Int},okM m->m.length=l.length->digl l->
  match nx up m l with
  | some r=>r.length=m.length/\digl r/\jI m r=true/\fp up (vl l) (vl r)/\∀e,e.length=m.length->digl e->jI m e=true->fp up (vl l) (vl e)->fp up (vl r) (vl e)
  | none=>∀e,e.length=m.length->digl e->jI m e=true->¬fp up (vl l) (vl e)
 | [],[],_,_,_=>by
  simp only [nx];refine ⟨rfl,by intro y hy;simp at hy,rfl,by cases up<;>simp [fp],?_⟩;intro e C _ _ _;simp only [aX] at C;rw [tL C];cases up<;>simp [fp]
 | c::m,y::l,L,t,U=>by
  simp only [az,wY] at t;have ih:=Ss up (rX L) t (dE U);have hy:=U y (by simp);have x:=dE U;have s:=AP up m;have B:=LN up (rX L);have K:∀{z w:Int} {a b:List Int},a.length=m.length->b.length=m.length->digl a->digl b->z<w->vl (z::a)<vl (w::b):=λC J N P S=>RP (by rw [C,J]) N P S;have d:∀(z:Int) {a b:List Int},a.length=m.length->b.length=m.length->(fp up (vl (z::a)) (vl (z::b))↔fp up (vl a) (vl b)):=λz a b C J=>by
   simp only [vl,C,J];cases up<;>simp only [fp]<;>omega
  have p:∀{z w:Int} {a b:List Int},a.length=m.length->b.length=m.length->digl a->digl b->z≠w->(fp up (vl (z::a)) (vl (w::b))↔fp up z w):=λ{z w a b} C J N P S=>by
   rcases Int.lt_trichotomy z w with h | h | h
   ·have:=K C J N P h;cases up<;>simp only [fp]<;>omega
   ·exact absurd h S
   ·have:=K J C P N h;cases up<;>simp only [fp]<;>omega
  have f:∀e:List Int,e.length=(c::m).length->∃w a,e=w::a/\a.length=m.length:=λe h=>by
   match e,h with
   | w::a,h=>exact ⟨w,a,rfl,by simpa using h⟩
  by_cases g:c=88
  ·cases E:nx up m l with
   | some r=>
    rw [E] at ih;obtain ⟨H,O,V,R,Q⟩:=ih;simp only [nx,ae g,E];refine ⟨by simp [H],λz u=>?_,by simp [jI,g,V],(d y t.symm H).2 R,λe v j o q=>?_⟩
    ·rcases dr.1 u with rfl | u
     ·exact hy
     ·exact O z u
    ·obtain ⟨w,a,rfl,i⟩:=f e v;simp only [jI,g,yb,GP,nW] at o;by_cases D:y=w
     ·subst D;exact (d y H i).2 (Q a i (dE j) o ((d y t.symm i).1 q))
     ·exact (p H i O (dE j) D).2 ((p t.symm i x (dE j) D).1 q)
   | none=>
    rw [E] at ih;by_cases k:y=lst up
    ·simp only [nx,ae g,E,ae k];intro e v j o q;obtain ⟨w,a,rfl,i⟩:=f e v;simp only [jI,g,yb,GP,nW] at o;have Y:=j w (by simp);by_cases D:y=w
     ·subst D;exact ih a i (dE j) o ((d y t.symm i).1 q)
     ·have:=(p t.symm i x (dE j) D).1 q;cases up<;>simp only [fp,lst,ah,af] at this k<;>omega
    ·simp only [nx,ae g,E,ab k];have hs:48<=stp up y/\stp up y<58/\y≠stp up y/\fp up y (stp up y)/\∀w,w≠y->fp up y w->fp up (stp up y) w:=by
      cases up<;>simp only [fp,lst,stp,ah,af] at k ⊢<;>exact ⟨by omega,by omega,by omega,by omega,λw C J=>by omega⟩
     obtain ⟨W,s2,s3,Z,s5⟩:=hs;refine ⟨by simp [s],λz u=>?_,by simp [jI,g,xE],(p t.symm s x B s3).2 Z,λe v j o q=>?_⟩
     ·rcases dr.1 u with rfl | u
      ·exact ⟨W,s2⟩
      ·exact B z u
     ·obtain ⟨w,a,rfl,i⟩:=f e v;simp only [jI,g,yb,GP,nW] at o;by_cases D:y=w
      ·subst D;exact absurd ((d y t.symm i).1 q) (ih a i (dE j) o)
      ·have X:=s5 w (λh=>D h.symm) ((p t.symm i x (dE j) D).1 q);by_cases M:stp up y=w
       ·rw [M];exact (d w s i).2 (Be up (rX L) i.symm (dE j) o)
       ·exact (p s i B (dE j) M).2 X
  ·have T:=G8 (L c (by simp)) g;have F:∀w a,jI (c::m) (w::a)=true->w=((c.toNat:Nat):Int)/\jI m a=true:=λw a h=>by
    simp only [jI,aA,iY,bG,ck] at h;exact ⟨(h.1.resolve_left g).symm,h.2⟩
   by_cases n:((c.toNat:Nat):Int)=y
   ·cases E:nx up m l with
    | some r=>
     rw [E] at ih;obtain ⟨H,O,V,R,Q⟩:=ih;simp only [nx,ab g,ae n,E,fc];refine ⟨by simp [H],λz u=>?_,by simp [jI,n,V],(d y t.symm H).2 R,λe v j o q=>?_⟩
     ·rcases dr.1 u with rfl | u
      ·exact hy
      ·exact O z u
     ·obtain ⟨w,a,rfl,i⟩:=f e v;obtain ⟨rfl,A⟩:=F w a o;rw [n] at q ⊢;exact (d y H i).2 (Q a i (dE j) A ((d y t.symm i).1 q))
    | none=>
     rw [E] at ih;simp only [nx,ab g,ae n,E,jh];intro e v j o q;obtain ⟨w,a,rfl,i⟩:=f e v;obtain ⟨rfl,A⟩:=F w a o;rw [n] at q;exact ih a i (dE j) A ((d y t.symm i).1 q)
   ·have I:decide (((c.toNat:Nat):Int)>y)=up↔fp up y ((c.toNat:Nat):Int):=by
     cases up
     ·simp only [uU,fp];omega
     ·simp only [ck,fp];omega
    by_cases G:decide (((c.toNat:Nat):Int)>y)=up
    ·simp only [nx,ab g,ab n,ae G];refine ⟨by simp [s],λz u=>?_,by simp [jI,xE],(p t.symm s x B (λh=>n h.symm)).2 (I.1 G),λe v j o q=>?_⟩
     ·rcases dr.1 u with rfl | u
      ·exact T
      ·exact B z u
     ·obtain ⟨w,a,rfl,i⟩:=f e v;obtain ⟨rfl,A⟩:=F w a o;exact (d _ s i).2 (Be up (rX L) i.symm (dE j) A)
    ·simp only [nx,ab g,ab n,ab G];intro e v j o q;obtain ⟨w,a,rfl,i⟩:=f e v;obtain ⟨rfl,A⟩:=F w a o;exact G (I.2 ((p t.symm i x (dE j) (λh=>n h.symm)).1 q))
 | [],_::_,_,h,_=>by simp at h
 | _::_,[],_,h,_=>by simp at h
def ap:aa->List Int->Nat
 | c::m,y::l=>if c=88\/((c.toNat:Nat):Int)=y then ap m l+1 else 0
 | _,_=>0
theorem VH:∀(m:aa) (l:List Int),ap m l<=m.length
 | [],_=>by simp [ap]
 | c::m,[]=>by simp [ap]
 | c::m,y::l=>by
  have:=VH m l;simp only [ap,az];split<;>omega
theorem LU:∀(m:aa) (l:List Int),jI (m.take (ap m l)) (l.take (ap m l))=true
 | [],_=>by simp [ap,jI]
 | c::m,[]=>by simp [ap,jI]
 | c::m,y::l=>by
  have:=LU m l;simp only [ap];split
  ·rename_i h;simp only [n6,jI,this,D1,iY,bG,ck];exact h
  ·rfl
theorem MA:∀{m:aa} {l:List Int} {c:UInt8} {y:Int},m[ap m l]?=some c->l[ap m l]?=some y->¬c=88/\¬((c.toNat:Nat):Int)=y
 | [],_,c,y,h,_=>by simp at h
 | x::m,[],c,y,_,h=>by simp at h
 | x::m,z::l,c,y,b,a=>by
  by_cases h:x=88\/((x.toNat:Nat):Int)=z
  ·simp only [ap,ae h,G1] at b a;exact MA b a
  ·simp only [ap,ab h,my,au] at b a;subst b a;exact ⟨λe=>h (.inl e),λe=>h (.inr e)⟩
def bkn (up:Bool):aa->List Int->aa->Option (List Int)
 | c::m,y::d,m'=>
  match bkn up m d m' with
  | some r=>some (y::r)
  | none=>if c=88/\y≠lst up then some (stp up y::fil up (m++m')) else none
 | _,_,_=>none
theorem Cf (up:Bool):∀{m m':aa} {d d':List Int},m.length=d.length->jI m d=true->
  nx up (m++m') (d++d')=match nx up m' d' with | some r=>some (d++r) | none=>bkn up m d m'
 | [],m',[],d',_,_=>by
  simp only [dW];cases nx up m' d'<;>rfl
 | c::m,m',y::d,d',e,b=>by
  simp only [az,wY] at e;simp only [jI,aA,iY,bG,ck] at b;have ih:=Cf up (m':=m') (d':=d') e b.2;simp only [eU,nx,ih,bkn];by_cases a:c=88
  ·simp only [ae a];cases nx up m' d' with
   | some r=>rfl
   | none=>
    cases bkn up m d m' with
    | some r=>rfl
    | none=>
     by_cases hy:y=lst up
     ·simp [hy]
     ·simp [hy,a]
  ·simp only [ab a,ae (b.1.resolve_left a)];cases nx up m' d' with
   | some r=>rfl
   | none=>
    cases bkn up m d m' with
    | some r=>rfl
    | none=>simp [a]
 | [],_,_::_,_,h,_=>by simp at h
 | _::_,_,[],_,h,_=>by simp at h
theorem Hr (up:Bool) (c:UInt8) (y:Int):∀{m m':aa} {d:List Int},m.length=d.length->
  bkn up (m++[c]) (d++[y]) m'=if c=88/\y≠lst up then some (d++stp up y::fil up m') else bkn up m d (c::m')
 | [],m',[],_=>by simp [bkn]
 | x::m,m',z::d,a=>by
  simp only [az,wY] at a;have ih:=Hr up c y (m':=m') a;simp only [eU,bkn,ih];by_cases h:c=88/\y≠lst up
  ·simp only [ae h]
  ·simp only [ab h,fV,eU,dW]
 | [],_,_::_,h=>by simp at h
 | _::_,_,[],h=>by simp at h
def bki (up:Bool) (m:aa) (l:List Int):Nat->Option Nat
 | 0=>none
 | j+1=>if m[j]?=some 88/\l[j]?≠some (lst up) then some j else bki up m l j
theorem Q5 (up:Bool) (m:aa) (l:List Int):∀{j a:Nat},bki up m l j=some a->a<j
 | 0,a,h=>by simp [bki] at h
 | j+1,a,h=>by
  simp only [bki] at h;split at h
  ·simp only [au] at h;omega
  ·have:=Q5 up m l h;omega
theorem Gu (up:Bool) (m:aa) (l:List Int) (d:m.length=l.length):∀j,j<=m.length->
  bkn up (m.take j) (l.take j) (m.drop j)=(bki up m l j).map λa=>l.take a++stp up (l.getD a 0)::fil up (m.drop (a+1))
 | 0,_=>by simp [bkn,bki]
 | j+1,h=>by
  obtain ⟨c,hc⟩:∃c,m[j]?=some c:=⟨m[j]'(by omega),be (by omega)⟩;obtain ⟨y,hy⟩:∃c,l[j]?=some c:=⟨l[j]'(by omega),be (by omega)⟩;have ih:=Gu up m l d j (by omega);rw [bS hc] at ih;rw [pN,pN,hc,hy];simp only [Option.toList_some];rw [Hr up c y (by simp;omega),ih];have e:l.getD j 0=y:=by rw [D9,hy];rfl
  simp only [bki,hc,hy,ne_eq,au];by_cases b:c=88/\¬y=lst up
  ·rw [ae b,ae b,fc,e]
  ·rw [ab b,ab b]
section
variable {m:List UInt8} {l z:List Int}
theorem mO (A:m.length=l.length) (u:m.length<=18) (k f g:Int) (up:Bool):
  ar (fL 20000000) 20000000 (m,k,up,f,g,0,over z 0 l,over z 0 l)=some (m,k,up,f,g,((ap m l:Nat):Int),over z 0 l,over z 0 l):=by
 have:=fO (step:=fL 20000000) (λx=>x.1=m/\(0<=x.2.2.2.2.2.1/\x.2.2.2.2.2.1<=m.length)/\x.2.2.2.2.2.2.1=over z 0 l) (λx=>m.length - x.2.2.2.2.2.1.toNat)
  (λx=>(x.1,x.2.1,x.2.2.1,x.2.2.2.1,x.2.2.2.2.1,x.2.2.2.2.2.1+((ap (m.drop x.2.2.2.2.2.1.toNat) (l.drop x.2.2.2.2.2.1.toNat):Nat):Int),x.2.2.2.2.2.2.1,x.2.2.2.2.2.2.2)) ?_ 20000000 (m,k,up,f,g,0,over z 0 l,over z 0 l) ⟨rfl,⟨by simp,by simp⟩,rfl⟩ (by simp;omega)
 ·simpa using this
 rintro ⟨m',k,up,f,g,i,d,o⟩ ⟨r,⟨w,hi⟩,s⟩;simp only at r w hi s ⊢;subst r s;obtain ⟨j,rfl⟩:∃j:Nat,i=j:=⟨i.toNat,by omega⟩;simp only [cb];rcases aG j m'.length with q | p
 ·obtain ⟨c,hc⟩:∃c,m'[j]?=some c:=⟨m'[j],be q⟩;obtain ⟨y,hy⟩:∃c,l[j]?=some c:=⟨l[j]'(by omega),be (by omega)⟩;have v:(over z 0 l)[j]?=some y:=by rw [wu (by omega)];exact hy
  have n:(decide ((j:Int)<((List.length m':Nat):Int)))=true:=by simp;omega
  have t:IntKind.wrap .i64 ((j:Int)+1)=((j+1:Nat):Int):=by rw [wrap_i64 _ (by omega) (by omega)];omega
  rw [bS hc,bS hy];simp only [fL,n,ah,dI hc,ob,A3,t,eG (show j<18 by omega),v,ap];by_cases b:c=88
  ·refine .inl ⟨(m',k,up,f,g,((j+1:Nat):Int),over z 0 l,o),by simp only [am b,ah],⟨rfl,⟨by simp only;omega,by simp only;omega⟩,rfl⟩,by simp only [cb];omega,?_⟩;simp only [cb,ae (show c=88\/((c.toNat:Nat):Int)=y from .inl b)];congr 6;omega
  ·simp only [aq b,af];by_cases a:((c.toNat:Nat):Int)=y
   ·have e:(((c.toNat:Nat):Int)==y)=true:=by simpa using a
    refine .inl ⟨(m',k,up,f,g,((j+1:Nat):Int),over z 0 l,o),by simp only [e,ah],⟨rfl,⟨by simp only;omega,by simp only;omega⟩,rfl⟩,by simp only [cb];omega,?_⟩;simp only [cb,ae (show c=88\/((c.toNat:Nat):Int)=y from .inr a)];congr 6;omega
   ·have e:(((c.toNat:Nat):Int)==y)=false:=by simpa using a
    refine .inr ?_;simp only [e,af,ab (show ¬(c=88\/((c.toNat:Nat):Int)=y) from λh=>h.elim b a),Int.ofNat_zero,Int.add_zero,Int.natCast_zero]
 ·have n:(decide ((j:Int)<((List.length m':Nat):Int)))=false:=by simp;omega
  refine .inr ?_;simp only [fL,n,af];rw [jr p];simp [ap]
theorem Nn (A:m.length=l.length) (s:m.length<=18) (f:Int) (up:Bool) (o:List Int) (i:Nat) (hi:i<=m.length):
  ar (cG 20000000) 20000000 (m,up,f,lst up,(i:Int),over z 0 l,o) =
   some (match bki up m l i with | none=>.inl (0,16) | some a=>.inr (m,up,f,((a:Nat):Int),o)):=by
 have:=fO (step:=cG 20000000) (λx=>x.1=m/\x.2.2.2.1=lst up/\(0<=x.2.2.2.2.1/\x.2.2.2.2.1<=m.length)/\x.2.2.2.2.2.1=over z 0 l) (λx=>x.2.2.2.2.1.toNat)
  (λx=>match bki up m l x.2.2.2.2.1.toNat with | none=>.inl (0,16) | some a=>.inr (x.1,x.2.1,x.2.2.1,((a:Nat):Int),x.2.2.2.2.2.2)) ?_ 20000000 (m,up,f,lst up,(i:Int),over z 0 l,o) ⟨rfl,rfl,⟨by simp only;omega,by simp only;omega⟩,rfl⟩ (by simp;omega)
 ·simpa using this
 rintro ⟨m',n,f,g,i,d,o⟩ ⟨p,q,⟨v,hi⟩,r⟩;simp only at p q v hi r ⊢;subst p r q;obtain ⟨j,rfl⟩:∃j:Nat,i=j:=⟨i.toNat,by omega⟩;simp only [cb];rcases j with _ | j
 ·refine .inr ?_;have w:IntKind.wrap .i64 (((0:Nat):Int) - 1)=-1:=wrap_i64 _ (by omega) (by omega);simp only [cG,w,show decide ((-1:Int)<0)=true from rfl,ah,bki]
 ·have w:IntKind.wrap .i64 (((j+1:Nat):Int) - 1)=(j:Int):=by rw [wrap_i64 _ (by omega) (by omega)];omega
  have t:decide ((j:Int)<0)=false:=by simp
  obtain ⟨c,hc⟩:∃c,m'[j]?=some c:=⟨m'[j]'(by omega),be (by omega)⟩;obtain ⟨y,hy⟩:∃c,l[j]?=some c:=⟨l[j]'(by omega),be (by omega)⟩;have u:(over z 0 l)[j]?=some y:=by rw [wu (by omega)];exact hy
  simp only [cG,w,t,af,dI hc,ob,A3,eG (show j<18 by omega),u,bki,hc,hy,au,ne_eq];by_cases b:c=88
  ·by_cases k:y=lst up
   ·have e:(y != lst up)=false:=by simpa using k
    refine .inl ⟨(m',n,f,lst up,(j:Int),over z 0 l,o),by simp only [am b,ah,e,af],⟨rfl,rfl,⟨by simp only;omega,by simp only;omega⟩,rfl⟩,by simp only [cb];omega,?_⟩;simp only [cb,ab (show ¬(c=88/\¬y=lst up) from λh=>h.2 k)]
   ·have e:(y != lst up)=true:=by simpa using k
    refine .inr ?_;simp only [am b,ah,e,ae (show c=88/\¬y=lst up from ⟨b,k⟩)]
  ·refine .inl ⟨(m',n,f,lst up,(j:Int),over z 0 l,o),by simp only [aq b,af],⟨rfl,rfl,⟨by simp only;omega,by simp only;omega⟩,rfl⟩,by simp only [cb];omega,?_⟩;simp only [cb,ab (show ¬(c=88/\¬y=lst up) from λh=>b h.1)]
theorem DJ (r:m.length<=18) (up:Bool) (d:List Int) (e:d.length=18) (i:Nat) (hi:i<=m.length):
  ar (bz 20000000) 20000000 (m,fst up,(i:Int),d)=some (m,over d i (fil up (m.drop i))):=by
 have:=fO (step:=bz 20000000) (λx=>x.1=m/\x.2.1=fst up/\(0<=x.2.2.1/\x.2.2.1<=m.length)/\x.2.2.2.length=18) (λx=>m.length - x.2.2.1.toNat)
  (λx=>(m,over x.2.2.2 x.2.2.1.toNat (fil up (m.drop x.2.2.1.toNat)))) ?_ 20000000 (m,fst up,(i:Int),d) ⟨rfl,rfl,⟨by simp only;omega,by simp only;omega⟩,e⟩ (by simp;omega)
 ·simpa using this
 rintro ⟨m',f,i,d⟩ ⟨n,o,⟨s,hi⟩,e⟩;simp only at n o s hi e ⊢;subst n o;obtain ⟨j,rfl⟩:∃j:Nat,i=j:=⟨i.toNat,by omega⟩;simp only [cb];rcases aG j m'.length with h | k
 ·obtain ⟨c,hc⟩:∃c,m'[j]?=some c:=⟨m'[j],be h⟩;have l:j<18:=by omega
  have g:(decide ((j:Int)<((List.length m':Nat):Int)))=true:=by simp;omega
  have q:IntKind.wrap .i64 ((j:Int)+1)=((j+1:Nat):Int):=by rw [wrap_i64 _ (by omega) (by omega)];omega
  have p:Nat.blt j 18=true:=di l;have b:∀c:UInt8,fil up (c::m'.drop (j+1))=(cond (decide (c=88)) (fst up) ((c.toNat:Nat):Int))::fil up (m'.drop (j+1)):=λ_=>rfl;rw [bS hc,b];simp only [bz,g,ah,dI hc,ob,A3,eG l,p,q];by_cases a:c=88
  ·refine .inl ⟨(m',fst up,((j+1:Nat):Int),(d.set j ((c.toNat:Nat):Int)).set j (fst up)),by simp only [am a,ah],⟨rfl,rfl,⟨by simp only;omega,by simp only;omega⟩,by simpa using e⟩,by simp only [cb];omega,?_⟩;simp only [cb,am a,ah];rw [List.set_set,A7 _ _ _ _ (by omega)]
  ·refine .inl ⟨(m',fst up,((j+1:Nat):Int),d.set j ((c.toNat:Nat):Int)),by simp only [aq a,af],⟨rfl,rfl,⟨by simp only;omega,by simp only;omega⟩,by simpa using e⟩,by simp only [cb];omega,?_⟩;simp only [cb,aq a,af];rw [A7 _ _ _ _ (by omega)]
 ·have g:(decide ((j:Int)<((List.length m':Nat):Int)))=false:=by simp;omega
  refine .inr ?_;simp only [bz,g,af];rw [jr k];simp [fil,H6]
theorem Df (z l F:List Int) (i:Nat) (h:i+F.length=l.length):over (over z 0 l) i F=over z 0 (l.take i++F):=by
 unfold over;simp only [lX,dW,de,aU,db,tg (show i<=l.length by omega),h];rw [vq (by omega),List.drop_append_of_le_length (by omega),List.drop_of_length_le (aW l.length)];simp
end
theorem JJ {m:aa} (hm:chk m=0) (up:Bool) (k:Int) (V:0<=k) (h1:k<10 ^ m.length):
  dD 20000000 m k up=some (match nx up m (dg m.length k) with | some r=>(vl r,0) | none=>(0,16)):=by
 obtain ⟨g,_,P⟩:=nM hm;have hp:=C9 m.length g;have f:=wK m.length k;have n:=uD m.length k;have W:=Ph m.length k V h1;have Q:=Ss up P f.symm n;have j:=Om m k g V (by omega);generalize dg m.length k=l at f n W Q j ⊢;have o:(over [0,0,0,0,0,0,0,0,0,0,0,0,0,0,0,0,0,0] 0 l).length=18:=by rw [OL _ _ _ (by simp;omega)];rfl
 have A:∀r:List Int,nx up m l=some r->gG 20000000 m (over [0,0,0,0,0,0,0,0,0,0,0,0,0,0,0,0,0,0] 0 r)=some (vl r):=by
  intro r hr;rw [hr] at Q;obtain ⟨X,T,_⟩:=Q;rw [OT _ g X T,AG T]
 have v:=VH m l;have F:=LU m l;have b:=Cf up (m:=m.take (ap m l)) (m':=m.drop (ap m l)) (d:=l.take (ap m l)) (d':=l.drop (ap m l)) (by simp;omega) F;rw [uE,uE] at b;have h:l9 20000000 m k=some (over [0,0,0,0,0,0,0,0,0,0,0,0,0,0,0,0,0,0] 0 l):=j;generalize Z:([0,0,0,0,0,0,0,0,0,0,0,0,0,0,0,0,0,0]:List Int)=z at o A h;rcases aG (ap m l) m.length with H | Y
 ·obtain ⟨c,hc⟩:∃c,m[ap m l]?=some c:=⟨m[ap m l],be H⟩;obtain ⟨y,hy⟩:∃c,l[ap m l]?=some c:=⟨l[ap m l]'(by omega),be (by omega)⟩;obtain ⟨E,J⟩:=MA hc hy;have B:(over z 0 l)[ap m l]?=some y:=by rw [wu (by omega)];exact hy
  have s:(((ap m l:Nat):Int)==((List.length m:Nat):Int))=false:=by simp;omega
  have C:ap m l<18:=by omega
  have L:fil up (m.drop (ap m l))=((c.toNat:Nat):Int)::fil up (m.drop (ap m l+1)):=by
   rw [bS hc];simp [fil,E]
  have K:=Gu up m l f.symm (ap m l) v;have R:nx up (m.drop (ap m l)) (l.drop (ap m l))=if decide (((c.toNat:Nat):Int)>y)=up then some (fil up (m.drop (ap m l))) else none:=by
   rw [L,bS hc,bS hy];simp only [nx,ab E,ab J]
  rw [R] at b;by_cases q:decide (((c.toNat:Nat):Int)>y)=up
  ·rw [ae q] at b;simp only at b;have u:=A _ b;rw [b];simp only [];rw [<-Df z l _ _ (by rw [AP,bL];omega)] at u;have G:=DJ g up _ o (ap m l) v;cases up
   ·have i:=mO (z:=z) f.symm g k 57 48 false;have l2':ar (bz 20000000) 20000000 (m,57,((ap m l:Nat):Int),over z 0 l)=_:=G;simp only [dD,ij,ah,h,ob,i,s,af,dI hc,eG C,B,q,yb,cv,l2',u]
   ·have i:=mO (z:=z) f.symm g k 48 57 true;have l2':ar (bz 20000000) 20000000 (m,48,((ap m l:Nat):Int),over z 0 l)=_:=G;simp only [dD,cv,ah,h,ob,i,s,af,dI hc,eG C,B,q,yb,l2',u]
  ·rw [ab q] at b;simp only [K] at b;have p:(!(decide (((c.toNat:Nat):Int)>y)==up))=true:=by
    cases up<;>cases hh:decide (((c.toNat:Nat):Int)>y)<;>simp_all
   have t:=Nn (z:=z) f.symm g (fst up) up (over z 0 l) (ap m l) v;cases I:bki up m l (ap m l) with
   | none=>
    rw [I] at b t;simp only [jh] at b;rw [b];simp only [] at t ⊢;cases up
    ·have i:=mO (z:=z) f.symm g k 57 48 false;have l1':ar (cG 20000000) 20000000 (m,false,57,48,((ap m l:Nat):Int),over z 0 l,over z 0 l)=_:=t;simp only [dD,ij,ah,h,ob,i,s,af,dI hc,eG C,B,p,l1']
    ·have i:=mO (z:=z) f.symm g k 48 57 true;have l1':ar (cG 20000000) 20000000 (m,true,48,57,((ap m l:Nat):Int),over z 0 l,over z 0 l)=_:=t;simp only [dD,cv,ah,h,ob,i,s,af,dI hc,eG C,B,p,l1']
   | some a=>
    have ha:=Q5 up m l I;obtain ⟨w,N⟩:∃c,l[a]?=some c:=⟨l[a]'(by omega),be (by omega)⟩;have D:(over z 0 l)[a]?=some w:=by rw [wu (by omega)];exact N
    have M:l.getD a 0=w:=by rw [D9,N];rfl
    have hwr:=n w (gB N);have x:a<18:=by omega
    have S:Nat.blt a 18=true:=di x;have U:IntKind.wrap .i64 ((a:Int)+1)=((a+1:Nat):Int):=by rw [wrap_i64 _ (by omega) (by omega)];omega
    rw [I] at b t;simp only [fc,M] at b;have u:=A _ b;rw [b];simp only [] at t ⊢;rw [<-Df z l _ _ (by rw [az,AP,bL];omega),<-A7 _ _ _ _ (by omega)] at u;have G:=DJ g up ((over z 0 l).set a (stp up w)) (by simpa using o) (a+1) (by omega);cases up
    ·have i:=mO (z:=z) f.symm g k 57 48 false;have l1':ar (cG 20000000) 20000000 (m,false,57,48,((ap m l:Nat):Int),over z 0 l,over z 0 l)=some (.inr (m,false,57,((a:Nat):Int),over z 0 l)):=t;have l2':ar (bz 20000000) 20000000 (m,57,((a+1:Nat):Int),(over z 0 l).set a (w - 1))=_:=G;have O:IntKind.wrap .u8 (w - 1)=w - 1:=kD _ (by omega) (by omega);simp only [dD,ij,ah,h,ob,i,s,af,dI hc,eG C,B,p,l1',eG x,D,S,U,O,l2',u]
    ·have i:=mO (z:=z) f.symm g k 48 57 true;have l1':ar (cG 20000000) 20000000 (m,true,48,57,((ap m l:Nat):Int),over z 0 l,over z 0 l)=some (.inr (m,true,48,((a:Nat):Int),over z 0 l)):=t;have l2':ar (bz 20000000) 20000000 (m,48,((a+1:Nat):Int),(over z 0 l).set a (w+1))=_:=G;have O:IntKind.wrap .u8 (w+1)=w+1:=kD _ (by omega) (by omega);simp only [dD,cv,ah,h,ob,i,s,af,dI hc,eG C,B,p,l1',eG x,D,S,U,O,l2',u]
 ·have e:ap m l=m.length:=by omega
  rw [e,vB,<-f,vB,md] at b;simp only [nx,lw] at b;have s:(((ap m l:Nat):Int)==((List.length m:Nat):Int))=true:=by rw [e];simp
  rw [b];simp only [W];cases up
  ·have i:=mO (z:=z) f.symm g k 57 48 false;simp only [dD,ij,ah,h,ob,i,s]
  ·have i:=mO (z:=z) f.symm g k 48 57 true;simp only [dD,cv,af,h,ob,i,s,ah]
def near (up:Bool) (m:aa) (k:Int):Option Int->Prop
 | some R=>hasM m R=true/\fp up k R/\∀e,hasM m e=true->fp up k e->fp up R e
 | none=>∀e,hasM m e=true->¬fp up k e
def res (o:Option Int):Int×Int:=match o with | some r=>(r,0) | none=>(0,16)
theorem oM {m:aa} {e:Int} (h:hasM m e=true):(dg m.length e).length=m.length/\digl (dg m.length e)/\jI m (dg m.length e)=true/\vl (dg m.length e)=e/\0<=e/\e<10 ^ m.length:=by
 unfold hasM at h;simp only [aA,ck] at h;exact ⟨wK _ _,uD _ _,h.2.2,Ph _ _ h.1 h.2.1,h.1,h.2.1⟩
theorem Tu {m:aa} {r:List Int} (e:r.length=m.length) (b:digl r) (d:jI m r=true):hasM m (vl r)=true:=by
 have a:=wg b;have c:=XD b;rw [e] at a c;unfold hasM;rw [c,d,am a.1,am a.2];rfl
theorem ya {m:aa} (n:chk m=0) (up:Bool) (k:Int) (q:0<=k) (p:k<10 ^ m.length):∃o,dD 20000000 m k up=some (res o)/\near up m k o:=by
 obtain ⟨u,_,j⟩:=nM n;have b:=Ss up j (wK m.length k).symm (uD m.length k);have h:=Ph m.length k q p;refine ⟨(nx up m (dg m.length k)).map vl,?_,?_⟩
 ·rw [JJ n up k q p];cases nx up m (dg m.length k)<;>rfl
 ·cases hx:nx up m (dg m.length k) with
  | none=>
   rw [hx] at b;intro e f i;obtain ⟨g,c,d,a,_⟩:=oM f;exact b _ g c d (by rw [h,a];exact i)
  | some r=>
   rw [hx] at b;obtain ⟨s,w,v,l,t⟩:=b;refine ⟨Tu s w v,by rw [h] at l;exact l,λe f i=>?_⟩;obtain ⟨g,c,d,a,_⟩:=oM f;have:=t _ g c d (by rw [h,a];exact i);rwa [a] at this
theorem GZ {m:aa} {e:Int} (h:hasM m e=true):0<=idx m.reverse e/\idx m.reverse e<10 ^ cnt m/\nth m.reverse (idx m.reverse e)=e:=by
 rw [FW] at h;simp only [aA,ck] at h;obtain ⟨k0,k1,k2⟩:=h;have:=wV m.reverse e k0;rw [tj] at this;exact ⟨this.1,this.2,Nh k0 (by rw [vo];exact k1) k2⟩
section
variable {m:List UInt8} (hm:chk m=0)
include hm
theorem K9 {i j:Int} (e:0<=i) (d:i<=j) (c:j<10 ^ cnt m):nth m.reverse i<=nth m.reverse j:=by
 obtain ⟨b,_,a⟩:=nM hm;rcases Int.lt_or_eq_of_le d with h | rfl
 ·exact Int.le_of_lt (Bc (zI a) i j e h (by rw [tj];exact c))
 ·exact xf _
theorem Ek (k:Int):mR 20000000 m k=some (decide (0<=k/\k<10 ^ m.length)):=by
 obtain ⟨b,_,c⟩:=nM hm;simp only [mR,Qh m.length b,ob];by_cases a:0<=k
 ·have d0:decide (k>=0)=true:=by simpa using a
  simp only [d0,ah,a,jT,oC]
 ·have d0:decide (k>=0)=false:=by simpa using a
  simp only [d0,af,a,yg,n7]
theorem M6 (k:Int):∃o,rP 20000000 m k=some (res o)/\near true m k o:=by
 obtain ⟨j,_,b⟩:=nM hm;have n:((0:Int) != 0)=false:=by simp
 simp only [rP,mr 20000000 m (by omega),hm,nc,n,af,Ek hm];by_cases d:k<0
 ·refine ⟨some (nth m.reverse 0),by simp only [am d,ah,Py hm,nc,res],HG hm (by omega),?_,λe a f=>?_⟩
  ·have:=(rC (zI b) 0 (by omega)).1;simp only [fp];omega
  ·obtain ⟨l,g,r⟩:=GZ a;have:=K9 hm (xf 0) l g;simp only [fp];omega
 ·by_cases c:k<10 ^ m.length
  ·obtain ⟨o,p,q⟩:=ya hm true k (by omega) c;exact ⟨o,by simp only [aq d,af,am (show 0<=k/\k<10 ^ m.length from ⟨by omega,c⟩),cv,p,nc],q⟩
  ·refine ⟨none,by simp only [aq d,af,aq (show ¬(0<=k/\k<10 ^ m.length) from λh=>c h.2),ij,ah,res],λe a f=>?_⟩;obtain ⟨_,_,_,_,_,i⟩:=oM a;simp only [fp] at f;omega
theorem KV (k:Int):∃o,rU 20000000 m k=some (res o)/\near false m k o:=by
 obtain ⟨j,_,c⟩:=nM hm;have n:((0:Int) != 0)=false:=by simp
 simp only [rU,mr 20000000 m (by omega),hm,nc,n,af,Ek hm];by_cases d:k<0
 ·refine ⟨none,by simp only [am d,ah,res],λe a f=>?_⟩;obtain ⟨_,_,_,_,i,_⟩:=oM a;simp only [fp] at f;omega
 ·by_cases b:k<10 ^ m.length
  ·obtain ⟨o,p,q⟩:=ya hm false k (by omega) b;exact ⟨o,by simp only [aq d,af,am (show 0<=k/\k<10 ^ m.length from ⟨by omega,b⟩),cv,p,nc],q⟩
  ·have g:=ux (cnt m);refine ⟨some (nth m.reverse (10 ^ cnt m - 1)),by simp only [aq d,af,aq (show ¬(0<=k/\k<10 ^ m.length) from λh=>b h.2),ij,ah,FK hm,nc,res],HG hm (by omega),?_,λe a f=>?_⟩
   ·have:=(rC (zI c) (10 ^ cnt m - 1) (by omega)).2;rw [vo] at this;simp only [fp];omega
   ·obtain ⟨l,r,s⟩:=GZ a;have:=K9 hm l (show idx m.reverse e<=10 ^ cnt m - 1 by omega) (by omega);simp only [fp];omega
end
end Go.Sh.Mk
namespace Go.Sh
open Go.Abs
def fitN (s:aa) (g:Nat):List Nat:=(List.range' 1 g).filter (agr s)
def tU (l:List Nat):List Int:=l.map λk:Nat=>(k:Int)
theorem CS (l:List Nat):(tU l).length=l.length:=by simp [tU]
theorem CH (c:UInt8) {j:Nat} (a:j<10):(IntKind.wrap .i64 (IntKind.wrap .u8 (((c.toNat:Nat):Int) - 48))==((j:Nat):Int))=(c==UInt8.ofNat (48+j)):=by
 have hc:=c.toNat_lt;have b:=Bt (((c.toNat:Nat):Int) - 48);rw [wrap_i64 _ (by omega) (by omega),ID,tN,bG,bG];have d:(UInt8.ofNat (48+j)).toNat=48+j:=by simp;omega
 constructor
 ·intro h;apply gy.1;omega
 ·rintro rfl;omega
theorem JR (n:Nat) (a b:UInt8) {k:Nat} (l:k<=31):lz n [a,b] (k:Int)=some (agr [a,b] k):=by
 have f:IntKind.wrap .i64 (Int.tdiv (k:Int) 10)=((k / 10:Nat):Int):=by
  rw [show Int.tdiv (k:Int) 10=((k / 10:Nat):Int) from rfl,wrap_i64 _ (by omega) (by omega)]
 have d:Int.tmod (k:Int) 10=((k%10:Nat):Int):=rfl;have s0:sx [a,b] 0=some a:=rfl;have e:sx [a,b] 1=some b:=rfl;have c:(88:Int)=((88:Nat):Int):=rfl;unfold lz;simp only [s0,e,ob,f,d];rw [CH a (show k / 10<10 by omega),CH b (show k%10<10 by omega),c,vF (by omega),vF (by omega)];show _=some ((a==UInt8.ofNat 88||a==UInt8.ofNat (48+k / 10))&&(b==UInt8.ofNat 88||b==UInt8.ofNat (48+k%10)));generalize (a==UInt8.ofNat 88)=i;generalize (b==UInt8.ofNat 88)=h;generalize (a==UInt8.ofNat (48+k / 10))=j;generalize (b==UInt8.ofNat (48+k%10))=g;cases i<;>cases h<;>cases j<;>cases g<;>rfl
theorem room {k:Nat} (h:k<=60000000):Nat.ble (k+1) gP=true:=di (by unfold gP;omega)
theorem Hg {X Y:Type} {step:X->Option (X⊕Y)} {f:Nat->List Int->X} {y:List Int->Y} {p:Nat->Bool} {g:Nat} (e:g<=1000)
  (h:∀i out,i<g->out.length<=1000->step (f i out)=some (.inl (f (i+1) (if p (i+1) then out++[((i+1:Nat):Int)] else out))))
  (b:∀out,step (f g out)=some (.inr (y out))) {N:Nat} (a:g<N):ar step N (f 0 [])=some (y (tU ((List.range' 1 g).filter p))):=by
 have c:∀(r i:Nat) (out:List Int),i+r=g->out.length<=i->∀N,r<N->ar step N (f i out)=some (y (out++tU ((List.range' (i+1) r).filter p))):=by
  intro r
  induction r with
  | zero=>
   intro i out hi d N a;obtain ⟨N,rfl⟩:∃q,N=q+1:=⟨N - 1,by omega⟩;obtain rfl:i=g:=by omega
   rw [ar,b];simp [tU]
  | succ r ih=>
   intro i out hi d N a;obtain ⟨N,rfl⟩:∃q,N=q+1:=⟨N - 1,by omega⟩;rw [ar,h i out (by omega) (by omega)];show ar step N _=_;by_cases hp:p (i+1)=true
   ·rw [ae hp,ih (i+1) _ (by omega) (by simp;omega) N (by omega),xq,Rb hp];simp [tU]
   ·rw [ab hp,ih (i+1) _ (by omega) (by omega) N (by omega),xq,Rh hp]
 have:=c g 0 [] (by omega) (by simp) N a;simpa using this
theorem KW (n:Nat) (e:100<n) (a b:UInt8) {g:Nat} (j:g<=31):fh n [a,b] (g:Int)=some (tU (fitN [a,b] g)):=by
 unfold fh
 have:=Hg (step:=gj n) (f:=λi out=>([a,b],(g:Int),(i:Int),out)) (y:=λl=>l) (p:=agr [a,b]) (g:=g) (by omega)
  (λi out hi h=>by
   have c:IntKind.wrap .i64 ((i:Int)+1)=((i+1:Nat):Int):=by rw [wrap_i64 _ (by omega) (by omega)];omega
   unfold gj;simp only [c];rw [am (show (i:Int)<(g:Int) by omega),JR n a b (by omega),room (by omega)];by_cases hp:agr [a,b] (i+1)=true
   ·rw [ae hp];simp only [ob,hp,ah]
   ·rw [ab hp];rw [GQ] at hp;simp only [ob,hp,ah,af])
  (λout=>by
   unfold gj;simp only [aq (show ¬(g:Int)<(g:Int) by omega),af])
  (N:=n) (by omega)
 have d:ar (gj n) n ([a,b],(g:Int),0,([]:List Int))=_:=this;rw [d];rfl
def monI (m:aa):List Int:=if m=[] then [0] else if 0<sea m then [sea m] else tU (fitN m 12)
def dayI (d:aa):List Int:=if d=[] then [0] else tU (fitN d 31)
theorem gh {l:aa} (h:l≠[]):(l==([]:aa))=false:=aL.2 h
theorem len2 {s:aa} (h:s.length=2):∃a b,s=[a,b]:=by
 match s,h with
 | [a,b],_=>exact ⟨a,b,rfl⟩
theorem XP (n:Nat) (k:100<n) (g l:Bool) (dg:aa) (x q:Int) (m d:aa) (k0 k1 k2:Int) (j:m=[]\/m.length=2) (o:d=[]\/d.length=2):
  pR n g l dg x q m d k0 k1 k2=some (g,l,dg,x,q,m,d,k0,k1,k2,monI m,dayI d):=by
 have f:m.length<=18:=by rcases j with h | h;(rw [h];simp);omega
 have i:d≠[]->fh n d 31=some (dayI d):=λh=>by
  obtain ⟨a,b,rfl⟩:=len2 (o.resolve_left h);rw [show (31:Int)=((31:Nat):Int) from rfl,KW n k a b (by omega)];unfold dayI;rw [ab h]
 have c:d=[]->dayI d=[0]:=λh=>by unfold dayI;rw [ae h]
 have p:m≠[]->¬0<sea m->fh n m 12=some (monI m):=λh hs=>by
  obtain ⟨a,b,rfl⟩:=len2 (j.resolve_left h);rw [show (12:Int)=((12:Nat):Int) from rfl,KW n k a b (by omega)];unfold monI;rw [ab h,ab hs]
 unfold pR;rw [qW n g l dg x q m d k0 k1 k2 f];simp only [ob];by_cases hs:0<sea m
 ·have e:m≠[]:=by rintro rfl;exact absurd hs (by decide)
  have hm':monI m=[sea m]:=by unfold monI;rw [ab e,ae hs]
  rw [am hs];by_cases h:d=[]
  ·rw [h,<-h,c h,hm',h];rfl
  ·rw [gh h,i h,hm'];rfl
 ·rw [aq hs];by_cases e:m=[]
  ·have hm':monI m=[0]:=by unfold monI;rw [ae e]
   by_cases h:d=[]
   ·rw [c h,hm',h,e];rfl
   ·rw [gh h,i h,hm',e];rfl
  ·rw [gh e,p e hs];by_cases h:d=[]
   ·rw [c h,h];rfl
   ·rw [gh h,i h];rfl
theorem I6 (n:Nat) (e:100<n) (g l:Bool) (dg:aa) (x q:Int) (m d:aa) (k0 k1 k2:Int):jE n g l dg x q m d k0 k1 k2=some (monI m):=by
 unfold jE;by_cases a:m=[]
 ·unfold monI;rw [ae a,a];rfl
 ·rw [gh a,oU n e];simp only [ob,af];unfold monI;rw [ab a];by_cases hs:0<sea m
  ·rw [ae hs,am (show sea m>0 from hs)];rfl
  ·rw [ab hs,aq (show ¬sea m>0 from hs)]
   have:=Hg (step:=dQ n) (f:=λi out=>(((i+1:Nat):Int),g,l,dg,x,q,m,d,k0,k1,k2,out)) (y:=λl=>l) (p:=agr m) (g:=12) (by omega)
    (λi out hi h=>by
     have c:IntKind.wrap .i64 (((i+1:Nat):Int)+1)=((i+1+1:Nat):Int):=by rw [wrap_i64 _ (by omega) (by omega)];omega
     unfold dQ;simp only [d4,d8,c];rw [am (show ((i+1:Nat):Int)<=12 by omega),vi n m (i+1) (by omega),room (by omega)];by_cases hp:agr m (i+1)=true
     ·rw [ae hp,ae hp];rfl
     ·rw [ab hp,ab hp];rfl)
    (λout=>by
     unfold dQ;simp only [d4,d8,aq (show ¬((12+1:Nat):Int)<=12 by omega),af])
    (N:=n) (by omega)
   have b:ar (dQ n) n (1,g,l,dg,x,q,m,d,k0,k1,k2,([]:List Int))=_:=this;rw [b];rfl
def s8 (y:Int):Bool:=decide (y%4=0)&&(decide (y%100≠0)||decide (y%400=0))
def lenI (y m:Int):Int:=if m=4\/m=6\/m=9\/m=11 then 30 else if m=2 then (if s8 y then 29 else 28) else 31
theorem Nv (y:Int) {b:Int} (c:0<b):(Int.tmod y b==0)=decide (y%b=0):=by
 rw [tN,bG,decide_eq_true_iff];have h:=KU (a:=y) (b:=b);have g:=KG y (show b≠0 by omega);have f:=Ld y c;by_cases hc:0<=y\/b∣y
 ·rw [ae hc] at h;omega
 ·rw [ab hc] at h;have d:¬b∣y:=λe=>hc (.inr e);have:y%b≠0:=λe=>d (Lq e);omega
theorem BG (n:Nat) (y m:Int):eJ n y m=some (lenI y m):=by
 have b:(Int.tmod y 100 != 0)=decide (y%100≠0):=by
  rw [bne,Nv y (by omega)];by_cases h:y%100=0<;>simp [h]
 unfold eJ;rw [Nv y (by omega),Nv y (by omega),b];have body:(cond (m==2) (cond (decide (y%4=0)) (cond (decide (y%100≠0)) (some (29:Int)) (cond (decide (y%400=0)) (some 29) (some 28))) (some 28)) (some 31))=some (if m=2 then (if s8 y=true then 29 else 28) else 31):=by
  rw [kv];by_cases c:m=2
  ·rw [ae c,ae c];unfold s8;cases decide (y%4=0)<;>cases decide (y%100≠0)<;>cases decide (y%400=0)<;>rfl
  ·rw [ab c,ab c]
 rw [body];unfold lenI;by_cases f:m=4
 ·subst f;rfl
 ·by_cases e:m=6
  ·subst e;rfl
  ·by_cases d:m=9
   ·subst d;rfl
   ·by_cases a:m=11
    ·subst a;rfl
    ·rw [aL.2 f,aL.2 e,aL.2 d,aL.2 a,ab (show ¬(m=4\/m=6\/m=9\/m=11) by omega)];rfl
theorem wT (n:Nat) {y:Int} (h:-20000000000000000<=y/\y<=20000000000000000):fD n y=some (1+(y - 1) / 4 - (y - 1) / 100+(y - 1) / 400):=by
 unfold fD;rw [wrap_i64 (y - 1) (by omega) (by omega),xC n (by omega) (by omega) (by omega) (by omega),xC n (by omega) (by omega) (by omega) (by omega),xC n (by omega) (by omega) (by omega) (by omega)];show some _=some _;have f:-5000000000000001<=(y - 1) / 4/\(y - 1) / 4<=5000000000000001:=by omega
 have d:-5000000000000001<=(y - 1) / 100/\(y - 1) / 100<=5000000000000001:=by omega
 have e:-5000000000000001<=(y - 1) / 400/\(y - 1) / 400<=5000000000000001:=by omega
 generalize (y - 1) / 4=a at *;generalize (y - 1) / 100=b at *;generalize (y - 1) / 400=c at *;simp only [];rw [wrap_i64 (1*a) (by omega) (by omega),wrap_i64 (-1*b) (by omega) (by omega),wrap_i64 (1*c) (by omega) (by omega),wrap_i64 (1+1*a) (by omega) (by omega),wrap_i64 (1+1*a+-1*b) (by omega) (by omega),wrap_i64 _ (by omega) (by omega)];congr 1;omega
theorem Ot (y:Int):(1+y / 4 - y / 100+y / 400>1+(y - 1) / 4 - (y - 1) / 100+(y - 1) / 400)↔s8 y=true:=by
 unfold s8;simp only [aA,iY,ck];omega
theorem Tm (n:Nat) {y:Int} (h:dZ y):kL n y=some (s8 y,0):=by
 unfold kL;have h':=h;unfold dZ at h';rw [gK,ae h,wrap_i64 (y+1) (by omega) (by omega),wT n (by omega),wT n (by omega),show y+1 - 1=y by omega];have b:=Ot y;show some (decide (1+y / 4 - y / 100+y / 400>1+(y - 1) / 4 - (y - 1) / 100+(y - 1) / 400),(0:Int))=_;by_cases a:s8 y=true
 ·rw [a,am (b.2 a)]
 ·rw [GQ] at a;rw [a,aq (λe=>by rw [b.1 e] at a;cases a)]
theorem wZ (n:Nat) {y:Int} (h:dZ y) {m:Nat} (d:1<=m) (c:m<=12):eH n y (m:Int)=some (lenI y (m:Int)):=by
 unfold eH;rw [Tm n h];show cond (s8 y&&((m:Int)==2)) _ _=_;have a:IntKind.wrap .i64 ((m:Int) - 1)=((m - 1:Nat):Int):=by rw [wrap_i64 _ (by omega) (by omega)];omega
 rw [a,eG (show m - 1<12 by omega)];have b:m=1\/m=2\/m=3\/m=4\/m=5\/m=6\/m=7\/m=8\/m=9\/m=10\/m=11\/m=12:=by omega
 rcases b with rfl | rfl | rfl | rfl | rfl | rfl | rfl | rfl | rfl | rfl | rfl | rfl<;>unfold lenI<;>cases s8 y<;>rfl
theorem Ol (n:Nat) {y:Int} (h:dZ y) {m:Nat} (b:1<=m) (a:m<=12):oY n y (m:Int)=some (lenI y (m:Int),0):=by
 unfold oY;rw [Hm n h b a,wZ n h b a];rfl
theorem lT (y m:Int):28<=lenI y m/\lenI y m<=31:=by
 unfold lenI;split
 ·omega
 ·split
  ·split<;>omega
  ·omega
def wx (d:aa) (y m:Int):Int:=if d=[] then 0 else lenI y m
def vt (d:aa) (y a:Int):List (Int×Int×Int):=((dayI d).filter λk=>decide (k<=wx d y a)).map λk=>(y,a,k)
def wL (m d:aa) (y:Int):List (Int×Int×Int):=(monI m).flatMap (vt d y)
theorem JK {X Y A:Type} {step:X->Option (X⊕Y)} {f:Nat->List A->X} {y:List A->Y} {p:Nat->Bool} {e:Nat->A} {g:Nat} (a:List A)
  (h:∀i out,i<g->out.length<=a.length+i->step (f i out)=some (.inl (f (i+1) (if p (i+1) then out++[e (i+1)] else out))))
  (c:∀out,step (f g out)=some (.inr (y out))) {N:Nat} (b:g<N):ar step N (f 0 a)=some (y (a++((List.range' 1 g).filter p).map e)):=by
 have d:∀(r i:Nat) (out:List A),i+r=g->out.length<=a.length+i->∀N,r<N->ar step N (f i out)=some (y (out++((List.range' (i+1) r).filter p).map e)):=by
  intro r
  induction r with
  | zero=>
   intro i out hi j N b;obtain ⟨N,rfl⟩:∃q,N=q+1:=⟨N - 1,by omega⟩;obtain rfl:i=g:=by omega
   rw [ar,c];simp
  | succ r ih=>
   intro i out hi j N b;obtain ⟨N,rfl⟩:∃q,N=q+1:=⟨N - 1,by omega⟩;rw [ar,h i out (by omega) (by omega)];show ar step N _=_;by_cases hp:p (i+1)=true
   ·rw [ae hp,ih (i+1) _ (by omega) (by simp;omega) N (by omega),xq,Rb hp];simp
   ·rw [ab hp,ih (i+1) _ (by omega) (by omega) N (by omega),xq,Rh hp]
 exact d g 0 a (by omega) (by omega) N b
theorem MX {X Y A B:Type} {step:X->Option (X⊕Y)} {f:Nat->List A->X} {y:List A->Y} {F:B->List A} {L:List B} {c:Nat} (hc:∀b∈L,(F b).length<=c)
  (h:∀i b out,L[i]?=some b->out.length<=c*i->step (f i out)=some (.inl (f (i+1) (out++F b))))
  (g:∀out,step (f L.length out)=some (.inr (y out))) {N:Nat} (a:L.length<N):ar step N (f 0 [])=some (y (L.flatMap F)):=by
 have j:∀(r i:Nat) (out:List A),i+r=L.length->out.length<=c*i->∀N,r<N->ar step N (f i out)=some (y (out++(L.drop i).flatMap F)):=by
  intro r
  induction r with
  | zero=>
   intro i out hi d N a;obtain ⟨N,rfl⟩:∃q,N=q+1:=⟨N - 1,by omega⟩;obtain rfl:i=L.length:=by omega
   rw [ar,g];simp
  | succ r ih=>
   intro i out hi d N a;obtain ⟨N,rfl⟩:∃q,N=q+1:=⟨N - 1,by omega⟩;have e:L[i]?=some L[i]:=be (by omega);rw [ar,h i L[i] out e d];show ar step N _=_;have k:=hc L[i] (Ha _);rw [ih (i+1) _ (by omega) (by rw [aU,Nat.mul_add];omega) N (by omega),sJ (show i<L.length by omega),qx,fV]
 have:=j L.length 0 [] (by omega) (by simp) N a;simpa using this
theorem TU (d:aa) (L:Nat) (h:L<=31):(tU (fitN d 31)).filter (λk=>decide (k<=(L:Int)))=tU ((List.range' 1 L).filter (agr d)):=by
 have hs:List.range' 1 31=List.range' 1 L++List.range' (1+L) (31 - L):=by
  have:=List.range'_append_1 (s:=1) (m:=L) (n:=31 - L);rw [this,show L+(31 - L)=31 by omega]
 unfold fitN tU;rw [hs,Mc,FN,Mc];have e:(List.map (λk:Nat=>(k:Int)) (List.filter (agr d) (List.range' 1 L))).filter (λk=>decide (k<=(L:Int)))=List.map (λk:Nat=>(k:Int)) (List.filter (agr d) (List.range' 1 L)):=by
  rw [List.filter_eq_self];intro k b;obtain ⟨j,a,rfl⟩:=fe.1 b;have:=Az.1 (nQ.1 a).1;exact am (by omega)
 have c:(List.map (λk:Nat=>(k:Int)) (List.filter (agr d) (List.range' (1+L) (31 - L)))).filter (λk=>decide (k<=(L:Int)))=[]:=by
  rw [List.filter_eq_nil_iff];intro k b;obtain ⟨j,a,rfl⟩:=fe.1 b;have:=Az.1 (nQ.1 a).1;simp only [ck];omega
 rw [e,c,lw]
theorem G0 (s:aa) (g:Nat):(fitN s g).length<=g:=by
 have:=AI (agr s) (List.range' 1 g);rw [List.length_range'] at this;exact this
theorem HB (d:aa):(dayI d).length<=31:=by
 unfold dayI;split
 ·simp
 ·rw [CS];exact G0 d 31
theorem HO (m:aa):(monI m).length<=12:=by
 unfold monI;split
 ·simp
 ·split
  ·simp
  ·rw [CS];exact G0 m 12
theorem I1 (d:aa) (y a:Int):(vt d y a).length<=31:=by
 unfold vt;rw [u0];exact rq (AI _ _) (HB d)
theorem M8 (y a:Int):vt [] y a=[(y,a,0)]:=rfl
theorem iO9 {d:aa} (h:d≠[]) (y a:Int):vt d y a=((List.range' 1 (lenI y a).toNat).filter (agr d)).map λk:Nat=>(y,a,(k:Int)):=by
 have b:=lT y a;unfold vt dayI wx;rw [ab h,ab h];have:=TU d (lenI y a).toNat (by omega);rw [show (((lenI y a).toNat:Nat):Int)=lenI y a by omega] at this;rw [this,tU,tz];rfl
theorem IR (n:Nat) (z:100<n) (g l:Bool) (dg:aa) (x q:Int) (m d:aa) (k0 k1 k2 y:Int):
  lg n g l dg x q m d k0 k1 k2 y=some (wL m d y):=by
 have w:=HO m;unfold lg;rw [I6 n z];have:=MX (step:=eW n) (f:=λi out=>(y,(i:Int),g,l,dg,x,q,m,d,k0,k1,k2,monI m,out)) (y:=λo=>o) (F:=vt d y) (L:=monI m) (c:=31) (λb _=>I1 d y b)
  (λi h out hi D=>by
   have a:i<(monI m).length:=(re.1 hi).1;have t:IntKind.wrap .i64 ((i:Int)+1)=((i+1:Nat):Int):=by rw [wrap_i64 _ (by omega) (by omega)];omega
   unfold eW;simp only [d4,d8,t];rw [am (show (i:Int)<(((monI m).length:Nat):Int) by omega),eG a];by_cases s:d=[]
   ·subst s;rw [M8];simp only [ob,hi,ah,room (show out.length<=60000000 by omega)];rfl
   ·rw [gh s];have C:=lT y h;have r:=JK (step:=eX n) (f:=λj o=>(y,(i:Int),((j+1:Nat):Int),g,l,dg,x,q,m,d,k0,k1,k2,monI m,o)) (y:=λo=>(y,(i:Int),g,l,dg,x,q,m,d,k0,k1,k2,monI m,o)) (p:=agr d) (e:=λk=>(y,h,(k:Int))) (g:=(lenI y h).toNat) out
     (λj o B v=>by
      have u:IntKind.wrap .i64 (((j+1:Nat):Int)+1)=((j+1+1:Nat):Int):=by rw [wrap_i64 _ (by omega) (by omega)];omega
      unfold eX;simp only [d4,d8,u,eG a,ob,hi,BG];rw [am (show ((j+1:Nat):Int)<=lenI y h by omega),vi n d (j+1) (by omega),room (show o.length<=60000000 by omega)];by_cases hp:agr d (j+1)=true
      ·rw [ae hp,ae hp];rfl
      ·rw [ab hp,ab hp];rfl)
     (λo=>by
      unfold eX;simp only [d4,d8,eG a,ob,hi,BG];rw [aq (show ¬(((lenI y h).toNat+1:Nat):Int)<=lenI y h by omega)];rfl)
     (N:=n) (by omega)
    have hin':ar (eX n) n (y,(i:Int),1,g,l,dg,x,q,m,d,k0,k1,k2,monI m,out)=_:=r;simp only [ah,af];rw [hin',iO9 s];simp only [ob,d4,d8,t])
  (λout=>by
   unfold eW;simp only [d4,d8];rw [aq (show ¬(((monI m).length:Nat):Int)<(((monI m).length:Nat):Int) by omega)];rfl)
  (N:=n) (by omega)
 have A:ar (eW n) n (y,0,g,l,dg,x,q,m,d,k0,k1,k2,monI m,([]:List (Int×Int×Int)))=_:=this;simp only [ob];rw [A];rfl
theorem Xh {a b c e:UInt8} (l:bw a=true\/a=88) (j:bw b=true\/b=88) (hc:bw c=true\/c=88) (k:bw e=true\/e=88) (w:Nat):
  mtk [a,b,c,e] 4 w=Mk.ag [e,c,b,a] (w:Int):=by
 have one:∀(z:UInt8) (v:Nat),(decide (z=88)||decide (z.toNat=48+v%10))=(decide (z=88)||decide (Mk.dv z=(v:Int)%10)):=by
  intro z v;have:(z.toNat=48+v%10)↔(Mk.dv z=(v:Int)%10):=by unfold Mk.dv;omega
  rw [nY.2 this]
 have d:∀v:Nat,(v:Int) / 10=((v / 10:Nat):Int):=λv=>by omega
 show ((decide (e=88)||decide (e.toNat=48+w%10))&&((decide (c=88)||decide (c.toNat=48+w / 10%10))&&((decide (b=88)||decide (b.toNat=48+w / 10 / 10%10))&&((decide (a=88)||decide (a.toNat=48+w / 10 / 10 / 10%10))&&true))))
  = ((((true&&(decide (a=88)||decide (Mk.dv a=(w:Int) / 10 / 10 / 10%10)))&&(decide (b=88)||decide (Mk.dv b=(w:Int) / 10 / 10%10)))&&(decide (c=88)||decide (Mk.dv c=(w:Int) / 10%10)))&&(decide (e=88)||decide (Mk.dv e=(w:Int)%10)))
 rw [one e w,one c (w / 10),one b (w / 10 / 10),one a (w / 10 / 10 / 10),d w,d (w / 10),d (w / 10 / 10)];generalize (decide (e=88)||decide (Mk.dv e=(w:Int)%10))=h;generalize (decide (c=88)||decide (Mk.dv c=((w / 10:Nat):Int)%10))=g;generalize (decide (b=88)||decide (Mk.dv b=((w / 10 / 10:Nat):Int)%10))=i;generalize (decide (a=88)||decide (Mk.dv a=((w / 10 / 10 / 10:Nat):Int)%10))=f;cases h<;>cases g<;>cases i<;>cases f<;>rfl
theorem Uf {c:UInt8} (h:bw c=true\/c=88):Mk.okB c=true:=by
 rcases h with h | h
 ·have h:=(cr c).1 h;unfold Mk.okB;simp only [iY,aA,ck];right
  first | omega | (obtain ⟨b,a⟩:=h;constructor<;>omega)
 ·subst h;decide
theorem PG {d:aa} (a:d.length=4) (h:∀c∈d,bw c=true\/c=88):Mk.chk d=0:=by
 unfold Mk.chk;have:d.all Mk.okB=true:=cN.2 λc hc=>Uf (h c hc);rw [ab (by omega),ae this,ab (by rintro rfl;simp at a)]
theorem H7 {d:aa} (i:d.length=4) (h:∀c∈d,bw c=true\/c=88) (w:Nat):Mk.hasM d (w:Int)=true↔mtk d 4 w=true/\w / 10 ^ 4=0:=by
 obtain ⟨a,b,c,e,rfl⟩:∃a b c e,d=[a,b,c,e]:=by
  match d,i with
  | [a,b,c,e],_=>exact ⟨a,b,c,e,rfl⟩
 rw [Mk.FW,Xh (h a (by simp)) (h b (by simp)) (h c (by simp)) (h e (by simp)) w];simp only [aA,ck];show 0<=(w:Int)/\(w:Int)<10 ^ 4/\Mk.ag [e,c,b,a] (w:Int)=true↔Mk.ag [e,c,b,a] (w:Int)=true/\w / 10 ^ 4=0;have j:(10:Int) ^ 4=10000:=by decide
 have e4':(10:Nat) ^ 4=10000:=by decide
 rw [j,e4'];constructor
 ·rintro ⟨_,g,f⟩;exact ⟨f,by omega⟩
 ·rintro ⟨f,g⟩;exact ⟨by omega,by omega,f⟩
theorem H4 {g l:Bool} {d:aa} {x q:Int} (c:okY g l d x q) (a:hasX d=true) (v:Int):inP g d x q v↔(Mk.hasM d (wOf g v)=true/\(g=true->1<=wOf g v)):=by
 obtain ⟨rfl,rfl,rfl,f,j⟩:=qY c a;unfold inP;rw [HY a];have p:∀k:Int,Mk.hasM d k=true->0<=k/\k<10000:=λk m=>by
  have:=(Mk.oM m).2.2.2.2;rw [f] at this;have t:(10:Int) ^ 4=10000:=by decide
  omega
 constructor
 ·rintro ⟨b,i,u,r,n⟩;have:=(H7 f j (wOf g v).toNat).2 n;rw [show (((wOf g v).toNat:Nat):Int)=wOf g v by omega] at this;refine ⟨this,λh=>?_⟩;have w:¬wOf g v=0:=λe=>r ⟨a,h,e⟩;omega
 ·rintro ⟨b,i⟩;have hr':=p _ b;have o:=(H7 f j (wOf g v).toNat).1 (by rw [show (((wOf g v).toNat:Nat):Int)=wOf g v by omega];exact b);have s:v=wOf g v\/v=- wOf g v:=by
   unfold wOf;split
   ·right;omega
   ·left;rfl
  refine ⟨by omega,by omega,hr'.1,?_,o⟩;rintro ⟨_,h,e⟩;have:=i h;omega
theorem F8 {g l:Bool} {d:aa} {x:Int} (b:okY g l d x 0) (a:hasX d=false) (v:Int):inP g d x 0 v↔v=(if g then -((val d x.toNat:Nat):Int) else ((val d x.toNat:Nat):Int)):=by
 obtain ⟨k,q,rfl,n,h⟩:=uy b a;have hs:=h.small;have i:dval 0 d*10 ^ k=val d k:=rfl;rw [i] at hs;unfold E16 at hs;unfold inP;rw [Q3 a];have e:Gi d (k:Int).toNat (0:Int).toNat=1:=rfl;rw [e,cb,tc,tc,a];unfold wOf;cases g with
 | true=>
  simp only [aJ];constructor
  ·rintro ⟨m,f,j,_,c⟩;omega
  ·rintro rfl;refine ⟨by omega,by omega,by omega,by simp,by omega⟩
 | false=>
  simp only [br,aB];constructor
  ·rintro ⟨m,f,j,_,c⟩;omega
  ·rintro rfl;refine ⟨by omega,by omega,by omega,by simp,by omega⟩
def FH (up:Bool) (Y:Int->Prop) (v w:Int) (a:Bool):Prop:=
 (a=true->Y w/\Mk.fp up v w/\∀e,Y e->Mk.fp up v e->Mk.fp up w e)/\(a=false->∀e,Y e->¬Mk.fp up v e)
theorem fA (a b:Int):Mk.fp true a b↔a<=b:=Iff.rfl
theorem iz (a b:Int):Mk.fp false a b↔b<=a:=Iff.rfl
theorem QF (o:Option Int):(Mk.res o).2=0/\(∃r,o=some r/\(Mk.res o).1=r)\/(Mk.res o).2=16/\o=none/\(Mk.res o).1=0:=by
 cases o with
 | none=>exact .inr ⟨rfl,rfl,rfl⟩
 | some r=>exact .inl ⟨rfl,r,rfl,rfl⟩
theorem vD {m:aa} (j:Mk.chk m=0) (v a:Int) (q:0<=a):∃w f,fS 20000000 m v true a=some (w,f)/\FH true (λe=>Mk.hasM m e=true/\a<=e) v w f/\(0<=w/\w<1000000000000000000):=by
 obtain ⟨o,l,d⟩:=Mk.M6 j (cond (decide (a>v)) a v);unfold fS;rw [l];simp only [ob,ah];have hc:(cond (decide (a>v)) a v)=max v a:=by
  by_cases h:a>v
  ·rw [am h];show a=_;omega
  ·rw [aq h];show v=_;omega
 rw [hc] at d;rcases QF o with ⟨g,r,rfl,c⟩ | ⟨g,rfl,c⟩
 ·refine ⟨_,_,rfl,?_,?_⟩
  ·rw [g,c];obtain ⟨a1,a2,k⟩:=d;rw [fA] at a2;refine ⟨λ_=>⟨⟨a1,by omega⟩,?_,λe b i=>?_⟩,λh=>by cases h⟩
   ·rw [fA];omega
   ·rw [fA] at i;exact k e b.1 (by rw [fA];have:=b.2;omega)
  ·have:=(Mk.oM d.1).2.2.2.2;have n:=Mk.nM j;have hp:(10:Int) ^ m.length<=10 ^ 18:=by
    have:=oG (show 0<10 by decide) n.1
    exact_mod_cast this
   have p:(10:Int) ^ 18=1000000000000000000:=by decide
   rw [c];omega
 ·refine ⟨_,_,rfl,?_,by rw [c];omega⟩;rw [g];refine ⟨(λh=>by cases h),λ_ e b i=>?_⟩;rw [fA] at i;exact d e b.1 (by rw [fA];have:=b.2;omega)
theorem vw {m:aa} (k:Mk.chk m=0) (v a:Int) (t:0<=a):∃w f,fS 20000000 m v false a=some (w,f)/\FH false (λe=>Mk.hasM m e=true/\a<=e) v w f/\(0<=w/\w<1000000000000000000):=by
 obtain ⟨o,n,j⟩:=Mk.KV k v;unfold fS;rw [n];simp only [ob,af];rcases QF o with ⟨i,r,rfl,g⟩ | ⟨i,rfl,g⟩
 ·rw [i,g];obtain ⟨a1,a2,l⟩:=j;rw [iz] at a2;have s:=(Mk.oM a1).2.2.2.2;have p:=Mk.nM k;have hp:(10:Int) ^ m.length<=10 ^ 18:=by
   have:=oG (show 0<10 by decide) p.1
   exact_mod_cast this
  have q:(10:Int) ^ 18=1000000000000000000:=by decide
  refine ⟨_,_,rfl,?_,by omega⟩;by_cases d:r>=a
  ·rw [am d];refine ⟨λ_=>⟨⟨a1,by omega⟩,by rw [iz];omega,λe b c=>l e b.1 c⟩,λh=>by cases h⟩
  ·rw [aq d];refine ⟨(λh=>by cases h),λ_ e b c=>?_⟩;have:=l e b.1 c;rw [iz] at this;have:=b.2;omega
 ·rw [i,g];refine ⟨_,_,rfl,?_,by omega⟩;refine ⟨(λh=>by cases h),λ_ e b c=>j e b.1 c⟩
theorem MU {g l:Bool} {dg:aa} {x:Int} (n:okY g l dg x 0) (m d:aa) (k0 k1 k2:Int) (v:Int) (G:-9223372036854775808<=v/\v<9223372036854775808) (up:Bool) (F B:List Int):
  ∃w f,cq 20000000 g l dg x 0 m d k0 k1 k2 v up F B=some (w,f)/\FH up (inP g dg x 0) v w f:=by
 have E:=kz n;unfold cq;rw [uo];simp only [ob];cases t:hasX dg with
 | false=>
  have c:=F8 n t;rw [BK 20000000 g l dg x 0 (by omega) (by omega),ae ⟨n,t⟩];simp only [ij,ah];generalize (if g then -((val dg x.toNat:Nat):Int) else ((val dg x.toNat:Nat):Int))=w at *;cases up with
  | true=>
   by_cases h:w>=v
   ·refine ⟨w,true,?_,?_⟩
    ·simp only [am h,ah]
    ·refine ⟨λ_=>⟨(c w).2 rfl,h,λe b _=>?_⟩,λh=>by cases h⟩;rw [(c e).1 b];exact xf _
   ·refine ⟨w,false,?_,?_⟩
    ·simp only [aq h,ah,af,cv]
    ·refine ⟨(λh=>by cases h),λ_ e b j=>?_⟩;rw [(c e).1 b,fA] at j;omega
  | false=>
   by_cases h:w<=v
   ·refine ⟨w,true,?_,?_⟩
    ·simp only [am h,ah,af,ij]
    ·refine ⟨λ_=>⟨(c w).2 rfl,h,λe b _=>?_⟩,λh=>by cases h⟩;rw [(c e).1 b];exact xf _
   ·refine ⟨w,false,?_,?_⟩
    ·simp only [aq h,ah,af,ij]
    ·refine ⟨(λh=>by cases h),λ_ e b j=>?_⟩;rw [(c e).1 b,iz] at j;omega
 | true=>
  have c:=H4 n t;obtain ⟨rfl,rfl,_,z,D⟩:=qY n t;have s:=PG z D;simp only [cv,af];cases g with
  | false=>
   simp only [ij,ah];have q:∀w f,FH up (λe=>Mk.hasM dg e=true/\0<=e) v w f->FH up (inP false dg 0 0) v w f:=λw f h=>by
    have a:∀e,(Mk.hasM dg e=true/\0<=e)↔inP false dg 0 0 e:=λe=>by
     rw [c e];constructor
     ·rintro ⟨i,_⟩;exact ⟨i,λh=>by cases h⟩
     ·rintro ⟨i,_⟩;exact ⟨i,(Mk.oM i).2.2.2.2.1⟩
    refine ⟨λk=>?_,λk e b=>h.2 k e ((a e).2 b)⟩;obtain ⟨b1,b2,r⟩:=h.1 k;exact ⟨(a w).1 b1,b2,λe b=>r e ((a e).2 b)⟩
   cases up with
   | true=>
    obtain ⟨w,f,i,p,_⟩:=vD s v 0 (by omega);exact ⟨w,f,by rw [i],q w f p⟩
   | false=>
    obtain ⟨w,f,i,p,_⟩:=vw s v 0 (by omega);exact ⟨w,f,by rw [i],q w f p⟩
  | true=>
   simp only [cv,af];have hc:IntKind.wrap .i64 (0 - (cond (decide (((-9223372036854775807):Int)>v)) (-9223372036854775807) v))=min (-v) 9223372036854775807:=by
    by_cases h:((-9223372036854775807):Int)>v
    ·rw [am h,ah,wrap_i64 _ (by omega) (by omega)];omega
    ·rw [aq h,af,wrap_i64 _ (by omega) (by omega)];omega
   rw [hc];have y:∀e,Mk.hasM dg e=true->0<=e/\e<10000:=λe b=>by
    have:=(Mk.oM b).2.2.2.2;rw [z] at this;have H:(10:Int) ^ 4=10000:=by decide
    omega
   have a:∀e,inP true dg 0 0 e↔(Mk.hasM dg (-e)=true/\1<=-e):=λe=>by
    rw [c e];exact ⟨λh=>⟨h.1,h.2 rfl⟩,λh=>⟨h.1,λ_=>h.2⟩⟩
   have A:∀w:Int,0<=w/\w<1000000000000000000->IntKind.wrap .i64 (0 - w)=-w:=λw h=>by rw [wrap_i64 _ (by omega) (by omega)];omega
   cases up with
   | true=>
    obtain ⟨w,f,i,p,u⟩:=vw s (min (-v) 9223372036854775807) 1 (by omega);refine ⟨-w,f,by rw [cv,i];simp only [A w u],?_,?_⟩
    ·intro k;obtain ⟨b1,b2,r⟩:=p.1 k;rw [iz] at b2;refine ⟨(a _).2 (by rw [Int.neg_neg];exact b1),by rw [fA];omega,λe b j=>?_⟩;rw [fA] at j;have o:=(a e).1 b;have:=r (-e) o (by rw [iz];have:=y _ o.1;omega);rw [iz] at this;rw [fA];omega
    ·intro k e b j;rw [fA] at j;have o:=(a e).1 b;exact p.2 k (-e) o (by rw [iz];have:=y _ o.1;omega)
   | false=>
    obtain ⟨w,f,i,p,u⟩:=vD s (min (-v) 9223372036854775807) 1 (by omega);refine ⟨-w,f,by rw [ij,i];simp only [A w u],?_,?_⟩
    ·intro k;obtain ⟨b1,b2,r⟩:=p.1 k;rw [fA] at b2;have C:=y _ b1.1;refine ⟨(a _).2 (by rw [Int.neg_neg];exact b1),by rw [iz];omega,λe b j=>?_⟩;rw [iz] at j;have o:=(a e).1 b;have:=r (-e) o (by rw [fA];omega);rw [fA] at this;rw [iz];omega
    ·intro k e b j;rw [iz] at j;have o:=(a e).1 b;exact p.2 k (-e) o (by rw [fA];omega)
theorem uA {X Y A:Type} {step:X->Option (X⊕Y)} {f:Nat->X} {L:List A} {G:A->Option Y} {e:Y}
  (h:∀i a,L[i]?=some a->step (f i)=some ((G a).elim (.inl (f (i+1))) Sum.inr)) (d:step (f L.length)=some (.inr e)) {N:Nat} (b:L.length<N):
  ar step N (f 0)=some ((L.findSome? G).getD e):=by
 have g:∀(r i:Nat),i+r=L.length->∀N,r<N->ar step N (f i)=some (((L.drop i).findSome? G).getD e):=by
  intro r
  induction r with
  | zero=>
   intro i hi N b;obtain ⟨N,rfl⟩:∃q,N=q+1:=⟨N - 1,by omega⟩;obtain rfl:i=L.length:=by omega
   rw [ar,d];simp
  | succ r ih=>
   intro i hi N b;obtain ⟨N,rfl⟩:∃q,N=q+1:=⟨N - 1,by omega⟩;have c:L[i]?=some L[i]:=be (by omega);rw [ar,h i L[i] c,sJ (show i<L.length by omega),Dp];cases j:G L[i] with
   | some y=>rfl
   | none=>exact ih (i+1) (by omega) N (by omega)
 have:=g L.length 0 (by omega) N b;simpa using this
def ahd (up:Bool) (a b:Int):Bool:=cond up (decide (a<b)) (decide (a>b))
theorem Gw (n:Nat) (a b:Int) (up:Bool):cP n a b up=some (ahd up a b):=by
 unfold cP ahd;cases up
 ·rfl
 ·simp only [ah,cv,af];cases decide (a<b)<;>rfl
def AH (up a:Bool) (d:aa) (b most k:Int):Bool:=decide (k<=most)&&!(a&&(!(d==([]:aa))&&ahd up k b))
def Nu (up:Bool) (m:aa) (b a y c:Int):Bool:=(y==b)&&(!(m==([]:aa))&&ahd up c a)
def IH (m:aa) (b a y c:Int):Bool:=(y==b)&&((m==([]:aa))||(c==a))
def E9 (up:Bool) (m d:aa) (b c e y:Int) (f:List Int) (a:Int):Option (Int×Int×Int):=
 if Nu up m b c y a then none else (f.find? (AH up (IH m b c y a) d e (wx d y a))).map λk=>(y,a,k)
def EF (up:Bool) (m d:aa) (a c b:Int) (f e:List Int) (y:Int):Option (Int×Int×Int):=f.findSome? (E9 up m d a c b y e)
def LE (d:aa) (b:List Int):Prop:=b.length<=31/\(d≠[]->∀a∈b,1<=a/\a<=12)
theorem NB (n:Nat) (g l:Bool) (dg:aa) (x q:Int) (m d:aa) (k0 k1 k2:Int) {y:Int} (hy:dZ y) {a:Int} (c:d≠[]->1<=a/\a<=12) (f e:List Int):
  fg n g l dg x q m d k0 k1 k2 y a f e=some (wx d y a):=by
 unfold fg wx;by_cases b:d=[]
 ·subst b;rfl
 ·rw [gh b,ab b];have:=c b;obtain ⟨k,rfl⟩:∃k:Nat,a=(k:Int):=⟨a.toNat,by omega⟩;rw [af,Ol n hy (by omega) (by omega)];rfl
theorem Ua {A B Y:Type} (L:List A) (p:A->Bool) (F:A->B) (J:B->Y) (e:Y):(L.findSome? λa=>if p a then some (J (F a)) else none).getD e=((L.find? p).map F).elim e J:=by
 induction L with
 | nil=>rfl
 | cons a L ih=>
  rw [List.find?_cons,Dp];cases h:p a
  ·simpa using ih
  ·simp
theorem WI {A B Y:Type} (L:List A) (G:A->Option B) (J:B->Y) (e:Y):(L.findSome? λa=>(G a).map J).getD e=(L.findSome? G).elim e J:=by
 induction L with
 | nil=>rfl
 | cons a L ih=>
  rw [Dp,Dp];cases h:G a
  ·simpa using ih
  ·simp
theorem Pj (n:Nat) (s y e:Int) (a:Bool) (most r t:Int) (v b:List Int) (g l:Bool) (dg:aa) (x q:Int) (m d:aa) (k0 k1 k2 o p c:Int) (up:Bool) (j h rd:Int) (i:Nat) (k:Int) (hi:b[i]?=some k) (w:i<1000):
  bM n (s,y,e,a,most,r,t,((b.length:Nat):Int),(i:Int),v,b,g,l,dg,x,q,m,d,k0,k1,k2,o,p,c,up,j,h,rd)=some ((if AH up a d c most k then some (.inl (true,y,e,k)) else none).elim (.inl (s,y,e,a,most,r,t,((b.length:Nat):Int),((i+1:Nat):Int),v,b,g,l,dg,x,q,m,d,k0,k1,k2,o,p,c,up,j,h,rd)) Sum.inr):=by
 have f:i<b.length:=(re.1 hi).1;have u:IntKind.wrap .i64 ((i:Int)+1)=((i+1:Nat):Int):=by rw [wrap_i64 _ (by omega) (by omega)];omega
 unfold bM iH AH;simp only [d4,d8,d16,eG f,hi,ob,u,Gw];rw [am (show (i:Int)<((b.length:Nat):Int) by omega)];simp only [ah];cases decide (k<=most)<;>cases a<;>cases (d==([]:aa))<;>cases ahd up k c<;>simp only [cv,ij,ah,af,u]<;>rfl
theorem Ue (n:Nat) (s y p:Int) (b:Bool) (most i j:Int) (o a:List Int) (g l:Bool) (dg:aa) (x q:Int) (m d:aa) (k0 k1 k2 e h k:Int) (up:Bool) (f c rd:Int):
  bM n (s,y,p,b,most,i,j,((a.length:Nat):Int),((a.length:Nat):Int),o,a,g,l,dg,x,q,m,d,k0,k1,k2,e,h,k,up,f,c,rd)=some (.inr (.inr (s,y,i,j,o,a,g,l,dg,x,q,m,d,k0,k1,k2,e,h,k,up,f,c,rd))):=by
 unfold bM;simp only [d4,d8,d16];rw [aq (show ¬((a.length:Nat):Int)<((a.length:Nat):Int) by omega)];rfl
theorem TM (n:Nat) (B:1000<n) (s y h:Int) (a:Bool) (most u t:Int) (v b:List Int) (g l:Bool) (dg:aa) (x q:Int) (m d:aa) (k0 k1 k2 o r c:Int) (up:Bool) (p j rd:Int) (A:b.length<=31):
  ar (bM n) n (s,y,h,a,most,u,t,((b.length:Nat):Int),0,v,b,g,l,dg,x,q,m,d,k0,k1,k2,o,r,c,up,p,j,rd)=some (((b.find? (AH up a d c most)).map (λk=>(y,h,k))).elim (.inr (s,y,u,t,v,b,g,l,dg,x,q,m,d,k0,k1,k2,o,r,c,up,p,j,rd)) (λz=>.inl (true,z))):=by
 have:=uA (step:=bM n) (f:=λi=>(s,y,h,a,most,u,t,((b.length:Nat):Int),(i:Int),v,b,g,l,dg,x,q,m,d,k0,k1,k2,o,r,c,up,p,j,rd)) (L:=b) (G:=λk=>if AH up a d c most k then some (.inl (true,y,h,k)) else none) (e:=.inr (s,y,u,t,v,b,g,l,dg,x,q,m,d,k0,k1,k2,o,r,c,up,p,j,rd))
  (λi k hi=>by
   have w:i<b.length:=(re.1 hi).1;exact Pj n s y h a most u t v b g l dg x q m d k0 k1 k2 o r c up p j rd i k hi (by omega))
  (Ue n s y h a most u t v b g l dg x q m d k0 k1 k2 o r c up p j rd) (N:=n) (by omega)
 exact this.trans (bY some (Ua b (AH up a d c most) (λk=>(y,h,k)) (λz=>Sum.inl (true,z)) _))
theorem PT (n:Nat) (E:1000<n) (s y:Int) (hy:dZ y) (o p:List Int) (g l:Bool) (dg:aa) (x q:Int) (m d:aa) (k0 k1 k2 e j r:Int) (up:Bool) (u t rd:Int) (A:LE d o) (D:p.length<=31) (i:Nat) (f:Int) (hi:o[i]?=some f):
  cj n (s,y,((o.length:Nat):Int),(i:Int),o,p,g,l,dg,x,q,m,d,k0,k1,k2,e,j,r,up,u,t,rd)=some (((E9 up m d e j r y p f).map (λz=>(.inl (true,z):(Bool×Int×Int×Int)⊕_))).elim (.inl (s,y,((o.length:Nat):Int),((i+1:Nat):Int),o,p,g,l,dg,x,q,m,d,k0,k1,k2,e,j,r,up,u,t,rd)) Sum.inr):=by
 have v:i<o.length:=(re.1 hi).1;have C:=A.1;have B:IntKind.wrap .i64 ((i:Int)+1)=((i+1:Nat):Int):=by rw [wrap_i64 _ (by omega) (by omega)];omega
 have w:d≠[]->1<=f/\f<=12:=λh=>A.2 h f (gB hi);have j20:∀a b:Int,fm n s y f (y==e) a b o p g l dg x q m d k0 k1 k2 e j r up u t rd=some (s,y,f,(y==e),a,b,Nu up m e j y f,o,p,g,l,dg,x,q,m,d,k0,k1,k2,e,j,r,up,u,t,rd):=by
  intro a b;unfold fm Nu;simp only [Gw,ob];cases (y==e)<;>cases (m==([]:aa))<;>rfl
 have j23:∀a b c:Int,fC n s y f (y==e) a b c o p g l dg x q m d k0 k1 k2 e j r up u t rd=some (s,y,f,IH m e j y f,a,b,c,o,p,g,l,dg,x,q,m,d,k0,k1,k2,e,j,r,up,u,t,rd):=by
  intro a b c;unfold fC IH;cases (y==e)<;>cases (m==([]:aa))<;>rfl
 unfold cj iy E9;simp only [d4,d8,d16,eG v,hi,ob,j20];rw [am (show (i:Int)<((o.length:Nat):Int) by omega)];simp only [ah];cases hs:Nu up m e j y f with
 | true=>simp only [ah,aJ,jh,B];rfl
 | false=>
  simp only [af,br,aB,NB n g l dg x q m d k0 k1 k2 hy w,j23,TM n E s y f (IH m e j y f) (wx d y f) _ _ o p g l dg x q m d k0 k1 k2 e j r up u t rd D];cases p.find? (AH up (IH m e j y f) d r (wx d y f)) with
  | some k=>rfl
  | none=>simp only [jh,Option.elim_none,B]
theorem R2 (n:Nat) (v:1000<n) (s y:Int) (hy:dZ y) (a b:List Int) (g l:Bool) (dg:aa) (x q:Int) (m d:aa) (k0 k1 k2 c h j:Int) (up:Bool) (o k rd:Int) (r:LE d a) (u:b.length<=31):
  ar (cj n) n (s,y,((a.length:Nat):Int),0,a,b,g,l,dg,x,q,m,d,k0,k1,k2,c,h,j,up,o,k,rd)=some ((EF up m d c h j a b y).elim (.inr (s,y,a,b,g,l,dg,x,q,m,d,k0,k1,k2,c,h,j,up,o,k,rd)) (λz=>.inl (true,z))):=by
 have t:=r.1;have:=uA (step:=cj n) (f:=λi=>(s,y,((a.length:Nat):Int),(i:Int),a,b,g,l,dg,x,q,m,d,k0,k1,k2,c,h,j,up,o,k,rd)) (L:=a) (G:=λp=>(E9 up m d c h j y b p).map (λz=>(.inl (true,z):(Bool×Int×Int×Int)⊕_))) (e:=.inr (s,y,a,b,g,l,dg,x,q,m,d,k0,k1,k2,c,h,j,up,o,k,rd))
  (λi p hi=>PT n v s y hy a b g l dg x q m d k0 k1 k2 c h j up o k rd r u i p hi)
  (by
   unfold cj;simp only [d4,d8,d16];rw [aq (show ¬((a.length:Nat):Int)<((a.length:Nat):Int) by omega)];rfl)
  (N:=n) (by omega)
 exact this.trans (bY some (WI a (E9 up m d c h j y b) (λz=>Sum.inl (true,z)) _))
theorem O4 (n:Nat) (o:1000<n) (s y:Int) (hy:dZ y) (b a:List Int) (g l:Bool) (dg:aa) (x q:Int) (m d:aa) (k0 k1 k2 c e f:Int) (up:Bool) (i h rd:Int) (j:LE d b) (k:a.length<=31):
  cZ n (s,y,true,b,a,g,l,dg,x,q,m,d,k0,k1,k2,c,e,f,up,i,h,rd)=(EF up m d c e f b a y).elim (ob (cq n g l dg x q m d k0 k1 k2 (IntKind.wrap .i64 (y+s)) up b a) λr=>some (.inl (s,r.1,r.2,b,a,g,l,dg,x,q,m,d,k0,k1,k2,c,e,f,up,i,h,rd))) (λz=>some (.inr (.inl (true,z)))):=by
 unfold cZ;simp only [d4,d8,d16,ah,ob,R2 n o s y hy b a g l dg x q m d k0 k1 k2 c e f up i h rd j k];cases EF up m d c e f b a y<;>rfl
def Im (up:Bool) (Y:Int->Prop) (F:Int->Option (Int×Int×Int)) (v:Int):Option (Int×Int×Int)->Prop
 | some z=>∃e,Y e/\Mk.fp up v e/\F e=some z/\∀a,Y a->Mk.fp up v a->¬Mk.fp up e a->F a=none
 | none=>∀e,Y e->Mk.fp up v e->F e=none
theorem IU {X:Type} {step:X->Option (X⊕((Bool×Int×Int×Int)⊕(Int×Int×Int)))} {st:Int->Bool->X} {F:Int->Option (Int×Int×Int)} {Y:Int->Prop} {up:Bool} {s lo hi:Int} {E:Int×Int×Int} {fy:Int->Option (Int×Bool)}
  (hs:s=if up then 1 else -1) (A:∀e,Y e->lo<=e/\e<=hi) (O:-10000000000000000<=lo) (d:hi<=10000000000000000)
  (b:∀y,Y y->step (st y true)=(F y).elim (ob (fy (IntKind.wrap .i64 (y+s))) λr=>some (.inl (st r.1 r.2))) (λz=>some (.inr (.inl (true,z)))))
  (c:∀y,step (st y false)=some (.inr (.inr E)))
  (n:∀v,-9223372036854775808<=v/\v<9223372036854775808->∃w f,fy v=some (w,f)/\FH up Y v w f):
  ∀(r:Nat) (v y:Int) (f:Bool),FH up Y v y f->(f=true->(if up then hi - y else y - lo)<(r:Int))->∀N,r<N->
   ∃o,ar step N (st y f)=some (o.elim (.inr E) (λz=>.inl (true,z)))/\Im up Y F v o:=by
 intro r
 induction r with
 | zero=>
  intro v y f m p N L;obtain ⟨N,rfl⟩:∃q,N=q+1:=⟨N - 1,by omega⟩;cases f with
  | true=>
   obtain ⟨a1,_,_⟩:=m.1 rfl;have:=A y a1;have:=p rfl;cases up<;>simp at this<;>omega
  | false=>
   refine ⟨none,by rw [ar,c];rfl,λe g k=>absurd k (m.2 rfl e g)⟩
 | succ r ih=>
  intro v y f m p N L;obtain ⟨N,rfl⟩:∃q,N=q+1:=⟨N - 1,by omega⟩;cases f with
  | false=>
   refine ⟨none,by rw [ar,c];rfl,λe g k=>absurd k (m.2 rfl e g)⟩
  | true=>
   obtain ⟨a1,a2,C⟩:=m.1 rfl;have M:=A y a1;cases j:F y with
   | some z=>
    refine ⟨some z,?_,y,a1,a2,j,λa d l i=>absurd (C a d l) i⟩;rw [ar,b y a1,j];rfl
   | none=>
    have I:IntKind.wrap .i64 (y+s)=y+s:=by
     have:-1<=s/\s<=1:=by rw [hs];cases up<;>simp
     exact wrap_i64 _ (by omega) (by omega)
    obtain ⟨w,B,G,t⟩:=n (y+s) (by
     have:-1<=s/\s<=1:=by rw [hs];cases up<;>simp
     omega)
    have hstep':step (st y true)=some (.inl (st w B)):=by
     rw [b y a1,j,I];show ob (fy (y+s)) _=_;rw [G];rfl
    obtain ⟨o,D,x⟩:=ih (y+s) w B t (λJ=>by
     obtain ⟨b1,b2,_⟩:=t.1 J;have:=p rfl;cases up
     ·rw [iz] at b2;simp only [br,aB] at hs this ⊢;omega
     ·rw [fA] at b2;simp only [aJ] at hs this ⊢;omega) N (by omega)
    refine ⟨o,by rw [ar,hstep'];exact D,?_⟩;have split:∀a,Y a->Mk.fp up v a->a=y\/Mk.fp up (y+s) a:=λa d l=>by
     have i:=C a d l;cases up
     ·rw [iz] at i ⊢;simp only [br,aB] at hs;omega
     ·rw [fA] at i ⊢;simp only [aJ] at hs;omega
    cases o with
    | none=>
     intro e g k;rcases split e g k with rfl | h
     ·exact j
     ·exact x e g h
    | some z=>
     obtain ⟨e,K,u,c3,H⟩:=x;refine ⟨e,K,?_,c3,λa d l i=>?_⟩
     ·cases up
      ·rw [iz] at u a2 ⊢;simp only [br,aB] at hs;omega
      ·rw [fA] at u a2 ⊢;simp only [aJ] at hs;omega
     ·rcases split a d l with rfl | h
      ·exact j
      ·exact H a d h i
theorem zB {g l:Bool} {dg:aa} {x:Int} (c:okY g l dg x 0):∃lo hi:Int,(∀e,inP g dg x 0 e->lo<=e/\e<=hi)/\hi - lo<=10000/\-10000000000000000<=lo/\hi<=10000000000000000:=by
 cases d:hasX dg with
 | false=>
  have a:=F8 c d;by_cases f:-10000000000000000<=(if g then -((val dg x.toNat:Nat):Int) else ((val dg x.toNat:Nat):Int))/\(if g then -((val dg x.toNat:Nat):Int) else ((val dg x.toNat:Nat):Int))<=10000000000000000
  ·refine ⟨_,_,λe b=>?_,?_,f.1,f.2⟩
   ·rw [(a e).1 b];exact ⟨xf _,xf _⟩
   ·omega
  ·refine ⟨0,0,λe b=>?_,by omega,by omega,by omega⟩;exfalso;have:=(a e).1 b;unfold inP at b;exact f ⟨by rw [<-this];exact b.1,by rw [<-this];exact b.2.1⟩
 | true=>
  have a:=H4 c d;obtain ⟨_,_,_,i,j⟩:=qY c d;refine ⟨if g then -9999 else 0,if g then 0 else 9999,λe b=>?_,by cases g<;>simp,by cases g<;>simp,by cases g<;>simp⟩;have h:=((a e).1 b).1;have:=(Mk.oM h).2.2.2.2;rw [i] at this;have k:(10:Int) ^ 4=10000:=by decide
  unfold wOf at this;cases g
  ·simp at this ⊢;omega
  ·simp at this ⊢;omega
theorem Ap {g:Bool} {dg:aa} {x q e:Int} (h:inP g dg x q e):dZ e:=⟨h.1,h.2.1⟩
theorem Jm {g l:Bool} {dg:aa} {x:Int} (e:okY g l dg x 0) (m d:aa) (k0 k1 k2:Int) (a h i:Int) (k:-9223372036854775808<=a/\a<9223372036854775808) (c b:List Int) (A:LE d c) (B:b.length<=31):
  ∃o,jl 20000000 g l dg x 0 m d k0 k1 k2 a h i true c b=some (o.elim (0,0,0,false) λz=>(z.1,z.2.1,z.2.2,true))/\Im true (inP g dg x 0) (EF true m d a h i c b) a o:=by
 obtain ⟨lo,hi,q,G,n,j⟩:=zB e;obtain ⟨w,f,t,p⟩:=MU e m d k0 k1 k2 a k true c b;obtain ⟨o,r,u⟩:=IU (step:=cZ 20000000) (st:=λy f=>(1,y,f,c,b,g,l,dg,x,0,m,d,k0,k1,k2,a,h,i,true,0,0,0)) (F:=EF true m d a h i c b) (Y:=inP g dg x 0) (up:=true) (s:=1) (lo:=lo) (hi:=hi) (E:=(0,0,0)) (fy:=λv=>cq 20000000 g l dg x 0 m d k0 k1 k2 v true c b)
  rfl q n j
  (λy hy=>O4 20000000 (by omega) 1 y (Ap hy) c b g l dg x 0 m d k0 k1 k2 a h i true 0 0 0 A B)
  (λy=>rfl)
  (λv D=>MU e m d k0 k1 k2 v D true c b)
  10002 a w f p (λC=>by have:=q w (p.1 C).1;simp;omega) 20000000 (by omega)
 refine ⟨o,?_,u⟩;unfold jl js;simp only [cv,af,ob,d4,d8,d16,t];have i1':ar (cZ 20000000) 20000000 (1,w,f,c,b,g,l,dg,x,0,m,d,k0,k1,k2,a,h,i,true,0,0,0)=_:=r;rw [i1'];cases o<;>rfl
theorem GM (m d:aa) (l n:Int) {f e:Int} (h:e≠f) (o g:List Int):EF true m d f l n o g e=none↔(o.flatMap λa=>(g.filter λk=>decide (k<=wx d e a)).map λk=>(e,a,k))=[]:=by
 have j:(e==f)=false:=aL.2 h;unfold EF;rw [QX,List.flatMap_eq_nil_iff];have:∀a,E9 true m d f l n e g a=none↔((g.filter λk=>decide (k<=wx d e a)).map λk=>(e,a,k))=[]:=by
  intro a;unfold E9 Nu IH;rw [j];simp only [xT,br,aB,Option.map_eq_none_iff,List.find?_eq_none,List.map_eq_nil_iff,List.filter_eq_nil_iff];constructor
  ·intro c k i;have:=c k i;unfold AH at this;simpa using this
  ·intro c k i;have:=c k i;unfold AH;simpa using this
 exact ⟨λc a b=>(this a).1 (c a b),λc a b=>(this a).2 (c a b)⟩
def hasF (g:Bool) (dg:aa) (x:Int) (m d:aa):Prop:=∃e,inP g dg x 0 e/\wL m d e≠[]
open Classical in
noncomputable def chkF (g l:Bool) (dg:aa) (x q:Int) (m d:aa) (k0 k1 k2:Int):Int:=
 if chkD g l dg x q m d k0 k1 k2=0/\d≠[]/\¬hasF g dg x m d then 8 else chkD g l dg x q m d k0 k1 k2
theorem tK {g l:Bool} {dg:aa} {x q:Int} {m d:aa} {k0 k1 k2:Int} (h:chkD g l dg x q m d k0 k1 k2=0):okY g l dg x q/\(m=[]\/m.length=2)/\(d=[]\/d.length=2)/\(0<q->m=[])/\(d≠[]->m≠[]/\sea m=0):=by
 obtain ⟨a,e,c3,n⟩:=LX h;unfold yrD at a;by_cases b:okY g l dg x q
 ·rw [ae b] at a;refine ⟨b,?_,?_,λk=>?_,λj=>?_⟩
  ·rcases e with h | h | h
   ·exact .inl h
   ·exact .inr (JI h).1
   ·exact .inr (rR (by omega) h).1
  ·rcases c3 with h | ⟨_,_,h⟩
   ·exact .inl h
   ·exact .inr (rR (by omega) h).1
  ·unfold yrB at a;simp only [aA,ly] at a;have:=a.1;rw [am k,nW] at this;by_cases c:m=[]
   ·exact c
   ·rw [gh c] at this;cases this
  ·rcases c3 with h | ⟨i,f,_⟩
   ·exact absurd h j
   ·exact ⟨i,f⟩
 ·rw [ab b] at a;cases a
theorem WX {g l:Bool} {dg:aa} {x q:Int} (h:okY g l dg x q):0<=q:=(kz h).2.2.1
theorem MV {m d:aa} (h:d≠[]->m≠[]/\sea m=0):LE d (monI m):=by
 refine ⟨rq (HO m) (by omega),λc f a=>?_⟩;obtain ⟨e,g⟩:=h c;unfold monI at a;rw [ab e,ab (by omega)] at a;obtain ⟨k,b,rfl⟩:=fe.1 a;have:=Az.1 (nQ.1 b).1;omega
theorem wb {g l:Bool} {dg:aa} {x q:Int} {m d:aa} {k0 k1 k2:Int} (t:m.length<=18) (n:dg.length<=100) (y:0<=k0) (A:0<=k1) (C:0<=k2):
  bB 20000000 g l dg x q m d k0 k1 k2=some (chkF g l dg x q m d k0 k1 k2):=by
 unfold bB chkF;rw [AV 20000000 (by omega) g l dg x q m d k0 k1 k2 t n y A C];simp only [ob];by_cases hc:chkD g l dg x q m d k0 k1 k2=0
 ·obtain ⟨f,k,p,E,c⟩:=tK hc;rw [hc];simp only [dA,af];by_cases j:d=[]
  ·subst j;rw [ab (by simp)];rfl
  ·rw [gh j,af];have r:q=0:=by
    have:=WX f;by_cases h:0<q
    ·exact absurd (E h) (c j).1
    ·omega
   subst r;have e:=XP 20000000 (by omega) g l dg x 0 m d k0 k1 k2 k p;have s:=MV c;obtain ⟨o,o1,u⟩:=Jm f m d k0 k1 k2 (-9223372036854775808) 0 0 (by omega) (monI m) (dayI d) s (HB d);have b:∀e,inP g dg x 0 e->e≠-9223372036854775808:=λe w=>by have:=Ap w;unfold dZ at this;omega
   have key:(∃z,o=some z)↔hasF g dg x m d:=by
    constructor
    ·rintro ⟨z,rfl⟩;obtain ⟨e,a,_,c3,_⟩:=u;refine ⟨e,a,λD=>?_⟩;have:=(GM m d 0 0 (b e a) (monI m) (dayI d)).2 D;rw [this] at c3;cases c3
    ·rintro ⟨e,a,v⟩;cases o with
     | some z=>exact ⟨z,rfl⟩
     | none=>
      have:=u e a (by rw [fA];have:=Ap a;unfold dZ at this;omega);exact absurd ((GM m d 0 0 (b e a) (monI m) (dayI d)).1 this) v
   rw [e];by_cases i:hasF g dg x m d
   ·obtain ⟨z,rfl⟩:=key.2 i;rw [ab (λh=>h.2.2 i)]
    all_goals
     simp only [d4,d8,o1];rfl
   ·have B:o=none:=by
     cases o with
     | none=>rfl
     | some z=>exact absurd (key.1 ⟨z,rfl⟩) i
    subst B;rw [ae ⟨rfl,j,i⟩]
    all_goals
     simp only [d4,d8,o1];rfl
 ·rw [ab (λh=>hc h.1)];have:(chkD g l dg x q m d k0 k1 k2 != 0)=true:=by simp [hc]
  rw [this];rfl
theorem OG {g l:Bool} {dg:aa} {x:Int} (c:okY g l dg x 0) (m d:aa) (k0 k1 k2:Int):
  ∃r,la 20000000 g l dg x 0 m d k0 k1 k2=some r/\(r=1/\hasF g dg x m d\/r=0/\¬hasF g dg x m d):=by
 have O:=kz c;obtain ⟨lo,hi,A,R,I,D⟩:=zB c;obtain ⟨E,P,M⟩:=Lm c;have v:=Qm 19999700 g l dg x 0 (by omega) c;unfold la;rw [show (20000000:Nat)=19999700+300 from rfl,v];simp only [ob];generalize (sgn g (qo g dg x 0)).1=a at *;generalize (sgn g (qo g dg x 0)).2=b at *;have Q:=A a E;have hb':=A b P;have F:=λy=>VF 19999700 c y;have step:∀i y,((List.range (b - a+1).toNat).map (λj:Nat=>a+(j:Int)))[i]?=some y->i<(b - a+1).toNat/\y=a+(i:Int):=by
  intro i y h;rw [m8] at h;cases w:(List.range (b - a+1).toNat)[i]? with
  | none=>rw [w] at h;cases h
  | some j=>
   rw [w] at h;have hi:=re.1 w;obtain ⟨B,C⟩:=hi;rw [List.getElem_range] at C;rw [List.length_range] at B;subst C;exact ⟨B,(bm h).symm⟩
 have p:((List.range (b - a+1).toNat).map (λj:Nat=>a+(j:Int))).length=(b - a+1).toNat:=by simp
 have:=uA (step:=gk (19999700+300)) (f:=λi=>(b,a+(i:Int),g,l,dg,x,0,m,d,k0,k1,k2)) (L:=(List.range (b - a+1).toNat).map (λj:Nat=>a+(j:Int))) (G:=λy=>if inP g dg x 0 y/\wL m d y≠[] then some (.inl 1) else none) (e:=.inr ())
  (λi y h=>by
   obtain ⟨hi,rfl⟩:=step i y h;have H:IntKind.wrap .i64 (a+(i:Int)+1)=a+((i+1:Nat):Int):=by rw [wrap_i64 _ (by omega) (by omega)];omega
   unfold gk;simp only [d4,d8,H];rw [am (show a+(i:Int)<=b by omega),F,IR (19999700+300) (by omega)];by_cases k:inP g dg x 0 (a+(i:Int))
   ·rw [ae k];by_cases n:wL m d (a+(i:Int))=[]
    ·rw [ab (λh=>h.2 n),n];rfl
    ·rw [ae ⟨k,n⟩];have hp:0<(wL m d (a+(i:Int))).length:=List.length_pos_iff.2 n;have J:decide ((((wL m d (a+(i:Int))).length:Nat):Int)>0)=true:=am (by omega);simp only [ah,ob,J];rfl
   ·rw [ab k,ab (λh=>k h.1)];rfl)
  (by
   unfold gk;simp only [d4,d8];rw [p,aq (show ¬a+(((b - a+1).toNat:Nat):Int)<=b by omega)];rfl)
  (N:=19999700+300) (by rw [p];omega)
 rw [show a+((0:Nat):Int)=a by omega] at this;rw [this];cases q:(List.findSome? (λy=>if inP g dg x 0 y/\wL m d y≠[] then some (Sum.inl (1:Int)) else none) ((List.range (b - a+1).toNat).map (λj:Nat=>a+(j:Int))):Option (Int⊕Unit)) with
 | none=>
  refine ⟨0,rfl,.inr ⟨rfl,?_⟩⟩;rintro ⟨e,s,u⟩;rw [QX] at q;have hs:=M e s;have:=q e (fe.2 ⟨(e - a).toNat,lp.2 (by omega),by omega⟩);rw [ae ⟨s,u⟩] at this;cases this
 | some z=>
  obtain ⟨y,K,o⟩:=List.exists_of_findSome?_eq_some q;by_cases t:inP g dg x 0 y/\wL m d y≠[]
  ·rw [ae t] at o;obtain rfl:=bm o;exact ⟨1,rfl,.inl ⟨rfl,y,t.1,t.2⟩⟩
  ·rw [ab t] at o;cases o
theorem tJ {g l:Bool} {dg:aa} {x q:Int} {m d:aa} {k0 k1 k2:Int} (i:dg.length<=100) (t:0<=k0) (p:0<=k1) (o:0<=k2):
  bQ 20000000 g l dg x q m d k0 k1 k2=some (chkF g l dg x q m d k0 k1 k2):=by
 unfold bQ chkF;rw [EI 20000000 (by omega) g l dg x q m d k0 k1 k2 i t p o];simp only [ob];by_cases hc:chkD g l dg x q m d k0 k1 k2=0
 ·obtain ⟨a,s,u,n,f⟩:=tK hc;rw [hc];by_cases b:d=[]
  ·subst b;rw [ab (by simp)];rfl
  ·have e:q=0:=by
    have:=WX a;by_cases h:0<q
    ·exact absurd (n h) (f b).1
    ·omega
   subst e;obtain ⟨r,j,k⟩:=OG a m d k0 k1 k2;rw [gh b,j];rcases k with ⟨rfl,c⟩ | ⟨rfl,c⟩
   ·rw [ab (λh=>h.2.2 c)];rfl
   ·rw [ae ⟨rfl,b,c⟩];rfl
 ·rw [ab (λh=>hc h.1)];have:(chkD g l dg x q m d k0 k1 k2==0)=false:=aL.2 hc;rw [this];rfl
theorem nK {g l:Bool} {dg:aa} {x q:Int} {m d:aa} {k0 k1 k2:Int} (h:chkF g l dg x q m d k0 k1 k2=0):chkD g l dg x q m d k0 k1 k2=0:=by
 unfold chkF at h;split at h
 ·cases h
 ·exact h
theorem bne0 {e:Int} (h:e≠0):(e != 0)=true:=by simp [h]
theorem O7 {m d:aa} {y:Int} {z:Int×Int×Int}:z∈wL m d y↔z.1=y/\z.2.1∈monI m/\z.2.2∈dayI d/\z.2.2<=wx d y z.2.1:=by
 unfold wL vt;simp only [List.mem_flatMap,fe,nQ,ck];constructor
 ·rintro ⟨f,c,k,⟨a,b⟩,rfl⟩;exact ⟨rfl,c,a,b⟩
 ·rintro ⟨e,c,a,b⟩;exact ⟨z.2.1,c,z.2.2,⟨a,b⟩,by rw [<-e]⟩
def plN (P:Nat×Nat×Nat) (i:Nat):Nat:=if i=0 then P.1 else if i=1 then P.2.1 else P.2.2
theorem uF {g l:Bool} {dg:aa} {x q:Int} {m d:aa} {k0 k1 k2:Int} (a:allM k0 k1 k2 (dj m d)=0):chkF g l dg x q m d k0 k1 k2=0\/chkF g l dg x q m d k0 k1 k2=6\/chkF g l dg x q m d k0 k1 k2=7\/chkF g l dg x q m d k0 k1 k2=8:=by
 unfold chkF;split
 ·exact .inr (.inr (.inr rfl))
 ·exact JL a
noncomputable def chkR (r:DR):Nat:=(chkF r.1 r.2.1 r.2.2.1 (r.2.2.2.1:Int) (r.2.2.2.2.1:Int) r.2.2.2.2.2.1 r.2.2.2.2.2.2.1 (r.2.2.2.2.2.2.2.1.1:Int) (r.2.2.2.2.2.2.2.1.2.1:Int) (r.2.2.2.2.2.2.2.1.2.2:Int)).toNat
noncomputable def ct (S:aa) (a:Nat):(Nat×Nat×Nat)⊕DR:=
 match qH S a with
 | .inl k=>.inl (k,5,k)
 | .inr r=>if chkR r=0 then .inr r else .inl (plN r.2.2.2.2.2.2.2.2.1 (chkR r - 6),chkR r,r.2.2.2.2.2.2.2.2.2)
def UZ (S:aa):(Nat×Nat×Nat)⊕DR->(Int×Int×aa×Int)⊕(Bool×Bool×aa×Int×Int×aa×aa×Int×Int×Int×Int×aa×Int)
 | .inl (k,E,p)=>.inl ((k:Int),(E:Int),S,(p:Int))
 | .inr (g,l,dg,x,s,m,d,M,P,e)=>.inr (g,l,dg,(x:Int),(s:Int),m,d,(M.1:Int),(M.2.1:Int),(M.2.2:Int),(P.1:Int),S,(e:Int))
theorem Fe (S:aa) (a:Nat) (h:a<=S.length) (p:S.length<100000):iK 20000000 S (a:Int)=some (UZ S (ct S a)):=by
 have j:jY 20000000 S (a:Int)=_:=S0 19999700 S a h p (by omega);unfold iK ct;rw [j];cases n:qH S a with
 | inl k=>rfl
 | inr r=>
  obtain ⟨g,l,dg,x,s,f,d,M,P,e⟩:=r;have b:=AQ h n;have o:=b.all;have t:=b.m2;have i:=b.dg17;simp only [ob,Vb,d4,d8];rw [wb (g:=g) (l:=l) (x:=(x:Int)) (q:=(s:Int)) (d:=d) (show f.length<=18 by omega) (show dg.length<=100 by omega) (show (0:Int)<=(M.1:Int) by omega) (show (0:Int)<=(M.2.1:Int) by omega) (show (0:Int)<=(M.2.2:Int) by omega)];simp only [ob];have c:=uF (g:=g) (l:=l) (dg:=dg) (x:=(x:Int)) (q:=(s:Int)) (m:=f) (d:=d) (k0:=(M.1:Int)) (k1:=(M.2.1:Int)) (k2:=(M.2.2:Int)) (xo o);unfold chkR;simp only [];rcases c with hc | hc | hc | hc<;>rw [hc]<;>rfl
def dayY (y:Int):Int:=365*y+(1+(y - 1) / 4 - (y - 1) / 100+(y - 1) / 400)
def cumM (y:Int):Nat->Int
 | 0=>0
 | k+1=>cumM y k+lenI y ((k+1:Nat):Int)
def dayM (y:Int) (m:Nat):Int:=if m<=12 then dayY y+cumM y (m - 1) else dayY (y+1)+cumM (y+1) (m - 13)
theorem B9 (y:Int):dayY (y+1)=dayY y+365+(if s8 y then 1 else 0):=by
 unfold dayY s8;simp only [aA,iY,ck];split<;>omega
theorem GH (n:Int):dayY (400*n)=146097*n:=by
 unfold dayY;omega
theorem kQ {y:Int} (h:-20000000000000000<=y/\y<=20000000000000000):-8000000000000000000<=dayY y/\dayY y<=8000000000000000000:=by
 unfold dayY;omega
theorem XW (y:Int):cumM y 12=365+(if s8 y then 1 else 0):=by
 have e:∀k:Nat,cumM y (k+1)=cumM y k+lenI y ((k+1:Nat):Int):=λ_=>rfl;have z:cumM y 0=0:=rfl;rw [e 11,e 10,e 9,e 8,e 7,e 6,e 5,e 4,e 3,e 2,e 1,e 0,z];unfold lenI;cases s8 y<;>rfl
theorem rI (y:Int):∀k:Nat,0<=cumM y k/\cumM y k<=31*(k:Int)
 | 0=>by simp [cumM]
 | k+1=>by
  have b:=rI y k;have a:=lT y ((k+1:Nat):Int);show 0<=cumM y k+lenI y ((k+1:Nat):Int)/\cumM y k+lenI y ((k+1:Nat):Int)<=_;omega
theorem oZ {y:Int} (h:dZ y) {m:Nat} (a:m<=24):-8100000000000000000<=dayM y m/\dayM y m<=8100000000000000000:=by
 unfold dZ at h;unfold dayM;split
 ·have:=rI y (m - 1);have:=kQ (y:=y) (by omega);omega
 ·have:=rI (y+1) (m - 13);have:=kQ (y:=y+1) (by omega);omega
theorem S4 (y:Int):dayM y 13=dayY (y+1):=by
 unfold dayM;rw [ab (by omega)];simp [cumM]
theorem K8 (y:Int) {m:Nat} (b:1<=m) (a:m<=12):dayM y (m+1)=dayM y m+lenI y (m:Int):=by
 obtain ⟨k,rfl⟩:∃k,m=k+1:=⟨m - 1,by omega⟩;have e:dayM y (k+1)=dayY y+cumM y k:=by unfold dayM;rw [ae (by omega)];rfl
 rw [e];by_cases h:k+1=12
 ·obtain rfl:k=11:=by omega
  rw [S4,B9];have:=XW y;have e:cumM y 12=cumM y 11+lenI y ((11+1:Nat):Int):=rfl;omega
 ·have:dayM y (k+1+1)=dayY y+cumM y (k+1):=by unfold dayM;rw [ae (by omega)];rfl
  rw [this];show dayY y+(cumM y k+lenI y ((k+1:Nat):Int))=_;omega
theorem DV (y:Int) {m:Nat} (b:1<=m) (a:m<=12):dayM y (m+12)=dayM (y+1) m:=by
 unfold dayM;rw [ab (by omega),ae a];congr 2
theorem sI (n:Nat) {y:Int} (h:-10000000000000001<=y/\y<=10000000000000001):lV n y=some (dayY y):=by
 have a:=kQ (y:=y) (by omega);unfold lV;rw [wT n (by omega),wrap_i64 (365*y) (by omega) (by omega)];show some (IntKind.wrap .i64 (dayY y))=_;rw [wrap_i64 _ (by omega) (by omega)]
theorem sP (n:Nat) {y:Int} (h:dZ y):l8 n y=some (dayY y,0):=by
 unfold l8;have h':=h;unfold dZ at h';rw [gK,ae h,sI n (by omega)];rfl
theorem CE (n:Nat) {y:Int} (h:dZ y):tV n y=some (dayY (y+1) - 1,0):=by
 unfold tV;have h':=h;unfold dZ at h';have a:=kQ (y:=y+1) (by omega);rw [gK,ae h,wrap_i64 (y+1) (by omega) (by omega),sI n (by omega)];show some (IntKind.wrap .i64 (dayY (y+1) - 1),(0:Int))=_;rw [wrap_i64 _ (by omega) (by omega)]
theorem FV (n:Nat) {y:Int} (h:dZ y) {m:Nat} (c:m<=11):∀(r j:Nat),j+r=m->∀N,r<N->ar (bJ n) N (y,dayY y+cumM y j,(m:Int),(j:Int))=some (dayY y+cumM y m):=by
 have h':=h;unfold dZ at h';have d:=kQ (y:=y) (by omega);intro r
 induction r with
 | zero=>
  intro j a N b;obtain ⟨N,rfl⟩:∃k,N=k+1:=⟨N - 1,by omega⟩;obtain rfl:j=m:=by omega
  have:bJ n (y,dayY y+cumM y j,(j:Int),(j:Int))=some (.inr (dayY y+cumM y j)):=by
   unfold bJ;rw [bA,ab (show ¬((j:Int)<(j:Int)) by omega)]
  rw [ar,this]
 | succ r ih=>
  intro j a N b;obtain ⟨N,rfl⟩:∃k,N=k+1:=⟨N - 1,by omega⟩;have w:IntKind.wrap .i64 ((j:Int)+1)=((j+1:Nat):Int):=by rw [wrap_i64 _ (by omega) (by omega)];omega
  have hc:=rI y j;have e:=lT y ((j+1:Nat):Int);have:bJ n (y,dayY y+cumM y j,(m:Int),(j:Int))=some (.inl (y,dayY y+cumM y (j+1),(m:Int),((j+1:Nat):Int))):=by
   unfold bJ;rw [bA,ae (show ((j:Int)<(m:Int)) by omega)];simp only [w,wZ n h (show 1<=j+1 by omega) (show j+1<=12 by omega),ob];rw [wrap_i64 (dayY y+cumM y j+lenI y ((j+1:Nat):Int)) (by omega) (by omega),Int.add_assoc];rfl
  rw [ar,this];exact ih (j+1) (by omega) N (by omega)
theorem uu (n:Nat) (c:100<n) {y:Int} (h:dZ y) {m:Nat} (b:1<=m) (a:m<=12):fG n y (m:Int)=some (dayM y m,0):=by
 unfold fG;have w:IntKind.wrap .i64 ((m:Int) - 1)=((m - 1:Nat):Int):=by rw [wrap_i64 _ (by omega) (by omega)];omega
 rw [Hm n h b a,sP n h,w];have:=FV n h (m:=m - 1) (by omega) (m - 1) 0 (by omega) n (by omega);rw [show dayY y+cumM y 0=dayY y by simp [cumM]] at this;show ob (ar (bJ n) n (y,dayY y,((m - 1:Nat):Int),((0:Nat):Int))) _=_;rw [this];unfold dayM;rw [ae a];rfl
theorem EO (n:Nat) (c:100<n) {y:Int} (h:dZ y) {m:Nat} (b:1<=m) (a:m<=12):il n y (m:Int)=some (dayM y (m+1) - 1,0):=by
 unfold il;have d:=oZ h (m:=m) (by omega);have e:=lT y (m:Int);rw [uu n c h b a,wZ n h b a,K8 y b a];show some (IntKind.wrap .i64 (IntKind.wrap .i64 (dayM y m+lenI y (m:Int)) - 1),(0:Int))=_;rw [wrap_i64 (dayM y m+lenI y (m:Int)) (by omega) (by omega),wrap_i64 _ (by omega) (by omega)]
theorem IK (n:Nat) (b:100<n) {y:Int} (h:dZ y) {j m c:Nat} (i:j<21) (e:nL[j]?=some ((m:Int),(c:Int))) (g:1<=m) (f:m<=12) (k:1<=c) (o:c<=6) (hy:12<m+c - 1->y≠10000000000000000):
  iD n y ((21+j:Nat):Int)=some (0,dayM y m,0,dayM y (m+c) - 1,0):=by
 have l:fE n ((21+j:Nat):Int)=some ((m:Int),(c:Int),0):=by
  unfold fE dK;rw [bA,bA,ab (by omega),ab (by omega)];have:IntKind.wrap .i64 (((21+j:Nat):Int) - 21)=(j:Int):=by rw [wrap_i64 _ (by omega) (by omega)];omega
  rw [this,eG i];show ob (nL[j]?) _=_;rw [e];rfl
 unfold iD;rw [l];simp only [ob,dA,af];rw [uu n b h g f];simp only [ob,dA,af];rw [madd n h g f k o];have h':=h;unfold dZ at h';by_cases a:12<m+c - 1
 ·rw [ae a,ab (hy a)];have d:dZ (y+1):=by unfold dZ;have:=hy a;omega
  simp only [ob,dA,af];rw [EO n b d (m:=m+c - 1 - 12) (by omega) (by omega)];have:=DV y (m:=m+c - 1 - 12+1) (by omega) (by omega);rw [show m+c - 1 - 12+1+12=m+c by omega] at this;rw [this]
 ·rw [ab a];simp only [ob,dA,af];rw [EO n b h (m:=m+c - 1) (by omega) (by omega),show m+c - 1+1=m+c by omega]
theorem zk (n:Nat) {y:Int} (hy:-10000000000000002<=y/\y<=10000000000000002):∀(r:Nat) (z:Int),z+(r:Int)=y->-10000000000000402<=z->∀N,r<N->ar (cV n) N (y,dayY z,z)=some (dayY y):=by
 intro r
 induction r with
 | zero=>
  intro z c a N d;obtain ⟨N,rfl⟩:∃k,N=k+1:=⟨N - 1,by omega⟩;obtain rfl:z=y:=by omega
  have:cV n (z,dayY z,z)=some (.inr (dayY z)):=by
   unfold cV;rw [bA,ab (show ¬(z<z) by omega)]
  rw [ar,this]
 | succ r ih=>
  intro z c a N d;obtain ⟨N,rfl⟩:∃k,N=k+1:=⟨N - 1,by omega⟩;have f:=kQ (y:=z) (by omega);have b:=B9 z;have:cV n (y,dayY z,z)=some (.inl (y,dayY (z+1),z+1)):=by
   unfold cV;rw [bA,ae (show z<y by omega),BG];have e:lenI z 2=if s8 z then 29 else 28:=rfl
   simp only [ob,e];rw [wrap_i64 (dayY z+365) (by omega) (by omega),wrap_i64 (dayY z+365+1) (by omega) (by omega),wrap_i64 (z+1) (by omega) (by omega),b];cases s8 z
   ·simp
   ·rfl
  rw [ar,this];exact ih (z+1) (by omega) (by omega) N (by omega)
theorem sC (n:Nat) (e:1000<n) {y:Int} (hy:-10000000000000002<=y/\y<=10000000000000002):cg n y=some (dayY y):=by
 have b:=Int.mul_tdiv_add_tmod y 400;have d:Int.tmod y 400=if 0<=y then y%400 else -((-y)%400):=by
  by_cases h:0<=y
  ·rw [ae h,NY h]
  ·rw [ab h,<-NY (show 0<=-y by omega),Int.neg_tmod,Int.neg_neg]
 unfold cg;by_cases a:Int.tmod y 400<0
 ·rw [am a];have c:Int.tdiv y 400 - 1=y / 400:=by
   rw [d] at a b;split at a
   ·omega
   ·rw [ab (by assumption)] at b;omega
  rw [wrap_i64 (Int.tdiv y 400) (by omega) (by omega),c,wrap_i64 (y / 400) (by omega) (by omega),wrap_i64 (y / 400*146097) (by omega) (by omega),wrap_i64 (y / 400*400) (by omega) (by omega)];have:=zk n hy (y - y / 400*400).toNat (y / 400*400) (by omega) (by omega) n (by omega);rw [show dayY (y / 400*400)=y / 400*146097 by rw [zt,GH,zt]] at this;simp only [ah,this,ob]
 ·rw [aq a];have c:Int.tdiv y 400=y / 400:=by
   rw [d] at a b;split at a
   ·rw [ae (by assumption)] at b;omega
   ·rw [ab (by assumption)] at b;omega
  rw [c,wrap_i64 (y / 400) (by omega) (by omega),wrap_i64 (y / 400*146097) (by omega) (by omega),wrap_i64 (y / 400*400) (by omega) (by omega)];have:=zk n hy (y - y / 400*400).toNat (y / 400*400) (by omega) (by omega) n (by omega);rw [show dayY (y / 400*400)=y / 400*146097 by rw [zt,GH,zt]] at this;simp only [af,this,ob]
theorem yB {step:Int×Int×Int×Int->Option ((Int×Int×Int×Int)⊕Int)} (n:Nat)
  (hs:step=λx=>(cond (decide (x.2.2.2<x.2.1)) (ob (eJ n x.1 x.2.2.2) λr=>(some (.inl (x.1,x.2.1,(IntKind.wrap .i64 (x.2.2.1+r)),(IntKind.wrap .i64 (x.2.2.2+1)))))) (some (.inr x.2.2.1))))
  {y:Int} (hy:-10000000000000002<=y/\y<=10000000000000002) {m:Nat} (f:1<=m) (d:m<=12) {N:Nat} (a:20<N):ar step N (y,(m:Int),dayY y,1)=some (dayM y m):=by
 have g:=kQ (y:=y) (by omega);have c:∀(r j:Nat),j+1+r=m->∀N,r<N->ar step N (y,(m:Int),dayY y+cumM y j,((j+1:Nat):Int))=some (dayY y+cumM y (m - 1)):=by
  intro r
  induction r with
  | zero=>
   intro j b N a;obtain ⟨N,rfl⟩:∃k,N=k+1:=⟨N - 1,by omega⟩;obtain rfl:j+1=m:=by omega
   have:step (y,((j+1:Nat):Int),dayY y+cumM y j,((j+1:Nat):Int))=some (.inr (dayY y+cumM y j)):=by
    rw [hs];simp only [];rw [aq (show ¬(((j+1:Nat):Int)<((j+1:Nat):Int)) by omega)];rfl
   rw [ar,this];rfl
  | succ r ih=>
   intro j b N a;obtain ⟨N,rfl⟩:∃k,N=k+1:=⟨N - 1,by omega⟩;have w:IntKind.wrap .i64 (((j+1:Nat):Int)+1)=((j+1+1:Nat):Int):=by rw [wrap_i64 _ (by omega) (by omega)];omega
   have hc:=rI y j;have h:=lT y ((j+1:Nat):Int);have:step (y,(m:Int),dayY y+cumM y j,((j+1:Nat):Int))=some (.inl (y,(m:Int),dayY y+cumM y (j+1),((j+1+1:Nat):Int))):=by
    rw [hs];simp only [];rw [am (show (((j+1:Nat):Int)<(m:Int)) by omega),BG];simp only [ah,ob,w];rw [wrap_i64 (dayY y+cumM y j+lenI y ((j+1:Nat):Int)) (by omega) (by omega),Int.add_assoc];rfl
   rw [ar,this];exact ih (j+1) (by omega) N (by omega)
 have:=c (m - 1) 0 (by omega) N (by omega);rw [show dayY y+cumM y 0=dayY y by simp [cumM]] at this;have e:dayM y m=dayY y+cumM y (m - 1):=by unfold dayM;rw [ae d]
 rw [e];exact this
theorem qI (n:Nat) (a:1000<n) {y:Int} (hy:-10000000000000001<=y/\y<=10000000000000001) {m:Nat} (c:1<=m) (b:m<=24):aQ n y (m:Int)=some (dayM y m):=by
 unfold aQ;by_cases h:12<m
 ·rw [am (show (m:Int)>12 by omega),wrap_i64 (y+1) (by omega) (by omega),wrap_i64 ((m:Int) - 12) (by omega) (by omega),show (m:Int) - 12=((m - 12:Nat):Int) by omega];unfold kB;rw [aq (show ¬((m - 12:Nat):Int)>12 by omega),sC n a (by omega)];simp only [ah,af,ob];have:=yB (step:=jf n) n rfl (y:=y+1) (by omega) (m:=m - 12) (by omega) (by omega) (N:=n) (by omega);rw [this,<-DV y (by omega) (by omega),show m - 12+12=m by omega]
 ·rw [aq (show ¬(m:Int)>12 by omega),sC n a (by omega)];simp only [af,ob];have:=yB (step:=kC n) n rfl (y:=y) (by omega) (m:=m) (by omega) (by omega) (N:=n) (by omega);rw [this]
def twoV (s:aa):Nat:=match s with
 | [a,b]=>10*(a.toNat - 48)+(b.toNat - 48)
 | _=>0
def yOf (g:Bool) (dg:aa) (x:Int):Int:=if g then -((val dg x.toNat:Nat):Int) else ((val dg x.toNat:Nat):Int)
def spF (m:aa):Nat:=((nL.getD (sea m - 21).toNat (0,0)).1).toNat
def spC (m:aa):Nat:=((nL.getD (sea m - 21).toNat (0,0)).2).toNat
def pO (g:Bool) (dg:aa) (x:Int) (m d:aa):Int×Int:=
 if m=[] then (dayY (yOf g dg x),dayY (yOf g dg x+1) - 1)
 else if 0<sea m then (dayM (yOf g dg x) (spF m),dayM (yOf g dg x) (spF m+spC m) - 1)
 else if d=[] then (dayM (yOf g dg x) (twoV m),dayM (yOf g dg x) (twoV m+1) - 1)
 else (dayM (yOf g dg x) (twoV m)+(twoV d:Int) - 1,dayM (yOf g dg x) (twoV m)+(twoV d:Int) - 1)
def exD (dg m d:aa) (q:Int):Bool:=!(hasX dg||(hasX m||hasX d))&&(q==0)
theorem Rl {s:aa} (h:hasX s=false) {c:UInt8} (hc:c∈s):c≠88:=by
 rintro rfl;unfold hasX at h;rw [sN] at h;exact h 88 hc (by decide)
theorem Nk {s:aa} (h:hasX s=false) {k:Nat} (l:k<100) (c:agr s k=true):twoV s=k/\s=two k:=by
 unfold agr at c;split at c
 ·rename_i a b;have e:a≠88:=Rl h (by simp);have d:b≠88:=Rl h (by simp);simp only [aA,iY,bG] at c;obtain ⟨g,f⟩:=c;have g:=g.resolve_left e;have f:=f.resolve_left d;subst g f;refine ⟨?_,rfl⟩;unfold twoV;have i:(UInt8.ofNat (48+k / 10)).toNat=48+k / 10:=by simp;omega
  have j:(UInt8.ofNat (48+k%10)).toNat=48+k%10:=by simp;omega
  simp only [i,j];omega
 ·cases c
theorem Ac {s:aa} (h:hasX s=false) {g:Nat} (d:g<100) (a:ir s g=true):1<=twoV s/\twoV s<=g/\s=two (twoV s):=by
 unfold ir at a;obtain ⟨i,hi,a⟩:=tR.1 a;have:=lp.1 hi;obtain ⟨c,b⟩:=Nk h (by omega) a;rw [c];exact ⟨by omega,by omega,b⟩
theorem J1 {s:aa} (h:hasX s=false) {g:Nat} (d:g<100) {k:Int} (b:k∈tU (fitN s g)):k=(twoV s:Int):=by
 obtain ⟨i,hi,rfl⟩:=fe.1 b;obtain ⟨c,a⟩:=nQ.1 hi;have:=Az.1 c;rw [(Nk h (by omega) a).1]
theorem HA {k:Nat} (c:k<100):Lib.atoi (two k)=some (k:Int):=by
 have b:(UInt8.ofNat (48+k / 10)).toNat=48+k / 10:=by simp;omega
 have a:(UInt8.ofNat (48+k%10)).toNat=48+k%10:=by simp;omega
 unfold two;rw [G3 (by omega) (by omega),b,a];congr 2;omega
theorem zJ (n:Nat) {k:Nat} (d:k<100):ba n (two k)=some (k:Int):=by
 have c:(UInt8.ofNat (48+k / 10)).toNat=48+k / 10:=by simp;omega
 have a:(UInt8.ofNat (48+k%10)).toNat=48+k%10:=by simp;omega
 have s0:sx (two k) 0=some (UInt8.ofNat (48+k / 10)):=rfl;have b:sx (two k) 1=some (UInt8.ofNat (48+k%10)):=rfl;unfold ba;rw [s0,b];simp only [ob,c,a]
 rw [kD (((48+k / 10:Nat):Int) - 48) (by omega) (by omega),kD (((48+k%10:Nat):Int) - 48) (by omega) (by omega),
  wrap_i64 (((48+k / 10:Nat):Int) - 48) (by omega) (by omega),wrap_i64 (((48+k%10:Nat):Int) - 48) (by omega) (by omega),
  wrap_i64 (10*(((48+k / 10:Nat):Int) - 48)) (by omega) (by omega),wrap_i64 _ (by omega) (by omega)]
 congr 1;omega
structure Exact (g l:Bool) (dg:aa) (x:Int) (m d:aa):Prop where
 ok:okY g l dg x 0
 num:hasX dg=false
 cal:dZ (yOf g dg x)
 mon:m=[]\/(∃j,j<21/\m=two (21+j)/\(j=3\/j=7\/j=9->yOf g dg x≠10000000000000000))\/(sea m=0/\1<=twoV m/\twoV m<=12/\m=two (twoV m))
 day:d=[]\/(m≠[]/\sea m=0/\1<=twoV d/\twoV d<=31/\d=two (twoV d)/\(twoV d:Int)<=lenI (yOf g dg x) (twoV m:Int))
theorem wn {g l:Bool} {dg:aa} {x q:Int} {m d:aa} {k0 k1 k2:Int} (hc:chkF g l dg x q m d k0 k1 k2=0) (f:exD dg m d q=true):q=0/\Exact g l dg x m d:=by
 unfold exD at f;simp only [aA,ly,pw,bG] at f;obtain ⟨⟨D,s,n⟩,rfl⟩:=f;refine ⟨rfl,?_⟩;have B:=nK hc;obtain ⟨a,I,M,Q,y⟩:=tK B;obtain ⟨r,H,c3,P⟩:=LX B;have k:=F8 a D;obtain ⟨F,_,_⟩:=Lm a;have hy:inP g dg x 0 (yOf g dg x):=by
  have:=(k _).1 F;have e:yOf g dg x=(sgn g (qo g dg x 0)).1:=by rw [this];rfl
  rw [e];exact F
 have p:=Ap hy;refine ⟨a,D,p,?_,?_⟩
 ·by_cases o:m=[]
  ·exact .inl o
  ·right;rcases pB m with K | ⟨j,G,e⟩
   ·right;rcases H with h | h | h
    ·exact absurd h o
    ·omega
    ·obtain ⟨a1,a2,E⟩:=Ac s (by omega) h;exact ⟨K,a1,a2,E⟩
   ·left;refine ⟨j,G,e,λN=>?_⟩;unfold yrD at r;rw [ae a] at r;unfold yrB at r;simp only [aA,ly] at r;have v:wint (sea m)=true:=by
     rw [e,lU G];rcases N with rfl | rfl | rfl<;>rfl
    have i:=r.2;rw [v,nW] at i;unfold uS at i;rw [D] at i;intro b;unfold yOf at b;cases g with
    | true=>
     simp only [aJ] at b;omega
    | false=>
     simp only [br,aB] at b;have:val dg x.toNat=E16:=by unfold E16;omega
     rw [am this] at i;cases i
 ·by_cases c:d=[]
  ·exact .inl c
  ·right;obtain ⟨o,hs⟩:=y c;rcases c3 with h | ⟨_,_,h⟩
   ·exact absurd h c
   ·obtain ⟨a1,a2,E⟩:=Ac n (by omega) h;refine ⟨o,hs,a1,a2,E,?_⟩;have J:hasF g dg x m d:=by
     unfold chkF at hc;split at hc
     ·cases hc
     ·rename_i O;by_cases h:hasF g dg x m d
      ·exact h
      ·exact absurd ⟨B,c,h⟩ O
    obtain ⟨e,f,u⟩:=J;obtain ⟨z,L,C⟩:=List.exists_cons_of_ne_nil u;have C:z∈wL m d e:=by rw [C];exact mW
    obtain ⟨z1,z2,t,w⟩:=O7.1 C;have A:e=yOf g dg x:=(k e).1 f;unfold monI at z2;rw [ab o,ab (by omega)] at z2;unfold dayI at t;rw [ab c] at t;unfold wx at w;rw [ab c,J1 n (by omega) t,J1 s (by omega) z2,A] at w;exact w
theorem MZ {j:Nat} (a:j<21):∃f c:Nat,nL[j]?=some ((f:Int),(c:Int))/\1<=f/\f<=12/\1<=c/\c<=6/\(12<f+c - 1↔j=3\/j=7\/j=9)/\spF (two (21+j))=f/\spC (two (21+j))=c:=by
 obtain ⟨f,c,e,i,g,h,k,d⟩:=GB a;have hs:(sea (two (21+j)) - 21).toNat=j:=by rw [lU a];omega
 have b:nL.getD j (0,0)=((f:Int),(c:Int)):=by rw [D9,e];rfl
 refine ⟨f,c,e,i,g,h,k,d,?_,?_⟩
 ·unfold spF;rw [hs,b];rfl
 ·unfold spC;rw [hs,b];rfl
theorem Db (n:Nat) {j:Nat} (a:j<21):gZ n ((21+j:Nat):Int)=nL[j]?:=by
 have:j=0\/j=1\/j=2\/j=3\/j=4\/j=5\/j=6\/j=7\/j=8\/j=9\/j=10\/j=11\/j=12\/j=13\/j=14\/j=15\/j=16\/j=17\/j=18\/j=19\/j=20:=by omega
 rcases this with rfl | rfl | rfl | rfl | rfl | rfl | rfl | rfl | rfl | rfl | rfl | rfl | rfl | rfl | rfl | rfl | rfl | rfl | rfl | rfl | rfl<;>rfl
theorem Gs (n:Nat) (g l:Bool) (dg:aa) (x q:Int) (m d:aa) (k0 k1 k2:Int) (a:m.length<=1000) (b:dg.length<=1000) (h:d.length<=1000):mD n g l dg x q m d k0 k1 k2=some (exD dg m d q):=by
 unfold mD exD;rw [Di n g l dg x q m d k0 k1 k2 a b h];simp only [ob];cases (hasX dg||(hasX m||hasX d))<;>rfl
theorem QP {Y:Type} (a b:Y):∀s:aa,((s.findSome? λc=>if c=88 then some a else none).getD b)=if hasX s then a else b
 | []=>rfl
 | c::s=>by
  have ih:=QP a b s;unfold hasX at ih ⊢;rw [Dp,qZ];by_cases hc:c=88
  ·subst hc;rfl
  ·rw [ab hc];have e:(c==88)=false:=aL.2 hc;rw [e,pG];exact ih
theorem yW (n:Nat) (s:aa) (g l:Bool) (dg:aa) (x q:Int) (m d:aa) (k0 k1 k2:Int) (hs:s.length<=100000) {N:Nat} (a:s.length<N):
  ar (ei n) N (s,0,g,l,dg,x,q,m,d,k0,k1,k2)=some (if hasX s then .inl 0 else .inr (g,l,dg,x,q,m,d,k0,k1,k2)):=by
 have:=uA (step:=ei n) (f:=λi=>(s,(i:Int),g,l,dg,x,q,m,d,k0,k1,k2)) (L:=s) (G:=λc=>if c=88 then some (.inl 0) else none) (e:=.inr (g,l,dg,x,q,m,d,k0,k1,k2))
  (λi c hi=>by
   have b:=(re.1 hi).1;have j:IntKind.wrap .i64 ((i:Int)+1)=((i+1:Nat):Int):=by rw [wrap_i64 _ (by omega) (by omega)];omega
   unfold ei;simp only [d4,d8,j];rw [am (show (i:Int)<((s.length:Nat):Int) by omega),dI hi];simp only [ah,ob];by_cases hc:c=88
   ·subst hc;rw [ae rfl];rfl
   ·rw [ab hc];have:(((c.toNat:Nat):Int)==88)=false:=by
     rw [aL];intro h;apply hc;apply gy.1;have:c.toNat=88:=by omega
     rw [this];rfl
    rw [this];rfl)
  (by
   unfold ei;simp only [d4,d8];rw [aq (show ¬((s.length:Nat):Int)<((s.length:Nat):Int) by omega)];rfl)
  a
 rw [show ((0:Nat):Int)=0 from rfl] at this;rw [this];rw [QP]
theorem Dj (n:Nat) (g l:Bool) (dg:aa) (x q:Int) (m d:aa) (k0 k1 k2:Int) (e:m.length<=1000) (f:dg.length<=1000) (h:d.length<=1000) (i:4000<n):aN n g l dg x q m d k0 k1 k2=some (if exD dg m d q then 1 else 0):=by
 unfold aN;rw [ci (by omega)];simp only [ob];rw [ci (by rw [aU];omega)];simp only [];rw [yW n _ _ _ _ _ _ _ _ _ _ _ (by simp only [aU];omega) (by simp only [aU];omega)];rw [wi,wi];unfold exD;cases hasX dg<;>cases hasX m<;>cases hasX d<;>(try rfl);simp only [yd,br,aB,ob,d4,ij,nW];by_cases a:q=0
 ·subst a;rfl
 ·have c:(q != 0)=true:=by simp [a]
  have b:(q==0)=false:=aL.2 a;rw [c,b];rfl
theorem SZ (n:Nat) (c:100<n) {y:Int} (h:dZ y) {m k:Nat} (b:1<=m) (a:m<=12) (k1:1<=k) (k2:(k:Int)<=lenI y (m:Int)):sj n y (m:Int) (k:Int)=some (dayM y m+(k:Int) - 1,0):=by
 have d:=oZ h (m:=m) (by omega);have e:=lT y (m:Int);unfold sj qT;rw [Ol n h b a];simp only [ob,dA,af];rw [aq (show ¬(k:Int)<1 by omega),aq (show ¬(k:Int)>lenI y (m:Int) by omega),uu n c h b a];simp only [ob,dA,af];rw [wrap_i64 (dayM y m+(k:Int)) (by omega) (by omega),wrap_i64 _ (by omega) (by omega)]
section
variable {g l:Bool} {dg:List UInt8} {x:Int} {m d:List UInt8} {k0 k1 k2:Int}
theorem EG (n:Nat) (u:100<n) (C:m.length<=18) (E:Exact g l dg x m d) (q r:Int) (A:m≠[]->q=if 0<sea m then sea m else (twoV m:Int)) (O:d≠[]->r=(twoV d:Int)):
  (ob (jC n) λw=>(ob (bh n g l dg x 0 m d k0 k1 k2) λb=>(cond (b==0) (ob (gv n (yOf g dg x) ([q,r]:List (Int))) λa=>(some (a.1,a.2.1,a.2.2.1,a.2.2.2,(0:Int)))) (cond (b==1) (ob (gD n (yOf g dg x) ([q,r]:List (Int))) λo=>(some (o.1,o.2.1,o.2.2.1,o.2.2.2,0))) (cond (b==2) (ob (gI n (yOf g dg x) ([q,r]:List (Int))) λi=>(some (i.1,i.2.1,i.2.2.1,i.2.2.2,0))) (cond (b==3) (ob (gJ n (yOf g dg x) ([q,r]:List (Int))) λk=>(some (k.1,k.2.1,k.2.2.1,k.2.2.2,0))) none)))))) =
   some (0,(pO g dg x m d).1,0,(pO g dg x m d).2,0):=by
 have H:jC n=some ():=rfl;have v:ix ([q,r]:List Int).length 0=some 0:=rfl;have F:ix ([q,r]:List Int).length 1=some 1:=rfl;have g0:([q,r]:List Int)[0]?=some q:=rfl;have N:([q,r]:List Int)[1]?=some r:=rfl;rw [H,KO n g l dg x 0 m d k0 k1 k2 C];unfold pO;by_cases t:d=[]
 ·rw [ae t];by_cases p:m=[]
  ·have hs:sea m=0:=by rw [p];decide
   rw [ab (show ¬0<sea m by omega),ae p,ae p];unfold gD;rw [sP n E.cal,CE n E.cal];rfl
  ·rw [ab p];by_cases hs:0<sea m
   ·rw [ae hs,ae hs];rcases E.mon with h | ⟨j,s,e,B⟩ | ⟨h,_⟩
    ·exact absurd h p
    ·obtain ⟨f,c,G,a1,a2,P,K,L,J,M⟩:=MZ s;have D:q=((21+j:Nat):Int):=by rw [A p,ae hs,e,lU s]
     unfold gv;rw [v];simp only [ob,g0];rw [D,IK n u E.cal s G a1 a2 P K (λh=>B (L.1 h)),e,J,M];rfl
    ·omega
   ·rw [ab hs,ab hs,ab p,ae t];rcases E.mon with h | ⟨j,s,e,B⟩ | ⟨_,a1,a2,_⟩
    ·exact absurd h p
    ·rw [e,lU s] at hs;omega
    ·have D:q=(twoV m:Int):=by rw [A p,ab hs]
     unfold gI;rw [v];simp only [ob,g0];rw [D,uu n u E.cal a1 a2,EO n u E.cal a1 a2];rfl
 ·rw [ab t];rcases E.day with h | ⟨p,hs,b1,b2,Q,I⟩
  ·exact absurd h t
  ·rw [ab p,ab (show ¬0<sea m by omega),ab t];rcases E.mon with h | ⟨j,s,e,B⟩ | ⟨_,a1,a2,_⟩
   ·exact absurd h p
   ·rw [e,lU s] at hs;omega
   ·have z:q=(twoV m:Int):=by rw [A p,ab (by omega)]
    have y:=O t;unfold gJ;rw [v,F];simp only [ob,g0,N];rw [z,y,SZ n u E.cal a1 a2 b1 I];rfl
theorem Pn (E:Exact g l dg x m d) (b:m≠[]):Lib.atoi m=some (if 0<sea m then sea m else (twoV m:Int)):=by
 rcases E.mon with h | ⟨j,a,e,_⟩ | ⟨f,a1,a2,c⟩
 ·exact absurd h b
 ·rw [e,lU a,ae (by omega)];exact yE a
 ·rw [ab (by omega)];have:=HA (k:=twoV m) (by omega);rw [<-c] at this;exact this
theorem Qv (E:Exact g l dg x m d) (b:d≠[]):Lib.atoi d=some (twoV d:Int):=by
 rcases E.day with h | ⟨_,_,a1,a2,a,_⟩
 ·exact absurd h b
 ·have:=HA (k:=twoV d) (by omega);rw [<-a] at this;exact this
theorem Aj:Lib.atoi []=none:=by kernel_rfl
theorem Gg {q:Int} (b:m.length<=18) (e:dg.length<=100) (r:d.length<=18) (t:0<=k0) (p:0<=k1) (n:0<=k2):
  gF 20000000 g l dg x q m d k0 k1 k2=some (if chkF g l dg x q m d k0 k1 k2=0 then (if exD dg m d q=true then (0,(pO g dg x m d).1,0,(pO g dg x m d).2,0) else (0,0,0,0,1)) else (0,0,0,0,chkF g l dg x q m d k0 k1 k2)):=by
 have k:Nat.ble m.length 18=true:=di b;have s:Nat.ble d.length 18=true:=di r;unfold gF;rw [wb b e t p n];simp only [ob];by_cases hc:chkF g l dg x q m d k0 k1 k2=0
 ·rw [ae hc,hc,Gs 20000000 g l dg x q m d k0 k1 k2 (by omega) (by omega) (by omega)];simp only [ob,dA,af];by_cases c:exD dg m d q=true
  ·rw [ae c,c];obtain ⟨rfl,E⟩:=wn hc c;have o:eT 20000000 g l dg x 0=some (yOf g dg x,0):=by
    rw [BK 20000000 g l dg x 0 (by omega) e,ae ⟨E.ok,E.num⟩];rfl
   rw [o,k,s];simp only [cv,af,ah,ob];by_cases i:m=[]
   ·have a:d=[]:=by
     rcases E.day with h | ⟨h,_⟩
     ·exact h
     ·exact absurd i h
    have:=EG (k0:=k0) (k1:=k1) (k2:=k2) 20000000 (by omega) b E 0 0 (λh=>absurd i h) (λh=>absurd a h);have f:Lib.atoi m=none:=by rw [i];exact Aj
    have j:Lib.atoi d=none:=by rw [a];exact Aj
    rw [f,j];simp only [opt];exact this
   ·have f:=Pn E i;by_cases a:d=[]
    ·have:=EG (k0:=k0) (k1:=k1) (k2:=k2) 20000000 (by omega) b E (if 0<sea m then sea m else (twoV m:Int)) 0 (λ_=>rfl) (λh=>absurd a h);have j:Lib.atoi d=none:=by rw [a];exact Aj
     rw [f,j];simp only [opt];exact this
    ·have:=EG (k0:=k0) (k1:=k1) (k2:=k2) 20000000 (by omega) b E (if 0<sea m then sea m else (twoV m:Int)) (twoV d:Int) (λ_=>rfl) (λ_=>rfl);rw [f,Qv E a];simp only [opt];exact this
  ·rw [ab c];rw [GQ] at c;rw [c];rfl
 ·rw [ab hc,bne0 hc];rfl
theorem uR (E:Exact g l dg x m d) (J:dg.length<=100):bp 20000000 g l dg x 0 m d k0 k1 k2=some (pO g dg x m d):=by
 obtain ⟨k,q,rfl,hq,I⟩:=uy E.ok E.num;have Z:k<=17:=by have:=I.wide;omega
 have hs:=I.small;have F:ak 20000000 dg (k:Int)=some (((val dg k:Nat):Int),1):=by
  rw [jD 20000000 dg k I.dig J (by omega) (by omega),ae I.small];rfl
 have U:dval 0 dg*10 ^ k=val dg k:=rfl;rw [U] at hs;unfold E16 at hs;have hy:yOf g dg (k:Int)=if g then -((val dg k:Nat):Int) else ((val dg k:Nat):Int):=by unfold yOf;rw [cb]
 have C:=E.cal;unfold dZ at C;have key:∀y:Int,y=yOf g dg (k:Int)->
   (ob (aP 20000000 g l dg (k:Int) 0 m d k0 k1 k2) λn=>(cond (m==([]:aa)) (ob (cg 20000000 y) λz=>(ob (cg 20000000 (IntKind.wrap .i64 (y+1))) λs=>(some (z,(IntKind.wrap .i64 (s - 1)))))) (cond (decide (n>0)) (ob (gZ 20000000 n) λa=>(ob (aQ 20000000 y a.1) λt=>(ob (aQ 20000000 y (IntKind.wrap .i64 (a.1+a.2))) λu=>(some (t,(IntKind.wrap .i64 (u - 1))))))) (cond (d==([]:aa)) (ob (ba 20000000 m) λo=>(ob (aQ 20000000 y o) λv=>(ob (ba 20000000 m) λp=>(ob (aQ 20000000 y (IntKind.wrap .i64 (p+1))) λr=>(some (v,(IntKind.wrap .i64 (r - 1)))))))) (ob (ba 20000000 m) λA=>(ob (aQ 20000000 y A) λi=>(ob (ba 20000000 d) λb=>(some ((IntKind.wrap .i64 ((IntKind.wrap .i64 (i+b)) - 1)),(IntKind.wrap .i64 ((IntKind.wrap .i64 (i+b)) - 1)))))))))) )=some (pO g dg (k:Int) m d):=by
  intro y K;subst K;have hcal':=E.cal;have V:=kQ (y:=yOf g dg (k:Int)+1) (by omega);rw [oU 20000000 (by omega)];simp only [ob];unfold pO;by_cases B:m=[]
  ·have e:(m==([]:aa))=true:=by rw [B];rfl
   rw [ae B,e,sC 20000000 (by omega) (by omega),wrap_i64 (yOf g dg (k:Int)+1) (by omega) (by omega),sC 20000000 (by omega) (by omega)];simp only [ah,ob];rw [wrap_i64 _ (by omega) (by omega)]
  ·rw [ab B,gh B];simp only [af];by_cases hs:0<sea m
   ·rw [ae hs,am (show sea m>0 from hs)];rcases E.mon with h | ⟨j,H,e,_⟩ | ⟨h,_⟩
    ·exact absurd h B
    ·obtain ⟨f,c,O,a1,a2,N,X,Y,R,T⟩:=MZ H;have L:sea m=((21+j:Nat):Int):=by rw [e,lU H]
     have P:=oZ hcal' (m:=f+c) (by omega);rw [L,Db 20000000 H,O];simp only [ah,ob];rw [qI 20000000 (by omega) (by omega) a1 (by omega)];simp only [ob];rw [wrap_i64 ((f:Int)+(c:Int)) (by omega) (by omega),show (f:Int)+(c:Int)=((f+c:Nat):Int) by omega,qI 20000000 (by omega) (by omega) (by omega) (by omega)];simp only [ob];rw [wrap_i64 _ (by omega) (by omega),e,R,T]
    ·omega
   ·rw [ab hs,aq (show ¬sea m>0 from hs)];simp only [af];rcases E.mon with h | ⟨j,H,e,_⟩ | ⟨_,a1,a2,N⟩
    ·exact absurd h B
    ·rw [e,lU H] at hs;omega
    ·have M:=zJ 20000000 (k:=twoV m) (by omega);rw [<-N] at M;have P:=oZ hcal' (m:=twoV m) (by omega);have Q:=oZ hcal' (m:=twoV m+1) (by omega);by_cases G:d=[]
     ·have e:(d==([]:aa))=true:=by rw [G];rfl
      rw [ae G,e,M];simp only [ah,ob];rw [qI 20000000 (by omega) (by omega) a1 (by omega)];simp only [ob];rw [wrap_i64 ((twoV m:Int)+1) (by omega) (by omega),show (twoV m:Int)+1=((twoV m+1:Nat):Int) by omega,qI 20000000 (by omega) (by omega) (by omega) (by omega)];simp only [ob];rw [wrap_i64 _ (by omega) (by omega)]
     ·rw [ab G,gh G];rcases E.day with h | ⟨_,_,b1,b2,S,W⟩
      ·exact absurd h G
      ·have D:=zJ 20000000 (k:=twoV d) (by omega);rw [<-S] at D;rw [M];simp only [af,ob];rw [qI 20000000 (by omega) (by omega) a1 (by omega),D];simp only [ob];rw [wrap_i64 (dayM (yOf g dg (k:Int)) (twoV m)+(twoV d:Int)) (by omega) (by omega),wrap_i64 _ (by omega) (by omega)]
 unfold bp;rw [F];simp only [ob];cases g with
 | true=>
  have w:IntKind.wrap .i64 (0 - ((val dg k:Nat):Int))=yOf true dg (k:Int):=by
   rw [wrap_i64 _ (by omega) (by omega),hy];simp
  rw [w];simp only [ah];exact key _ rfl
 | false=>
  have w:((val dg k:Nat):Int)=yOf false dg (k:Int):=by rw [hy];rfl
  rw [w];simp only [af];exact key _ rfl
end
end Go.Sh
