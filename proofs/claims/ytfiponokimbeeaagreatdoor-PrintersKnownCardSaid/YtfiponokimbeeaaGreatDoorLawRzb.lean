
/- Plain proofs, kept as far as they are needed here (printed by prune.py).
   Conditions: none. -/
import Derived.Test.YtfiponokimbeeaaGreatDoorLawRza
set_option linter.unusedVariables false
set_option linter.unusedSimpArgs false
set_option maxRecDepth 100000
namespace Go.Sh
open Go.Abs
def cw (A B:Nat) (w:aa):aa:=mt A++w++mt B
def wj (g l:Bool) (dg:aa) (x q:Int) (m d:aa) (k0 k1 k2:Nat):aa:=
 cw (plA (dB m d) k0 k1 k2).1 (plB (dB m d) k0 k1 k2).1 (gk g l dg x q)
  ++ ((if m=[] then [] else 45::cw (plA (dB m d) k0 k1 k2).2.1 (plB (dB m d) k0 k1 k2).2.1 m)
  ++ (if d=[] then [] else 45::cw (plA (dB m d) k0 k1 k2).2.2 (plB (dB m d) k0 k1 k2).2.2 d))
structure OkD (g l:Bool) (dg:aa) (x q:Nat) (m d:aa) (k0 k1 k2:Nat):Prop where
 yr:okY g l dg (x:Int) (q:Int)
 x16:x<=16
 q17:q<=17
 dg17:dg.length<=17
 noM:0<q->m=[]
 mon:m=[]\/(m.length=2/\∀c∈m,isDX c=true)
 day:d=[]\/(m≠[]/\d.length=2/\∀c∈d,isDX c=true)
 m0:k0<4
 m1:k1<4
 m2:k2<4
 z1:dB m d<2->k1=0
 z2:dB m d<3->k2=0
theorem Gi {g l:Bool} {dg:aa} {x q:Int} {m d:aa} {k0 k1 k2:Int} (C:0<=k0) (A:0<=k1) (B:0<=k2) (h:chkD g l dg x q m d k0 k1 k2=0):
  ∃o p a b c:Nat,x=(o:Int)/\q=(p:Int)/\k0=(a:Int)/\k1=(b:Int)/\k2=(c:Int)/\OkD g l dg o p m d a b c:=by
 obtain ⟨hy,f,j,n⟩:=NK h;unfold yrD at hy;by_cases e:okY g l dg x q
 rotate_left
 ·rw [ab e] at hy;cases hy
 rw [ae e] at hy;obtain ⟨r,u,s,w,y,t⟩:=kb e;have hk':¬(3<k0\/3<k1\/3<k2\/(dB m d<2/\k1≠0)\/(dB m d<3/\k2≠0)):=by
  intro z;unfold allM at n;rw [ae z] at n;exact absurd n (by decide)
 refine ⟨x.toNat,q.toNat,k0.toNat,k1.toNat,k2.toNat,by omega,by omega,by omega,by omega,by omega,?_⟩;rw [<-G2 r,<-G2 s] at e;refine ⟨e,by omega,by omega,t,?_,?_,?_,by omega,by omega,by omega,by omega,by omega⟩
 ·intro v;unfold yrB at hy;have hq':decide (0<q)=true:=by simp;omega
  rw [hq'] at hy;by_cases i:m=[]
  ·exact i
  ·have:(m==[])=false:=aM.2 i;rw [this] at hy;simp at hy
 ·rcases f with f | f | f
  ·exact .inl f
  ·exact .inr (J7 f)
  ·exact .inr (ru (by omega) f)
 ·rcases j with j | ⟨j,_,k⟩
  ·exact .inl j
  ·have:=ru (show 31<=31 by omega) k;exact .inr ⟨j,this.1,this.2⟩
theorem O5 (n k i:Nat) (hi:i<k) (t:k<=3) (A B:List Nat) (a b:Nat) (s:A[i]?=some a) (p:B[i]?=some b) (f:a<4) (g:b<4) (ws:List (aa)) (C:ws.length=k) (w:aa) (w0 d e:aa) (l:[w0,d,e][i]?=some w) (r:w.length<=1000):
  aS n (k,(k:Int),(i:Int),A.map cI,B.map cI,ws,[w0,d,e])=some (.inl (k,(k:Int),((i+1:Nat):Int),A.map cI,B.map cI,ws.set i (cw a b w),[w0,d,e])):=by
 have w2':IntKind.wrap .i64 ((i:Int)+1)=((i+1:Nat):Int):=by rw [wrap_i64 _ (by omega) (by omega)];omega
 have o:(A.map cI)[i]?=some (a:Int):=by rw [mO,s];rfl
 have m:(B.map cI)[i]?=some (b:Int):=by rw [mO,p];rfl
 have c:∀z:Nat,z<4->(mt z).length<=1:=λz x=>by
  unfold mt;split
  ·simp
  ·split
   ·simp
   ·split<;>simp
 unfold aS;rw [bz,ae (show (i:Int)<(k:Int) by omega)];simp only [dl hi,dl (show i<3 by omega),ob,l,d4,o,m,(DI n a f).1,(DI n b g).1];have u:=c a f;have y:=c b g;have q:cat (mt a) w=some (mt a++w):=cb (by omega);have j:cat (mt a++w) (mt b)=some (mt a++w++mt b):=cb (by rw [aL];omega);rw [q];simp only [ob];rw [j];simp only [ob];have hi':i<ws.length:=by omega
 obtain ⟨v,h⟩:∃v,ws[i]?=some v:=⟨ws[i],be hi'⟩;rw [dl hi'];simp only [ob,h,w2'];rfl
theorem EK (n k:Nat) (A B:List Int) (ws V:List (aa)):aS n (k,(k:Int),(k:Int),A,B,ws,V)=some (.inr ws):=by
 unfold aS;rw [bz,ab (show ¬((k:Int)<(k:Int)) by omega)]
theorem nc (a b:Nat) (w:aa):(cw a b w).length<=w.length+2:=by
 have c:∀z:Nat,(mt z).length<=1:=λz=>by
  unfold mt;split
  ·simp
  ·split
   ·simp
   ·split<;>simp
 have:=c a;have:=c b;unfold cw;simp only [aL];omega
theorem V1:dB [] []=1:=rfl
theorem G4 {m:aa} (h:m≠[]):dB m []=2:=by unfold dB;rw [aM.2 h];rfl
theorem zg {m d:aa} (h:m≠[]) (a:d≠[]):dB m d=3:=by unfold dB;rw [aM.2 h,aM.2 a];rfl
theorem oI {d:aa} (h:d.length=2):d≠[]:=by rintro rfl;simp at h
theorem Tm (n:Nat) (g l:Bool) (dg:aa) (x q:Nat) (m d:aa) (k0 k1 k2:Nat) (hm:m.length<=18) (P:dg.length<=100):
  cK (n+300) g l dg (x:Int) (q:Int) m d (k0:Int) (k1:Int) (k2:Int)=some (if chkD g l dg (x:Int) (q:Int) m d (k0:Int) (k1:Int) (k2:Int)=0 then (wj g l dg (x:Int) (q:Int) m d k0 k1 k2,0) else ([],chkD g l dg (x:Int) (q:Int) m d (k0:Int) (k1:Int) (k2:Int))):=by
 unfold cK;rw [BK (n+300) (by omega) g l dg _ _ m d _ _ _ hm P (by omega) (by omega) (by omega)];show cond (chkD g l dg (x:Int) (q:Int) m d (k0:Int) (k1:Int) (k2:Int) != 0) _ _=_;rw [vY];by_cases C:chkD g l dg (x:Int) (q:Int) m d (k0:Int) (k1:Int) (k2:Int)=0
 rotate_left
 ·rw [ab C,ab C]
 rw [ae C,ae C];obtain ⟨S,T,a,b,c,e1,e2,e3,e4,e5,o⟩:=Gi (by omega) (by omega) (by omega) C;obtain rfl:x=S:=by omega
 obtain rfl:q=T:=by omega
 obtain rfl:k0=a:=by omega
 obtain rfl:k1=b:=by omega
 obtain rfl:k2=c:=by omega
 have hc:=uc m d;have H:=(Uo n (dB m d) k0 k1 k2 hc o.m0 o.m1 o.m2 o.z1 o.z2).1;obtain ⟨G,M,N,y,I,O⟩:=UH (k:=dB m d) o.m0 o.m1 o.m2;rw [tK (n+300) (by omega)];simp only [ob];rw [H,AS (n+300) g l dg _ _ (by omega) P,ae o.yr];simp only [ob,dJ,af,KW o.yr,ah];have E:(decide ((0:Int)<=((dB m d:Nat):Int))&&(decide (((dB m d:Nat):Int)<=((dB m d:Nat):Int))&&decide (((dB m d:Nat):Int)<=(67108864:Int))))=true:=by
  rw [am (by omega),am (by omega),am (by omega)];rfl
 rw [E,dY (show dB m d<=3 by omega)];simp only [ob,ah,cf];have K:=uf o.yr;have Z:Nat.ble 1 140737488355328=true:=rfl;have V:Nat.ble 2 140737488355328=true:=rfl;have W:Nat.ble 3 140737488355328=true:=rfl;unfold wj;generalize gk g l dg (x:Int) (q:Int)=Y at K;generalize B:plA (dB m d) k0 k1 k2=X at *;generalize D:plB (dB m d) k0 k1 k2=PB at *;obtain ⟨j,p,s⟩:=X;obtain ⟨f,r,t⟩:=PB;simp only at G M N y I O;have st:=λ(k i:Nat) (hi:i<k) (hk:k<=3) (a b:Nat) (ha:[j,p,s][i]?=some a) (hb:[f,r,t][i]?=some b) (a4:a<4) (b4:b<4) (ws:List (aa)) (hl:ws.length=k) (w:aa) (w0 w1 w2:aa) (F:[w0,w1,w2][i]?=some w) (hwl:w.length<=1000)=>O5 (n+300) k i hi hk [j,p,s] [f,r,t] a b ha hb a4 b4 ws hl w w0 w1 w2 F hwl;have A:∀L:aa,L.length<=1000->Nat.ble L.length 140737488355328=true:=λL h=>cZ (by omega);by_cases u:m=[]
 ·have v:d=[]:=o.day.resolve_right (λz=>z.1 u);subst u v;show ob (ar (aS (n+300)) (n+299+1) (1,((1:Nat):Int),((0:Nat):Int),[j,p,s].map cI,[f,r,t].map cI,[[]],[Y,[],[]])) _=_;rw [ar,st 1 0 (by omega) (by omega) j f rfl rfl G y [[]] rfl Y Y [] [] rfl (by omega)];show ob (ar (aS (n+300)) (n+298+1) (1,((1:Nat):Int),((1:Nat):Int),[j,p,s].map cI,[f,r,t].map cI,[cw j f Y],[Y,[],[]])) _=_;rw [ar,EK];simp only [ob];have e:Lib.join [cw j f Y] [45]=cw j f Y:=Lib.join_one _ _;have F:=nc j f Y;rw [e,A _ (by omega)];simp [Z]
 ·have U:m.length=2:=(o.mon.resolve_left u).1;by_cases v:d=[]
  ·subst v;rw [G4 u] at B D ⊢;show ob (ar (aS (n+300)) (n+299+1) (2,((2:Nat):Int),((0:Nat):Int),[j,p,s].map cI,[f,r,t].map cI,[[],[]],[Y,m,[]])) _=_;rw [ar,st 2 0 (by omega) (by omega) j f rfl rfl G y [[],[]] rfl Y Y m [] rfl (by omega)];show ob (ar (aS (n+300)) (n+298+1) (2,((2:Nat):Int),((1:Nat):Int),[j,p,s].map cI,[f,r,t].map cI,[cw j f Y,[]],[Y,m,[]])) _=_;rw [ar,st 2 1 (by omega) (by omega) p r rfl rfl M I [cw j f Y,[]] rfl m Y m [] rfl (by omega)];show ob (ar (aS (n+300)) (n+297+1) (2,((2:Nat):Int),((2:Nat):Int),[j,p,s].map cI,[f,r,t].map cI,[cw j f Y,cw p r m],[Y,m,[]])) _=_;rw [ar,EK];simp only [ob];have e:Lib.join [cw j f Y,cw p r m] [45]=cw j f Y++(45::cw p r m):=by rw [Lib.join_cons];simp [Lib.joinTail]
   have F:=nc j f Y;have J:=nc p r m;rw [e,A _ (by simp only [aL,aC];omega)];rw [ab u];simp [V]
  ·have R:d.length=2:=(o.day.resolve_left v).2.1;rw [zg u v] at B D ⊢;show ob (ar (aS (n+300)) (n+299+1) (3,((3:Nat):Int),((0:Nat):Int),[j,p,s].map cI,[f,r,t].map cI,[[],[],[]],[Y,m,d])) _=_;rw [ar,st 3 0 (by omega) (by omega) j f rfl rfl G y [[],[],[]] rfl Y Y m d rfl (by omega)];show ob (ar (aS (n+300)) (n+298+1) (3,((3:Nat):Int),((1:Nat):Int),[j,p,s].map cI,[f,r,t].map cI,[cw j f Y,[],[]],[Y,m,d])) _=_;rw [ar,st 3 1 (by omega) (by omega) p r rfl rfl M I [cw j f Y,[],[]] rfl m Y m d rfl (by omega)];show ob (ar (aS (n+300)) (n+297+1) (3,((3:Nat):Int),((2:Nat):Int),[j,p,s].map cI,[f,r,t].map cI,[cw j f Y,cw p r m,[]],[Y,m,d])) _=_;rw [ar,st 3 2 (by omega) (by omega) s t rfl rfl N O [cw j f Y,cw p r m,[]] rfl d Y m d rfl (by omega)];show ob (ar (aS (n+300)) (n+296+1) (3,((3:Nat):Int),((3:Nat):Int),[j,p,s].map cI,[f,r,t].map cI,[cw j f Y,cw p r m,cw s t d],[Y,m,d])) _=_;rw [ar,EK];simp only [ob];have e:Lib.join [cw j f Y,cw p r m,cw s t d] [45]=cw j f Y++(45::cw p r m++(45::cw s t d)):=by rw [Lib.join_cons];simp [Lib.joinTail]
   have F:=nc j f Y;have J:=nc p r m;have Q:=nc s t d;rw [e,A _ (by simp only [aL,aC];omega)];rw [ab u,ab v];simp [W]
theorem IC (n:Nat) {g l:Bool} {dg:aa} {x q:Nat} {m d:aa} {k0 k1 k2:Nat} (e:OkD g l dg x q m d k0 k1 k2):
  cE (n+300) g l dg (x:Int) (q:Int) m d (k0:Int) (k1:Int) (k2:Int)=some (wj g l dg (x:Int) (q:Int) m d k0 k1 k2):=by
 have hc:=uc m d;have t:=(Uo n (dB m d) k0 k1 k2 hc e.m0 e.m1 e.m2 e.z1 e.z2).2;obtain ⟨E,F,B,p,D,C⟩:=UH (k:=dB m d) e.m0 e.m1 e.m2;have A:=uf e.yr;have hx:=e.x16;have V:=e.q17;have N:=e.dg17;unfold cE;rw [ox (n+300)];simp only [ob];rw [t,PK (n+300) g l dg x q (by omega) (by omega) (by omega)];unfold wj;generalize gk g l dg (x:Int) (q:Int)=Y at A ⊢;generalize Q:plA (dB m d) k0 k1 k2=P at *;generalize T:plB (dB m d) k0 k1 k2=PB at *;obtain ⟨v,r,w⟩:=P;obtain ⟨u,s,y⟩:=PB;simp only at E F B p D C;have j:∀z:Nat,(mt z).length<=1:=λz=>by
  unfold mt;split
  ·simp
  ·split
   ·simp
   ·split<;>simp
 have L:=j v;have U:=j r;have K:=j w;have H:=j u;have S:=j s;have G:=j y;have J:m.length<=2:=by
  rcases e.mon with h | h
  ·rw [h];simp
  ·omega
 have I:d.length<=2:=by
  rcases e.day with h | h
  ·rw [h];simp
  ·omega
 have M:∀a b c:Nat,(l3 (a,b,c))[0]?=some (a:Int):=λ_ _ _=>rfl;have O:∀a b c:Nat,(l3 (a,b,c))[1]?=some (b:Int):=λ_ _ _=>rfl;have R:∀a b c:Nat,(l3 (a,b,c))[2]?=some (c:Int):=λ_ _ _=>rfl;have f:∀a b:aa,a.length+b.length<=1000000->cat a b=some (a++b):=λa b h=>cb h;simp only [ob,M,O,R,(DI (n+300) v E).2,(DI (n+300) r F).2,(DI (n+300) w B).2,(DI (n+300) u p).2,(DI (n+300) s D).2,(DI (n+300) y C).2];rw [f (mt v) Y (by omega)];simp only [ob];rw [f _ (mt u) (by simp only [aL];omega)];simp only [ob];have k1':decide (((dB m d:Nat):Int)>1)=decide (1<dB m d):=by rw [nU];omega
 have k2':decide (((dB m d:Nat):Int)>2)=decide (2<dB m d):=by rw [nU];omega
 rw [k1',k2'];by_cases i:m=[]
 ·have o:d=[]:=e.day.resolve_right (λz=>z.1 i);subst i o;rw [V1];simp [cw]
 ·by_cases o:d=[]
  ·subst o;rw [G4 i,ab i];simp only [show decide (1<2)=true from rfl,show decide (2<2)=false from rfl,ah,af];rw [f [45] (mt r) (by simp;omega)];simp only [ob];rw [f _ m (by simp only [aL,aC,ba];omega)];simp only [ob];rw [f _ (mt s) (by simp only [aL,aC,ba];omega)];simp only [ob];rw [f _ _ (by simp only [aL,aC,ba];omega)];simp [cw]
  ·rw [zg i o,ab i,ab o];simp only [show decide (1<3)=true from rfl,show decide (2<3)=true from rfl,ah,af];rw [f [45] (mt r) (by simp;omega)];simp only [ob];rw [f _ m (by simp only [aL,aC,ba];omega)];simp only [ob];rw [f _ (mt s) (by simp only [aL,aC,ba];omega)];simp only [ob];rw [f _ _ (by simp only [aL,aC,ba];omega)];simp only [ob];rw [f [45] (mt w) (by simp;omega)];simp only [ob];rw [f _ d (by simp only [aL,aC,ba];omega)];simp only [ob];rw [f _ (mt y) (by simp only [aL,aC,ba];omega)];simp only [ob];rw [f _ _ (by simp only [aL,aC,ba];omega)];simp [cw]
def isMk (c:UInt8):Bool:=decide (0<mkOf c)
theorem rI {S u v:aa} {a:Nat} (h:S.drop a=u++v):S.drop (a+u.length)=v:=by
 rw [<-iR,h,Da];rfl
theorem Ls {A:Nat} (d:A<4) {r:aa} (b:dG isMk r):mkS (mt A++r)=A/\mkN (mt A++r)=(mt A).length:=by
 have a:mkS r=0:=by
  cases r with
  | nil=>rfl
  | cons c r=>
   have:=b c rfl;unfold isMk at this;have:=of_decide_eq_false this;show mkOf c=0;omega
 have h:A=0\/A=1\/A=2\/A=3:=by omega
 rcases h with rfl | rfl | rfl | rfl
 ·refine ⟨a,?_⟩;show mkN r=0;unfold mkN;rw [ae a]
 ·exact ⟨rfl,rfl⟩
 ·exact ⟨rfl,rfl⟩
 ·exact ⟨rfl,rfl⟩
theorem ej {p:UInt8->Bool} {c:UInt8} {r:aa} (h:p c=false):dG p (c::r):=λa hc=>by
 simp only [qZ,au] at hc;rw [<-hc];exact h
theorem Jy {p:UInt8->Bool} (B:Nat) {r:aa} (b:p 63=false) (c:p 126=false) (a:p 37=false) (d:dG p r):dG p (mt B++r):=by
 unfold mt;split
 ·exact ej b
 ·split
  ·exact ej c
  ·split
   ·exact ej a
   ·exact d
theorem IR {c:UInt8} (h:isDX c=true):isMk c=false:=by
 have:=iS (λc=>!(isDX c)||!(isMk c)) (by decide +kernel) c;rw [h] at this;simpa using this
theorem vG {p q:UInt8->Bool} {w r:aa} (b:w≠[]) (h:∀c∈w,p c=true) (a:∀c,p c=true->q c=false):dG q (w++r):=by
 cases w with
 | nil=>exact absurd rfl b
 | cons c w=>exact ej (a c (h c pC))
theorem JY {g l:Bool} {d:aa} {x s:Int} (h:okY g l d x s):∀c∈d,isDX c=true:=by
 intro c hc;unfold okY at h;have:bv c=true\/c=88:=by
  split at h
  ·exact .inl (h.1.1 c hc)
  ·exact h.2.1 c hc
 unfold isDX;rcases this with a | a
 ·rw [a];rfl
 ·rw [a];decide
theorem I9 {g l:Bool} {d:aa} {x s:Nat} (h:okY g l d (x:Int) (s:Int)) (r:aa):dG isMk (gk g l d (x:Int) (s:Int)++r):=by
 have a:d≠[]:=by
  have:=(kb h).2.2.2.2.1;rintro rfl;simp at this
 rw [kw];cases l with
 | true=>exact ej (by decide)
 | false=>
  cases g with
  | true=>exact ej (by decide)
  | false=>
   simp only [br,aA,eK,iQ];exact vG a (JY h) (λc=>IR)
theorem th {S:aa} {p A B:Nat} {w R:aa} (h:S.drop p=cw A B w++R) (e:A<4) (m:B<4) (k:dG isMk (w++(mt B++R))) (f:dG isMk R):
  mkS (S.drop p)=A/\S.drop (mkE S p)=w++(mt B++R)/\mkS (S.drop (mkE S p+w.length))=B/\S.drop (mkE S (mkE S p+w.length))=R/\mkE S (mkE S p+w.length)=p+(cw A B w).length:=by
 have h':S.drop p=mt A++(w++(mt B++R)):=by rw [h];unfold cw;simp
 obtain ⟨l,i⟩:=Ls e k;obtain ⟨j,g⟩:=Ls m f;have d:mkE S p=p+(mt A).length:=by unfold mkE;rw [h',i]
 have c:S.drop (mkE S p)=w++(mt B++R):=by rw [d];exact rI h'
 have b:S.drop (mkE S p+w.length)=mt B++R:=rI c;have a:mkE S (mkE S p+w.length)=mkE S p+w.length+(mt B).length:=by
  show mkE S p+w.length+mkN (S.drop (mkE S p+w.length))=_;rw [b,g]
 refine ⟨by rw [h',l],c,by rw [b,j],by rw [a];exact rI b,?_⟩;rw [a,d];unfold cw;simp only [aL];omega
theorem BJ {m r:aa} (e:m.length=2) (h:∀c∈m,isDX c=true):twoN (m++r)=2/\(m++r).take 2=m:=by
 match m,e with
 | [a,b],_=>
  have d:=h a (by simp);have f:=h b (by simp);refine ⟨?_,rfl⟩;unfold twoN;show bD isDX 2 (a::b::r)=2;simp [bD,d,f]
def rawD (A B:Nat×Nat×Nat) (g l:Bool) (dg:aa) (x q:Int) (m d:aa):aa:=
 cw A.1 B.1 (gk g l dg x q)++((if m=[] then [] else 45::cw A.2.1 B.2.1 m)++(if d=[] then [] else 45::cw A.2.2 B.2.2 d))
structure MkD (A B:Nat×Nat×Nat) (m d:aa):Prop where
 a0:A.1<4
 a1:A.2.1<4
 a2:A.2.2<4
 b0:B.1<4
 b1:B.2.1<4
 b2:B.2.2<4
 zm:m=[]->A.2.1=0/\B.2.1=0
 zd:d=[]->A.2.2=0/\B.2.2=0
structure ShD (g l:Bool) (dg:aa) (x q:Nat) (m d:aa):Prop where
 yr:okY g l dg (x:Int) (q:Int)
 noM:0<q->m=[]
 mon:m=[]\/(m.length=2/\∀c∈m,isDX c=true)
 day:d=[]\/(m≠[]/\d.length=2/\∀c∈d,isDX c=true)
theorem OkD.sh {g l:Bool} {dg:aa} {x q:Nat} {m d:aa} {k0 k1 k2:Nat} (h:OkD g l dg x q m d k0 k1 k2):ShD g l dg x q m d:=⟨h.yr,h.noM,h.mon,h.day⟩
theorem HB {A B:Nat×Nat×Nat} {g l:Bool} {dg:aa} {x q:Nat} {m d:aa} (f:ShD g l dg x q m d) (p:MkD A B m d) {S:aa} {a:Nat} {post:aa} (h:S.drop a=rawD A B g l dg (x:Int) (q:Int) m d++post)
  (hp1:dG isYC post) (C:dG isMk post) (Z:dG (λc=>c==45) post):
  ∃P:Nat×Nat×Nat,P.1=a+(mt A.1).length/\qp S a=.inr (g,l,dg,x,q,m,d,spM A B,P,a+(rawD A B g l dg (x:Int) (q:Int) m d).length):=by
 obtain ⟨l0,l1,l2,O,l4,l5,X,y⟩:=p;obtain ⟨k,t,K⟩:=A;obtain ⟨j,n,E⟩:=B;simp only at l0 l1 l2 O l4 l5 X y h;unfold rawD at h ⊢;simp only at h ⊢;have w:isMk 45=false:=by decide
 have V:isYC 45=false:=by decide
 have N:∀r:aa,dG (λc=>c==45) r->ft 45 r=0:=λr hr=>by
  cases r with
  | nil=>rfl
  | cons c r=>
   have:=hr c rfl;exact oY (λe=>by rw [e] at this;exact absurd this (by decide)) r
 have hyx:=Jt f.yr;have hyh:=I9 f.yr;generalize hY:gk g l dg (x:Int) (q:Int)=Y at *;have v:∀R:aa,S.drop a=cw k j Y++R->dG isYC R->dG isMk R->
   mkE S a=a+(mt k).length/\mkS (S.drop a)=k/\pS (S.drop (mkE S a))=.inr (g,l,dg,x,q,Y.length)/\mkS (S.drop (mkE S a+Y.length))=j/\S.drop (mkE S (mkE S a+Y.length))=R/\mkE S (mkE S a+Y.length)=a+(cw k j Y).length:=by
  intro R hR h1 Q;obtain ⟨F,H,G,s,D⟩:=th hR l0 O (hyh _) Q;refine ⟨?_,F,?_,G,s,D⟩
  ·have hR':S.drop a=mt k++(Y++(mt j++R)):=by rw [hR];unfold cw;simp
   unfold mkE;rw [hR',(Ls l0 (hyh _)).2]
  rw [H];exact hyx _ (Jy j (by decide) (by decide) (by decide) h1)
 unfold qp;by_cases i:m=[]
 ·have b:d=[]:=f.day.resolve_right (λz=>z.1 i);subst i b;simp only [aJ,nP] at h ⊢;obtain ⟨w0,F,H,G,s,D⟩:=v post h hp1 C;rw [H];simp only [];rw [s,ae (.inr (N post Z)),F,G,D];obtain ⟨rfl,rfl⟩:=X rfl;obtain ⟨rfl,rfl⟩:=y rfl;exact ⟨_,w0,rfl⟩
 ·have T:¬0<q:=λz=>i (f.noM z);obtain ⟨o,I⟩:=f.mon.resolve_left i;rw [ab i] at h ⊢;have p:∀r,dG isMk (m++r):=λr=>vG i I (λc=>IR);by_cases b:d=[]
  ·subst b;rw [ae rfl,nP] at h ⊢;have h':S.drop a=cw k j Y++(45::(cw t n m++post)):=by rw [h];simp
   obtain ⟨w0,F,H,G,s,D⟩:=v _ h' (ej V) (ej w);rw [H];simp only [];rw [s,nV,ab (λz=>z.elim T (by omega)),F,G];unfold rd2;have Q:S.drop (mkE S (mkE S a+Y.length)+1)=cw t n m++post:=rI (u:=[45]) s;obtain ⟨v1,v2,M,J,W⟩:=th Q l1 l4 (p _) C;obtain ⟨U,u2⟩:=BJ (r:=mt n++post) o I;rw [<-v2] at U u2;rw [o] at M J W;rw [U,ab (by omega),J,N post Z,ae rfl,u2,v1,M,W,D];obtain ⟨rfl,rfl⟩:=y rfl;have:a+(cw k j Y).length+1+(cw t n m).length=a+(cw k j Y++45::cw t n m).length:=by simp only [aL,aC];omega
   rw [this];exact ⟨_,w0,rfl⟩
  ·obtain ⟨_,L,hdx⟩:=f.day.resolve_left b;rw [ab b] at h ⊢;have hdk:∀r,dG isMk (d++r):=λr=>vG b hdx (λc=>IR);have h':S.drop a=cw k j Y++(45::(cw t n m++(45::(cw K E d++post)))):=by rw [h];simp
   obtain ⟨w0,F,H,G,s,D⟩:=v _ h' (ej V) (ej w);rw [H];simp only [];rw [s,nV,ab (λz=>z.elim T (by omega)),F,G];unfold rd2;have Q:S.drop (mkE S (mkE S a+Y.length)+1)=cw t n m++(45::(cw K E d++post)):=rI (u:=[45]) s;obtain ⟨v1,v2,M,J,W⟩:=th Q l1 l4 (p _) (ej w);obtain ⟨U,u2⟩:=BJ (r:=mt n++(45::(cw K E d++post))) o I;rw [<-v2] at U u2;rw [o] at M J W;rw [U,ab (by omega),J,nV,ab (by omega),u2,v1,M];unfold rd3;have h3:S.drop (mkE S (mkE S (mkE S (mkE S a+Y.length)+1)+2)+1)=cw K E d++post:=rI (u:=[45]) J;obtain ⟨x1,x2,x3,x4,x5⟩:=th h3 l2 l5 (hdk _) C;obtain ⟨s1,s2⟩:=BJ (r:=mt E++post) L hdx;rw [<-x2] at s1 s2;rw [L] at x3 x4 x5;rw [s1,ab (by omega),s2,x1,x3,x5,W,D];have:a+(cw k j Y).length+1+(cw t n m).length+1+(cw K E d).length=a+(cw k j Y++(45::cw t n m++45::cw K E d)).length:=by simp only [aL,aC];omega
   rw [this];exact ⟨_,w0,rfl⟩
theorem MU {g l:Bool} {dg:aa} {x q:Nat} {m d:aa} {k0 k1 k2:Nat} (a:OkD g l dg x q m d k0 k1 k2):(wj g l dg (x:Int) (q:Int) m d k0 k1 k2).length<=37:=by
 have hy:=uf a.yr;have f:=nc (plA (dB m d) k0 k1 k2).1 (plB (dB m d) k0 k1 k2).1 (gk g l dg (x:Int) (q:Int));have e:=nc (plA (dB m d) k0 k1 k2).2.1 (plB (dB m d) k0 k1 k2).2.1 m;have i:=nc (plA (dB m d) k0 k1 k2).2.2 (plB (dB m d) k0 k1 k2).2.2 d;have c:m.length<=2:=by
  rcases a.mon with h | h
  ·rw [h];simp
  ·omega
 have b:d.length<=2:=by
  rcases a.day with h | h
  ·rw [h];simp
  ·omega
 unfold wj;simp only [aL];have a1:(if m=[] then [] else 45::cw (plA (dB m d) k0 k1 k2).2.1 (plB (dB m d) k0 k1 k2).2.1 m).length<=5:=by
  split
  ·simp
  ·simp only [aC];omega
 have a2:(if d=[] then [] else 45::cw (plA (dB m d) k0 k1 k2).2.2 (plB (dB m d) k0 k1 k2).2.2 d).length<=5:=by
  split
  ·simp
  ·simp only [aC];omega
 omega
theorem Sl {A B:Nat×Nat×Nat} (e:A.1<4) (d:A.2.1<4) (f:A.2.2<4) (g0:B.1<4) (c:B.2.1<4) (b:B.2.2<4):(spM A B).1<4/\(spM A B).2.1<4/\(spM A B).2.2<4:=by
 have a:∀x y:Nat,x<4->y<4->x ||| y<4:=λx y hx hy=>(or4 hx hy).2;exact ⟨a _ _ (a _ _ (a _ _ e g0) c) b,a _ _ (a _ _ d c) b,a _ _ f b⟩
structure RdOK (S:aa) (a:Nat) (dg m d:aa) (M:Nat×Nat×Nat) (e:Nat):Prop where
 dg17:dg.length<=17
 m2:m.length<=2
 d2:d.length<=2
 all:inM (dB m d) M
 le:a<=e
 end_:e<=S.length
theorem By {S:aa} {a:Nat} (h:a<=S.length) {g l:Bool} {dg:aa} {x s:Nat} {m d:aa} {M P:Nat×Nat×Nat} {e:Nat} (b:qp S a=.inr (g,l,dg,x,s,m,d,M,P,e)):RdOK S a dg m d M e:=by
 have c:∀p,mkS (S.drop p)<4:=λp=>DZ _;have o:0<4:=by omega
 have b0:=kX h;have g0:a<=mkE S a:=AD _ _;have n:∀p,p<=mkE S p:=λp=>AD _ _;unfold qp at b;cases hy:pS (S.drop (mkE S a)) with
 | inl k=>rw [hy] at b;cases b
 | inr y=>
  obtain ⟨O,H,E,G,s',k⟩:=y;obtain ⟨_,bk,_,_,j⟩:=qT hy;have bk:mkE S a+k<=S.length:=by
   rw [bR] at bk;omega
  have b1:=kX bk;rw [hy] at b;simp only [] at b;by_cases hc:0<s'\/ft 45 (S.drop (mkE S (mkE S a+k)))=0
  ·rw [ae hc] at b;cases b;have:=Sl (A:=(mkS (S.drop a),0,0)) (B:=(mkS (S.drop (mkE S a+k)),0,0)) (c _) o o (c _) o o;refine ⟨j,by simp,by simp,⟨this.1,this.2.1,this.2.2,λ_=>by simp [spM],λ_=>by simp [spM]⟩,?_,b1⟩;have:=n (mkE S a+k);omega
  ·rw [ab hc] at b;have v:=rP (λz=>hc (.inr z));have I:=kX v;unfold rd2 at b;by_cases r:twoN (S.drop (mkE S (mkE S (mkE S a+k)+1)))<2
   ·rw [ae r] at b;cases b
   ·rw [ab r] at b;have b2:=vd r;have F:=kX b2;have i:(List.take 2 (S.drop (mkE S (mkE S (mkE S a+k)+1)))).length=2:=by rw [da,bR];omega
    have J:=n (mkE S a+k);have Q:=n (mkE S (mkE S a+k)+1);have K:=n (mkE S (mkE S (mkE S a+k)+1)+2);by_cases f:ft 45 (S.drop (mkE S (mkE S (mkE S (mkE S a+k)+1)+2)))=0
    ·rw [ae f] at b;cases b;have:=Sl (A:=(mkS (S.drop a),mkS (S.drop (mkE S (mkE S a+k)+1)),0)) (B:=(mkS (S.drop (mkE S a+k)),mkS (S.drop (mkE S (mkE S (mkE S a+k)+1)+2)),0)) (c _) (c _) o (c _) (c _) o;refine ⟨j,by omega,by simp,⟨this.1,this.2.1,this.2.2,λz=>?_,λ_=>by simp [spM]⟩,by omega,F⟩;rw [G4 (oI i)] at z;omega
    ·rw [ab f] at b;have t:=rP f;have C:=kX t;unfold rd3 at b;by_cases u:twoN (S.drop (mkE S (mkE S (mkE S (mkE S (mkE S a+k)+1)+2)+1)))<2
     ·rw [ae u] at b;cases b
     ·rw [ab u] at b;have w:=vd u;have D:=kX w;have q:(List.take 2 (S.drop (mkE S (mkE S (mkE S (mkE S (mkE S a+k)+1)+2)+1)))).length=2:=by rw [da,bR];omega
      cases b;have L:=n (mkE S (mkE S (mkE S (mkE S a+k)+1)+2)+1);have N:=n (mkE S (mkE S (mkE S (mkE S (mkE S a+k)+1)+2)+1)+2);have:=Sl (A:=(mkS (S.drop a),mkS (S.drop (mkE S (mkE S a+k)+1)),mkS (S.drop (mkE S (mkE S (mkE S (mkE S a+k)+1)+2)+1)))) (B:=(mkS (S.drop (mkE S a+k)),mkS (S.drop (mkE S (mkE S (mkE S a+k)+1)+2)),mkS (S.drop (mkE S (mkE S (mkE S (mkE S (mkE S a+k)+1)+2)+1)+2)))) (c _) (c _) (c _) (c _) (c _) (c _);refine ⟨j,by omega,by omega,⟨this.1,this.2.1,this.2.2,λz=>?_,λz=>?_⟩,by omega,D⟩
      ·rw [zg (oI i) (oI q)] at z;omega
      ·rw [zg (oI i) (oI q)] at z;omega
theorem NG {g l:Bool} {dg:aa} {x q:Int} {m d:aa} {k0 k1 k2:Int} (a:allM k0 k1 k2 (dB m d)=0):chkD g l dg x q m d k0 k1 k2=0\/chkD g l dg x q m d k0 k1 k2=6\/chkD g l dg x q m d k0 k1 k2=7\/chkD g l dg x q m d k0 k1 k2=8:=by
 unfold chkD;rw [a];generalize yrD g l dg x q m=b1;generalize (!(m==[])&&(!(decide (0<sea m))&&!(gI m 12)))=b2;generalize (!(d==[])&&((m==[])||(decide (0<sea m)||!(gI d 31))))=b;cases b1<;>cases b2<;>cases b<;>simp
theorem uq {p:UInt8->Bool}:dG p []:=λc hc=>by cases hc
theorem r40 {p:Nat->Bool} (h:(List.range 40).all p=true) {a:Nat} (b:a<40):p a=true:=(cL.1 h) a (kR.2 b)
theorem Jj (n:Nat) (g l:Bool) (dg:aa) (x q:Int) (m d:aa) (k0 k1 k2:Int) (a:m.length<=18):bh n g l dg x q m d k0 k1 k2=some (if d=[] then (if 0<sea m then 0 else if m=[] then 1 else 2) else 3):=by
 unfold bh;rw [qz n g l dg x q m d k0 k1 k2 a];by_cases b:d=[]
 ·rw [ae b,b];show cond (decide (0<sea m)) _ _=_;rw [bz];by_cases hs:0<sea m
  ·rw [ae hs,ae hs]
  ·rw [ab hs,ab hs];by_cases a:m=[]
   ·rw [ae a,a];rfl
   ·rw [ab a,aM.2 a];rfl
 ·rw [ab b,aM.2 b];rfl
theorem GZ (n:Nat) (g l:Bool) (dg:aa) (x q:Int) (m d:aa) (k0 k1 k2:Int) (i:m.length<=18) (h:dg.length<=100) (f:0<=k0) (e:0<=k1) (j:0<=k2):
  cK (n+300) g l dg x q m d k0 k1 k2=some (if chkD g l dg x q m d k0 k1 k2=0 then (wj g l dg x q m d k0.toNat k1.toNat k2.toNat,0) else ([],chkD g l dg x q m d k0 k1 k2)):=by
 by_cases hc:chkD g l dg x q m d k0 k1 k2=0
 ·obtain ⟨r,t,a,b,c,v,o,p,k,u,s⟩:=Gi f e j hc;subst v o p k u;exact Tm n g l dg r t m d a b c i h
 ·rw [ab hc];unfold cK;rw [BK (n+300) (by omega) g l dg _ _ m d _ _ _ i h f e j];show cond (chkD g l dg x q m d k0 k1 k2 != 0) _ _=_;rw [vY,ab hc]
theorem CN (n:Nat) {g l:Bool} {dg:aa} {x q:Int} {m d:aa} {k0 k1 k2:Int} (i:0<=k0) (f:0<=k1) (r:0<=k2) (hc:chkD g l dg x q m d k0 k1 k2=0):
  cE (n+300) g l dg x q m d k0 k1 k2=some (wj g l dg x q m d k0.toNat k1.toNat k2.toNat):=by
 obtain ⟨s,t,a,b,c,p,j,k,h,o,e⟩:=Gi i f r hc;subst p j k h o;exact IC n e
theorem vL (a b:aa):hasX (a++b)=(hasX a||hasX b):=by unfold hasX;rw [sy]
theorem Ea (n:Nat) (g l:Bool) (dg:aa) (x q:Int) (m d:aa) (k0 k1 k2:Int) (b:m.length<=1000) (a:dg.length<=1000) (h:d.length<=1000):
  eV n g l dg x q m d k0 k1 k2=some (hasX dg||(hasX m||hasX d)):=by
 unfold eV;rw [cb (by omega)];simp only [ob];rw [cb (by simp only [aL];omega)];simp only [ob];rw [C3,vL,vL,Bool.or_assoc]
def AM (d:aa) (k q:Nat):Nat×Nat:=if 0<q then (val d k / 10 ^ (d.length+k - q)*10 ^ (d.length+k - q),min (val d k / 10 ^ (d.length+k - q)*10 ^ (d.length+k - q)+10 ^ (d.length+k - q) - 1) E16) else (val d k,val d k)
def sgn (g:Bool) (p:Nat×Nat):Int×Int:=if g then (-(p.2:Int),-(p.1:Int)) else ((p.1:Int),(p.2:Int))
theorem DG (n:Nat) (g l:Bool) (d:aa) (k q:Nat) (E:200<n) (s:d.length<=100) (b:Num d k q):
  aN n g l d (k:Int) (q:Int)=some (sgn g (AM d k q)):=by
 have D:=b.wide;have hs:=b.small;have B:=b.sig;unfold aN;rw [oH n g l d k q (by omega) (by omega),Ic b.dig,jy n d k b.dig s (by omega) (by omega),ae hs];have o:dval 0 d*10 ^ k=val d k:=rfl;rw [o] at hs ⊢;unfold E16 at hs;have h:((if false=true then (1:Int) else 0)==1)=false:=rfl;simp only [ob,h,af];by_cases j:0<q
 ·have f:decide ((q:Int)>0)=true:=am (by omega);have w0:IntKind.wrap .i64 (IntKind.wrap .i64 (((d.length:Nat):Int)+(k:Int)) - (q:Int))=((d.length+k - q:Nat):Int):=by
   rw [wrap_i64 (((d.length:Nat):Int)+(k:Int)) (by omega) (by omega),wrap_i64 _ (by omega) (by omega)];omega
  have p:10 ^ (d.length+k - q)<=10 ^ 16:=oq (by decide) (by omega);have r:(10:Nat) ^ 16=10000000000000000:=by decide
  have one:dval 0 [49]=1:=by decide
  have a:dval 0 [49]*10 ^ (d.length+k - q)<=E16:=by rw [one];unfold E16;omega
  rw [f,w0,jy n [49] (d.length+k - q) (by decide) (by decide) (by omega) (by simp;omega),ae a,one,yo];simp only [ah];have C:1<=10 ^ (d.length+k - q):=BG _ _ (by decide);unfold sgn AM;rw [ae j];clear a;generalize 10 ^ (d.length+k - q)=u at *;generalize val d k=v at *;have d2:(((u:Nat):Int)==0)=false:=aM.2 (by omega);have c:Int.tdiv ((v:Nat):Int) ((u:Nat):Int)=((v / u:Nat):Int):=rfl;have w:v / u*u<=v:=Ew v u;have i:v / u<=v:=Bd v u;have y:IntKind.wrap .i64 ((v / u:Nat):Int)=((v / u:Nat):Int):=by
   generalize v / u=t at *;exact wrap_i64 _ (by omega) (by omega)
  have z:IntKind.wrap .i64 (((v / u:Nat):Int)*((u:Nat):Int))=((v / u*u:Nat):Int):=by
   rw [<-Gm];exact wrap_i64 _ (by omega) (by omega)
  rw [d2,af,c,y,z];generalize v / u*u=lo at *;have x:IntKind.wrap .i64 (IntKind.wrap .i64 (((lo:Nat):Int)+((u:Nat):Int)) - 1)=((lo+u - 1:Nat):Int):=by
   rw [wrap_i64 (((lo:Nat):Int)+((u:Nat):Int)) (by omega) (by omega),wrap_i64 _ (by omega) (by omega)];omega
  rw [x];have e:(cond (decide ((10000000000000000:Int)<((lo+u - 1:Nat):Int))) (10000000000000000:Int) ((lo+u - 1:Nat):Int))=((min (lo+u - 1) E16:Nat):Int):=by
   unfold E16;by_cases m:(10000000000000000:Int)<((lo+u - 1:Nat):Int)
   ·rw [am m,ah];omega
   ·rw [aq m,af];omega
  rw [e];have A:min (lo+u - 1) E16<=10000000000000000:=Nat.min_le_right _ _;generalize min (lo+u - 1) E16=hi at *;cases g with
  | true=>
   simp only [ah,aJ];rw [wrap_i64 _ (by omega) (by omega),wrap_i64 _ (by omega) (by omega),yQ,yQ]
  | false=>simp
 ·have f:decide ((q:Int)>0)=false:=aq (by omega);rw [f,af];unfold sgn AM;rw [ab j];cases g with
  | true=>
   simp only [ah,aJ];rw [wrap_i64 _ (by omega) (by omega),yQ]
  | false=>simp
def eP (z:UInt8) (d:aa):aa:=d.map λc=>if c=88 then z else c
theorem ju (z:UInt8) (d:aa):(eP z d).length=d.length:=by simp [eP]
theorem qM {z:UInt8} (e:bv z=true) {d:aa} (h:∀c∈d,bv c=true\/c=88):∀c∈eP z d,bv c=true:=by
 intro c hc;obtain ⟨b,a,rfl⟩:=eZ.1 hc;by_cases hx:b=88
 ·rw [ae hx];exact e
 ·rw [ab hx];exact (h b a).resolve_right hx
theorem xG {z:UInt8} {d:aa} {i:Nat} {c:UInt8} (h:d[i]?=some c):(eP z d)[i]?=some (if c=88 then z else c):=by
 simp [eP,h]
def tW (d:aa):Nat:=10 ^ (d.reverse.takeWhile (λc=>c != 88)).length
def kJ (g:Bool) (d:aa):Nat×Nat:=(if g=true/\dval 0 (eP 48 d)=0 then tW d else dval 0 (eP 48 d),dval 0 (eP 57 d))
theorem TJ (m:Nat):aN (m+300) true false [48,48,48,88] 0 0=some (sgn true (kJ true [48,48,48,88])):=by kernel_rfl
theorem Rk (m:Nat):aN (m+300) true false [48,48,88,48] 0 0=some (sgn true (kJ true [48,48,88,48])):=by kernel_rfl
theorem SZ (m:Nat):aN (m+300) true false [48,48,88,88] 0 0=some (sgn true (kJ true [48,48,88,88])):=by kernel_rfl
theorem SS (m:Nat):aN (m+300) true false [48,88,48,48] 0 0=some (sgn true (kJ true [48,88,48,48])):=by kernel_rfl
theorem TN (m:Nat):aN (m+300) true false [48,88,48,88] 0 0=some (sgn true (kJ true [48,88,48,88])):=by kernel_rfl
theorem Uf (m:Nat):aN (m+300) true false [48,88,88,48] 0 0=some (sgn true (kJ true [48,88,88,48])):=by kernel_rfl
theorem Rj (m:Nat):aN (m+300) true false [48,88,88,88] 0 0=some (sgn true (kJ true [48,88,88,88])):=by kernel_rfl
theorem Tn (m:Nat):aN (m+300) true false [88,48,48,48] 0 0=some (sgn true (kJ true [88,48,48,48])):=by kernel_rfl
theorem TK (m:Nat):aN (m+300) true false [88,48,48,88] 0 0=some (sgn true (kJ true [88,48,48,88])):=by kernel_rfl
theorem TT (m:Nat):aN (m+300) true false [88,48,88,48] 0 0=some (sgn true (kJ true [88,48,88,48])):=by kernel_rfl
theorem Oy (m:Nat):aN (m+300) true false [88,48,88,88] 0 0=some (sgn true (kJ true [88,48,88,88])):=by kernel_rfl
theorem Pz (m:Nat):aN (m+300) true false [88,88,48,48] 0 0=some (sgn true (kJ true [88,88,48,48])):=by kernel_rfl
theorem P5 (m:Nat):aN (m+300) true false [88,88,48,88] 0 0=some (sgn true (kJ true [88,88,48,88])):=by kernel_rfl
theorem Pl (m:Nat):aN (m+300) true false [88,88,88,48] 0 0=some (sgn true (kJ true [88,88,88,48])):=by kernel_rfl
theorem Qh (m:Nat):aN (m+300) true false [88,88,88,88] 0 0=some (sgn true (kJ true [88,88,88,88])):=by kernel_rfl
theorem Dq {d:aa} (j:d.length=4) (h:∀c∈d,bv c=true\/c=88) (k:dval 0 (eP 48 d)=0):∀c∈d,c=48\/c=88:=by
 match d,j with
 | [a,b,c,e],_=>
  have f:=qM (z:=48) (by decide) h;have l:dval 0 (eP 48 [a,b,c,e])=((((0*10+((if a=88 then (48:UInt8) else a).toNat - 48))*10+((if b=88 then (48:UInt8) else b).toNat - 48))*10+((if c=88 then (48:UInt8) else c).toNat - 48))*10+((if e=88 then (48:UInt8) else e).toNat - 48)):=by
   simp only [eP,fX,List.map_nil,oM,pw,vv]
  rw [l] at k;have key:∀x:UInt8,bv (if x=88 then (48:UInt8) else x)=true->(if x=88 then (48:UInt8) else x).toNat - 48=0->x=48\/x=88:=by
   intro x hx i;by_cases g:x=88
   ·exact .inr g
   ·rw [ab g] at hx i;have:=(cv x).1 hx;exact .inl (gv.1 (by show x.toNat=48;omega))
  simp only [eP,fX,List.map_nil,dr,sW,uz,EU,forall_eq] at f ⊢;exact ⟨key a f.1 (by omega),key b f.2.1 (by omega),key c f.2.2.1 (by omega),key e f.2.2.2 (by omega)⟩
theorem zC {d:aa} (u:d.length=4) (h:∀c∈d,c=48\/c=88) (w:hasX d=true) (P:aa->Prop) (x:P [48,48,48,88]) (l:P [48,48,88,48]) (q:P [48,48,88,88]) (r:P [48,88,48,48]) (v:P [48,88,48,88]) (n:P [48,88,88,48]) (t:P [48,88,88,88]) (m:P [88,48,48,48]) (o:P [88,48,48,88]) (p:P [88,48,88,48]) (f:P [88,48,88,88]) (i:P [88,88,48,48]) (j:P [88,88,48,88]) (k:P [88,88,88,48]) (g:P [88,88,88,88]):P d:=by
 match d,u with
 | [a,b,c,e],_=>
  simp only [dr,sW,uz,EU,forall_eq] at h;obtain ⟨y,s,hc,z⟩:=h;rcases y with rfl | rfl<;>rcases s with rfl | rfl<;>rcases hc with rfl | rfl<;>rcases z with rfl | rfl
  ·exact absurd w (by decide)
  ·exact x
  ·exact l
  ·exact q
  ·exact r
  ·exact v
  ·exact n
  ·exact t
  ·exact m
  ·exact o
  ·exact p
  ·exact f
  ·exact i
  ·exact j
  ·exact k
  ·exact g
theorem Em (n:Nat) (g l:Bool) (d:aa) (x s:Int) (o:d.length=4) (p:4<n):ar (gh n) n ([],[],0,g,l,d,x,s)=some (eP 48 d,eP 57 d,g,l,d,x,s):=by
 refine fJ (step:=gh n) (λq=>∃i:Nat,i<=4/\q=((eP 48 d).take i,(eP 57 d).take i,(i:Int),g,l,d,x,s)) (λq=>4 - q.2.2.1.toNat) (λ_=>(eP 48 d,eP 57 d,g,l,d,x,s)) ?_ n _ ⟨0,by omega,by simp⟩ (by simp;omega);rintro q ⟨i,hi,rfl⟩;rcases aH i 4 with h | k
 ·obtain ⟨c,hc⟩:∃c,d[i]?=some c:=⟨d[i],be (by omega)⟩;have f:=RX (xG (z:=48) hc);have b:=RX (xG (z:=57) hc);have j:decide ((i:Int)<4)=true:=am (by omega);have m:IntKind.wrap .i64 ((i:Int)+1)=((i+1:Nat):Int):=by rw [wrap_i64 _ (by omega) (by omega)];omega
  refine .inl ⟨((eP 48 d).take (i+1),(eP 57 d).take (i+1),((i+1:Nat):Int),g,l,d,x,s),?_,⟨i+1,by omega,rfl⟩,by simp only [cf];omega,rfl⟩;simp only [gh,j,ah,m,dY (show i+1<=d.length by omega),dY (show i<=i+1 by omega),ob,cut1 hc];have a:∀z:UInt8,((eP z d).take i).length<=4:=λz=>by rw [da];omega
  rw [f,b];by_cases hx:c=88
  ·have e:(([c]:aa)==[88])=true:=by rw [hx];rfl
   rw [e,ah,ae hx,ae hx,cb (by have:=a 48;simp;omega),cb (by have:=a 57;simp;omega)]
  ·have e:(([c]:aa)==[88])=false:=by
    rw [aM];intro e;exact hx (by simpa using e)
   rw [e,af,ab hx,ab hx,cb (by have:=a 48;simp;omega),cb (by have:=a 57;simp;omega)]
 ·have:i=4:=by omega
  subst this;refine .inr ?_;rw [i7 (by rw [ju];omega),i7 (by rw [ju];omega)];rfl
theorem I4 {d:aa} (h:d=[48,48,48,48]):dval 0 d=0:=by rw [h];decide
theorem BE (m:Nat) (g:Bool) (d:aa) (h:okY g false d 0 0) (k:hasX d=true):aN (m+300) g false d 0 0=some (sgn g (kJ g d)):=by
 obtain ⟨_,_,_,j,l⟩:=qw h k;by_cases i:g=true/\dval 0 (eP 48 d)=0
 ·obtain ⟨rfl,i⟩:=i;exact zC j (Dq j l i) k (λd=>aN (m+300) true false d 0 0=some (sgn true (kJ true d))) (TJ m) (Rk m) (SZ m) (SS m) (TN m) (Uf m) (Rj m) (Tn m) (TK m) (TT m) (Oy m) (Pz m) (P5 m) (Pl m) (Qh m)
 ·have hs:kJ g d=(dval 0 (eP 48 d),dval 0 (eP 57 d)):=by unfold kJ;rw [ab i]
  have c:=qM (z:=48) (by decide) l;have f:=qM (z:=57) (by decide) l;have o:=uU (eP 48 d) 0 0 c (by simp);have q:=uU (eP 57 d) 0 0 f (by simp);rw [ju,j] at o q;have r:(10:Nat) ^ (4+0)=10000:=by decide
  have m1:ak (m+300) (eP 48 d) 0=some (((dval 0 (eP 48 d):Nat):Int),1):=by
   have:=jy (m+300) (eP 48 d) 0 c (by rw [ju];omega) (by omega) (by rw [ju];omega);rw [ae (by unfold E16;simp only [AE,qD];omega)] at this;simpa using this
  have m2:ak (m+300) (eP 57 d) 0=some (((dval 0 (eP 57 d):Nat):Int),1):=by
   have:=jy (m+300) (eP 57 d) 0 f (by rw [ju];omega) (by omega) (by rw [ju];omega);rw [ae (by unfold E16;simp only [AE,qD];omega)] at this;simpa using this
  have p:((if true=true then (1:Int) else 0)==1)=true:=rfl;have n:decide ((0:Int)>0)=false:=rfl;unfold aN;rw [oH _ g false d 0 0 (by omega) (by omega),k,Em _ g false d 0 0 j (by omega),hs];simp only [ob,aJ,vb,ah];cases g with
  | true=>
   have e:(eP 48 d==([48,48,48,48]:aa))=false:=by
    rw [aM];intro e;exact i ⟨rfl,I4 e⟩
   simp only [ah,e,af,m1,m2,n,sgn,aJ];generalize dval 0 (eP 48 d)=a at *;generalize dval 0 (eP 57 d)=b at *;rw [wrap_i64 _ (by omega) (by omega),wrap_i64 _ (by omega) (by omega),yQ,yQ]
  | false=>simp only [af,m1,m2,n,sgn,br,aA]
def qb (g:Bool) (d:aa) (x s:Int):Nat×Nat:=if hasX d then kJ g d else AM d x.toNat s.toNat
theorem OR (m:Nat) (g l:Bool) (d:aa) (x s:Int) (e:d.length<=100) (h:okY g l d x s):aN (m+300) g l d x s=some (sgn g (qb g d x s)):=by
 unfold qb;cases a:hasX d with
 | true=>
  obtain ⟨rfl,rfl,rfl,f,c⟩:=qw h a;exact BE m g d h a
 | false=>
  obtain ⟨k,q,rfl,rfl,b⟩:=tD h a;exact DG _ g l d k q (by omega) e b
theorem Rm {d:aa} {k q:Nat} (h:Num d k q):(AM d k q).1<=val d k/\val d k<=(AM d k q).2/\(AM d k q).2<=E16:=by
 have hs:=h.small;have c:dval 0 d*10 ^ k=val d k:=rfl;rw [c] at hs;unfold AM;split
 ·have a:1<=10 ^ (d.length+k - q):=BG _ _ (by decide);generalize 10 ^ (d.length+k - q)=u at a ⊢;generalize val d k=v at hs ⊢;have b:=Ew v u;have e:v<v / u*u+u:=by
   have h:=Nat.div_add_mod v u;have:=AI v a;rw [uw] at h;omega
  refine ⟨b,?_,Nat.min_le_right _ _⟩;rw [Nat.le_min];omega
 ·exact ⟨aY _,aY _,hs⟩
def mtk (d:aa):Nat->Nat->Bool
 | 0,_=>true
 | k+1,w=>(decide (d.getD k 0=88)||decide ((d.getD k 0).toNat=48+w%10))&&mtk d k (w / 10)
theorem Av (d:aa) (k w:Nat):mtk d (k+1) w=((decide (d.getD k 0=88)||decide ((d.getD k 0).toNat=48+w%10))&&mtk d k (w / 10)):=rfl
theorem AZ {d:aa} {k:Nat} {c:UInt8} (h:d[k]?=some c):d.getD k 0=c:=by
 rw [BS,h];rfl
theorem M3 (n:Nat) (g l:Bool) (d:aa) (x s:Int) (t:d.length=4):∀(k w:Nat),k<=4->w<100000000000000000->∀q,k<q->
  ar (bO n) q ((w:Int),(k:Int) - 1,g,l,d,x,s)=some (if mtk d k w=true then .inr ((w / 10 ^ k:Nat):Int) else .inl 0)
 | 0,w,u,z,q,m=>by
  obtain ⟨q,rfl⟩:∃p,q=p+1:=⟨q - 1,by omega⟩;have f:decide (((0:Nat):Int) - 1>=0)=false:=rfl;have b:mtk d 0 w=true:=rfl;simp only [ar,bO,f,af];rw [ae b];simp
 | k+1,w,u,z,q,m=>by
  obtain ⟨q,rfl⟩:∃p,q=p+1:=⟨q - 1,by omega⟩;have ih:=M3 n g l d x s t k (w / 10) (by omega) (by omega) q (by omega);obtain ⟨c,hc⟩:∃c,d[k]?=some c:=⟨d[k],be (by omega)⟩;have o:((k+1:Nat):Int) - 1=(k:Int):=by omega
  have f:decide ((k:Int)>=0)=true:=am (by omega);have r:Int.tmod (w:Int) 10=((w%10:Nat):Int):=rfl;have eq':Int.tdiv (w:Int) 10=((w / 10:Nat):Int):=rfl;have y:IntKind.wrap .i64 (48+((w%10:Nat):Int))=((48+w%10:Nat):Int):=by rw [wrap_i64 _ (by omega) (by omega)];omega
  have v:IntKind.wrap .u8 ((48+w%10:Nat):Int)=((48+w%10:Nat):Int):=ks _ (by omega) (by omega);have B:IntKind.wrap .i64 ((w / 10:Nat):Int)=((w / 10:Nat):Int):=wrap_i64 _ (by omega) (by omega);have A:IntKind.wrap .i64 ((k:Int) - 1)=(k:Int) - 1:=wrap_i64 _ (by omega) (by omega);have a:w / 10 ^ (k+1)=w / 10 / 10 ^ k:=by rw [s9,uw,Nat.div_div_eq_div_mul]
  rw [Av,AZ hc,a,o];simp only [ar,bO,f,ah,dL hc,ob,r,eq',y,v,B,A];by_cases hx:c=88
  ·have j:(((c.toNat:Nat):Int) != 88)=false:=by rw [hx];rfl
   rw [j,am hx];simp only [af,HS,nI];exact ih
  ·have j:(((c.toNat:Nat):Int) != 88)=true:=by
    simp only [bne,kW,aM];intro e;exact hx (gv.1 (by show c.toNat=88;omega))
   rw [j,aq hx];simp only [ah,o8];by_cases i:c.toNat=48+w%10
   ·have h:(((c.toNat:Nat):Int) != ((48+w%10:Nat):Int))=false:=by rw [i];simp
    rw [h,am i];simp only [af,nI];exact ih
   ·have h:(((c.toNat:Nat):Int) != ((48+w%10:Nat):Int))=true:=by
     simp only [bne,kW,aM];omega
    rw [h,aq i];simp only [ah,xF];rfl
def EO (d:aa) (k q:Nat):Nat:=if 0<q then 10 ^ (d.length+k - q) else 1
def memP (d:aa) (x s:Int) (w:Nat):Prop:=if hasX d=true then mtk d 4 w=true/\w / 10 ^ 4=0 else val d x.toNat / EO d x.toNat s.toNat=w / EO d x.toNat s.toNat
instance (d:aa) (x s:Int) (w:Nat):Decidable (memP d x s w):=by unfold memP;infer_instance
def wOf (g:Bool) (v:Int):Int:=if g then -v else v
def inP (g:Bool) (d:aa) (x s v:Int):Prop:=-10000000000000000<=v/\v<=10000000000000000/\0<=wOf g v/\¬(hasX d=true/\g=true/\wOf g v=0)/\memP d x s (wOf g v).toNat
instance (g:Bool) (d:aa) (x s v:Int):Decidable (inP g d x s v):=by unfold inP;infer_instance
noncomputable def inT (n:Nat) (a0 a1:Bool) (a2:aa) (h g W:Int):Option Int:=
 (ob (aE n a0 a1 a2 h g) λf=>(cond (f==1) (ob (ar (bO n) n (W,3,a0,a1,a2,h,g)) λc=>(Sum.casesOn (motive:=λ_=>Option _) c (λd=>(some d)) (λe=>(cond (decide (e>0)) (some 0) (some 1))))) (ob (ak n a2 h) λb=>(cond (decide (g>0)) (ob (ak n [49] (IntKind.wrap .i64 ((IntKind.wrap .i64 (((List.length a2:Nat):Int)+h)) - g))) λa=>(cond (a.1==0) none (cond (a.1==0) none (cond ((IntKind.wrap .i64 (Int.tdiv b.1 a.1))==(IntKind.wrap .i64 (Int.tdiv W a.1))) (some 1) (some 0))))) (cond ((IntKind.wrap .i64 (Int.tdiv b.1 1))==(IntKind.wrap .i64 (Int.tdiv W 1))) (some 1) (some 0))))))
theorem LF (a b:Nat):(((a:Nat):Int)==((b:Nat):Int))=decide (a=b):=by
 by_cases h:a=b
 ·subst h;simp
 ·rw [aq h,aM];omega
theorem Hz {d:aa} {x s:Int} {w:Nat} (a:hasX d=true):memP d x s w↔mtk d 4 w=true/\w / 10 ^ 4=0:=by unfold memP;rw [ae a]
theorem QO {d:aa} {x s:Int} {w:Nat} (a:hasX d=false):memP d x s w↔val d x.toNat / EO d x.toNat s.toNat=w / EO d x.toNat s.toNat:=by unfold memP;rw [ab (by rw [a];simp)]
theorem in_T (m:Nat) {g l:Bool} {d:aa} {x s:Int} (n:okY g l d x s) (w:Nat) (S:w<=10000000000000000):inT (m+300) g l d x s (w:Int)=some (if memP d x s w then 1 else 0):=by
 have L:=kb n;have H:=oH (m+300) g l d x s (by omega) (by omega);unfold inT;cases h:hasX d with
 | true=>
  obtain ⟨rfl,rfl,rfl,P,_⟩:=qw n h;have E:=M3 (m+300) g false d 0 0 P 4 w (by omega) (by omega) (m+300) (by omega);have hlp':ar (bO (m+300)) (m+300) ((w:Int),3,g,false,d,0,0)=_:=E;have F:((1:Int)==1)=true:=rfl;have j:aE (m+300) g false d 0 0=some 1:=by rw [H,h];rfl
  rw [j];simp only [ob,F,ah,hlp'];by_cases z:mtk d 4 w=true
  ·rw [ae z];by_cases A:w / 10 ^ 4=0
   ·have e:decide (((w / 10 ^ 4:Nat):Int)>0)=false:=aq (by rw [A];decide);rw [ae ((Hz h).2 ⟨z,A⟩)];simp only [e,af]
   ·have e:decide (((w / 10 ^ 4:Nat):Int)>0)=true:=am (by
     generalize w / 10 ^ 4=t at A ⊢;omega)
    rw [ab (λq=>A ((Hz h).1 q).2)];simp only [e,ah]
  ·rw [ab z,ab (λq=>z ((Hz h).1 q).1)]
 | false=>
  obtain ⟨k,q,rfl,rfl,y⟩:=tD n h;have hw':=y.wide;have hs:=y.small;have R:=y.sig;have G:dval 0 d*10 ^ k=val d k:=rfl;have J:=jy (m+300) d k y.dig (by omega) (by omega) (by omega);rw [ae hs,G] at J;rw [G] at hs;unfold E16 at hs;have D:((0:Int)==1)=false:=rfl;have j:aE (m+300) g l d k q=some 0:=by rw [H,h];rfl
  have c:=QO (x:=(k:Int)) (s:=(q:Int)) (w:=w) h;rw [cf,cf] at c;unfold EO at c;rw [j];simp only [ob,D,af,J];by_cases I:0<q
  ·have B:decide ((q:Int)>0)=true:=am (by omega);have w0:IntKind.wrap .i64 (IntKind.wrap .i64 (((d.length:Nat):Int)+(k:Int)) - (q:Int))=((d.length+k - q:Nat):Int):=by
    rw [wrap_i64 (((d.length:Nat):Int)+(k:Int)) (by omega) (by omega),wrap_i64 _ (by omega) (by omega)];omega
   have C:10 ^ (d.length+k - q)<=10 ^ 16:=oq (by decide) (by omega);have O:(10:Nat) ^ 16=10000000000000000:=by decide
   have one:dval 0 [49]=1:=by decide
   have i:dval 0 [49]*10 ^ (d.length+k - q)<=E16:=by rw [one];unfold E16;omega
   have o:=jy (m+300) [49] (d.length+k - q) (by decide) (by decide) (by omega) (by simp;omega);rw [ae i,one,yo] at o;have N:1<=10 ^ (d.length+k - q):=BG _ _ (by decide);rw [B,w0,o];rw [ae I] at c;clear i o;generalize 10 ^ (d.length+k - q)=u at N C c ⊢;generalize val d k=v at hs c ⊢;have d2:(((u:Nat):Int)==0)=false:=aM.2 (by omega);have r:Int.tdiv ((v:Nat):Int) ((u:Nat):Int)=((v / u:Nat):Int):=rfl;have p:Int.tdiv ((w:Nat):Int) ((u:Nat):Int)=((w / u:Nat):Int):=rfl;have Q:v / u<=v:=Bd v u;have M:w / u<=w:=Bd w u;simp only [ah,d2,af,r,p];generalize v / u=a at Q c ⊢;generalize w / u=b at M c ⊢;rw [wrap_i64 _ (by omega) (by omega),wrap_i64 _ (by omega) (by omega),LF];by_cases f:a=b
   ·rw [am f,ae (c.2 f)];rfl
   ·rw [aq f,ab (λq=>f (c.1 q))];rfl
  ·have B:decide ((q:Int)>0)=false:=aq (by omega);have K:∀a:Nat,Int.tdiv ((a:Nat):Int) 1=((a:Nat):Int):=λa=>by
    have:Int.tdiv ((a:Nat):Int) 1=((a / 1:Nat):Int):=rfl;rw [this,sS]
   rw [ab I,sS,sS] at c;rw [B];simp only [af,K];rw [wrap_i64 _ (by omega) (by omega),wrap_i64 _ (by omega) (by omega),LF];by_cases f:val d k=w
   ·rw [am f,ae (c.2 f)];rfl
   ·rw [aq f,ab (λq=>f (c.1 q))];rfl
theorem WB (m:Nat) {g l:Bool} {d:aa} {x s:Int} (n:okY g l d x s) (v:Int):nl (m+300) g l d x s v=some (if inP g d x s v then 1 else 0):=by
 have y:=kb n;have a:=λw p=>in_T m n w p;have o:=oH (m+300) g l d x s (by omega) (by omega);unfold inT at a;unfold nl;by_cases t:v < -10000000000000000
 ·rw [am t,ab (λq=>by have:=q.1;omega)];rfl
 ·rw [aq t,af];by_cases u:v>10000000000000000
  ·rw [am u,ab (λq=>by have:=q.2.1;omega)];rfl
  ·rw [aq u,af];cases g with
   | true=>
    have w0:IntKind.wrap .i64 (0 - v)=-v:=by rw [wrap_i64 _ (by omega) (by omega)];omega
    simp only [ah,w0];by_cases k:-v<0
    ·rw [am k,ab (λq=>by have:=q.2.2.1;unfold wOf at this;simp only [aJ] at this;omega)];rfl
    ·rw [aq k,af];obtain ⟨w,p⟩:∃w:Nat,-v=(w:Int):=⟨(-v).toNat,by omega⟩;have a:=a w (by omega);have f:wOf true v=(w:Int):=by unfold wOf;simpa using p
     have c:¬(hasX d=true/\w=0)->(inP true d x s v↔memP d x s w):=by
      intro r;unfold inP;rw [f,cf];constructor
      ·exact λq=>q.2.2.2.2
      ·exact λq=>⟨by omega,by omega,by omega,λq=>r ⟨q.1,by omega⟩,q⟩
     rw [p];cases i:hasX d with
     | true=>
      have b:aE (m+300) true l d x s=some 1:=by rw [o,i];rfl
      rw [b];have h:((1:Int)==1)=true:=rfl;simp only [ob,h,ah];by_cases r:w=0
      ·have e:(((w:Nat):Int)==0)=true:=bI.2 (by omega);rw [e,ab (λq=>q.2.2.2.1 ⟨i,rfl,by rw [f];omega⟩)];rfl
      ·have e:(((w:Nat):Int)==0)=false:=aM.2 (by omega);rw [b] at a;simp only [ob,h,ah] at a;rw [e,af,a];have:=c (λq=>r q.2);by_cases hp:memP d x s w
       ·rw [ae hp,ae (this.2 hp)]
       ·rw [ab hp,ab (λq=>hp (this.1 q))]
     | false=>
      have b:aE (m+300) true l d x s=some 0:=by rw [o,i];rfl
      have j:((0:Int)==1)=false:=rfl;rw [b] at a ⊢;simp only [ob,j,af] at a ⊢;rw [a];have:=c (λq=>by rw [i] at q;cases q.1);by_cases hp:memP d x s w
      ·rw [ae hp,ae (this.2 hp)]
      ·rw [ab hp,ab (λq=>hp (this.1 q))]
   | false=>
    simp only [af];by_cases k:v<0
    ·rw [am k,ab (λq=>by have:=q.2.2.1;unfold wOf at this;simp only [br,aA] at this;omega)];rfl
    ·rw [aq k,af];obtain ⟨w,rfl⟩:∃w:Nat,v=(w:Int):=⟨v.toNat,by omega⟩;have a:=a w (by omega);have f:wOf false (w:Int)=(w:Int):=rfl;have c:inP false d x s (w:Int)↔memP d x s w:=by
      unfold inP;rw [f,cf];constructor
      ·exact λq=>q.2.2.2.2
      ·exact λq=>⟨by omega,by omega,by omega,λq=>(by cases q.2.1),q⟩
     cases i:hasX d with
     | true=>
      have b:aE (m+300) false l d x s=some 1:=by rw [o,i];rfl
      rw [b] at a ⊢;have h:((1:Int)==1)=true:=rfl;simp only [ob,h,ah] at a ⊢;rw [a];by_cases hp:memP d x s w
      ·rw [ae hp,ae (c.2 hp)]
      ·rw [ab hp,ab (λq=>hp (c.1 q))]
     | false=>
      have b:aE (m+300) false l d x s=some 0:=by rw [o,i];rfl
      rw [b] at a ⊢;have j:((0:Int)==1)=false:=rfl;simp only [ob,j,af] at a ⊢;rw [a];by_cases hp:memP d x s w
      ·rw [ae hp,ae (c.2 hp)]
      ·rw [ab hp,ab (λq=>hp (c.1 q))]
def loK (d:aa) (k:Nat):Nat:=dval 0 ((eP 48 d).take k)
def hiK (d:aa) (k:Nat):Nat:=dval 0 ((eP 57 d).take k)
theorem xC (z:UInt8) {d:aa} {k:Nat} {c:UInt8} (h:d[k]?=some c):dval 0 ((eP z d).take (k+1))=dval 0 ((eP z d).take k)*10+((if c=88 then z else c).toNat - 48):=by
 rw [RX (xG h),Ib]
theorem CO (d:aa) (g:d.length=4) (i:∀c∈d,bv c=true\/c=88):∀(k w:Nat),k<=4->w<10 ^ k->mtk d k w=true->loK d k<=w/\w<=hiK d k
 | 0,w,h,b,a=>by
  simp at b;subst b;simp [loK,hiK,pw]
 | k+1,w,h,b,a=>by
  obtain ⟨c,hc⟩:∃c,d[k]?=some c:=⟨d[k],be (by omega)⟩;rw [Av,AZ hc,az,iO,cj,cj] at a;have hp:(10:Nat) ^ (k+1)=10 ^ k*10:=s9 10 k;have ih:=CO d g i k (w / 10) (by omega) (by omega) a.2;have e:=xC 48 hc;have l:=xC 57 hc;unfold loK hiK at ih ⊢;rw [e,l];by_cases hx:c=88
  ·rw [ae hx,ae hx];have j:(48:UInt8).toNat - 48=0:=rfl;have f:(57:UInt8).toNat - 48=9:=rfl;rw [j,f];omega
  ·rw [ab hx,ab hx];have:=a.1.resolve_left hx;omega
theorem Be (z:UInt8) (h:bv z=true) (d:aa) (l:d.length=4) (g:∀c∈d,bv c=true\/c=88):∀k,k<=4->mtk d k (dval 0 ((eP z d).take k))=true
 | 0,_=>rfl
 | k+1,n=>by
  obtain ⟨c,hc⟩:∃c,d[k]?=some c:=⟨d[k],be (by omega)⟩;have ih:=Be z h d l g k (by omega);have e:bv (if c=88 then z else c)=true:=by
   by_cases hx:c=88
   ·rw [ae hx];exact h
   ·rw [ab hx];exact (g c (fZ hc)).resolve_right hx
  have i:=(cv _).1 e;rw [Av,AZ hc,xC z hc];generalize f:(if c=88 then z else c)=b at i ⊢;generalize dval 0 ((eP z d).take k)=a at ih ⊢;have m:(a*10+(b.toNat - 48)) / 10=a:=by omega
  have j:(a*10+(b.toNat - 48))%10=b.toNat - 48:=by omega
  rw [m,j,ih,D7];by_cases hx:c=88
  ·rw [am hx];rfl
  ·rw [ab hx] at f;rw [f,am (show b.toNat=48+(b.toNat - 48) by omega),Bool.or_true]
def AQ:List (aa):=[[48,48,48,88],[48,48,88,48],[48,48,88,88],[48,88,48,48],[48,88,48,88],[48,88,88,48],[48,88,88,88],[88,48,48,48],[88,48,48,88],[88,48,88,48],[88,48,88,88],[88,88,48,48],[88,88,48,88],[88,88,88,48],[88,88,88,88]]
theorem XA:AQ.all (λd=>mtk d 4 (tW d)&&decide (1<=tW d)&&decide (tW d<=1000)&&(List.range 1000).all (λw=>decide (w=0)||!mtk d 4 w||decide (tW d<=w)))=true:=by decide +kernel
theorem DL {d:aa} (e:d∈AQ):mtk d 4 (tW d)=true/\1<=tW d/\tW d<=1000/\∀w,1<=w->mtk d 4 w=true->tW d<=w:=by
 have h:=cL.1 XA d e;simp only [az,cj,cL,kR,iO,kW] at h;obtain ⟨⟨⟨c,i⟩,b⟩,j⟩:=h;refine ⟨c,i,b,λw k f=>?_⟩;rcases aH w 1000 with a | g
 ·rcases j w a with (h | h) | h
  ·omega
  ·rw [f] at h;cases h
  ·exact h
 ·omega
theorem DO {d:aa} (a:d.length=4) (b:∀c∈d,bv c=true\/c=88) (e:hasX d=true) (f:dval 0 (eP 48 d)=0):d∈AQ:=
 zC a (Dq a b f) e (λd=>d∈AQ) (by decide) (by decide) (by decide) (by decide) (by decide) (by decide) (by decide) (by decide) (by decide) (by decide) (by decide) (by decide) (by decide) (by decide) (by decide)
theorem S4 {d:aa} (a:d.length=4):loK d 4=dval 0 (eP 48 d):=by
 unfold loK;rw [i7 (by rw [ju];omega)]
theorem S0 {d:aa} (a:d.length=4):hiK d 4=dval 0 (eP 57 d):=by
 unfold hiK;rw [i7 (by rw [ju];omega)]
theorem N4 {g:Bool} {d:aa} (b:d.length=4) (e:∀c∈d,bv c=true\/c=88) (q:hasX d=true):
  (kJ g d).1<10000/\(kJ g d).2<10000/\mtk d 4 (kJ g d).1=true/\mtk d 4 (kJ g d).2=true/\1<=(kJ g d).2/\(g=true->1<=(kJ g d).1)/\∀w,w<10000->mtk d 4 w=true->(g=true->1<=w)->(kJ g d).1<=w/\w<=(kJ g d).2:=by
 have r:(10:Nat) ^ 4=10000:=by decide
 have n:=qM (z:=48) (by decide) e;have o:=qM (z:=57) (by decide) e;have b1:=uU (eP 48 d) 0 0 n (by simp);have b2:=uU (eP 57 d) 0 0 o (by simp);rw [ju,b,cN,r] at b1 b2;have m1:=Be 48 (by decide) d b e 4 (by omega);have m2:=Be 57 (by decide) d b e 4 (by omega);rw [i7 (by rw [ju];omega)] at m1 m2;have k:∀w,w<10000->mtk d 4 w=true->dval 0 (eP 48 d)<=w/\w<=dval 0 (eP 57 d):=λw m i=>by
  have:=CO d b e 4 w (by omega) (by omega) i;rw [S4 b,S0 b] at this;exact this
 have j:1<=dval 0 (eP 57 d):=by
  rcases AK (dval 0 (eP 57 d)) with h | h
  ·exfalso;have f:dval 0 (eP 48 d)=0:=by
    have:=(k _ b1 m1).2;omega
   have p:=DO b e q f;have a:=DL p;have:=(k _ (by omega) a.1).2;omega
  ·exact h
 unfold kJ;by_cases f:g=true/\dval 0 (eP 48 d)=0
 ·rw [ae f];have a:=DL (DO b e q f.2);refine ⟨by simp only;omega,b2,a.1,m2,j,λ_=>a.2.1,λw m i l=>⟨a.2.2.2 w (l f.1) i,(k w m i).2⟩⟩
 ·rw [ab f];refine ⟨b1,b2,m1,m2,j,λl=>?_,λw m i l=>k w m i⟩;simp only;rcases AK (dval 0 (eP 48 d)) with h | h
  ·exact absurd ⟨l,h⟩ f
  ·exact h
theorem OE {g l:Bool} {d:aa} {x s:Int} (f:okY g l d x s):(qb g d x s).1<=10000000000000000/\(qb g d x s).2<=10000000000000000/\memP d x s (qb g d x s).1/\memP d x s (qb g d x s).2/\(hasX d=true->1<=(qb g d x s).2/\(g=true->1<=(qb g d x s).1))/\
  ∀w,w<=10000000000000000->memP d x s w->(hasX d=true->g=true->1<=w)->(qb g d x s).1<=w/\w<=(qb g d x s).2:=by
 unfold qb memP;cases r:hasX d with
 | true=>
  obtain ⟨rfl,rfl,rfl,G,I⟩:=qw f r;obtain ⟨M,O,H,C,J,N,F⟩:=N4 (g:=g) G I r;have K:(10:Nat) ^ 4=10000:=by decide
  simp only [aJ,K];refine ⟨by omega,by omega,⟨H,Nat.div_eq_of_lt M⟩,⟨C,Nat.div_eq_of_lt O⟩,λ_=>⟨J,N⟩,λw A m L=>F w (by omega) m.1 (L trivial)⟩
 | false=>
  obtain ⟨k,q,rfl,rfl,t⟩:=tD f r;have hs:=t.small;have D:dval 0 d*10 ^ k=val d k:=rfl;rw [D] at hs;obtain ⟨e,c,b⟩:=Rm t;unfold E16 at b;simp only [br,aA,cf];unfold EO;unfold AM at e c b ⊢;by_cases j:0<q
  ·rw [ae j] at e c b ⊢;rw [ae j];have z:1<=10 ^ (d.length+k - q):=BG _ _ (by decide);generalize 10 ^ (d.length+k - q)=u at *;generalize val d k=v at *;simp only at e c b ⊢;have i:v / u*u / u=v / u:=Nat.mul_div_cancel _ z;have n:∀w,v / u*u<=w->w<v / u*u+u->w / u=v / u:=by
    intro w y p;apply Nat.div_eq_of_lt_le
    ·exact y
    ·rw [Nat.succ_mul];exact p
   have a:∀w,v / u=w / u->v / u*u<=w/\w<v / u*u+u:=by
    intro w h;rw [h];have y:=Ew w u;have p:=Nat.div_add_mod w u;have P:=AI w z;rw [uw] at p;omega
   have B:min (v / u*u+u - 1) E16<=v / u*u+u - 1:=Nat.min_le_left _ _;have o:=a v rfl;refine ⟨by omega,b,i.symm,(n _ (by omega) (by omega)).symm,λq=>(by cases q),λw A m _=>?_⟩;obtain ⟨E,Q⟩:=a w m;refine ⟨E,?_⟩;rw [Nat.le_min];unfold E16;omega
  ·rw [ab j] at e c b ⊢;rw [ab j];simp only [sS] at e c b ⊢;refine ⟨b,b,trivial,trivial,λq=>(by cases q),λw A m _=>by omega⟩
theorem Nq {g l:Bool} {d:aa} {x s:Int} (m:okY g l d x s):inP g d x s (sgn g (qb g d x s)).1/\inP g d x s (sgn g (qb g d x s)).2/\∀v,inP g d x s v->(sgn g (qb g d x s)).1<=v/\v<=(sgn g (qb g d x s)).2:=by
 obtain ⟨t,w,p,f,r,u⟩:=OE m;generalize qb g d x s=C at *;obtain ⟨lo,hi⟩:=C;simp only at t w p f r u;cases g with
 | true=>
  have b:∀a:Nat,wOf true (-(a:Int))=(a:Int):=λa=>by unfold wOf;simp
  have mk:∀a:Nat,a<=10000000000000000->memP d x s a->(hasX d=true->1<=a)->inP true d x s (-(a:Int)):=by
   intro a y n B;refine ⟨by omega,by omega,by rw [b];omega,λq=>?_,by rw [b,cf];exact n⟩;have:=B q.1;have D:=q.2.2;rw [b] at D;omega
  simp only [sgn,aJ];refine ⟨mk hi w f (λh=>(r h).1),mk lo t p (λh=>(r h).2 rfl),λv j=>?_⟩;obtain ⟨z,A,k,i,c⟩:=j;have o:wOf true v=-v:=rfl;rw [o] at k i c
  have:=u (-v).toNat (by omega) c (λhx _=>by
   have:¬-v=0:=λe=>i ⟨hx,rfl,e⟩;omega)
  omega
 | false=>
  have b:∀a:Int,wOf false a=a:=λa=>rfl;have mk:∀a:Nat,a<=10000000000000000->memP d x s a->inP false d x s (a:Int):=by
   intro a y n;exact ⟨by omega,by omega,by rw [b];omega,λq=>(by cases q.2.1),by rw [b,cf];exact n⟩
  simp only [sgn,br,aA];refine ⟨mk lo t p,mk hi w f,λv j=>?_⟩;obtain ⟨z,A,k,i,c⟩:=j;rw [b] at k c;have:=u v.toNat (by omega) c (λ_ q=>by cases q);omega
end Go.Sh
namespace Go.Sh.Mk
open Go.Abs
def okB (c:UInt8):Bool:=c.toNat==88||(decide (48<=c.toNat)&&decide (c.toNat<=57))
def chk (s:aa):Int:=if 18<s.length then 3 else if s.all okB then (if s=[] then 5 else 0) else 5
theorem vA (n:Nat) (s0 s:aa) (t:s.length+1<n):
  ar (iW n) n (s0,s,0)=some (if s.all okB then .inr s0 else .inl 5):=by
 have:=fJ (step:=iW n) (λx=>x.1=s0/\x.2.1=s/\x.2.2<=s.length) (λx=>s.length - x.2.2)
  (λx=>if (s.drop x.2.2).all okB then .inr s0 else .inl 5) ?_ n (s0,s,0) ⟨rfl,rfl,f7 _⟩ (by simp;omega)
 ·simpa using this
 rintro ⟨a,b,i⟩ ⟨rfl,rfl,hi⟩;simp only at hi ⊢;rcases aH i b.length with g | o
 ·obtain ⟨c,hc⟩:∃c,b[i]?=some c:=⟨b[i],be g⟩;have m:Nat.blt i b.length=true:=cZ g;rw [bU hc,mK];simp only [iW,m,ah];by_cases l:c.toNat<128
  ·rw [BD hc l];by_cases k:c.toNat=88
   ·refine .inl ⟨(a,b,i+1),by simp [k],⟨rfl,rfl,by simp only;omega⟩,by simp only;omega,?_⟩;simp [okB,k]
   ·by_cases p:c.toNat<48
    ·refine .inr ?_;have f:(((c.toNat:Nat):Int) != 88)=true:=by simp;omega
     have d:(decide (((c.toNat:Nat):Int)<48))=true:=by simp;omega
     have e:okB c=false:=by simp [okB];omega
     simp [f,d,e]
    ·by_cases q:57<c.toNat
     ·refine .inr ?_;have f:(((c.toNat:Nat):Int) != 88)=true:=by simp;omega
      have d:(decide (((c.toNat:Nat):Int)<48))=false:=by simp;omega
      have j:(decide (((c.toNat:Nat):Int)>57))=true:=by simp;omega
      have e:okB c=false:=by simp [okB];omega
      simp [f,d,e,j]
     ·have f:(((c.toNat:Nat):Int) != 88)=true:=by simp;omega
      have d:(decide (((c.toNat:Nat):Int)<48))=false:=by simp;omega
      have j:(decide (((c.toNat:Nat):Int)>57))=false:=by simp;omega
      have e:okB c=true:=by simp [okB];omega
      refine .inl ⟨(a,b,i+1),by simp only [f,d,j,ah,af],⟨rfl,rfl,by simp only;omega⟩,by simp only;omega,?_⟩;simp [e]
  ·obtain ⟨r,u⟩:=HU hc (by omega);refine .inr ?_;have f:((((dec b i).1:Nat):Int) != 88)=true:=by simp;omega
   have d:(decide ((((dec b i).1:Nat):Int)<48))=false:=by simp;omega
   have j:(decide ((((dec b i).1:Nat):Int)>57))=true:=by simp;omega
   have e:okB c=false:=by simp [okB];omega
   simp [f,d,e,j]
 ·have m:Nat.blt i b.length=false:=by
   cases h:Nat.blt i b.length with
   | false=>rfl
   | true=>have:i<b.length:=aI h;omega
  refine .inr ?_;simp only [iW,m,af];rw [jm o];rfl
theorem lU (n:Nat) (s:aa) (b:30<=n):kz n s=some (chk s):=by
 unfold kz chk;by_cases h:18<s.length
 ·have:(decide (((List.length s:Nat):Int)>18))=true:=by simp;omega
  simp [this,h]
 ·have e:(decide (((List.length s:Nat):Int)>18))=false:=by simp;omega
  simp only [e,af,h,aA];rw [vA n s s (by omega)];by_cases a:s.all okB=true
  ·simp only [a,aJ,ob];by_cases hs:s=[]
   ·simp [hs]
   ·have:(s==([]:aa))=false:=by simpa using hs
    simp [this,hs]
  ·simp [a,ob]
theorem ny {s:aa} (h:chk s=0):s.length<=18/\s≠[]/\∀c∈s,okB c=true:=by
 unfold chk at h;split at h
 ·simp at h
 ·split at h
  ·rename_i a;split at h
   ·simp at h
   ·rename_i hs;exact ⟨by omega,hs,by simpa using a⟩
  ·simp at h
def nums (l:aa):List Int:=l.map λb=>((b.toNat:Nat):Int)
def over (d:List Int) (i:Nat) (l:List Int):List Int:=d.take i++(l++d.drop (i+l.length))
theorem zX (d:List Int) (i:Nat) (x:Int) (l:List Int) (h:i<d.length):over (d.set i x) (i+1) l=over d i (x::l):=by
 unfold over;rw [show (d.set i x).take (i+1)=d.take i++[x] from by
  rw [Lh (by simpa using h)];simp [List.take_set_of_le]]
 rw [List.drop_set_of_lt (by omega)];simp [gY,pi 1]
theorem HQ (d:List Int) (i:Nat):over d i []=d:=by simp [over]
theorem Qe (d:List Int) (i:Nat) (l:List Int) (h:i+l.length<=d.length):(over d i l).length=d.length:=by
 unfold over;simp;omega
theorem Pn {x y:UInt8}:(((x.toNat:Nat):Int)==((y.toNat:Nat):Int))=decide (x=y):=by
 by_cases h:x=y
 ·simp [h]
 ·have:x.toNat≠y.toNat:=λe=>h (gv.1 e);simp [h];omega
theorem BL {x:UInt8}:(((x.toNat:Nat):Int)==88)=decide (x=88):=by
 have:=Pn (x:=x) (y:=88);simpa using this
def dg:Nat->Int->List Int
 | 0,_=>[]
 | L+1,k=>dg L (k / 10)++[48+k%10]
theorem xe:∀(L:Nat) (k:Int),(dg L k).length=L
 | 0,_=>rfl
 | L+1,k=>by simp [dg,xe L]
theorem tq:∀(L:Nat) (k:Int),∀x∈dg L k,48<=x/\x<58
 | 0,_,x,h=>by simp [dg] at h
 | L+1,k,x,h=>by
  simp only [dg,n7,yC] at h;rcases h with h | rfl
  ·exact tq L _ x h
  ·omega
def jB:aa->List Int->Bool
 | c::m,d::l=>(c==88||decide (((c.toNat:Nat):Int)=d))&&jB m l
 | _,_=>true
theorem vi:∀{a c:aa} {b d:List Int},a.length=b.length->jB (a++c) (b++d)=(jB a b&&jB c d)
 | [],c,[],d,_=>by simp [jB]
 | x::a,c,y::b,d,h=>by
  simp only [aC,xz] at h;simp only [eI,jB,vi h,Bool.and_assoc]
def hasM (m:aa) (k:Int):Bool:=decide (0<=k)&&(decide (k<10 ^ m.length)&&jB m (dg m.length k))
theorem OA (L:Nat) (h:L<=18):pu 20000000 ((L:Nat):Int)=some (10 ^ L):=by
 have a:allN (λi=>match pu 20000000 ((i:Nat):Int) with | some r=>decide (r=10 ^ i) | none=>false) 19=true:=by kernel_rfl
 have:=Fb a L (by omega);split at this
 ·rename_i r b;rw [b];simpa using this
 ·cases this
theorem CE (L:Nat) (h:L<=18):(10:Int) ^ L<=1000000000000000000:=by
 have a:allN (λi=>decide ((10:Int) ^ i<=1000000000000000000)) 19=true:=by kernel_rfl
 simpa using Fb a L (by omega)
theorem VW {k:Int} (h:0<=k):Int.tmod k 10=k%10:=Nj h
theorem Vb {k:Int} (h:0<=k):Int.tdiv k 10=k / 10:=QR h
theorem I7 (k:Int) (i:Nat) (d:List Int) (a:0<=k) (c:k<9223372036854775808) (hi:i<=18) (b:d.length=18):
  ar (iZ 20000000) 20000000 (k,(i:Int) - 1,d)=some (over d 0 (dg i k)):=by
 have:=fJ (step:=iZ 20000000) (λx=>(0<=x.1/\x.1<9223372036854775808)/\(-1<=x.2.1/\x.2.1<=17)/\x.2.2.length=18) (λx=>(x.2.1+1).toNat)
  (λx=>over x.2.2 0 (dg (x.2.1+1).toNat x.1)) ?_ 20000000 (k,(i:Int) - 1,d) ⟨⟨a,c⟩,⟨by simp only;omega,by simp only;omega⟩,b⟩ (by simp only;omega)
 ·simpa using this
 rintro ⟨k,i,d⟩ ⟨⟨a,c⟩,⟨p,h⟩,b⟩;simp only at a c p h b ⊢;by_cases hi:0<=i
 ·obtain ⟨j,rfl⟩:∃j:Nat,i=j:=⟨i.toNat,by omega⟩;have f:j<18:=by omega
  have e:decide ((j:Int)>=0)=true:=by simp
  have l:Nat.blt j 18=true:=cZ f;have q:IntKind.wrap .i64 ((j:Int) - 1)=(j:Int) - 1:=wrap_i64 _ (by omega) (by omega);have o:IntKind.wrap .i64 (Int.tdiv k 10)=k / 10:=by rw [Vb a];exact wrap_i64 _ (by omega) (by omega)
  have n:IntKind.wrap .u8 (IntKind.wrap .i64 (48+Int.tmod k 10))=48+k%10:=by rw [VW a,wrap_i64 _ (by omega) (by omega),ks _ (by omega) (by omega)]
  refine .inl ⟨(k / 10,(j:Int) - 1,d.set j (48+k%10)),by simp only [iZ,e,ah,dl f,ob,l,q,o,n],⟨⟨by simp only;omega,by simp only;omega⟩,⟨by simp only;omega,by simp only;omega⟩,by simpa using b⟩,by simp only;omega,?_⟩;have m:((j:Int) - 1+1).toNat=j:=by omega
  have g:((j:Int)+1).toNat=j+1:=by omega
  simp only [m,g,over,mH,eK,xe,dq,dg,iQ];congr 1;rw [List.drop_set,ab (by omega),Bh,sj (by omega)];simp only [List.set_cons_zero,aL,xe,aC,ba,eI,eK,dq]
 ·have e:decide (i>=0)=false:=by simp;omega
  have s:(i+1).toNat=0:=by omega
  refine .inr ?_;simp only [iZ,e,af,s,dg,HQ]
theorem O0 (m:aa) (k:Int) (a:m.length<=18) (c:0<=k) (b:k<9223372036854775808):
  lH 20000000 m k=some (over [0,0,0,0,0,0,0,0,0,0,0,0,0,0,0,0,0,0] 0 (dg m.length k)):=by
 have w:IntKind.wrap .i64 (((List.length m:Nat):Int) - 1)=(m.length:Int) - 1:=wrap_i64 _ (by omega) (by omega);simp only [lH,w,I7 k m.length [0,0,0,0,0,0,0,0,0,0,0,0,0,0,0,0,0,0] c b a (by rfl),ob]
theorem vS {d l:List Int} {i:Nat} (h:i<l.length):(over d 0 l)[i]?=l[i]?:=by
 unfold over;simp only [mH,eK];rw [nG h]
theorem yY:∀(l:List Int),(∀x∈l,0<=x/\x<256)->nums (ir l)=l
 | [],_=>rfl
 | x::l,h=>by
  have ih:=yY l λy hy=>h y (gy _ hy);obtain ⟨c,a⟩:=h x (by simp);have e:(((UInt8.ofNat x.toNat).toNat:Nat):Int)=x:=by
   rw [EX,rj (by omega)];omega
  simp only [nums,ir,sJ] at ih ⊢;simp only [fX,Function.comp,e];rw [show List.map ((λb:UInt8=>((b.toNat:Nat):Int)) ∘ λn:Int=>UInt8.ofNat n.toNat) l=l from ih]
theorem PR (l:aa):(nums l).length=l.length:=by simp [nums]
def cnt:aa->Nat
 | []=>0
 | c::r=>if c=88 then cnt r+1 else cnt r
def dv (c:UInt8):Int:=((c.toNat:Nat):Int) - 48
def nth:aa->Int->Int
 | [],_=>0
 | c::r,i=>if c=88 then 10*nth r (i / 10)+i%10 else 10*nth r i+dv c
def ag:aa->Int->Bool
 | [],_=>true
 | c::r,k=>ag r (k / 10)&&(decide (c=88)||decide (dv c=k%10))
def idx:aa->Int->Int
 | [],_=>0
 | c::r,k=>if c=88 then 10*idx r (k / 10)+k%10 else idx r (k / 10)
def okR (r:aa):Prop:=∀c∈r,c=88\/(0<=dv c/\dv c<10)
theorem zy {m:aa} (h:∀c∈m,okB c=true):okR m.reverse:=by
 intro c hc;have:=h c (Fh.1 hc);simp only [okB,iO,bI,az,cj] at this;rcases this with h | h
 ·exact .inl (gv.1 (by simpa using h))
 ·exact .inr (by unfold dv;omega)
theorem rL {c:UInt8} {r:aa} (h:okR (c::r)):okR r:=λx hx=>h x (gy _ hx)
theorem iV (n:Nat):(10:Int) ^ (n+1)=10*10 ^ n:=by rw [Int.pow_succ,zf]
theorem tc (n:Nat):(0:Int)<10 ^ n:=Int.pow_pos (by omega)
theorem rf:∀{r:aa},okR r->∀i,0<=i->0<=nth r i/\nth r i<10 ^ r.length
 | [],_,i,_=>by simp [nth]
 | c::r,h,i,hi=>by
  simp only [nth,aC,iV];split
  ·have:=rf (rL h) (i / 10) (by omega);omega
  ·rename_i hc;have:=rf (rL h) i hi;have:=(h c (by simp)).resolve_left hc;omega
theorem NX:∀{r:aa},okR r->∀i,0<=i->ag r (nth r i)=true
 | [],_,_,_=>rfl
 | c::r,h,i,hi=>by
  simp only [nth,ag];split
  ·rename_i hc;have e:(10*nth r (i / 10)+i%10) / 10=nth r (i / 10):=by omega
   rw [e,NX (rL h) (i / 10) (by omega)];simp [hc]
  ·rename_i hc;have b:=(h c (by simp)).resolve_left hc;have e:(10*nth r i+dv c) / 10=nth r i:=by omega
   have a:(10*nth r i+dv c)%10=dv c:=by omega
   rw [e,a,NX (rL h) i hi];simp
theorem wK:∀(r:aa) (k:Int),0<=k->0<=idx r k/\idx r k<10 ^ cnt r
 | [],k,_=>by simp [idx,cnt]
 | c::r,k,a=>by
  have:=wK r (k / 10) (by omega);simp only [idx,cnt];split
  ·rw [iV];omega
  ·exact this
theorem LQ:∀{r:aa} {k:Int},0<=k->k<10 ^ r.length->ag r k=true->nth r (idx r k)=k
 | [],k,f,b,_=>by simp at b;simp [nth];omega
 | c::r,k,f,b,a=>by
  simp only [ag,az,iO,cj] at a;rw [aC,iV] at b;have ih:=LQ (r:=r) (k:=k / 10) (by omega) (by omega) a.1;simp only [nth,idx];split
  ·have:=wK r (k / 10) (by omega);have e:(10*idx r (k / 10)+k%10) / 10=idx r (k / 10):=by omega
   have d:(10*idx r (k / 10)+k%10)%10=k%10:=by omega
   rw [e,d,ih];omega
  ·rename_i hc;rw [ih];have:=a.2.resolve_left hc;omega
theorem Ah:∀{r:aa},okR r->∀i j,0<=i->i<j->j<10 ^ cnt r->nth r i<nth r j
 | [],_,i,j,d,b,a=>by simp [cnt] at a;omega
 | c::r,h,i,j,d,b,a=>by
  simp only [nth,cnt] at a ⊢;split
  ·rename_i hc;rw [ae hc,iV] at a;by_cases e:i / 10=j / 10
   ·rw [e];omega
   ·have:=Ah (rL h) (i / 10) (j / 10) (by omega) (by omega) (by omega);omega
  ·rename_i hc;rw [ab hc] at a;have:=Ah (rL h) i j d b a;omega
theorem GN:∀(r:aa),∀k,jB r.reverse (dg r.length k)=ag r k
 | [],k=>rfl
 | c::r,k=>by
  simp only [List.reverse_cons,aC,dg,ag];rw [vi (by rw [uu,xe]),GN r];have b:decide (((c.toNat:Nat):Int)=48+k%10)=decide (dv c=k%10):=nU.2 (by unfold dv;omega);have a:(c==88)=decide (c=88):=by by_cases h:c=88<;>simp [h]
  simp only [jB,D7,b,a]
theorem FT (m:aa) (k:Int):hasM m k=(decide (0<=k)&&(decide (k<10 ^ m.length)&&ag m.reverse k)):=by
 have:=GN m.reverse k;rw [wJ,uu] at this;unfold hasM;rw [this]
theorem xp:∀(m:aa),cnt m=m.count 88
 | []=>rfl
 | c::m=>by
  simp only [cnt,xp m,List.count_cons];by_cases h:c=88<;>simp [h]
theorem sQ (m:aa):cnt m.reverse=cnt m:=by rw [xp,xp,List.count_reverse]
theorem MZ:∀(m:aa),cnt m<=m.length
 | []=>by simp [cnt]
 | c::m=>by
  have:=MZ m;simp only [cnt,aC];split<;>omega
def fd (x y:Int):Int:=(if y=88 then x else y) - 48
def fval (x:Int) (l:List Int):Int:=l.foldl (λn y=>10*n+fd x y) 0
theorem zS (x:Int):∀(l:List Int) (n:Int),l.foldl (λn y=>10*n+fd x y) n=n*10 ^ l.length+fval x l
 | [],n=>by simp [fval]
 | y::l,n=>by
  have e:=zS x l (10*n+fd x y);have a:=zS x l (10*0+fd x y);simp only [fval,vf,aC,iV] at e a ⊢;rw [e,a,Int.add_mul,Int.add_mul];have:10*n*10 ^ l.length=n*(10*10 ^ l.length):=by rw [zf 10 n,Int.mul_assoc]
  omega
theorem wl (s:aa) (x:Int) (u:s.length<=18) (hs:∀c∈s,0<=fd x ((c.toNat:Nat):Int)/\fd x ((c.toNat:Nat):Int)<10):l9 20000000 s x=some (fval x (nums s)):=by
 have hs':∀y∈nums s,0<=fd x y/\fd x y<10:=by
  intro y hy;obtain ⟨c,hc,rfl⟩:=eZ.1 hy;exact hs c hc
 have A:(nums s).length=s.length:=PR s;have:=fJ (step:=hO 20000000)
  (λst=>st.1=x/\st.2.2.1=((s.length:Nat):Int)/\st.2.2.2.2=nums s/\(0<=st.2.2.2.1/\st.2.2.2.1<=s.length)/\0<=st.2.1/\st.2.1<10 ^ st.2.2.2.1.toNat) (λst=>s.length - st.2.2.2.1.toNat)
  (λst=>((nums s).drop st.2.2.2.1.toNat).foldl (λn y=>10*n+fd x y) st.2.1) ?_ 20000000 (x,0,((s.length:Nat):Int),0,nums s) ⟨rfl,rfl,rfl,⟨by simp,by simp⟩,by simp,by simp⟩ (by simp;omega)
 ·show (ob (ar (hO 20000000) 20000000 (x,0,((List.length (nums s):Nat):Int),0,nums s)) λk=>some k)=_;rw [A,this];rfl
 rintro ⟨b,n,len,i,l⟩ ⟨q,o,p,⟨C,hi⟩,v,m⟩;simp only at q o p C hi v m ⊢;subst q o p;obtain ⟨j,rfl⟩:∃j:Nat,i=j:=⟨i.toNat,by omega⟩;simp only [cf] at m ⊢;rcases aH j s.length with t | D
 ·obtain ⟨y,hy⟩:∃c,(nums s)[j]?=some c:=⟨(nums s)[j]'(by omega),be (by omega)⟩;obtain ⟨d0,d⟩:=hs' y (fZ hy);have f:(decide ((j:Int)<((s.length:Nat):Int)))=true:=by simp;omega
  have w:IntKind.wrap .i64 ((j:Int)+1)=((j+1:Nat):Int):=by rw [wrap_i64 _ (by omega) (by omega)];omega
  have e:=CE (j+1) (by omega);rw [iV] at e;have B:IntKind.wrap .i64 (10*n)=10*n:=wrap_i64 _ (by omega) (by omega);have r:∀z:Int,0<=z->z<10->IntKind.wrap .i64 (10*n+IntKind.wrap .i64 (IntKind.wrap .u8 z))=10*n+z:=λz E z1=>by
   rw [ks z (by omega) (by omega),wrap_i64 z (by omega) (by omega),wrap_i64 _ (by omega) (by omega)]
  rw [bU hy,vf];simp only [hO,f,ah,dl (show j<(nums s).length by omega),ob,hy,w,B];have next:0<=10*n+fd b y/\10*n+fd b y<10 ^ (j+1):=by rw [iV];omega
  by_cases a:y=88
  ·have h:(y==88)=true:=by simpa using a
   have g:fd b y=b - 48:=by simp [fd,a]
   rw [g] at d0 d next ⊢;refine .inl ⟨(b,10*n+(b - 48),((s.length:Nat):Int),((j+1:Nat):Int),nums s),by simp only [h,ah,r _ d0 d],⟨rfl,rfl,rfl,⟨by simp only;omega,by simp only;omega⟩,next.1,by simpa only [cf] using next.2⟩,by simp only [cf];omega,by simp only [cf]⟩
  ·have h:(y==88)=false:=by simpa using a
   have g:fd b y=y - 48:=by simp [fd,a]
   rw [g] at d0 d next ⊢;refine .inl ⟨(b,10*n+(y - 48),((s.length:Nat):Int),((j+1:Nat):Int),nums s),by simp only [h,af,r _ d0 d],⟨rfl,rfl,rfl,⟨by simp only;omega,by simp only;omega⟩,next.1,by simpa only [cf] using next.2⟩,by simp only [cf];omega,by simp only [cf]⟩
 ·have f:(decide ((j:Int)<((s.length:Nat):Int)))=false:=by simp;omega
  refine .inr ?_;simp only [hO,f,af];rw [jm (by omega)];rfl
theorem xY (x:Int) (l:List Int) (y:Int):fval x (l++[y])=10*fval x l+fd x y:=by simp [fval,GQ]
theorem Dt (r:aa) (c:UInt8):nums ((c::r).reverse)=nums r.reverse++[((c.toNat:Nat):Int)]:=by simp [nums]
theorem E4 (x:Int) (c:UInt8):fd x ((c.toNat:Nat):Int)=if c=88 then x - 48 else dv c:=by
 unfold fd dv;by_cases h:c=88
 ·simp [h]
 ·have:¬((c.toNat:Nat):Int)=88:=λe=>h (gv.1 (by simpa using (by omega:c.toNat=88)));rw [ab this,ab h]
theorem zo:∀(r:aa),fval 48 (nums r.reverse)=nth r 0
 | []=>rfl
 | c::r=>by
  rw [Dt,xY,zo r,E4];simp only [nth];split<;>simp
theorem tR:∀(r:aa),fval 57 (nums r.reverse)=nth r (10 ^ cnt r - 1)
 | []=>rfl
 | c::r=>by
  have hp:=tc (cnt r);rw [Dt,xY,tR r,E4];simp only [nth,cnt];split
  ·rw [iV];have b:(10*(10:Int) ^ cnt r - 1) / 10=10 ^ cnt r - 1:=by omega
   have a:(10*(10:Int) ^ cnt r - 1)%10=9:=by omega
   rw [b,a];omega
  ·rfl
theorem Wl {m:aa} (a:∀c∈m,okB c=true) {x:Int} (hx:48<=x/\x<58):∀c∈m,0<=fd x ((c.toNat:Nat):Int)/\fd x ((c.toNat:Nat):Int)<10:=by
 intro c hc;rw [E4];have:=zy a c (Fh.2 hc);split
 ·omega
 ·rename_i h;exact this.resolve_left h
theorem Oc {m:aa} (c:chk m=0):pm 20000000 m=some (nth m.reverse 0,0):=by
 obtain ⟨a,_,b⟩:=ny c;have d:((0:Int) != 0)=false:=by simp
 have:=zo m.reverse;rw [wJ] at this;simp only [pm,lU 20000000 m (by omega),c,ob,d,af,wl m 48 a (Wl b (by omega)),this]
theorem EG {m:aa} (c:chk m=0):lZ 20000000 m=some (nth m.reverse (10 ^ cnt m - 1),0):=by
 obtain ⟨a,_,b⟩:=ny c;have d:((0:Int) != 0)=false:=by simp
 have:=tR m.reverse;rw [wJ,sQ] at this;simp only [lZ,lU 20000000 m (by omega),c,ob,d,af,wl m 57 a (Wl b (by omega)),this]
theorem OI {m:aa} {l:List Int} (z:List Int) (a:m.length<=18) (g:l.length=m.length) (d:∀y∈l,48<=y/\y<58):gx 20000000 m (over z 0 l)=some (fval 0 l):=by
 have f:List.take m.length (over z 0 l)=l:=by
  unfold over;rw [mH,eK,uJ (by omega),i7 (by omega)]
 have e:nums (ir l)=l:=yY l λy hy=>by have:=d y hy;omega
 have h:(ir l).length=m.length:=by simp [ir,g]
 simp only [gx,dY a,ob,dq,show Nat.ble m.length 18=true from cZ a,ah,cM,f];rw [wl (ir l) 0 (by omega) ?_,e];intro c hc;have b:((c.toNat:Nat):Int)∈l:=by rw [<-e];exact eZ.2 ⟨c,hc,rfl⟩
 have:=d _ b;unfold fd;rw [ab (by omega)];omega
theorem G0 {m:aa} (e:chk m=0) {i:Int} (c:0<=i):hasM m (nth m.reverse i)=true:=by
 obtain ⟨d,_,a⟩:=ny e;have b:=rf (zy a) i c;rw [uu] at b;rw [FT,NX (zy a) i c,am b.1,am b.2];rfl
def vl:List Int->Int
 | []=>0
 | y::l=>(y - 48)*10 ^ l.length+vl l
def digl (l:List Int):Prop:=∀y∈l,48<=y/\y<58
theorem dD {y:Int} {l:List Int} (h:digl (y::l)):digl l:=λx hx=>h x (gy _ hx)
theorem vN:∀{l:List Int},digl l->0<=vl l/\vl l<10 ^ l.length
 | [],_=>by simp [vl]
 | y::l,h=>by
  have ih:=vN (dD h);have hy:=h y (by simp);have hp:=tc l.length;simp only [vl,aC,iV];have a1:0<=(y - 48)*10 ^ l.length:=Int.mul_nonneg (by omega) (by omega);have a2:(y - 48)*10 ^ l.length<=9*10 ^ l.length:=QC (by omega) (by omega);omega
theorem Rx {y z:Int} {a b:List Int} (d:a.length=b.length) (e:digl a) (c:digl b) (h:y<z):vl (y::a)<vl (z::b):=by
 have g:=vN e;have f:=vN c;have hp:=tc a.length;simp only [vl];rw [<-d] at f ⊢;have a2:(y - 48+1)*10 ^ a.length<=(z - 48)*10 ^ a.length:=QC (by omega) (by omega);rw [Int.add_mul] at a2;omega
theorem BM:∀{l:List Int},digl l->fval 0 l=vl l
 | [],_=>rfl
 | y::l,h=>by
  have hy:=h y (by simp);have e:fval 0 (y::l)=l.foldl (λn y=>10*n+fd 0 y) (10*0+fd 0 y):=rfl;have a:fd 0 y=y - 48:=by unfold fd;rw [ab (by omega)]
  rw [e,zS,BM (dD h),a];simp only [vl,Int.mul_zero,Int.zero_add]
theorem Kx {l:List Int} {y:Int} (h:digl (l++[y])):vl (l++[y])=10*vl l+(y - 48):=by
 have hy:=h y (by simp);have a:digl l:=λx hx=>h x (by simp [hx]);rw [<-BM h,<-BM a,xY];unfold fd;rw [ab (by omega)]
theorem Qq:∀(L:Nat) (k:Int),0<=k->k<10 ^ L->vl (dg L k)=k
 | 0,k,c,a=>by simp at a;simp [dg,vl];omega
 | L+1,k,c,a=>by
  rw [iV] at a;have:=Qq L (k / 10) (by omega) (by omega);have b:=tq (L+1) k;simp only [dg] at b ⊢;rw [Kx b,this];omega
theorem XS {l:List Int} (h:digl l):dg l.length (vl l)=l:=by
 have c:∀(r:List Int),digl r.reverse->dg r.length (vl r.reverse)=r.reverse:=by
  intro r
  induction r with
  | nil=>intro _;rfl
  | cons y r ih=>
   intro h;simp only [List.reverse_cons,aC] at h ⊢;have hy:=h y (by simp);rw [Kx h];simp only [dg];have b:(10*vl r.reverse+(y - 48)) / 10=vl r.reverse:=by omega
   have a:48+(10*vl r.reverse+(y - 48))%10=y:=by omega
   rw [b,a,ih λx hx=>h x (n7.2 (.inl hx))]
 have:=c l.reverse (by rw [wJ];exact h);rwa [wJ,uu] at this
def fst (up:Bool):Int:=cond up 48 57
def lst (up:Bool):Int:=cond up 57 48
def stp (up:Bool) (y:Int):Int:=cond up (y+1) (y - 1)
def fil (up:Bool) (m:aa):List Int:=m.map λc=>cond (decide (c=88)) (fst up) ((c.toNat:Nat):Int)
def nx (up:Bool):aa->List Int->Option (List Int)
 | c::m,y::l=>
  if c=88 then
   match nx up m l with
   | some r=>some (y::r)
   | none=>if y=lst up then none else some (stp up y::fil up m)
  else if ((c.toNat:Nat):Int)=y then (nx up m l).map λr=>y::r
  else if decide (((c.toNat:Nat):Int)>y)=up then some (((c.toNat:Nat):Int)::fil up m) else none
 | _,_=>some []
def okM (m:aa):Prop:=∀c∈m,okB c=true
theorem rB {c:UInt8} {m:aa} (h:okM (c::m)):okM m:=λx hx=>h x (gy _ hx)
theorem H9 {c:UInt8} (h:okB c=true) (a:¬c=88):48<=((c.toNat:Nat):Int)/\((c.toNat:Nat):Int)<58:=by
 simp only [okB,iO,bI,az,cj] at h;have:¬c.toNat=88:=λe=>a (gv.1 (by simpa using e));omega
theorem Bc (up:Bool) (m:aa):(fil up m).length=m.length:=by simp [fil]
theorem K6 (up:Bool) {m:aa} (h:okM m):digl (fil up m):=by
 intro y hy;obtain ⟨c,hc,rfl⟩:=eZ.1 hy;by_cases a:c=88
 ·simp only [am a,ah];cases up<;>simp [fst]
 ·simp only [aq a,af];exact H9 (h c hc) a
theorem xw (up:Bool):∀(m:aa),jB m (fil up m)=true
 | []=>rfl
 | c::m=>by
  have:=xw up m;simp only [fil,fX,jB] at this ⊢;rw [this];by_cases a:c=88
  ·simp [a]
  ·simp [a]
def fm (up:Bool) (a b:Int):Prop:=match up with | true=>a<=b | false=>b<=a
theorem An (up:Bool):∀{m:aa} {e:List Int},okM m->m.length=e.length->digl e->jB m e=true->fm up (vl (fil up m)) (vl e)
 | [],[],_,_,_,_=>by cases up<;>simp [fil,vl,fm]
 | c::m,y::e,n,i,j,k=>by
  simp only [aC,xz] at i;simp only [jB,az,iO,bI,cj] at k;have ih:=An up (rB n) i (dD j) k.2;have hy:=j y (by simp);have g:=Bc up m;have l:=K6 up (rB n);have a:∀z:Int,vl (z::fil up m)=(z - 48)*10 ^ m.length+vl (fil up m):=λz=>by rw [vl,g]
  have b:fil up (c::m)=(cond (decide (c=88)) (fst up) ((c.toNat:Nat):Int))::fil up m:=rfl;rw [b];by_cases d:c=88
  ·simp only [am d,ah];by_cases f:y=fst up
   ·rw [<-f,a,vl,<-i];cases up<;>simp only [fm] at ih ⊢<;>omega
   ·cases up
    ·exact Int.le_of_lt (Rx (by rw [g,i]) (dD j) l (by simp [fst] at f ⊢;omega))
    ·exact Int.le_of_lt (Rx (by rw [g,i]) l (dD j) (by simp [fst] at f ⊢;omega))
  ·simp only [aq d,af];rw [k.1.resolve_left d,a,vl,<-i];cases up<;>simp only [fm] at ih ⊢<;>omega
 | [],_::_,_,h,_,_=>by simp at h
 | _::_,[],_,h,_,_=>by simp at h
theorem RN (up:Bool):∀{m:aa} {l:List Int},okM m->m.length=l.length->digl l->
  match nx up m l with
  | some r=>r.length=m.length/\digl r/\jB m r=true/\fm up (vl l) (vl r)/\∀e,e.length=m.length->digl e->jB m e=true->fm up (vl l) (vl e)->fm up (vl r) (vl e)
  | none=>∀e,e.length=m.length->digl e->jB m e=true->¬fm up (vl l) (vl e)
 | [],[],_,_,_=>by
  simp only [nx];refine ⟨rfl,by intro y hy;simp at hy,rfl,by cases up<;>simp [fm],?_⟩;intro e C _ _ _;simp only [ba] at C;rw [wG C];cases up<;>simp [fm]
 | c::m,y::l,M,u,U=>by
  simp only [aC,xz] at u;have ih:=RN up (rB M) u (dD U);have hy:=U y (by simp);have v:=dD U;have s:=Bc up m;have B:=K6 up (rB M);have K:∀{z w:Int} {a b:List Int},a.length=m.length->b.length=m.length->digl a->digl b->z<w->vl (z::a)<vl (w::b):=λC J N P Q=>Rx (by rw [C,J]) N P Q;have d:∀(z:Int) {a b:List Int},a.length=m.length->b.length=m.length->(fm up (vl (z::a)) (vl (z::b))↔fm up (vl a) (vl b)):=λz a b C J=>by
   simp only [vl,C,J];cases up<;>simp only [fm]<;>omega
  have o:∀{z w:Int} {a b:List Int},a.length=m.length->b.length=m.length->digl a->digl b->z≠w->(fm up (vl (z::a)) (vl (w::b))↔fm up z w):=λ{z w a b} C J N P Q=>by
   rcases Int.lt_trichotomy z w with h | h | h
   ·have:=K C J N P h;cases up<;>simp only [fm]<;>omega
   ·exact absurd h Q
   ·have:=K J C P N h;cases up<;>simp only [fm]<;>omega
  have f:∀e:List Int,e.length=(c::m).length->∃w a,e=w::a/\a.length=m.length:=λe h=>by
   match e,h with
   | w::a,h=>exact ⟨w,a,rfl,by simpa using h⟩
  by_cases g:c=88
  ·cases E:nx up m l with
   | some r=>
    rw [E] at ih;obtain ⟨H,O,T,V,S⟩:=ih;simp only [nx,ae g,E];refine ⟨by simp [H],λz t=>?_,by simp [jB,g,T],(d y u.symm H).2 V,λe A j q p=>?_⟩
    ·rcases dr.1 t with rfl | t
     ·exact hy
     ·exact O z t
    ·obtain ⟨w,a,rfl,i⟩:=f e A;simp only [jB,g,sP,HS,nI] at q;by_cases D:y=w
     ·subst D;exact (d y H i).2 (S a i (dD j) q ((d y u.symm i).1 p))
     ·exact (o H i O (dD j) D).2 ((o u.symm i v (dD j) D).1 p)
   | none=>
    rw [E] at ih;by_cases k:y=lst up
    ·simp only [nx,ae g,E,ae k];intro e A j q p;obtain ⟨w,a,rfl,i⟩:=f e A;simp only [jB,g,sP,HS,nI] at q;have hw9:=j w (by simp);by_cases D:y=w
     ·subst D;exact ih a i (dD j) q ((d y u.symm i).1 p)
     ·have:=(o u.symm i v (dD j) D).1 p;cases up<;>simp only [fm,lst,ah,af] at this k<;>omega
    ·simp only [nx,ae g,E,ab k];have hs:48<=stp up y/\stp up y<58/\y≠stp up y/\fm up y (stp up y)/\∀w,w≠y->fm up y w->fm up (stp up y) w:=by
      cases up<;>simp only [fm,lst,stp,ah,af] at k ⊢<;>exact ⟨by omega,by omega,by omega,by omega,λw C J=>by omega⟩
     obtain ⟨Y,W,s3,s4,X⟩:=hs;refine ⟨by simp [s],λz t=>?_,by simp [jB,g,xw],(o u.symm s v B s3).2 s4,λe A j q p=>?_⟩
     ·rcases dr.1 t with rfl | t
      ·exact ⟨Y,W⟩
      ·exact B z t
     ·obtain ⟨w,a,rfl,i⟩:=f e A;simp only [jB,g,sP,HS,nI] at q;by_cases D:y=w
      ·subst D;exact absurd ((d y u.symm i).1 p) (ih a i (dD j) q)
      ·have Z:=X w (λh=>D h.symm) ((o u.symm i v (dD j) D).1 p);by_cases L:stp up y=w
       ·rw [L];exact (d w s i).2 (An up (rB M) i.symm (dD j) q)
       ·exact (o s i B (dD j) L).2 Z
  ·have R:=H9 (M c (by simp)) g;have F:∀w a,jB (c::m) (w::a)=true->w=((c.toNat:Nat):Int)/\jB m a=true:=λw a h=>by
    simp only [jB,az,iO,bI,cj] at h;exact ⟨(h.1.resolve_left g).symm,h.2⟩
   by_cases n:((c.toNat:Nat):Int)=y
   ·cases E:nx up m l with
    | some r=>
     rw [E] at ih;obtain ⟨H,O,T,V,S⟩:=ih;simp only [nx,ab g,ae n,E,eX];refine ⟨by simp [H],λz t=>?_,by simp [jB,n,T],(d y u.symm H).2 V,λe A j q p=>?_⟩
     ·rcases dr.1 t with rfl | t
      ·exact hy
      ·exact O z t
     ·obtain ⟨w,a,rfl,i⟩:=f e A;obtain ⟨rfl,x⟩:=F w a q;rw [n] at p ⊢;exact (d y H i).2 (S a i (dD j) x ((d y u.symm i).1 p))
    | none=>
     rw [E] at ih;simp only [nx,ab g,ae n,E,ja];intro e A j q p;obtain ⟨w,a,rfl,i⟩:=f e A;obtain ⟨rfl,x⟩:=F w a q;rw [n] at p;exact ih a i (dD j) x ((d y u.symm i).1 p)
   ·have I:decide (((c.toNat:Nat):Int)>y)=up↔fm up y ((c.toNat:Nat):Int):=by
     cases up
     ·simp only [uK,fm];omega
     ·simp only [cj,fm];omega
    by_cases G:decide (((c.toNat:Nat):Int)>y)=up
    ·simp only [nx,ab g,ab n,ae G];refine ⟨by simp [s],λz t=>?_,by simp [jB,xw],(o u.symm s v B (λh=>n h.symm)).2 (I.1 G),λe A j q p=>?_⟩
     ·rcases dr.1 t with rfl | t
      ·exact R
      ·exact B z t
     ·obtain ⟨w,a,rfl,i⟩:=f e A;obtain ⟨rfl,x⟩:=F w a q;exact (d _ s i).2 (An up (rB M) i.symm (dD j) x)
    ·simp only [nx,ab g,ab n,ab G];intro e A j q p;obtain ⟨w,a,rfl,i⟩:=f e A;obtain ⟨rfl,x⟩:=F w a q;exact G (I.2 ((o u.symm i v (dD j) (λh=>n h.symm)).1 p))
 | [],_::_,_,h,_=>by simp at h
 | _::_,[],_,h,_=>by simp at h
def ap:aa->List Int->Nat
 | c::m,y::l=>if c=88\/((c.toNat:Nat):Int)=y then ap m l+1 else 0
 | _,_=>0
theorem Wg:∀(m:aa) (l:List Int),ap m l<=m.length
 | [],_=>by simp [ap]
 | c::m,[]=>by simp [ap]
 | c::m,y::l=>by
  have:=Wg m l;simp only [ap,aC];split<;>omega
theorem JH:∀(m:aa) (l:List Int),jB (m.take (ap m l)) (l.take (ap m l))=true
 | [],_=>by simp [ap,jB]
 | c::m,[]=>by simp [ap,jB]
 | c::m,y::l=>by
  have:=JH m l;simp only [ap];split
  ·rename_i h;simp only [nF,jB,this,D7,iO,bI,cj];exact h
  ·rfl
theorem MF:∀{m:aa} {l:List Int} {c:UInt8} {y:Int},m[ap m l]?=some c->l[ap m l]?=some y->¬c=88/\¬((c.toNat:Nat):Int)=y
 | [],_,c,y,h,_=>by simp at h
 | x::m,[],c,y,_,h=>by simp at h
 | x::m,z::l,c,y,a,b=>by
  by_cases h:x=88\/((x.toNat:Nat):Int)=z
  ·simp only [ap,ae h,HF] at a b;exact MF a b
  ·simp only [ap,ab h,mB,au] at a b;subst a b;exact ⟨λe=>h (.inl e),λe=>h (.inr e)⟩
def bkn (up:Bool):aa->List Int->aa->Option (List Int)
 | c::m,y::d,m'=>
  match bkn up m d m' with
  | some r=>some (y::r)
  | none=>if c=88/\y≠lst up then some (stp up y::fil up (m++m')) else none
 | _,_,_=>none
theorem CM (up:Bool):∀{m m':aa} {d d':List Int},m.length=d.length->jB m d=true->
  nx up (m++m') (d++d')=match nx up m' d' with | some r=>some (d++r) | none=>bkn up m d m'
 | [],m',[],d',_,_=>by
  simp only [eK];cases nx up m' d'<;>rfl
 | c::m,m',y::d,d',e,b=>by
  simp only [aC,xz] at e;simp only [jB,az,iO,bI,cj] at b;have ih:=CM up (m':=m') (d':=d') e b.2;simp only [eI,nx,ih,bkn];by_cases a:c=88
  ·simp only [ae a];cases nx up m' d' with
   | some r=>rfl
   | none=>
    cases bkn up m d m' with
    | some r=>rfl
    | none=>
     by_cases hy:y=lst up
     ·simp [hy]
     ·simp [hy,a]
  ·simp only [ab a,ae (b.1.resolve_left a)];cases nx up m' d' with
   | some r=>rfl
   | none=>
    cases bkn up m d m' with
    | some r=>rfl
    | none=>simp [a]
 | [],_,_::_,_,h,_=>by simp at h
 | _::_,_,[],_,h,_=>by simp at h
theorem F5 (up:Bool) (c:UInt8) (y:Int):∀{m m':aa} {d:List Int},m.length=d.length->
  bkn up (m++[c]) (d++[y]) m'=if c=88/\y≠lst up then some (d++stp up y::fil up m') else bkn up m d (c::m')
 | [],m',[],_=>by simp [bkn]
 | x::m,m',z::d,a=>by
  simp only [aC,xz] at a;have ih:=F5 up c y (m':=m') a;simp only [eI,bkn,ih];by_cases h:c=88/\y≠lst up
  ·simp only [ae h]
  ·simp only [ab h,iQ,eI,eK]
 | [],_,_::_,h=>by simp at h
 | _::_,_,[],h=>by simp at h
def bki (up:Bool) (m:aa) (l:List Int):Nat->Option Nat
 | 0=>none
 | j+1=>if m[j]?=some 88/\l[j]?≠some (lst up) then some j else bki up m l j
theorem QS (up:Bool) (m:aa) (l:List Int):∀{j a:Nat},bki up m l j=some a->a<j
 | 0,a,h=>by simp [bki] at h
 | j+1,a,h=>by
  simp only [bki] at h;split at h
  ·simp only [au] at h;omega
  ·have:=QS up m l h;omega
theorem G3 (up:Bool) (m:aa) (l:List Int) (d:m.length=l.length):∀j,j<=m.length->
  bkn up (m.take j) (l.take j) (m.drop j)=(bki up m l j).map λa=>l.take a++stp up (l.getD a 0)::fil up (m.drop (a+1))
 | 0,_=>by simp [bkn,bki]
 | j+1,h=>by
  obtain ⟨c,hc⟩:∃c,m[j]?=some c:=⟨m[j]'(by omega),be (by omega)⟩;obtain ⟨y,hy⟩:∃c,l[j]?=some c:=⟨l[j]'(by omega),be (by omega)⟩;have ih:=G3 up m l d j (by omega);rw [bU hc] at ih;rw [qc,qc,hc,hy];simp only [Option.toList_some];rw [F5 up c y (by simp;omega),ih];have e:l.getD j 0=y:=by rw [BS,hy];rfl
  simp only [bki,hc,hy,ne_eq,au];by_cases b:c=88/\¬y=lst up
  ·rw [ae b,ae b,eX,e]
  ·rw [ab b,ab b]
section
variable {m:List UInt8} {l z:List Int}
theorem mg (A:m.length=l.length) (v:m.length<=18) (k f g:Int) (up:Bool):
  ar (fU 20000000) 20000000 (m,k,up,f,g,0,over z 0 l,over z 0 l)=some (m,k,up,f,g,((ap m l:Nat):Int),over z 0 l,over z 0 l):=by
 have:=fJ (step:=fU 20000000) (λx=>x.1=m/\(0<=x.2.2.2.2.2.1/\x.2.2.2.2.2.1<=m.length)/\x.2.2.2.2.2.2.1=over z 0 l) (λx=>m.length - x.2.2.2.2.2.1.toNat)
  (λx=>(x.1,x.2.1,x.2.2.1,x.2.2.2.1,x.2.2.2.2.1,x.2.2.2.2.2.1+((ap (m.drop x.2.2.2.2.2.1.toNat) (l.drop x.2.2.2.2.2.1.toNat):Nat):Int),x.2.2.2.2.2.2.1,x.2.2.2.2.2.2.2)) ?_ 20000000 (m,k,up,f,g,0,over z 0 l,over z 0 l) ⟨rfl,⟨by simp,by simp⟩,rfl⟩ (by simp;omega)
 ·simpa using this
 rintro ⟨m',k,up,f,g,i,d,o⟩ ⟨s,⟨t,hi⟩,r⟩;simp only at s t hi r ⊢;subst s r;obtain ⟨j,rfl⟩:∃j:Nat,i=j:=⟨i.toNat,by omega⟩;simp only [cf];rcases aH j m'.length with n | q
 ·obtain ⟨c,hc⟩:∃c,m'[j]?=some c:=⟨m'[j],be n⟩;obtain ⟨y,hy⟩:∃c,l[j]?=some c:=⟨l[j]'(by omega),be (by omega)⟩;have u:(over z 0 l)[j]?=some y:=by rw [vS (by omega)];exact hy
  have p:(decide ((j:Int)<((List.length m':Nat):Int)))=true:=by simp;omega
  have w:IntKind.wrap .i64 ((j:Int)+1)=((j+1:Nat):Int):=by rw [wrap_i64 _ (by omega) (by omega)];omega
  rw [bU hc,bU hy];simp only [fU,p,ah,dL hc,ob,BL,w,dl (show j<18 by omega),u,ap];by_cases a:c=88
  ·refine .inl ⟨(m',k,up,f,g,((j+1:Nat):Int),over z 0 l,o),by simp only [am a,ah],⟨rfl,⟨by simp only;omega,by simp only;omega⟩,rfl⟩,by simp only [cf];omega,?_⟩;simp only [cf,ae (show c=88\/((c.toNat:Nat):Int)=y from .inl a)];congr 6;omega
  ·simp only [aq a,af];by_cases b:((c.toNat:Nat):Int)=y
   ·have e:(((c.toNat:Nat):Int)==y)=true:=by simpa using b
    refine .inl ⟨(m',k,up,f,g,((j+1:Nat):Int),over z 0 l,o),by simp only [e,ah],⟨rfl,⟨by simp only;omega,by simp only;omega⟩,rfl⟩,by simp only [cf];omega,?_⟩;simp only [cf,ae (show c=88\/((c.toNat:Nat):Int)=y from .inr b)];congr 6;omega
   ·have e:(((c.toNat:Nat):Int)==y)=false:=by simpa using b
    refine .inr ?_;simp only [e,af,ab (show ¬(c=88\/((c.toNat:Nat):Int)=y) from λh=>h.elim a b),Int.ofNat_zero,Int.add_zero,Int.natCast_zero]
 ·have p:(decide ((j:Int)<((List.length m':Nat):Int)))=false:=by simp;omega
  refine .inr ?_;simp only [fU,p,af];rw [jm q];simp [ap]
theorem MI (A:m.length=l.length) (v:m.length<=18) (f:Int) (up:Bool) (o:List Int) (i:Nat) (hi:i<=m.length):
  ar (cA 20000000) 20000000 (m,up,f,lst up,(i:Int),over z 0 l,o) =
   some (match bki up m l i with | none=>.inl (0,16) | some a=>.inr (m,up,f,((a:Nat):Int),o)):=by
 have:=fJ (step:=cA 20000000) (λx=>x.1=m/\x.2.2.2.1=lst up/\(0<=x.2.2.2.2.1/\x.2.2.2.2.1<=m.length)/\x.2.2.2.2.2.1=over z 0 l) (λx=>x.2.2.2.2.1.toNat)
  (λx=>match bki up m l x.2.2.2.2.1.toNat with | none=>.inl (0,16) | some a=>.inr (x.1,x.2.1,x.2.2.1,((a:Nat):Int),x.2.2.2.2.2.2)) ?_ 20000000 (m,up,f,lst up,(i:Int),over z 0 l,o) ⟨rfl,rfl,⟨by simp only;omega,by simp only;omega⟩,rfl⟩ (by simp;omega)
 ·simpa using this
 rintro ⟨m',n,f,g,i,d,o⟩ ⟨r,q,⟨t,hi⟩,p⟩;simp only at r q t hi p ⊢;subst r p q;obtain ⟨j,rfl⟩:∃j:Nat,i=j:=⟨i.toNat,by omega⟩;simp only [cf];rcases j with _ | j
 ·refine .inr ?_;have w:IntKind.wrap .i64 (((0:Nat):Int) - 1)=-1:=wrap_i64 _ (by omega) (by omega);simp only [cA,w,show decide ((-1:Int)<0)=true from rfl,ah,bki]
 ·have w:IntKind.wrap .i64 (((j+1:Nat):Int) - 1)=(j:Int):=by rw [wrap_i64 _ (by omega) (by omega)];omega
  have s:decide ((j:Int)<0)=false:=by simp
  obtain ⟨c,hc⟩:∃c,m'[j]?=some c:=⟨m'[j]'(by omega),be (by omega)⟩;obtain ⟨y,hy⟩:∃c,l[j]?=some c:=⟨l[j]'(by omega),be (by omega)⟩;have u:(over z 0 l)[j]?=some y:=by rw [vS (by omega)];exact hy
  simp only [cA,w,s,af,dL hc,ob,BL,dl (show j<18 by omega),u,bki,hc,hy,au,ne_eq];by_cases b:c=88
  ·by_cases k:y=lst up
   ·have e:(y != lst up)=false:=by simpa using k
    refine .inl ⟨(m',n,f,lst up,(j:Int),over z 0 l,o),by simp only [am b,ah,e,af],⟨rfl,rfl,⟨by simp only;omega,by simp only;omega⟩,rfl⟩,by simp only [cf];omega,?_⟩;simp only [cf,ab (show ¬(c=88/\¬y=lst up) from λh=>h.2 k)]
   ·have e:(y != lst up)=true:=by simpa using k
    refine .inr ?_;simp only [am b,ah,e,ae (show c=88/\¬y=lst up from ⟨b,k⟩)]
  ·refine .inl ⟨(m',n,f,lst up,(j:Int),over z 0 l,o),by simp only [aq b,af],⟨rfl,rfl,⟨by simp only;omega,by simp only;omega⟩,rfl⟩,by simp only [cf];omega,?_⟩;simp only [cf,ab (show ¬(c=88/\¬y=lst up) from λh=>b h.1)]
theorem BV (r:m.length<=18) (up:Bool) (d:List Int) (e:d.length=18) (i:Nat) (hi:i<=m.length):
  ar (bw 20000000) 20000000 (m,fst up,(i:Int),d)=some (m,over d i (fil up (m.drop i))):=by
 have:=fJ (step:=bw 20000000) (λx=>x.1=m/\x.2.1=fst up/\(0<=x.2.2.1/\x.2.2.1<=m.length)/\x.2.2.2.length=18) (λx=>m.length - x.2.2.1.toNat)
  (λx=>(m,over x.2.2.2 x.2.2.1.toNat (fil up (m.drop x.2.2.1.toNat)))) ?_ 20000000 (m,fst up,(i:Int),d) ⟨rfl,rfl,⟨by simp only;omega,by simp only;omega⟩,e⟩ (by simp;omega)
 ·simpa using this
 rintro ⟨m',f,i,d⟩ ⟨o,l,⟨p,hi⟩,e⟩;simp only at o l p hi e ⊢;subst o l;obtain ⟨j,rfl⟩:∃j:Nat,i=j:=⟨i.toNat,by omega⟩;simp only [cf];rcases aH j m'.length with g | k
 ·obtain ⟨c,hc⟩:∃c,m'[j]?=some c:=⟨m'[j],be g⟩;have n:j<18:=by omega
  have h:(decide ((j:Int)<((List.length m':Nat):Int)))=true:=by simp;omega
  have s:IntKind.wrap .i64 ((j:Int)+1)=((j+1:Nat):Int):=by rw [wrap_i64 _ (by omega) (by omega)];omega
  have q:Nat.blt j 18=true:=cZ n;have b:∀c:UInt8,fil up (c::m'.drop (j+1))=(cond (decide (c=88)) (fst up) ((c.toNat:Nat):Int))::fil up (m'.drop (j+1)):=λ_=>rfl;rw [bU hc,b];simp only [bw,h,ah,dL hc,ob,BL,dl n,q,s];by_cases a:c=88
  ·refine .inl ⟨(m',fst up,((j+1:Nat):Int),(d.set j ((c.toNat:Nat):Int)).set j (fst up)),by simp only [am a,ah],⟨rfl,rfl,⟨by simp only;omega,by simp only;omega⟩,by simpa using e⟩,by simp only [cf];omega,?_⟩;simp only [cf,am a,ah];rw [List.set_set,zX _ _ _ _ (by omega)]
  ·refine .inl ⟨(m',fst up,((j+1:Nat):Int),d.set j ((c.toNat:Nat):Int)),by simp only [aq a,af],⟨rfl,rfl,⟨by simp only;omega,by simp only;omega⟩,by simpa using e⟩,by simp only [cf];omega,?_⟩;simp only [cf,aq a,af];rw [zX _ _ _ _ (by omega)]
 ·have h:(decide ((j:Int)<((List.length m':Nat):Int)))=false:=by simp;omega
  refine .inr ?_;simp only [bw,h,af];rw [jm k];simp [fil,HQ]
theorem BO (z l F:List Int) (i:Nat) (h:i+F.length=l.length):over (over z 0 l) i F=over z 0 (l.take i++F):=by
 unfold over;simp only [mH,eK,dq,aL,da,sO (show i<=l.length by omega),h];rw [uJ (by omega),List.drop_append_of_le_length (by omega),List.drop_of_length_le (aY l.length)];simp
end
theorem MO {m:aa} (hm:chk m=0) (up:Bool) (k:Int) (W:0<=k) (X:k<10 ^ m.length):
  du 20000000 m k up=some (match nx up m (dg m.length k) with | some r=>(vl r,0) | none=>(0,16)):=by
 obtain ⟨g,_,J⟩:=ny hm;have hp:=CE m.length g;have f:=xe m.length k;have o:=tq m.length k;have S:=Qq m.length k W X;have Q:=RN up J f.symm o;have j:=O0 m k g W (by omega);generalize dg m.length k=l at f o S Q j ⊢;have n:(over [0,0,0,0,0,0,0,0,0,0,0,0,0,0,0,0,0,0] 0 l).length=18:=by rw [Qe _ _ _ (by simp;omega)];rfl
 have A:∀r:List Int,nx up m l=some r->gx 20000000 m (over [0,0,0,0,0,0,0,0,0,0,0,0,0,0,0,0,0,0] 0 r)=some (vl r):=by
  intro r hr;rw [hr] at Q;obtain ⟨Z,U,_⟩:=Q;rw [OI _ g Z U,BM U]
 have u:=Wg m l;have F:=JH m l;have b:=CM up (m:=m.take (ap m l)) (m':=m.drop (ap m l)) (d:=l.take (ap m l)) (d':=l.drop (ap m l)) (by simp;omega) F;rw [uo,uo] at b;have h:lH 20000000 m k=some (over [0,0,0,0,0,0,0,0,0,0,0,0,0,0,0,0,0,0] 0 l):=j;generalize hzz:([0,0,0,0,0,0,0,0,0,0,0,0,0,0,0,0,0,0]:List Int)=z at n A h;rcases aH (ap m l) m.length with H | hge
 ·obtain ⟨c,hc⟩:∃c,m[ap m l]?=some c:=⟨m[ap m l],be H⟩;obtain ⟨y,hy⟩:∃c,l[ap m l]?=some c:=⟨l[ap m l]'(by omega),be (by omega)⟩;obtain ⟨E,M⟩:=MF hc hy;have C:(over z 0 l)[ap m l]?=some y:=by rw [vS (by omega)];exact hy
  have s:(((ap m l:Nat):Int)==((List.length m:Nat):Int))=false:=by simp;omega
  have B:ap m l<18:=by omega
  have I:fil up (m.drop (ap m l))=((c.toNat:Nat):Int)::fil up (m.drop (ap m l+1)):=by
   rw [bU hc];simp [fil,E]
  have R:=G3 up m l f.symm (ap m l) u;have N:nx up (m.drop (ap m l)) (l.drop (ap m l))=if decide (((c.toNat:Nat):Int)>y)=up then some (fil up (m.drop (ap m l))) else none:=by
   rw [I,bU hc,bU hy];simp only [nx,ab E,ab M]
  rw [N] at b;by_cases q:decide (((c.toNat:Nat):Int)>y)=up
  ·rw [ae q] at b;simp only at b;have x:=A _ b;rw [b];simp only [];rw [<-BO z l _ _ (by rw [Bc,bR];omega)] at x;have D:=BV g up _ n (ap m l) u;cases up
   ·have i:=mg (z:=z) f.symm g k 57 48 false;have l2':ar (bw 20000000) 20000000 (m,57,((ap m l:Nat):Int),over z 0 l)=_:=D;simp only [du,ij,ah,h,ob,i,s,af,dL hc,dl B,C,q,sP,co,l2',x]
   ·have i:=mg (z:=z) f.symm g k 48 57 true;have l2':ar (bw 20000000) 20000000 (m,48,((ap m l:Nat):Int),over z 0 l)=_:=D;simp only [du,co,ah,h,ob,i,s,af,dL hc,dl B,C,q,sP,l2',x]
  ·rw [ab q] at b;simp only [R] at b;have p:(!(decide (((c.toNat:Nat):Int)>y)==up))=true:=by
    cases up<;>cases hh:decide (((c.toNat:Nat):Int)>y)<;>simp_all
   have t:=MI (z:=z) f.symm g (fst up) up (over z 0 l) (ap m l) u;cases L:bki up m l (ap m l) with
   | none=>
    rw [L] at b t;simp only [ja] at b;rw [b];simp only [] at t ⊢;cases up
    ·have i:=mg (z:=z) f.symm g k 57 48 false;have l1':ar (cA 20000000) 20000000 (m,false,57,48,((ap m l:Nat):Int),over z 0 l,over z 0 l)=_:=t;simp only [du,ij,ah,h,ob,i,s,af,dL hc,dl B,C,p,l1']
    ·have i:=mg (z:=z) f.symm g k 48 57 true;have l1':ar (cA 20000000) 20000000 (m,true,48,57,((ap m l:Nat):Int),over z 0 l,over z 0 l)=_:=t;simp only [du,co,ah,h,ob,i,s,af,dL hc,dl B,C,p,l1']
   | some a=>
    have ha:=QS up m l L;obtain ⟨w,K⟩:∃c,l[a]?=some c:=⟨l[a]'(by omega),be (by omega)⟩;have G:(over z 0 l)[a]?=some w:=by rw [vS (by omega)];exact K
    have O:l.getD a 0=w:=by rw [BS,K];rfl
    have Y:=o w (fZ K);have v:a<18:=by omega
    have T:Nat.blt a 18=true:=cZ v;have V:IntKind.wrap .i64 ((a:Int)+1)=((a+1:Nat):Int):=by rw [wrap_i64 _ (by omega) (by omega)];omega
    rw [L] at b t;simp only [eX,O] at b;have x:=A _ b;rw [b];simp only [] at t ⊢;rw [<-BO z l _ _ (by rw [aC,Bc,bR];omega),<-zX _ _ _ _ (by omega)] at x;have D:=BV g up ((over z 0 l).set a (stp up w)) (by simpa using n) (a+1) (by omega);cases up
    ·have i:=mg (z:=z) f.symm g k 57 48 false;have l1':ar (cA 20000000) 20000000 (m,false,57,48,((ap m l:Nat):Int),over z 0 l,over z 0 l)=some (.inr (m,false,57,((a:Nat):Int),over z 0 l)):=t;have l2':ar (bw 20000000) 20000000 (m,57,((a+1:Nat):Int),(over z 0 l).set a (w - 1))=_:=D;have P:IntKind.wrap .u8 (w - 1)=w - 1:=ks _ (by omega) (by omega);simp only [du,ij,ah,h,ob,i,s,af,dL hc,dl B,C,p,l1',dl v,G,T,V,P,l2',x]
    ·have i:=mg (z:=z) f.symm g k 48 57 true;have l1':ar (cA 20000000) 20000000 (m,true,48,57,((ap m l:Nat):Int),over z 0 l,over z 0 l)=some (.inr (m,true,48,((a:Nat):Int),over z 0 l)):=t;have l2':ar (bw 20000000) 20000000 (m,48,((a+1:Nat):Int),(over z 0 l).set a (w+1))=_:=D;have P:IntKind.wrap .u8 (w+1)=w+1:=ks _ (by omega) (by omega);simp only [du,co,ah,h,ob,i,s,af,dL hc,dl B,C,p,l1',dl v,G,T,V,P,l2',x]
 ·have e:ap m l=m.length:=by omega
  rw [e,vt,<-f,vt,nQ] at b;simp only [nx,nP] at b;have s:(((ap m l:Nat):Int)==((List.length m:Nat):Int))=true:=by rw [e];simp
  rw [b];simp only [S];cases up
  ·have i:=mg (z:=z) f.symm g k 57 48 false;simp only [du,ij,ah,h,ob,i,s]
  ·have i:=mg (z:=z) f.symm g k 48 57 true;simp only [du,co,af,h,ob,i,s,ah]
def near (up:Bool) (m:aa) (k:Int):Option Int->Prop
 | some R=>hasM m R=true/\fm up k R/\∀e,hasM m e=true->fm up k e->fm up R e
 | none=>∀e,hasM m e=true->¬fm up k e
def res (o:Option Int):Int×Int:=match o with | some r=>(r,0) | none=>(0,16)
theorem ov {m:aa} {e:Int} (h:hasM m e=true):(dg m.length e).length=m.length/\digl (dg m.length e)/\jB m (dg m.length e)=true/\vl (dg m.length e)=e/\0<=e/\e<10 ^ m.length:=by
 unfold hasM at h;simp only [az,cj] at h;exact ⟨xe _ _,tq _ _,h.2.2,Qq _ _ h.1 h.2.1,h.1,h.2.1⟩
theorem Ta {m:aa} {r:List Int} (e:r.length=m.length) (c:digl r) (d:jB m r=true):hasM m (vl r)=true:=by
 have a:=vN c;have b:=XS c;rw [e] at a b;unfold hasM;rw [b,d,am a.1,am a.2];rfl
theorem xn {m:aa} (p:chk m=0) (up:Bool) (k:Int) (n:0<=k) (l:k<10 ^ m.length):∃o,du 20000000 m k up=some (res o)/\near up m k o:=by
 obtain ⟨s,_,h⟩:=ny p;have b:=RN up h (xe m.length k).symm (tq m.length k);have i:=Qq m.length k n l;refine ⟨(nx up m (dg m.length k)).map vl,?_,?_⟩
 ·rw [MO p up k n l];cases nx up m (dg m.length k)<;>rfl
 ·cases hx:nx up m (dg m.length k) with
  | none=>
   rw [hx] at b;intro e f g;obtain ⟨j,c,d,a,_⟩:=ov f;exact b _ j c d (by rw [i,a];exact g)
  | some r=>
   rw [hx] at b;obtain ⟨t,u,w,q,v⟩:=b;refine ⟨Ta t u w,by rw [i] at q;exact q,λe f g=>?_⟩;obtain ⟨j,c,d,a,_⟩:=ov f;have:=v _ j c d (by rw [i,a];exact g);rwa [a] at this
theorem Gp {m:aa} {e:Int} (h:hasM m e=true):0<=idx m.reverse e/\idx m.reverse e<10 ^ cnt m/\nth m.reverse (idx m.reverse e)=e:=by
 rw [FT] at h;simp only [az,cj] at h;obtain ⟨k0,k1,k2⟩:=h;have:=wK m.reverse e k0;rw [sQ] at this;exact ⟨this.1,this.2,LQ k0 (by rw [uu];exact k1) k2⟩
section
variable {m:List UInt8} (hm:chk m=0)
include hm
theorem M9 {i j:Int} (c:0<=i) (b:i<=j) (e:j<10 ^ cnt m):nth m.reverse i<=nth m.reverse j:=by
 obtain ⟨d,_,a⟩:=ny hm;rcases Int.lt_or_eq_of_le b with h | rfl
 ·exact Int.le_of_lt (Ah (zy a) i j c h (by rw [sQ];exact e))
 ·exact yZ _
theorem CW (k:Int):mn 20000000 m k=some (decide (0<=k/\k<10 ^ m.length)):=by
 obtain ⟨b,_,c⟩:=ny hm;simp only [mn,OA m.length b,ob];by_cases a:0<=k
 ·have d0:decide (k>=0)=true:=by simpa using a
  simp only [d0,ah,a,jI,oh]
 ·have d0:decide (k>=0)=false:=by simpa using a
  simp only [d0,af,a,wQ,nD]
theorem M8 (k:Int):∃o,rK 20000000 m k=some (res o)/\near true m k o:=by
 obtain ⟨p,_,c⟩:=ny hm;have j:((0:Int) != 0)=false:=by simp
 simp only [rK,lU 20000000 m (by omega),hm,mN,j,af,CW hm];by_cases b:k<0
 ·refine ⟨some (nth m.reverse 0),by simp only [am b,ah,Oc hm,mN,res],G0 hm (by omega),?_,λe d f=>?_⟩
  ·have:=(rf (zy c) 0 (by omega)).1;simp only [fm];omega
  ·obtain ⟨n,l,r⟩:=Gp d;have:=M9 hm (yZ 0) n l;simp only [fm];omega
 ·by_cases a:k<10 ^ m.length
  ·obtain ⟨o,q,g⟩:=xn hm true k (by omega) a;exact ⟨o,by simp only [aq b,af,am (show 0<=k/\k<10 ^ m.length from ⟨by omega,a⟩),co,q,mN],g⟩
  ·refine ⟨none,by simp only [aq b,af,aq (show ¬(0<=k/\k<10 ^ m.length) from λh=>a h.2),ij,ah,res],λe d f=>?_⟩;obtain ⟨_,_,_,_,_,i⟩:=ov d;simp only [fm] at f;omega
theorem LK (k:Int):∃o,rU 20000000 m k=some (res o)/\near false m k o:=by
 obtain ⟨n,_,d⟩:=ny hm;have j:((0:Int) != 0)=false:=by simp
 simp only [rU,lU 20000000 m (by omega),hm,mN,j,af,CW hm];by_cases b:k<0
 ·refine ⟨none,by simp only [am b,ah,res],λe c f=>?_⟩;obtain ⟨_,_,_,_,i,_⟩:=ov c;simp only [fm] at f;omega
 ·by_cases a:k<10 ^ m.length
  ·obtain ⟨o,q,g⟩:=xn hm false k (by omega) a;exact ⟨o,by simp only [aq b,af,am (show 0<=k/\k<10 ^ m.length from ⟨by omega,a⟩),co,q,mN],g⟩
  ·have p:=tc (cnt m);refine ⟨some (nth m.reverse (10 ^ cnt m - 1)),by simp only [aq b,af,aq (show ¬(0<=k/\k<10 ^ m.length) from λh=>a h.2),ij,ah,EG hm,mN,res],G0 hm (by omega),?_,λe c f=>?_⟩
   ·have:=(rf (zy d) (10 ^ cnt m - 1) (by omega)).2;rw [uu] at this;simp only [fm];omega
   ·obtain ⟨l,r,s⟩:=Gp c;have:=M9 hm l (show idx m.reverse e<=10 ^ cnt m - 1 by omega) (by omega);simp only [fm];omega
end
end Go.Sh.Mk
namespace Go.Sh
open Go.Abs
def fitN (s:aa) (g:Nat):List Nat:=(List.range' 1 g).filter (agr s)
def ua (l:List Nat):List Int:=l.map λk:Nat=>(k:Int)
theorem C9 (l:List Nat):(ua l).length=l.length:=by simp [ua]
theorem C0 (c:UInt8) {j:Nat} (a:j<10):(IntKind.wrap .i64 (IntKind.wrap .u8 (((c.toNat:Nat):Int) - 48))==((j:Nat):Int))=(c==UInt8.ofNat (48+j)):=by
 have hc:=c.toNat_lt;have b:=Ae (((c.toNat:Nat):Int) - 48);rw [wrap_i64 _ (by omega) (by omega),Iw,tN,bI,bI];have d:(UInt8.ofNat (48+j)).toNat=48+j:=by simp;omega
 constructor
 ·intro h;apply gv.1;omega
 ·rintro rfl;omega
theorem NE (n:Nat) (a b:UInt8) {k:Nat} (l:k<=31):kN n [a,b] (k:Int)=some (agr [a,b] k):=by
 have j:IntKind.wrap .i64 (Int.tdiv (k:Int) 10)=((k / 10:Nat):Int):=by
  rw [show Int.tdiv (k:Int) 10=((k / 10:Nat):Int) from rfl,wrap_i64 _ (by omega) (by omega)]
 have d:Int.tmod (k:Int) 10=((k%10:Nat):Int):=rfl;have s0:sx [a,b] 0=some a:=rfl;have e:sx [a,b] 1=some b:=rfl;have c:(88:Int)=((88:Nat):Int):=rfl;unfold kN;simp only [s0,e,ob,j,d];rw [C0 a (show k / 10<10 by omega),C0 b (show k%10<10 by omega),c,vk (by omega),vk (by omega)];show _=some ((a==UInt8.ofNat 88||a==UInt8.ofNat (48+k / 10))&&(b==UInt8.ofNat 88||b==UInt8.ofNat (48+k%10)));generalize (a==UInt8.ofNat 88)=g;generalize (b==UInt8.ofNat 88)=i;generalize (a==UInt8.ofNat (48+k / 10))=h;generalize (b==UInt8.ofNat (48+k%10))=f;cases g<;>cases i<;>cases h<;>cases f<;>rfl
theorem room {k:Nat} (h:k<=60000000):Nat.ble (k+1) gN=true:=cZ (by unfold gN;omega)
theorem Ho {X Y:Type} {step:X->Option (X⊕Y)} {f:Nat->List Int->X} {y:List Int->Y} {p:Nat->Bool} {g:Nat} (e:g<=1000)
  (h:∀i out,i<g->out.length<=1000->step (f i out)=some (.inl (f (i+1) (if p (i+1) then out++[((i+1:Nat):Int)] else out))))
  (d:∀out,step (f g out)=some (.inr (y out))) {N:Nat} (a:g<N):ar step N (f 0 [])=some (y (ua ((List.range' 1 g).filter p))):=by
 have c:∀(r i:Nat) (out:List Int),i+r=g->out.length<=i->∀N,r<N->ar step N (f i out)=some (y (out++ua ((List.range' (i+1) r).filter p))):=by
  intro r
  induction r with
  | zero=>
   intro i out hi b N a;obtain ⟨N,rfl⟩:∃q,N=q+1:=⟨N - 1,by omega⟩;obtain rfl:i=g:=by omega
   rw [ar,d];simp [ua]
  | succ r ih=>
   intro i out hi b N a;obtain ⟨N,rfl⟩:∃q,N=q+1:=⟨N - 1,by omega⟩;rw [ar,h i out (by omega) (by omega)];show ar step N _=_;by_cases hp:p (i+1)=true
   ·rw [ae hp,ih (i+1) _ (by omega) (by simp;omega) N (by omega),xg,Qs hp];simp [ua]
   ·rw [ab hp,ih (i+1) _ (by omega) (by omega) N (by omega),xg,Qv hp]
 have:=c g 0 [] (by omega) (by simp) N a;simpa using this
theorem LX (n:Nat) (j:100<n) (a b:UInt8) {g:Nat} (h:g<=31):fq n [a,b] (g:Int)=some (ua (fitN [a,b] g)):=by
 unfold fq
 have:=Ho (step:=f8 n) (f:=λi out=>([a,b],(g:Int),(i:Int),out)) (y:=λl=>l) (p:=agr [a,b]) (g:=g) (by omega)
  (λi out hi e=>by
   have d:IntKind.wrap .i64 ((i:Int)+1)=((i+1:Nat):Int):=by rw [wrap_i64 _ (by omega) (by omega)];omega
   unfold f8;simp only [d];rw [am (show (i:Int)<(g:Int) by omega),NE n a b (by omega),room (by omega)];by_cases hp:agr [a,b] (i+1)=true
   ·rw [ae hp];simp only [ob,hp,ah]
   ·rw [ab hp];rw [Gz] at hp;simp only [ob,hp,ah,af])
  (λout=>by
   unfold f8;simp only [aq (show ¬(g:Int)<(g:Int) by omega),af])
  (N:=n) (by omega)
 have c:ar (f8 n) n ([a,b],(g:Int),0,([]:List Int))=_:=this;rw [c];rfl
def monI (m:aa):List Int:=if m=[] then [0] else if 0<sea m then [sea m] else ua (fitN m 12)
def dayI (d:aa):List Int:=if d=[] then [0] else ua (fitN d 31)
theorem f9 {l:aa} (h:l≠[]):(l==([]:aa))=false:=aM.2 h
theorem len2 {s:aa} (h:s.length=2):∃a b,s=[a,b]:=by
 match s,h with
 | [a,b],_=>exact ⟨a,b,rfl⟩
theorem Yq (n:Nat) (k:100<n) (g l:Bool) (dg:aa) (x q:Int) (m d:aa) (k0 k1 k2:Int) (j:m=[]\/m.length=2) (p:d=[]\/d.length=2):
  pF n g l dg x q m d k0 k1 k2=some (g,l,dg,x,q,m,d,k0,k1,k2,monI m,dayI d):=by
 have f:m.length<=18:=by rcases j with h | h;(rw [h];simp);omega
 have i:d≠[]->fq n d 31=some (dayI d):=λh=>by
  obtain ⟨a,b,rfl⟩:=len2 (p.resolve_left h);rw [show (31:Int)=((31:Nat):Int) from rfl,LX n k a b (by omega)];unfold dayI;rw [ab h]
 have e:d=[]->dayI d=[0]:=λh=>by unfold dayI;rw [ae h]
 have o:m≠[]->¬0<sea m->fq n m 12=some (monI m):=λh hs=>by
  obtain ⟨a,b,rfl⟩:=len2 (j.resolve_left h);rw [show (12:Int)=((12:Nat):Int) from rfl,LX n k a b (by omega)];unfold monI;rw [ab h,ab hs]
 unfold pF;rw [qz n g l dg x q m d k0 k1 k2 f];simp only [ob];by_cases hs:0<sea m
 ·have c:m≠[]:=by rintro rfl;exact absurd hs (by decide)
  have hm':monI m=[sea m]:=by unfold monI;rw [ab c,ae hs]
  rw [am hs];by_cases h:d=[]
  ·rw [h,<-h,e h,hm',h];rfl
  ·rw [f9 h,i h,hm'];rfl
 ·rw [aq hs];by_cases c:m=[]
  ·have hm':monI m=[0]:=by unfold monI;rw [ae c]
   by_cases h:d=[]
   ·rw [e h,hm',h,c];rfl
   ·rw [f9 h,i h,hm',c];rfl
  ·rw [f9 c,o c hs];by_cases h:d=[]
   ·rw [e h,h];rfl
   ·rw [f9 h,i h];rfl
theorem Ih (n:Nat) (c:100<n) (g l:Bool) (dg:aa) (x q:Int) (m d:aa) (k0 k1 k2:Int):jF n g l dg x q m d k0 k1 k2=some (monI m):=by
 unfold jF;by_cases a:m=[]
 ·unfold monI;rw [ae a,a];rfl
 ·rw [f9 a,oN n c];simp only [ob,af];unfold monI;rw [ab a];by_cases hs:0<sea m
  ·rw [ae hs,am (show sea m>0 from hs)];rfl
  ·rw [ab hs,aq (show ¬sea m>0 from hs)]
   have:=Ho (step:=dS n) (f:=λi out=>(((i+1:Nat):Int),g,l,dg,x,q,m,d,k0,k1,k2,out)) (y:=λl=>l) (p:=agr m) (g:=12) (by omega)
    (λi out hi h=>by
     have e:IntKind.wrap .i64 (((i+1:Nat):Int)+1)=((i+1+1:Nat):Int):=by rw [wrap_i64 _ (by omega) (by omega)];omega
     unfold dS;simp only [d4,d8,e];rw [am (show ((i+1:Nat):Int)<=12 by omega),uL n m (i+1) (by omega),room (by omega)];by_cases hp:agr m (i+1)=true
     ·rw [ae hp,ae hp];rfl
     ·rw [ab hp,ab hp];rfl)
    (λout=>by
     unfold dS;simp only [d4,d8,aq (show ¬((12+1:Nat):Int)<=12 by omega),af])
    (N:=n) (by omega)
   have b:ar (dS n) n (1,g,l,dg,x,q,m,d,k0,k1,k2,([]:List Int))=_:=this;rw [b];rfl
def sR (y:Int):Bool:=decide (y%4=0)&&(decide (y%100≠0)||decide (y%400=0))
def lenI (y m:Int):Int:=if m=4\/m=6\/m=9\/m=11 then 30 else if m=2 then (if sR y then 29 else 28) else 31
theorem MQ (y:Int) {b:Int} (d:0<b):(Int.tmod y b==0)=decide (y%b=0):=by
 rw [tN,bI,decide_eq_true_iff];have h:=KL (a:=y) (b:=b);have f:=LL y (show b≠0 by omega);have g:=K4 y d;by_cases hc:0<=y\/b∣y
 ·rw [ae hc] at h;omega
 ·rw [ab hc] at h;have c:¬b∣y:=λe=>hc (.inr e);have:y%b≠0:=λe=>c (J4 e);omega
theorem BH (n:Nat) (y m:Int):eC n y m=some (lenI y m):=by
 have a:(Int.tmod y 100 != 0)=decide (y%100≠0):=by
  rw [bne,MQ y (by omega)];by_cases h:y%100=0<;>simp [h]
 unfold eC;rw [MQ y (by omega),MQ y (by omega),a];have body:(cond (m==2) (cond (decide (y%4=0)) (cond (decide (y%100≠0)) (some (29:Int)) (cond (decide (y%400=0)) (some 29) (some 28))) (some 28)) (some 31))=some (if m=2 then (if sR y=true then 29 else 28) else 31):=by
  rw [kl];by_cases c:m=2
  ·rw [ae c,ae c];unfold sR;cases decide (y%4=0)<;>cases decide (y%100≠0)<;>cases decide (y%400=0)<;>rfl
  ·rw [ab c,ab c]
 rw [body];unfold lenI;by_cases f:m=4
 ·subst f;rfl
 ·by_cases d:m=6
  ·subst d;rfl
  ·by_cases e:m=9
   ·subst e;rfl
   ·by_cases b:m=11
    ·subst b;rfl
    ·rw [aM.2 f,aM.2 d,aM.2 e,aM.2 b,ab (show ¬(m=4\/m=6\/m=9\/m=11) by omega)];rfl
theorem xT (n:Nat) {y:Int} (h:-20000000000000000<=y/\y<=20000000000000000):fA n y=some (1+(y - 1) / 4 - (y - 1) / 100+(y - 1) / 400):=by
 unfold fA;rw [wrap_i64 (y - 1) (by omega) (by omega),wA n (by omega) (by omega) (by omega) (by omega),wA n (by omega) (by omega) (by omega) (by omega),wA n (by omega) (by omega) (by omega) (by omega)];show some _=some _;have f:-5000000000000001<=(y - 1) / 4/\(y - 1) / 4<=5000000000000001:=by omega
 have d:-5000000000000001<=(y - 1) / 100/\(y - 1) / 100<=5000000000000001:=by omega
 have e:-5000000000000001<=(y - 1) / 400/\(y - 1) / 400<=5000000000000001:=by omega
 generalize (y - 1) / 4=a at *;generalize (y - 1) / 100=b at *;generalize (y - 1) / 400=c at *;simp only [];rw [wrap_i64 (1*a) (by omega) (by omega),wrap_i64 (-1*b) (by omega) (by omega),wrap_i64 (1*c) (by omega) (by omega),wrap_i64 (1+1*a) (by omega) (by omega),wrap_i64 (1+1*a+-1*b) (by omega) (by omega),wrap_i64 _ (by omega) (by omega)];congr 1;omega
theorem OF (y:Int):(1+y / 4 - y / 100+y / 400>1+(y - 1) / 4 - (y - 1) / 100+(y - 1) / 400)↔sR y=true:=by
 unfold sR;simp only [az,iO,cj];omega
theorem Sm (n:Nat) {y:Int} (h:dX y):kH n y=some (sR y,0):=by
 unfold kH;have h':=h;unfold dX at h';rw [gF,ae h,wrap_i64 (y+1) (by omega) (by omega),xT n (by omega),xT n (by omega),show y+1 - 1=y by omega];have b:=OF y;show some (decide (1+y / 4 - y / 100+y / 400>1+(y - 1) / 4 - (y - 1) / 100+(y - 1) / 400),(0:Int))=_;by_cases a:sR y=true
 ·rw [a,am (b.2 a)]
 ·rw [Gz] at a;rw [a,aq (λe=>by rw [b.1 e] at a;cases a)]
theorem xa (n:Nat) {y:Int} (h:dX y) {m:Nat} (c:1<=m) (d:m<=12):eD n y (m:Int)=some (lenI y (m:Int)):=by
 unfold eD;rw [Sm n h];show cond (sR y&&((m:Int)==2)) _ _=_;have a:IntKind.wrap .i64 ((m:Int) - 1)=((m - 1:Nat):Int):=by rw [wrap_i64 _ (by omega) (by omega)];omega
 rw [a,dl (show m - 1<12 by omega)];have b:m=1\/m=2\/m=3\/m=4\/m=5\/m=6\/m=7\/m=8\/m=9\/m=10\/m=11\/m=12:=by omega
 rcases b with rfl | rfl | rfl | rfl | rfl | rfl | rfl | rfl | rfl | rfl | rfl | rfl<;>unfold lenI<;>cases sR y<;>rfl
theorem N1 (n:Nat) {y:Int} (h:dX y) {m:Nat} (a:1<=m) (b:m<=12):oQ n y (m:Int)=some (lenI y (m:Int),0):=by
 unfold oQ;rw [H5 n h a b,xa n h a b];rfl
theorem lF (y m:Int):28<=lenI y m/\lenI y m<=31:=by
 unfold lenI;split
 ·omega
 ·split
  ·split<;>omega
  ·omega
def xj (d:aa) (y m:Int):Int:=if d=[] then 0 else lenI y m
def vj (d:aa) (y a:Int):List (Int×Int×Int):=((dayI d).filter λk=>decide (k<=xj d y a)).map λk=>(y,a,k)
def yq (m d:aa) (y:Int):List (Int×Int×Int):=(monI m).flatMap (vj d y)
theorem Nr {X Y A:Type} {step:X->Option (X⊕Y)} {f:Nat->List A->X} {y:List A->Y} {p:Nat->Bool} {e:Nat->A} {g:Nat} (a:List A)
  (h:∀i out,i<g->out.length<=a.length+i->step (f i out)=some (.inl (f (i+1) (if p (i+1) then out++[e (i+1)] else out))))
  (j:∀out,step (f g out)=some (.inr (y out))) {N:Nat} (b:g<N):ar step N (f 0 a)=some (y (a++((List.range' 1 g).filter p).map e)):=by
 have d:∀(r i:Nat) (out:List A),i+r=g->out.length<=a.length+i->∀N,r<N->ar step N (f i out)=some (y (out++((List.range' (i+1) r).filter p).map e)):=by
  intro r
  induction r with
  | zero=>
   intro i out hi c N b;obtain ⟨N,rfl⟩:∃q,N=q+1:=⟨N - 1,by omega⟩;obtain rfl:i=g:=by omega
   rw [ar,j];simp
  | succ r ih=>
   intro i out hi c N b;obtain ⟨N,rfl⟩:∃q,N=q+1:=⟨N - 1,by omega⟩;rw [ar,h i out (by omega) (by omega)];show ar step N _=_;by_cases hp:p (i+1)=true
   ·rw [ae hp,ih (i+1) _ (by omega) (by simp;omega) N (by omega),xg,Qs hp];simp
   ·rw [ab hp,ih (i+1) _ (by omega) (by omega) N (by omega),xg,Qv hp]
 exact d g 0 a (by omega) (by omega) N b
theorem LJ {X Y A B:Type} {step:X->Option (X⊕Y)} {f:Nat->List A->X} {y:List A->Y} {F:B->List A} {L:List B} {c:Nat} (hc:∀b∈L,(F b).length<=c)
  (h:∀i b out,L[i]?=some b->out.length<=c*i->step (f i out)=some (.inl (f (i+1) (out++F b))))
  (j:∀out,step (f L.length out)=some (.inr (y out))) {N:Nat} (a:L.length<N):ar step N (f 0 [])=some (y (L.flatMap F)):=by
 have g:∀(r i:Nat) (out:List A),i+r=L.length->out.length<=c*i->∀N,r<N->ar step N (f i out)=some (y (out++(L.drop i).flatMap F)):=by
  intro r
  induction r with
  | zero=>
   intro i out hi d N a;obtain ⟨N,rfl⟩:∃q,N=q+1:=⟨N - 1,by omega⟩;obtain rfl:i=L.length:=by omega
   rw [ar,j];simp
  | succ r ih=>
   intro i out hi d N a;obtain ⟨N,rfl⟩:∃q,N=q+1:=⟨N - 1,by omega⟩;have e:L[i]?=some L[i]:=be (by omega);rw [ar,h i L[i] out e d];show ar step N _=_;have k:=hc L[i] (Hq _);rw [ih (i+1) _ (by omega) (by rw [aL,Nat.mul_add];omega) N (by omega),sj (show i<L.length by omega),qi,iQ]
 have:=g L.length 0 [] (by omega) (by simp) N a;simpa using this
theorem SY (d:aa) (L:Nat) (h:L<=31):(ua (fitN d 31)).filter (λk=>decide (k<=(L:Int)))=ua ((List.range' 1 L).filter (agr d)):=by
 have hs:List.range' 1 31=List.range' 1 L++List.range' (1+L) (31 - L):=by
  have:=List.range'_append_1 (s:=1) (m:=L) (n:=31 - L);rw [this,show L+(31 - L)=31 by omega]
 unfold fitN ua;rw [hs,JO,E7,JO];have e:(List.map (λk:Nat=>(k:Int)) (List.filter (agr d) (List.range' 1 L))).filter (λk=>decide (k<=(L:Int)))=List.map (λk:Nat=>(k:Int)) (List.filter (agr d) (List.range' 1 L)):=by
  rw [List.filter_eq_self];intro k b;obtain ⟨j,a,rfl⟩:=eZ.1 b;have:=BB.1 (nH.1 a).1;exact am (by omega)
 have c:(List.map (λk:Nat=>(k:Int)) (List.filter (agr d) (List.range' (1+L) (31 - L)))).filter (λk=>decide (k<=(L:Int)))=[]:=by
  rw [List.filter_eq_nil_iff];intro k b;obtain ⟨j,a,rfl⟩:=eZ.1 b;have:=BB.1 (nH.1 a).1;simp only [cj];omega
 rw [e,c,nP]
theorem Gn (s:aa) (g:Nat):(fitN s g).length<=g:=by
 have:=Ak (agr s) (List.range' 1 g);rw [List.length_range'] at this;exact this
theorem Hg (d:aa):(dayI d).length<=31:=by
 unfold dayI;split
 ·simp
 ·rw [C9];exact Gn d 31
theorem GV (m:aa):(monI m).length<=12:=by
 unfold monI;split
 ·simp
 ·split
  ·simp
  ·rw [C9];exact Gn m 12
theorem Ja (d:aa) (y a:Int):(vj d y a).length<=31:=by
 unfold vj;rw [uV];exact ri (Ak _ _) (Hg d)
theorem JR (y a:Int):vj [] y a=[(y,a,0)]:=rfl
theorem IK {d:aa} (h:d≠[]) (y a:Int):vj d y a=((List.range' 1 (lenI y a).toNat).filter (agr d)).map λk:Nat=>(y,a,(k:Int)):=by
 have b:=lF y a;unfold vj dayI xj;rw [ab h,ab h];have:=SY d (lenI y a).toNat (by omega);rw [show (((lenI y a).toNat:Nat):Int)=lenI y a by omega] at this;rw [this,ua,sJ];rfl
theorem IX (n:Nat) (w:100<n) (g l:Bool) (dg:aa) (x q:Int) (m d:aa) (k0 k1 k2 y:Int):
  kU n g l dg x q m d k0 k1 k2 y=some (yq m d y):=by
 have z:=GV m;unfold kU;rw [Ih n w];have:=LJ (step:=eT n) (f:=λi out=>(y,(i:Int),g,l,dg,x,q,m,d,k0,k1,k2,monI m,out)) (y:=λo=>o) (F:=vj d y) (L:=monI m) (c:=31) (λb _=>Ja d y b)
  (λi h out hi B=>by
   have a:i<(monI m).length:=(qR.1 hi).1;have t:IntKind.wrap .i64 ((i:Int)+1)=((i+1:Nat):Int):=by rw [wrap_i64 _ (by omega) (by omega)];omega
   unfold eT;simp only [d4,d8,t];rw [am (show (i:Int)<(((monI m).length:Nat):Int) by omega),dl a];by_cases r:d=[]
   ·subst r;rw [JR];simp only [ob,hi,ah,room (show out.length<=60000000 by omega)];rfl
   ·rw [f9 r];have C:=lF y h;have s:=Nr (step:=eS n) (f:=λj o=>(y,(i:Int),((j+1:Nat):Int),g,l,dg,x,q,m,d,k0,k1,k2,monI m,o)) (y:=λo=>(y,(i:Int),g,l,dg,x,q,m,d,k0,k1,k2,monI m,o)) (p:=agr d) (e:=λk=>(y,h,(k:Int))) (g:=(lenI y h).toNat) out
     (λj o D A=>by
      have v:IntKind.wrap .i64 (((j+1:Nat):Int)+1)=((j+1+1:Nat):Int):=by rw [wrap_i64 _ (by omega) (by omega)];omega
      unfold eS;simp only [d4,d8,v,dl a,ob,hi,BH];rw [am (show ((j+1:Nat):Int)<=lenI y h by omega),uL n d (j+1) (by omega),room (show o.length<=60000000 by omega)];by_cases hp:agr d (j+1)=true
      ·rw [ae hp,ae hp];rfl
      ·rw [ab hp,ab hp];rfl)
     (λo=>by
      unfold eS;simp only [d4,d8,dl a,ob,hi,BH];rw [aq (show ¬(((lenI y h).toNat+1:Nat):Int)<=lenI y h by omega)];rfl)
     (N:=n) (by omega)
    have hin':ar (eS n) n (y,(i:Int),1,g,l,dg,x,q,m,d,k0,k1,k2,monI m,out)=_:=s;simp only [ah,af];rw [hin',IK r];simp only [ob,d4,d8,t])
  (λout=>by
   unfold eT;simp only [d4,d8];rw [aq (show ¬(((monI m).length:Nat):Int)<(((monI m).length:Nat):Int) by omega)];rfl)
  (N:=n) (by omega)
 have u:ar (eT n) n (y,0,g,l,dg,x,q,m,d,k0,k1,k2,monI m,([]:List (Int×Int×Int)))=_:=this;simp only [ob];rw [u];rfl
theorem U3 {a b c e:UInt8} (k:bv a=true\/a=88) (j:bv b=true\/b=88) (hc:bv c=true\/c=88) (l:bv e=true\/e=88) (w:Nat):
  mtk [a,b,c,e] 4 w=Mk.ag [e,c,b,a] (w:Int):=by
 have one:∀(z:UInt8) (v:Nat),(decide (z=88)||decide (z.toNat=48+v%10))=(decide (z=88)||decide (Mk.dv z=(v:Int)%10)):=by
  intro z v;have:(z.toNat=48+v%10)↔(Mk.dv z=(v:Int)%10):=by unfold Mk.dv;omega
  rw [nU.2 this]
 have d:∀v:Nat,(v:Int) / 10=((v / 10:Nat):Int):=λv=>by omega
 show ((decide (e=88)||decide (e.toNat=48+w%10))&&((decide (c=88)||decide (c.toNat=48+w / 10%10))&&((decide (b=88)||decide (b.toNat=48+w / 10 / 10%10))&&((decide (a=88)||decide (a.toNat=48+w / 10 / 10 / 10%10))&&true))))
  = ((((true&&(decide (a=88)||decide (Mk.dv a=(w:Int) / 10 / 10 / 10%10)))&&(decide (b=88)||decide (Mk.dv b=(w:Int) / 10 / 10%10)))&&(decide (c=88)||decide (Mk.dv c=(w:Int) / 10%10)))&&(decide (e=88)||decide (Mk.dv e=(w:Int)%10)))
 rw [one e w,one c (w / 10),one b (w / 10 / 10),one a (w / 10 / 10 / 10),d w,d (w / 10),d (w / 10 / 10)];generalize (decide (e=88)||decide (Mk.dv e=(w:Int)%10))=f;generalize (decide (c=88)||decide (Mk.dv c=((w / 10:Nat):Int)%10))=i;generalize (decide (b=88)||decide (Mk.dv b=((w / 10 / 10:Nat):Int)%10))=h;generalize (decide (a=88)||decide (Mk.dv a=((w / 10 / 10 / 10:Nat):Int)%10))=g;cases f<;>cases i<;>cases h<;>cases g<;>rfl
theorem TO {c:UInt8} (h:bv c=true\/c=88):Mk.okB c=true:=by
 rcases h with h | h
 ·have h:=(cv c).1 h;unfold Mk.okB;simp only [iO,az,cj];right
  first | omega | (obtain ⟨a,b⟩:=h;constructor<;>omega)
 ·subst h;decide
theorem OD {d:aa} (a:d.length=4) (h:∀c∈d,bv c=true\/c=88):Mk.chk d=0:=by
 unfold Mk.chk;have:d.all Mk.okB=true:=cL.2 λc hc=>TO (h c hc);rw [ab (by omega),ae this,ab (by rintro rfl;simp at a)]
theorem Gy {d:aa} (g:d.length=4) (h:∀c∈d,bv c=true\/c=88) (w:Nat):Mk.hasM d (w:Int)=true↔mtk d 4 w=true/\w / 10 ^ 4=0:=by
 obtain ⟨a,b,c,e,rfl⟩:∃a b c e,d=[a,b,c,e]:=by
  match d,g with
  | [a,b,c,e],_=>exact ⟨a,b,c,e,rfl⟩
 rw [Mk.FT,U3 (h a (by simp)) (h b (by simp)) (h c (by simp)) (h e (by simp)) w];simp only [az,cj];show 0<=(w:Int)/\(w:Int)<10 ^ 4/\Mk.ag [e,c,b,a] (w:Int)=true↔Mk.ag [e,c,b,a] (w:Int)=true/\w / 10 ^ 4=0;have i:(10:Int) ^ 4=10000:=by decide
 have e4':(10:Nat) ^ 4=10000:=by decide
 rw [i,e4'];constructor
 ·rintro ⟨_,j,f⟩;exact ⟨f,by omega⟩
 ·rintro ⟨f,j⟩;exact ⟨by omega,by omega,f⟩
theorem HI {g l:Bool} {d:aa} {x q:Int} (h:okY g l d x q) (a:hasX d=true) (v:Int):inP g d x q v↔(Mk.hasM d (wOf g v)=true/\(g=true->1<=wOf g v)):=by
 obtain ⟨rfl,rfl,rfl,f,i⟩:=qw h a;unfold inP;rw [Hz a];have m:∀k:Int,Mk.hasM d k=true->0<=k/\k<10000:=λk n=>by
  have:=(Mk.ov n).2.2.2.2;rw [f] at this;have t:(10:Int) ^ 4=10000:=by decide
  omega
 constructor
 ·rintro ⟨b,j,s,r,o⟩;have:=(Gy f i (wOf g v).toNat).2 o;rw [show (((wOf g v).toNat:Nat):Int)=wOf g v by omega] at this;refine ⟨this,λc=>?_⟩;have u:¬wOf g v=0:=λe=>r ⟨a,c,e⟩;omega
 ·rintro ⟨b,j⟩;have hr':=m _ b;have p:=(Gy f i (wOf g v).toNat).1 (by rw [show (((wOf g v).toNat:Nat):Int)=wOf g v by omega];exact b);have w:v=wOf g v\/v=- wOf g v:=by
   unfold wOf;split
   ·right;omega
   ·left;rfl
  refine ⟨by omega,by omega,hr'.1,?_,p⟩;rintro ⟨_,c,e⟩;have:=j c;omega
theorem FI {g l:Bool} {d:aa} {x:Int} (b:okY g l d x 0) (a:hasX d=false) (v:Int):inP g d x 0 v↔v=(if g then -((val d x.toNat:Nat):Int) else ((val d x.toNat:Nat):Int)):=by
 obtain ⟨k,q,rfl,n,e⟩:=tD b a;have hs:=e.small;have j:dval 0 d*10 ^ k=val d k:=rfl;rw [j] at hs;unfold E16 at hs;unfold inP;rw [QO a];have i:EO d (k:Int).toNat (0:Int).toNat=1:=rfl;rw [i,cf,sS,sS,a];unfold wOf;cases g with
 | true=>
  simp only [aJ];constructor
  ·rintro ⟨f,m,c,_,h⟩;omega
  ·rintro rfl;refine ⟨by omega,by omega,by omega,by simp,by omega⟩
 | false=>
  simp only [br,aA];constructor
  ·rintro ⟨f,m,c,_,h⟩;omega
  ·rintro rfl;refine ⟨by omega,by omega,by omega,by simp,by omega⟩
def EZ (up:Bool) (Y:Int->Prop) (v w:Int) (a:Bool):Prop:=
 (a=true->Y w/\Mk.fm up v w/\∀e,Y e->Mk.fm up v e->Mk.fm up w e)/\(a=false->∀e,Y e->¬Mk.fm up v e)
theorem fe (a b:Int):Mk.fm true a b↔a<=b:=Iff.rfl
theorem iz (a b:Int):Mk.fm false a b↔b<=a:=Iff.rfl
theorem Q4 (o:Option Int):(Mk.res o).2=0/\(∃r,o=some r/\(Mk.res o).1=r)\/(Mk.res o).2=16/\o=none/\(Mk.res o).1=0:=by
 cases o with
 | none=>exact .inr ⟨rfl,rfl,rfl⟩
 | some r=>exact .inl ⟨rfl,r,rfl,rfl⟩
theorem vn {m:aa} (j:Mk.chk m=0) (v a:Int) (q:0<=a):∃w f,fS 20000000 m v true a=some (w,f)/\EZ true (λe=>Mk.hasM m e=true/\a<=e) v w f/\(0<=w/\w<1000000000000000000):=by
 obtain ⟨o,k,d⟩:=Mk.M8 j (cond (decide (a>v)) a v);unfold fS;rw [k];simp only [ob,ah];have hc:(cond (decide (a>v)) a v)=max v a:=by
  by_cases h:a>v
  ·rw [am h];show a=_;omega
  ·rw [aq h];show v=_;omega
 rw [hc] at d;rcases Q4 o with ⟨i,r,rfl,c⟩ | ⟨i,rfl,c⟩
 ·refine ⟨_,_,rfl,?_,?_⟩
  ·rw [i,c];obtain ⟨a1,a2,p⟩:=d;rw [fe] at a2;refine ⟨λ_=>⟨⟨a1,by omega⟩,?_,λe b g=>?_⟩,λh=>by cases h⟩
   ·rw [fe];omega
   ·rw [fe] at g;exact p e b.1 (by rw [fe];have:=b.2;omega)
  ·have:=(Mk.ov d.1).2.2.2.2;have n:=Mk.ny j;have hp:(10:Int) ^ m.length<=10 ^ 18:=by
    have:=oq (show 0<10 by decide) n.1
    exact_mod_cast this
   have l:(10:Int) ^ 18=1000000000000000000:=by decide
   rw [c];omega
 ·refine ⟨_,_,rfl,?_,by rw [c];omega⟩;rw [i];refine ⟨(λh=>by cases h),λ_ e b g=>?_⟩;rw [fe] at g;exact d e b.1 (by rw [fe];have:=b.2;omega)
theorem vo {m:aa} (k:Mk.chk m=0) (v a:Int) (t:0<=a):∃w f,fS 20000000 m v false a=some (w,f)/\EZ false (λe=>Mk.hasM m e=true/\a<=e) v w f/\(0<=w/\w<1000000000000000000):=by
 obtain ⟨o,n,l⟩:=Mk.LK k v;unfold fS;rw [n];simp only [ob,af];rcases Q4 o with ⟨i,r,rfl,g⟩ | ⟨i,rfl,g⟩
 ·rw [i,g];obtain ⟨a1,a2,j⟩:=l;rw [iz] at a2;have s:=(Mk.ov a1).2.2.2.2;have q:=Mk.ny k;have hp:(10:Int) ^ m.length<=10 ^ 18:=by
   have:=oq (show 0<10 by decide) q.1
   exact_mod_cast this
  have p:(10:Int) ^ 18=1000000000000000000:=by decide
  refine ⟨_,_,rfl,?_,by omega⟩;by_cases c:r>=a
  ·rw [am c];refine ⟨λ_=>⟨⟨a1,by omega⟩,by rw [iz];omega,λe b d=>j e b.1 d⟩,λh=>by cases h⟩
  ·rw [aq c];refine ⟨(λh=>by cases h),λ_ e b d=>?_⟩;have:=j e b.1 d;rw [iz] at this;have:=b.2;omega
 ·rw [i,g];refine ⟨_,_,rfl,?_,by omega⟩;refine ⟨(λh=>by cases h),λ_ e b d=>l e b.1 d⟩
theorem Lq {g l:Bool} {dg:aa} {x:Int} (j:okY g l dg x 0) (m d:aa) (k0 k1 k2:Int) (v:Int) (G:-9223372036854775808<=v/\v<9223372036854775808) (up:Bool) (F D:List Int):
  ∃w f,cr 20000000 g l dg x 0 m d k0 k1 k2 v up F D=some (w,f)/\EZ up (inP g dg x 0) v w f:=by
 have B:=kb j;unfold cr;rw [tz];simp only [ob];cases s:hasX dg with
 | false=>
  have c:=FI j s;rw [Au 20000000 g l dg x 0 (by omega) (by omega),ae ⟨j,s⟩];simp only [ij,ah];generalize (if g then -((val dg x.toNat:Nat):Int) else ((val dg x.toNat:Nat):Int))=w at *;cases up with
  | true=>
   by_cases h:w>=v
   ·refine ⟨w,true,?_,?_⟩
    ·simp only [am h,ah]
    ·refine ⟨λ_=>⟨(c w).2 rfl,h,λe b _=>?_⟩,λh=>by cases h⟩;rw [(c e).1 b];exact yZ _
   ·refine ⟨w,false,?_,?_⟩
    ·simp only [aq h,ah,af,co]
    ·refine ⟨(λh=>by cases h),λ_ e b n=>?_⟩;rw [(c e).1 b,fe] at n;omega
  | false=>
   by_cases h:w<=v
   ·refine ⟨w,true,?_,?_⟩
    ·simp only [am h,ah,af,ij]
    ·refine ⟨λ_=>⟨(c w).2 rfl,h,λe b _=>?_⟩,λh=>by cases h⟩;rw [(c e).1 b];exact yZ _
   ·refine ⟨w,false,?_,?_⟩
    ·simp only [aq h,ah,af,ij]
    ·refine ⟨(λh=>by cases h),λ_ e b n=>?_⟩;rw [(c e).1 b,iz] at n;omega
 | true=>
  have c:=HI j s;obtain ⟨rfl,rfl,_,A,C⟩:=qw j s;have t:=OD A C;simp only [co,af];cases g with
  | false=>
   simp only [ij,ah];have q:∀w f,EZ up (λe=>Mk.hasM dg e=true/\0<=e) v w f->EZ up (inP false dg 0 0) v w f:=λw f h=>by
    have a:∀e,(Mk.hasM dg e=true/\0<=e)↔inP false dg 0 0 e:=λe=>by
     rw [c e];constructor
     ·rintro ⟨i,_⟩;exact ⟨i,λh=>by cases h⟩
     ·rintro ⟨i,_⟩;exact ⟨i,(Mk.ov i).2.2.2.2.1⟩
    refine ⟨λk=>?_,λk e b=>h.2 k e ((a e).2 b)⟩;obtain ⟨b1,b2,r⟩:=h.1 k;exact ⟨(a w).1 b1,b2,λe b=>r e ((a e).2 b)⟩
   cases up with
   | true=>
    obtain ⟨w,f,i,o,_⟩:=vn t v 0 (by omega);exact ⟨w,f,by rw [i],q w f o⟩
   | false=>
    obtain ⟨w,f,i,o,_⟩:=vo t v 0 (by omega);exact ⟨w,f,by rw [i],q w f o⟩
  | true=>
   simp only [co,af];have hc:IntKind.wrap .i64 (0 - (cond (decide (((-9223372036854775807):Int)>v)) (-9223372036854775807) v))=min (-v) 9223372036854775807:=by
    by_cases h:((-9223372036854775807):Int)>v
    ·rw [am h,ah,wrap_i64 _ (by omega) (by omega)];omega
    ·rw [aq h,af,wrap_i64 _ (by omega) (by omega)];omega
   rw [hc];have y:∀e,Mk.hasM dg e=true->0<=e/\e<10000:=λe b=>by
    have:=(Mk.ov b).2.2.2.2;rw [A] at this;have H:(10:Int) ^ 4=10000:=by decide
    omega
   have a:∀e,inP true dg 0 0 e↔(Mk.hasM dg (-e)=true/\1<=-e):=λe=>by
    rw [c e];exact ⟨λh=>⟨h.1,h.2 rfl⟩,λh=>⟨h.1,λ_=>h.2⟩⟩
   have z:∀w:Int,0<=w/\w<1000000000000000000->IntKind.wrap .i64 (0 - w)=-w:=λw h=>by rw [wrap_i64 _ (by omega) (by omega)];omega
   cases up with
   | true=>
    obtain ⟨w,f,i,o,u⟩:=vo t (min (-v) 9223372036854775807) 1 (by omega);refine ⟨-w,f,by rw [co,i];simp only [z w u],?_,?_⟩
    ·intro k;obtain ⟨b1,b2,r⟩:=o.1 k;rw [iz] at b2;refine ⟨(a _).2 (by rw [Int.neg_neg];exact b1),by rw [fe];omega,λe b n=>?_⟩;rw [fe] at n;have p:=(a e).1 b;have:=r (-e) p (by rw [iz];have:=y _ p.1;omega);rw [iz] at this;rw [fe];omega
    ·intro k e b n;rw [fe] at n;have p:=(a e).1 b;exact o.2 k (-e) p (by rw [iz];have:=y _ p.1;omega)
   | false=>
    obtain ⟨w,f,i,o,u⟩:=vn t (min (-v) 9223372036854775807) 1 (by omega);refine ⟨-w,f,by rw [ij,i];simp only [z w u],?_,?_⟩
    ·intro k;obtain ⟨b1,b2,r⟩:=o.1 k;rw [fe] at b2;have E:=y _ b1.1;refine ⟨(a _).2 (by rw [Int.neg_neg];exact b1),by rw [iz];omega,λe b n=>?_⟩;rw [iz] at n;have p:=(a e).1 b;have:=r (-e) p (by rw [fe];omega);rw [fe] at this;rw [iz];omega
    ·intro k e b n;rw [iz] at n;have p:=(a e).1 b;exact o.2 k (-e) p (by rw [fe];omega)
theorem tQ {X Y A:Type} {step:X->Option (X⊕Y)} {f:Nat->X} {L:List A} {G:A->Option Y} {e:Y}
  (h:∀i a,L[i]?=some a->step (f i)=some ((G a).elim (.inl (f (i+1))) Sum.inr)) (g:step (f L.length)=some (.inr e)) {N:Nat} (b:L.length<N):
  ar step N (f 0)=some ((L.findSome? G).getD e):=by
 have d:∀(r i:Nat),i+r=L.length->∀N,r<N->ar step N (f i)=some (((L.drop i).findSome? G).getD e):=by
  intro r
  induction r with
  | zero=>
   intro i hi N b;obtain ⟨N,rfl⟩:∃q,N=q+1:=⟨N - 1,by omega⟩;obtain rfl:i=L.length:=by omega
   rw [ar,g];simp
  | succ r ih=>
   intro i hi N b;obtain ⟨N,rfl⟩:∃q,N=q+1:=⟨N - 1,by omega⟩;have c:L[i]?=some L[i]:=be (by omega);rw [ar,h i L[i] c,sj (show i<L.length by omega),C7];cases j:G L[i] with
   | some y=>rfl
   | none=>exact ih (i+1) (by omega) N (by omega)
 have:=d L.length 0 (by omega) N b;simpa using this
def ahd (up:Bool) (a b:Int):Bool:=cond up (decide (a<b)) (decide (a>b))
theorem HE (n:Nat) (a b:Int) (up:Bool):cQ n a b up=some (ahd up a b):=by
 unfold cQ ahd;cases up
 ·rfl
 ·simp only [ah,co,af];cases decide (a<b)<;>rfl
def AX (up a:Bool) (d:aa) (b most k:Int):Bool:=decide (k<=most)&&!(a&&(!(d==([]:aa))&&ahd up k b))
def MS (up:Bool) (m:aa) (c b y a:Int):Bool:=(y==c)&&(!(m==([]:aa))&&ahd up a b)
def iO9 (m:aa) (c b y a:Int):Bool:=(y==c)&&((m==([]:aa))||(a==b))
def Fe (up:Bool) (m d:aa) (b c f y:Int) (e:List Int) (a:Int):Option (Int×Int×Int):=
 if MS up m b c y a then none else (e.find? (AX up (iO9 m b c y a) d f (xj d y a))).map λk=>(y,a,k)
def EN (up:Bool) (m d:aa) (b f c:Int) (e a:List Int) (y:Int):Option (Int×Int×Int):=e.findSome? (Fe up m d b f c y a)
def K5 (d:aa) (b:List Int):Prop:=b.length<=31/\(d≠[]->∀a∈b,1<=a/\a<=12)
theorem J6 (n:Nat) (g l:Bool) (dg:aa) (x q:Int) (m d:aa) (k0 k1 k2:Int) {y:Int} (hy:dX y) {a:Int} (c:d≠[]->1<=a/\a<=12) (f e:List Int):
  fa n g l dg x q m d k0 k1 k2 y a f e=some (xj d y a):=by
 unfold fa xj;by_cases b:d=[]
 ·subst b;rfl
 ·rw [f9 b,ab b];have:=c b;obtain ⟨k,rfl⟩:∃k:Nat,a=(k:Int):=⟨a.toNat,by omega⟩;rw [af,N1 n hy (by omega) (by omega)];rfl
theorem TQ {A B Y:Type} (L:List A) (p:A->Bool) (F:A->B) (J:B->Y) (e:Y):(L.findSome? λa=>if p a then some (J (F a)) else none).getD e=((L.find? p).map F).elim e J:=by
 induction L with
 | nil=>rfl
 | cons a L ih=>
  rw [List.find?_cons,C7];cases h:p a
  ·simpa using ih
  ·simp
theorem Xd {A B Y:Type} (L:List A) (G:A->Option B) (J:B->Y) (e:Y):(L.findSome? λa=>(G a).map J).getD e=(L.findSome? G).elim e J:=by
 induction L with
 | nil=>rfl
 | cons a L ih=>
  rw [C7,C7];cases h:G a
  ·simpa using ih
  ·simp
theorem N7 (n:Nat) (s y e:Int) (a:Bool) (most h o:Int) (r b:List Int) (g l:Bool) (dg:aa) (x q:Int) (m d:aa) (k0 k1 k2 p t c:Int) (up:Bool) (u j rd:Int) (i:Nat) (k:Int) (hi:b[i]?=some k) (w:i<1000):
  bL n (s,y,e,a,most,h,o,((b.length:Nat):Int),(i:Int),r,b,g,l,dg,x,q,m,d,k0,k1,k2,p,t,c,up,u,j,rd)=some ((if AX up a d c most k then some (.inl (true,y,e,k)) else none).elim (.inl (s,y,e,a,most,h,o,((b.length:Nat):Int),((i+1:Nat):Int),r,b,g,l,dg,x,q,m,d,k0,k1,k2,p,t,c,up,u,j,rd)) Sum.inr):=by
 have f:i<b.length:=(qR.1 hi).1;have v:IntKind.wrap .i64 ((i:Int)+1)=((i+1:Nat):Int):=by rw [wrap_i64 _ (by omega) (by omega)];omega
 unfold bL iJ AX;simp only [d4,d8,d16,dl f,hi,ob,v,HE];rw [am (show (i:Int)<((b.length:Nat):Int) by omega)];simp only [ah];cases decide (k<=most)<;>cases a<;>cases (d==([]:aa))<;>cases ahd up k c<;>simp only [co,ij,ah,af,v]<;>rfl
theorem SK (n:Nat) (s y p:Int) (b:Bool) (most c f:Int) (j a:List Int) (g l:Bool) (dg:aa) (x q:Int) (m d:aa) (k0 k1 k2 h k i:Int) (up:Bool) (o e rd:Int):
  bL n (s,y,p,b,most,c,f,((a.length:Nat):Int),((a.length:Nat):Int),j,a,g,l,dg,x,q,m,d,k0,k1,k2,h,k,i,up,o,e,rd)=some (.inr (.inr (s,y,c,f,j,a,g,l,dg,x,q,m,d,k0,k1,k2,h,k,i,up,o,e,rd))):=by
 unfold bL;simp only [d4,d8,d16];rw [aq (show ¬((a.length:Nat):Int)<((a.length:Nat):Int) by omega)];rfl
theorem SN (n:Nat) (B:1000<n) (s y h:Int) (a:Bool) (most j p:Int) (t b:List Int) (g l:Bool) (dg:aa) (x q:Int) (m d:aa) (k0 k1 k2 r u c:Int) (up:Bool) (v o rd:Int) (A:b.length<=31):
  ar (bL n) n (s,y,h,a,most,j,p,((b.length:Nat):Int),0,t,b,g,l,dg,x,q,m,d,k0,k1,k2,r,u,c,up,v,o,rd)=some (((b.find? (AX up a d c most)).map (λk=>(y,h,k))).elim (.inr (s,y,j,p,t,b,g,l,dg,x,q,m,d,k0,k1,k2,r,u,c,up,v,o,rd)) (λz=>.inl (true,z))):=by
 have:=tQ (step:=bL n) (f:=λi=>(s,y,h,a,most,j,p,((b.length:Nat):Int),(i:Int),t,b,g,l,dg,x,q,m,d,k0,k1,k2,r,u,c,up,v,o,rd)) (L:=b) (G:=λk=>if AX up a d c most k then some (.inl (true,y,h,k)) else none) (e:=.inr (s,y,j,p,t,b,g,l,dg,x,q,m,d,k0,k1,k2,r,u,c,up,v,o,rd))
  (λi k hi=>by
   have w:i<b.length:=(qR.1 hi).1;exact N7 n s y h a most j p t b g l dg x q m d k0 k1 k2 r u c up v o rd i k hi (by omega))
  (SK n s y h a most j p t b g l dg x q m d k0 k1 k2 r u c up v o rd) (N:=n) (by omega)
 exact this.trans (ch some (TQ b (AX up a d c most) (λk=>(y,h,k)) (λz=>Sum.inl (true,z)) _))
theorem PQ (n:Nat) (E:1000<n) (s y:Int) (hy:dX y) (j p:List Int) (g l:Bool) (dg:aa) (x q:Int) (m d:aa) (k0 k1 k2 e o r:Int) (up:Bool) (u t rd:Int) (A:K5 d j) (D:p.length<=31) (i:Nat) (f:Int) (hi:j[i]?=some f):
  ck n (s,y,((j.length:Nat):Int),(i:Int),j,p,g,l,dg,x,q,m,d,k0,k1,k2,e,o,r,up,u,t,rd)=some (((Fe up m d e o r y p f).map (λz=>(.inl (true,z):(Bool×Int×Int×Int)⊕_))).elim (.inl (s,y,((j.length:Nat):Int),((i+1:Nat):Int),j,p,g,l,dg,x,q,m,d,k0,k1,k2,e,o,r,up,u,t,rd)) Sum.inr):=by
 have v:i<j.length:=(qR.1 hi).1;have C:=A.1;have B:IntKind.wrap .i64 ((i:Int)+1)=((i+1:Nat):Int):=by rw [wrap_i64 _ (by omega) (by omega)];omega
 have w:d≠[]->1<=f/\f<=12:=λh=>A.2 h f (fZ hi);have j20:∀a b:Int,fb n s y f (y==e) a b j p g l dg x q m d k0 k1 k2 e o r up u t rd=some (s,y,f,(y==e),a,b,MS up m e o y f,j,p,g,l,dg,x,q,m,d,k0,k1,k2,e,o,r,up,u,t,rd):=by
  intro a b;unfold fb MS;simp only [HE,ob];cases (y==e)<;>cases (m==([]:aa))<;>rfl
 have j23:∀a b c:Int,fk n s y f (y==e) a b c j p g l dg x q m d k0 k1 k2 e o r up u t rd=some (s,y,f,iO9 m e o y f,a,b,c,j,p,g,l,dg,x,q,m,d,k0,k1,k2,e,o,r,up,u,t,rd):=by
  intro a b c;unfold fk iO9;cases (y==e)<;>cases (m==([]:aa))<;>rfl
 unfold ck io Fe;simp only [d4,d8,d16,dl v,hi,ob,j20];rw [am (show (i:Int)<((j.length:Nat):Int) by omega)];simp only [ah];cases hs:MS up m e o y f with
 | true=>simp only [ah,aJ,ja,B];rfl
 | false=>
  simp only [af,br,aA,J6 n g l dg x q m d k0 k1 k2 hy w,j23,SN n E s y f (iO9 m e o y f) (xj d y f) _ _ j p g l dg x q m d k0 k1 k2 e o r up u t rd D];cases p.find? (AX up (iO9 m e o y f) d r (xj d y f)) with
  | some k=>rfl
  | none=>simp only [ja,Option.elim_none,B]
theorem RG (n:Nat) (v:1000<n) (s y:Int) (hy:dX y) (a b:List Int) (g l:Bool) (dg:aa) (x q:Int) (m d:aa) (k0 k1 k2 c j h:Int) (up:Bool) (o k rd:Int) (r:K5 d a) (u:b.length<=31):
  ar (ck n) n (s,y,((a.length:Nat):Int),0,a,b,g,l,dg,x,q,m,d,k0,k1,k2,c,j,h,up,o,k,rd)=some ((EN up m d c j h a b y).elim (.inr (s,y,a,b,g,l,dg,x,q,m,d,k0,k1,k2,c,j,h,up,o,k,rd)) (λz=>.inl (true,z))):=by
 have t:=r.1;have:=tQ (step:=ck n) (f:=λi=>(s,y,((a.length:Nat):Int),(i:Int),a,b,g,l,dg,x,q,m,d,k0,k1,k2,c,j,h,up,o,k,rd)) (L:=a) (G:=λp=>(Fe up m d c j h y b p).map (λz=>(.inl (true,z):(Bool×Int×Int×Int)⊕_))) (e:=.inr (s,y,a,b,g,l,dg,x,q,m,d,k0,k1,k2,c,j,h,up,o,k,rd))
  (λi p hi=>PQ n v s y hy a b g l dg x q m d k0 k1 k2 c j h up o k rd r u i p hi)
  (by
   unfold ck;simp only [d4,d8,d16];rw [aq (show ¬((a.length:Nat):Int)<((a.length:Nat):Int) by omega)];rfl)
  (N:=n) (by omega)
 exact this.trans (ch some (Xd a (Fe up m d c j h y b) (λz=>Sum.inl (true,z)) _))
theorem Qa (n:Nat) (o:1000<n) (s y:Int) (hy:dX y) (b a:List Int) (g l:Bool) (dg:aa) (x q:Int) (m d:aa) (k0 k1 k2 c f e:Int) (up:Bool) (i h rd:Int) (k:K5 d b) (j:a.length<=31):
  cY n (s,y,true,b,a,g,l,dg,x,q,m,d,k0,k1,k2,c,f,e,up,i,h,rd)=(EN up m d c f e b a y).elim (ob (cr n g l dg x q m d k0 k1 k2 (IntKind.wrap .i64 (y+s)) up b a) λr=>some (.inl (s,r.1,r.2,b,a,g,l,dg,x,q,m,d,k0,k1,k2,c,f,e,up,i,h,rd))) (λz=>some (.inr (.inl (true,z)))):=by
 unfold cY;simp only [d4,d8,d16,ah,ob,RG n o s y hy b a g l dg x q m d k0 k1 k2 c f e up i h rd k j];cases EN up m d c f e b a y<;>rfl
def Hl (up:Bool) (Y:Int->Prop) (F:Int->Option (Int×Int×Int)) (v:Int):Option (Int×Int×Int)->Prop
 | some z=>∃e,Y e/\Mk.fm up v e/\F e=some z/\∀a,Y a->Mk.fm up v a->¬Mk.fm up e a->F a=none
 | none=>∀e,Y e->Mk.fm up v e->F e=none
theorem I2 {X:Type} {step:X->Option (X⊕((Bool×Int×Int×Int)⊕(Int×Int×Int)))} {st:Int->Bool->X} {F:Int->Option (Int×Int×Int)} {Y:Int->Prop} {up:Bool} {s lo hi:Int} {E:Int×Int×Int} {fy:Int->Option (Int×Bool)}
  (hs:s=if up then 1 else -1) (t:∀e,Y e->lo<=e/\e<=hi) (O:-10000000000000000<=lo) (d:hi<=10000000000000000)
  (a:∀y,Y y->step (st y true)=(F y).elim (ob (fy (IntKind.wrap .i64 (y+s))) λr=>some (.inl (st r.1 r.2))) (λz=>some (.inr (.inl (true,z)))))
  (c:∀y,step (st y false)=some (.inr (.inr E)))
  (p:∀v,-9223372036854775808<=v/\v<9223372036854775808->∃w f,fy v=some (w,f)/\EZ up Y v w f):
  ∀(r:Nat) (v y:Int) (f:Bool),EZ up Y v y f->(f=true->(if up then hi - y else y - lo)<(r:Int))->∀N,r<N->
   ∃o,ar step N (st y f)=some (o.elim (.inr E) (λz=>.inl (true,z)))/\Hl up Y F v o:=by
 intro r
 induction r with
 | zero=>
  intro v y f l n N D;obtain ⟨N,rfl⟩:∃q,N=q+1:=⟨N - 1,by omega⟩;cases f with
  | true=>
   obtain ⟨a1,_,_⟩:=l.1 rfl;have:=t y a1;have:=n rfl;cases up<;>simp at this<;>omega
  | false=>
   refine ⟨none,by rw [ar,c];rfl,λe i k=>absurd k (l.2 rfl e i)⟩
 | succ r ih=>
  intro v y f l n N D;obtain ⟨N,rfl⟩:∃q,N=q+1:=⟨N - 1,by omega⟩;cases f with
  | false=>
   refine ⟨none,by rw [ar,c];rfl,λe i k=>absurd k (l.2 rfl e i)⟩
  | true=>
   obtain ⟨a1,a2,C⟩:=l.1 rfl;have M:=t y a1;cases m:F y with
   | some z=>
    refine ⟨some z,?_,y,a1,a2,m,λb d j g=>absurd (C b d j) g⟩;rw [ar,a y a1,m];rfl
   | none=>
    have H:IntKind.wrap .i64 (y+s)=y+s:=by
     have:-1<=s/\s<=1:=by rw [hs];cases up<;>simp
     exact wrap_i64 _ (by omega) (by omega)
    obtain ⟨w,u,K,x⟩:=p (y+s) (by
     have:-1<=s/\s<=1:=by rw [hs];cases up<;>simp
     omega)
    have hstep':step (st y true)=some (.inl (st w u)):=by
     rw [a y a1,m,H];show ob (fy (y+s)) _=_;rw [K];rfl
    obtain ⟨o,I,B⟩:=ih (y+s) w u x (λL=>by
     obtain ⟨b1,b2,_⟩:=x.1 L;have:=n rfl;cases up
     ·rw [iz] at b2;simp only [br,aA] at hs this ⊢;omega
     ·rw [fe] at b2;simp only [aJ] at hs this ⊢;omega) N (by omega)
    refine ⟨o,by rw [ar,hstep'];exact I,?_⟩;have split:∀b,Y b->Mk.fm up v b->b=y\/Mk.fm up (y+s) b:=λb d j=>by
     have g:=C b d j;cases up
     ·rw [iz] at g ⊢;simp only [br,aA] at hs;omega
     ·rw [fe] at g ⊢;simp only [aJ] at hs;omega
    cases o with
    | none=>
     intro e i k;rcases split e i k with rfl | h
     ·exact m
     ·exact B e i h
    | some z=>
     obtain ⟨e,G,A,J,c4⟩:=B;refine ⟨e,G,?_,J,λb d j g=>?_⟩
     ·cases up
      ·rw [iz] at A a2 ⊢;simp only [br,aA] at hs;omega
      ·rw [fe] at A a2 ⊢;simp only [aJ] at hs;omega
     ·rcases split b d j with rfl | h
      ·exact m
      ·exact c4 b d h g
theorem zb {g l:Bool} {dg:aa} {x:Int} (c:okY g l dg x 0):∃lo hi:Int,(∀e,inP g dg x 0 e->lo<=e/\e<=hi)/\hi - lo<=10000/\-10000000000000000<=lo/\hi<=10000000000000000:=by
 cases d:hasX dg with
 | false=>
  have a:=FI c d;by_cases f:-10000000000000000<=(if g then -((val dg x.toNat:Nat):Int) else ((val dg x.toNat:Nat):Int))/\(if g then -((val dg x.toNat:Nat):Int) else ((val dg x.toNat:Nat):Int))<=10000000000000000
  ·refine ⟨_,_,λe b=>?_,?_,f.1,f.2⟩
   ·rw [(a e).1 b];exact ⟨yZ _,yZ _⟩
   ·omega
  ·refine ⟨0,0,λe b=>?_,by omega,by omega,by omega⟩;exfalso;have:=(a e).1 b;unfold inP at b;exact f ⟨by rw [<-this];exact b.1,by rw [<-this];exact b.2.1⟩
 | true=>
  have a:=HI c d;obtain ⟨_,_,_,i,k⟩:=qw c d;refine ⟨if g then -9999 else 0,if g then 0 else 9999,λe b=>?_,by cases g<;>simp,by cases g<;>simp,by cases g<;>simp⟩;have h:=((a e).1 b).1;have:=(Mk.ov h).2.2.2.2;rw [i] at this;have j:(10:Int) ^ 4=10000:=by decide
  unfold wOf at this;cases g
  ·simp at this ⊢;omega
  ·simp at this ⊢;omega
theorem Am {g:Bool} {dg:aa} {x q e:Int} (h:inP g dg x q e):dX e:=⟨h.1,h.2.1⟩
theorem IY {g l:Bool} {dg:aa} {x:Int} (e:okY g l dg x 0) (m d:aa) (k0 k1 k2:Int) (a i h:Int) (n:-9223372036854775808<=a/\a<9223372036854775808) (c b:List Int) (D:K5 d c) (u:b.length<=31):
  ∃o,jc 20000000 g l dg x 0 m d k0 k1 k2 a i h true c b=some (o.elim (0,0,0,false) λz=>(z.1,z.2.1,z.2.2,true))/\Hl true (inP g dg x 0) (EN true m d a i h c b) a o:=by
 obtain ⟨lo,hi,p,G,j,k⟩:=zb e;obtain ⟨w,f,B,q⟩:=Lq e m d k0 k1 k2 a n true c b;obtain ⟨o,t,A⟩:=I2 (step:=cY 20000000) (st:=λy f=>(1,y,f,c,b,g,l,dg,x,0,m,d,k0,k1,k2,a,i,h,true,0,0,0)) (F:=EN true m d a i h c b) (Y:=inP g dg x 0) (up:=true) (s:=1) (lo:=lo) (hi:=hi) (E:=(0,0,0)) (fy:=λv=>cr 20000000 g l dg x 0 m d k0 k1 k2 v true c b)
  rfl p j k
  (λy hy=>Qa 20000000 (by omega) 1 y (Am hy) c b g l dg x 0 m d k0 k1 k2 a i h true 0 0 0 D u)
  (λy=>rfl)
  (λv r=>Lq e m d k0 k1 k2 v r true c b)
  10002 a w f q (λC=>by have:=p w (q.1 C).1;simp;omega) 20000000 (by omega)
 refine ⟨o,?_,A⟩;unfold jc jv;simp only [co,af,ob,d4,d8,d16,B];have i1':ar (cY 20000000) 20000000 (1,w,f,c,b,g,l,dg,x,0,m,d,k0,k1,k2,a,i,h,true,0,0,0)=_:=t;rw [i1'];cases o<;>rfl
theorem Gu (m d:aa) (o l:Int) {g e:Int} (h:e≠g) (n f:List Int):EN true m d g o l n f e=none↔(n.flatMap λa=>(f.filter λk=>decide (k<=xj d e a)).map λk=>(e,a,k))=[]:=by
 have j:(e==g)=false:=aM.2 h;unfold EN;rw [QV,List.flatMap_eq_nil_iff];have:∀a,Fe true m d g o l e f a=none↔((f.filter λk=>decide (k<=xj d e a)).map λk=>(e,a,k))=[]:=by
  intro a;unfold Fe MS iO9;rw [j];simp only [xF,br,aA,Option.map_eq_none_iff,List.find?_eq_none,List.map_eq_nil_iff,List.filter_eq_nil_iff];constructor
  ·intro b k i;have:=b k i;unfold AX at this;simpa using this
  ·intro b k i;have:=b k i;unfold AX;simpa using this
 exact ⟨λb a c=>(this a).1 (b a c),λb a c=>(this a).2 (b a c)⟩
def hasF (g:Bool) (dg:aa) (x:Int) (m d:aa):Prop:=∃e,inP g dg x 0 e/\yq m d e≠[]
open Classical in
noncomputable def chkF (g l:Bool) (dg:aa) (x q:Int) (m d:aa) (k0 k1 k2:Int):Int:=
 if chkD g l dg x q m d k0 k1 k2=0/\d≠[]/\¬hasF g dg x m d then 8 else chkD g l dg x q m d k0 k1 k2
theorem ue {g l:Bool} {dg:aa} {x q:Int} {m d:aa} {k0 k1 k2:Int} (h:chkD g l dg x q m d k0 k1 k2=0):okY g l dg x q/\(m=[]\/m.length=2)/\(d=[]\/d.length=2)/\(0<q->m=[])/\(d≠[]->m≠[]/\sea m=0):=by
 obtain ⟨a,j,e,c4⟩:=NK h;unfold yrD at a;by_cases b:okY g l dg x q
 ·rw [ae b] at a;refine ⟨b,?_,?_,λi=>?_,λk=>?_⟩
  ·rcases j with h | h | h
   ·exact .inl h
   ·exact .inr (J7 h).1
   ·exact .inr (ru (by omega) h).1
  ·rcases e with h | ⟨_,_,h⟩
   ·exact .inl h
   ·exact .inr (ru (by omega) h).1
  ·unfold yrB at a;simp only [az,kW] at a;have:=a.1;rw [am i,nI] at this;by_cases c:m=[]
   ·exact c
   ·rw [f9 c] at this;cases this
  ·rcases e with h | ⟨f,n,_⟩
   ·exact absurd h k
   ·exact ⟨f,n⟩
 ·rw [ab b] at a;cases a
theorem WX {g l:Bool} {dg:aa} {x q:Int} (h:okY g l dg x q):0<=q:=(kb h).2.2.1
theorem Nw {m d:aa} (h:d≠[]->m≠[]/\sea m=0):K5 d (monI m):=by
 refine ⟨ri (GV m) (by omega),λe f a=>?_⟩;obtain ⟨b,g⟩:=h e;unfold monI at a;rw [ab b,ab (by omega)] at a;obtain ⟨k,c,rfl⟩:=eZ.1 a;have:=BB.1 (nH.1 c).1;omega
theorem vJ {g l:Bool} {dg:aa} {x q:Int} {m d:aa} {k0 k1 k2:Int} (r:m.length<=18) (k:dg.length<=100) (D:0<=k0) (w:0<=k1) (B:0<=k2):
  bq 20000000 g l dg x q m d k0 k1 k2=some (chkF g l dg x q m d k0 k1 k2):=by
 unfold bq chkF;rw [BK 20000000 (by omega) g l dg x q m d k0 k1 k2 r k D w B];simp only [ob];by_cases hc:chkD g l dg x q m d k0 k1 k2=0
 ·obtain ⟨b,n,t,A,f⟩:=ue hc;rw [hc];simp only [dJ,af];by_cases i:d=[]
  ·subst i;rw [ab (by simp)];rfl
  ·rw [f9 i,af];have s:q=0:=by
    have:=WX b;by_cases h:0<q
    ·exact absurd (A h) (f i).1
    ·omega
   subst s;have e:=Yq 20000000 (by omega) g l dg x 0 m d k0 k1 k2 n t;have p:=Nw f;obtain ⟨o,o1,u⟩:=IY b m d k0 k1 k2 (-9223372036854775808) 0 0 (by omega) (monI m) (dayI d) p (Hg d);have c:∀e,inP g dg x 0 e->e≠-9223372036854775808:=λe F=>by have:=Am F;unfold dX at this;omega
   have key:(∃z,o=some z)↔hasF g dg x m d:=by
    constructor
    ·rintro ⟨z,rfl⟩;obtain ⟨e,a,_,v,_⟩:=u;refine ⟨e,a,λE=>?_⟩;have:=(Gu m d 0 0 (c e a) (monI m) (dayI d)).2 E;rw [this] at v;cases v
    ·rintro ⟨e,a,C⟩;cases o with
     | some z=>exact ⟨z,rfl⟩
     | none=>
      have:=u e a (by rw [fe];have:=Am a;unfold dX at this;omega);exact absurd ((Gu m d 0 0 (c e a) (monI m) (dayI d)).1 this) C
   rw [e];by_cases j:hasF g dg x m d
   ·obtain ⟨z,rfl⟩:=key.2 j;rw [ab (λh=>h.2.2 j)]
    all_goals
     simp only [d4,d8,o1];rfl
   ·have y:o=none:=by
     cases o with
     | none=>rfl
     | some z=>exact absurd (key.1 ⟨z,rfl⟩) j
    subst y;rw [ae ⟨rfl,i,j⟩]
    all_goals
     simp only [d4,d8,o1];rfl
 ·rw [ab (λh=>hc h.1)];have:(chkD g l dg x q m d k0 k1 k2 != 0)=true:=by simp [hc]
  rw [this];rfl
theorem Qr {g l:Bool} {dg:aa} {x:Int} (c:okY g l dg x 0) (m d:aa) (k0 k1 k2:Int):
  ∃r,lh 20000000 g l dg x 0 m d k0 k1 k2=some r/\(r=1/\hasF g dg x m d\/r=0/\¬hasF g dg x m d):=by
 have F:=kb c;obtain ⟨lo,hi,C,Q,H,J⟩:=zb c;obtain ⟨E,D,M⟩:=Nq c;have v:=OR 19999700 g l dg x 0 (by omega) c;unfold lh;rw [show (20000000:Nat)=19999700+300 from rfl,v];simp only [ob];generalize (sgn g (qb g dg x 0)).1=a at *;generalize (sgn g (qb g dg x 0)).2=b at *;have R:=C a E;have hb':=C b D;have I:=λy=>WB 19999700 c y;have step:∀i y,((List.range (b - a+1).toNat).map (λj:Nat=>a+(j:Int)))[i]?=some y->i<(b - a+1).toNat/\y=a+(i:Int):=by
  intro i y h;rw [mO] at h;cases u:(List.range (b - a+1).toNat)[i]? with
  | none=>rw [u] at h;cases h
  | some j=>
   rw [u] at h;have hi:=qR.1 u;obtain ⟨A,B⟩:=hi;rw [List.getElem_range] at B;rw [List.length_range] at A;subst B;exact ⟨A,(aZ h).symm⟩
 have p:((List.range (b - a+1).toNat).map (λj:Nat=>a+(j:Int))).length=(b - a+1).toNat:=by simp
 have:=tQ (step:=ge (19999700+300)) (f:=λi=>(b,a+(i:Int),g,l,dg,x,0,m,d,k0,k1,k2)) (L:=(List.range (b - a+1).toNat).map (λj:Nat=>a+(j:Int))) (G:=λy=>if inP g dg x 0 y/\yq m d y≠[] then some (.inl 1) else none) (e:=.inr ())
  (λi y h=>by
   obtain ⟨hi,rfl⟩:=step i y h;have O:IntKind.wrap .i64 (a+(i:Int)+1)=a+((i+1:Nat):Int):=by rw [wrap_i64 _ (by omega) (by omega)];omega
   unfold ge;simp only [d4,d8,O];rw [am (show a+(i:Int)<=b by omega),I,IX (19999700+300) (by omega)];by_cases k:inP g dg x 0 (a+(i:Int))
   ·rw [ae k];by_cases n:yq m d (a+(i:Int))=[]
    ·rw [ab (λh=>h.2 n),n];rfl
    ·rw [ae ⟨k,n⟩];have hp:0<(yq m d (a+(i:Int))).length:=List.length_pos_iff.2 n;have K:decide ((((yq m d (a+(i:Int))).length:Nat):Int)>0)=true:=am (by omega);simp only [ah,ob,K];rfl
   ·rw [ab k,ab (λh=>k h.1)];rfl)
  (by
   unfold ge;simp only [d4,d8];rw [p,aq (show ¬a+(((b - a+1).toNat:Nat):Int)<=b by omega)];rfl)
  (N:=19999700+300) (by rw [p];omega)
 rw [show a+((0:Nat):Int)=a by omega] at this;rw [this];cases q:(List.findSome? (λy=>if inP g dg x 0 y/\yq m d y≠[] then some (Sum.inl (1:Int)) else none) ((List.range (b - a+1).toNat).map (λj:Nat=>a+(j:Int))):Option (Int⊕Unit)) with
 | none=>
  refine ⟨0,rfl,.inr ⟨rfl,?_⟩⟩;rintro ⟨e,s,w⟩;rw [QV] at q;have hs:=M e s;have:=q e (eZ.2 ⟨(e - a).toNat,kR.2 (by omega),by omega⟩);rw [ae ⟨s,w⟩] at this;cases this
 | some z=>
  obtain ⟨y,P,o⟩:=List.exists_of_findSome?_eq_some q;by_cases t:inP g dg x 0 y/\yq m d y≠[]
  ·rw [ae t] at o;obtain rfl:=aZ o;exact ⟨1,rfl,.inl ⟨rfl,y,t.1,t.2⟩⟩
  ·rw [ab t] at o;cases o
theorem s8 {g l:Bool} {dg:aa} {x q:Int} {m d:aa} {k0 k1 k2:Int} (f:dg.length<=100) (o:0<=k0) (j:0<=k1) (t:0<=k2):
  bP 20000000 g l dg x q m d k0 k1 k2=some (chkF g l dg x q m d k0 k1 k2):=by
 unfold bP chkF;rw [E0 20000000 (by omega) g l dg x q m d k0 k1 k2 f o j t];simp only [ob];by_cases hc:chkD g l dg x q m d k0 k1 k2=0
 ·obtain ⟨a,s,n,k,e⟩:=ue hc;rw [hc];by_cases b:d=[]
  ·subst b;rw [ab (by simp)];rfl
  ·have c:q=0:=by
    have:=WX a;by_cases h:0<q
    ·exact absurd (k h) (e b).1
    ·omega
   subst c;obtain ⟨r,p,u⟩:=Qr a m d k0 k1 k2;rw [f9 b,p];rcases u with ⟨rfl,i⟩ | ⟨rfl,i⟩
   ·rw [ab (λh=>h.2.2 i)];rfl
   ·rw [ae ⟨rfl,b,i⟩];rfl
 ·rw [ab (λh=>hc h.1)];have:(chkD g l dg x q m d k0 k1 k2==0)=false:=aM.2 hc;rw [this];rfl
theorem mE {g l:Bool} {dg:aa} {x q:Int} {m d:aa} {k0 k1 k2:Int} (h:chkF g l dg x q m d k0 k1 k2=0):chkD g l dg x q m d k0 k1 k2=0:=by
 unfold chkF at h;split at h
 ·cases h
 ·exact h
theorem bne0 {e:Int} (h:e≠0):(e != 0)=true:=by simp [h]
theorem OJ {m d:aa} {y:Int} {z:Int×Int×Int}:z∈yq m d y↔z.1=y/\z.2.1∈monI m/\z.2.2∈dayI d/\z.2.2<=xj d y z.2.1:=by
 unfold yq vj;simp only [List.mem_flatMap,eZ,nH,cj];constructor
 ·rintro ⟨f,b,k,⟨c,a⟩,rfl⟩;exact ⟨rfl,b,c,a⟩
 ·rintro ⟨e,b,c,a⟩;exact ⟨z.2.1,b,z.2.2,⟨c,a⟩,by rw [<-e]⟩
def plN (P:Nat×Nat×Nat) (i:Nat):Nat:=if i=0 then P.1 else if i=1 then P.2.1 else P.2.2
theorem um {g l:Bool} {dg:aa} {x q:Int} {m d:aa} {k0 k1 k2:Int} (a:allM k0 k1 k2 (dB m d)=0):chkF g l dg x q m d k0 k1 k2=0\/chkF g l dg x q m d k0 k1 k2=6\/chkF g l dg x q m d k0 k1 k2=7\/chkF g l dg x q m d k0 k1 k2=8:=by
 unfold chkF;split
 ·exact .inr (.inr (.inr rfl))
 ·exact NG a
noncomputable def chkR (r:DR):Nat:=(chkF r.1 r.2.1 r.2.2.1 (r.2.2.2.1:Int) (r.2.2.2.2.1:Int) r.2.2.2.2.2.1 r.2.2.2.2.2.2.1 (r.2.2.2.2.2.2.2.1.1:Int) (r.2.2.2.2.2.2.2.1.2.1:Int) (r.2.2.2.2.2.2.2.1.2.2:Int)).toNat
noncomputable def dk (S:aa) (a:Nat):(Nat×Nat×Nat)⊕DR:=
 match qp S a with
 | .inl k=>.inl (k,5,k)
 | .inr r=>if chkR r=0 then .inr r else .inl (plN r.2.2.2.2.2.2.2.2.1 (chkR r - 6),chkR r,r.2.2.2.2.2.2.2.2.2)
def Xm (S:aa):(Nat×Nat×Nat)⊕DR->(Int×Int×aa×Int)⊕(Bool×Bool×aa×Int×Int×aa×aa×Int×Int×Int×Int×aa×Int)
 | .inl (k,E,p)=>.inl ((k:Int),(E:Int),S,(p:Int))
 | .inr (g,l,dg,x,s,m,d,M,P,e)=>.inr (g,l,dg,(x:Int),(s:Int),m,d,(M.1:Int),(M.2.1:Int),(M.2.2:Int),(P.1:Int),S,(e:Int))
theorem FW (S:aa) (a:Nat) (h:a<=S.length) (n:S.length<100000):iG 20000000 S (a:Int)=some (Xm S (dk S a)):=by
 have j:jQ 20000000 S (a:Int)=_:=Su 19999700 S a h n (by omega);unfold iG dk;rw [j];cases o:qp S a with
 | inl k=>rfl
 | inr r=>
  obtain ⟨g,l,dg,x,s,f,d,M,P,e⟩:=r;have b:=By h o;have i:=b.all;have t:=b.m2;have p:=b.dg17;simp only [ob,WM,d4,d8];rw [vJ (g:=g) (l:=l) (x:=(x:Int)) (q:=(s:Int)) (d:=d) (show f.length<=18 by omega) (show dg.length<=100 by omega) (show (0:Int)<=(M.1:Int) by omega) (show (0:Int)<=(M.2.1:Int) by omega) (show (0:Int)<=(M.2.2:Int) by omega)];simp only [ob];have c:=um (g:=g) (l:=l) (dg:=dg) (x:=(x:Int)) (q:=(s:Int)) (m:=f) (d:=d) (k0:=(M.1:Int)) (k1:=(M.2.1:Int)) (k2:=(M.2.2:Int)) (uF i);unfold chkR;simp only [];rcases c with hc | hc | hc | hc<;>rw [hc]<;>rfl
def dayY (y:Int):Int:=365*y+(1+(y - 1) / 4 - (y - 1) / 100+(y - 1) / 400)
def cumM (y:Int):Nat->Int
 | 0=>0
 | k+1=>cumM y k+lenI y ((k+1:Nat):Int)
def dayM (y:Int) (m:Nat):Int:=if m<=12 then dayY y+cumM y (m - 1) else dayY (y+1)+cumM (y+1) (m - 13)
theorem Dy (y:Int):dayY (y+1)=dayY y+365+(if sR y then 1 else 0):=by
 unfold dayY sR;simp only [az,iO,cj];split<;>omega
theorem G1 (n:Int):dayY (400*n)=146097*n:=by
 unfold dayY;omega
theorem kF {y:Int} (h:-20000000000000000<=y/\y<=20000000000000000):-8000000000000000000<=dayY y/\dayY y<=8000000000000000000:=by
 unfold dayY;omega
theorem XF (y:Int):cumM y 12=365+(if sR y then 1 else 0):=by
 have e:∀k:Nat,cumM y (k+1)=cumM y k+lenI y ((k+1:Nat):Int):=λ_=>rfl;have z:cumM y 0=0:=rfl;rw [e 11,e 10,e 9,e 8,e 7,e 6,e 5,e 4,e 3,e 2,e 1,e 0,z];unfold lenI;cases sR y<;>rfl
theorem qx (y:Int):∀k:Nat,0<=cumM y k/\cumM y k<=31*(k:Int)
 | 0=>by simp [cumM]
 | k+1=>by
  have a:=qx y k;have b:=lF y ((k+1:Nat):Int);show 0<=cumM y k+lenI y ((k+1:Nat):Int)/\cumM y k+lenI y ((k+1:Nat):Int)<=_;omega
theorem o5 {y:Int} (h:dX y) {m:Nat} (a:m<=24):-8100000000000000000<=dayM y m/\dayM y m<=8100000000000000000:=by
 unfold dX at h;unfold dayM;split
 ·have:=qx y (m - 1);have:=kF (y:=y) (by omega);omega
 ·have:=qx (y+1) (m - 13);have:=kF (y:=y+1) (by omega);omega
theorem Tc (y:Int):dayM y 13=dayY (y+1):=by
 unfold dayM;rw [ab (by omega)];simp [cumM]
theorem KA (y:Int) {m:Nat} (a:1<=m) (b:m<=12):dayM y (m+1)=dayM y m+lenI y (m:Int):=by
 obtain ⟨k,rfl⟩:∃k,m=k+1:=⟨m - 1,by omega⟩;have e:dayM y (k+1)=dayY y+cumM y k:=by unfold dayM;rw [ae (by omega)];rfl
 rw [e];by_cases h:k+1=12
 ·obtain rfl:k=11:=by omega
  rw [Tc,Dy];have:=XF y;have e:cumM y 12=cumM y 11+lenI y ((11+1:Nat):Int):=rfl;omega
 ·have:dayM y (k+1+1)=dayY y+cumM y (k+1):=by unfold dayM;rw [ae (by omega)];rfl
  rw [this];show dayY y+(cumM y k+lenI y ((k+1:Nat):Int))=_;omega
theorem Df (y:Int) {m:Nat} (b:1<=m) (a:m<=12):dayM y (m+12)=dayM (y+1) m:=by
 unfold dayM;rw [ab (by omega),ae a];congr 2
theorem sA (n:Nat) {y:Int} (h:-10000000000000001<=y/\y<=10000000000000001):lR n y=some (dayY y):=by
 have a:=kF (y:=y) (by omega);unfold lR;rw [xT n (by omega),wrap_i64 (365*y) (by omega) (by omega)];show some (IntKind.wrap .i64 (dayY y))=_;rw [wrap_i64 _ (by omega) (by omega)]
theorem si (n:Nat) {y:Int} (h:dX y):lI n y=some (dayY y,0):=by
 unfold lI;have h':=h;unfold dX at h';rw [gF,ae h,sA n (by omega)];rfl
theorem CC (n:Nat) {y:Int} (h:dX y):tM n y=some (dayY (y+1) - 1,0):=by
 unfold tM;have h':=h;unfold dX at h';have a:=kF (y:=y+1) (by omega);rw [gF,ae h,wrap_i64 (y+1) (by omega) (by omega),sA n (by omega)];show some (IntKind.wrap .i64 (dayY (y+1) - 1),(0:Int))=_;rw [wrap_i64 _ (by omega) (by omega)]
theorem Eo (n:Nat) {y:Int} (h:dX y) {m:Nat} (e:m<=11):∀(r j:Nat),j+r=m->∀N,r<N->ar (bJ n) N (y,dayY y+cumM y j,(m:Int),(j:Int))=some (dayY y+cumM y m):=by
 have h':=h;unfold dX at h';have c:=kF (y:=y) (by omega);intro r
 induction r with
 | zero=>
  intro j b N a;obtain ⟨N,rfl⟩:∃k,N=k+1:=⟨N - 1,by omega⟩;obtain rfl:j=m:=by omega
  have:bJ n (y,dayY y+cumM y j,(j:Int),(j:Int))=some (.inr (dayY y+cumM y j)):=by
   unfold bJ;rw [bz,ab (show ¬((j:Int)<(j:Int)) by omega)]
  rw [ar,this]
 | succ r ih=>
  intro j b N a;obtain ⟨N,rfl⟩:∃k,N=k+1:=⟨N - 1,by omega⟩;have w:IntKind.wrap .i64 ((j:Int)+1)=((j+1:Nat):Int):=by rw [wrap_i64 _ (by omega) (by omega)];omega
  have hc:=qx y j;have d:=lF y ((j+1:Nat):Int);have:bJ n (y,dayY y+cumM y j,(m:Int),(j:Int))=some (.inl (y,dayY y+cumM y (j+1),(m:Int),((j+1:Nat):Int))):=by
   unfold bJ;rw [bz,ae (show ((j:Int)<(m:Int)) by omega)];simp only [w,xa n h (show 1<=j+1 by omega) (show j+1<=12 by omega),ob];rw [wrap_i64 (dayY y+cumM y j+lenI y ((j+1:Nat):Int)) (by omega) (by omega),Int.add_assoc];rfl
  rw [ar,this];exact ih (j+1) (by omega) N (by omega)
theorem ug (n:Nat) (c:100<n) {y:Int} (h:dX y) {m:Nat} (b:1<=m) (a:m<=12):fC n y (m:Int)=some (dayM y m,0):=by
 unfold fC;have w:IntKind.wrap .i64 ((m:Int) - 1)=((m - 1:Nat):Int):=by rw [wrap_i64 _ (by omega) (by omega)];omega
 rw [H5 n h b a,si n h,w];have:=Eo n h (m:=m - 1) (by omega) (m - 1) 0 (by omega) n (by omega);rw [show dayY y+cumM y 0=dayY y by simp [cumM]] at this;show ob (ar (bJ n) n (y,dayY y,((m - 1:Nat):Int),((0:Nat):Int))) _=_;rw [this];unfold dayM;rw [ae a];rfl
theorem EQ (n:Nat) (c:100<n) {y:Int} (h:dX y) {m:Nat} (a:1<=m) (b:m<=12):hZ n y (m:Int)=some (dayM y (m+1) - 1,0):=by
 unfold hZ;have d:=o5 h (m:=m) (by omega);have e:=lF y (m:Int);rw [ug n c h a b,xa n h a b,KA y a b];show some (IntKind.wrap .i64 (IntKind.wrap .i64 (dayM y m+lenI y (m:Int)) - 1),(0:Int))=_;rw [wrap_i64 (dayM y m+lenI y (m:Int)) (by omega) (by omega),wrap_i64 _ (by omega) (by omega)]
theorem Ip (n:Nat) (b:100<n) {y:Int} (h:dX y) {j m c:Nat} (l:j<21) (e:nB[j]?=some ((m:Int),(c:Int))) (f:1<=m) (g:m<=12) (i:1<=c) (o:c<=6) (hy:12<m+c - 1->y≠10000000000000000):
  iE n y ((21+j:Nat):Int)=some (0,dayM y m,0,dayM y (m+c) - 1,0):=by
 have k:fB n ((21+j:Nat):Int)=some ((m:Int),(c:Int),0):=by
  unfold fB dI;rw [bz,bz,ab (by omega),ab (by omega)];have:IntKind.wrap .i64 (((21+j:Nat):Int) - 21)=(j:Int):=by rw [wrap_i64 _ (by omega) (by omega)];omega
  rw [this,dl l];show ob (nB[j]?) _=_;rw [e];rfl
 unfold iE;rw [k];simp only [ob,dJ,af];rw [ug n b h f g];simp only [ob,dJ,af];rw [madd n h f g i o];have h':=h;unfold dX at h';by_cases a:12<m+c - 1
 ·rw [ae a,ab (hy a)];have d:dX (y+1):=by unfold dX;have:=hy a;omega
  simp only [ob,dJ,af];rw [EQ n b d (m:=m+c - 1 - 12) (by omega) (by omega)];have:=Df y (m:=m+c - 1 - 12+1) (by omega) (by omega);rw [show m+c - 1 - 12+1+12=m+c by omega] at this;rw [this]
 ·rw [ab a];simp only [ob,dJ,af];rw [EQ n b h (m:=m+c - 1) (by omega) (by omega),show m+c - 1+1=m+c by omega]
theorem zI (n:Nat) {y:Int} (hy:-10000000000000002<=y/\y<=10000000000000002):∀(r:Nat) (z:Int),z+(r:Int)=y->-10000000000000402<=z->∀N,r<N->ar (cV n) N (y,dayY z,z)=some (dayY y):=by
 intro r
 induction r with
 | zero=>
  intro z e b N c;obtain ⟨N,rfl⟩:∃k,N=k+1:=⟨N - 1,by omega⟩;obtain rfl:z=y:=by omega
  have:cV n (z,dayY z,z)=some (.inr (dayY z)):=by
   unfold cV;rw [bz,ab (show ¬(z<z) by omega)]
  rw [ar,this]
 | succ r ih=>
  intro z e b N c;obtain ⟨N,rfl⟩:∃k,N=k+1:=⟨N - 1,by omega⟩;have f:=kF (y:=z) (by omega);have a:=Dy z;have:cV n (y,dayY z,z)=some (.inl (y,dayY (z+1),z+1)):=by
   unfold cV;rw [bz,ae (show z<y by omega),BH];have d:lenI z 2=if sR z then 29 else 28:=rfl
   simp only [ob,d];rw [wrap_i64 (dayY z+365) (by omega) (by omega),wrap_i64 (dayY z+365+1) (by omega) (by omega),wrap_i64 (z+1) (by omega) (by omega),a];cases sR z
   ·simp
   ·rfl
  rw [ar,this];exact ih (z+1) (by omega) (by omega) N (by omega)
theorem rF (n:Nat) (e:1000<n) {y:Int} (hy:-10000000000000002<=y/\y<=10000000000000002):cg n y=some (dayY y):=by
 have b:=Int.mul_tdiv_add_tmod y 400;have d:Int.tmod y 400=if 0<=y then y%400 else -((-y)%400):=by
  by_cases h:0<=y
  ·rw [ae h,Nj h]
  ·rw [ab h,<-Nj (show 0<=-y by omega),Int.neg_tmod,Int.neg_neg]
 unfold cg;by_cases a:Int.tmod y 400<0
 ·rw [am a];have c:Int.tdiv y 400 - 1=y / 400:=by
   rw [d] at a b;split at a
   ·omega
   ·rw [ab (by assumption)] at b;omega
  rw [wrap_i64 (Int.tdiv y 400) (by omega) (by omega),c,wrap_i64 (y / 400) (by omega) (by omega),wrap_i64 (y / 400*146097) (by omega) (by omega),wrap_i64 (y / 400*400) (by omega) (by omega)];have:=zI n hy (y - y / 400*400).toNat (y / 400*400) (by omega) (by omega) n (by omega);rw [show dayY (y / 400*400)=y / 400*146097 by rw [zf,G1,zf]] at this;simp only [ah,this,ob]
 ·rw [aq a];have c:Int.tdiv y 400=y / 400:=by
   rw [d] at a b;split at a
   ·rw [ae (by assumption)] at b;omega
   ·rw [ab (by assumption)] at b;omega
  rw [c,wrap_i64 (y / 400) (by omega) (by omega),wrap_i64 (y / 400*146097) (by omega) (by omega),wrap_i64 (y / 400*400) (by omega) (by omega)];have:=zI n hy (y - y / 400*400).toNat (y / 400*400) (by omega) (by omega) n (by omega);rw [show dayY (y / 400*400)=y / 400*146097 by rw [zf,G1,zf]] at this;simp only [af,this,ob]
theorem wk {step:Int×Int×Int×Int->Option ((Int×Int×Int×Int)⊕Int)} (n:Nat)
  (hs:step=λx=>(cond (decide (x.2.2.2<x.2.1)) (ob (eC n x.1 x.2.2.2) λr=>(some (.inl (x.1,x.2.1,(IntKind.wrap .i64 (x.2.2.1+r)),(IntKind.wrap .i64 (x.2.2.2+1)))))) (some (.inr x.2.2.1))))
  {y:Int} (hy:-10000000000000002<=y/\y<=10000000000000002) {m:Nat} (f:1<=m) (d:m<=12) {N:Nat} (a:20<N):ar step N (y,(m:Int),dayY y,1)=some (dayM y m):=by
 have g:=kF (y:=y) (by omega);have c:∀(r j:Nat),j+1+r=m->∀N,r<N->ar step N (y,(m:Int),dayY y+cumM y j,((j+1:Nat):Int))=some (dayY y+cumM y (m - 1)):=by
  intro r
  induction r with
  | zero=>
   intro j b N a;obtain ⟨N,rfl⟩:∃k,N=k+1:=⟨N - 1,by omega⟩;obtain rfl:j+1=m:=by omega
   have:step (y,((j+1:Nat):Int),dayY y+cumM y j,((j+1:Nat):Int))=some (.inr (dayY y+cumM y j)):=by
    rw [hs];simp only [];rw [aq (show ¬(((j+1:Nat):Int)<((j+1:Nat):Int)) by omega)];rfl
   rw [ar,this];rfl
  | succ r ih=>
   intro j b N a;obtain ⟨N,rfl⟩:∃k,N=k+1:=⟨N - 1,by omega⟩;have w:IntKind.wrap .i64 (((j+1:Nat):Int)+1)=((j+1+1:Nat):Int):=by rw [wrap_i64 _ (by omega) (by omega)];omega
   have hc:=qx y j;have h:=lF y ((j+1:Nat):Int);have:step (y,(m:Int),dayY y+cumM y j,((j+1:Nat):Int))=some (.inl (y,(m:Int),dayY y+cumM y (j+1),((j+1+1:Nat):Int))):=by
    rw [hs];simp only [];rw [am (show (((j+1:Nat):Int)<(m:Int)) by omega),BH];simp only [ah,ob,w];rw [wrap_i64 (dayY y+cumM y j+lenI y ((j+1:Nat):Int)) (by omega) (by omega),Int.add_assoc];rfl
   rw [ar,this];exact ih (j+1) (by omega) N (by omega)
 have:=c (m - 1) 0 (by omega) N (by omega);rw [show dayY y+cumM y 0=dayY y by simp [cumM]] at this;have e:dayM y m=dayY y+cumM y (m - 1):=by unfold dayM;rw [ae d]
 rw [e];exact this
theorem qG (n:Nat) (a:1000<n) {y:Int} (hy:-10000000000000001<=y/\y<=10000000000000001) {m:Nat} (b:1<=m) (c:m<=24):aR n y (m:Int)=some (dayM y m):=by
 unfold aR;by_cases h:12<m
 ·rw [am (show (m:Int)>12 by omega),wrap_i64 (y+1) (by omega) (by omega),wrap_i64 ((m:Int) - 12) (by omega) (by omega),show (m:Int) - 12=((m - 12:Nat):Int) by omega];unfold kx;rw [aq (show ¬((m - 12:Nat):Int)>12 by omega),rF n a (by omega)];simp only [ah,af,ob];have:=wk (step:=i6 n) n rfl (y:=y+1) (by omega) (m:=m - 12) (by omega) (by omega) (N:=n) (by omega);rw [this,<-Df y (by omega) (by omega),show m - 12+12=m by omega]
 ·rw [aq (show ¬(m:Int)>12 by omega),rF n a (by omega)];simp only [af,ob];have:=wk (step:=ku n) n rfl (y:=y) (by omega) (m:=m) (by omega) (by omega) (N:=n) (by omega);rw [this]
def twoV (s:aa):Nat:=match s with
 | [a,b]=>10*(a.toNat - 48)+(b.toNat - 48)
 | _=>0
def yOf (g:Bool) (dg:aa) (x:Int):Int:=if g then -((val dg x.toNat:Nat):Int) else ((val dg x.toNat:Nat):Int)
def spF (m:aa):Nat:=((nB.getD (sea m - 21).toNat (0,0)).1).toNat
def spC (m:aa):Nat:=((nB.getD (sea m - 21).toNat (0,0)).2).toNat
def pW (g:Bool) (dg:aa) (x:Int) (m d:aa):Int×Int:=
 if m=[] then (dayY (yOf g dg x),dayY (yOf g dg x+1) - 1)
 else if 0<sea m then (dayM (yOf g dg x) (spF m),dayM (yOf g dg x) (spF m+spC m) - 1)
 else if d=[] then (dayM (yOf g dg x) (twoV m),dayM (yOf g dg x) (twoV m+1) - 1)
 else (dayM (yOf g dg x) (twoV m)+(twoV d:Int) - 1,dayM (yOf g dg x) (twoV m)+(twoV d:Int) - 1)
def exD (dg m d:aa) (q:Int):Bool:=!(hasX dg||(hasX m||hasX d))&&(q==0)
theorem Q0 {s:aa} (h:hasX s=false) {c:UInt8} (hc:c∈s):c≠88:=by
 rintro rfl;unfold hasX at h;rw [sc] at h;exact h 88 hc (by decide)
theorem NN {s:aa} (h:hasX s=false) {k:Nat} (l:k<100) (c:agr s k=true):twoV s=k/\s=two k:=by
 unfold agr at c;split at c
 ·rename_i a b;have g:a≠88:=Q0 h (by simp);have f:b≠88:=Q0 h (by simp);simp only [az,iO,bI] at c;obtain ⟨d,e⟩:=c;have d:=d.resolve_left g;have e:=e.resolve_left f;subst d e;refine ⟨?_,rfl⟩;unfold twoV;have i:(UInt8.ofNat (48+k / 10)).toNat=48+k / 10:=by simp;omega
  have j:(UInt8.ofNat (48+k%10)).toNat=48+k%10:=by simp;omega
  simp only [i,j];omega
 ·cases c
theorem zQ {s:aa} (h:hasX s=false) {g:Nat} (d:g<100) (a:gI s g=true):1<=twoV s/\twoV s<=g/\s=two (twoV s):=by
 unfold gI at a;obtain ⟨i,hi,a⟩:=ui.1 a;have:=kR.1 hi;obtain ⟨c,b⟩:=NN h (by omega) a;rw [c];exact ⟨by omega,by omega,b⟩
theorem Jx {s:aa} (h:hasX s=false) {g:Nat} (d:g<100) {k:Int} (b:k∈ua (fitN s g)):k=(twoV s:Int):=by
 obtain ⟨i,hi,rfl⟩:=eZ.1 b;obtain ⟨a,c⟩:=nH.1 hi;have:=BB.1 a;rw [(NN h (by omega) c).1]
theorem G5 {k:Nat} (c:k<100):Lib.atoi (two k)=some (k:Int):=by
 have b:(UInt8.ofNat (48+k / 10)).toNat=48+k / 10:=by simp;omega
 have a:(UInt8.ofNat (48+k%10)).toNat=48+k%10:=by simp;omega
 unfold two;rw [Gx (by omega) (by omega),b,a];congr 2;omega
theorem zH (n:Nat) {k:Nat} (d:k<100):aX n (two k)=some (k:Int):=by
 have c:(UInt8.ofNat (48+k / 10)).toNat=48+k / 10:=by simp;omega
 have a:(UInt8.ofNat (48+k%10)).toNat=48+k%10:=by simp;omega
 have s0:sx (two k) 0=some (UInt8.ofNat (48+k / 10)):=rfl;have b:sx (two k) 1=some (UInt8.ofNat (48+k%10)):=rfl;unfold aX;rw [s0,b];simp only [ob,c,a]
 rw [ks (((48+k / 10:Nat):Int) - 48) (by omega) (by omega),ks (((48+k%10:Nat):Int) - 48) (by omega) (by omega),
  wrap_i64 (((48+k / 10:Nat):Int) - 48) (by omega) (by omega),wrap_i64 (((48+k%10:Nat):Int) - 48) (by omega) (by omega),
  wrap_i64 (10*(((48+k / 10:Nat):Int) - 48)) (by omega) (by omega),wrap_i64 _ (by omega) (by omega)]
 congr 1;omega
structure Exact (g l:Bool) (dg:aa) (x:Int) (m d:aa):Prop where
 ok:okY g l dg x 0
 num:hasX dg=false
 cal:dX (yOf g dg x)
 mon:m=[]\/(∃j,j<21/\m=two (21+j)/\(j=3\/j=7\/j=9->yOf g dg x≠10000000000000000))\/(sea m=0/\1<=twoV m/\twoV m<=12/\m=two (twoV m))
 day:d=[]\/(m≠[]/\sea m=0/\1<=twoV d/\twoV d<=31/\d=two (twoV d)/\(twoV d:Int)<=lenI (yOf g dg x) (twoV m:Int))
theorem vZ {g l:Bool} {dg:aa} {x q:Int} {m d:aa} {k0 k1 k2:Int} (hc:chkF g l dg x q m d k0 k1 k2=0) (p:exD dg m d q=true):q=0/\Exact g l dg x m d:=by
 unfold exD at p;simp only [az,kW,oV,bI] at p;obtain ⟨⟨C,r,s⟩,rfl⟩:=p;refine ⟨rfl,?_⟩;have y:=mE hc;obtain ⟨a,H,M,Q,D⟩:=ue y;obtain ⟨k,J,K,c4⟩:=NK y;have i:=FI a C;obtain ⟨F,_,_⟩:=Nq a;have hy:inP g dg x 0 (yOf g dg x):=by
  have:=(i _).1 F;have e:yOf g dg x=(sgn g (qb g dg x 0)).1:=by rw [this];rfl
  rw [e];exact F
 have f:=Am hy;refine ⟨a,C,f,?_,?_⟩
 ·by_cases o:m=[]
  ·exact .inl o
  ·right;rcases pa m with N | ⟨j,G,e⟩
   ·right;rcases J with h | h | h
    ·exact absurd h o
    ·omega
    ·obtain ⟨a1,a2,E⟩:=zQ r (by omega) h;exact ⟨N,a1,a2,E⟩
   ·left;refine ⟨j,G,e,λI=>?_⟩;unfold yrD at k;rw [ae a] at k;unfold yrB at k;simp only [az,kW] at k;have v:wint (sea m)=true:=by
     rw [e,lL G];rcases I with rfl | rfl | rfl<;>rfl
    have n:=k.2;rw [v,nI] at n;unfold uA at n;rw [C] at n;intro b;unfold yOf at b;cases g with
    | true=>
     simp only [aJ] at b;omega
    | false=>
     simp only [br,aA] at b;have:val dg x.toNat=E16:=by unfold E16;omega
     rw [am this] at n;cases n
 ·by_cases c:d=[]
  ·exact .inl c
  ·right;obtain ⟨o,hs⟩:=D c;rcases K with h | ⟨_,_,h⟩
   ·exact absurd h c
   ·obtain ⟨a1,a2,E⟩:=zQ s (by omega) h;refine ⟨o,hs,a1,a2,E,?_⟩;have P:hasF g dg x m d:=by
     unfold chkF at hc;split at hc
     ·cases hc
     ·rename_i O;by_cases h:hasF g dg x m d
      ·exact h
      ·exact absurd ⟨y,c,h⟩ O
    obtain ⟨e,p,w⟩:=P;obtain ⟨z,L,A⟩:=List.exists_cons_of_ne_nil w;have A:z∈yq m d e:=by rw [A];exact pC
    obtain ⟨z1,z2,t,u⟩:=OJ.1 A;have B:e=yOf g dg x:=(i e).1 p;unfold monI at z2;rw [ab o,ab (by omega)] at z2;unfold dayI at t;rw [ab c] at t;unfold xj at u;rw [ab c,Jx s (by omega) t,Jx r (by omega) z2,B] at u;exact u
theorem KN {j:Nat} (b:j<21):∃f c:Nat,nB[j]?=some ((f:Int),(c:Int))/\1<=f/\f<=12/\1<=c/\c<=6/\(12<f+c - 1↔j=3\/j=7\/j=9)/\spF (two (21+j))=f/\spC (two (21+j))=c:=by
 obtain ⟨f,c,e,g,i,d,k,h⟩:=H7 b;have hs:(sea (two (21+j)) - 21).toNat=j:=by rw [lL b];omega
 have a:nB.getD j (0,0)=((f:Int),(c:Int)):=by rw [BS,e];rfl
 refine ⟨f,c,e,g,i,d,k,h,?_,?_⟩
 ·unfold spF;rw [hs,a];rfl
 ·unfold spC;rw [hs,a];rfl
theorem Dw (n:Nat) {j:Nat} (a:j<21):gS n ((21+j:Nat):Int)=nB[j]?:=by
 have:j=0\/j=1\/j=2\/j=3\/j=4\/j=5\/j=6\/j=7\/j=8\/j=9\/j=10\/j=11\/j=12\/j=13\/j=14\/j=15\/j=16\/j=17\/j=18\/j=19\/j=20:=by omega
 rcases this with rfl | rfl | rfl | rfl | rfl | rfl | rfl | rfl | rfl | rfl | rfl | rfl | rfl | rfl | rfl | rfl | rfl | rfl | rfl | rfl | rfl<;>rfl
theorem GR (n:Nat) (g l:Bool) (dg:aa) (x q:Int) (m d:aa) (k0 k1 k2:Int) (b:m.length<=1000) (a:dg.length<=1000) (h:d.length<=1000):mq n g l dg x q m d k0 k1 k2=some (exD dg m d q):=by
 unfold mq exD;rw [Ea n g l dg x q m d k0 k1 k2 b a h];simp only [ob];cases (hasX dg||(hasX m||hasX d))<;>rfl
theorem QY {Y:Type} (a b:Y):∀s:aa,((s.findSome? λc=>if c=88 then some a else none).getD b)=if hasX s then a else b
 | []=>rfl
 | c::s=>by
  have ih:=QY a b s;unfold hasX at ih ⊢;rw [C7,qE];by_cases hc:c=88
  ·subst hc;rfl
  ·rw [ab hc];have e:(c==88)=false:=aM.2 hc;rw [e,o8];exact ih
theorem yM (n:Nat) (s:aa) (g l:Bool) (dg:aa) (x q:Int) (m d:aa) (k0 k1 k2:Int) (hs:s.length<=100000) {N:Nat} (a:s.length<N):
  ar (ek n) N (s,0,g,l,dg,x,q,m,d,k0,k1,k2)=some (if hasX s then .inl 0 else .inr (g,l,dg,x,q,m,d,k0,k1,k2)):=by
 have:=tQ (step:=ek n) (f:=λi=>(s,(i:Int),g,l,dg,x,q,m,d,k0,k1,k2)) (L:=s) (G:=λc=>if c=88 then some (.inl 0) else none) (e:=.inr (g,l,dg,x,q,m,d,k0,k1,k2))
  (λi c hi=>by
   have b:=(qR.1 hi).1;have j:IntKind.wrap .i64 ((i:Int)+1)=((i+1:Nat):Int):=by rw [wrap_i64 _ (by omega) (by omega)];omega
   unfold ek;simp only [d4,d8,j];rw [am (show (i:Int)<((s.length:Nat):Int) by omega),dL hi];simp only [ah,ob];by_cases hc:c=88
   ·subst hc;rw [ae rfl];rfl
   ·rw [ab hc];have:(((c.toNat:Nat):Int)==88)=false:=by
     rw [aM];intro h;apply hc;apply gv.1;have:c.toNat=88:=by omega
     rw [this];rfl
    rw [this];rfl)
  (by
   unfold ek;simp only [d4,d8];rw [aq (show ¬((s.length:Nat):Int)<((s.length:Nat):Int) by omega)];rfl)
  a
 rw [show ((0:Nat):Int)=0 from rfl] at this;rw [this];rw [QY]
theorem BQ (n:Nat) (g l:Bool) (dg:aa) (x q:Int) (m d:aa) (k0 k1 k2:Int) (f:m.length<=1000) (e:dg.length<=1000) (h:d.length<=1000) (i:4000<n):aO n g l dg x q m d k0 k1 k2=some (if exD dg m d q then 1 else 0):=by
 unfold aO;rw [cb (by omega)];simp only [ob];rw [cb (by rw [aL];omega)];simp only [];rw [yM n _ _ _ _ _ _ _ _ _ _ _ (by simp only [aL];omega) (by simp only [aL];omega)];rw [vL,vL];unfold exD;cases hasX dg<;>cases hasX m<;>cases hasX d<;>(try rfl);simp only [wV,br,aA,ob,d4,ij,nI];by_cases a:q=0
 ·subst a;rfl
 ·have c:(q != 0)=true:=by simp [a]
  have b:(q==0)=false:=aM.2 a;rw [c,b];rfl
theorem Tj (n:Nat) (c:100<n) {y:Int} (h:dX y) {m k:Nat} (a:1<=m) (b:m<=12) (k1:1<=k) (k2:(k:Int)<=lenI y (m:Int)):rS n y (m:Int) (k:Int)=some (dayM y m+(k:Int) - 1,0):=by
 have d:=o5 h (m:=m) (by omega);have e:=lF y (m:Int);unfold rS qS;rw [N1 n h a b];simp only [ob,dJ,af];rw [aq (show ¬(k:Int)<1 by omega),aq (show ¬(k:Int)>lenI y (m:Int) by omega),ug n c h a b];simp only [ob,dJ,af];rw [wrap_i64 (dayM y m+(k:Int)) (by omega) (by omega),wrap_i64 _ (by omega) (by omega)]
section
variable {g l:Bool} {dg:List UInt8} {x:Int} {m d:List UInt8} {k0 k1 k2:Int}
theorem ES (n:Nat) (u:100<n) (z:m.length<=18) (E:Exact g l dg x m d) (p r:Int) (v:m≠[]->p=if 0<sea m then sea m else (twoV m:Int)) (L:d≠[]->r=(twoV d:Int)):
  (ob (jl n) λC=>(ob (bh n g l dg x 0 m d k0 k1 k2) λk=>(cond (k==0) (ob (gG n (yOf g dg x) ([p,r]:List (Int))) λo=>(some (o.1,o.2.1,o.2.2.1,o.2.2.2,(0:Int)))) (cond (k==1) (ob (gz n (yOf g dg x) ([p,r]:List (Int))) λi=>(some (i.1,i.2.1,i.2.2.1,i.2.2.2,0))) (cond (k==2) (ob (gp n (yOf g dg x) ([p,r]:List (Int))) λa=>(some (a.1,a.2.1,a.2.2.1,a.2.2.2,0))) (cond (k==3) (ob (gn n (yOf g dg x) ([p,r]:List (Int))) λb=>(some (b.1,b.2.1,b.2.2.1,b.2.2.2,0))) none)))))) =
   some (0,(pW g dg x m d).1,0,(pW g dg x m d).2,0):=by
 have I:jl n=some ():=rfl;have A:ix ([p,r]:List Int).length 0=some 0:=rfl;have K:ix ([p,r]:List Int).length 1=some 1:=rfl;have g0:([p,r]:List Int)[0]?=some p:=rfl;have J:([p,r]:List Int)[1]?=some r:=rfl;rw [I,Jj n g l dg x 0 m d k0 k1 k2 z];unfold pW;by_cases t:d=[]
 ·rw [ae t];by_cases q:m=[]
  ·have hs:sea m=0:=by rw [q];decide
   rw [ab (show ¬0<sea m by omega),ae q,ae q];unfold gz;rw [si n E.cal,CC n E.cal];rfl
  ·rw [ab q];by_cases hs:0<sea m
   ·rw [ae hs,ae hs];rcases E.mon with h | ⟨j,s,e,B⟩ | ⟨h,_⟩
    ·exact absurd h q
    ·obtain ⟨f,c,O,a1,a2,P,F,G,H,M⟩:=KN s;have y:p=((21+j:Nat):Int):=by rw [v q,ae hs,e,lL s]
     unfold gG;rw [A];simp only [ob,g0];rw [y,Ip n u E.cal s O a1 a2 P F (λh=>B (G.1 h)),e,H,M];rfl
    ·omega
   ·rw [ab hs,ab hs,ab q,ae t];rcases E.mon with h | ⟨j,s,e,B⟩ | ⟨_,a1,a2,_⟩
    ·exact absurd h q
    ·rw [e,lL s] at hs;omega
    ·have y:p=(twoV m:Int):=by rw [v q,ab hs]
     unfold gp;rw [A];simp only [ob,g0];rw [y,ug n u E.cal a1 a2,EQ n u E.cal a1 a2];rfl
 ·rw [ab t];rcases E.day with h | ⟨q,hs,b1,b2,Q,N⟩
  ·exact absurd h t
  ·rw [ab q,ab (show ¬0<sea m by omega),ab t];rcases E.mon with h | ⟨j,s,e,B⟩ | ⟨_,a1,a2,_⟩
   ·exact absurd h q
   ·rw [e,lL s] at hs;omega
   ·have D:p=(twoV m:Int):=by rw [v q,ab (by omega)]
    have w:=L t;unfold gn;rw [A,K];simp only [ob,g0,J];rw [D,w,Tj n u E.cal a1 a2 b1 N];rfl
theorem P2 (E:Exact g l dg x m d) (c:m≠[]):Lib.atoi m=some (if 0<sea m then sea m else (twoV m:Int)):=by
 rcases E.mon with h | ⟨j,a,e,_⟩ | ⟨f,a1,a2,b⟩
 ·exact absurd h c
 ·rw [e,lL a,ae (by omega)];exact wv a
 ·rw [ab (by omega)];have:=G5 (k:=twoV m) (by omega);rw [<-b] at this;exact this
theorem PS (E:Exact g l dg x m d) (a:d≠[]):Lib.atoi d=some (twoV d:Int):=by
 rcases E.day with h | ⟨_,_,a1,a2,b,_⟩
 ·exact absurd h a
 ·have:=G5 (k:=twoV d) (by omega);rw [<-b] at this;exact this
theorem Az:Lib.atoi []=none:=by kernel_rfl
theorem EW {q:Int} (b:m.length<=18) (e:dg.length<=100) (p:d.length<=18) (o:0<=k0) (n:0<=k1) (t:0<=k2):
  gm 20000000 g l dg x q m d k0 k1 k2=some (if chkF g l dg x q m d k0 k1 k2=0 then (if exD dg m d q=true then (0,(pW g dg x m d).1,0,(pW g dg x m d).2,0) else (0,0,0,0,1)) else (0,0,0,0,chkF g l dg x q m d k0 k1 k2)):=by
 have k:Nat.ble m.length 18=true:=cZ b;have s:Nat.ble d.length 18=true:=cZ p;unfold gm;rw [vJ b e o n t];simp only [ob];by_cases hc:chkF g l dg x q m d k0 k1 k2=0
 ·rw [ae hc,hc,GR 20000000 g l dg x q m d k0 k1 k2 (by omega) (by omega) (by omega)];simp only [ob,dJ,af];by_cases c:exD dg m d q=true
  ·rw [ae c,c];obtain ⟨rfl,E⟩:=vZ hc c;have r:eN 20000000 g l dg x 0=some (yOf g dg x,0):=by
    rw [Au 20000000 g l dg x 0 (by omega) e,ae ⟨E.ok,E.num⟩];rfl
   rw [r,k,s];simp only [co,af,ah,ob];by_cases i:m=[]
   ·have a:d=[]:=by
     rcases E.day with h | ⟨h,_⟩
     ·exact h
     ·exact absurd i h
    have:=ES (k0:=k0) (k1:=k1) (k2:=k2) 20000000 (by omega) b E 0 0 (λh=>absurd i h) (λh=>absurd a h);have f:Lib.atoi m=none:=by rw [i];exact Az
    have j:Lib.atoi d=none:=by rw [a];exact Az
    rw [f,j];simp only [opt];exact this
   ·have f:=P2 E i;by_cases a:d=[]
    ·have:=ES (k0:=k0) (k1:=k1) (k2:=k2) 20000000 (by omega) b E (if 0<sea m then sea m else (twoV m:Int)) 0 (λ_=>rfl) (λh=>absurd a h);have j:Lib.atoi d=none:=by rw [a];exact Az
     rw [f,j];simp only [opt];exact this
    ·have:=ES (k0:=k0) (k1:=k1) (k2:=k2) 20000000 (by omega) b E (if 0<sea m then sea m else (twoV m:Int)) (twoV d:Int) (λ_=>rfl) (λ_=>rfl);rw [f,PS E a];simp only [opt];exact this
  ·rw [ab c];rw [Gz] at c;rw [c];rfl
 ·rw [ab hc,bne0 hc];rfl
theorem uI (E:Exact g l dg x m d) (K:dg.length<=100):bj 20000000 g l dg x 0 m d k0 k1 k2=some (pW g dg x m d):=by
 obtain ⟨k,q,rfl,V,I⟩:=tD E.ok E.num;have X:k<=17:=by have:=I.wide;omega
 have hs:=I.small;have G:ak 20000000 dg (k:Int)=some (((val dg k:Nat):Int),1):=by
  rw [jy 20000000 dg k I.dig K (by omega) (by omega),ae I.small];rfl
 have O:dval 0 dg*10 ^ k=val dg k:=rfl;rw [O] at hs;unfold E16 at hs;have hy:yOf g dg (k:Int)=if g then -((val dg k:Nat):Int) else ((val dg k:Nat):Int):=by unfold yOf;rw [cf]
 have D:=E.cal;unfold dX at D;have key:∀y:Int,y=yOf g dg (k:Int)->
   (ob (aQ 20000000 g l dg (k:Int) 0 m d k0 k1 k2) λb=>(cond (m==([]:aa)) (ob (cg 20000000 y) λA=>(ob (cg 20000000 (IntKind.wrap .i64 (y+1))) λz=>(some (A,(IntKind.wrap .i64 (z - 1)))))) (cond (decide (b>0)) (ob (gS 20000000 b) λa=>(ob (aR 20000000 y a.1) λu=>(ob (aR 20000000 y (IntKind.wrap .i64 (a.1+a.2))) λr=>(some (u,(IntKind.wrap .i64 (r - 1))))))) (cond (d==([]:aa)) (ob (aX 20000000 m) λt=>(ob (aR 20000000 y t) λs=>(ob (aX 20000000 m) λv=>(ob (aR 20000000 y (IntKind.wrap .i64 (v+1))) λp=>(some (s,(IntKind.wrap .i64 (p - 1)))))))) (ob (aX 20000000 m) λo=>(ob (aR 20000000 y o) λn=>(ob (aX 20000000 d) λi=>(some ((IntKind.wrap .i64 ((IntKind.wrap .i64 (n+i)) - 1)),(IntKind.wrap .i64 ((IntKind.wrap .i64 (n+i)) - 1)))))))))) )=some (pW g dg (k:Int) m d):=by
  intro y L;subst L;have hcal':=E.cal;have rY:=kF (y:=yOf g dg (k:Int)+1) (by omega);rw [oN 20000000 (by omega)];simp only [ob];unfold pW;by_cases B:m=[]
  ·have e:(m==([]:aa))=true:=by rw [B];rfl
   rw [ae B,e,rF 20000000 (by omega) (by omega),wrap_i64 (yOf g dg (k:Int)+1) (by omega) (by omega),rF 20000000 (by omega) (by omega)];simp only [ah,ob];rw [wrap_i64 _ (by omega) (by omega)]
  ·rw [ab B,f9 B];simp only [af];by_cases hs:0<sea m
   ·rw [ae hs,am (show sea m>0 from hs)];rcases E.mon with h | ⟨j,C,e,_⟩ | ⟨h,_⟩
    ·exact absurd h B
    ·obtain ⟨f,c,T,a1,a2,N,W,Y,P,S⟩:=KN C;have J:sea m=((21+j:Nat):Int):=by rw [e,lL C]
     have Q:=o5 hcal' (m:=f+c) (by omega);rw [J,Dw 20000000 C,T];simp only [ah,ob];rw [qG 20000000 (by omega) (by omega) a1 (by omega)];simp only [ob];rw [wrap_i64 ((f:Int)+(c:Int)) (by omega) (by omega),show (f:Int)+(c:Int)=((f+c:Nat):Int) by omega,qG 20000000 (by omega) (by omega) (by omega) (by omega)];simp only [ob];rw [wrap_i64 _ (by omega) (by omega),e,P,S]
    ·omega
   ·rw [ab hs,aq (show ¬sea m>0 from hs)];simp only [af];rcases E.mon with h | ⟨j,C,e,_⟩ | ⟨_,a1,a2,N⟩
    ·exact absurd h B
    ·rw [e,lL C] at hs;omega
    ·have M:=zH 20000000 (k:=twoV m) (by omega);rw [<-N] at M;have Q:=o5 hcal' (m:=twoV m) (by omega);have R:=o5 hcal' (m:=twoV m+1) (by omega);by_cases F:d=[]
     ·have e:(d==([]:aa))=true:=by rw [F];rfl
      rw [ae F,e,M];simp only [ah,ob];rw [qG 20000000 (by omega) (by omega) a1 (by omega)];simp only [ob];rw [wrap_i64 ((twoV m:Int)+1) (by omega) (by omega),show (twoV m:Int)+1=((twoV m+1:Nat):Int) by omega,qG 20000000 (by omega) (by omega) (by omega) (by omega)];simp only [ob];rw [wrap_i64 _ (by omega) (by omega)]
     ·rw [ab F,f9 F];rcases E.day with h | ⟨_,_,b1,b2,U,Z⟩
      ·exact absurd h F
      ·have H:=zH 20000000 (k:=twoV d) (by omega);rw [<-U] at H;rw [M];simp only [af,ob];rw [qG 20000000 (by omega) (by omega) a1 (by omega),H];simp only [ob];rw [wrap_i64 (dayM (yOf g dg (k:Int)) (twoV m)+(twoV d:Int)) (by omega) (by omega),wrap_i64 _ (by omega) (by omega)]
 unfold bj;rw [G];simp only [ob];cases g with
 | true=>
  have w:IntKind.wrap .i64 (0 - ((val dg k:Nat):Int))=yOf true dg (k:Int):=by
   rw [wrap_i64 _ (by omega) (by omega),hy];simp
  rw [w];simp only [ah];exact key _ rfl
 | false=>
  have w:((val dg k:Nat):Int)=yOf false dg (k:Int):=by rw [hy];rfl
  rw [w];simp only [af];exact key _ rfl
end
end Go.Sh
