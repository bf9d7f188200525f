
/- Plain proofs, kept as far as they are needed here (printed by prune.py).
   Conditions: none. -/
import Derived.Test.YthemneooekobkabGreatDoorLawQza
set_option linter.unusedVariables false
set_option linter.unusedSimpArgs false
set_option maxRecDepth 100000
namespace Go.Sh
open Go.Abs
def cD (A B:Nat) (w:aa):aa:=mt A++w++mt B
def qL (g l:Bool) (dg:aa) (x q:Int) (m d:aa) (k0 k1 k2:Nat):aa:=
 cD (plA (co m d) k0 k1 k2).1 (plB (co m d) k0 k1 k2).1 (gH g l dg x q)
  ++ ((if m=[] then [] else 45::cD (plA (co m d) k0 k1 k2).2.1 (plB (co m d) k0 k1 k2).2.1 m)
  ++ (if d=[] then [] else 45::cD (plA (co m d) k0 k1 k2).2.2 (plB (co m d) k0 k1 k2).2.2 d))
structure OkD (g l:Bool) (dg:aa) (x q:Nat) (m d:aa) (k0 k1 k2:Nat):Prop where
 yr:okY g l dg (x:Int) (q:Int)
 x16:x<=16
 q17:q<=17
 dg17:dg.length<=17
 noM:0<q->m=[]
 mon:m=[]\/(m.length=2/\∀c∈m,isDX c=true)
 day:d=[]\/(m≠[]/\d.length=2/\∀c∈d,isDX c=true)
 m0:k0<4
 m1:k1<4
 m2:k2<4
 z1:co m d<2->k1=0
 z2:co m d<3->k2=0
theorem C4 {g l:Bool} {dg:aa} {x q:Int} {m d:aa} {k0 k1 k2:Int} (v:0<=k0) (C:0<=k1) (w:0<=k2) (h:chkD g l dg x q m d k0 k1 k2=0):
  ∃o p a b c:Nat,x=(o:Int)/\q=(p:Int)/\k0=(a:Int)/\k1=(b:Int)/\k2=(c:Int)/\OkD g l dg o p m d a b c:=by
 obtain ⟨hy,f,i,n⟩:=JX h;unfold yrD at hy;by_cases e:okY g l dg x q
 rotate_left
 ·rw [ab e] at hy;cases hy
 rw [ae e] at hy;obtain ⟨r,B,t,A,y,s⟩:=iY e;have hk':¬(3<k0\/3<k1\/3<k2\/(co m d<2/\k1≠0)\/(co m d<3/\k2≠0)):=by
  intro z;unfold allM at n;rw [ae z] at n;exact absurd n (by decide)
 refine ⟨x.toNat,q.toNat,k0.toNat,k1.toNat,k2.toNat,by omega,by omega,by omega,by omega,by omega,?_⟩;rw [<-II r,<-II t] at e;refine ⟨e,by omega,by omega,s,?_,?_,?_,by omega,by omega,by omega,by omega,by omega⟩
 ·intro u;unfold yrB at hy;have hq':decide (0<q)=true:=by simp;omega
  rw [hq'] at hy;by_cases j:m=[]
  ·exact j
  ·have:(m==[])=false:=aK.2 j;rw [this] at hy;simp at hy
 ·rcases f with f | f | f
  ·exact .inl f
  ·exact .inr (K8 f)
  ·exact .inr (rP (by omega) f)
 ·rcases i with i | ⟨i,_,k⟩
  ·exact .inl i
  ·have:=rP (show 31<=31 by omega) k;exact .inr ⟨i,this.1,this.2⟩
theorem PN (n k i:Nat) (hi:i<k) (y:k<=3) (A B:List Nat) (a b:Nat) (r:A[i]?=some a) (m:B[i]?=some b) (g:a<4) (f:b<4) (ws:List (aa)) (t:ws.length=k) (w:aa) (w0 e d:aa) (h:[w0,e,d][i]?=some w) (s:w.length<=1000):
  aT n (k,(k:Int),(i:Int),A.map cI,B.map cI,ws,[w0,e,d])=some (.inl (k,(k:Int),((i+1:Nat):Int),A.map cI,B.map cI,ws.set i (cD a b w),[w0,e,d])):=by
 have w2':IntKind.wrap .i64 ((i:Int)+1)=((i+1:Nat):Int):=by rw [wrap_i64 _ (by omega) (by omega)];omega
 have q:(A.map cI)[i]?=some (a:Int):=by rw [mj,r];rfl
 have o:(B.map cI)[i]?=some (b:Int):=by rw [mj,m];rfl
 have c:∀z:Nat,z<4->(mt z).length<=1:=λz x=>by
  unfold mt;split
  ·simp
  ·split
   ·simp
   ·split<;>simp
 unfold aT;rw [bG,ae (show (i:Int)<(k:Int) by omega)];simp only [dY hi,dY (show i<3 by omega),ob,h,d4,q,o,(Du n a g).1,(Du n b f).1];have C:=c a g;have u:=c b f;have p:cat (mt a) w=some (mt a++w):=cJ (by omega);have j:cat (mt a++w) (mt b)=some (mt a++w++mt b):=cJ (by rw [aR];omega);rw [p];simp only [ob];rw [j];simp only [ob];have hi':i<ws.length:=by omega
 obtain ⟨v,l⟩:∃v,ws[i]?=some v:=⟨ws[i],bh hi'⟩;rw [dY hi'];simp only [ob,l,w2'];rfl
theorem FY (n k:Nat) (A B:List Int) (ws V:List (aa)):aT n (k,(k:Int),(k:Int),A,B,ws,V)=some (.inr ws):=by
 unfold aT;rw [bG,ab (show ¬((k:Int)<(k:Int)) by omega)]
theorem na (a b:Nat) (w:aa):(cD a b w).length<=w.length+2:=by
 have c:∀z:Nat,(mt z).length<=1:=λz=>by
  unfold mt;split
  ·simp
  ·split
   ·simp
   ·split<;>simp
 have:=c a;have:=c b;unfold cD;simp only [aR];omega
theorem OB:co [] []=1:=rfl
theorem HM {m:aa} (h:m≠[]):co m []=2:=by unfold co;rw [aK.2 h];rfl
theorem Iu {m d:aa} (h:m≠[]) (a:d≠[]):co m d=3:=by unfold co;rw [aK.2 h,aK.2 a];rfl
theorem o9 {d:aa} (h:d.length=2):d≠[]:=by rintro rfl;simp at h
theorem Uc (n:Nat) (g l:Bool) (dg:aa) (x q:Nat) (m d:aa) (k0 k1 k2:Nat) (U:m.length<=18) (O:dg.length<=100):
  dh (n+300) g l dg (x:Int) (q:Int) m d (k0:Int) (k1:Int) (k2:Int)=some (if chkD g l dg (x:Int) (q:Int) m d (k0:Int) (k1:Int) (k2:Int)=0 then (qL g l dg (x:Int) (q:Int) m d k0 k1 k2,0) else ([],chkD g l dg (x:Int) (q:Int) m d (k0:Int) (k1:Int) (k2:Int))):=by
 unfold dh;rw [AZ (n+300) (by omega) g l dg _ _ m d _ _ _ U O (by omega) (by omega) (by omega)];show cond (chkD g l dg (x:Int) (q:Int) m d (k0:Int) (k1:Int) (k2:Int) != 0) _ _=_;rw [wc];by_cases C:chkD g l dg (x:Int) (q:Int) m d (k0:Int) (k1:Int) (k2:Int)=0
 rotate_left
 ·rw [ab C,ab C]
 rw [ae C,ae C];obtain ⟨Z,V,a,b,c,e1,e2,e3,e4,e5,o⟩:=C4 (by omega) (by omega) (by omega) C;obtain rfl:x=Z:=by omega
 obtain rfl:q=V:=by omega
 obtain rfl:k0=a:=by omega
 obtain rfl:k1=b:=by omega
 obtain rfl:k2=c:=by omega
 have hc:=mw m d;have I:=(Vm n (co m d) k0 k1 k2 hc o.m0 o.m1 o.m2 o.z1 o.z2).1;obtain ⟨G,K,N,y,J,P⟩:=UB (k:=co m d) o.m0 o.m1 o.m2;rw [qu (n+300) (by omega)];simp only [ob];rw [I,BN (n+300) g l dg _ _ (by omega) O,ae o.yr];simp only [ob,eC,af,NA o.yr,ah];have D:(decide ((0:Int)<=((co m d:Nat):Int))&&(decide (((co m d:Nat):Int)<=((co m d:Nat):Int))&&decide (((co m d:Nat):Int)<=(67108864:Int))))=true:=by
  rw [am (by omega),am (by omega),am (by omega)];rfl
 rw [D,cM (show co m d<=3 by omega)];simp only [ob,ah,bR];have M:=ua o.yr;have W:Nat.ble 1 140737488355328=true:=rfl;have R:Nat.ble 2 140737488355328=true:=rfl;have Q:Nat.ble 3 140737488355328=true:=rfl;unfold qL;generalize gH g l dg (x:Int) (q:Int)=Y at M;generalize B:plA (co m d) k0 k1 k2=PA at *;generalize E:plB (co m d) k0 k1 k2=PB at *;obtain ⟨j,p,t⟩:=PA;obtain ⟨f,r,s⟩:=PB;simp only at G K N y J P;have st:=λ(k i:Nat) (hi:i<k) (hk:k<=3) (a b:Nat) (ha:[j,p,t][i]?=some a) (hb:[f,r,s][i]?=some b) (a4:a<4) (b4:b<4) (ws:List (aa)) (hl:ws.length=k) (w:aa) (w0 w1 w2:aa) (F:[w0,w1,w2][i]?=some w) (hwl:w.length<=1000)=>PN (n+300) k i hi hk [j,p,t] [f,r,s] a b ha hb a4 b4 ws hl w w0 w1 w2 F hwl;have A:∀L:aa,L.length<=1000->Nat.ble L.length 140737488355328=true:=λL h=>cT (by omega);by_cases u:m=[]
 ·have v:d=[]:=o.day.resolve_right (λz=>z.1 u);subst u v;show ob (au (aT (n+300)) (n+299+1) (1,((1:Nat):Int),((0:Nat):Int),[j,p,t].map cI,[f,r,s].map cI,[[]],[Y,[],[]])) _=_;rw [au,st 1 0 (by omega) (by omega) j f rfl rfl G y [[]] rfl Y Y [] [] rfl (by omega)];show ob (au (aT (n+300)) (n+298+1) (1,((1:Nat):Int),((1:Nat):Int),[j,p,t].map cI,[f,r,s].map cI,[cD j f Y],[Y,[],[]])) _=_;rw [au,FY];simp only [ob];have e:Lib.join [cD j f Y] [45]=cD j f Y:=Lib.join_one _ _;have F:=na j f Y;rw [e,A _ (by omega)];simp [W]
 ·have X:m.length=2:=(o.mon.resolve_left u).1;by_cases v:d=[]
  ·subst v;rw [HM u] at B E ⊢;show ob (au (aT (n+300)) (n+299+1) (2,((2:Nat):Int),((0:Nat):Int),[j,p,t].map cI,[f,r,s].map cI,[[],[]],[Y,m,[]])) _=_;rw [au,st 2 0 (by omega) (by omega) j f rfl rfl G y [[],[]] rfl Y Y m [] rfl (by omega)];show ob (au (aT (n+300)) (n+298+1) (2,((2:Nat):Int),((1:Nat):Int),[j,p,t].map cI,[f,r,s].map cI,[cD j f Y,[]],[Y,m,[]])) _=_;rw [au,st 2 1 (by omega) (by omega) p r rfl rfl K J [cD j f Y,[]] rfl m Y m [] rfl (by omega)];show ob (au (aT (n+300)) (n+297+1) (2,((2:Nat):Int),((2:Nat):Int),[j,p,t].map cI,[f,r,s].map cI,[cD j f Y,cD p r m],[Y,m,[]])) _=_;rw [au,FY];simp only [ob];have e:Lib.join [cD j f Y,cD p r m] [45]=cD j f Y++(45::cD p r m):=by rw [Lib.join_cons];simp [Lib.joinTail]
   have F:=na j f Y;have H:=na p r m;rw [e,A _ (by simp only [aR,aE];omega)];rw [ab u];simp [R]
  ·have S:d.length=2:=(o.day.resolve_left v).2.1;rw [Iu u v] at B E ⊢;show ob (au (aT (n+300)) (n+299+1) (3,((3:Nat):Int),((0:Nat):Int),[j,p,t].map cI,[f,r,s].map cI,[[],[],[]],[Y,m,d])) _=_;rw [au,st 3 0 (by omega) (by omega) j f rfl rfl G y [[],[],[]] rfl Y Y m d rfl (by omega)];show ob (au (aT (n+300)) (n+298+1) (3,((3:Nat):Int),((1:Nat):Int),[j,p,t].map cI,[f,r,s].map cI,[cD j f Y,[],[]],[Y,m,d])) _=_;rw [au,st 3 1 (by omega) (by omega) p r rfl rfl K J [cD j f Y,[],[]] rfl m Y m d rfl (by omega)];show ob (au (aT (n+300)) (n+297+1) (3,((3:Nat):Int),((2:Nat):Int),[j,p,t].map cI,[f,r,s].map cI,[cD j f Y,cD p r m,[]],[Y,m,d])) _=_;rw [au,st 3 2 (by omega) (by omega) t s rfl rfl N P [cD j f Y,cD p r m,[]] rfl d Y m d rfl (by omega)];show ob (au (aT (n+300)) (n+296+1) (3,((3:Nat):Int),((3:Nat):Int),[j,p,t].map cI,[f,r,s].map cI,[cD j f Y,cD p r m,cD t s d],[Y,m,d])) _=_;rw [au,FY];simp only [ob];have e:Lib.join [cD j f Y,cD p r m,cD t s d] [45]=cD j f Y++(45::cD p r m++(45::cD t s d)):=by rw [Lib.join_cons];simp [Lib.joinTail]
   have F:=na j f Y;have H:=na p r m;have T:=na t s d;rw [e,A _ (by simp only [aR,aE];omega)];rw [ab u,ab v];simp [Q]
theorem IV (n:Nat) {g l:Bool} {dg:aa} {x q:Nat} {m d:aa} {k0 k1 k2:Nat} (e:OkD g l dg x q m d k0 k1 k2):
  dH (n+300) g l dg (x:Int) (q:Int) m d (k0:Int) (k1:Int) (k2:Int)=some (qL g l dg (x:Int) (q:Int) m d k0 k1 k2):=by
 have hc:=mw m d;have t:=(Vm n (co m d) k0 k1 k2 hc e.m0 e.m1 e.m2 e.z1 e.z2).2;obtain ⟨F,E,B,p,C,D⟩:=UB (k:=co m d) e.m0 e.m1 e.m2;have y:=ua e.yr;have hx:=e.x16;have V:=e.q17;have U:=e.dg17;unfold dH;rw [gF (n+300)];simp only [ob];rw [t,Qp (n+300) g l dg x q (by omega) (by omega) (by omega)];unfold qL;generalize gH g l dg (x:Int) (q:Int)=Y at y ⊢;generalize J:plA (co m d) k0 k1 k2=R at *;generalize S:plB (co m d) k0 k1 k2=PB at *;obtain ⟨A,r,w⟩:=R;obtain ⟨v,s,u⟩:=PB;simp only at F E B p C D;have j:∀z:Nat,(mt z).length<=1:=λz=>by
  unfold mt;split
  ·simp
  ·split
   ·simp
   ·split<;>simp
 have P:=j A;have G:=j r;have N:=j w;have T:=j v;have M:=j s;have H:=j u;have O:m.length<=2:=by
  rcases e.mon with h | h
  ·rw [h];simp
  ·omega
 have K:d.length<=2:=by
  rcases e.day with h | h
  ·rw [h];simp
  ·omega
 have Q:∀a b c:Nat,(l3 (a,b,c))[0]?=some (a:Int):=λ_ _ _=>rfl;have L:∀a b c:Nat,(l3 (a,b,c))[1]?=some (b:Int):=λ_ _ _=>rfl;have I:∀a b c:Nat,(l3 (a,b,c))[2]?=some (c:Int):=λ_ _ _=>rfl;have f:∀a b:aa,a.length+b.length<=1000000->cat a b=some (a++b):=λa b h=>cJ h;simp only [ob,Q,L,I,(Du (n+300) A F).2,(Du (n+300) r E).2,(Du (n+300) w B).2,(Du (n+300) v p).2,(Du (n+300) s C).2,(Du (n+300) u D).2];rw [f (mt A) Y (by omega)];simp only [ob];rw [f _ (mt v) (by simp only [aR];omega)];simp only [ob];have k1':decide (((co m d:Nat):Int)>1)=decide (1<co m d):=by rw [mI];omega
 have k2':decide (((co m d:Nat):Int)>2)=decide (2<co m d):=by rw [mI];omega
 rw [k1',k2'];by_cases i:m=[]
 ·have o:d=[]:=e.day.resolve_right (λz=>z.1 i);subst i o;rw [OB];simp [cD]
 ·by_cases o:d=[]
  ·subst o;rw [HM i,ab i];simp only [show decide (1<2)=true from rfl,show decide (2<2)=false from rfl,ah,af];rw [f [45] (mt r) (by simp;omega)];simp only [ob];rw [f _ m (by simp only [aR,aE,bH];omega)];simp only [ob];rw [f _ (mt s) (by simp only [aR,aE,bH];omega)];simp only [ob];rw [f _ _ (by simp only [aR,aE,bH];omega)];simp [cD]
  ·rw [Iu i o,ab i,ab o];simp only [show decide (1<3)=true from rfl,show decide (2<3)=true from rfl,ah,af];rw [f [45] (mt r) (by simp;omega)];simp only [ob];rw [f _ m (by simp only [aR,aE,bH];omega)];simp only [ob];rw [f _ (mt s) (by simp only [aR,aE,bH];omega)];simp only [ob];rw [f _ _ (by simp only [aR,aE,bH];omega)];simp only [ob];rw [f [45] (mt w) (by simp;omega)];simp only [ob];rw [f _ d (by simp only [aR,aE,bH];omega)];simp only [ob];rw [f _ (mt u) (by simp only [aR,aE,bH];omega)];simp only [ob];rw [f _ _ (by simp only [aR,aE,bH];omega)];simp [cD]
def isMk (c:UInt8):Bool:=decide (0<mkOf c)
theorem gJ {S u v:aa} {a:Nat} (h:S.drop a=u++v):S.drop (a+u.length)=v:=by
 rw [<-jg,h,Dl];rfl
theorem Lr {A:Nat} (d:A<4) {r:aa} (b:da isMk r):mkS (mt A++r)=A/\mkN (mt A++r)=(mt A).length:=by
 have a:mkS r=0:=by
  cases r with
  | nil=>rfl
  | cons c r=>
   have:=b c rfl;unfold isMk at this;have:=of_decide_eq_false this;show mkOf c=0;omega
 have h:A=0\/A=1\/A=2\/A=3:=by omega
 rcases h with rfl | rfl | rfl | rfl
 ·refine ⟨a,?_⟩;show mkN r=0;unfold mkN;rw [ae a]
 ·exact ⟨rfl,rfl⟩
 ·exact ⟨rfl,rfl⟩
 ·exact ⟨rfl,rfl⟩
theorem eF {p:UInt8->Bool} {c:UInt8} {r:aa} (h:p c=false):da p (c::r):=λa hc=>by
 simp only [sT,av] at hc;rw [<-hc];exact h
theorem ML {p:UInt8->Bool} (B:Nat) {r:aa} (c:p 63=false) (b:p 126=false) (d:p 37=false) (a:da p r):da p (mt B++r):=by
 unfold mt;split
 ·exact eF c
 ·split
  ·exact eF b
  ·split
   ·exact eF d
   ·exact a
theorem JU {c:UInt8} (h:isDX c=true):isMk c=false:=by
 have:=iL (λc=>!(isDX c)||!(isMk c)) (by decide +kernel) c;rw [h] at this;simpa using this
theorem wb {p q:UInt8->Bool} {w r:aa} (b:w≠[]) (h:∀c∈w,p c=true) (a:∀c,p c=true->q c=false):da q (w++r):=by
 cases w with
 | nil=>exact absurd rfl b
 | cons c w=>exact eF (a c (h c lL))
theorem KB {g l:Bool} {d:aa} {x s:Int} (h:okY g l d x s):∀c∈d,isDX c=true:=by
 intro c hc;unfold okY at h;have:bf c=true\/c=88:=by
  split at h
  ·exact .inl (h.1.1 c hc)
  ·exact h.2.1 c hc
 unfold isDX;rcases this with a | a
 ·rw [a];rfl
 ·rw [a];decide
theorem JO {g l:Bool} {d:aa} {x s:Nat} (h:okY g l d (x:Int) (s:Int)) (r:aa):da isMk (gH g l d (x:Int) (s:Int)++r):=by
 have a:d≠[]:=by
  have:=(iY h).2.2.2.2.1;rintro rfl;simp at this
 rw [ki];cases l with
 | true=>exact eF (by decide)
 | false=>
  cases g with
  | true=>exact eF (by decide)
  | false=>
   simp only [bw,aC,dJ,fK];exact wb a (KB h) (λc=>JU)
theorem ue {S:aa} {p A B:Nat} {w R:aa} (h:S.drop p=cD A B w++R) (f:A<4) (g:B<4) (e:da isMk (w++(mt B++R))) (i:da isMk R):
  mkS (S.drop p)=A/\S.drop (mkE S p)=w++(mt B++R)/\mkS (S.drop (mkE S p+w.length))=B/\S.drop (mkE S (mkE S p+w.length))=R/\mkE S (mkE S p+w.length)=p+(cD A B w).length:=by
 have h':S.drop p=mt A++(w++(mt B++R)):=by rw [h];unfold cD;simp
 obtain ⟨m,l⟩:=Lr f e;obtain ⟨k,j⟩:=Lr g i;have d:mkE S p=p+(mt A).length:=by unfold mkE;rw [h',l]
 have c:S.drop (mkE S p)=w++(mt B++R):=by rw [d];exact gJ h'
 have b:S.drop (mkE S p+w.length)=mt B++R:=gJ c;have a:mkE S (mkE S p+w.length)=mkE S p+w.length+(mt B).length:=by
  show mkE S p+w.length+mkN (S.drop (mkE S p+w.length))=_;rw [b,j]
 refine ⟨by rw [h',m],c,by rw [b,k],by rw [a];exact gJ b,?_⟩;rw [a,d];unfold cD;simp only [aR];omega
theorem Cm {m r:aa} (e:m.length=2) (h:∀c∈m,isDX c=true):twoN (m++r)=2/\(m++r).take 2=m:=by
 match m,e with
 | [a,b],_=>
  have f:=h a (by simp);have d:=h b (by simp);refine ⟨?_,rfl⟩;unfold twoN;show bI isDX 2 (a::b::r)=2;simp [bI,f,d]
theorem SB {k a b c:Nat} (e:k<2->b=0) (d:k<3->c=0) (f:1<=k):(k<2->(plA k a b c).2.1=0/\(plB k a b c).2.1=0)/\(k<3->(plA k a b c).2.2=0/\(plB k a b c).2.2=0):=by
 unfold plA plB;constructor
 ·intro h;have:k=1:=by omega
  subst this;have:=e h;split
  ·simp
  ·simp [this]
 ·intro h;have:=d h;split
  ·split
   ·simp
   ·have:k=2:=by omega
    simp [this]
  ·simp [this]
def rawD (A B:Nat×Nat×Nat) (g l:Bool) (dg:aa) (x q:Int) (m d:aa):aa:=
 cD A.1 B.1 (gH g l dg x q)++((if m=[] then [] else 45::cD A.2.1 B.2.1 m)++(if d=[] then [] else 45::cD A.2.2 B.2.2 d))
structure MkD (A B:Nat×Nat×Nat) (m d:aa):Prop where
 a0:A.1<4
 a1:A.2.1<4
 a2:A.2.2<4
 b0:B.1<4
 b1:B.2.1<4
 b2:B.2.2<4
 zm:m=[]->A.2.1=0/\B.2.1=0
 zd:d=[]->A.2.2=0/\B.2.2=0
structure ShD (g l:Bool) (dg:aa) (x q:Nat) (m d:aa):Prop where
 yr:okY g l dg (x:Int) (q:Int)
 noM:0<q->m=[]
 mon:m=[]\/(m.length=2/\∀c∈m,isDX c=true)
 day:d=[]\/(m≠[]/\d.length=2/\∀c∈d,isDX c=true)
theorem OkD.sh {g l:Bool} {dg:aa} {x q:Nat} {m d:aa} {k0 k1 k2:Nat} (h:OkD g l dg x q m d k0 k1 k2):ShD g l dg x q m d:=⟨h.yr,h.noM,h.mon,h.day⟩
theorem OkD.marks {g l:Bool} {dg:aa} {x q:Nat} {m d:aa} {k0 k1 k2:Nat} (h:OkD g l dg x q m d k0 k1 k2):MkD (plA (co m d) k0 k1 k2) (plB (co m d) k0 k1 k2) m d:=by
 obtain ⟨U,Y,O,G,X,W⟩:=UB (k:=co m d) h.m0 h.m1 h.m2;obtain ⟨E,J⟩:=SB (a:=k0) h.z1 h.z2 (mw m d).1;refine ⟨U,Y,O,G,X,W,λC=>E ?_,λQ=>J ?_⟩
 ·have F:d=[]:=h.day.resolve_right (λz=>z.1 C);subst C F;rw [OB];omega
 ·subst Q;by_cases C:m=[]
  ·subst C;rw [OB];omega
  ·rw [HM C];omega
theorem Hz {A B:Nat×Nat×Nat} {g l:Bool} {dg:aa} {x q:Nat} {m d:aa} (f:ShD g l dg x q m d) (p:MkD A B m d) {S:aa} {a:Nat} {post:aa} (h:S.drop a=rawD A B g l dg (x:Int) (q:Int) m d++post)
  (hp1:da isYC post) (G:da isMk post) (L:da (λc=>c==45) post):
  ∃P:Nat×Nat×Nat,P.1=a+(mt A.1).length/\rD S a=.inr (g,l,dg,x,q,m,d,spM A B,P,a+(rawD A B g l dg (x:Int) (q:Int) m d).length):=by
 obtain ⟨l0,l1,l2,V,l4,l5,W,I⟩:=p;obtain ⟨k,t,K⟩:=A;obtain ⟨j,n,y⟩:=B;simp only at l0 l1 l2 V l4 l5 W I h;unfold rawD at h ⊢;simp only at h ⊢;have v:isMk 45=false:=by decide
 have y45:isYC 45=false:=by decide
 have U:∀r:aa,da (λc=>c==45) r->fq 45 r=0:=λr hr=>by
  cases r with
  | nil=>rfl
  | cons c r=>
   have:=hr c rfl;exact pa (λe=>by rw [e] at this;exact absurd this (by decide)) r
 have hyx:=N8 f.yr;have O:=JO f.yr;generalize hY:gH g l dg (x:Int) (q:Int)=Y at *;have D:∀R:aa,S.drop a=cD k j Y++R->da isYC R->da isMk R->
   mkE S a=a+(mt k).length/\mkS (S.drop a)=k/\pU (S.drop (mkE S a))=.inr (g,l,dg,x,q,Y.length)/\mkS (S.drop (mkE S a+Y.length))=j/\S.drop (mkE S (mkE S a+Y.length))=R/\mkE S (mkE S a+Y.length)=a+(cD k j Y).length:=by
  intro R hR h1 X;obtain ⟨C,w,H,o,E⟩:=ue hR l0 V (O _) X;refine ⟨?_,C,?_,H,o,E⟩
  ·have hR':S.drop a=mt k++(Y++(mt j++R)):=by rw [hR];unfold cD;simp
   unfold mkE;rw [hR',(Lr l0 (O _)).2]
  rw [w];exact hyx _ (ML j (by decide) (by decide) (by decide) h1)
 unfold rD;by_cases b:m=[]
 ·have i:d=[]:=f.day.resolve_right (λz=>z.1 b);subst b i;simp only [aO,ln] at h ⊢;obtain ⟨w0,C,w,H,o,E⟩:=D post h hp1 G;rw [w];simp only [];rw [o,ae (.inr (U post L)),C,H,E];obtain ⟨rfl,rfl⟩:=W rfl;obtain ⟨rfl,rfl⟩:=I rfl;exact ⟨_,w0,rfl⟩
 ·have hq0:¬0<q:=λz=>b (f.noM z);obtain ⟨s,F⟩:=f.mon.resolve_left b;rw [ab b] at h ⊢;have p:∀r,da isMk (m++r):=λr=>wb b F (λc=>JU);by_cases i:d=[]
  ·subst i;rw [ae rfl,ln] at h ⊢;have h':S.drop a=cD k j Y++(45::(cD t n m++post)):=by rw [h];simp
   obtain ⟨w0,C,w,H,o,E⟩:=D _ h' (eF y45) (eF v);rw [w];simp only [];rw [o,oe,ab (λz=>z.elim hq0 (by omega)),C,H];unfold rd2;have X:S.drop (mkE S (mkE S a+Y.length)+1)=cD t n m++post:=gJ (u:=[45]) o;obtain ⟨v1,v2,Q,J,Z⟩:=ue X l1 l4 (p _) G;obtain ⟨M,u2⟩:=Cm (r:=mt n++post) s F;rw [<-v2] at M u2;rw [s] at Q J Z;rw [M,ab (by omega),J,U post L,ae rfl,u2,v1,Q,Z,E];obtain ⟨rfl,rfl⟩:=I rfl;have:a+(cD k j Y).length+1+(cD t n m).length=a+(cD k j Y++45::cD t n m).length:=by simp only [aR,aE];omega
   rw [this];exact ⟨_,w0,rfl⟩
  ·obtain ⟨_,N,T⟩:=f.day.resolve_left i;rw [ab i] at h ⊢;have hdk:∀r,da isMk (d++r):=λr=>wb i T (λc=>JU);have h':S.drop a=cD k j Y++(45::(cD t n m++(45::(cD K y d++post)))):=by rw [h];simp
   obtain ⟨w0,C,w,H,o,E⟩:=D _ h' (eF y45) (eF v);rw [w];simp only [];rw [o,oe,ab (λz=>z.elim hq0 (by omega)),C,H];unfold rd2;have X:S.drop (mkE S (mkE S a+Y.length)+1)=cD t n m++(45::(cD K y d++post)):=gJ (u:=[45]) o;obtain ⟨v1,v2,Q,J,Z⟩:=ue X l1 l4 (p _) (eF v);obtain ⟨M,u2⟩:=Cm (r:=mt n++(45::(cD K y d++post))) s F;rw [<-v2] at M u2;rw [s] at Q J Z;rw [M,ab (by omega),J,oe,ab (by omega),u2,v1,Q];unfold rd3;have h3:S.drop (mkE S (mkE S (mkE S (mkE S a+Y.length)+1)+2)+1)=cD K y d++post:=gJ (u:=[45]) J;obtain ⟨x1,x2,x3,x4,x5⟩:=ue h3 l2 l5 (hdk _) G;obtain ⟨s1,s2⟩:=Cm (r:=mt y++post) N T;rw [<-x2] at s1 s2;rw [N] at x3 x4 x5;rw [s1,ab (by omega),s2,x1,x3,x5,Z,E];have:a+(cD k j Y).length+1+(cD t n m).length+1+(cD K y d).length=a+(cD k j Y++(45::cD t n m++45::cD K y d)).length:=by simp only [aR,aE];omega
   rw [this];exact ⟨_,w0,rfl⟩
theorem JD {g l:Bool} {dg:aa} {x q:Nat} {m d:aa} {k0 k1 k2:Nat} (b:OkD g l dg x q m d k0 k1 k2) {S:aa} {a:Nat} {post:aa} (h:S.drop a=qL g l dg (x:Int) (q:Int) m d k0 k1 k2++post)
  (f:da isYC post) (e:da isMk post) (i:da (λc=>c==45) post):
  ∃P,rD S a=.inr (g,l,dg,x,q,m,d,(k0,k1,k2),P,a+(qL g l dg (x:Int) (q:Int) m d k0 k1 k2).length):=by
 obtain ⟨P,_,j⟩:=Hz b.sh b.marks (S:=S) (a:=a) (post:=post) h f e i;rw [Yv (co m d) k0 k1 k2 (mw m d) b.m0 b.m1 b.m2 b.z1 b.z2] at j;exact ⟨P,j⟩
theorem Nh {g l:Bool} {dg:aa} {x q:Nat} {m d:aa} {k0 k1 k2:Nat} (a:OkD g l dg x q m d k0 k1 k2):(qL g l dg (x:Int) (q:Int) m d k0 k1 k2).length<=37:=by
 have hy:=ua a.yr;have f:=na (plA (co m d) k0 k1 k2).1 (plB (co m d) k0 k1 k2).1 (gH g l dg (x:Int) (q:Int));have i:=na (plA (co m d) k0 k1 k2).2.1 (plB (co m d) k0 k1 k2).2.1 m;have e:=na (plA (co m d) k0 k1 k2).2.2 (plB (co m d) k0 k1 k2).2.2 d;have b:m.length<=2:=by
  rcases a.mon with h | h
  ·rw [h];simp
  ·omega
 have c:d.length<=2:=by
  rcases a.day with h | h
  ·rw [h];simp
  ·omega
 unfold qL;simp only [aR];have a1:(if m=[] then [] else 45::cD (plA (co m d) k0 k1 k2).2.1 (plB (co m d) k0 k1 k2).2.1 m).length<=5:=by
  split
  ·simp
  ·simp only [aE];omega
 have a2:(if d=[] then [] else 45::cD (plA (co m d) k0 k1 k2).2.2 (plB (co m d) k0 k1 k2).2.2 d).length<=5:=by
  split
  ·simp
  ·simp only [aE];omega
 omega
theorem TJ {A B:Nat×Nat×Nat} (e:A.1<4) (f:A.2.1<4) (d:A.2.2<4) (g0:B.1<4) (c:B.2.1<4) (b:B.2.2<4):(spM A B).1<4/\(spM A B).2.1<4/\(spM A B).2.2<4:=by
 have a:∀x y:Nat,x<4->y<4->x ||| y<4:=λx y hx hy=>(or4 hx hy).2;exact ⟨a _ _ (a _ _ (a _ _ e g0) c) b,a _ _ (a _ _ f c) b,a _ _ d b⟩
structure RdOK (S:aa) (a:Nat) (dg m d:aa) (M:Nat×Nat×Nat) (e:Nat):Prop where
 dg17:dg.length<=17
 m2:m.length<=2
 d2:d.length<=2
 all:inM (co m d) M
 le:a<=e
 end_:e<=S.length
theorem HQ {S:aa} {a:Nat} (h:a<=S.length) {g l:Bool} {dg:aa} {x s:Nat} {m d:aa} {M P:Nat×Nat×Nat} {e:Nat} (b:rD S a=.inr (g,l,dg,x,s,m,d,M,P,e)):RdOK S a dg m d M e:=by
 have c:∀p,mkS (S.drop p)<4:=λp=>Ed _;have o:0<4:=by omega
 have b0:=kA h;have g0:a<=mkE S a:=AD _ _;have n:∀p,p<=mkE S p:=λp=>AD _ _;unfold rD at b;cases hy:pU (S.drop (mkE S a)) with
 | inl k=>rw [hy] at b;cases b
 | inr y=>
  obtain ⟨H,L,w,N,s',k⟩:=y;obtain ⟨_,bk,_,_,j⟩:=rh hy;have bk:mkE S a+k<=S.length:=by
   rw [bP] at bk;omega
  have b1:=kA bk;rw [hy] at b;simp only [] at b;by_cases hc:0<s'\/fq 45 (S.drop (mkE S (mkE S a+k)))=0
  ·rw [ae hc] at b;cases b;have:=TJ (A:=(mkS (S.drop a),0,0)) (B:=(mkS (S.drop (mkE S a+k)),0,0)) (c _) o o (c _) o o;refine ⟨j,by simp,by simp,⟨this.1,this.2.1,this.2.2,λ_=>by simp [spM],λ_=>by simp [spM]⟩,?_,b1⟩;have:=n (mkE S a+k);omega
  ·rw [ab hc] at b;have r:=rO (λz=>hc (.inr z));have Q:=kA r;unfold rd2 at b;by_cases u:twoN (S.drop (mkE S (mkE S (mkE S a+k)+1)))<2
   ·rw [ae u] at b;cases b
   ·rw [ab u] at b;have b2:=vu u;have F:=kA b2;have i:(List.take 2 (S.drop (mkE S (mkE S (mkE S a+k)+1)))).length=2:=by rw [dq,bP];omega
    have I:=n (mkE S a+k);have G:=n (mkE S (mkE S a+k)+1);have K:=n (mkE S (mkE S (mkE S a+k)+1)+2);by_cases f:fq 45 (S.drop (mkE S (mkE S (mkE S (mkE S a+k)+1)+2)))=0
    ·rw [ae f] at b;cases b;have:=TJ (A:=(mkS (S.drop a),mkS (S.drop (mkE S (mkE S a+k)+1)),0)) (B:=(mkS (S.drop (mkE S a+k)),mkS (S.drop (mkE S (mkE S (mkE S a+k)+1)+2)),0)) (c _) (c _) o (c _) (c _) o;refine ⟨j,by omega,by simp,⟨this.1,this.2.1,this.2.2,λz=>?_,λ_=>by simp [spM]⟩,by omega,F⟩;rw [HM (o9 i)] at z;omega
    ·rw [ab f] at b;have v:=rO f;have C:=kA v;unfold rd3 at b;by_cases t:twoN (S.drop (mkE S (mkE S (mkE S (mkE S (mkE S a+k)+1)+2)+1)))<2
     ·rw [ae t] at b;cases b
     ·rw [ab t] at b;have D:=vu t;have E:=kA D;have q:(List.take 2 (S.drop (mkE S (mkE S (mkE S (mkE S (mkE S a+k)+1)+2)+1)))).length=2:=by rw [dq,bP];omega
      cases b;have O:=n (mkE S (mkE S (mkE S (mkE S a+k)+1)+2)+1);have J:=n (mkE S (mkE S (mkE S (mkE S (mkE S a+k)+1)+2)+1)+2);have:=TJ (A:=(mkS (S.drop a),mkS (S.drop (mkE S (mkE S a+k)+1)),mkS (S.drop (mkE S (mkE S (mkE S (mkE S a+k)+1)+2)+1)))) (B:=(mkS (S.drop (mkE S a+k)),mkS (S.drop (mkE S (mkE S (mkE S a+k)+1)+2)),mkS (S.drop (mkE S (mkE S (mkE S (mkE S (mkE S a+k)+1)+2)+1)+2)))) (c _) (c _) (c _) (c _) (c _) (c _);refine ⟨j,by omega,by omega,⟨this.1,this.2.1,this.2.2,λz=>?_,λz=>?_⟩,by omega,E⟩
      ·rw [Iu (o9 i) (o9 q)] at z;omega
      ·rw [Iu (o9 i) (o9 q)] at z;omega
theorem Ln {g l:Bool} {dg:aa} {x q:Int} {m d:aa} {k0 k1 k2:Int} (b:allM k0 k1 k2 (co m d)=0):chkD g l dg x q m d k0 k1 k2=0\/chkD g l dg x q m d k0 k1 k2=6\/chkD g l dg x q m d k0 k1 k2=7\/chkD g l dg x q m d k0 k1 k2=8:=by
 unfold chkD;rw [b];generalize yrD g l dg x q m=b1;generalize (!(m==[])&&(!(decide (0<sea m))&&!(eT m 12)))=b2;generalize (!(d==[])&&((m==[])||(decide (0<sea m)||!(eT d 31))))=a;cases b1<;>cases b2<;>cases a<;>simp
theorem vd {p:UInt8->Bool}:da p []:=λc hc=>by cases hc
def monT (j:Nat):aa:=if j=0 then [] else if j<=12 then two j else if j<=33 then two (j+8) else ([[48,88],[49,88],[88,50],[88,88],[88,48],[88,57]]:List (aa)).getD (j - 34) []
def XX (m:aa):Nat:=if m=[48,50] then 28 else if m=[48,52]\/m=[48,54]\/m=[48,57]\/m=[49,49]\/m=[88,57] then 30 else 31
def dayT (j:Nat) (m:aa):aa:=if j=0 then [] else if j<=31 then two (min j (XX m)) else if m=[48,50]/\j=35 then [50,88] else ([[48,88],[49,88],[50,88],[51,88],[88,48],[88,49],[88,88],[88,56]]:List (aa)).getD (j - 32) []
theorem r40 {p:Nat->Bool} (h:(List.range 40).all p=true) {a:Nat} (b:a<40):p a=true:=(cv.1 h) a (la.2 b)
noncomputable def Rw (m:Nat) (a0:Int) (a1:Bool) (a2 d e a b c f:Int) (j:Nat):Bool:=f9 (m+300) a0 a1 a2 d e (j:Int) a b c f==some (monT j)
theorem M4 (m:Nat) (a0:Int) (a1:Bool) (a2 d e a b c f:Int):((List.range 40).all λj=>Rw m a0 a1 a2 d e a b c f j)=true:=by kernel_rfl
theorem Uh (a:Nat) (h:a<256):IntKind.wrap .i64 (Int.tmod (a:Int) 40)=((a%40:Nat):Int):=by
 have:Int.tmod (a:Int) 40=((a%40:Nat):Int):=rfl;rw [this,wrap_i64 _ (by omega) (by omega)]
theorem Ru (j:Nat) (h:j<40):IntKind.wrap .i64 (Int.tmod (j:Int) 40)=((j:Nat):Int):=by
 rw [Uh j (by omega)];have:j%40=j:=by omega
 rw [this]
theorem JQ (m:Nat) (a0:Int) (a1:Bool) (a2 f j:Int) (b:Nat) (c d e i:Int) (h:b<256):f9 (m+300) a0 a1 a2 f j (b:Int) c d e i=some (monT (b%40)):=by
 have g:b%40<40:=by omega
 have a:=r40 (M4 m a0 a1 a2 f j c d e i) g;unfold Rw at a;have a:=bu.1 a;unfold f9 at a ⊢;rw [Ru _ g] at a;rw [Uh _ h];exact a
theorem RS {j:Nat} (h:j<40):monT j=[]\/0<sea (monT j)\/(sea (monT j)=0/\eT (monT j) 12=true):=by
 have:((List.range 40).all λj=>decide (monT j=[])||(decide (0<sea (monT j))||(decide (sea (monT j)=0)&&eT (monT j) 12)))=true:=by decide +kernel
 have:=r40 this h;simpa using this
theorem Nb {j:Nat} (h:j<40) (hs:sea (monT j)=0) (a:monT j≠[]):monT j∈((List.range 12).map λi=>two (i+1))++[[48,88],[49,88],[88,50],[88,88],[88,48],[88,57]]:=by
 have:((List.range 40).all λj=>!decide (sea (monT j)=0)||(decide (monT j=[])||decide (monT j∈((List.range 12).map λi=>two (i+1))++[[48,88],[49,88],[88,50],[88,88],[88,48],[88,57]])))=true:=by decide +kernel
 have:=r40 this h;rw [am hs,ar a] at this;simpa using this
noncomputable def RA (m:Nat) (a0:Int) (a1:Bool) (a2 d e f b c g:Int) (a:aa) (j:Nat):Bool:=iJ (m+300) a0 a1 a2 d e f (j:Int) b c g a==some (dayT j a)
theorem L0 (m:Nat) (a0:Int) (a1:Bool) (a2 c e f a b g:Int):((((List.range 12).map λi=>two (i+1))++[[48,88],[49,88],[88,50],[88,88],[88,48],[88,57]]).all λd=>(List.range 40).all λj=>RA m a0 a1 a2 c e f a b g d j)=true:=by kernel_rfl
theorem QD (m:Nat) (a0:Int) (a1:Bool) (a2 f l k:Int) (b:Nat) (d e j:Int) (c:aa) (n:c∈((List.range 12).map λi=>two (i+1))++[[48,88],[49,88],[88,50],[88,88],[88,48],[88,57]]) (h:b<256):iJ (m+300) a0 a1 a2 f l k (b:Int) d e j c=some (dayT (b%40) c):=by
 have g:b%40<40:=by omega
 have a:=r40 ((cv.1 (L0 m a0 a1 a2 f l k d e j)) c n) g;unfold RA at a;have a:=bu.1 a;unfold iJ at a ⊢;rw [Ru _ g] at a;rw [Uh _ h];exact a
theorem SY {j:Nat} (h:j<40) {a:aa} (b:a∈((List.range 12).map λi=>two (i+1))++[[48,88],[49,88],[88,50],[88,88],[88,48],[88,57]]):dayT j a=[]\/eT (dayT j a) 31=true:=by
 have:((((List.range 12).map λi=>two (i+1))++[[48,88],[49,88],[88,50],[88,88],[88,48],[88,57]]).all λa=>(List.range 40).all λj=>decide (dayT j a=[])||eT (dayT j a) 31)=true:=by decide +kernel
 have:=r40 ((cv.1 this) a b) h;simpa using this
def mksT (k a b c:Nat):Nat×Nat×Nat:=(a%4,if 1<k then b%4 else 0,if 2<k then c%4 else 0)
theorem Bq (k a b c:Nat):allM ((mksT k a b c).1:Int) ((mksT k a b c).2.1:Int) ((mksT k a b c).2.2:Int) k=0:=by
 apply ye;refine ⟨by simp only [mksT];omega,?_,?_,?_,?_⟩
 ·simp only [mksT];split<;>omega
 ·simp only [mksT];split<;>omega
 ·intro h;simp only [mksT];rw [ab (by omega)]
 ·intro h;simp only [mksT];rw [ab (by omega)]
theorem Ql {g l:Bool} {d:aa} {x s:Int} (h:okY g l d x s) (c:d.length<=5) (i:x<=11):sB g d x=false:=by
 unfold sB;cases b:hasX d with
 | true=>rfl
 | false=>
  obtain ⟨k,q,rfl,rfl,j⟩:=sW h b;have a:=rE d 0 0 j.dig (by decide);rw [cP] at a;have m:dval 0 d<10 ^ 5:=oL a (kI (by omega) c);have f:10 ^ k<=10 ^ 11:=kI (by omega) (by omega);have e:val d k≠E16:=by
   unfold val E16;have:dval 0 d*10 ^ k<=99999*10 ^ 11:=wN (by omega) f;omega
  rw [bR,ar e];simp
theorem Iy {g l:Bool} {dg:aa} {x q:Int} {m d:aa} {k0 k1 k2:Int} (h:okY g l dg x q) (e:sB g dg x=false) (b:0<q->m=[]) (i:m=[]\/0<sea m\/(sea m=0/\eT m 12=true)) (f:d=[]\/(m≠[]/\sea m=0/\eT d 31=true)) (p:allM k0 k1 k2 (co m d)=0):chkD g l dg x q m d k0 k1 k2=0:=by
 have hy:yrD g l dg x q m=true:=by
  unfold yrD yrB;rw [ae h,e];by_cases a:0<q
  ·rw [b a];simp
  ·simp [a]
 unfold chkD;rw [hy,p];have n:(!(m==[])&&(!(decide (0<sea m))&&!(eT m 12)))=false:=by
  rcases i with h | h | ⟨_,h⟩
  ·rw [h];rfl
  ·rw [am h];simp
  ·rw [h];simp
 have k:(!(d==[])&&((m==[])||(decide (0<sea m)||!(eT d 31))))=false:=by
  rcases f with h | ⟨c,j,o⟩
  ·rw [h];rfl
  ·rw [aK.2 c,j,o];simp
 rw [n,k];rfl
def minL (a:Nat):Nat:=if a=2 then 28 else if a=4\/a=6\/a=9\/a=11 then 30 else 31
def fitD (a d:aa):Bool:=(List.range' 1 12).any λi=>agr a i&&(List.range' 1 (minL i)).any (agr d)
theorem RO:((((List.range 12).map λi=>two (i+1))++[[48,88],[49,88],[88,50],[88,88],[88,48],[88,57]]).all λa=>(List.range 40).all λj=>(dayT j a==[])||fitD a (dayT j a))=true:=by decide +kernel
theorem QS {j:Nat} (h:j<40) {a:aa} (b:a∈((List.range 12).map λi=>two (i+1))++[[48,88],[49,88],[88,50],[88,88],[88,48],[88,57]]):dayT j a=[]\/fitD a (dayT j a)=true:=by
 have:=r40 ((cv.1 RO) a b) h;simp only [g9,bu] at this;exact this
theorem UV (m a0 a2 G K C w i j n:Nat) (g:Bool) (J:a2<65536) (Y:G<256) (W:K<256) (R:C<256) (T:w<256) (h7:i<256) (h8:j<256) (h9:n<256):
  ∃k l dg x q f d k0 k1 k2,gO (m+300) (a0:Int) g (a2:Int) (G:Int) (K:Int) (C:Int) (w:Int) (i:Int) (j:Int) (n:Int)=some (k,l,dg,((x:Nat):Int),((q:Nat):Int),f,d,((k0:Nat):Int),((k1:Nat):Int),((k2:Nat):Int))/\chkD k l dg (x:Int) (q:Int) f d (k0:Int) (k1:Int) (k2:Int)=0/\OkD k l dg x q f d k0 k1 k2/\(d=[]\/fitD f d=true):=by
 obtain ⟨k,l,dg,x,q,e,A,L,F⟩:=VE m a0 a2 G K g J Y W;have I:=Ql A L F;obtain ⟨s1,s2,s3,s4,s5,s6⟩:=iY A
 suffices H:∃f d,gO (m+300) (a0:Int) g (a2:Int) (G:Int) (K:Int) (C:Int) (w:Int) (i:Int) (j:Int) (n:Int)=some (k,l,dg,x,q,f,d,((mksT (co f d) i j n).1:Int),((mksT (co f d) i j n).2.1:Int),((mksT (co f d) i j n).2.2:Int))/\chkD k l dg x q f d ((mksT (co f d) i j n).1:Int) ((mksT (co f d) i j n).2.1:Int) ((mksT (co f d) i j n).2.2:Int)=0/\(d=[]\/fitD f d=true) by
  obtain ⟨f,d,h1,J,S⟩:=H;obtain ⟨Z,X,a,b,c,V,U,Q,P,O,M⟩:=C4 (by omega) (by omega) (by omega) J;subst V U;refine ⟨k,l,dg,Z,X,f,d,a,b,c,?_,?_,M,S⟩
  ·rw [h1,Q,P,O]
  ·rw [<-Q,<-P,<-O];exact J
 have t7:Int.tmod (i:Int) 4=((i%4:Nat):Int):=rfl;have t8:Int.tmod (j:Int) 4=((j%4:Nat):Int):=rfl;have t9:Int.tmod (n:Int) 4=((n%4:Nat):Int):=rfl;have p:∀(f d:aa) (o:Option (Bool×Bool×aa×Int×Int×aa×aa×Int×Int×Int)),
   (ob (aq (m+300) k l dg x q f d 0 0 0) λr=>(cond (decide ((0:Int)<r)) (ob (aq (m+300) k l dg x q f d (Int.tmod (i:Int) 4) 0 0) λr=>(cond (decide ((1:Int)<r)) (ob (aq (m+300) k l dg x q f d (Int.tmod (i:Int) 4) (Int.tmod (j:Int) 4) 0) λr=>(cond (decide ((2:Int)<r)) (ob (aq (m+300) k l dg x q f d (Int.tmod (i:Int) 4) (Int.tmod (j:Int) 4) (Int.tmod (n:Int) 4)) λr=>(cond (decide ((3:Int)<r)) none (some (k,l,dg,x,q,f,d,(Int.tmod (i:Int) 4),(Int.tmod (j:Int) 4),(Int.tmod (n:Int) 4))))) (some (k,l,dg,x,q,f,d,(Int.tmod (i:Int) 4),(Int.tmod (j:Int) 4),0)))) (some (k,l,dg,x,q,f,d,(Int.tmod (i:Int) 4),0,0)))) (some (k,l,dg,x,q,f,d,0,0,0))))=some (k,l,dg,x,q,f,d,((mksT (co f d) i j n).1:Int),((mksT (co f d) i j n).2.1:Int),((mksT (co f d) i j n).2.2:Int)):=by
  intro f d _;have hc:=mw f d;have:co f d=1\/co f d=2\/co f d=3:=by omega
  rw [gF,gF,gF,gF];rcases this with h | h | h<;>rw [h]<;>rfl
 unfold gO;rw [e];simp only [ob,d4];rw [ja];by_cases N:q=0
 ·rw [ae N];rw [JQ m _ _ _ _ _ C _ _ _ _ R];have D:C%40<40:=by omega
  have y:=RS D;have E:=Nb D;generalize monT (C%40)=f at y E ⊢;show ∃u d,cond (!(f==[])) _ _=_/\_;by_cases s:f=[]
  ·subst s;refine ⟨[],[],p [] [] none,?_,.inl rfl⟩;exact Iy A I (λ_=>rfl) (.inl rfl) (.inl rfl) (Bq _ _ _ _)
  ·rw [aK.2 s];show ∃u d,ob (aN (m+300) k l dg x q f [] 0 0 0) _=_/\_;rw [nE (m+300) (by omega)];show ∃u d,cond (sea f==0) _ _=_/\_;rw [ja];by_cases hs:sea f=0
   ·rw [ae hs];have v:=E hs s;rw [QD m _ _ _ _ _ _ w _ _ _ f v T];have B:=SY (show w%40<40 by omega) v;have t:=QS (show w%40<40 by omega) v;generalize dayT (w%40) f=d at B t ⊢;refine ⟨f,d,p f d none,?_,t⟩;refine Iy A I (λz=>by omega) y ?_ (Bq _ _ _ _);rcases B with B | B
    ·exact .inl B
    ·exact .inr ⟨s,hs,B⟩
   ·rw [ab hs];refine ⟨f,[],p f [] none,?_,.inl rfl⟩;exact Iy A I (λz=>by omega) y (.inl rfl) (Bq _ _ _ _)
 ·rw [ab N];refine ⟨[],[],p [] [] none,?_,.inl rfl⟩;exact Iy A I (λ_=>rfl) (.inl rfl) (.inl rfl) (Bq _ _ _ _)
theorem Oj (n:Nat) (g l:Bool) (dg:aa) (x q:Int) (m d:aa) (k0 k1 k2:Int) (a:m.length<=18):bp n g l dg x q m d k0 k1 k2=some (if d=[] then (if 0<sea m then 0 else if m=[] then 1 else 2) else 3):=by
 unfold bp;rw [pF n g l dg x q m d k0 k1 k2 a];by_cases b:d=[]
 ·rw [ae b,b];show cond (decide (0<sea m)) _ _=_;rw [bG];by_cases hs:0<sea m
  ·rw [ae hs,ae hs]
  ·rw [ab hs,ab hs];by_cases a:m=[]
   ·rw [ae a,a];rfl
   ·rw [ab a,aK.2 a];rfl
 ·rw [ab b,aK.2 b];rfl
theorem Ia (n:Nat) (g l:Bool) (dg:aa) (x q:Int) (m d:aa) (k0 k1 k2:Int) (f:m.length<=18) (e:dg.length<=100) (i:0<=k0) (j:0<=k1) (h:0<=k2):
  dh (n+300) g l dg x q m d k0 k1 k2=some (if chkD g l dg x q m d k0 k1 k2=0 then (qL g l dg x q m d k0.toNat k1.toNat k2.toNat,0) else ([],chkD g l dg x q m d k0 k1 k2)):=by
 by_cases hc:chkD g l dg x q m d k0 k1 k2=0
 ·obtain ⟨p,s,a,b,c,v,u,t,r,o,k⟩:=C4 i j h hc;subst v u t r o;exact Uc n g l dg p s m d a b c f e
 ·rw [ab hc];unfold dh;rw [AZ (n+300) (by omega) g l dg _ _ m d _ _ _ f e i j h];show cond (chkD g l dg x q m d k0 k1 k2 != 0) _ _=_;rw [wc,ab hc]
theorem NZ (n:Nat) {g l:Bool} {dg:aa} {x q:Int} {m d:aa} {k0 k1 k2:Int} (o:0<=k0) (r:0<=k1) (h:0<=k2) (hc:chkD g l dg x q m d k0 k1 k2=0):
  dH (n+300) g l dg x q m d k0 k1 k2=some (qL g l dg x q m d k0.toNat k1.toNat k2.toNat):=by
 obtain ⟨s,t,a,b,c,p,k,j,i,f,e⟩:=C4 o r h hc;subst p k j i f;exact IV n e
theorem vW (a b:aa):hasX (a++b)=(hasX a||hasX b):=by unfold hasX;rw [sX]
theorem D6 (n:Nat) (g l:Bool) (dg:aa) (x q:Int) (m d:aa) (k0 k1 k2:Int) (b:m.length<=1000) (a:dg.length<=1000) (h:d.length<=1000):
  dV n g l dg x q m d k0 k1 k2=some (hasX dg||(hasX m||hasX d)):=by
 unfold dV;rw [cJ (by omega)];simp only [ob];rw [cJ (by simp only [aR];omega)];simp only [ob];rw [DY,vW,vW,Bool.or_assoc]
def Ce (d:aa) (k q:Nat):Nat×Nat:=if 0<q then (val d k / 10 ^ (d.length+k - q)*10 ^ (d.length+k - q),min (val d k / 10 ^ (d.length+k - q)*10 ^ (d.length+k - q)+10 ^ (d.length+k - q) - 1) E16) else (val d k,val d k)
def sgn (g:Bool) (p:Nat×Nat):Int×Int:=if g then (-(p.2:Int),-(p.1:Int)) else ((p.1:Int),(p.2:Int))
theorem C3 (n:Nat) (g l:Bool) (d:aa) (k q:Nat) (E:200<n) (o:d.length<=100) (c:Num d k q):
  aP n g l d (k:Int) (q:Int)=some (sgn g (Ce d k q)):=by
 have B:=c.wide;have hs:=c.small;have D:=c.sig;unfold aP;rw [pu n g l d k q (by omega) (by omega),tX c.dig,jw n d k c.dig o (by omega) (by omega),ae hs];have r:dval 0 d*10 ^ k=val d k:=rfl;rw [r] at hs ⊢;unfold E16 at hs;have h:((if false=true then (1:Int) else 0)==1)=false:=rfl;simp only [ob,h,af];by_cases m:0<q
 ·have f:decide ((q:Int)>0)=true:=am (by omega);have w0:IntKind.wrap .i64 (IntKind.wrap .i64 (((d.length:Nat):Int)+(k:Int)) - (q:Int))=((d.length+k - q:Nat):Int):=by
   rw [wrap_i64 (((d.length:Nat):Int)+(k:Int)) (by omega) (by omega),wrap_i64 _ (by omega) (by omega)];omega
  have y:10 ^ (d.length+k - q)<=10 ^ 16:=kI (by decide) (by omega);have z:(10:Nat) ^ 16=10000000000000000:=by decide
  have one:dval 0 [49]=1:=by decide
  have a:dval 0 [49]*10 ^ (d.length+k - q)<=E16:=by rw [one];unfold E16;omega
  rw [f,w0,jw n [49] (d.length+k - q) (by decide) (by decide) (by omega) (by simp;omega),ae a,one,yf];simp only [ah];have C:1<=10 ^ (d.length+k - q):=Bh _ _ (by decide);unfold sgn Ce;rw [ae m];clear a;generalize 10 ^ (d.length+k - q)=u at *;generalize val d k=v at *;have d2:(((u:Nat):Int)==0)=false:=aK.2 (by omega);have b:Int.tdiv ((v:Nat):Int) ((u:Nat):Int)=((v / u:Nat):Int):=rfl;have p:v / u*u<=v:=Gu v u;have i:v / u<=v:=FI v u;have x:IntKind.wrap .i64 ((v / u:Nat):Int)=((v / u:Nat):Int):=by
   generalize v / u=t at *;exact wrap_i64 _ (by omega) (by omega)
  have s:IntKind.wrap .i64 (((v / u:Nat):Int)*((u:Nat):Int))=((v / u*u:Nat):Int):=by
   rw [<-Ic];exact wrap_i64 _ (by omega) (by omega)
  rw [d2,af,b,x,s];generalize v / u*u=lo at *;have A:IntKind.wrap .i64 (IntKind.wrap .i64 (((lo:Nat):Int)+((u:Nat):Int)) - 1)=((lo+u - 1:Nat):Int):=by
   rw [wrap_i64 (((lo:Nat):Int)+((u:Nat):Int)) (by omega) (by omega),wrap_i64 _ (by omega) (by omega)];omega
  rw [A];have e:(cond (decide ((10000000000000000:Int)<((lo+u - 1:Nat):Int))) (10000000000000000:Int) ((lo+u - 1:Nat):Int))=((min (lo+u - 1) E16:Nat):Int):=by
   unfold E16;by_cases j:(10000000000000000:Int)<((lo+u - 1:Nat):Int)
   ·rw [am j,ah];omega
   ·rw [ar j,af];omega
  rw [e];have w:min (lo+u - 1) E16<=10000000000000000:=Nat.min_le_right _ _;generalize min (lo+u - 1) E16=hi at *;cases g with
  | true=>
   simp only [ah,aO];rw [wrap_i64 _ (by omega) (by omega),wrap_i64 _ (by omega) (by omega),zW,zW]
  | false=>simp
 ·have f:decide ((q:Int)>0)=false:=ar (by omega);rw [f,af];unfold sgn Ce;rw [ab m];cases g with
  | true=>
   simp only [ah,aO];rw [wrap_i64 _ (by omega) (by omega),zW]
  | false=>simp
def eM (z:UInt8) (d:aa):aa:=d.map λc=>if c=88 then z else c
theorem js (z:UInt8) (d:aa):(eM z d).length=d.length:=by simp [eM]
theorem rH {z:UInt8} (e:bf z=true) {d:aa} (h:∀c∈d,bf c=true\/c=88):∀c∈eM z d,bf c=true:=by
 intro c hc;obtain ⟨b,a,rfl⟩:=ej.1 hc;by_cases hx:b=88
 ·rw [ae hx];exact e
 ·rw [ab hx];exact (h b a).resolve_right hx
theorem yN {z:UInt8} {d:aa} {i:Nat} {c:UInt8} (h:d[i]?=some c):(eM z d)[i]?=some (if c=88 then z else c):=by
 simp [eM,h]
def uA (d:aa):Nat:=10 ^ (d.reverse.takeWhile (λc=>c != 88)).length
def kV (g:Bool) (d:aa):Nat×Nat:=(if g=true/\dval 0 (eM 48 d)=0 then uA d else dval 0 (eM 48 d),dval 0 (eM 57 d))
theorem RX (m:Nat):aP (m+300) true false [48,48,48,88] 0 0=some (sgn true (kV true [48,48,48,88])):=by kernel_rfl
theorem RZ (m:Nat):aP (m+300) true false [48,48,88,48] 0 0=some (sgn true (kV true [48,48,88,48])):=by kernel_rfl
theorem Ta (m:Nat):aP (m+300) true false [48,48,88,88] 0 0=some (sgn true (kV true [48,48,88,88])):=by kernel_rfl
theorem UE (m:Nat):aP (m+300) true false [48,88,48,48] 0 0=some (sgn true (kV true [48,88,48,48])):=by kernel_rfl
theorem Uj (m:Nat):aP (m+300) true false [48,88,48,88] 0 0=some (sgn true (kV true [48,88,48,88])):=by kernel_rfl
theorem UA (m:Nat):aP (m+300) true false [48,88,88,48] 0 0=some (sgn true (kV true [48,88,88,48])):=by kernel_rfl
theorem Td (m:Nat):aP (m+300) true false [48,88,88,88] 0 0=some (sgn true (kV true [48,88,88,88])):=by kernel_rfl
theorem SI (m:Nat):aP (m+300) true false [88,48,48,48] 0 0=some (sgn true (kV true [88,48,48,48])):=by kernel_rfl
theorem UM (m:Nat):aP (m+300) true false [88,48,48,88] 0 0=some (sgn true (kV true [88,48,48,88])):=by kernel_rfl
theorem UH (m:Nat):aP (m+300) true false [88,48,88,48] 0 0=some (sgn true (kV true [88,48,88,48])):=by kernel_rfl
theorem Qq (m:Nat):aP (m+300) true false [88,48,88,88] 0 0=some (sgn true (kV true [88,48,88,88])):=by kernel_rfl
theorem OU (m:Nat):aP (m+300) true false [88,88,48,48] 0 0=some (sgn true (kV true [88,88,48,48])):=by kernel_rfl
theorem PK (m:Nat):aP (m+300) true false [88,88,48,88] 0 0=some (sgn true (kV true [88,88,48,88])):=by kernel_rfl
theorem QU (m:Nat):aP (m+300) true false [88,88,88,48] 0 0=some (sgn true (kV true [88,88,88,48])):=by kernel_rfl
theorem Pv (m:Nat):aP (m+300) true false [88,88,88,88] 0 0=some (sgn true (kV true [88,88,88,88])):=by kernel_rfl
theorem Es {d:aa} (i:d.length=4) (h:∀c∈d,bf c=true\/c=88) (l:dval 0 (eM 48 d)=0):∀c∈d,c=48\/c=88:=by
 match d,i with
 | [a,b,c,e],_=>
  have f:=rH (z:=48) (by decide) h;have j:dval 0 (eM 48 [a,b,c,e])=((((0*10+((if a=88 then (48:UInt8) else a).toNat - 48))*10+((if b=88 then (48:UInt8) else b).toNat - 48))*10+((if c=88 then (48:UInt8) else c).toNat - 48))*10+((if e=88 then (48:UInt8) else e).toNat - 48)):=by
   simp only [eM,fV,List.map_nil,pp,pN,vS]
  rw [j] at l;have key:∀x:UInt8,bf (if x=88 then (48:UInt8) else x)=true->(if x=88 then (48:UInt8) else x).toNat - 48=0->x=48\/x=88:=by
   intro x hx k;by_cases g:x=88
   ·exact .inr g
   ·rw [ab g] at hx k;have:=(bX x).1 hx;exact .inl (gG.1 (by show x.toNat=48;omega))
  simp only [eM,fV,List.map_nil,cf,mG,nG,Br,forall_eq] at f ⊢;exact ⟨key a f.1 (by omega),key b f.2.1 (by omega),key c f.2.2.1 (by omega),key e f.2.2.2 (by omega)⟩
theorem zl {d:aa} (o:d.length=4) (h:∀c∈d,c=48\/c=88) (p:hasX d=true) (P:aa->Prop) (y:P [48,48,48,88]) (z:P [48,48,88,48]) (w:P [48,48,88,88]) (t:P [48,88,48,48]) (r:P [48,88,48,88]) (l:P [48,88,88,48]) (m:P [48,88,88,88]) (x:P [88,48,48,48]) (v:P [88,48,48,88]) (s:P [88,48,88,48]) (k:P [88,48,88,88]) (j:P [88,88,48,48]) (g:P [88,88,48,88]) (i:P [88,88,88,48]) (f:P [88,88,88,88]):P d:=by
 match d,o with
 | [a,b,c,e],_=>
  simp only [cf,mG,nG,Br,forall_eq] at h;obtain ⟨u,q,hc,n⟩:=h;rcases u with rfl | rfl<;>rcases q with rfl | rfl<;>rcases hc with rfl | rfl<;>rcases n with rfl | rfl
  ·exact absurd p (by decide)
  ·exact y
  ·exact z
  ·exact w
  ·exact t
  ·exact r
  ·exact l
  ·exact m
  ·exact x
  ·exact v
  ·exact s
  ·exact k
  ·exact j
  ·exact g
  ·exact i
  ·exact f
theorem FM (n:Nat) (g l:Bool) (d:aa) (x s:Int) (o:d.length=4) (p:4<n):au (gh n) n ([],[],0,g,l,d,x,s)=some (eM 48 d,eM 57 d,g,l,d,x,s):=by
 refine fP (step:=gh n) (λq=>∃i:Nat,i<=4/\q=((eM 48 d).take i,(eM 57 d).take i,(i:Int),g,l,d,x,s)) (λq=>4 - q.2.2.1.toNat) (λ_=>(eM 48 d,eM 57 d,g,l,d,x,s)) ?_ n _ ⟨0,by omega,by simp⟩ (by simp;omega);rintro q ⟨i,hi,rfl⟩;rcases aH i 4 with k | m
 ·obtain ⟨c,hc⟩:∃c,d[i]?=some c:=⟨d[i],bh (by omega)⟩;have b:=UG (yN (z:=48) hc);have f:=UG (yN (z:=57) hc);have h:decide ((i:Int)<4)=true:=am (by omega);have j:IntKind.wrap .i64 ((i:Int)+1)=((i+1:Nat):Int):=by rw [wrap_i64 _ (by omega) (by omega)];omega
  refine .inl ⟨((eM 48 d).take (i+1),(eM 57 d).take (i+1),((i+1:Nat):Int),g,l,d,x,s),?_,⟨i+1,by omega,rfl⟩,by simp only [bR];omega,rfl⟩;simp only [gh,h,ah,j,cM (show i+1<=d.length by omega),cM (show i<=i+1 by omega),ob,cut1 hc];have a:∀z:UInt8,((eM z d).take i).length<=4:=λz=>by rw [dq];omega
  rw [b,f];by_cases hx:c=88
  ·have e:(([c]:aa)==[88])=true:=by rw [hx];rfl
   rw [e,ah,ae hx,ae hx,cJ (by have:=a 48;simp;omega),cJ (by have:=a 57;simp;omega)]
  ·have e:(([c]:aa)==[88])=false:=by
    rw [aK];intro e;exact hx (by simpa using e)
   rw [e,af,ab hx,ab hx,cJ (by have:=a 48;simp;omega),cJ (by have:=a 57;simp;omega)]
 ·have:i=4:=by omega
  subst this;refine .inr ?_;rw [jf (by rw [js];omega),jf (by rw [js];omega)];rfl
theorem JG {d:aa} (h:d=[48,48,48,48]):dval 0 d=0:=by rw [h];decide
theorem BB (m:Nat) (g:Bool) (d:aa) (h:okY g false d 0 0) (l:hasX d=true):aP (m+300) g false d 0 0=some (sgn g (kV g d)):=by
 obtain ⟨_,_,_,j,k⟩:=qO h l;by_cases i:g=true/\dval 0 (eM 48 d)=0
 ·obtain ⟨rfl,i⟩:=i;exact zl j (Es j k i) l (λd=>aP (m+300) true false d 0 0=some (sgn true (kV true d))) (RX m) (RZ m) (Ta m) (UE m) (Uj m) (UA m) (Td m) (SI m) (UM m) (UH m) (Qq m) (OU m) (PK m) (QU m) (Pv m)
 ·have hs:kV g d=(dval 0 (eM 48 d),dval 0 (eM 57 d)):=by unfold kV;rw [ab i]
  have c:=rH (z:=48) (by decide) k;have f:=rH (z:=57) (by decide) k;have q:=rE (eM 48 d) 0 0 c (by simp);have o:=rE (eM 57 d) 0 0 f (by simp);rw [js,j] at q o;have r:(10:Nat) ^ (4+0)=10000:=by decide
  have m1:ak (m+300) (eM 48 d) 0=some (((dval 0 (eM 48 d):Nat):Int),1):=by
   have:=jw (m+300) (eM 48 d) 0 c (by rw [js];omega) (by omega) (by rw [js];omega);rw [ae (by unfold E16;simp only [BX,qQ];omega)] at this;simpa using this
  have m2:ak (m+300) (eM 57 d) 0=some (((dval 0 (eM 57 d):Nat):Int),1):=by
   have:=jw (m+300) (eM 57 d) 0 f (by rw [js];omega) (by omega) (by rw [js];omega);rw [ae (by unfold E16;simp only [BX,qQ];omega)] at this;simpa using this
  have p:((if true=true then (1:Int) else 0)==1)=true:=rfl;have n:decide ((0:Int)>0)=false:=rfl;unfold aP;rw [pu _ g false d 0 0 (by omega) (by omega),l,FM _ g false d 0 0 j (by omega),hs];simp only [ob,aO,uG,ah];cases g with
  | true=>
   have e:(eM 48 d==([48,48,48,48]:aa))=false:=by
    rw [aK];intro e;exact i ⟨rfl,JG e⟩
   simp only [ah,e,af,m1,m2,n,sgn,aO];generalize dval 0 (eM 48 d)=a at *;generalize dval 0 (eM 57 d)=b at *;rw [wrap_i64 _ (by omega) (by omega),wrap_i64 _ (by omega) (by omega),zW,zW]
  | false=>simp only [af,m1,m2,n,sgn,bw,aC]
def nP (g:Bool) (d:aa) (x s:Int):Nat×Nat:=if hasX d then kV g d else Ce d x.toNat s.toNat
theorem Qs (m:Nat) (g l:Bool) (d:aa) (x s:Int) (c:d.length<=100) (h:okY g l d x s):aP (m+300) g l d x s=some (sgn g (nP g d x s)):=by
 unfold nP;cases a:hasX d with
 | true=>
  obtain ⟨rfl,rfl,rfl,f,b⟩:=qO h a;exact BB m g d h a
 | false=>
  obtain ⟨k,q,rfl,rfl,e⟩:=sW h a;exact C3 _ g l d k q (by omega) c e
theorem R7 {d:aa} {k q:Nat} (h:Num d k q):(Ce d k q).1<=val d k/\val d k<=(Ce d k q).2/\(Ce d k q).2<=E16:=by
 have hs:=h.small;have b:dval 0 d*10 ^ k=val d k:=rfl;rw [b] at hs;unfold Ce;split
 ·have a:1<=10 ^ (d.length+k - q):=Bh _ _ (by decide);generalize 10 ^ (d.length+k - q)=u at a ⊢;generalize val d k=v at hs ⊢;have c:=Gu v u;have e:v<v / u*u+u:=by
   have h:=Nat.div_add_mod v u;have:=tJ v a;rw [vn] at h;omega
  refine ⟨c,?_,Nat.min_le_right _ _⟩;rw [Nat.le_min];omega
 ·exact ⟨aV _,aV _,hs⟩
def mtk (d:aa):Nat->Nat->Bool
 | 0,_=>true
 | k+1,w=>(decide (d.getD k 0=88)||decide ((d.getD k 0).toNat=48+w%10))&&mtk d k (w / 10)
theorem A5 (d:aa) (k w:Nat):mtk d (k+1) w=((decide (d.getD k 0=88)||decide ((d.getD k 0).toNat=48+w%10))&&mtk d k (w / 10)):=rfl
theorem AI {d:aa} {k:Nat} {c:UInt8} (h:d[k]?=some c):d.getD k 0=c:=by
 rw [EK,h];rfl
theorem K4 (n:Nat) (g l:Bool) (d:aa) (x s:Int) (t:d.length=4):∀(k w:Nat),k<=4->w<100000000000000000->∀q,k<q->
  au (bU n) q ((w:Int),(k:Int) - 1,g,l,d,x,s)=some (if mtk d k w=true then .inr ((w / 10 ^ k:Nat):Int) else .inl 0)
 | 0,w,B,m,q,o=>by
  obtain ⟨q,rfl⟩:∃p,q=p+1:=⟨q - 1,by omega⟩;have b:decide (((0:Nat):Int) - 1>=0)=false:=rfl;have h:mtk d 0 w=true:=rfl;simp only [au,bU,b,af];rw [ae h];simp
 | k+1,w,B,m,q,o=>by
  obtain ⟨q,rfl⟩:∃p,q=p+1:=⟨q - 1,by omega⟩;have ih:=K4 n g l d x s t k (w / 10) (by omega) (by omega) q (by omega);obtain ⟨c,hc⟩:∃c,d[k]?=some c:=⟨d[k],bh (by omega)⟩;have A:((k+1:Nat):Int) - 1=(k:Int):=by omega
  have b:decide ((k:Int)>=0)=true:=am (by omega);have y:Int.tmod (w:Int) 10=((w%10:Nat):Int):=rfl;have eq':Int.tdiv (w:Int) 10=((w / 10:Nat):Int):=rfl;have v:IntKind.wrap .i64 (48+((w%10:Nat):Int))=((48+w%10:Nat):Int):=by rw [wrap_i64 _ (by omega) (by omega)];omega
  have r:IntKind.wrap .u8 ((48+w%10:Nat):Int)=((48+w%10:Nat):Int):=ia _ (by omega) (by omega);have z:IntKind.wrap .i64 ((w / 10:Nat):Int)=((w / 10:Nat):Int):=wrap_i64 _ (by omega) (by omega);have u:IntKind.wrap .i64 ((k:Int) - 1)=(k:Int) - 1:=wrap_i64 _ (by omega) (by omega);have a:w / 10 ^ (k+1)=w / 10 / 10 ^ k:=by rw [tA,vn,Nat.div_div_eq_div_mul]
  rw [A5,AI hc,a,A];simp only [au,bU,b,ah,eG hc,ob,y,eq',v,r,z,u];by_cases hx:c=88
  ·have j:(((c.toNat:Nat):Int) != 88)=false:=by rw [hx];rfl
   rw [j,am hx];simp only [af,EI,mN];exact ih
  ·have j:(((c.toNat:Nat):Int) != 88)=true:=by
    simp only [bne,kQ,aK];intro e;exact hx (gG.1 (by show c.toNat=88;omega))
   rw [j,ar hx];simp only [ah,oP];by_cases f:c.toNat=48+w%10
   ·have i:(((c.toNat:Nat):Int) != ((48+w%10:Nat):Int))=false:=by rw [f];simp
    rw [i,am f];simp only [af,mN];exact ih
   ·have i:(((c.toNat:Nat):Int) != ((48+w%10:Nat):Int))=true:=by
     simp only [bne,kQ,aK];omega
    rw [i,ar f];simp only [ah,vJ];rfl
def E3 (d:aa) (k q:Nat):Nat:=if 0<q then 10 ^ (d.length+k - q) else 1
def memP (d:aa) (x s:Int) (w:Nat):Prop:=if hasX d=true then mtk d 4 w=true/\w / 10 ^ 4=0 else val d x.toNat / E3 d x.toNat s.toNat=w / E3 d x.toNat s.toNat
instance (d:aa) (x s:Int) (w:Nat):Decidable (memP d x s w):=by unfold memP;infer_instance
def wOf (g:Bool) (v:Int):Int:=if g then -v else v
def inP (g:Bool) (d:aa) (x s v:Int):Prop:=-10000000000000000<=v/\v<=10000000000000000/\0<=wOf g v/\¬(hasX d=true/\g=true/\wOf g v=0)/\memP d x s (wOf g v).toNat
instance (g:Bool) (d:aa) (x s v:Int):Decidable (inP g d x s v):=by unfold inP;infer_instance
noncomputable def inT (n:Nat) (a0 a1:Bool) (a2:aa) (g h W:Int):Option Int:=
 (ob (aF n a0 a1 a2 g h) λe=>(cond (e==1) (ob (au (bU n) n (W,3,a0,a1,a2,g,h)) λf=>(Sum.casesOn (motive:=λ_=>Option _) f (λd=>(some d)) (λc=>(cond (decide (c>0)) (some 0) (some 1))))) (ob (ak n a2 g) λb=>(cond (decide (h>0)) (ob (ak n [49] (IntKind.wrap .i64 ((IntKind.wrap .i64 (((List.length a2:Nat):Int)+g)) - h))) λa=>(cond (a.1==0) none (cond (a.1==0) none (cond ((IntKind.wrap .i64 (Int.tdiv b.1 a.1))==(IntKind.wrap .i64 (Int.tdiv W a.1))) (some 1) (some 0))))) (cond ((IntKind.wrap .i64 (Int.tdiv b.1 1))==(IntKind.wrap .i64 (Int.tdiv W 1))) (some 1) (some 0))))))
theorem Kp (a b:Nat):(((a:Nat):Int)==((b:Nat):Int))=decide (a=b):=by
 by_cases h:a=b
 ·subst h;simp
 ·rw [ar h,aK];omega
theorem H9 {d:aa} {x s:Int} {w:Nat} (a:hasX d=true):memP d x s w↔mtk d 4 w=true/\w / 10 ^ 4=0:=by unfold memP;rw [ae a]
theorem Q5 {d:aa} {x s:Int} {w:Nat} (a:hasX d=false):memP d x s w↔val d x.toNat / E3 d x.toNat s.toNat=w / E3 d x.toNat s.toNat:=by unfold memP;rw [ab (by rw [a];simp)]
theorem in_T (m:Nat) {g l:Bool} {d:aa} {x s:Int} (o:okY g l d x s) (w:Nat) (R:w<=10000000000000000):inT (m+300) g l d x s (w:Int)=some (if memP d x s w then 1 else 0):=by
 have L:=iY o;have I:=pu (m+300) g l d x s (by omega) (by omega);unfold inT;cases i:hasX d with
 | true=>
  obtain ⟨rfl,rfl,rfl,N,_⟩:=qO o i;have D:=K4 (m+300) g false d 0 0 N 4 w (by omega) (by omega) (m+300) (by omega);have hlp':au (bU (m+300)) (m+300) ((w:Int),3,g,false,d,0,0)=_:=D;have F:((1:Int)==1)=true:=rfl;have n:aF (m+300) g false d 0 0=some 1:=by rw [I,i];rfl
  rw [n];simp only [ob,F,ah,hlp'];by_cases A:mtk d 4 w=true
  ·rw [ae A];by_cases z:w / 10 ^ 4=0
   ·have e:decide (((w / 10 ^ 4:Nat):Int)>0)=false:=ar (by rw [z];decide);rw [ae ((H9 i).2 ⟨A,z⟩)];simp only [e,af]
   ·have e:decide (((w / 10 ^ 4:Nat):Int)>0)=true:=am (by
     generalize w / 10 ^ 4=t at z ⊢;omega)
    rw [ab (λq=>z ((H9 i).1 q).2)];simp only [e,ah]
  ·rw [ab A,ab (λq=>A ((H9 i).1 q).1)]
 | false=>
  obtain ⟨k,q,rfl,rfl,y⟩:=sW o i;have hw':=y.wide;have hs:=y.small;have S:=y.sig;have G:dval 0 d*10 ^ k=val d k:=rfl;have H:=jw (m+300) d k y.dig (by omega) (by omega) (by omega);rw [ae hs,G] at H;rw [G] at hs;unfold E16 at hs;have C:((0:Int)==1)=false:=rfl;have n:aF (m+300) g l d k q=some 0:=by rw [I,i];rfl
  have c:=Q5 (x:=(k:Int)) (s:=(q:Int)) (w:=w) i;rw [bR,bR] at c;unfold E3 at c;rw [n];simp only [ob,C,af,H];by_cases J:0<q
  ·have B:decide ((q:Int)>0)=true:=am (by omega);have w0:IntKind.wrap .i64 (IntKind.wrap .i64 (((d.length:Nat):Int)+(k:Int)) - (q:Int))=((d.length+k - q:Nat):Int):=by
    rw [wrap_i64 (((d.length:Nat):Int)+(k:Int)) (by omega) (by omega),wrap_i64 _ (by omega) (by omega)];omega
   have E:10 ^ (d.length+k - q)<=10 ^ 16:=kI (by decide) (by omega);have Q:(10:Nat) ^ 16=10000000000000000:=by decide
   have one:dval 0 [49]=1:=by decide
   have h:dval 0 [49]*10 ^ (d.length+k - q)<=E16:=by rw [one];unfold E16;omega
   have j:=jw (m+300) [49] (d.length+k - q) (by decide) (by decide) (by omega) (by simp;omega);rw [ae h,one,yf] at j;have O:1<=10 ^ (d.length+k - q):=Bh _ _ (by decide);rw [B,w0,j];rw [ae J] at c;clear h j;generalize 10 ^ (d.length+k - q)=u at O E c ⊢;generalize val d k=v at hs c ⊢;have d2:(((u:Nat):Int)==0)=false:=aK.2 (by omega);have p:Int.tdiv ((v:Nat):Int) ((u:Nat):Int)=((v / u:Nat):Int):=rfl;have r:Int.tdiv ((w:Nat):Int) ((u:Nat):Int)=((w / u:Nat):Int):=rfl;have P:v / u<=v:=FI v u;have K:w / u<=w:=FI w u;simp only [ah,d2,af,p,r];generalize v / u=a at P c ⊢;generalize w / u=b at K c ⊢;rw [wrap_i64 _ (by omega) (by omega),wrap_i64 _ (by omega) (by omega),Kp];by_cases f:a=b
   ·rw [am f,ae (c.2 f)];rfl
   ·rw [ar f,ab (λq=>f (c.1 q))];rfl
  ·have B:decide ((q:Int)>0)=false:=ar (by omega);have M:∀a:Nat,Int.tdiv ((a:Nat):Int) 1=((a:Nat):Int):=λa=>by
    have:Int.tdiv ((a:Nat):Int) 1=((a / 1:Nat):Int):=rfl;rw [this,tz]
   rw [ab J,tz,tz] at c;rw [B];simp only [af,M];rw [wrap_i64 _ (by omega) (by omega),wrap_i64 _ (by omega) (by omega),Kp];by_cases f:val d k=w
   ·rw [am f,ae (c.2 f)];rfl
   ·rw [ar f,ab (λq=>f (c.1 q))];rfl
theorem VK (m:Nat) {g l:Bool} {d:aa} {x s:Int} (k:okY g l d x s) (v:Int):nu (m+300) g l d x s v=some (if inP g d x s v then 1 else 0):=by
 have y:=iY k;have b:=λw o=>in_T m k w o;have p:=pu (m+300) g l d x s (by omega) (by omega);unfold inT at b;unfold nu;by_cases t:v < -10000000000000000
 ·rw [am t,ab (λq=>by have:=q.1;omega)];rfl
 ·rw [ar t,af];by_cases u:v>10000000000000000
  ·rw [am u,ab (λq=>by have:=q.2.1;omega)];rfl
  ·rw [ar u,af];cases g with
   | true=>
    have w0:IntKind.wrap .i64 (0 - v)=-v:=by rw [wrap_i64 _ (by omega) (by omega)];omega
    simp only [ah,w0];by_cases n:-v<0
    ·rw [am n,ab (λq=>by have:=q.2.2.1;unfold wOf at this;simp only [aO] at this;omega)];rfl
    ·rw [ar n,af];obtain ⟨w,o⟩:∃w:Nat,-v=(w:Int):=⟨(-v).toNat,by omega⟩;have b:=b w (by omega);have f:wOf true v=(w:Int):=by unfold wOf;simpa using o
     have c:¬(hasX d=true/\w=0)->(inP true d x s v↔memP d x s w):=by
      intro r;unfold inP;rw [f,bR];constructor
      ·exact λq=>q.2.2.2.2
      ·exact λq=>⟨by omega,by omega,by omega,λq=>r ⟨q.1,by omega⟩,q⟩
     rw [o];cases i:hasX d with
     | true=>
      have a:aF (m+300) true l d x s=some 1:=by rw [p,i];rfl
      rw [a];have h:((1:Int)==1)=true:=rfl;simp only [ob,h,ah];by_cases r:w=0
      ·have e:(((w:Nat):Int)==0)=true:=bu.2 (by omega);rw [e,ab (λq=>q.2.2.2.1 ⟨i,rfl,by rw [f];omega⟩)];rfl
      ·have e:(((w:Nat):Int)==0)=false:=aK.2 (by omega);rw [a] at b;simp only [ob,h,ah] at b;rw [e,af,b];have:=c (λq=>r q.2);by_cases hp:memP d x s w
       ·rw [ae hp,ae (this.2 hp)]
       ·rw [ab hp,ab (λq=>hp (this.1 q))]
     | false=>
      have a:aF (m+300) true l d x s=some 0:=by rw [p,i];rfl
      have j:((0:Int)==1)=false:=rfl;rw [a] at b ⊢;simp only [ob,j,af] at b ⊢;rw [b];have:=c (λq=>by rw [i] at q;cases q.1);by_cases hp:memP d x s w
      ·rw [ae hp,ae (this.2 hp)]
      ·rw [ab hp,ab (λq=>hp (this.1 q))]
   | false=>
    simp only [af];by_cases n:v<0
    ·rw [am n,ab (λq=>by have:=q.2.2.1;unfold wOf at this;simp only [bw,aC] at this;omega)];rfl
    ·rw [ar n,af];obtain ⟨w,rfl⟩:∃w:Nat,v=(w:Int):=⟨v.toNat,by omega⟩;have b:=b w (by omega);have f:wOf false (w:Int)=(w:Int):=rfl;have c:inP false d x s (w:Int)↔memP d x s w:=by
      unfold inP;rw [f,bR];constructor
      ·exact λq=>q.2.2.2.2
      ·exact λq=>⟨by omega,by omega,by omega,λq=>(by cases q.2.1),q⟩
     cases i:hasX d with
     | true=>
      have a:aF (m+300) false l d x s=some 1:=by rw [p,i];rfl
      rw [a] at b ⊢;have h:((1:Int)==1)=true:=rfl;simp only [ob,h,ah] at b ⊢;rw [b];by_cases hp:memP d x s w
      ·rw [ae hp,ae (c.2 hp)]
      ·rw [ab hp,ab (λq=>hp (c.1 q))]
     | false=>
      have a:aF (m+300) false l d x s=some 0:=by rw [p,i];rfl
      rw [a] at b ⊢;have j:((0:Int)==1)=false:=rfl;simp only [ob,j,af] at b ⊢;rw [b];by_cases hp:memP d x s w
      ·rw [ae hp,ae (c.2 hp)]
      ·rw [ab hp,ab (λq=>hp (c.1 q))]
def loK (d:aa) (k:Nat):Nat:=dval 0 ((eM 48 d).take k)
def hiK (d:aa) (k:Nat):Nat:=dval 0 ((eM 57 d).take k)
theorem xB (z:UInt8) {d:aa} {k:Nat} {c:UInt8} (h:d[k]?=some c):dval 0 ((eM z d).take (k+1))=dval 0 ((eM z d).take k)*10+((if c=88 then z else c).toNat - 48):=by
 rw [UG (yN h),IQ]
theorem DG (d:aa) (f:d.length=4) (e:∀c∈d,bf c=true\/c=88):∀(k w:Nat),k<=4->w<10 ^ k->mtk d k w=true->loK d k<=w/\w<=hiK d k
 | 0,w,l,b,a=>by
  simp at b;subst b;simp [loK,hiK,pN]
 | k+1,w,l,b,a=>by
  obtain ⟨c,hc⟩:∃c,d[k]?=some c:=⟨d[k],bh (by omega)⟩;rw [A5,AI hc,aA,g9,cn,cn] at a;have hp:(10:Nat) ^ (k+1)=10 ^ k*10:=tA 10 k;have ih:=DG d f e k (w / 10) (by omega) (by omega) a.2;have j:=xB 48 hc;have g:=xB 57 hc;unfold loK hiK at ih ⊢;rw [j,g];by_cases hx:c=88
  ·rw [ae hx,ae hx];have i:(48:UInt8).toNat - 48=0:=rfl;have h:(57:UInt8).toNat - 48=9:=rfl;rw [i,h];omega
  ·rw [ab hx,ab hx];have:=a.1.resolve_left hx;omega
theorem AO (z:UInt8) (h:bf z=true) (d:aa) (j:d.length=4) (f:∀c∈d,bf c=true\/c=88):∀k,k<=4->mtk d k (dval 0 ((eM z d).take k))=true
 | 0,_=>rfl
 | k+1,n=>by
  obtain ⟨c,hc⟩:∃c,d[k]?=some c:=⟨d[k],bh (by omega)⟩;have ih:=AO z h d j f k (by omega);have e:bf (if c=88 then z else c)=true:=by
   by_cases hx:c=88
   ·rw [ae hx];exact h
   ·rw [ab hx];exact (f c (fS hc)).resolve_right hx
  have i:=(bX _).1 e;rw [A5,AI hc,xB z hc];generalize g:(if c=88 then z else c)=b at i ⊢;generalize dval 0 ((eM z d).take k)=a at ih ⊢;have m:(a*10+(b.toNat - 48)) / 10=a:=by omega
  have l:(a*10+(b.toNat - 48))%10=b.toNat - 48:=by omega
  rw [m,l,ih,EF];by_cases hx:c=88
  ·rw [am hx];rfl
  ·rw [ab hx] at g;rw [g,am (show b.toNat=48+(b.toNat - 48) by omega),Bool.or_true]
def Aq:List (aa):=[[48,48,48,88],[48,48,88,48],[48,48,88,88],[48,88,48,48],[48,88,48,88],[48,88,88,48],[48,88,88,88],[88,48,48,48],[88,48,48,88],[88,48,88,48],[88,48,88,88],[88,88,48,48],[88,88,48,88],[88,88,88,48],[88,88,88,88]]
theorem YC:Aq.all (λd=>mtk d 4 (uA d)&&decide (1<=uA d)&&decide (uA d<=1000)&&(List.range 1000).all (λw=>decide (w=0)||!mtk d 4 w||decide (uA d<=w)))=true:=by decide +kernel
theorem EQ {d:aa} (c:d∈Aq):mtk d 4 (uA d)=true/\1<=uA d/\uA d<=1000/\∀w,1<=w->mtk d 4 w=true->uA d<=w:=by
 have h:=cv.1 YC d c;simp only [aA,cn,cv,la,g9,kQ] at h;obtain ⟨⟨⟨i,f⟩,b⟩,g⟩:=h;refine ⟨i,f,b,λw k e=>?_⟩;rcases aH w 1000 with a | j
 ·rcases g w a with (h | h) | h
  ·omega
  ·rw [e] at h;cases h
  ·exact h
 ·omega
theorem Dh {d:aa} (a:d.length=4) (e:∀c∈d,bf c=true\/c=88) (b:hasX d=true) (f:dval 0 (eM 48 d)=0):d∈Aq:=
 zl a (Es a e f) b (λd=>d∈Aq) (by decide) (by decide) (by decide) (by decide) (by decide) (by decide) (by decide) (by decide) (by decide) (by decide) (by decide) (by decide) (by decide) (by decide) (by decide)
theorem Tt {d:aa} (a:d.length=4):loK d 4=dval 0 (eM 48 d):=by
 unfold loK;rw [jf (by rw [js];omega)]
theorem Ue {d:aa} (a:d.length=4):hiK d 4=dval 0 (eM 57 d):=by
 unfold hiK;rw [jf (by rw [js];omega)]
theorem Qd {g:Bool} {d:aa} (b:d.length=4) (e:∀c∈d,bf c=true\/c=88) (q:hasX d=true):
  (kV g d).1<10000/\(kV g d).2<10000/\mtk d 4 (kV g d).1=true/\mtk d 4 (kV g d).2=true/\1<=(kV g d).2/\(g=true->1<=(kV g d).1)/\∀w,w<10000->mtk d 4 w=true->(g=true->1<=w)->(kV g d).1<=w/\w<=(kV g d).2:=by
 have r:(10:Nat) ^ 4=10000:=by decide
 have o:=rH (z:=48) (by decide) e;have p:=rH (z:=57) (by decide) e;have b1:=rE (eM 48 d) 0 0 o (by simp);have b2:=rE (eM 57 d) 0 0 p (by simp);rw [js,b,cP,r] at b1 b2;have m1:=AO 48 (by decide) d b e 4 (by omega);have m2:=AO 57 (by decide) d b e 4 (by omega);rw [jf (by rw [js];omega)] at m1 m2;have l:∀w,w<10000->mtk d 4 w=true->dval 0 (eM 48 d)<=w/\w<=dval 0 (eM 57 d):=λw k h=>by
  have:=DG d b e 4 w (by omega) (by omega) h;rw [Tt b,Ue b] at this;exact this
 have j:1<=dval 0 (eM 57 d):=by
  rcases AE (dval 0 (eM 57 d)) with i | i
  ·exfalso;have f:dval 0 (eM 48 d)=0:=by
    have:=(l _ b1 m1).2;omega
   have n:=Dh b e q f;have a:=EQ n;have:=(l _ (by omega) a.1).2;omega
  ·exact i
 unfold kV;by_cases f:g=true/\dval 0 (eM 48 d)=0
 ·rw [ae f];have a:=EQ (Dh b e q f.2);refine ⟨by simp only;omega,b2,a.1,m2,j,λ_=>a.2.1,λw k h m=>⟨a.2.2.2 w (m f.1) h,(l w k h).2⟩⟩
 ·rw [ab f];refine ⟨b1,b2,m1,m2,j,λm=>?_,λw k h m=>l w k h⟩;simp only;rcases AE (dval 0 (eM 48 d)) with i | i
  ·exact absurd ⟨m,i⟩ f
  ·exact i
theorem Qr {g l:Bool} {d:aa} {x s:Int} (i:okY g l d x s):(nP g d x s).1<=10000000000000000/\(nP g d x s).2<=10000000000000000/\memP d x s (nP g d x s).1/\memP d x s (nP g d x s).2/\(hasX d=true->1<=(nP g d x s).2/\(g=true->1<=(nP g d x s).1))/\
  ∀w,w<=10000000000000000->memP d x s w->(hasX d=true->g=true->1<=w)->(nP g d x s).1<=w/\w<=(nP g d x s).2:=by
 unfold nP memP;cases o:hasX d with
 | true=>
  obtain ⟨rfl,rfl,rfl,H,C⟩:=qO i o;obtain ⟨O,F,M,L,E,D,I⟩:=Qd (g:=g) H C o;have J:(10:Nat) ^ 4=10000:=by decide
  simp only [aO,J];refine ⟨by omega,by omega,⟨M,Nat.div_eq_of_lt O⟩,⟨L,Nat.div_eq_of_lt F⟩,λ_=>⟨E,D⟩,λw t j K=>I w (by omega) j.1 (K trivial)⟩
 | false=>
  obtain ⟨k,q,rfl,rfl,y⟩:=sW i o;have hs:=y.small;have G:dval 0 d*10 ^ k=val d k:=rfl;rw [G] at hs;obtain ⟨c,e,b⟩:=R7 y;unfold E16 at b;simp only [bw,aC,bR];unfold E3;unfold Ce at c e b ⊢;by_cases m:0<q
  ·rw [ae m] at c e b ⊢;rw [ae m];have z:1<=10 ^ (d.length+k - q):=Bh _ _ (by decide);generalize 10 ^ (d.length+k - q)=u at *;generalize val d k=v at *;simp only at c e b ⊢;have f:v / u*u / u=v / u:=Nat.mul_div_cancel _ z;have p:∀w,v / u*u<=w->w<v / u*u+u->w / u=v / u:=by
    intro w B r;apply Nat.div_eq_of_lt_le
    ·exact B
    ·rw [Nat.succ_mul];exact r
   have a:∀w,v / u=w / u->v / u*u<=w/\w<v / u*u+u:=by
    intro w h;rw [h];have B:=Gu w u;have r:=Nat.div_add_mod w u;have Q:=tJ w z;rw [vn] at r;omega
   have A:min (v / u*u+u - 1) E16<=v / u*u+u - 1:=Nat.min_le_left _ _;have n:=a v rfl;refine ⟨by omega,b,f.symm,(p _ (by omega) (by omega)).symm,λq=>(by cases q),λw t j _=>?_⟩;obtain ⟨N,P⟩:=a w j;refine ⟨N,?_⟩;rw [Nat.le_min];unfold E16;omega
  ·rw [ab m] at c e b ⊢;rw [ab m];simp only [tz] at c e b ⊢;refine ⟨b,b,trivial,trivial,λq=>(by cases q),λw t j _=>by omega⟩
theorem FK {g l:Bool} {d:aa} {x s:Int} (p:okY g l d x s):inP g d x s (sgn g (nP g d x s)).1/\inP g d x s (sgn g (nP g d x s)).2/\∀v,inP g d x s v->(sgn g (nP g d x s)).1<=v/\v<=(sgn g (nP g d x s)).2:=by
 obtain ⟨w,j,r,o,i,f⟩:=Qr p;generalize nP g d x s=z at *;obtain ⟨lo,hi⟩:=z;simp only at w j r o i f;cases g with
 | true=>
  have b:∀a:Nat,wOf true (-(a:Int))=(a:Int):=λa=>by unfold wOf;simp
  have mk:∀a:Nat,a<=10000000000000000->memP d x s a->(hasX d=true->1<=a)->inP true d x s (-(a:Int)):=by
   intro a D t C;refine ⟨by omega,by omega,by rw [b];omega,λq=>?_,by rw [b,bR];exact t⟩;have:=C q.1;have B:=q.2.2;rw [b] at B;omega
  simp only [sgn,aO];refine ⟨mk hi j o (λh=>(i h).1),mk lo w r (λh=>(i h).2 rfl),λv m=>?_⟩;obtain ⟨y,A,n,k,c⟩:=m;have u:wOf true v=-v:=rfl;rw [u] at n k c
  have:=f (-v).toNat (by omega) c (λhx _=>by
   have:¬-v=0:=λe=>k ⟨hx,rfl,e⟩;omega)
  omega
 | false=>
  have b:∀a:Int,wOf false a=a:=λa=>rfl;have mk:∀a:Nat,a<=10000000000000000->memP d x s a->inP false d x s (a:Int):=by
   intro a D t;exact ⟨by omega,by omega,by rw [b];omega,λq=>(by cases q.2.1),by rw [b,bR];exact t⟩
  simp only [sgn,bw,aC];refine ⟨mk lo w r,mk hi j o,λv m=>?_⟩;obtain ⟨y,A,n,k,c⟩:=m;rw [b] at n c;have:=f v.toNat (by omega) c (λ_ q=>by cases q);omega
end Go.Sh
namespace Go.Sh.Mk
open Go.Abs
def okB (c:UInt8):Bool:=c.toNat==88||(decide (48<=c.toNat)&&decide (c.toNat<=57))
def chk (s:aa):Int:=if 18<s.length then 3 else if s.all okB then (if s=[] then 5 else 0) else 5
theorem vR (n:Nat) (s0 s:aa) (r:s.length+1<n):
  au (iO n) n (s0,s,0)=some (if s.all okB then .inr s0 else .inl 5):=by
 have:=fP (step:=iO n) (λx=>x.1=s0/\x.2.1=s/\x.2.2<=s.length) (λx=>s.length - x.2.2)
  (λx=>if (s.drop x.2.2).all okB then .inr s0 else .inl 5) ?_ n (s0,s,0) ⟨rfl,rfl,jI _⟩ (by simp;omega)
 ·simpa using this
 rintro ⟨a,b,i⟩ ⟨rfl,rfl,hi⟩;simp only at hi ⊢;rcases aH i b.length with j | o
 ·obtain ⟨c,hc⟩:∃c,b[i]?=some c:=⟨b[i],bh j⟩;have m:Nat.blt i b.length=true:=cT j;rw [cA hc,mO];simp only [iO,m,ah];by_cases k:c.toNat<128
  ·rw [AG hc k];by_cases l:c.toNat=88
   ·refine .inl ⟨(a,b,i+1),by simp [l],⟨rfl,rfl,by simp only;omega⟩,by simp only;omega,?_⟩;simp [okB,l]
   ·by_cases q:c.toNat<48
    ·refine .inr ?_;have d:(((c.toNat:Nat):Int) != 88)=true:=by simp;omega
     have f:(decide (((c.toNat:Nat):Int)<48))=true:=by simp;omega
     have e:okB c=false:=by simp [okB];omega
     simp [d,f,e]
    ·by_cases p:57<c.toNat
     ·refine .inr ?_;have d:(((c.toNat:Nat):Int) != 88)=true:=by simp;omega
      have f:(decide (((c.toNat:Nat):Int)<48))=false:=by simp;omega
      have g:(decide (((c.toNat:Nat):Int)>57))=true:=by simp;omega
      have e:okB c=false:=by simp [okB];omega
      simp [d,f,e,g]
     ·have d:(((c.toNat:Nat):Int) != 88)=true:=by simp;omega
      have f:(decide (((c.toNat:Nat):Int)<48))=false:=by simp;omega
      have g:(decide (((c.toNat:Nat):Int)>57))=false:=by simp;omega
      have e:okB c=true:=by simp [okB];omega
      refine .inl ⟨(a,b,i+1),by simp only [d,f,g,ah,af],⟨rfl,rfl,by simp only;omega⟩,by simp only;omega,?_⟩;simp [e]
  ·obtain ⟨u,t⟩:=IS hc (by omega);refine .inr ?_;have d:((((dec b i).1:Nat):Int) != 88)=true:=by simp;omega
   have f:(decide ((((dec b i).1:Nat):Int)<48))=false:=by simp;omega
   have g:(decide ((((dec b i).1:Nat):Int)>57))=true:=by simp;omega
   have e:okB c=false:=by simp [okB];omega
   simp [d,f,e,g]
 ·have m:Nat.blt i b.length=false:=by
   cases h:Nat.blt i b.length with
   | false=>rfl
   | true=>have:i<b.length:=aL h;omega
  refine .inr ?_;simp only [iO,m,af];rw [jE o];rfl
theorem lT (n:Nat) (s:aa) (b:30<=n):kh n s=some (chk s):=by
 unfold kh chk;by_cases h:18<s.length
 ·have:(decide (((List.length s:Nat):Int)>18))=true:=by simp;omega
  simp [this,h]
 ·have e:(decide (((List.length s:Nat):Int)>18))=false:=by simp;omega
  simp only [e,af,h,aC];rw [vR n s s (by omega)];by_cases a:s.all okB=true
  ·simp only [a,aO,ob];by_cases hs:s=[]
   ·simp [hs]
   ·have:(s==([]:aa))=false:=by simpa using hs
    simp [this,hs]
  ·simp [a,ob]
theorem og {s:aa} (h:chk s=0):s.length<=18/\s≠[]/\∀c∈s,okB c=true:=by
 unfold chk at h;split at h
 ·simp at h
 ·split at h
  ·rename_i a;split at h
   ·simp at h
   ·rename_i hs;exact ⟨by omega,hs,by simpa using a⟩
  ·simp at h
def nums (l:aa):List Int:=l.map λb=>((b.toNat:Nat):Int)
def over (d:List Int) (i:Nat) (l:List Int):List Int:=d.take i++(l++d.drop (i+l.length))
theorem B8 (d:List Int) (i:Nat) (x:Int) (l:List Int) (h:i<d.length):over (d.set i x) (i+1) l=over d i (x::l):=by
 unfold over;rw [show (d.set i x).take (i+1)=d.take i++[x] from by
  rw [Ky (by simpa using h)];simp [List.take_set_of_le]]
 rw [List.drop_set_of_lt (by omega)];simp [ib,qb 1]
theorem HA (d:List Int) (i:Nat):over d i []=d:=by simp [over]
theorem PI (d:List Int) (i:Nat) (l:List Int) (h:i+l.length<=d.length):(over d i l).length=d.length:=by
 unfold over;simp;omega
theorem P7 {x y:UInt8}:(((x.toNat:Nat):Int)==((y.toNat:Nat):Int))=decide (x=y):=by
 by_cases h:x=y
 ·simp [h]
 ·have:x.toNat≠y.toNat:=λe=>h (gG.1 e);simp [h];omega
theorem A6 {x:UInt8}:(((x.toNat:Nat):Int)==88)=decide (x=88):=by
 have:=P7 (x:=x) (y:=88);simpa using this
def dg:Nat->Int->List Int
 | 0,_=>[]
 | L+1,k=>dg L (k / 10)++[48+k%10]
theorem xn:∀(L:Nat) (k:Int),(dg L k).length=L
 | 0,_=>rfl
 | L+1,k=>by simp [dg,xn L]
theorem uF:∀(L:Nat) (k:Int),∀x∈dg L k,48<=x/\x<58
 | 0,_,x,h=>by simp [dg] at h
 | L+1,k,x,h=>by
  simp only [dg,mJ,nX] at h;rcases h with h | rfl
  ·exact uF L _ x h
  ·omega
def jy:aa->List Int->Bool
 | c::m,d::l=>(c==88||decide (((c.toNat:Nat):Int)=d))&&jy m l
 | _,_=>true
theorem vF:∀{a c:aa} {b d:List Int},a.length=b.length->jy (a++c) (b++d)=(jy a b&&jy c d)
 | [],c,[],d,_=>by simp [jy]
 | x::a,c,y::b,d,h=>by
  simp only [aE,xz] at h;simp only [eW,jy,vF h,Bool.and_assoc]
def hasM (m:aa) (k:Int):Bool:=decide (0<=k)&&(decide (k<10 ^ m.length)&&jy m (dg m.length k))
theorem Qv (L:Nat) (h:L<=18):pY 20000000 ((L:Nat):Int)=some (10 ^ L):=by
 have b:allN (λi=>match pY 20000000 ((i:Nat):Int) with | some r=>decide (r=10 ^ i) | none=>false) 19=true:=by kernel_rfl
 have:=E9 b L (by omega);split at this
 ·rename_i r a;rw [a];simpa using this
 ·cases this
theorem DN (L:Nat) (h:L<=18):(10:Int) ^ L<=1000000000000000000:=by
 have a:allN (λi=>decide ((10:Int) ^ i<=1000000000000000000)) 19=true:=by kernel_rfl
 simpa using E9 a L (by omega)
theorem Wu {k:Int} (h:0<=k):Int.tmod k 10=k%10:=Kw h
theorem Wj {k:Int} (h:0<=k):Int.tdiv k 10=k / 10:=Q2 h
theorem JM (k:Int) (i:Nat) (d:List Int) (a:0<=k) (c:k<9223372036854775808) (hi:i<=18) (b:d.length=18):
  au (iS 20000000) 20000000 (k,(i:Int) - 1,d)=some (over d 0 (dg i k)):=by
 have:=fP (step:=iS 20000000) (λx=>(0<=x.1/\x.1<9223372036854775808)/\(-1<=x.2.1/\x.2.1<=17)/\x.2.2.length=18) (λx=>(x.2.1+1).toNat)
  (λx=>over x.2.2 0 (dg (x.2.1+1).toNat x.1)) ?_ 20000000 (k,(i:Int) - 1,d) ⟨⟨a,c⟩,⟨by simp only;omega,by simp only;omega⟩,b⟩ (by simp only;omega)
 ·simpa using this
 rintro ⟨k,i,d⟩ ⟨⟨a,c⟩,⟨m,q⟩,b⟩;simp only at a c m q b ⊢;by_cases hi:0<=i
 ·obtain ⟨j,rfl⟩:∃j:Nat,i=j:=⟨i.toNat,by omega⟩;have f:j<18:=by omega
  have e:decide ((j:Int)>=0)=true:=by simp
  have o:Nat.blt j 18=true:=cT f;have l:IntKind.wrap .i64 ((j:Int) - 1)=(j:Int) - 1:=wrap_i64 _ (by omega) (by omega);have h:IntKind.wrap .i64 (Int.tdiv k 10)=k / 10:=by rw [Wj a];exact wrap_i64 _ (by omega) (by omega)
  have n:IntKind.wrap .u8 (IntKind.wrap .i64 (48+Int.tmod k 10))=48+k%10:=by rw [Wu a,wrap_i64 _ (by omega) (by omega),ia _ (by omega) (by omega)]
  refine .inl ⟨(k / 10,(j:Int) - 1,d.set j (48+k%10)),by simp only [iS,e,ah,dY f,ob,o,l,h,n],⟨⟨by simp only;omega,by simp only;omega⟩,⟨by simp only;omega,by simp only;omega⟩,by simpa using b⟩,by simp only;omega,?_⟩;have g:((j:Int) - 1+1).toNat=j:=by omega
  have p:((j:Int)+1).toNat=j+1:=by omega
  simp only [g,p,over,mM,dJ,xn,dk,dg,fK];congr 1;rw [List.drop_set,ab (by omega),B9,pG (by omega)];simp only [List.set_cons_zero,aR,xn,aE,bH,eW,dJ,dk]
 ·have e:decide (i>=0)=false:=by simp;omega
  have s:(i+1).toNat=0:=by omega
  refine .inr ?_;simp only [iS,e,af,s,dg,HA]
theorem QN (m:aa) (k:Int) (c:m.length<=18) (b:0<=k) (a:k<9223372036854775808):
  lA 20000000 m k=some (over [0,0,0,0,0,0,0,0,0,0,0,0,0,0,0,0,0,0] 0 (dg m.length k)):=by
 have w:IntKind.wrap .i64 (((List.length m:Nat):Int) - 1)=(m.length:Int) - 1:=wrap_i64 _ (by omega) (by omega);simp only [lA,w,JM k m.length [0,0,0,0,0,0,0,0,0,0,0,0,0,0,0,0,0,0] b a c (by rfl),ob]
theorem wa {d l:List Int} {i:Nat} (h:i<l.length):(over d 0 l)[i]?=l[i]?:=by
 unfold over;simp only [mM,dJ];rw [nN h]
theorem zG:∀(l:List Int),(∀x∈l,0<=x/\x<256)->nums (ic l)=l
 | [],_=>rfl
 | x::l,h=>by
  have ih:=zG l λy hy=>h y (fi _ hy);obtain ⟨c,a⟩:=h x (by simp);have e:(((UInt8.ofNat x.toNat).toNat:Nat):Int)=x:=by
   rw [E5,oO (by omega)];omega
  simp only [nums,ic,tO] at ih ⊢;simp only [fV,Function.comp,e];rw [show List.map ((λb:UInt8=>((b.toNat:Nat):Int)) ∘ λn:Int=>UInt8.ofNat n.toNat) l=l from ih]
theorem P2 (l:aa):(nums l).length=l.length:=by simp [nums]
def cnt:aa->Nat
 | []=>0
 | c::r=>if c=88 then cnt r+1 else cnt r
def dv (c:UInt8):Int:=((c.toNat:Nat):Int) - 48
def nth:aa->Int->Int
 | [],_=>0
 | c::r,i=>if c=88 then 10*nth r (i / 10)+i%10 else 10*nth r i+dv c
def ag:aa->Int->Bool
 | [],_=>true
 | c::r,k=>ag r (k / 10)&&(decide (c=88)||decide (dv c=k%10))
def idx:aa->Int->Int
 | [],_=>0
 | c::r,k=>if c=88 then 10*idx r (k / 10)+k%10 else idx r (k / 10)
def okR (r:aa):Prop:=∀c∈r,c=88\/(0<=dv c/\dv c<10)
theorem Ae {m:aa} (h:∀c∈m,okB c=true):okR m.reverse:=by
 intro c hc;have:=h c (FN.1 hc);simp only [okB,g9,bu,aA,cn] at this;rcases this with h | h
 ·exact .inl (gG.1 (by simpa using h))
 ·exact .inr (by unfold dv;omega)
theorem rL {c:UInt8} {r:aa} (h:okR (c::r)):okR r:=λx hx=>h x (fi _ hx)
theorem iP (n:Nat):(10:Int) ^ (n+1)=10*10 ^ n:=by rw [Int.pow_succ,Am]
theorem uC (n:Nat):(0:Int)<10 ^ n:=Int.pow_pos (by omega)
theorem qV:∀{r:aa},okR r->∀i,0<=i->0<=nth r i/\nth r i<10 ^ r.length
 | [],_,i,_=>by simp [nth]
 | c::r,h,i,hi=>by
  simp only [nth,aE,iP];split
  ·have:=qV (rL h) (i / 10) (by omega);omega
  ·rename_i hc;have:=qV (rL h) i hi;have:=(h c (by simp)).resolve_left hc;omega
theorem MZ:∀{r:aa},okR r->∀i,0<=i->ag r (nth r i)=true
 | [],_,_,_=>rfl
 | c::r,h,i,hi=>by
  simp only [nth,ag];split
  ·rename_i hc;have e:(10*nth r (i / 10)+i%10) / 10=nth r (i / 10):=by omega
   rw [e,MZ (rL h) (i / 10) (by omega)];simp [hc]
  ·rename_i hc;have b:=(h c (by simp)).resolve_left hc;have e:(10*nth r i+dv c) / 10=nth r i:=by omega
   have a:(10*nth r i+dv c)%10=dv c:=by omega
   rw [e,a,MZ (rL h) i hi];simp
theorem xQ:∀(r:aa) (k:Int),0<=k->0<=idx r k/\idx r k<10 ^ cnt r
 | [],k,_=>by simp [idx,cnt]
 | c::r,k,a=>by
  have:=xQ r (k / 10) (by omega);simp only [idx,cnt];split
  ·rw [iP];omega
  ·exact this
theorem Nr:∀{r:aa} {k:Int},0<=k->k<10 ^ r.length->ag r k=true->nth r (idx r k)=k
 | [],k,f,a,_=>by simp at a;simp [nth];omega
 | c::r,k,f,a,b=>by
  simp only [ag,aA,g9,cn] at b;rw [aE,iP] at a;have ih:=Nr (r:=r) (k:=k / 10) (by omega) (by omega) b.1;simp only [nth,idx];split
  ·have:=xQ r (k / 10) (by omega);have e:(10*idx r (k / 10)+k%10) / 10=idx r (k / 10):=by omega
   have d:(10*idx r (k / 10)+k%10)%10=k%10:=by omega
   rw [e,d,ih];omega
  ·rename_i hc;rw [ih];have:=b.2.resolve_left hc;omega
theorem BI:∀{r:aa},okR r->∀i j,0<=i->i<j->j<10 ^ cnt r->nth r i<nth r j
 | [],_,i,j,d,b,a=>by simp [cnt] at a;omega
 | c::r,h,i,j,d,b,a=>by
  simp only [nth,cnt] at a ⊢;split
  ·rename_i hc;rw [ae hc,iP] at a;by_cases e:i / 10=j / 10
   ·rw [e];omega
   ·have:=BI (rL h) (i / 10) (j / 10) (by omega) (by omega) (by omega);omega
  ·rename_i hc;rw [ab hc] at a;have:=BI (rL h) i j d b a;omega
theorem GP:∀(r:aa),∀k,jy r.reverse (dg r.length k)=ag r k
 | [],k=>rfl
 | c::r,k=>by
  simp only [List.reverse_cons,aE,dg,ag];rw [vF (by rw [vr,xn]),GP r];have a:decide (((c.toNat:Nat):Int)=48+k%10)=decide (dv c=k%10):=mI.2 (by unfold dv;omega);have b:(c==88)=decide (c=88):=by by_cases h:c=88<;>simp [h]
  simp only [jy,EF,a,b]
theorem GI (m:aa) (k:Int):hasM m k=(decide (0<=k)&&(decide (k<10 ^ m.length)&&ag m.reverse k)):=by
 have:=GP m.reverse k;rw [yO,vr] at this;unfold hasM;rw [this]
theorem yq:∀(m:aa),cnt m=m.count 88
 | []=>rfl
 | c::m=>by
  simp only [cnt,yq m,List.count_cons];by_cases h:c=88<;>simp [h]
theorem sY (m:aa):cnt m.reverse=cnt m:=by rw [yq,yq,List.count_reverse]
theorem NT:∀(m:aa),cnt m<=m.length
 | []=>by simp [cnt]
 | c::m=>by
  have:=NT m;simp only [cnt,aE];split<;>omega
def fd (x y:Int):Int:=(if y=88 then x else y) - 48
def fval (x:Int) (l:List Int):Int:=l.foldl (λn y=>10*n+fd x y) 0
theorem Cd (x:Int):∀(l:List Int) (n:Int),l.foldl (λn y=>10*n+fd x y) n=n*10 ^ l.length+fval x l
 | [],n=>by simp [fval]
 | y::l,n=>by
  have e:=Cd x l (10*n+fd x y);have a:=Cd x l (10*0+fd x y);simp only [fval,vw,aE,iP] at e a ⊢;rw [e,a,Int.add_mul,Int.add_mul];have:10*n*10 ^ l.length=n*(10*10 ^ l.length):=by rw [Am 10 n,Int.mul_assoc]
  omega
theorem xR (s:aa) (x:Int) (C:s.length<=18) (hs:∀c∈s,0<=fd x ((c.toNat:Nat):Int)/\fd x ((c.toNat:Nat):Int)<10):mn 20000000 s x=some (fval x (nums s)):=by
 have hs':∀y∈nums s,0<=fd x y/\fd x y<10:=by
  intro y hy;obtain ⟨c,hc,rfl⟩:=ej.1 hy;exact hs c hc
 have w:(nums s).length=s.length:=P2 s;have:=fP (step:=gP 20000000)
  (λst=>st.1=x/\st.2.2.1=((s.length:Nat):Int)/\st.2.2.2.2=nums s/\(0<=st.2.2.2.1/\st.2.2.2.1<=s.length)/\0<=st.2.1/\st.2.1<10 ^ st.2.2.2.1.toNat) (λst=>s.length - st.2.2.2.1.toNat)
  (λst=>((nums s).drop st.2.2.2.1.toNat).foldl (λn y=>10*n+fd x y) st.2.1) ?_ 20000000 (x,0,((s.length:Nat):Int),0,nums s) ⟨rfl,rfl,rfl,⟨by simp,by simp⟩,by simp,by simp⟩ (by simp;omega)
 ·show (ob (au (gP 20000000) 20000000 (x,0,((List.length (nums s):Nat):Int),0,nums s)) λg=>some g)=_;rw [w,this];rfl
 rintro ⟨b,n,len,i,l⟩ ⟨r,o,m,⟨D,hi⟩,v,q⟩;simp only at r o m D hi v q ⊢;subst r o m;obtain ⟨j,rfl⟩:∃j:Nat,i=j:=⟨i.toNat,by omega⟩;simp only [bR] at q ⊢;rcases aH j s.length with B | u
 ·obtain ⟨y,hy⟩:∃c,(nums s)[j]?=some c:=⟨(nums s)[j]'(by omega),bh (by omega)⟩;obtain ⟨d0,d⟩:=hs' y (fS hy);have k:(decide ((j:Int)<((s.length:Nat):Int)))=true:=by simp;omega
  have t:IntKind.wrap .i64 ((j:Int)+1)=((j+1:Nat):Int):=by rw [wrap_i64 _ (by omega) (by omega)];omega
  have f:=DN (j+1) (by omega);rw [iP] at f;have A:IntKind.wrap .i64 (10*n)=10*n:=wrap_i64 _ (by omega) (by omega);have p:∀z:Int,0<=z->z<10->IntKind.wrap .i64 (10*n+IntKind.wrap .i64 (IntKind.wrap .u8 z))=10*n+z:=λz E z1=>by
   rw [ia z (by omega) (by omega),wrap_i64 z (by omega) (by omega),wrap_i64 _ (by omega) (by omega)]
  rw [cA hy,vw];simp only [gP,k,ah,dY (show j<(nums s).length by omega),ob,hy,t,A];have next:0<=10*n+fd b y/\10*n+fd b y<10 ^ (j+1):=by rw [iP];omega
  by_cases a:y=88
  ·have h:(y==88)=true:=by simpa using a
   have e:fd b y=b - 48:=by simp [fd,a]
   rw [e] at d0 d next ⊢;refine .inl ⟨(b,10*n+(b - 48),((s.length:Nat):Int),((j+1:Nat):Int),nums s),by simp only [h,ah,p _ d0 d],⟨rfl,rfl,rfl,⟨by simp only;omega,by simp only;omega⟩,next.1,by simpa only [bR] using next.2⟩,by simp only [bR];omega,by simp only [bR]⟩
  ·have h:(y==88)=false:=by simpa using a
   have e:fd b y=y - 48:=by simp [fd,a]
   rw [e] at d0 d next ⊢;refine .inl ⟨(b,10*n+(y - 48),((s.length:Nat):Int),((j+1:Nat):Int),nums s),by simp only [h,af,p _ d0 d],⟨rfl,rfl,rfl,⟨by simp only;omega,by simp only;omega⟩,next.1,by simpa only [bR] using next.2⟩,by simp only [bR];omega,by simp only [bR]⟩
 ·have k:(decide ((j:Int)<((s.length:Nat):Int)))=false:=by simp;omega
  refine .inr ?_;simp only [gP,k,af];rw [jE (by omega)];rfl
theorem yi (x:Int) (l:List Int) (y:Int):fval x (l++[y])=10*fval x l+fd x y:=by simp [fval,Ir]
theorem EO (r:aa) (c:UInt8):nums ((c::r).reverse)=nums r.reverse++[((c.toNat:Nat):Int)]:=by simp [nums]
theorem fS9 (x:Int) (c:UInt8):fd x ((c.toNat:Nat):Int)=if c=88 then x - 48 else dv c:=by
 unfold fd dv;by_cases h:c=88
 ·simp [h]
 ·have:¬((c.toNat:Nat):Int)=88:=λe=>h (gG.1 (by simpa using (by omega:c.toNat=88)));rw [ab this,ab h]
theorem zK:∀(r:aa),fval 48 (nums r.reverse)=nth r 0
 | []=>rfl
 | c::r=>by
  rw [EO,yi,zK r,fS9];simp only [nth];split<;>simp
theorem ub:∀(r:aa),fval 57 (nums r.reverse)=nth r (10 ^ cnt r - 1)
 | []=>rfl
 | c::r=>by
  have hp:=uC (cnt r);rw [EO,yi,ub r,fS9];simp only [nth,cnt];split
  ·rw [iP];have a:(10*(10:Int) ^ cnt r - 1) / 10=10 ^ cnt r - 1:=by omega
   have b:(10*(10:Int) ^ cnt r - 1)%10=9:=by omega
   rw [a,b];omega
  ·rfl
theorem Xi {m:aa} (a:∀c∈m,okB c=true) {x:Int} (hx:48<=x/\x<58):∀c∈m,0<=fd x ((c.toNat:Nat):Int)/\fd x ((c.toNat:Nat):Int)<10:=by
 intro c hc;rw [fS9];have:=Ae a c (FN.2 hc);split
 ·omega
 ·rename_i h;exact this.resolve_left h
theorem OV {m:aa} (c:chk m=0):qa 20000000 m=some (nth m.reverse 0,0):=by
 obtain ⟨b,_,a⟩:=og c;have d:((0:Int) != 0)=false:=by simp
 have:=zK m.reverse;rw [yO] at this;simp only [qa,lT 20000000 m (by omega),c,ob,d,af,xR m 48 b (Xi a (by omega)),this]
theorem Gm {m:aa} (c:chk m=0):lS 20000000 m=some (nth m.reverse (10 ^ cnt m - 1),0):=by
 obtain ⟨b,_,a⟩:=og c;have d:((0:Int) != 0)=false:=by simp
 have:=ub m.reverse;rw [yO,sY] at this;simp only [lS,lT 20000000 m (by omega),c,ob,d,af,xR m 57 b (Xi a (by omega)),this]
theorem QJ {m:aa} {l:List Int} (z:List Int) (b:m.length<=18) (g:l.length=m.length) (d:∀y∈l,48<=y/\y<58):gz 20000000 m (over z 0 l)=some (fval 0 l):=by
 have f:List.take m.length (over z 0 l)=l:=by
  unfold over;rw [mM,dJ,vq (by omega),jf (by omega)]
 have e:nums (ic l)=l:=zG l λy hy=>by have:=d y hy;omega
 have h:(ic l).length=m.length:=by simp [ic,g]
 simp only [gz,cM b,ob,dk,show Nat.ble m.length 18=true from cT b,ah,cw,f];rw [xR (ic l) 0 (by omega) ?_,e];intro c hc;have a:((c.toNat:Nat):Int)∈l:=by rw [<-e];exact ej.2 ⟨c,hc,rfl⟩
 have:=d _ a;unfold fd;rw [ab (by omega)];omega
theorem He {m:aa} (d:chk m=0) {i:Int} (c:0<=i):hasM m (nth m.reverse i)=true:=by
 obtain ⟨e,_,a⟩:=og d;have b:=qV (Ae a) i c;rw [vr] at b;rw [GI,MZ (Ae a) i c,am b.1,am b.2];rfl
def vl:List Int->Int
 | []=>0
 | y::l=>(y - 48)*10 ^ l.length+vl l
def digl (l:List Int):Prop:=∀y∈l,48<=y/\y<58
theorem dA {y:Int} {l:List Int} (h:digl (y::l)):digl l:=λx hx=>h x (fi _ hx)
theorem wk:∀{l:List Int},digl l->0<=vl l/\vl l<10 ^ l.length
 | [],_=>by simp [vl]
 | y::l,h=>by
  have ih:=wk (dA h);have hy:=h y (by simp);have hp:=uC l.length;simp only [vl,aE,iP];have a1:0<=(y - 48)*10 ^ l.length:=Int.mul_nonneg (by omega) (by omega);have a2:(y - 48)*10 ^ l.length<=9*10 ^ l.length:=Rr (by omega) (by omega);omega
theorem TQ {y z:Int} {a b:List Int} (c:a.length=b.length) (d:digl a) (e:digl b) (h:y<z):vl (y::a)<vl (z::b):=by
 have g:=wk d;have f:=wk e;have hp:=uC a.length;simp only [vl];rw [<-c] at f ⊢;have a2:(y - 48+1)*10 ^ a.length<=(z - 48)*10 ^ a.length:=Rr (by omega) (by omega);rw [Int.add_mul] at a2;omega
theorem AN:∀{l:List Int},digl l->fval 0 l=vl l
 | [],_=>rfl
 | y::l,h=>by
  have hy:=h y (by simp);have e:fval 0 (y::l)=l.foldl (λn y=>10*n+fd 0 y) (10*0+fd 0 y):=rfl;have a:fd 0 y=y - 48:=by unfold fd;rw [ab (by omega)]
  rw [e,Cd,AN (dA h),a];simp only [vl,Int.mul_zero,Int.zero_add]
theorem NI {l:List Int} {y:Int} (h:digl (l++[y])):vl (l++[y])=10*vl l+(y - 48):=by
 have hy:=h y (by simp);have a:digl l:=λx hx=>h x (by simp [hx]);rw [<-AN h,<-AN a,yi];unfold fd;rw [ab (by omega)]
theorem OG:∀(L:Nat) (k:Int),0<=k->k<10 ^ L->vl (dg L k)=k
 | 0,k,c,a=>by simp at a;simp [dg,vl];omega
 | L+1,k,c,a=>by
  rw [iP] at a;have:=OG L (k / 10) (by omega) (by omega);have b:=uF (L+1) k;simp only [dg] at b ⊢;rw [NI b,this];omega
theorem Yc {l:List Int} (h:digl l):dg l.length (vl l)=l:=by
 have c:∀(r:List Int),digl r.reverse->dg r.length (vl r.reverse)=r.reverse:=by
  intro r
  induction r with
  | nil=>intro _;rfl
  | cons y r ih=>
   intro h;simp only [List.reverse_cons,aE] at h ⊢;have hy:=h y (by simp);rw [NI h];simp only [dg];have a:(10*vl r.reverse+(y - 48)) / 10=vl r.reverse:=by omega
   have b:48+(10*vl r.reverse+(y - 48))%10=y:=by omega
   rw [a,b,ih λx hx=>h x (mJ.2 (.inl hx))]
 have:=c l.reverse (by rw [yO];exact h);rwa [yO,vr] at this
def fst (up:Bool):Int:=cond up 48 57
def lst (up:Bool):Int:=cond up 57 48
def stp (up:Bool) (y:Int):Int:=cond up (y+1) (y - 1)
def fil (up:Bool) (m:aa):List Int:=m.map λc=>cond (decide (c=88)) (fst up) ((c.toNat:Nat):Int)
def nx (up:Bool):aa->List Int->Option (List Int)
 | c::m,y::l=>
  if c=88 then
   match nx up m l with
   | some r=>some (y::r)
   | none=>if y=lst up then none else some (stp up y::fil up m)
  else if ((c.toNat:Nat):Int)=y then (nx up m l).map λr=>y::r
  else if decide (((c.toNat:Nat):Int)>y)=up then some (((c.toNat:Nat):Int)::fil up m) else none
 | _,_=>some []
def okM (m:aa):Prop:=∀c∈m,okB c=true
theorem sc {c:UInt8} {m:aa} (h:okM (c::m)):okM m:=λx hx=>h x (fi _ hx)
theorem GR {c:UInt8} (h:okB c=true) (a:¬c=88):48<=((c.toNat:Nat):Int)/\((c.toNat:Nat):Int)<58:=by
 simp only [okB,g9,bu,aA,cn] at h;have:¬c.toNat=88:=λe=>a (gG.1 (by simpa using e));omega
theorem BP (up:Bool) (m:aa):(fil up m).length=m.length:=by simp [fil]
theorem MW (up:Bool) {m:aa} (h:okM m):digl (fil up m):=by
 intro y hy;obtain ⟨c,hc,rfl⟩:=ej.1 hy;by_cases a:c=88
 ·simp only [am a,ah];cases up<;>simp [fst]
 ·simp only [ar a,af];exact GR (h c hc) a
theorem xU (up:Bool):∀(m:aa),jy m (fil up m)=true
 | []=>rfl
 | c::m=>by
  have:=xU up m;simp only [fil,fV,jy] at this ⊢;rw [this];by_cases a:c=88
  ·simp [a]
  ·simp [a]
def fj (up:Bool) (a b:Int):Prop:=match up with | true=>a<=b | false=>b<=a
theorem Bn (up:Bool):∀{m:aa} {e:List Int},okM m->m.length=e.length->digl e->jy m e=true->fj up (vl (fil up m)) (vl e)
 | [],[],_,_,_,_=>by cases up<;>simp [fil,vl,fj]
 | c::m,y::e,l,i,j,k=>by
  simp only [aE,xz] at i;simp only [jy,aA,g9,bu,cn] at k;have ih:=Bn up (sc l) i (dA j) k.2;have hy:=j y (by simp);have f:=BP up m;have n:=MW up (sc l);have a:∀z:Int,vl (z::fil up m)=(z - 48)*10 ^ m.length+vl (fil up m):=λz=>by rw [vl,f]
  have b:fil up (c::m)=(cond (decide (c=88)) (fst up) ((c.toNat:Nat):Int))::fil up m:=rfl;rw [b];by_cases g:c=88
  ·simp only [am g,ah];by_cases d:y=fst up
   ·rw [<-d,a,vl,<-i];cases up<;>simp only [fj] at ih ⊢<;>omega
   ·cases up
    ·exact Int.le_of_lt (TQ (by rw [f,i]) (dA j) n (by simp [fst] at d ⊢;omega))
    ·exact Int.le_of_lt (TQ (by rw [f,i]) n (dA j) (by simp [fst] at d ⊢;omega))
  ·simp only [ar g,af];rw [k.1.resolve_left g,a,vl,<-i];cases up<;>simp only [fj] at ih ⊢<;>omega
 | [],_::_,_,h,_,_=>by simp at h
 | _::_,[],_,h,_,_=>by simp at h
theorem Sj (up:Bool):∀{m:aa} {l:List Int},okM m->m.length=l.length->digl l->
  match nx up m l with
  | some r=>r.length=m.length/\digl r/\jy m r=true/\fj up (vl l) (vl r)/\∀e,e.length=m.length->digl e->jy m e=true->fj up (vl l) (vl e)->fj up (vl r) (vl e)
  | none=>∀e,e.length=m.length->digl e->jy m e=true->¬fj up (vl l) (vl e)
 | [],[],_,_,_=>by
  simp only [nx];refine ⟨rfl,by intro y hy;simp at hy,rfl,by cases up<;>simp [fj],?_⟩;intro e E _ _ _;simp only [bH] at E;rw [ur E];cases up<;>simp [fj]
 | c::m,y::l,L,t,Q=>by
  simp only [aE,xz] at t;have ih:=Sj up (sc L) t (dA Q);have hy:=Q y (by simp);have x:=dA Q;have s:=BP up m;have B:=MW up (sc L);have M:∀{z w:Int} {a b:List Int},a.length=m.length->b.length=m.length->digl a->digl b->z<w->vl (z::a)<vl (w::b):=λE J P O R=>TQ (by rw [E,J]) P O R;have f:∀(z:Int) {a b:List Int},a.length=m.length->b.length=m.length->(fj up (vl (z::a)) (vl (z::b))↔fj up (vl a) (vl b)):=λz a b E J=>by
   simp only [vl,E,J];cases up<;>simp only [fj]<;>omega
  have q:∀{z w:Int} {a b:List Int},a.length=m.length->b.length=m.length->digl a->digl b->z≠w->(fj up (vl (z::a)) (vl (w::b))↔fj up z w):=λ{z w a b} E J P O R=>by
   rcases Int.lt_trichotomy z w with h | h | h
   ·have:=M E J P O h;cases up<;>simp only [fj]<;>omega
   ·exact absurd h R
   ·have:=M J E O P h;cases up<;>simp only [fj]<;>omega
  have d:∀e:List Int,e.length=(c::m).length->∃w a,e=w::a/\a.length=m.length:=λe h=>by
   match e,h with
   | w::a,h=>exact ⟨w,a,rfl,by simpa using h⟩
  by_cases g:c=88
  ·cases D:nx up m l with
   | some r=>
    rw [D] at ih;obtain ⟨H,N,V,T,S⟩:=ih;simp only [nx,ae g,D];refine ⟨by simp [H],λz u=>?_,by simp [jy,g,V],(f y t.symm H).2 T,λe v j p o=>?_⟩
    ·rcases cf.1 u with rfl | u
     ·exact hy
     ·exact N z u
    ·obtain ⟨w,a,rfl,i⟩:=d e v;simp only [jy,g,xP,EI,mN] at p;by_cases C:y=w
     ·subst C;exact (f y H i).2 (S a i (dA j) p ((f y t.symm i).1 o))
     ·exact (q H i N (dA j) C).2 ((q t.symm i x (dA j) C).1 o)
   | none=>
    rw [D] at ih;by_cases k:y=lst up
    ·simp only [nx,ae g,D,ae k];intro e v j p o;obtain ⟨w,a,rfl,i⟩:=d e v;simp only [jy,g,xP,EI,mN] at p;have Z:=j w (by simp);by_cases C:y=w
     ·subst C;exact ih a i (dA j) p ((f y t.symm i).1 o)
     ·have:=(q t.symm i x (dA j) C).1 o;cases up<;>simp only [fj,lst,ah,af] at this k<;>omega
    ·simp only [nx,ae g,D,ab k];have hs:48<=stp up y/\stp up y<58/\y≠stp up y/\fj up y (stp up y)/\∀w,w≠y->fj up y w->fj up (stp up y) w:=by
      cases up<;>simp only [fj,lst,stp,ah,af] at k ⊢<;>exact ⟨by omega,by omega,by omega,by omega,λw E J=>by omega⟩
     obtain ⟨s1,s2,Y,X,W⟩:=hs;refine ⟨by simp [s],λz u=>?_,by simp [jy,g,xU],(q t.symm s x B Y).2 X,λe v j p o=>?_⟩
     ·rcases cf.1 u with rfl | u
      ·exact ⟨s1,s2⟩
      ·exact B z u
     ·obtain ⟨w,a,rfl,i⟩:=d e v;simp only [jy,g,xP,EI,mN] at p;by_cases C:y=w
      ·subst C;exact absurd ((f y t.symm i).1 o) (ih a i (dA j) p)
      ·have h9:=W w (λh=>C h.symm) ((q t.symm i x (dA j) C).1 o);by_cases K:stp up y=w
       ·rw [K];exact (f w s i).2 (Bn up (sc L) i.symm (dA j) p)
       ·exact (q s i B (dA j) K).2 h9
  ·have U:=GR (L c (by simp)) g;have G:∀w a,jy (c::m) (w::a)=true->w=((c.toNat:Nat):Int)/\jy m a=true:=λw a h=>by
    simp only [jy,aA,g9,bu,cn] at h;exact ⟨(h.1.resolve_left g).symm,h.2⟩
   by_cases n:((c.toNat:Nat):Int)=y
   ·cases D:nx up m l with
    | some r=>
     rw [D] at ih;obtain ⟨H,N,V,T,S⟩:=ih;simp only [nx,ab g,ae n,D,fa];refine ⟨by simp [H],λz u=>?_,by simp [jy,n,V],(f y t.symm H).2 T,λe v j p o=>?_⟩
     ·rcases cf.1 u with rfl | u
      ·exact hy
      ·exact N z u
     ·obtain ⟨w,a,rfl,i⟩:=d e v;obtain ⟨rfl,A⟩:=G w a p;rw [n] at o ⊢;exact (f y H i).2 (S a i (dA j) A ((f y t.symm i).1 o))
    | none=>
     rw [D] at ih;simp only [nx,ab g,ae n,D,iU];intro e v j p o;obtain ⟨w,a,rfl,i⟩:=d e v;obtain ⟨rfl,A⟩:=G w a p;rw [n] at o;exact ih a i (dA j) A ((f y t.symm i).1 o)
   ·have I:decide (((c.toNat:Nat):Int)>y)=up↔fj up y ((c.toNat:Nat):Int):=by
     cases up
     ·simp only [vo,fj];omega
     ·simp only [cn,fj];omega
    by_cases F:decide (((c.toNat:Nat):Int)>y)=up
    ·simp only [nx,ab g,ab n,ae F];refine ⟨by simp [s],λz u=>?_,by simp [jy,xU],(q t.symm s x B (λh=>n h.symm)).2 (I.1 F),λe v j p o=>?_⟩
     ·rcases cf.1 u with rfl | u
      ·exact U
      ·exact B z u
     ·obtain ⟨w,a,rfl,i⟩:=d e v;obtain ⟨rfl,A⟩:=G w a p;exact (f _ s i).2 (Bn up (sc L) i.symm (dA j) A)
    ·simp only [nx,ab g,ab n,ab F];intro e v j p o;obtain ⟨w,a,rfl,i⟩:=d e v;obtain ⟨rfl,A⟩:=G w a p;exact F (I.2 ((q t.symm i x (dA j) (λh=>n h.symm)).1 o))
 | [],_::_,_,h,_=>by simp at h
 | _::_,[],_,h,_=>by simp at h
def ap:aa->List Int->Nat
 | c::m,y::l=>if c=88\/((c.toNat:Nat):Int)=y then ap m l+1 else 0
 | _,_=>0
theorem WB:∀(m:aa) (l:List Int),ap m l<=m.length
 | [],_=>by simp [ap]
 | c::m,[]=>by simp [ap]
 | c::m,y::l=>by
  have:=WB m l;simp only [ap,aE];split<;>omega
theorem NH:∀(m:aa) (l:List Int),jy (m.take (ap m l)) (l.take (ap m l))=true
 | [],_=>by simp [ap,jy]
 | c::m,[]=>by simp [ap,jy]
 | c::m,y::l=>by
  have:=NH m l;simp only [ap];split
  ·rename_i h;simp only [mK,jy,this,EF,g9,bu,cn];exact h
  ·rfl
theorem JV:∀{m:aa} {l:List Int} {c:UInt8} {y:Int},m[ap m l]?=some c->l[ap m l]?=some y->¬c=88/\¬((c.toNat:Nat):Int)=y
 | [],_,c,y,h,_=>by simp at h
 | x::m,[],c,y,_,h=>by simp at h
 | x::m,z::l,c,y,b,a=>by
  by_cases h:x=88\/((x.toNat:Nat):Int)=z
  ·simp only [ap,ae h,G3] at b a;exact JV b a
  ·simp only [ap,ab h,mz,av] at b a;subst b a;exact ⟨λe=>h (.inl e),λe=>h (.inr e)⟩
def bkn (up:Bool):aa->List Int->aa->Option (List Int)
 | c::m,y::d,m'=>
  match bkn up m d m' with
  | some r=>some (y::r)
  | none=>if c=88/\y≠lst up then some (stp up y::fil up (m++m')) else none
 | _,_,_=>none
theorem CQ (up:Bool):∀{m m':aa} {d d':List Int},m.length=d.length->jy m d=true->
  nx up (m++m') (d++d')=match nx up m' d' with | some r=>some (d++r) | none=>bkn up m d m'
 | [],m',[],d',_,_=>by
  simp only [dJ];cases nx up m' d'<;>rfl
 | c::m,m',y::d,d',e,b=>by
  simp only [aE,xz] at e;simp only [jy,aA,g9,bu,cn] at b;have ih:=CQ up (m':=m') (d':=d') e b.2;simp only [eW,nx,ih,bkn];by_cases a:c=88
  ·simp only [ae a];cases nx up m' d' with
   | some r=>rfl
   | none=>
    cases bkn up m d m' with
    | some r=>rfl
    | none=>
     by_cases hy:y=lst up
     ·simp [hy]
     ·simp [hy,a]
  ·simp only [ab a,ae (b.1.resolve_left a)];cases nx up m' d' with
   | some r=>rfl
   | none=>
    cases bkn up m d m' with
    | some r=>rfl
    | none=>simp [a]
 | [],_,_::_,_,h,_=>by simp at h
 | _::_,_,[],_,h,_=>by simp at h
theorem IA (up:Bool) (c:UInt8) (y:Int):∀{m m':aa} {d:List Int},m.length=d.length->
  bkn up (m++[c]) (d++[y]) m'=if c=88/\y≠lst up then some (d++stp up y::fil up m') else bkn up m d (c::m')
 | [],m',[],_=>by simp [bkn]
 | x::m,m',z::d,a=>by
  simp only [aE,xz] at a;have ih:=IA up c y (m':=m') a;simp only [eW,bkn,ih];by_cases h:c=88/\y≠lst up
  ·simp only [ae h]
  ·simp only [ab h,fK,eW,dJ]
 | [],_,_::_,h=>by simp at h
 | _::_,_,[],h=>by simp at h
def bki (up:Bool) (m:aa) (l:List Int):Nat->Option Nat
 | 0=>none
 | j+1=>if m[j]?=some 88/\l[j]?≠some (lst up) then some j else bki up m l j
theorem Q3 (up:Bool) (m:aa) (l:List Int):∀{j a:Nat},bki up m l j=some a->a<j
 | 0,a,h=>by simp [bki] at h
 | j+1,a,h=>by
  simp only [bki] at h;split at h
  ·simp only [av] at h;omega
  ·have:=Q3 up m l h;omega
theorem G2 (up:Bool) (m:aa) (l:List Int) (d:m.length=l.length):∀j,j<=m.length->
  bkn up (m.take j) (l.take j) (m.drop j)=(bki up m l j).map λa=>l.take a++stp up (l.getD a 0)::fil up (m.drop (a+1))
 | 0,_=>by simp [bkn,bki]
 | j+1,h=>by
  obtain ⟨c,hc⟩:∃c,m[j]?=some c:=⟨m[j]'(by omega),bh (by omega)⟩;obtain ⟨y,hy⟩:∃c,l[j]?=some c:=⟨l[j]'(by omega),bh (by omega)⟩;have ih:=G2 up m l d j (by omega);rw [cA hc] at ih;rw [rt,rt,hc,hy];simp only [Option.toList_some];rw [IA up c y (by simp;omega),ih];have e:l.getD j 0=y:=by rw [EK,hy];rfl
  simp only [bki,hc,hy,ne_eq,av];by_cases b:c=88/\¬y=lst up
  ·rw [ae b,ae b,fa,e]
  ·rw [ab b,ab b]
section
variable {m:List UInt8} {l z:List Int}
theorem mf (A:m.length=l.length) (v:m.length<=18) (k f g:Int) (up:Bool):
  au (fL 20000000) 20000000 (m,k,up,f,g,0,over z 0 l,over z 0 l)=some (m,k,up,f,g,((ap m l:Nat):Int),over z 0 l,over z 0 l):=by
 have:=fP (step:=fL 20000000) (λx=>x.1=m/\(0<=x.2.2.2.2.2.1/\x.2.2.2.2.2.1<=m.length)/\x.2.2.2.2.2.2.1=over z 0 l) (λx=>m.length - x.2.2.2.2.2.1.toNat)
  (λx=>(x.1,x.2.1,x.2.2.1,x.2.2.2.1,x.2.2.2.2.1,x.2.2.2.2.2.1+((ap (m.drop x.2.2.2.2.2.1.toNat) (l.drop x.2.2.2.2.2.1.toNat):Nat):Int),x.2.2.2.2.2.2.1,x.2.2.2.2.2.2.2)) ?_ 20000000 (m,k,up,f,g,0,over z 0 l,over z 0 l) ⟨rfl,⟨by simp,by simp⟩,rfl⟩ (by simp;omega)
 ·simpa using this
 rintro ⟨m',k,up,f,g,i,d,o⟩ ⟨s,⟨w,hi⟩,r⟩;simp only at s w hi r ⊢;subst s r;obtain ⟨j,rfl⟩:∃j:Nat,i=j:=⟨i.toNat,by omega⟩;simp only [bR];rcases aH j m'.length with p | q
 ·obtain ⟨c,hc⟩:∃c,m'[j]?=some c:=⟨m'[j],bh p⟩;obtain ⟨y,hy⟩:∃c,l[j]?=some c:=⟨l[j]'(by omega),bh (by omega)⟩;have u:(over z 0 l)[j]?=some y:=by rw [wa (by omega)];exact hy
  have n:(decide ((j:Int)<((List.length m':Nat):Int)))=true:=by simp;omega
  have t:IntKind.wrap .i64 ((j:Int)+1)=((j+1:Nat):Int):=by rw [wrap_i64 _ (by omega) (by omega)];omega
  rw [cA hc,cA hy];simp only [fL,n,ah,eG hc,ob,A6,t,dY (show j<18 by omega),u,ap];by_cases b:c=88
  ·refine .inl ⟨(m',k,up,f,g,((j+1:Nat):Int),over z 0 l,o),by simp only [am b,ah],⟨rfl,⟨by simp only;omega,by simp only;omega⟩,rfl⟩,by simp only [bR];omega,?_⟩;simp only [bR,ae (show c=88\/((c.toNat:Nat):Int)=y from .inl b)];congr 6;omega
  ·simp only [ar b,af];by_cases a:((c.toNat:Nat):Int)=y
   ·have e:(((c.toNat:Nat):Int)==y)=true:=by simpa using a
    refine .inl ⟨(m',k,up,f,g,((j+1:Nat):Int),over z 0 l,o),by simp only [e,ah],⟨rfl,⟨by simp only;omega,by simp only;omega⟩,rfl⟩,by simp only [bR];omega,?_⟩;simp only [bR,ae (show c=88\/((c.toNat:Nat):Int)=y from .inr a)];congr 6;omega
   ·have e:(((c.toNat:Nat):Int)==y)=false:=by simpa using a
    refine .inr ?_;simp only [e,af,ab (show ¬(c=88\/((c.toNat:Nat):Int)=y) from λh=>h.elim b a),Int.ofNat_zero,Int.add_zero,Int.natCast_zero]
 ·have n:(decide ((j:Int)<((List.length m':Nat):Int)))=false:=by simp;omega
  refine .inr ?_;simp only [fL,n,af];rw [jE q];simp [ap]
theorem Kq (A:m.length=l.length) (t:m.length<=18) (f:Int) (up:Bool) (o:List Int) (i:Nat) (hi:i<=m.length):
  au (cE 20000000) 20000000 (m,up,f,lst up,(i:Int),over z 0 l,o) =
   some (match bki up m l i with | none=>.inl (0,16) | some a=>.inr (m,up,f,((a:Nat):Int),o)):=by
 have:=fP (step:=cE 20000000) (λx=>x.1=m/\x.2.2.2.1=lst up/\(0<=x.2.2.2.2.1/\x.2.2.2.2.1<=m.length)/\x.2.2.2.2.2.1=over z 0 l) (λx=>x.2.2.2.2.1.toNat)
  (λx=>match bki up m l x.2.2.2.2.1.toNat with | none=>.inl (0,16) | some a=>.inr (x.1,x.2.1,x.2.2.1,((a:Nat):Int),x.2.2.2.2.2.2)) ?_ 20000000 (m,up,f,lst up,(i:Int),over z 0 l,o) ⟨rfl,rfl,⟨by simp only;omega,by simp only;omega⟩,rfl⟩ (by simp;omega)
 ·simpa using this
 rintro ⟨m',n,f,g,i,d,o⟩ ⟨r,p,⟨u,hi⟩,q⟩;simp only at r p u hi q ⊢;subst r q p;obtain ⟨j,rfl⟩:∃j:Nat,i=j:=⟨i.toNat,by omega⟩;simp only [bR];rcases j with _ | j
 ·refine .inr ?_;have w:IntKind.wrap .i64 (((0:Nat):Int) - 1)=-1:=wrap_i64 _ (by omega) (by omega);simp only [cE,w,show decide ((-1:Int)<0)=true from rfl,ah,bki]
 ·have w:IntKind.wrap .i64 (((j+1:Nat):Int) - 1)=(j:Int):=by rw [wrap_i64 _ (by omega) (by omega)];omega
  have v:decide ((j:Int)<0)=false:=by simp
  obtain ⟨c,hc⟩:∃c,m'[j]?=some c:=⟨m'[j]'(by omega),bh (by omega)⟩;obtain ⟨y,hy⟩:∃c,l[j]?=some c:=⟨l[j]'(by omega),bh (by omega)⟩;have s:(over z 0 l)[j]?=some y:=by rw [wa (by omega)];exact hy
  simp only [cE,w,v,af,eG hc,ob,A6,dY (show j<18 by omega),s,bki,hc,hy,av,ne_eq];by_cases b:c=88
  ·by_cases k:y=lst up
   ·have e:(y != lst up)=false:=by simpa using k
    refine .inl ⟨(m',n,f,lst up,(j:Int),over z 0 l,o),by simp only [am b,ah,e,af],⟨rfl,rfl,⟨by simp only;omega,by simp only;omega⟩,rfl⟩,by simp only [bR];omega,?_⟩;simp only [bR,ab (show ¬(c=88/\¬y=lst up) from λh=>h.2 k)]
   ·have e:(y != lst up)=true:=by simpa using k
    refine .inr ?_;simp only [am b,ah,e,ae (show c=88/\¬y=lst up from ⟨b,k⟩)]
  ·refine .inl ⟨(m',n,f,lst up,(j:Int),over z 0 l,o),by simp only [ar b,af],⟨rfl,rfl,⟨by simp only;omega,by simp only;omega⟩,rfl⟩,by simp only [bR];omega,?_⟩;simp only [bR,ab (show ¬(c=88/\¬y=lst up) from λh=>b h.1)]
theorem EW (r:m.length<=18) (up:Bool) (d:List Int) (e:d.length=18) (i:Nat) (hi:i<=m.length):
  au (bB 20000000) 20000000 (m,fst up,(i:Int),d)=some (m,over d i (fil up (m.drop i))):=by
 have:=fP (step:=bB 20000000) (λx=>x.1=m/\x.2.1=fst up/\(0<=x.2.2.1/\x.2.2.1<=m.length)/\x.2.2.2.length=18) (λx=>m.length - x.2.2.1.toNat)
  (λx=>(m,over x.2.2.2 x.2.2.1.toNat (fil up (m.drop x.2.2.1.toNat)))) ?_ 20000000 (m,fst up,(i:Int),d) ⟨rfl,rfl,⟨by simp only;omega,by simp only;omega⟩,e⟩ (by simp;omega)
 ·simpa using this
 rintro ⟨m',f,i,d⟩ ⟨o,l,⟨s,hi⟩,e⟩;simp only at o l s hi e ⊢;subst o l;obtain ⟨j,rfl⟩:∃j:Nat,i=j:=⟨i.toNat,by omega⟩;simp only [bR];rcases aH j m'.length with h | k
 ·obtain ⟨c,hc⟩:∃c,m'[j]?=some c:=⟨m'[j],bh h⟩;have n:j<18:=by omega
  have g:(decide ((j:Int)<((List.length m':Nat):Int)))=true:=by simp;omega
  have p:IntKind.wrap .i64 ((j:Int)+1)=((j+1:Nat):Int):=by rw [wrap_i64 _ (by omega) (by omega)];omega
  have q:Nat.blt j 18=true:=cT n;have b:∀c:UInt8,fil up (c::m'.drop (j+1))=(cond (decide (c=88)) (fst up) ((c.toNat:Nat):Int))::fil up (m'.drop (j+1)):=λ_=>rfl;rw [cA hc,b];simp only [bB,g,ah,eG hc,ob,A6,dY n,q,p];by_cases a:c=88
  ·refine .inl ⟨(m',fst up,((j+1:Nat):Int),(d.set j ((c.toNat:Nat):Int)).set j (fst up)),by simp only [am a,ah],⟨rfl,rfl,⟨by simp only;omega,by simp only;omega⟩,by simpa using e⟩,by simp only [bR];omega,?_⟩;simp only [bR,am a,ah];rw [List.set_set,B8 _ _ _ _ (by omega)]
  ·refine .inl ⟨(m',fst up,((j+1:Nat):Int),d.set j ((c.toNat:Nat):Int)),by simp only [ar a,af],⟨rfl,rfl,⟨by simp only;omega,by simp only;omega⟩,by simpa using e⟩,by simp only [bR];omega,?_⟩;simp only [bR,ar a,af];rw [B8 _ _ _ _ (by omega)]
 ·have g:(decide ((j:Int)<((List.length m':Nat):Int)))=false:=by simp;omega
  refine .inr ?_;simp only [bB,g,af];rw [jE k];simp [fil,HA]
theorem CL (z l F:List Int) (i:Nat) (h:i+F.length=l.length):over (over z 0 l) i F=over z 0 (l.take i++F):=by
 unfold over;simp only [mM,dJ,dk,aR,dq,th (show i<=l.length by omega),h];rw [vq (by omega),List.drop_append_of_le_length (by omega),List.drop_of_length_le (aV l.length)];simp
end
theorem N1 {m:aa} (Z:chk m=0) (up:Bool) (k:Int) (V:0<=k) (h1:k<10 ^ m.length):
  dB 20000000 m k up=some (match nx up m (dg m.length k) with | some r=>(vl r,0) | none=>(0,16)):=by
 obtain ⟨g,_,O⟩:=og Z;have hp:=DN m.length g;have f:=xn m.length k;have n:=uF m.length k;have T:=OG m.length k V h1;have P:=Sj up O f.symm n;have j:=QN m k g V (by omega);generalize dg m.length k=l at f n T P j ⊢;have o:(over [0,0,0,0,0,0,0,0,0,0,0,0,0,0,0,0,0,0] 0 l).length=18:=by rw [PI _ _ _ (by simp;omega)];rfl
 have fin:∀r:List Int,nx up m l=some r->gz 20000000 m (over [0,0,0,0,0,0,0,0,0,0,0,0,0,0,0,0,0,0] 0 r)=some (vl r):=by
  intro r Y;rw [Y] at P;obtain ⟨i1,R,_⟩:=P;rw [QJ _ g i1 R,AN R]
 have u:=WB m l;have D:=NH m l;have b:=CQ up (m:=m.take (ap m l)) (m':=m.drop (ap m l)) (d:=l.take (ap m l)) (d':=l.drop (ap m l)) (by simp;omega) D;rw [tD,tD] at b;have h:lA 20000000 m k=some (over [0,0,0,0,0,0,0,0,0,0,0,0,0,0,0,0,0,0] 0 l):=j;generalize W:([0,0,0,0,0,0,0,0,0,0,0,0,0,0,0,0,0,0]:List Int)=z at o fin h;rcases aH (ap m l) m.length with N | X
 ·obtain ⟨c,hc⟩:∃c,m[ap m l]?=some c:=⟨m[ap m l],bh N⟩;obtain ⟨y,hy⟩:∃c,l[ap m l]?=some c:=⟨l[ap m l]'(by omega),bh (by omega)⟩;obtain ⟨F,Q⟩:=JV hc hy;have B:(over z 0 l)[ap m l]?=some y:=by rw [wa (by omega)];exact hy
  have s:(((ap m l:Nat):Int)==((List.length m:Nat):Int))=false:=by simp;omega
  have A:ap m l<18:=by omega
  have K:fil up (m.drop (ap m l))=((c.toNat:Nat):Int)::fil up (m.drop (ap m l+1)):=by
   rw [cA hc];simp [fil,F]
  have I:=G2 up m l f.symm (ap m l) u;have H:nx up (m.drop (ap m l)) (l.drop (ap m l))=if decide (((c.toNat:Nat):Int)>y)=up then some (fil up (m.drop (ap m l))) else none:=by
   rw [K,cA hc,cA hy];simp only [nx,ab F,ab Q]
  rw [H] at b;by_cases p:decide (((c.toNat:Nat):Int)>y)=up
  ·rw [ae p] at b;simp only at b;have v:=fin _ b;rw [b];simp only [];rw [<-CL z l _ _ (by rw [BP,bP];omega)] at v;have C:=EW g up _ o (ap m l) u;cases up
   ·have i:=mf (z:=z) f.symm g k 57 48 false;have l2':au (bB 20000000) 20000000 (m,57,((ap m l:Nat):Int),over z 0 l)=_:=C;simp only [dB,i7,ah,h,ob,i,s,af,eG hc,dY A,B,p,xP,cZ,l2',v]
   ·have i:=mf (z:=z) f.symm g k 48 57 true;have l2':au (bB 20000000) 20000000 (m,48,((ap m l:Nat):Int),over z 0 l)=_:=C;simp only [dB,cZ,ah,h,ob,i,s,af,eG hc,dY A,B,p,xP,l2',v]
  ·rw [ab p] at b;simp only [I] at b;have q:(!(decide (((c.toNat:Nat):Int)>y)==up))=true:=by
    cases up<;>cases hh:decide (((c.toNat:Nat):Int)>y)<;>simp_all
   have t:=Kq (z:=z) f.symm g (fst up) up (over z 0 l) (ap m l) u;cases L:bki up m l (ap m l) with
   | none=>
    rw [L] at b t;simp only [iU] at b;rw [b];simp only [] at t ⊢;cases up
    ·have i:=mf (z:=z) f.symm g k 57 48 false;have l1':au (cE 20000000) 20000000 (m,false,57,48,((ap m l:Nat):Int),over z 0 l,over z 0 l)=_:=t;simp only [dB,i7,ah,h,ob,i,s,af,eG hc,dY A,B,q,l1']
    ·have i:=mf (z:=z) f.symm g k 48 57 true;have l1':au (cE 20000000) 20000000 (m,true,48,57,((ap m l:Nat):Int),over z 0 l,over z 0 l)=_:=t;simp only [dB,cZ,ah,h,ob,i,s,af,eG hc,dY A,B,q,l1']
   | some a=>
    have ha:=Q3 up m l L;obtain ⟨w,G⟩:∃c,l[a]?=some c:=⟨l[a]'(by omega),bh (by omega)⟩;have E:(over z 0 l)[a]?=some w:=by rw [wa (by omega)];exact G
    have M:l.getD a 0=w:=by rw [EK,G];rfl
    have hwr:=n w (fS G);have x:a<18:=by omega
    have S:Nat.blt a 18=true:=cT x;have U:IntKind.wrap .i64 ((a:Int)+1)=((a+1:Nat):Int):=by rw [wrap_i64 _ (by omega) (by omega)];omega
    rw [L] at b t;simp only [fa,M] at b;have v:=fin _ b;rw [b];simp only [] at t ⊢;rw [<-CL z l _ _ (by rw [aE,BP,bP];omega),<-B8 _ _ _ _ (by omega)] at v;have C:=EW g up ((over z 0 l).set a (stp up w)) (by simpa using o) (a+1) (by omega);cases up
    ·have i:=mf (z:=z) f.symm g k 57 48 false;have l1':au (cE 20000000) 20000000 (m,false,57,48,((ap m l:Nat):Int),over z 0 l,over z 0 l)=some (.inr (m,false,57,((a:Nat):Int),over z 0 l)):=t;have l2':au (bB 20000000) 20000000 (m,57,((a+1:Nat):Int),(over z 0 l).set a (w - 1))=_:=C;have J:IntKind.wrap .u8 (w - 1)=w - 1:=ia _ (by omega) (by omega);simp only [dB,i7,ah,h,ob,i,s,af,eG hc,dY A,B,q,l1',dY x,E,S,U,J,l2',v]
    ·have i:=mf (z:=z) f.symm g k 48 57 true;have l1':au (cE 20000000) 20000000 (m,true,48,57,((ap m l:Nat):Int),over z 0 l,over z 0 l)=some (.inr (m,true,48,((a:Nat):Int),over z 0 l)):=t;have l2':au (bB 20000000) 20000000 (m,48,((a+1:Nat):Int),(over z 0 l).set a (w+1))=_:=C;have J:IntKind.wrap .u8 (w+1)=w+1:=ia _ (by omega) (by omega);simp only [dB,cZ,ah,h,ob,i,s,af,eG hc,dY A,B,q,l1',dY x,E,S,U,J,l2',v]
 ·have e:ap m l=m.length:=by omega
  rw [e,sV,<-f,sV,mE] at b;simp only [nx,ln] at b;have s:(((ap m l:Nat):Int)==((List.length m:Nat):Int))=true:=by rw [e];simp
  rw [b];simp only [T];cases up
  ·have i:=mf (z:=z) f.symm g k 57 48 false;simp only [dB,i7,ah,h,ob,i,s]
  ·have i:=mf (z:=z) f.symm g k 48 57 true;simp only [dB,cZ,af,h,ob,i,s,ah]
def near (up:Bool) (m:aa) (k:Int):Option Int->Prop
 | some R=>hasM m R=true/\fj up k R/\∀e,hasM m e=true->fj up k e->fj up R e
 | none=>∀e,hasM m e=true->¬fj up k e
def res (o:Option Int):Int×Int:=match o with | some r=>(r,0) | none=>(0,16)
theorem oI {m:aa} {e:Int} (h:hasM m e=true):(dg m.length e).length=m.length/\digl (dg m.length e)/\jy m (dg m.length e)=true/\vl (dg m.length e)=e/\0<=e/\e<10 ^ m.length:=by
 unfold hasM at h;simp only [aA,cn] at h;exact ⟨xn _ _,uF _ _,h.2.2,OG _ _ h.1 h.2.1,h.1,h.2.1⟩
theorem Ua {m:aa} {r:List Int} (e:r.length=m.length) (c:digl r) (d:jy m r=true):hasM m (vl r)=true:=by
 have a:=wk c;have b:=Yc c;rw [e] at a b;unfold hasM;rw [b,d,am a.1,am a.2];rfl
theorem wU {m:aa} (l:chk m=0) (up:Bool) (k:Int) (n:0<=k) (q:k<10 ^ m.length):∃o,dB 20000000 m k up=some (res o)/\near up m k o:=by
 obtain ⟨w,_,f⟩:=og l;have a:=Sj up f (xn m.length k).symm (uF m.length k);have c:=OG m.length k n q;refine ⟨(nx up m (dg m.length k)).map vl,?_,?_⟩
 ·rw [N1 l up k n q];cases nx up m (dg m.length k)<;>rfl
 ·cases hx:nx up m (dg m.length k) with
  | none=>
   rw [hx] at a;intro e d h;obtain ⟨g,j,i,b,_⟩:=oI d;exact a _ g j i (by rw [c,b];exact h)
  | some r=>
   rw [hx] at a;obtain ⟨s,t,v,p,u⟩:=a;refine ⟨Ua s t v,by rw [c] at p;exact p,λe d h=>?_⟩;obtain ⟨g,j,i,b,_⟩:=oI d;have:=u _ g j i (by rw [c,b];exact h);rwa [b] at this
theorem HS {m:aa} {e:Int} (h:hasM m e=true):0<=idx m.reverse e/\idx m.reverse e<10 ^ cnt m/\nth m.reverse (idx m.reverse e)=e:=by
 rw [GI] at h;simp only [aA,cn] at h;obtain ⟨k0,k1,k2⟩:=h;have:=xQ m.reverse e k0;rw [sY] at this;exact ⟨this.1,this.2,Nr k0 (by rw [vr];exact k1) k2⟩
section
variable {m:List UInt8} (hm:chk m=0)
include hm
theorem KH {i j:Int} (c:0<=i) (e:i<=j) (b:j<10 ^ cnt m):nth m.reverse i<=nth m.reverse j:=by
 obtain ⟨d,_,a⟩:=og hm;rcases Int.lt_or_eq_of_le e with h | rfl
 ·exact Int.le_of_lt (BI (Ae a) i j c h (by rw [sY];exact b))
 ·exact zT _
theorem Eo (k:Int):md 20000000 m k=some (decide (0<=k/\k<10 ^ m.length)):=by
 obtain ⟨b,_,c⟩:=og hm;simp only [md,Qv m.length b,ob];by_cases a:0<=k
 ·have d0:decide (k>=0)=true:=by simpa using a
  simp only [d0,ah,a,jG,oy]
 ·have d0:decide (k>=0)=false:=by simpa using a
  simp only [d0,af,a,xw,nH]
theorem MK (k:Int):∃o,so 20000000 m k=some (res o)/\near true m k o:=by
 obtain ⟨n,_,a⟩:=og hm;have p:((0:Int) != 0)=false:=by simp
 simp only [so,lT 20000000 m (by omega),hm,mX,p,af,Eo hm];by_cases c:k<0
 ·refine ⟨some (nth m.reverse 0),by simp only [am c,ah,OV hm,mX,res],He hm (by omega),?_,λe d f=>?_⟩
  ·have:=(qV (Ae a) 0 (by omega)).1;simp only [fj];omega
  ·obtain ⟨l,j,r⟩:=HS d;have:=KH hm (zT 0) l j;simp only [fj];omega
 ·by_cases b:k<10 ^ m.length
  ·obtain ⟨o,g,q⟩:=wU hm true k (by omega) b;exact ⟨o,by simp only [ar c,af,am (show 0<=k/\k<10 ^ m.length from ⟨by omega,b⟩),cZ,g,mX],q⟩
  ·refine ⟨none,by simp only [ar c,af,ar (show ¬(0<=k/\k<10 ^ m.length) from λh=>b h.2),i7,ah,res],λe d f=>?_⟩;obtain ⟨_,_,_,_,_,i⟩:=oI d;simp only [fj] at f;omega
theorem MI (k:Int):∃o,rS 20000000 m k=some (res o)/\near false m k o:=by
 obtain ⟨n,_,a⟩:=og hm;have p:((0:Int) != 0)=false:=by simp
 simp only [rS,lT 20000000 m (by omega),hm,mX,p,af,Eo hm];by_cases b:k<0
 ·refine ⟨none,by simp only [am b,ah,res],λe c f=>?_⟩;obtain ⟨_,_,_,_,i,_⟩:=oI c;simp only [fj] at f;omega
 ·by_cases d:k<10 ^ m.length
  ·obtain ⟨o,j,g⟩:=wU hm false k (by omega) d;exact ⟨o,by simp only [ar b,af,am (show 0<=k/\k<10 ^ m.length from ⟨by omega,d⟩),cZ,j,mX],g⟩
  ·have q:=uC (cnt m);refine ⟨some (nth m.reverse (10 ^ cnt m - 1)),by simp only [ar b,af,ar (show ¬(0<=k/\k<10 ^ m.length) from λh=>d h.2),i7,ah,Gm hm,mX,res],He hm (by omega),?_,λe c f=>?_⟩
   ·have:=(qV (Ae a) (10 ^ cnt m - 1) (by omega)).2;rw [vr] at this;simp only [fj];omega
   ·obtain ⟨l,r,s⟩:=HS c;have:=KH hm l (show idx m.reverse e<=10 ^ cnt m - 1 by omega) (by omega);simp only [fj];omega
end
end Go.Sh.Mk
namespace Go.Sh
open Go.Abs
def fitN (s:aa) (g:Nat):List Nat:=(List.range' 1 g).filter (agr s)
def tR (l:List Nat):List Int:=l.map λk:Nat=>(k:Int)
theorem Dk (l:List Nat):(tR l).length=l.length:=by simp [tR]
theorem DK (c:UInt8) {j:Nat} (a:j<10):(IntKind.wrap .i64 (IntKind.wrap .u8 (((c.toNat:Nat):Int) - 48))==((j:Nat):Int))=(c==UInt8.ofNat (48+j)):=by
 have hc:=c.toNat_lt;have b:=AX (((c.toNat:Nat):Int) - 48);rw [wrap_i64 _ (by omega) (by omega),Jh,uy,bu,bu];have d:(UInt8.ofNat (48+j)).toNat=48+j:=by simp;omega
 constructor
 ·intro h;apply gG.1;omega
 ·rintro rfl;omega
theorem MP (n:Nat) (a b:UInt8) {k:Nat} (l:k<=31):kK n [a,b] (k:Int)=some (agr [a,b] k):=by
 have j:IntKind.wrap .i64 (Int.tdiv (k:Int) 10)=((k / 10:Nat):Int):=by
  rw [show Int.tdiv (k:Int) 10=((k / 10:Nat):Int) from rfl,wrap_i64 _ (by omega) (by omega)]
 have g:Int.tmod (k:Int) 10=((k%10:Nat):Int):=rfl;have s0:sx [a,b] 0=some a:=rfl;have d:sx [a,b] 1=some b:=rfl;have c:(88:Int)=((88:Nat):Int):=rfl;unfold kK;simp only [s0,d,ob,j,g];rw [DK a (show k / 10<10 by omega),DK b (show k%10<10 by omega),c,vt (by omega),vt (by omega)];show _=some ((a==UInt8.ofNat 88||a==UInt8.ofNat (48+k / 10))&&(b==UInt8.ofNat 88||b==UInt8.ofNat (48+k%10)));generalize (a==UInt8.ofNat 88)=h;generalize (b==UInt8.ofNat 88)=f;generalize (a==UInt8.ofNat (48+k / 10))=e;generalize (b==UInt8.ofNat (48+k%10))=i;cases h<;>cases f<;>cases e<;>cases i<;>rfl
theorem room {k:Nat} (h:k<=60000000):Nat.ble (k+1) eV=true:=cT (by unfold eV;omega)
theorem H5 {X Y:Type} {step:X->Option (X⊕Y)} {f:Nat->List Int->X} {y:List Int->Y} {p:Nat->Bool} {g:Nat} (e:g<=1000)
  (h:∀i out,i<g->out.length<=1000->step (f i out)=some (.inl (f (i+1) (if p (i+1) then out++[((i+1:Nat):Int)] else out))))
  (c:∀out,step (f g out)=some (.inr (y out))) {N:Nat} (a:g<N):au step N (f 0 [])=some (y (tR ((List.range' 1 g).filter p))):=by
 have d:∀(r i:Nat) (out:List Int),i+r=g->out.length<=i->∀N,r<N->au step N (f i out)=some (y (out++tR ((List.range' (i+1) r).filter p))):=by
  intro r
  induction r with
  | zero=>
   intro i out hi b N a;obtain ⟨N,rfl⟩:∃q,N=q+1:=⟨N - 1,by omega⟩;obtain rfl:i=g:=by omega
   rw [au,c];simp [tR]
  | succ r ih=>
   intro i out hi b N a;obtain ⟨N,rfl⟩:∃q,N=q+1:=⟨N - 1,by omega⟩;rw [au,h i out (by omega) (by omega)];show au step N _=_;by_cases hp:p (i+1)=true
   ·rw [ae hp,ih (i+1) _ (by omega) (by simp;omega) N (by omega),xJ,Rt hp];simp [tR]
   ·rw [ab hp,ih (i+1) _ (by omega) (by omega) N (by omega),xJ,Ri hp]
 have:=d g 0 [] (by omega) (by simp) N a;simpa using this
theorem K6 (n:Nat) (e:100<n) (a b:UInt8) {g:Nat} (h:g<=31):fA n [a,b] (g:Int)=some (tR (fitN [a,b] g)):=by
 unfold fA
 have:=H5 (step:=fZ n) (f:=λi out=>([a,b],(g:Int),(i:Int),out)) (y:=λl=>l) (p:=agr [a,b]) (g:=g) (by omega)
  (λi out hi j=>by
   have c:IntKind.wrap .i64 ((i:Int)+1)=((i+1:Nat):Int):=by rw [wrap_i64 _ (by omega) (by omega)];omega
   unfold fZ;simp only [c];rw [am (show (i:Int)<(g:Int) by omega),MP n a b (by omega),room (by omega)];by_cases hp:agr [a,b] (i+1)=true
   ·rw [ae hp];simp only [ob,hp,ah]
   ·rw [ab hp];rw [GV] at hp;simp only [ob,hp,ah,af])
  (λout=>by
   unfold fZ;simp only [ar (show ¬(g:Int)<(g:Int) by omega),af])
  (N:=n) (by omega)
 have d:au (fZ n) n ([a,b],(g:Int),0,([]:List Int))=_:=this;rw [d];rfl
def monI (m:aa):List Int:=if m=[] then [0] else if 0<sea m then [sea m] else tR (fitN m 12)
def dayI (d:aa):List Int:=if d=[] then [0] else tR (fitN d 31)
theorem f7 {l:aa} (h:l≠[]):(l==([]:aa))=false:=aK.2 h
theorem len2 {s:aa} (h:s.length=2):∃a b,s=[a,b]:=by
 match s,h with
 | [a,b],_=>exact ⟨a,b,rfl⟩
theorem Yr (n:Nat) (j:100<n) (g l:Bool) (dg:aa) (x q:Int) (m d:aa) (k0 k1 k2:Int) (k:m=[]\/m.length=2) (p:d=[]\/d.length=2):
  qj n g l dg x q m d k0 k1 k2=some (g,l,dg,x,q,m,d,k0,k1,k2,monI m,dayI d):=by
 have f:m.length<=18:=by rcases k with h | h;(rw [h];simp);omega
 have i:d≠[]->fA n d 31=some (dayI d):=λh=>by
  obtain ⟨a,b,rfl⟩:=len2 (p.resolve_left h);rw [show (31:Int)=((31:Nat):Int) from rfl,K6 n j a b (by omega)];unfold dayI;rw [ab h]
 have e:d=[]->dayI d=[0]:=λh=>by unfold dayI;rw [ae h]
 have o:m≠[]->¬0<sea m->fA n m 12=some (monI m):=λh hs=>by
  obtain ⟨a,b,rfl⟩:=len2 (k.resolve_left h);rw [show (12:Int)=((12:Nat):Int) from rfl,K6 n j a b (by omega)];unfold monI;rw [ab h,ab hs]
 unfold qj;rw [pF n g l dg x q m d k0 k1 k2 f];simp only [ob];by_cases hs:0<sea m
 ·have c:m≠[]:=by rintro rfl;exact absurd hs (by decide)
  have hm':monI m=[sea m]:=by unfold monI;rw [ab c,ae hs]
  rw [am hs];by_cases h:d=[]
  ·rw [h,<-h,e h,hm',h];rfl
  ·rw [f7 h,i h,hm'];rfl
 ·rw [ar hs];by_cases c:m=[]
  ·have hm':monI m=[0]:=by unfold monI;rw [ae c]
   by_cases h:d=[]
   ·rw [e h,hm',h,c];rfl
   ·rw [f7 h,i h,hm',c];rfl
  ·rw [f7 c,o c hs];by_cases h:d=[]
   ·rw [e h,h];rfl
   ·rw [f7 h,i h];rfl
theorem Jg (n:Nat) (b:100<n) (g l:Bool) (dg:aa) (x q:Int) (m d:aa) (k0 k1 k2:Int):jv n g l dg x q m d k0 k1 k2=some (monI m):=by
 unfold jv;by_cases a:m=[]
 ·unfold monI;rw [ae a,a];rfl
 ·rw [f7 a,nE n b];simp only [ob,af];unfold monI;rw [ab a];by_cases hs:0<sea m
  ·rw [ae hs,am (show sea m>0 from hs)];rfl
  ·rw [ab hs,ar (show ¬sea m>0 from hs)]
   have:=H5 (step:=dS n) (f:=λi out=>(((i+1:Nat):Int),g,l,dg,x,q,m,d,k0,k1,k2,out)) (y:=λl=>l) (p:=agr m) (g:=12) (by omega)
    (λi out hi h=>by
     have c:IntKind.wrap .i64 (((i+1:Nat):Int)+1)=((i+1+1:Nat):Int):=by rw [wrap_i64 _ (by omega) (by omega)];omega
     unfold dS;simp only [d4,d8,c];rw [am (show ((i+1:Nat):Int)<=12 by omega),uP n m (i+1) (by omega),room (by omega)];by_cases hp:agr m (i+1)=true
     ·rw [ae hp,ae hp];rfl
     ·rw [ab hp,ab hp];rfl)
    (λout=>by
     unfold dS;simp only [d4,d8,ar (show ¬((12+1:Nat):Int)<=12 by omega),af])
    (N:=n) (by omega)
   have e:au (dS n) n (1,g,l,dg,x,q,m,d,k0,k1,k2,([]:List Int))=_:=this;rw [e];rfl
def tQ (y:Int):Bool:=decide (y%4=0)&&(decide (y%100≠0)||decide (y%400=0))
def lenI (y m:Int):Int:=if m=4\/m=6\/m=9\/m=11 then 30 else if m=2 then (if tQ y then 29 else 28) else 31
theorem KQ (y:Int) {b:Int} (c:0<b):(Int.tmod y b==0)=decide (y%b=0):=by
 rw [uy,bu,decide_eq_true_iff];have h:=JW (a:=y) (b:=b);have g:=Lu y (show b≠0 by omega);have f:=LY y c;by_cases hc:0<=y\/b∣y
 ·rw [ae hc] at h;omega
 ·rw [ab hc] at h;have d:¬b∣y:=λe=>hc (.inr e);have:y%b≠0:=λe=>d (KG e);omega
theorem Cj (n:Nat) (y m:Int):eJ n y m=some (lenI y m):=by
 have a:(Int.tmod y 100 != 0)=decide (y%100≠0):=by
  rw [bne,KQ y (by omega)];by_cases h:y%100=0<;>simp [h]
 unfold eJ;rw [KQ y (by omega),KQ y (by omega),a];have body:(cond (m==2) (cond (decide (y%4=0)) (cond (decide (y%100≠0)) (some (29:Int)) (cond (decide (y%400=0)) (some 29) (some 28))) (some 28)) (some 31))=some (if m=2 then (if tQ y=true then 29 else 28) else 31):=by
  rw [ja];by_cases c:m=2
  ·rw [ae c,ae c];unfold tQ;cases decide (y%4=0)<;>cases decide (y%100≠0)<;>cases decide (y%400=0)<;>rfl
  ·rw [ab c,ab c]
 rw [body];unfold lenI;by_cases d:m=4
 ·subst d;rfl
 ·by_cases f:m=6
  ·subst f;rfl
  ·by_cases e:m=9
   ·subst e;rfl
   ·by_cases b:m=11
    ·subst b;rfl
    ·rw [aK.2 d,aK.2 f,aK.2 e,aK.2 b,ab (show ¬(m=4\/m=6\/m=9\/m=11) by omega)];rfl
theorem yA (n:Nat) {y:Int} (h:-20000000000000000<=y/\y<=20000000000000000):fF n y=some (1+(y - 1) / 4 - (y - 1) / 100+(y - 1) / 400):=by
 unfold fF;rw [wrap_i64 (y - 1) (by omega) (by omega),xa n (by omega) (by omega) (by omega) (by omega),xa n (by omega) (by omega) (by omega) (by omega),xa n (by omega) (by omega) (by omega) (by omega)];show some _=some _;have f:-5000000000000001<=(y - 1) / 4/\(y - 1) / 4<=5000000000000001:=by omega
 have e:-5000000000000001<=(y - 1) / 100/\(y - 1) / 100<=5000000000000001:=by omega
 have d:-5000000000000001<=(y - 1) / 400/\(y - 1) / 400<=5000000000000001:=by omega
 generalize (y - 1) / 4=a at *;generalize (y - 1) / 100=b at *;generalize (y - 1) / 400=c at *;simp only [];rw [wrap_i64 (1*a) (by omega) (by omega),wrap_i64 (-1*b) (by omega) (by omega),wrap_i64 (1*c) (by omega) (by omega),wrap_i64 (1+1*a) (by omega) (by omega),wrap_i64 (1+1*a+-1*b) (by omega) (by omega),wrap_i64 _ (by omega) (by omega)];congr 1;omega
theorem PR (y:Int):(1+y / 4 - y / 100+y / 400>1+(y - 1) / 4 - (y - 1) / 100+(y - 1) / 400)↔tQ y=true:=by
 unfold tQ;simp only [aA,g9,cn];omega
theorem TV (n:Nat) {y:Int} (h:dW y):ku n y=some (tQ y,0):=by
 unfold ku;have h':=h;unfold dW at h';rw [gp,ae h,wrap_i64 (y+1) (by omega) (by omega),yA n (by omega),yA n (by omega),show y+1 - 1=y by omega];have b:=PR y;show some (decide (1+y / 4 - y / 100+y / 400>1+(y - 1) / 4 - (y - 1) / 100+(y - 1) / 400),(0:Int))=_;by_cases a:tQ y=true
 ·rw [a,am (b.2 a)]
 ·rw [GV] at a;rw [a,ar (λe=>by rw [b.1 e] at a;cases a)]
theorem xX (n:Nat) {y:Int} (h:dW y) {m:Nat} (d:1<=m) (c:m<=12):eK n y (m:Int)=some (lenI y (m:Int)):=by
 unfold eK;rw [TV n h];show cond (tQ y&&((m:Int)==2)) _ _=_;have a:IntKind.wrap .i64 ((m:Int) - 1)=((m - 1:Nat):Int):=by rw [wrap_i64 _ (by omega) (by omega)];omega
 rw [a,dY (show m - 1<12 by omega)];have b:m=1\/m=2\/m=3\/m=4\/m=5\/m=6\/m=7\/m=8\/m=9\/m=10\/m=11\/m=12:=by omega
 rcases b with rfl | rfl | rfl | rfl | rfl | rfl | rfl | rfl | rfl | rfl | rfl | rfl<;>unfold lenI<;>cases tQ y<;>rfl
theorem Ov (n:Nat) {y:Int} (h:dW y) {m:Nat} (b:1<=m) (a:m<=12):oS n y (m:Int)=some (lenI y (m:Int),0):=by
 unfold oS;rw [Ib n h b a,xX n h b a];rfl
theorem lF (y m:Int):28<=lenI y m/\lenI y m<=31:=by
 unfold lenI;split
 ·omega
 ·split
  ·split<;>omega
  ·omega
def vK (d:aa) (y m:Int):Int:=if d=[] then 0 else lenI y m
def vG (d:aa) (y a:Int):List (Int×Int×Int):=((dayI d).filter λk=>decide (k<=vK d y a)).map λk=>(y,a,k)
def vL (m d:aa) (y:Int):List (Int×Int×Int):=(monI m).flatMap (vG d y)
theorem N7 {X Y A:Type} {step:X->Option (X⊕Y)} {f:Nat->List A->X} {y:List A->Y} {p:Nat->Bool} {e:Nat->A} {g:Nat} (a:List A)
  (h:∀i out,i<g->out.length<=a.length+i->step (f i out)=some (.inl (f (i+1) (if p (i+1) then out++[e (i+1)] else out))))
  (d:∀out,step (f g out)=some (.inr (y out))) {N:Nat} (b:g<N):au step N (f 0 a)=some (y (a++((List.range' 1 g).filter p).map e)):=by
 have j:∀(r i:Nat) (out:List A),i+r=g->out.length<=a.length+i->∀N,r<N->au step N (f i out)=some (y (out++((List.range' (i+1) r).filter p).map e)):=by
  intro r
  induction r with
  | zero=>
   intro i out hi c N b;obtain ⟨N,rfl⟩:∃q,N=q+1:=⟨N - 1,by omega⟩;obtain rfl:i=g:=by omega
   rw [au,d];simp
  | succ r ih=>
   intro i out hi c N b;obtain ⟨N,rfl⟩:∃q,N=q+1:=⟨N - 1,by omega⟩;rw [au,h i out (by omega) (by omega)];show au step N _=_;by_cases hp:p (i+1)=true
   ·rw [ae hp,ih (i+1) _ (by omega) (by simp;omega) N (by omega),xJ,Rt hp];simp
   ·rw [ab hp,ih (i+1) _ (by omega) (by omega) N (by omega),xJ,Ri hp]
 exact j g 0 a (by omega) (by omega) N b
theorem ND {X Y A B:Type} {step:X->Option (X⊕Y)} {f:Nat->List A->X} {y:List A->Y} {F:B->List A} {L:List B} {c:Nat} (hc:∀b∈L,(F b).length<=c)
  (h:∀i b out,L[i]?=some b->out.length<=c*i->step (f i out)=some (.inl (f (i+1) (out++F b))))
  (g:∀out,step (f L.length out)=some (.inr (y out))) {N:Nat} (a:L.length<N):au step N (f 0 [])=some (y (L.flatMap F)):=by
 have j:∀(r i:Nat) (out:List A),i+r=L.length->out.length<=c*i->∀N,r<N->au step N (f i out)=some (y (out++(L.drop i).flatMap F)):=by
  intro r
  induction r with
  | zero=>
   intro i out hi d N a;obtain ⟨N,rfl⟩:∃q,N=q+1:=⟨N - 1,by omega⟩;obtain rfl:i=L.length:=by omega
   rw [au,g];simp
  | succ r ih=>
   intro i out hi d N a;obtain ⟨N,rfl⟩:∃q,N=q+1:=⟨N - 1,by omega⟩;have e:L[i]?=some L[i]:=bh (by omega);rw [au,h i L[i] out e d];show au step N _=_;have k:=hc L[i] (Em _);rw [ih (i+1) _ (by omega) (by rw [aR,Nat.mul_add];omega) N (by omega),pG (show i<L.length by omega),ou,fK]
 have:=j L.length 0 [] (by omega) (by simp) N a;simpa using this
theorem Ub (d:aa) (L:Nat) (h:L<=31):(tR (fitN d 31)).filter (λk=>decide (k<=(L:Int)))=tR ((List.range' 1 L).filter (agr d)):=by
 have hs:List.range' 1 31=List.range' 1 L++List.range' (1+L) (31 - L):=by
  have:=List.range'_append_1 (s:=1) (m:=L) (n:=31 - L);rw [this,show L+(31 - L)=31 by omega]
 unfold fitN tR;rw [hs,M6,FG,M6];have c:(List.map (λk:Nat=>(k:Int)) (List.filter (agr d) (List.range' 1 L))).filter (λk=>decide (k<=(L:Int)))=List.map (λk:Nat=>(k:Int)) (List.filter (agr d) (List.range' 1 L)):=by
  rw [List.filter_eq_self];intro k b;obtain ⟨j,a,rfl⟩:=ej.1 b;have:=tP.1 (lz.1 a).1;exact am (by omega)
 have e:(List.map (λk:Nat=>(k:Int)) (List.filter (agr d) (List.range' (1+L) (31 - L)))).filter (λk=>decide (k<=(L:Int)))=[]:=by
  rw [List.filter_eq_nil_iff];intro k b;obtain ⟨j,a,rfl⟩:=ej.1 b;have:=tP.1 (lz.1 a).1;simp only [cn];omega
 rw [c,e,ln]
theorem Im (s:aa) (g:Nat):(fitN s g).length<=g:=by
 have:=A3 (agr s) (List.range' 1 g);rw [List.length_range'] at this;exact this
theorem Hw (d:aa):(dayI d).length<=31:=by
 unfold dayI;split
 ·simp
 ·rw [Dk];exact Im d 31
theorem H6 (m:aa):(monI m).length<=12:=by
 unfold monI;split
 ·simp
 ·split
  ·simp
  ·rw [Dk];exact Im m 12
theorem Jw (d:aa) (y a:Int):(vG d y a).length<=31:=by
 unfold vG;rw [tM];exact qR (A3 _ _) (Hw d)
theorem NW (y a:Int):vG [] y a=[(y,a,0)]:=rfl
theorem Jn {d:aa} (h:d≠[]) (y a:Int):vG d y a=((List.range' 1 (lenI y a).toNat).filter (agr d)).map λk:Nat=>(y,a,(k:Int)):=by
 have b:=lF y a;unfold vG dayI vK;rw [ab h,ab h];have:=Ub d (lenI y a).toNat (by omega);rw [show (((lenI y a).toNat:Nat):Int)=lenI y a by omega] at this;rw [this,tR,tO];rfl
theorem Ji (n:Nat) (z:100<n) (g l:Bool) (dg:aa) (x q:Int) (m d:aa) (k0 k1 k2 y:Int):
  kX n g l dg x q m d k0 k1 k2 y=some (vL m d y):=by
 have v:=H6 m;unfold kX;rw [Jg n z];have:=ND (step:=eU n) (f:=λi out=>(y,(i:Int),g,l,dg,x,q,m,d,k0,k1,k2,monI m,out)) (y:=λo=>o) (F:=vG d y) (L:=monI m) (c:=31) (λb _=>Jw d y b)
  (λi h out hi D=>by
   have a:i<(monI m).length:=(oV.1 hi).1;have t:IntKind.wrap .i64 ((i:Int)+1)=((i+1:Nat):Int):=by rw [wrap_i64 _ (by omega) (by omega)];omega
   unfold eU;simp only [d4,d8,t];rw [am (show (i:Int)<(((monI m).length:Nat):Int) by omega),dY a];by_cases r:d=[]
   ·subst r;rw [NW];simp only [ob,hi,ah,room (show out.length<=60000000 by omega)];rfl
   ·rw [f7 r];have B:=lF y h;have s:=N7 (step:=eX n) (f:=λj o=>(y,(i:Int),((j+1:Nat):Int),g,l,dg,x,q,m,d,k0,k1,k2,monI m,o)) (y:=λo=>(y,(i:Int),g,l,dg,x,q,m,d,k0,k1,k2,monI m,o)) (p:=agr d) (e:=λk=>(y,h,(k:Int))) (g:=(lenI y h).toNat) out
     (λj o C u=>by
      have w:IntKind.wrap .i64 (((j+1:Nat):Int)+1)=((j+1+1:Nat):Int):=by rw [wrap_i64 _ (by omega) (by omega)];omega
      unfold eX;simp only [d4,d8,w,dY a,ob,hi,Cj];rw [am (show ((j+1:Nat):Int)<=lenI y h by omega),uP n d (j+1) (by omega),room (show o.length<=60000000 by omega)];by_cases hp:agr d (j+1)=true
      ·rw [ae hp,ae hp];rfl
      ·rw [ab hp,ab hp];rfl)
     (λo=>by
      unfold eX;simp only [d4,d8,dY a,ob,hi,Cj];rw [ar (show ¬(((lenI y h).toNat+1:Nat):Int)<=lenI y h by omega)];rfl)
     (N:=n) (by omega)
    have hin':au (eX n) n (y,(i:Int),1,g,l,dg,x,q,m,d,k0,k1,k2,monI m,out)=_:=s;simp only [ah,af];rw [hin',Jn r];simp only [ob,d4,d8,t])
  (λout=>by
   unfold eU;simp only [d4,d8];rw [ar (show ¬(((monI m).length:Nat):Int)<(((monI m).length:Nat):Int) by omega)];rfl)
  (N:=n) (by omega)
 have A:au (eU n) n (y,0,g,l,dg,x,q,m,d,k0,k1,k2,monI m,([]:List (Int×Int×Int)))=_:=this;simp only [ob];rw [A];rfl
theorem Ww {a b c e:UInt8} (j:bf a=true\/a=88) (k:bf b=true\/b=88) (hc:bf c=true\/c=88) (l:bf e=true\/e=88) (w:Nat):
  mtk [a,b,c,e] 4 w=Mk.ag [e,c,b,a] (w:Int):=by
 have one:∀(z:UInt8) (v:Nat),(decide (z=88)||decide (z.toNat=48+v%10))=(decide (z=88)||decide (Mk.dv z=(v:Int)%10)):=by
  intro z v;have:(z.toNat=48+v%10)↔(Mk.dv z=(v:Int)%10):=by unfold Mk.dv;omega
  rw [mI.2 this]
 have d:∀v:Nat,(v:Int) / 10=((v / 10:Nat):Int):=λv=>by omega
 show ((decide (e=88)||decide (e.toNat=48+w%10))&&((decide (c=88)||decide (c.toNat=48+w / 10%10))&&((decide (b=88)||decide (b.toNat=48+w / 10 / 10%10))&&((decide (a=88)||decide (a.toNat=48+w / 10 / 10 / 10%10))&&true))))
  = ((((true&&(decide (a=88)||decide (Mk.dv a=(w:Int) / 10 / 10 / 10%10)))&&(decide (b=88)||decide (Mk.dv b=(w:Int) / 10 / 10%10)))&&(decide (c=88)||decide (Mk.dv c=(w:Int) / 10%10)))&&(decide (e=88)||decide (Mk.dv e=(w:Int)%10)))
 rw [one e w,one c (w / 10),one b (w / 10 / 10),one a (w / 10 / 10 / 10),d w,d (w / 10),d (w / 10 / 10)];generalize (decide (e=88)||decide (Mk.dv e=(w:Int)%10))=h;generalize (decide (c=88)||decide (Mk.dv c=((w / 10:Nat):Int)%10))=g;generalize (decide (b=88)||decide (Mk.dv b=((w / 10 / 10:Nat):Int)%10))=f;generalize (decide (a=88)||decide (Mk.dv a=((w / 10 / 10 / 10:Nat):Int)%10))=i;cases h<;>cases g<;>cases f<;>cases i<;>rfl
theorem TK {c:UInt8} (h:bf c=true\/c=88):Mk.okB c=true:=by
 rcases h with h | h
 ·have h:=(bX c).1 h;unfold Mk.okB;simp only [g9,aA,cn];right
  first | omega | (obtain ⟨b,a⟩:=h;constructor<;>omega)
 ·subst h;decide
theorem QR {d:aa} (a:d.length=4) (h:∀c∈d,bf c=true\/c=88):Mk.chk d=0:=by
 unfold Mk.chk;have:d.all Mk.okB=true:=cv.2 λc hc=>TK (h c hc);rw [ab (by omega),ae this,ab (by rintro rfl;simp at a)]
theorem Io {d:aa} (i:d.length=4) (h:∀c∈d,bf c=true\/c=88) (w:Nat):Mk.hasM d (w:Int)=true↔mtk d 4 w=true/\w / 10 ^ 4=0:=by
 obtain ⟨a,b,c,e,rfl⟩:∃a b c e,d=[a,b,c,e]:=by
  match d,i with
  | [a,b,c,e],_=>exact ⟨a,b,c,e,rfl⟩
 rw [Mk.GI,Ww (h a (by simp)) (h b (by simp)) (h c (by simp)) (h e (by simp)) w];simp only [aA,cn];show 0<=(w:Int)/\(w:Int)<10 ^ 4/\Mk.ag [e,c,b,a] (w:Int)=true↔Mk.ag [e,c,b,a] (w:Int)=true/\w / 10 ^ 4=0;have j:(10:Int) ^ 4=10000:=by decide
 have e4':(10:Nat) ^ 4=10000:=by decide
 rw [j,e4'];constructor
 ·rintro ⟨_,g,f⟩;exact ⟨f,by omega⟩
 ·rintro ⟨f,g⟩;exact ⟨by omega,by omega,f⟩
theorem IR {g l:Bool} {d:aa} {x q:Int} (a:okY g l d x q) (f:hasX d=true) (v:Int):inP g d x q v↔(Mk.hasM d (wOf g v)=true/\(g=true->1<=wOf g v)):=by
 obtain ⟨rfl,rfl,rfl,c,i⟩:=qO a f;unfold inP;rw [H9 f];have m:∀k:Int,Mk.hasM d k=true->0<=k/\k<10000:=λk r=>by
  have:=(Mk.oI r).2.2.2.2;rw [c] at this;have t:(10:Int) ^ 4=10000:=by decide
  omega
 constructor
 ·rintro ⟨b,j,w,p,o⟩;have:=(Io c i (wOf g v).toNat).2 o;rw [show (((wOf g v).toNat:Nat):Int)=wOf g v by omega] at this;refine ⟨this,λh=>?_⟩;have u:¬wOf g v=0:=λe=>p ⟨f,h,e⟩;omega
 ·rintro ⟨b,j⟩;have hr':=m _ b;have n:=(Io c i (wOf g v).toNat).1 (by rw [show (((wOf g v).toNat:Nat):Int)=wOf g v by omega];exact b);have s:v=wOf g v\/v=- wOf g v:=by
   unfold wOf;split
   ·right;omega
   ·left;rfl
  refine ⟨by omega,by omega,hr'.1,?_,n⟩;rintro ⟨_,h,e⟩;have:=j h;omega
theorem FT {g l:Bool} {d:aa} {x:Int} (a:okY g l d x 0) (b:hasX d=false) (v:Int):inP g d x 0 v↔v=(if g then -((val d x.toNat:Nat):Int) else ((val d x.toNat:Nat):Int)):=by
 obtain ⟨k,q,rfl,n,m⟩:=sW a b;have hs:=m.small;have c:dval 0 d*10 ^ k=val d k:=rfl;rw [c] at hs;unfold E16 at hs;unfold inP;rw [Q5 b];have h:E3 d (k:Int).toNat (0:Int).toNat=1:=rfl;rw [h,bR,tz,tz,b];unfold wOf;cases g with
 | true=>
  simp only [aO];constructor
  ·rintro ⟨j,i,e,_,f⟩;omega
  ·rintro rfl;refine ⟨by omega,by omega,by omega,by simp,by omega⟩
 | false=>
  simp only [bw,aC];constructor
  ·rintro ⟨j,i,e,_,f⟩;omega
  ·rintro rfl;refine ⟨by omega,by omega,by omega,by simp,by omega⟩
def F4 (up:Bool) (Y:Int->Prop) (v w:Int) (a:Bool):Prop:=
 (a=true->Y w/\Mk.fj up v w/\∀e,Y e->Mk.fj up v e->Mk.fj up w e)/\(a=false->∀e,Y e->¬Mk.fj up v e)
theorem fe (a b:Int):Mk.fj true a b↔a<=b:=Iff.rfl
theorem ir (a b:Int):Mk.fj false a b↔b<=a:=Iff.rfl
theorem Q6 (o:Option Int):(Mk.res o).2=0/\(∃r,o=some r/\(Mk.res o).1=r)\/(Mk.res o).2=16/\o=none/\(Mk.res o).1=0:=by
 cases o with
 | none=>exact .inr ⟨rfl,rfl,rfl⟩
 | some r=>exact .inl ⟨rfl,r,rfl,rfl⟩
theorem vE {m:aa} (j:Mk.chk m=0) (v a:Int) (q:0<=a):∃w f,fO 20000000 m v true a=some (w,f)/\F4 true (λe=>Mk.hasM m e=true/\a<=e) v w f/\(0<=w/\w<1000000000000000000):=by
 obtain ⟨o,p,c⟩:=Mk.MK j (cond (decide (a>v)) a v);unfold fO;rw [p];simp only [ob,ah];have hc:(cond (decide (a>v)) a v)=max v a:=by
  by_cases h:a>v
  ·rw [am h];show a=_;omega
  ·rw [ar h];show v=_;omega
 rw [hc] at c;rcases Q6 o with ⟨i,r,rfl,d⟩ | ⟨i,rfl,d⟩
 ·refine ⟨_,_,rfl,?_,?_⟩
  ·rw [i,d];obtain ⟨a1,a2,l⟩:=c;rw [fe] at a2;refine ⟨λ_=>⟨⟨a1,by omega⟩,?_,λe b g=>?_⟩,λh=>by cases h⟩
   ·rw [fe];omega
   ·rw [fe] at g;exact l e b.1 (by rw [fe];have:=b.2;omega)
  ·have:=(Mk.oI c.1).2.2.2.2;have k:=Mk.og j;have hp:(10:Int) ^ m.length<=10 ^ 18:=by
    have:=kI (show 0<10 by decide) k.1
    exact_mod_cast this
   have n:(10:Int) ^ 18=1000000000000000000:=by decide
   rw [d];omega
 ·refine ⟨_,_,rfl,?_,by rw [d];omega⟩;rw [i];refine ⟨(λh=>by cases h),λ_ e b g=>?_⟩;rw [fe] at g;exact c e b.1 (by rw [fe];have:=b.2;omega)
theorem vA {m:aa} (j:Mk.chk m=0) (v a:Int) (t:0<=a):∃w f,fO 20000000 m v false a=some (w,f)/\F4 false (λe=>Mk.hasM m e=true/\a<=e) v w f/\(0<=w/\w<1000000000000000000):=by
 obtain ⟨o,q,l⟩:=Mk.MI j v;unfold fO;rw [q];simp only [ob,af];rcases Q6 o with ⟨i,r,rfl,g⟩ | ⟨i,rfl,g⟩
 ·rw [i,g];obtain ⟨a1,a2,k⟩:=l;rw [ir] at a2;have s:=(Mk.oI a1).2.2.2.2;have n:=Mk.og j;have hp:(10:Int) ^ m.length<=10 ^ 18:=by
   have:=kI (show 0<10 by decide) n.1
   exact_mod_cast this
  have p:(10:Int) ^ 18=1000000000000000000:=by decide
  refine ⟨_,_,rfl,?_,by omega⟩;by_cases d:r>=a
  ·rw [am d];refine ⟨λ_=>⟨⟨a1,by omega⟩,by rw [ir];omega,λe b c=>k e b.1 c⟩,λh=>by cases h⟩
  ·rw [ar d];refine ⟨(λh=>by cases h),λ_ e b c=>?_⟩;have:=k e b.1 c;rw [ir] at this;have:=b.2;omega
 ·rw [i,g];refine ⟨_,_,rfl,?_,by omega⟩;refine ⟨(λh=>by cases h),λ_ e b c=>l e b.1 c⟩
theorem NU {g l:Bool} {dg:aa} {x:Int} (k:okY g l dg x 0) (m d:aa) (k0 k1 k2:Int) (v:Int) (G:-9223372036854775808<=v/\v<9223372036854775808) (up:Bool) (F D:List Int):
  ∃w f,cq 20000000 g l dg x 0 m d k0 k1 k2 v up F D=some (w,f)/\F4 up (inP g dg x 0) v w f:=by
 have C:=iY k;unfold cq;rw [tV];simp only [ob];cases t:hasX dg with
 | false=>
  have c:=FT k t;rw [AU 20000000 g l dg x 0 (by omega) (by omega),ae ⟨k,t⟩];simp only [i7,ah];generalize (if g then -((val dg x.toNat:Nat):Int) else ((val dg x.toNat:Nat):Int))=w at *;cases up with
  | true=>
   by_cases h:w>=v
   ·refine ⟨w,true,?_,?_⟩
    ·simp only [am h,ah]
    ·refine ⟨λ_=>⟨(c w).2 rfl,h,λe b _=>?_⟩,λh=>by cases h⟩;rw [(c e).1 b];exact zT _
   ·refine ⟨w,false,?_,?_⟩
    ·simp only [ar h,ah,af,cZ]
    ·refine ⟨(λh=>by cases h),λ_ e b n=>?_⟩;rw [(c e).1 b,fe] at n;omega
  | false=>
   by_cases h:w<=v
   ·refine ⟨w,true,?_,?_⟩
    ·simp only [am h,ah,af,i7]
    ·refine ⟨λ_=>⟨(c w).2 rfl,h,λe b _=>?_⟩,λh=>by cases h⟩;rw [(c e).1 b];exact zT _
   ·refine ⟨w,false,?_,?_⟩
    ·simp only [ar h,ah,af,i7]
    ·refine ⟨(λh=>by cases h),λ_ e b n=>?_⟩;rw [(c e).1 b,ir] at n;omega
 | true=>
  have c:=IR k t;obtain ⟨rfl,rfl,_,A,B⟩:=qO k t;have s:=QR A B;simp only [cZ,af];cases g with
  | false=>
   simp only [i7,ah];have q:∀w f,F4 up (λe=>Mk.hasM dg e=true/\0<=e) v w f->F4 up (inP false dg 0 0) v w f:=λw f h=>by
    have a:∀e,(Mk.hasM dg e=true/\0<=e)↔inP false dg 0 0 e:=λe=>by
     rw [c e];constructor
     ·rintro ⟨i,_⟩;exact ⟨i,λh=>by cases h⟩
     ·rintro ⟨i,_⟩;exact ⟨i,(Mk.oI i).2.2.2.2.1⟩
    refine ⟨λj=>?_,λj e b=>h.2 j e ((a e).2 b)⟩;obtain ⟨b1,b2,r⟩:=h.1 j;exact ⟨(a w).1 b1,b2,λe b=>r e ((a e).2 b)⟩
   cases up with
   | true=>
    obtain ⟨w,f,i,p,_⟩:=vE s v 0 (by omega);exact ⟨w,f,by rw [i],q w f p⟩
   | false=>
    obtain ⟨w,f,i,p,_⟩:=vA s v 0 (by omega);exact ⟨w,f,by rw [i],q w f p⟩
  | true=>
   simp only [cZ,af];have hc:IntKind.wrap .i64 (0 - (cond (decide (((-9223372036854775807):Int)>v)) (-9223372036854775807) v))=min (-v) 9223372036854775807:=by
    by_cases h:((-9223372036854775807):Int)>v
    ·rw [am h,ah,wrap_i64 _ (by omega) (by omega)];omega
    ·rw [ar h,af,wrap_i64 _ (by omega) (by omega)];omega
   rw [hc];have u:∀e,Mk.hasM dg e=true->0<=e/\e<10000:=λe b=>by
    have:=(Mk.oI b).2.2.2.2;rw [A] at this;have H:(10:Int) ^ 4=10000:=by decide
    omega
   have a:∀e,inP true dg 0 0 e↔(Mk.hasM dg (-e)=true/\1<=-e):=λe=>by
    rw [c e];exact ⟨λh=>⟨h.1,h.2 rfl⟩,λh=>⟨h.1,λ_=>h.2⟩⟩
   have z:∀w:Int,0<=w/\w<1000000000000000000->IntKind.wrap .i64 (0 - w)=-w:=λw h=>by rw [wrap_i64 _ (by omega) (by omega)];omega
   cases up with
   | true=>
    obtain ⟨w,f,i,p,y⟩:=vA s (min (-v) 9223372036854775807) 1 (by omega);refine ⟨-w,f,by rw [cZ,i];simp only [z w y],?_,?_⟩
    ·intro j;obtain ⟨b1,b2,r⟩:=p.1 j;rw [ir] at b2;refine ⟨(a _).2 (by rw [Int.neg_neg];exact b1),by rw [fe];omega,λe b n=>?_⟩;rw [fe] at n;have o:=(a e).1 b;have:=r (-e) o (by rw [ir];have:=u _ o.1;omega);rw [ir] at this;rw [fe];omega
    ·intro j e b n;rw [fe] at n;have o:=(a e).1 b;exact p.2 j (-e) o (by rw [ir];have:=u _ o.1;omega)
   | false=>
    obtain ⟨w,f,i,p,y⟩:=vE s (min (-v) 9223372036854775807) 1 (by omega);refine ⟨-w,f,by rw [i7,i];simp only [z w y],?_,?_⟩
    ·intro j;obtain ⟨b1,b2,r⟩:=p.1 j;rw [fe] at b2;have E:=u _ b1.1;refine ⟨(a _).2 (by rw [Int.neg_neg];exact b1),by rw [ir];omega,λe b n=>?_⟩;rw [ir] at n;have o:=(a e).1 b;have:=r (-e) o (by rw [fe];omega);rw [fe] at this;rw [ir];omega
    ·intro j e b n;rw [ir] at n;have o:=(a e).1 b;exact p.2 j (-e) o (by rw [fe];omega)
theorem uc {X Y A:Type} {step:X->Option (X⊕Y)} {f:Nat->X} {L:List A} {G:A->Option Y} {e:Y}
  (h:∀i a,L[i]?=some a->step (f i)=some ((G a).elim (.inl (f (i+1))) Sum.inr)) (d:step (f L.length)=some (.inr e)) {N:Nat} (b:L.length<N):
  au step N (f 0)=some ((L.findSome? G).getD e):=by
 have g:∀(r i:Nat),i+r=L.length->∀N,r<N->au step N (f i)=some (((L.drop i).findSome? G).getD e):=by
  intro r
  induction r with
  | zero=>
   intro i hi N b;obtain ⟨N,rfl⟩:∃q,N=q+1:=⟨N - 1,by omega⟩;obtain rfl:i=L.length:=by omega
   rw [au,d];simp
  | succ r ih=>
   intro i hi N b;obtain ⟨N,rfl⟩:∃q,N=q+1:=⟨N - 1,by omega⟩;have c:L[i]?=some L[i]:=bh (by omega);rw [au,h i L[i] c,pG (show i<L.length by omega),DO];cases j:G L[i] with
   | some y=>rfl
   | none=>exact ih (i+1) (by omega) N (by omega)
 have:=g L.length 0 (by omega) N b;simpa using this
def ahd (up:Bool) (a b:Int):Bool:=cond up (decide (a<b)) (decide (a>b))
theorem Iz (n:Nat) (a b:Int) (up:Bool):cR n a b up=some (ahd up a b):=by
 unfold cR ahd;cases up
 ·rfl
 ·simp only [ah,cZ,af];cases decide (a<b)<;>rfl
def AB (up a:Bool) (d:aa) (b most k:Int):Bool:=decide (k<=most)&&!(a&&(!(d==([]:aa))&&ahd up k b))
def MH (up:Bool) (m:aa) (a b y c:Int):Bool:=(y==a)&&(!(m==([]:aa))&&ahd up c b)
def JF (m:aa) (a b y c:Int):Bool:=(y==a)&&((m==([]:aa))||(c==b))
def Gt (up:Bool) (m d:aa) (c b e y:Int) (f:List Int) (a:Int):Option (Int×Int×Int):=
 if MH up m c b y a then none else (f.find? (AB up (JF m c b y a) d e (vK d y a))).map λk=>(y,a,k)
def Gx (up:Bool) (m d:aa) (e c a:Int) (b f:List Int) (y:Int):Option (Int×Int×Int):=b.findSome? (Gt up m d e c a y f)
def LH (d:aa) (a:List Int):Prop:=a.length<=31/\(d≠[]->∀b∈a,1<=b/\b<=12)
theorem Oy (n:Nat) (g l:Bool) (dg:aa) (x q:Int) (m d:aa) (k0 k1 k2:Int) {y:Int} (hy:dW y) {a:Int} (c:d≠[]->1<=a/\a<=12) (e f:List Int):
  fc n g l dg x q m d k0 k1 k2 y a e f=some (vK d y a):=by
 unfold fc vK;by_cases b:d=[]
 ·subst b;rfl
 ·rw [f7 b,ab b];have:=c b;obtain ⟨k,rfl⟩:∃k:Nat,a=(k:Int):=⟨a.toNat,by omega⟩;rw [af,Ov n hy (by omega) (by omega)];rfl
theorem Uy {A B Y:Type} (L:List A) (p:A->Bool) (F:A->B) (J:B->Y) (e:Y):(L.findSome? λa=>if p a then some (J (F a)) else none).getD e=((L.find? p).map F).elim e J:=by
 induction L with
 | nil=>rfl
 | cons a L ih=>
  rw [List.find?_cons,DO];cases h:p a
  ·simpa using ih
  ·simp
theorem Vv {A B Y:Type} (L:List A) (G:A->Option B) (J:B->Y) (e:Y):(L.findSome? λa=>(G a).map J).getD e=(L.findSome? G).elim e J:=by
 induction L with
 | nil=>rfl
 | cons a L ih=>
  rw [DO,DO];cases h:G a
  ·simpa using ih
  ·simp
theorem Qn (n:Nat) (s y e:Int) (a:Bool) (most p j:Int) (r b:List Int) (g l:Bool) (dg:aa) (x q:Int) (m d:aa) (k0 k1 k2 u t c:Int) (up:Bool) (v h rd:Int) (i:Nat) (k:Int) (hi:b[i]?=some k) (w:i<1000):
  bQ n (s,y,e,a,most,p,j,((b.length:Nat):Int),(i:Int),r,b,g,l,dg,x,q,m,d,k0,k1,k2,u,t,c,up,v,h,rd)=some ((if AB up a d c most k then some (.inl (true,y,e,k)) else none).elim (.inl (s,y,e,a,most,p,j,((b.length:Nat):Int),((i+1:Nat):Int),r,b,g,l,dg,x,q,m,d,k0,k1,k2,u,t,c,up,v,h,rd)) Sum.inr):=by
 have f:i<b.length:=(oV.1 hi).1;have o:IntKind.wrap .i64 ((i:Int)+1)=((i+1:Nat):Int):=by rw [wrap_i64 _ (by omega) (by omega)];omega
 unfold bQ ie AB;simp only [d4,d8,d16,dY f,hi,ob,o,Iz];rw [am (show (i:Int)<((b.length:Nat):Int) by omega)];simp only [ah];cases decide (k<=most)<;>cases a<;>cases (d==([]:aa))<;>cases ahd up k c<;>simp only [cZ,i7,ah,af,o]<;>rfl
theorem Tz (n:Nat) (s y p:Int) (b:Bool) (most h f:Int) (i a:List Int) (g l:Bool) (dg:aa) (x q:Int) (m d:aa) (k0 k1 k2 k j c:Int) (up:Bool) (o e rd:Int):
  bQ n (s,y,p,b,most,h,f,((a.length:Nat):Int),((a.length:Nat):Int),i,a,g,l,dg,x,q,m,d,k0,k1,k2,k,j,c,up,o,e,rd)=some (.inr (.inr (s,y,h,f,i,a,g,l,dg,x,q,m,d,k0,k1,k2,k,j,c,up,o,e,rd))):=by
 unfold bQ;simp only [d4,d8,d16];rw [ar (show ¬((a.length:Nat):Int)<((a.length:Nat):Int) by omega)];rfl
theorem Tf (n:Nat) (B:1000<n) (s y h:Int) (a:Bool) (most p o:Int) (r b:List Int) (g l:Bool) (dg:aa) (x q:Int) (m d:aa) (k0 k1 k2 u t c:Int) (up:Bool) (v j rd:Int) (A:b.length<=31):
  au (bQ n) n (s,y,h,a,most,p,o,((b.length:Nat):Int),0,r,b,g,l,dg,x,q,m,d,k0,k1,k2,u,t,c,up,v,j,rd)=some (((b.find? (AB up a d c most)).map (λk=>(y,h,k))).elim (.inr (s,y,p,o,r,b,g,l,dg,x,q,m,d,k0,k1,k2,u,t,c,up,v,j,rd)) (λz=>.inl (true,z))):=by
 have:=uc (step:=bQ n) (f:=λi=>(s,y,h,a,most,p,o,((b.length:Nat):Int),(i:Int),r,b,g,l,dg,x,q,m,d,k0,k1,k2,u,t,c,up,v,j,rd)) (L:=b) (G:=λk=>if AB up a d c most k then some (.inl (true,y,h,k)) else none) (e:=.inr (s,y,p,o,r,b,g,l,dg,x,q,m,d,k0,k1,k2,u,t,c,up,v,j,rd))
  (λi k hi=>by
   have w:i<b.length:=(oV.1 hi).1;exact Qn n s y h a most p o r b g l dg x q m d k0 k1 k2 u t c up v j rd i k hi (by omega))
  (Tz n s y h a most p o r b g l dg x q m d k0 k1 k2 u t c up v j rd) (N:=n) (by omega)
 exact this.trans (cK some (Uy b (AB up a d c most) (λk=>(y,h,k)) (λz=>Sum.inl (true,z)) _))
theorem PC (n:Nat) (D:1000<n) (s y:Int) (hy:dW y) (j p:List Int) (g l:Bool) (dg:aa) (x q:Int) (m d:aa) (k0 k1 k2 e o r:Int) (up:Bool) (u t rd:Int) (A:LH d j) (C:p.length<=31) (i:Nat) (f:Int) (hi:j[i]?=some f):
  ck n (s,y,((j.length:Nat):Int),(i:Int),j,p,g,l,dg,x,q,m,d,k0,k1,k2,e,o,r,up,u,t,rd)=some (((Gt up m d e o r y p f).map (λz=>(.inl (true,z):(Bool×Int×Int×Int)⊕_))).elim (.inl (s,y,((j.length:Nat):Int),((i+1:Nat):Int),j,p,g,l,dg,x,q,m,d,k0,k1,k2,e,o,r,up,u,t,rd)) Sum.inr):=by
 have w:i<j.length:=(oV.1 hi).1;have E:=A.1;have B:IntKind.wrap .i64 ((i:Int)+1)=((i+1:Nat):Int):=by rw [wrap_i64 _ (by omega) (by omega)];omega
 have v:d≠[]->1<=f/\f<=12:=λh=>A.2 h f (fS hi);have j20:∀a b:Int,fw n s y f (y==e) a b j p g l dg x q m d k0 k1 k2 e o r up u t rd=some (s,y,f,(y==e),a,b,MH up m e o y f,j,p,g,l,dg,x,q,m,d,k0,k1,k2,e,o,r,up,u,t,rd):=by
  intro a b;unfold fw MH;simp only [Iz,ob];cases (y==e)<;>cases (m==([]:aa))<;>rfl
 have j23:∀a b c:Int,fk n s y f (y==e) a b c j p g l dg x q m d k0 k1 k2 e o r up u t rd=some (s,y,f,JF m e o y f,a,b,c,j,p,g,l,dg,x,q,m,d,k0,k1,k2,e,o,r,up,u,t,rd):=by
  intro a b c;unfold fk JF;cases (y==e)<;>cases (m==([]:aa))<;>rfl
 unfold ck iu Gt;simp only [d4,d8,d16,dY w,hi,ob,j20];rw [am (show (i:Int)<((j.length:Nat):Int) by omega)];simp only [ah];cases hs:MH up m e o y f with
 | true=>simp only [ah,aO,iU,B];rfl
 | false=>
  simp only [af,bw,aC,Oy n g l dg x q m d k0 k1 k2 hy v,j23,Tf n D s y f (JF m e o y f) (vK d y f) _ _ j p g l dg x q m d k0 k1 k2 e o r up u t rd C];cases p.find? (AB up (JF m e o y f) d r (vK d y f)) with
  | some k=>rfl
  | none=>simp only [iU,Option.elim_none,B]
theorem Ui (n:Nat) (u:1000<n) (s y:Int) (hy:dW y) (a b:List Int) (g l:Bool) (dg:aa) (x q:Int) (m d:aa) (k0 k1 k2 j h c:Int) (up:Bool) (o k rd:Int) (r:LH d a) (t:b.length<=31):
  au (ck n) n (s,y,((a.length:Nat):Int),0,a,b,g,l,dg,x,q,m,d,k0,k1,k2,j,h,c,up,o,k,rd)=some ((Gx up m d j h c a b y).elim (.inr (s,y,a,b,g,l,dg,x,q,m,d,k0,k1,k2,j,h,c,up,o,k,rd)) (λz=>.inl (true,z))):=by
 have v:=r.1;have:=uc (step:=ck n) (f:=λi=>(s,y,((a.length:Nat):Int),(i:Int),a,b,g,l,dg,x,q,m,d,k0,k1,k2,j,h,c,up,o,k,rd)) (L:=a) (G:=λp=>(Gt up m d j h c y b p).map (λz=>(.inl (true,z):(Bool×Int×Int×Int)⊕_))) (e:=.inr (s,y,a,b,g,l,dg,x,q,m,d,k0,k1,k2,j,h,c,up,o,k,rd))
  (λi p hi=>PC n u s y hy a b g l dg x q m d k0 k1 k2 j h c up o k rd r t i p hi)
  (by
   unfold ck;simp only [d4,d8,d16];rw [ar (show ¬((a.length:Nat):Int)<((a.length:Nat):Int) by omega)];rfl)
  (N:=n) (by omega)
 exact this.trans (cK some (Vv a (Gt up m d j h c y b) (λz=>Sum.inl (true,z)) _))
theorem OM (n:Nat) (o:1000<n) (s y:Int) (hy:dW y) (a b:List Int) (g l:Bool) (dg:aa) (x q:Int) (m d:aa) (k0 k1 k2 f e c:Int) (up:Bool) (i h rd:Int) (k:LH d a) (j:b.length<=31):
  de n (s,y,true,a,b,g,l,dg,x,q,m,d,k0,k1,k2,f,e,c,up,i,h,rd)=(Gx up m d f e c a b y).elim (ob (cq n g l dg x q m d k0 k1 k2 (IntKind.wrap .i64 (y+s)) up a b) λr=>some (.inl (s,r.1,r.2,a,b,g,l,dg,x,q,m,d,k0,k1,k2,f,e,c,up,i,h,rd))) (λz=>some (.inr (.inl (true,z)))):=by
 unfold de;simp only [d4,d8,d16,ah,ob,Ui n o s y hy a b g l dg x q m d k0 k1 k2 f e c up i h rd k j];cases Gx up m d f e c a b y<;>rfl
def HE (up:Bool) (Y:Int->Prop) (F:Int->Option (Int×Int×Int)) (v:Int):Option (Int×Int×Int)->Prop
 | some z=>∃e,Y e/\Mk.fj up v e/\F e=some z/\∀a,Y a->Mk.fj up v a->¬Mk.fj up e a->F a=none
 | none=>∀e,Y e->Mk.fj up v e->F e=none
theorem Js {X:Type} {step:X->Option (X⊕((Bool×Int×Int×Int)⊕(Int×Int×Int)))} {st:Int->Bool->X} {F:Int->Option (Int×Int×Int)} {Y:Int->Prop} {up:Bool} {s lo hi:Int} {E:Int×Int×Int} {fy:Int->Option (Int×Bool)}
  (hs:s=if up then 1 else -1) (t:∀e,Y e->lo<=e/\e<=hi) (P:-10000000000000000<=lo) (d:hi<=10000000000000000)
  (a:∀y,Y y->step (st y true)=(F y).elim (ob (fy (IntKind.wrap .i64 (y+s))) λr=>some (.inl (st r.1 r.2))) (λz=>some (.inr (.inl (true,z)))))
  (c:∀y,step (st y false)=some (.inr (.inr E)))
  (p:∀v,-9223372036854775808<=v/\v<9223372036854775808->∃w f,fy v=some (w,f)/\F4 up Y v w f):
  ∀(r:Nat) (v y:Int) (f:Bool),F4 up Y v y f->(f=true->(if up then hi - y else y - lo)<(r:Int))->∀N,r<N->
   ∃o,au step N (st y f)=some (o.elim (.inr E) (λz=>.inl (true,z)))/\HE up Y F v o:=by
 intro r
 induction r with
 | zero=>
  intro v y f k n N I;obtain ⟨N,rfl⟩:∃q,N=q+1:=⟨N - 1,by omega⟩;cases f with
  | true=>
   obtain ⟨a1,_,_⟩:=k.1 rfl;have:=t y a1;have:=n rfl;cases up<;>simp at this<;>omega
  | false=>
   refine ⟨none,by rw [au,c];rfl,λe g l=>absurd l (k.2 rfl e g)⟩
 | succ r ih=>
  intro v y f k n N I;obtain ⟨N,rfl⟩:∃q,N=q+1:=⟨N - 1,by omega⟩;cases f with
  | false=>
   refine ⟨none,by rw [au,c];rfl,λe g l=>absurd l (k.2 rfl e g)⟩
  | true=>
   obtain ⟨a1,a2,u⟩:=k.1 rfl;have O:=t y a1;cases j:F y with
   | some z=>
    refine ⟨some z,?_,y,a1,a2,j,λb d m i=>absurd (u b d m) i⟩;rw [au,a y a1,j];rfl
   | none=>
    have D:IntKind.wrap .i64 (y+s)=y+s:=by
     have:-1<=s/\s<=1:=by rw [hs];cases up<;>simp
     exact wrap_i64 _ (by omega) (by omega)
    obtain ⟨w,x,H,B⟩:=p (y+s) (by
     have:-1<=s/\s<=1:=by rw [hs];cases up<;>simp
     omega)
    have hstep':step (st y true)=some (.inl (st w x)):=by
     rw [a y a1,j,D];show ob (fy (y+s)) _=_;rw [H];rfl
    obtain ⟨o,J,A⟩:=ih (y+s) w x B (λG=>by
     obtain ⟨b1,b2,_⟩:=B.1 G;have:=n rfl;cases up
     ·rw [ir] at b2;simp only [bw,aC] at hs this ⊢;omega
     ·rw [fe] at b2;simp only [aO] at hs this ⊢;omega) N (by omega)
    refine ⟨o,by rw [au,hstep'];exact J,?_⟩;have split:∀b,Y b->Mk.fj up v b->b=y\/Mk.fj up (y+s) b:=λb d m=>by
     have i:=u b d m;cases up
     ·rw [ir] at i ⊢;simp only [bw,aC] at hs;omega
     ·rw [fe] at i ⊢;simp only [aO] at hs;omega
    cases o with
    | none=>
     intro e g l;rcases split e g l with rfl | h
     ·exact j
     ·exact A e g h
    | some z=>
     obtain ⟨e,M,C,L,K⟩:=A;refine ⟨e,M,?_,L,λb d m i=>?_⟩
     ·cases up
      ·rw [ir] at C a2 ⊢;simp only [bw,aC] at hs;omega
      ·rw [fe] at C a2 ⊢;simp only [aO] at hs;omega
     ·rcases split b d m with rfl | h
      ·exact j
      ·exact K b d h i
theorem zh {g l:Bool} {dg:aa} {x:Int} (c:okY g l dg x 0):∃lo hi:Int,(∀e,inP g dg x 0 e->lo<=e/\e<=hi)/\hi - lo<=10000/\-10000000000000000<=lo/\hi<=10000000000000000:=by
 cases f:hasX dg with
 | false=>
  have a:=FT c f;by_cases d:-10000000000000000<=(if g then -((val dg x.toNat:Nat):Int) else ((val dg x.toNat:Nat):Int))/\(if g then -((val dg x.toNat:Nat):Int) else ((val dg x.toNat:Nat):Int))<=10000000000000000
  ·refine ⟨_,_,λe b=>?_,?_,d.1,d.2⟩
   ·rw [(a e).1 b];exact ⟨zT _,zT _⟩
   ·omega
  ·refine ⟨0,0,λe b=>?_,by omega,by omega,by omega⟩;exfalso;have:=(a e).1 b;unfold inP at b;exact d ⟨by rw [<-this];exact b.1,by rw [<-this];exact b.2.1⟩
 | true=>
  have a:=IR c f;obtain ⟨_,_,_,i,j⟩:=qO c f;refine ⟨if g then -9999 else 0,if g then 0 else 9999,λe b=>?_,by cases g<;>simp,by cases g<;>simp,by cases g<;>simp⟩;have h:=((a e).1 b).1;have:=(Mk.oI h).2.2.2.2;rw [i] at this;have k:(10:Int) ^ 4=10000:=by decide
  unfold wOf at this;cases g
  ·simp at this ⊢;omega
  ·simp at this ⊢;omega
theorem Ax {g:Bool} {dg:aa} {x q e:Int} (h:inP g dg x q e):dW e:=⟨h.1,h.2.1⟩
theorem JB {g l:Bool} {dg:aa} {x:Int} (e:okY g l dg x 0) (m d:aa) (k0 k1 k2:Int) (a i h:Int) (n:-9223372036854775808<=a/\a<9223372036854775808) (c b:List Int) (C:LH d c) (r:b.length<=31):
  ∃o,iZ 20000000 g l dg x 0 m d k0 k1 k2 a i h true c b=some (o.elim (0,0,0,false) λz=>(z.1,z.2.1,z.2.2,true))/\HE true (inP g dg x 0) (Gx true m d a i h c b) a o:=by
 obtain ⟨lo,hi,q,G,k,j⟩:=zh e;obtain ⟨w,f,A,p⟩:=NU e m d k0 k1 k2 a n true c b;obtain ⟨o,D,u⟩:=Js (step:=de 20000000) (st:=λy f=>(1,y,f,c,b,g,l,dg,x,0,m,d,k0,k1,k2,a,i,h,true,0,0,0)) (F:=Gx true m d a i h c b) (Y:=inP g dg x 0) (up:=true) (s:=1) (lo:=lo) (hi:=hi) (E:=(0,0,0)) (fy:=λv=>cq 20000000 g l dg x 0 m d k0 k1 k2 v true c b)
  rfl q k j
  (λy hy=>OM 20000000 (by omega) 1 y (Ax hy) c b g l dg x 0 m d k0 k1 k2 a i h true 0 0 0 C r)
  (λy=>rfl)
  (λv B=>NU e m d k0 k1 k2 v B true c b)
  10002 a w f p (λt=>by have:=q w (p.1 t).1;simp;omega) 20000000 (by omega)
 refine ⟨o,?_,u⟩;unfold iZ jn;simp only [cZ,af,ob,d4,d8,d16,A];have i1':au (de 20000000) 20000000 (1,w,f,c,b,g,l,dg,x,0,m,d,k0,k1,k2,a,i,h,true,0,0,0)=_:=D;rw [i1'];cases o<;>rfl
theorem H4 (m d:aa) (n l:Int) {f e:Int} (h:e≠f) (o g:List Int):Gx true m d f n l o g e=none↔(o.flatMap λa=>(g.filter λk=>decide (k<=vK d e a)).map λk=>(e,a,k))=[]:=by
 have j:(e==f)=false:=aK.2 h;unfold Gx;rw [RI,List.flatMap_eq_nil_iff];have:∀a,Gt true m d f n l e g a=none↔((g.filter λk=>decide (k<=vK d e a)).map λk=>(e,a,k))=[]:=by
  intro a;unfold Gt MH JF;rw [j];simp only [vJ,bw,aC,Option.map_eq_none_iff,List.find?_eq_none,List.map_eq_nil_iff,List.filter_eq_nil_iff];constructor
  ·intro c k i;have:=c k i;unfold AB at this;simpa using this
  ·intro c k i;have:=c k i;unfold AB;simpa using this
 exact ⟨λc a b=>(this a).1 (c a b),λc a b=>(this a).2 (c a b)⟩
def hasF (g:Bool) (dg:aa) (x:Int) (m d:aa):Prop:=∃e,inP g dg x 0 e/\vL m d e≠[]
open Classical in
noncomputable def chkF (g l:Bool) (dg:aa) (x q:Int) (m d:aa) (k0 k1 k2:Int):Int:=
 if chkD g l dg x q m d k0 k1 k2=0/\d≠[]/\¬hasF g dg x m d then 8 else chkD g l dg x q m d k0 k1 k2
theorem pm {g l:Bool} {dg:aa} {x q:Int} {m d:aa} {k0 k1 k2:Int} (h:chkD g l dg x q m d k0 k1 k2=0):okY g l dg x q/\(m=[]\/m.length=2)/\(d=[]\/d.length=2)/\(0<q->m=[])/\(d≠[]->m≠[]/\sea m=0):=by
 obtain ⟨b,k,e,o⟩:=JX h;unfold yrD at b;by_cases a:okY g l dg x q
 ·rw [ae a] at b;refine ⟨a,?_,?_,λf=>?_,λi=>?_⟩
  ·rcases k with h | h | h
   ·exact .inl h
   ·exact .inr (K8 h).1
   ·exact .inr (rP (by omega) h).1
  ·rcases e with h | ⟨_,_,h⟩
   ·exact .inl h
   ·exact .inr (rP (by omega) h).1
  ·unfold yrB at b;simp only [aA,kQ] at b;have:=b.1;rw [am f,mN] at this;by_cases c:m=[]
   ·exact c
   ·rw [f7 c] at this;cases this
  ·rcases e with h | ⟨n,j,_⟩
   ·exact absurd h i
   ·exact ⟨n,j⟩
 ·rw [ab a] at b;cases b
theorem UJ {g l:Bool} {dg:aa} {x q:Int} (h:okY g l dg x q):0<=q:=(iY h).2.2.1
theorem L9 {m d:aa} (h:d≠[]->m≠[]/\sea m=0):LH d (monI m):=by
 refine ⟨qR (H6 m) (by omega),λb f a=>?_⟩;obtain ⟨c,g⟩:=h b;unfold monI at a;rw [ab c,ab (by omega)] at a;obtain ⟨k,e,rfl⟩:=ej.1 a;have:=tP.1 (lz.1 e).1;omega
theorem wC {g l:Bool} {dg:aa} {x q:Int} {m d:aa} {k0 k1 k2:Int} (r:m.length<=18) (k:dg.length<=100) (E:0<=k0) (F:0<=k1) (D:0<=k2):
  bD 20000000 g l dg x q m d k0 k1 k2=some (chkF g l dg x q m d k0 k1 k2):=by
 unfold bD chkF;rw [AZ 20000000 (by omega) g l dg x q m d k0 k1 k2 r k E F D];simp only [ob];by_cases hc:chkD g l dg x q m d k0 k1 k2=0
 ·obtain ⟨f,p,s,B,c⟩:=pm hc;rw [hc];simp only [eC,af];by_cases i:d=[]
  ·subst i;rw [ab (by simp)];rfl
  ·rw [f7 i,af];have t:q=0:=by
    have:=UJ f;by_cases h:0<q
    ·exact absurd (B h) (c i).1
    ·omega
   subst t;have e:=Yr 20000000 (by omega) g l dg x 0 m d k0 k1 k2 p s;have n:=L9 c;obtain ⟨o,o1,u⟩:=JB f m d k0 k1 k2 (-9223372036854775808) 0 0 (by omega) (monI m) (dayI d) n (Hw d);have b:∀e,inP g dg x 0 e->e≠-9223372036854775808:=λe y=>by have:=Ax y;unfold dW at this;omega
   have key:(∃z,o=some z)↔hasF g dg x m d:=by
    constructor
    ·rintro ⟨z,rfl⟩;obtain ⟨e,a,_,v,_⟩:=u;refine ⟨e,a,λC=>?_⟩;have:=(H4 m d 0 0 (b e a) (monI m) (dayI d)).2 C;rw [this] at v;cases v
    ·rintro ⟨e,a,A⟩;cases o with
     | some z=>exact ⟨z,rfl⟩
     | none=>
      have:=u e a (by rw [fe];have:=Ax a;unfold dW at this;omega);exact absurd ((H4 m d 0 0 (b e a) (monI m) (dayI d)).1 this) A
   rw [e];by_cases j:hasF g dg x m d
   ·obtain ⟨z,rfl⟩:=key.2 j;rw [ab (λh=>h.2.2 j)]
    all_goals
     simp only [d4,d8,o1];rfl
   ·have w:o=none:=by
     cases o with
     | none=>rfl
     | some z=>exact absurd (key.1 ⟨z,rfl⟩) j
    subst w;rw [ae ⟨rfl,i,j⟩]
    all_goals
     simp only [d4,d8,o1];rfl
 ·rw [ab (λh=>hc h.1)];have:(chkD g l dg x q m d k0 k1 k2 != 0)=true:=by simp [hc]
  rw [this];rfl
theorem OP {g l:Bool} {dg:aa} {x:Int} (c:okY g l dg x 0) (m d:aa) (k0 k1 k2:Int):
  ∃r,k9 20000000 g l dg x 0 m d k0 k1 k2=some r/\(r=1/\hasF g dg x m d\/r=0/\¬hasF g dg x m d):=by
 have H:=iY c;obtain ⟨lo,hi,A,Q,M,F⟩:=zh c;obtain ⟨J,O,I⟩:=FK c;have v:=Qs 19999700 g l dg x 0 (by omega) c;unfold k9;rw [show (20000000:Nat)=19999700+300 from rfl,v];simp only [ob];generalize (sgn g (nP g dg x 0)).1=a at *;generalize (sgn g (nP g dg x 0)).2=b at *;have R:=A a J;have hb':=A b O;have D:=λy=>VK 19999700 c y;have step:∀i y,((List.range (b - a+1).toNat).map (λj:Nat=>a+(j:Int)))[i]?=some y->i<(b - a+1).toNat/\y=a+(i:Int):=by
  intro i y h;rw [mj] at h;cases u:(List.range (b - a+1).toNat)[i]? with
  | none=>rw [u] at h;cases h
  | some j=>
   rw [u] at h;have hi:=oV.1 u;obtain ⟨C,B⟩:=hi;rw [List.getElem_range] at B;rw [List.length_range] at C;subst B;exact ⟨C,(bj h).symm⟩
 have p:((List.range (b - a+1).toNat).map (λj:Nat=>a+(j:Int))).length=(b - a+1).toNat:=by simp
 have:=uc (step:=gk (19999700+300)) (f:=λi=>(b,a+(i:Int),g,l,dg,x,0,m,d,k0,k1,k2)) (L:=(List.range (b - a+1).toNat).map (λj:Nat=>a+(j:Int))) (G:=λy=>if inP g dg x 0 y/\vL m d y≠[] then some (.inl 1) else none) (e:=.inr ())
  (λi y h=>by
   obtain ⟨hi,rfl⟩:=step i y h;have K:IntKind.wrap .i64 (a+(i:Int)+1)=a+((i+1:Nat):Int):=by rw [wrap_i64 _ (by omega) (by omega)];omega
   unfold gk;simp only [d4,d8,K];rw [am (show a+(i:Int)<=b by omega),D,Ji (19999700+300) (by omega)];by_cases n:inP g dg x 0 (a+(i:Int))
   ·rw [ae n];by_cases o:vL m d (a+(i:Int))=[]
    ·rw [ab (λh=>h.2 o),o];rfl
    ·rw [ae ⟨n,o⟩];have hp:0<(vL m d (a+(i:Int))).length:=List.length_pos_iff.2 o;have E:decide ((((vL m d (a+(i:Int))).length:Nat):Int)>0)=true:=am (by omega);simp only [ah,ob,E];rfl
   ·rw [ab n,ab (λh=>n h.1)];rfl)
  (by
   unfold gk;simp only [d4,d8];rw [p,ar (show ¬a+(((b - a+1).toNat:Nat):Int)<=b by omega)];rfl)
  (N:=19999700+300) (by rw [p];omega)
 rw [show a+((0:Nat):Int)=a by omega] at this;rw [this];cases q:(List.findSome? (λy=>if inP g dg x 0 y/\vL m d y≠[] then some (Sum.inl (1:Int)) else none) ((List.range (b - a+1).toNat).map (λj:Nat=>a+(j:Int))):Option (Int⊕Unit)) with
 | none=>
  refine ⟨0,rfl,.inr ⟨rfl,?_⟩⟩;rintro ⟨e,s,w⟩;rw [RI] at q;have hs:=I e s;have:=q e (ej.2 ⟨(e - a).toNat,la.2 (by omega),by omega⟩);rw [ae ⟨s,w⟩] at this;cases this
 | some z=>
  obtain ⟨y,P,k⟩:=List.exists_of_findSome?_eq_some q;by_cases t:inP g dg x 0 y/\vL m d y≠[]
  ·rw [ae t] at k;obtain rfl:=bj k;exact ⟨1,rfl,.inl ⟨rfl,y,t.1,t.2⟩⟩
  ·rw [ab t] at k;cases k
theorem wX {g l:Bool} {dg:aa} {x q:Int} {m d:aa} {k0 k1 k2:Int} (c:dg.length<=100) (t:0<=k0) (u:0<=k1) (p:0<=k2):
  bK 20000000 g l dg x q m d k0 k1 k2=some (chkF g l dg x q m d k0 k1 k2):=by
 unfold bK chkF;rw [Ff 20000000 (by omega) g l dg x q m d k0 k1 k2 c t u p];simp only [ob];by_cases hc:chkD g l dg x q m d k0 k1 k2=0
 ·obtain ⟨a,s,o,k,i⟩:=pm hc;rw [hc];by_cases b:d=[]
  ·subst b;rw [ab (by simp)];rfl
  ·have e:q=0:=by
    have:=UJ a;by_cases h:0<q
    ·exact absurd (k h) (i b).1
    ·omega
   subst e;obtain ⟨r,n,j⟩:=OP a m d k0 k1 k2;rw [f7 b,n];rcases j with ⟨rfl,f⟩ | ⟨rfl,f⟩
   ·rw [ab (λh=>h.2.2 f)];rfl
   ·rw [ae ⟨rfl,b,f⟩];rfl
 ·rw [ab (λh=>hc h.1)];have:(chkD g l dg x q m d k0 k1 k2==0)=false:=aK.2 hc;rw [this];rfl
theorem pB {g l:Bool} {dg:aa} {x q:Int} {m d:aa} {k0 k1 k2:Int} (h:chkF g l dg x q m d k0 k1 k2=0):chkD g l dg x q m d k0 k1 k2=0:=by
 unfold chkF at h;split at h
 ·cases h
 ·exact h
theorem bne0 {e:Int} (h:e≠0):(e != 0)=true:=by simp [h]
theorem HK {m d:aa} {y:Int} {z:Int×Int×Int}:z∈vL m d y↔z.1=y/\z.2.1∈monI m/\z.2.2∈dayI d/\z.2.2<=vK d y z.2.1:=by
 unfold vL vG;simp only [FB,ej,lz,cn];constructor
 ·rintro ⟨f,a,k,⟨b,c⟩,rfl⟩;exact ⟨rfl,a,b,c⟩
 ·rintro ⟨e,a,b,c⟩;exact ⟨z.2.1,a,z.2.2,⟨b,c⟩,by rw [<-e]⟩
theorem S3 (y:Int) (i:Nat):(minL i:Int)<=lenI y (i:Int):=by
 unfold minL lenI
 repeat' split
 all_goals omega
theorem QK {g l:Bool} {dg:aa} {x:Int} (a:okY g l dg x 0) {m d:aa} (n:m≠[]) (hs:sea m=0) (f:d≠[]) (b:fitD m d=true):hasF g dg x m d:=by
 obtain ⟨j,_,_⟩:=FK a;refine ⟨_,j,?_⟩;unfold fitD at b;simp only [sN,aA] at b;obtain ⟨i,hi,o,k,q,c⟩:=b;have hi':=tP.1 hi;have hk':=tP.1 q;have p:minL i<=31:=by
  unfold minL
  repeat' split
  all_goals omega
 have h:((sgn g (nP g dg x 0)).1,(i:Int),(k:Int))∈vL m d (sgn g (nP g dg x 0)).1:=by
  rw [HK];refine ⟨rfl,?_,?_,?_⟩
  ·unfold monI;rw [ab n,ab (by omega)];exact ej.2 ⟨i,lz.2 ⟨hi,o⟩,rfl⟩
  ·unfold dayI;rw [ab f];exact ej.2 ⟨k,lz.2 ⟨tP.2 (by omega),c⟩,rfl⟩
  ·unfold vK;rw [ab f];have:=S3 (sgn g (nP g dg x 0)).1 i;show (k:Int)<=lenI (sgn g (nP g dg x 0)).1 (i:Int);omega
 intro e;rw [e] at h;cases h
theorem P6 {g l:Bool} {dg:aa} {x q:Int} {m d:aa} {k0 k1 k2:Int} (hc:chkD g l dg x q m d k0 k1 k2=0) (n:d=[]\/fitD m d=true):chkF g l dg x q m d k0 k1 k2=0:=by
 obtain ⟨a,p,k,i,e⟩:=pm hc;unfold chkF;rw [ab,hc];rintro ⟨_,b,j⟩;obtain ⟨f,o⟩:=e b;have c:q=0:=by
  have:=UJ a;by_cases h:0<q
  ·exact absurd (i h) f
  ·omega
 subst c;exact j (QK a f o b (n.resolve_left b))
def plN (P:Nat×Nat×Nat) (i:Nat):Nat:=if i=0 then P.1 else if i=1 then P.2.1 else P.2.2
theorem zr {g l:Bool} {dg:aa} {x q:Int} {m d:aa} {k0 k1 k2:Int} (a:allM k0 k1 k2 (co m d)=0):chkF g l dg x q m d k0 k1 k2=0\/chkF g l dg x q m d k0 k1 k2=6\/chkF g l dg x q m d k0 k1 k2=7\/chkF g l dg x q m d k0 k1 k2=8:=by
 unfold chkF;split
 ·exact .inr (.inr (.inr rfl))
 ·exact Ln a
noncomputable def chkR (r:DR):Nat:=(chkF r.1 r.2.1 r.2.2.1 (r.2.2.2.1:Int) (r.2.2.2.2.1:Int) r.2.2.2.2.2.1 r.2.2.2.2.2.2.1 (r.2.2.2.2.2.2.2.1.1:Int) (r.2.2.2.2.2.2.2.1.2.1:Int) (r.2.2.2.2.2.2.2.1.2.2:Int)).toNat
noncomputable def fC (S:aa) (a:Nat):(Nat×Nat×Nat)⊕DR:=
 match rD S a with
 | .inl k=>.inl (k,5,k)
 | .inr r=>if chkR r=0 then .inr r else .inl (plN r.2.2.2.2.2.2.2.2.1 (chkR r - 6),chkR r,r.2.2.2.2.2.2.2.2.2)
def Vh (S:aa):(Nat×Nat×Nat)⊕DR->(Int×Int×aa×Int)⊕(Bool×Bool×aa×Int×Int×aa×aa×Int×Int×Int×Int×aa×Int)
 | .inl (k,E,p)=>.inl ((k:Int),(E:Int),S,(p:Int))
 | .inr (g,l,dg,x,s,m,d,M,P,e)=>.inr (g,l,dg,(x:Int),(s:Int),m,d,(M.1:Int),(M.2.1:Int),(M.2.2:Int),(P.1:Int),S,(e:Int))
theorem F5 (S:aa) (a:Nat) (h:a<=S.length) (o:S.length<100000):iG 20000000 S (a:Int)=some (Vh S (fC S a)):=by
 have i:jL 20000000 S (a:Int)=_:=SJ 19999700 S a h o (by omega);unfold iG fC;rw [i];cases j:rD S a with
 | inl k=>rfl
 | inr r=>
  obtain ⟨g,l,dg,x,s,f,d,M,P,e⟩:=r;have b:=HQ h j;have n:=b.all;have t:=b.m2;have p:=b.dg17;simp only [ob,XF,d4,d8];rw [wC (g:=g) (l:=l) (x:=(x:Int)) (q:=(s:Int)) (d:=d) (show f.length<=18 by omega) (show dg.length<=100 by omega) (show (0:Int)<=(M.1:Int) by omega) (show (0:Int)<=(M.2.1:Int) by omega) (show (0:Int)<=(M.2.2:Int) by omega)];simp only [ob];have c:=zr (g:=g) (l:=l) (dg:=dg) (x:=(x:Int)) (q:=(s:Int)) (m:=f) (d:=d) (k0:=(M.1:Int)) (k1:=(M.2.1:Int)) (k2:=(M.2.2:Int)) (ye n);unfold chkR;simp only [];rcases c with hc | hc | hc | hc<;>rw [hc]<;>rfl
def dayY (y:Int):Int:=365*y+(1+(y - 1) / 4 - (y - 1) / 100+(y - 1) / 400)
def cumM (y:Int):Nat->Int
 | 0=>0
 | k+1=>cumM y k+lenI y ((k+1:Nat):Int)
def dayM (y:Int) (m:Nat):Int:=if m<=12 then dayY y+cumM y (m - 1) else dayY (y+1)+cumM (y+1) (m - 13)
theorem DU (y:Int):dayY (y+1)=dayY y+365+(if tQ y then 1 else 0):=by
 unfold dayY tQ;simp only [aA,g9,cn];split<;>omega
theorem G1 (n:Int):dayY (400*n)=146097*n:=by
 unfold dayY;omega
theorem kv {y:Int} (h:-20000000000000000<=y/\y<=20000000000000000):-8000000000000000000<=dayY y/\dayY y<=8000000000000000000:=by
 unfold dayY;omega
theorem XO (y:Int):cumM y 12=365+(if tQ y then 1 else 0):=by
 have e:∀k:Nat,cumM y (k+1)=cumM y k+lenI y ((k+1:Nat):Int):=λ_=>rfl;have z:cumM y 0=0:=rfl;rw [e 11,e 10,e 9,e 8,e 7,e 6,e 5,e 4,e 3,e 2,e 1,e 0,z];unfold lenI;cases tQ y<;>rfl
theorem ri (y:Int):∀k:Nat,0<=cumM y k/\cumM y k<=31*(k:Int)
 | 0=>by simp [cumM]
 | k+1=>by
  have b:=ri y k;have a:=lF y ((k+1:Nat):Int);show 0<=cumM y k+lenI y ((k+1:Nat):Int)/\cumM y k+lenI y ((k+1:Nat):Int)<=_;omega
theorem o6 {y:Int} (h:dW y) {m:Nat} (a:m<=24):-8100000000000000000<=dayM y m/\dayM y m<=8100000000000000000:=by
 unfold dW at h;unfold dayM;split
 ·have:=ri y (m - 1);have:=kv (y:=y) (by omega);omega
 ·have:=ri (y+1) (m - 13);have:=kv (y:=y+1) (by omega);omega
theorem SR (y:Int):dayM y 13=dayY (y+1):=by
 unfold dayM;rw [ab (by omega)];simp [cumM]
theorem J9 (y:Int) {m:Nat} (b:1<=m) (a:m<=12):dayM y (m+1)=dayM y m+lenI y (m:Int):=by
 obtain ⟨k,rfl⟩:∃k,m=k+1:=⟨m - 1,by omega⟩;have e:dayM y (k+1)=dayY y+cumM y k:=by unfold dayM;rw [ae (by omega)];rfl
 rw [e];by_cases h:k+1=12
 ·obtain rfl:k=11:=by omega
  rw [SR,DU];have:=XO y;have e:cumM y 12=cumM y 11+lenI y ((11+1:Nat):Int):=rfl;omega
 ·have:dayM y (k+1+1)=dayY y+cumM y (k+1):=by unfold dayM;rw [ae (by omega)];rfl
  rw [this];show dayY y+(cumM y k+lenI y ((k+1:Nat):Int))=_;omega
theorem C7 (y:Int) {m:Nat} (b:1<=m) (a:m<=12):dayM y (m+12)=dayM (y+1) m:=by
 unfold dayM;rw [ab (by omega),ae a];congr 2
theorem sM (n:Nat) {y:Int} (h:-10000000000000001<=y/\y<=10000000000000001):lI n y=some (dayY y):=by
 have a:=kv (y:=y) (by omega);unfold lI;rw [yA n (by omega),wrap_i64 (365*y) (by omega) (by omega)];show some (IntKind.wrap .i64 (dayY y))=_;rw [wrap_i64 _ (by omega) (by omega)]
theorem sI (n:Nat) {y:Int} (h:dW y):lJ n y=some (dayY y,0):=by
 unfold lJ;have h':=h;unfold dW at h';rw [gp,ae h,sM n (by omega)];rfl
theorem Dy (n:Nat) {y:Int} (h:dW y):um n y=some (dayY (y+1) - 1,0):=by
 unfold um;have h':=h;unfold dW at h';have a:=kv (y:=y+1) (by omega);rw [gp,ae h,wrap_i64 (y+1) (by omega) (by omega),sM n (by omega)];show some (IntKind.wrap .i64 (dayY (y+1) - 1),(0:Int))=_;rw [wrap_i64 _ (by omega) (by omega)]
theorem Gz (n:Nat) {y:Int} (h:dW y) {m:Nat} (e:m<=11):∀(r j:Nat),j+r=m->∀N,r<N->au (bO n) N (y,dayY y+cumM y j,(m:Int),(j:Int))=some (dayY y+cumM y m):=by
 have h':=h;unfold dW at h';have c:=kv (y:=y) (by omega);intro r
 induction r with
 | zero=>
  intro j a N b;obtain ⟨N,rfl⟩:∃k,N=k+1:=⟨N - 1,by omega⟩;obtain rfl:j=m:=by omega
  have:bO n (y,dayY y+cumM y j,(j:Int),(j:Int))=some (.inr (dayY y+cumM y j)):=by
   unfold bO;rw [bG,ab (show ¬((j:Int)<(j:Int)) by omega)]
  rw [au,this]
 | succ r ih=>
  intro j a N b;obtain ⟨N,rfl⟩:∃k,N=k+1:=⟨N - 1,by omega⟩;have w:IntKind.wrap .i64 ((j:Int)+1)=((j+1:Nat):Int):=by rw [wrap_i64 _ (by omega) (by omega)];omega
  have hc:=ri y j;have d:=lF y ((j+1:Nat):Int);have:bO n (y,dayY y+cumM y j,(m:Int),(j:Int))=some (.inl (y,dayY y+cumM y (j+1),(m:Int),((j+1:Nat):Int))):=by
   unfold bO;rw [bG,ae (show ((j:Int)<(m:Int)) by omega)];simp only [w,xX n h (show 1<=j+1 by omega) (show j+1<=12 by omega),ob];rw [wrap_i64 (dayY y+cumM y j+lenI y ((j+1:Nat):Int)) (by omega) (by omega),Int.add_assoc];rfl
  rw [au,this];exact ih (j+1) (by omega) N (by omega)
theorem ut (n:Nat) (c:100<n) {y:Int} (h:dW y) {m:Nat} (b:1<=m) (a:m<=12):fE n y (m:Int)=some (dayM y m,0):=by
 unfold fE;have w:IntKind.wrap .i64 ((m:Int) - 1)=((m - 1:Nat):Int):=by rw [wrap_i64 _ (by omega) (by omega)];omega
 rw [Ib n h b a,sI n h,w];have:=Gz n h (m:=m - 1) (by omega) (m - 1) 0 (by omega) n (by omega);rw [show dayY y+cumM y 0=dayY y by simp [cumM]] at this;show ob (au (bO n) n (y,dayY y,((m - 1:Nat):Int),((0:Nat):Int))) _=_;rw [this];unfold dayM;rw [ae a];rfl
theorem Fe (n:Nat) (c:100<n) {y:Int} (h:dW y) {m:Nat} (b:1<=m) (a:m<=12):gR n y (m:Int)=some (dayM y (m+1) - 1,0):=by
 unfold gR;have d:=o6 h (m:=m) (by omega);have e:=lF y (m:Int);rw [ut n c h b a,xX n h b a,J9 y b a];show some (IntKind.wrap .i64 (IntKind.wrap .i64 (dayM y m+lenI y (m:Int)) - 1),(0:Int))=_;rw [wrap_i64 (dayM y m+lenI y (m:Int)) (by omega) (by omega),wrap_i64 _ (by omega) (by omega)]
theorem I7 (n:Nat) (d:100<n) {y:Int} (h:dW y) {j m c:Nat} (l:j<21) (e:nL[j]?=some ((m:Int),(c:Int))) (g:1<=m) (f:m<=12) (i:1<=c) (o:c<=6) (hy:12<m+c - 1->y≠10000000000000000):
  il n y ((21+j:Nat):Int)=some (0,dayM y m,0,dayM y (m+c) - 1,0):=by
 have k:fG n ((21+j:Nat):Int)=some ((m:Int),(c:Int),0):=by
  unfold fG dN;rw [bG,bG,ab (by omega),ab (by omega)];have:IntKind.wrap .i64 (((21+j:Nat):Int) - 21)=(j:Int):=by rw [wrap_i64 _ (by omega) (by omega)];omega
  rw [this,dY l];show ob (nL[j]?) _=_;rw [e];rfl
 unfold il;rw [k];simp only [ob,eC,af];rw [ut n d h g f];simp only [ob,eC,af];rw [madd n h g f i o];have h':=h;unfold dW at h';by_cases a:12<m+c - 1
 ·rw [ae a,ab (hy a)];have b:dW (y+1):=by unfold dW;have:=hy a;omega
  simp only [ob,eC,af];rw [Fe n d b (m:=m+c - 1 - 12) (by omega) (by omega)];have:=C7 y (m:=m+c - 1 - 12+1) (by omega) (by omega);rw [show m+c - 1 - 12+1+12=m+c by omega] at this;rw [this]
 ·rw [ab a];simp only [ob,eC,af];rw [Fe n d h (m:=m+c - 1) (by omega) (by omega),show m+c - 1+1=m+c by omega]
theorem zX (n:Nat) {y:Int} (hy:-10000000000000002<=y/\y<=10000000000000002):∀(r:Nat) (z:Int),z+(r:Int)=y->-10000000000000402<=z->∀N,r<N->au (cY n) N (y,dayY z,z)=some (dayY y):=by
 intro r
 induction r with
 | zero=>
  intro z e b N d;obtain ⟨N,rfl⟩:∃k,N=k+1:=⟨N - 1,by omega⟩;obtain rfl:z=y:=by omega
  have:cY n (z,dayY z,z)=some (.inr (dayY z)):=by
   unfold cY;rw [bG,ab (show ¬(z<z) by omega)]
  rw [au,this]
 | succ r ih=>
  intro z e b N d;obtain ⟨N,rfl⟩:∃k,N=k+1:=⟨N - 1,by omega⟩;have f:=kv (y:=z) (by omega);have a:=DU z;have:cY n (y,dayY z,z)=some (.inl (y,dayY (z+1),z+1)):=by
   unfold cY;rw [bG,ae (show z<y by omega),Cj];have c:lenI z 2=if tQ z then 29 else 28:=rfl
   simp only [ob,c];rw [wrap_i64 (dayY z+365) (by omega) (by omega),wrap_i64 (dayY z+365+1) (by omega) (by omega),wrap_i64 (z+1) (by omega) (by omega),a];cases tQ z
   ·simp
   ·rfl
  rw [au,this];exact ih (z+1) (by omega) (by omega) N (by omega)
theorem rZ (n:Nat) (e:1000<n) {y:Int} (hy:-10000000000000002<=y/\y<=10000000000000002):ci n y=some (dayY y):=by
 have b:=Int.mul_tdiv_add_tmod y 400;have d:Int.tmod y 400=if 0<=y then y%400 else -((-y)%400):=by
  by_cases h:0<=y
  ·rw [ae h,Kw h]
  ·rw [ab h,<-Kw (show 0<=-y by omega),Int.neg_tmod,Int.neg_neg]
 unfold ci;by_cases a:Int.tmod y 400<0
 ·rw [am a];have c:Int.tdiv y 400 - 1=y / 400:=by
   rw [d] at a b;split at a
   ·omega
   ·rw [ab (by assumption)] at b;omega
  rw [wrap_i64 (Int.tdiv y 400) (by omega) (by omega),c,wrap_i64 (y / 400) (by omega) (by omega),wrap_i64 (y / 400*146097) (by omega) (by omega),wrap_i64 (y / 400*400) (by omega) (by omega)];have:=zX n hy (y - y / 400*400).toNat (y / 400*400) (by omega) (by omega) n (by omega);rw [show dayY (y / 400*400)=y / 400*146097 by rw [Am,G1,Am]] at this;simp only [ah,this,ob]
 ·rw [ar a];have c:Int.tdiv y 400=y / 400:=by
   rw [d] at a b;split at a
   ·rw [ae (by assumption)] at b;omega
   ·rw [ab (by assumption)] at b;omega
  rw [c,wrap_i64 (y / 400) (by omega) (by omega),wrap_i64 (y / 400*146097) (by omega) (by omega),wrap_i64 (y / 400*400) (by omega) (by omega)];have:=zX n hy (y - y / 400*400).toNat (y / 400*400) (by omega) (by omega) n (by omega);rw [show dayY (y / 400*400)=y / 400*146097 by rw [Am,G1,Am]] at this;simp only [af,this,ob]
theorem xk {step:Int×Int×Int×Int->Option ((Int×Int×Int×Int)⊕Int)} (n:Nat)
  (hs:step=λx=>(cond (decide (x.2.2.2<x.2.1)) (ob (eJ n x.1 x.2.2.2) λr=>(some (.inl (x.1,x.2.1,(IntKind.wrap .i64 (x.2.2.1+r)),(IntKind.wrap .i64 (x.2.2.2+1)))))) (some (.inr x.2.2.1))))
  {y:Int} (hy:-10000000000000002<=y/\y<=10000000000000002) {m:Nat} (h:1<=m) (c:m<=12) {N:Nat} (a:20<N):au step N (y,(m:Int),dayY y,1)=some (dayM y m):=by
 have f:=kv (y:=y) (by omega);have d:∀(r j:Nat),j+1+r=m->∀N,r<N->au step N (y,(m:Int),dayY y+cumM y j,((j+1:Nat):Int))=some (dayY y+cumM y (m - 1)):=by
  intro r
  induction r with
  | zero=>
   intro j b N a;obtain ⟨N,rfl⟩:∃k,N=k+1:=⟨N - 1,by omega⟩;obtain rfl:j+1=m:=by omega
   have:step (y,((j+1:Nat):Int),dayY y+cumM y j,((j+1:Nat):Int))=some (.inr (dayY y+cumM y j)):=by
    rw [hs];simp only [];rw [ar (show ¬(((j+1:Nat):Int)<((j+1:Nat):Int)) by omega)];rfl
   rw [au,this];rfl
  | succ r ih=>
   intro j b N a;obtain ⟨N,rfl⟩:∃k,N=k+1:=⟨N - 1,by omega⟩;have w:IntKind.wrap .i64 (((j+1:Nat):Int)+1)=((j+1+1:Nat):Int):=by rw [wrap_i64 _ (by omega) (by omega)];omega
   have hc:=ri y j;have g:=lF y ((j+1:Nat):Int);have:step (y,(m:Int),dayY y+cumM y j,((j+1:Nat):Int))=some (.inl (y,(m:Int),dayY y+cumM y (j+1),((j+1+1:Nat):Int))):=by
    rw [hs];simp only [];rw [am (show (((j+1:Nat):Int)<(m:Int)) by omega),Cj];simp only [ah,ob,w];rw [wrap_i64 (dayY y+cumM y j+lenI y ((j+1:Nat):Int)) (by omega) (by omega),Int.add_assoc];rfl
   rw [au,this];exact ih (j+1) (by omega) N (by omega)
 have:=d (m - 1) 0 (by omega) N (by omega);rw [show dayY y+cumM y 0=dayY y by simp [cumM]] at this;have e:dayM y m=dayY y+cumM y (m - 1):=by unfold dayM;rw [ae c]
 rw [e];exact this
theorem rI (n:Nat) (a:1000<n) {y:Int} (hy:-10000000000000001<=y/\y<=10000000000000001) {m:Nat} (c:1<=m) (b:m<=24):aS n y (m:Int)=some (dayM y m):=by
 unfold aS;by_cases h:12<m
 ·rw [am (show (m:Int)>12 by omega),wrap_i64 (y+1) (by omega) (by omega),wrap_i64 ((m:Int) - 12) (by omega) (by omega),show (m:Int) - 12=((m - 12:Nat):Int) by omega];unfold kg;rw [ar (show ¬((m - 12:Nat):Int)>12 by omega),rZ n a (by omega)];simp only [ah,af,ob];have:=xk (step:=iW n) n rfl (y:=y+1) (by omega) (m:=m - 12) (by omega) (by omega) (N:=n) (by omega);rw [this,<-C7 y (by omega) (by omega),show m - 12+12=m by omega]
 ·rw [ar (show ¬(m:Int)>12 by omega),rZ n a (by omega)];simp only [af,ob];have:=xk (step:=kj n) n rfl (y:=y) (by omega) (m:=m) (by omega) (by omega) (N:=n) (by omega);rw [this]
def twoV (s:aa):Nat:=match s with
 | [a,b]=>10*(a.toNat - 48)+(b.toNat - 48)
 | _=>0
def yOf (g:Bool) (dg:aa) (x:Int):Int:=if g then -((val dg x.toNat:Nat):Int) else ((val dg x.toNat:Nat):Int)
def spF (m:aa):Nat:=((nL.getD (sea m - 21).toNat (0,0)).1).toNat
def spC (m:aa):Nat:=((nL.getD (sea m - 21).toNat (0,0)).2).toNat
def pP (g:Bool) (dg:aa) (x:Int) (m d:aa):Int×Int:=
 if m=[] then (dayY (yOf g dg x),dayY (yOf g dg x+1) - 1)
 else if 0<sea m then (dayM (yOf g dg x) (spF m),dayM (yOf g dg x) (spF m+spC m) - 1)
 else if d=[] then (dayM (yOf g dg x) (twoV m),dayM (yOf g dg x) (twoV m+1) - 1)
 else (dayM (yOf g dg x) (twoV m)+(twoV d:Int) - 1,dayM (yOf g dg x) (twoV m)+(twoV d:Int) - 1)
def exD (dg m d:aa) (q:Int):Bool:=!(hasX dg||(hasX m||hasX d))&&(q==0)
theorem Rz {s:aa} (h:hasX s=false) {c:UInt8} (hc:c∈s):c≠88:=by
 rintro rfl;unfold hasX at h;rw [sP] at h;exact h 88 hc (by decide)
theorem KN {s:aa} (h:hasX s=false) {k:Nat} (l:k<100) (c:agr s k=true):twoV s=k/\s=two k:=by
 unfold agr at c;split at c
 ·rename_i a b;have e:a≠88:=Rz h (by simp);have f:b≠88:=Rz h (by simp);simp only [aA,g9,bu] at c;obtain ⟨g,d⟩:=c;have g:=g.resolve_left e;have d:=d.resolve_left f;subst g d;refine ⟨?_,rfl⟩;unfold twoV;have i:(UInt8.ofNat (48+k / 10)).toNat=48+k / 10:=by simp;omega
  have j:(UInt8.ofNat (48+k%10)).toNat=48+k%10:=by simp;omega
  simp only [i,j];omega
 ·cases c
theorem zR {s:aa} (h:hasX s=false) {g:Nat} (d:g<100) (a:eT s g=true):1<=twoV s/\twoV s<=g/\s=two (twoV s):=by
 unfold eT at a;obtain ⟨i,hi,a⟩:=sN.1 a;have:=la.1 hi;obtain ⟨b,c⟩:=KN h (by omega) a;rw [b];exact ⟨by omega,by omega,c⟩
theorem N3 {s:aa} (h:hasX s=false) {g:Nat} (d:g<100) {k:Int} (a:k∈tR (fitN s g)):k=(twoV s:Int):=by
 obtain ⟨i,hi,rfl⟩:=ej.1 a;obtain ⟨c,b⟩:=lz.1 hi;have:=tP.1 c;rw [(KN h (by omega) b).1]
theorem Hi {k:Nat} (c:k<100):Lib.atoi (two k)=some (k:Int):=by
 have b:(UInt8.ofNat (48+k / 10)).toNat=48+k / 10:=by simp;omega
 have a:(UInt8.ofNat (48+k%10)).toNat=48+k%10:=by simp;omega
 unfold two;rw [IM (by omega) (by omega),b,a];congr 2;omega
theorem zQ (n:Nat) {k:Nat} (d:k<100):ba n (two k)=some (k:Int):=by
 have c:(UInt8.ofNat (48+k / 10)).toNat=48+k / 10:=by simp;omega
 have b:(UInt8.ofNat (48+k%10)).toNat=48+k%10:=by simp;omega
 have s0:sx (two k) 0=some (UInt8.ofNat (48+k / 10)):=rfl;have a:sx (two k) 1=some (UInt8.ofNat (48+k%10)):=rfl;unfold ba;rw [s0,a];simp only [ob,c,b]
 rw [ia (((48+k / 10:Nat):Int) - 48) (by omega) (by omega),ia (((48+k%10:Nat):Int) - 48) (by omega) (by omega),
  wrap_i64 (((48+k / 10:Nat):Int) - 48) (by omega) (by omega),wrap_i64 (((48+k%10:Nat):Int) - 48) (by omega) (by omega),
  wrap_i64 (10*(((48+k / 10:Nat):Int) - 48)) (by omega) (by omega),wrap_i64 _ (by omega) (by omega)]
 congr 1;omega
structure Exact (g l:Bool) (dg:aa) (x:Int) (m d:aa):Prop where
 ok:okY g l dg x 0
 num:hasX dg=false
 cal:dW (yOf g dg x)
 mon:m=[]\/(∃j,j<21/\m=two (21+j)/\(j=3\/j=7\/j=9->yOf g dg x≠10000000000000000))\/(sea m=0/\1<=twoV m/\twoV m<=12/\m=two (twoV m))
 day:d=[]\/(m≠[]/\sea m=0/\1<=twoV d/\twoV d<=31/\d=two (twoV d)/\(twoV d:Int)<=lenI (yOf g dg x) (twoV m:Int))
theorem vY {g l:Bool} {dg:aa} {x q:Int} {m d:aa} {k0 k1 k2:Int} (hc:chkF g l dg x q m d k0 k1 k2=0) (k:exD dg m d q=true):q=0/\Exact g l dg x m d:=by
 unfold exD at k;simp only [aA,kQ,pi,bu] at k;obtain ⟨⟨y,i,r⟩,rfl⟩:=k;refine ⟨rfl,?_⟩;have E:=pB hc;obtain ⟨a,K,O,R,A⟩:=pm E;obtain ⟨s,J,M,Q⟩:=JX E;have f:=FT a y;obtain ⟨F,_,_⟩:=FK a;have hy:inP g dg x 0 (yOf g dg x):=by
  have:=(f _).1 F;have e:yOf g dg x=(sgn g (nP g dg x 0)).1:=by rw [this];rfl
  rw [e];exact F
 have n:=Ax hy;refine ⟨a,y,n,?_,?_⟩
 ·by_cases p:m=[]
  ·exact .inl p
  ·right;rcases pH m with P | ⟨j,G,e⟩
   ·right;rcases J with h | h | h
    ·exact absurd h p
    ·omega
    ·obtain ⟨a1,a2,t⟩:=zR i (by omega) h;exact ⟨P,a1,a2,t⟩
   ·left;refine ⟨j,G,e,λH=>?_⟩;unfold yrD at s;rw [ae a] at s;unfold yrB at s;simp only [aA,kQ] at s;have C:wint (sea m)=true:=by
     rw [e,lE G];rcases H with rfl | rfl | rfl<;>rfl
    have o:=s.2;rw [C,mN] at o;unfold sB at o;rw [y] at o;intro b;unfold yOf at b;cases g with
    | true=>
     simp only [aO] at b;omega
    | false=>
     simp only [bw,aC] at b;have:val dg x.toNat=E16:=by unfold E16;omega
     rw [am this] at o;cases o
 ·by_cases c:d=[]
  ·exact .inl c
  ·right;obtain ⟨p,hs⟩:=A c;rcases M with h | ⟨_,_,h⟩
   ·exact absurd h c
   ·obtain ⟨a1,a2,t⟩:=zR r (by omega) h;refine ⟨p,hs,a1,a2,t,?_⟩;have I:hasF g dg x m d:=by
     unfold chkF at hc;split at hc
     ·cases hc
     ·rename_i N;by_cases h:hasF g dg x m d
      ·exact h
      ·exact absurd ⟨E,c,h⟩ N
    obtain ⟨e,k,v⟩:=I;obtain ⟨z,L,B⟩:=List.exists_cons_of_ne_nil v;have B:z∈vL m d e:=by rw [B];exact lL
    obtain ⟨z1,z2,w,D⟩:=HK.1 B;have u:e=yOf g dg x:=(f e).1 k;unfold monI at z2;rw [ab p,ab (by omega)] at z2;unfold dayI at w;rw [ab c] at w;unfold vK at D;rw [ab c,N3 r (by omega) w,N3 i (by omega) z2,u] at D;exact D
theorem LR {j:Nat} (a:j<21):∃f c:Nat,nL[j]?=some ((f:Int),(c:Int))/\1<=f/\f<=12/\1<=c/\c<=6/\(12<f+c - 1↔j=3\/j=7\/j=9)/\spF (two (21+j))=f/\spC (two (21+j))=c:=by
 obtain ⟨f,c,e,d,h,k,i,g⟩:=GQ a;have hs:(sea (two (21+j)) - 21).toNat=j:=by rw [lE a];omega
 have b:nL.getD j (0,0)=((f:Int),(c:Int)):=by rw [EK,e];rfl
 refine ⟨f,c,e,d,h,k,i,g,?_,?_⟩
 ·unfold spF;rw [hs,b];rfl
 ·unfold spC;rw [hs,b];rfl
theorem DI (n:Nat) {j:Nat} (a:j<21):gQ n ((21+j:Nat):Int)=nL[j]?:=by
 have:j=0\/j=1\/j=2\/j=3\/j=4\/j=5\/j=6\/j=7\/j=8\/j=9\/j=10\/j=11\/j=12\/j=13\/j=14\/j=15\/j=16\/j=17\/j=18\/j=19\/j=20:=by omega
 rcases this with rfl | rfl | rfl | rfl | rfl | rfl | rfl | rfl | rfl | rfl | rfl | rfl | rfl | rfl | rfl | rfl | rfl | rfl | rfl | rfl | rfl<;>rfl
theorem GX (n:Nat) (g l:Bool) (dg:aa) (x q:Int) (m d:aa) (k0 k1 k2:Int) (b:m.length<=1000) (a:dg.length<=1000) (h:d.length<=1000):mu n g l dg x q m d k0 k1 k2=some (exD dg m d q):=by
 unfold mu exD;rw [D6 n g l dg x q m d k0 k1 k2 b a h];simp only [ob];cases (hasX dg||(hasX m||hasX d))<;>rfl
theorem QW {Y:Type} (a b:Y):∀s:aa,((s.findSome? λc=>if c=88 then some a else none).getD b)=if hasX s then a else b
 | []=>rfl
 | c::s=>by
  have ih:=QW a b s;unfold hasX at ih ⊢;rw [DO,qY];by_cases hc:c=88
  ·subst hc;rfl
  ·rw [ab hc];have e:(c==88)=false:=aK.2 hc;rw [e,oP];exact ih
theorem ze (n:Nat) (s:aa) (g l:Bool) (dg:aa) (x q:Int) (m d:aa) (k0 k1 k2:Int) (hs:s.length<=100000) {N:Nat} (b:s.length<N):
  au (eo n) N (s,0,g,l,dg,x,q,m,d,k0,k1,k2)=some (if hasX s then .inl 0 else .inr (g,l,dg,x,q,m,d,k0,k1,k2)):=by
 have:=uc (step:=eo n) (f:=λi=>(s,(i:Int),g,l,dg,x,q,m,d,k0,k1,k2)) (L:=s) (G:=λc=>if c=88 then some (.inl 0) else none) (e:=.inr (g,l,dg,x,q,m,d,k0,k1,k2))
  (λi c hi=>by
   have j:=(oV.1 hi).1;have a:IntKind.wrap .i64 ((i:Int)+1)=((i+1:Nat):Int):=by rw [wrap_i64 _ (by omega) (by omega)];omega
   unfold eo;simp only [d4,d8,a];rw [am (show (i:Int)<((s.length:Nat):Int) by omega),eG hi];simp only [ah,ob];by_cases hc:c=88
   ·subst hc;rw [ae rfl];rfl
   ·rw [ab hc];have:(((c.toNat:Nat):Int)==88)=false:=by
     rw [aK];intro h;apply hc;apply gG.1;have:c.toNat=88:=by omega
     rw [this];rfl
    rw [this];rfl)
  (by
   unfold eo;simp only [d4,d8];rw [ar (show ¬((s.length:Nat):Int)<((s.length:Nat):Int) by omega)];rfl)
  b
 rw [show ((0:Nat):Int)=0 from rfl] at this;rw [this];rw [QW]
theorem Dj (n:Nat) (g l:Bool) (dg:aa) (x q:Int) (m d:aa) (k0 k1 k2:Int) (i:m.length<=1000) (f:dg.length<=1000) (h:d.length<=1000) (e:4000<n):aU n g l dg x q m d k0 k1 k2=some (if exD dg m d q then 1 else 0):=by
 unfold aU;rw [cJ (by omega)];simp only [ob];rw [cJ (by rw [aR];omega)];simp only [];rw [ze n _ _ _ _ _ _ _ _ _ _ _ (by simp only [aR];omega) (by simp only [aR];omega)];rw [vW,vW];unfold exD;cases hasX dg<;>cases hasX m<;>cases hasX d<;>(try rfl);simp only [vI,bw,aC,ob,d4,i7,mN];by_cases a:q=0
 ·subst a;rfl
 ·have c:(q != 0)=true:=by simp [a]
  have b:(q==0)=false:=aK.2 a;rw [c,b];rfl
theorem Sm (n:Nat) (c:100<n) {y:Int} (h:dW y) {m k:Nat} (b:1<=m) (a:m<=12) (k1:1<=k) (k2:(k:Int)<=lenI y (m:Int)):rW n y (m:Int) (k:Int)=some (dayM y m+(k:Int) - 1,0):=by
 have d:=o6 h (m:=m) (by omega);have e:=lF y (m:Int);unfold rW rC;rw [Ov n h b a];simp only [ob,eC,af];rw [ar (show ¬(k:Int)<1 by omega),ar (show ¬(k:Int)>lenI y (m:Int) by omega),ut n c h b a];simp only [ob,eC,af];rw [wrap_i64 (dayM y m+(k:Int)) (by omega) (by omega),wrap_i64 _ (by omega) (by omega)]
section
variable {g l:Bool} {dg:List UInt8} {x:Int} {m d:List UInt8} {k0 k1 k2:Int}
theorem Fb (n:Nat) (u:100<n) (A:m.length<=18) (E:Exact g l dg x m d) (p r:Int) (D:m≠[]->p=if 0<sea m then sea m else (twoV m:Int)) (O:d≠[]->r=(twoV d:Int)):
  (ob (jd n) λC=>(ob (bp n g l dg x 0 m d k0 k1 k2) λa=>(cond (a==0) (ob (gq n (yOf g dg x) ([p,r]:List (Int))) λb=>(some (b.1,b.2.1,b.2.2.1,b.2.2.2,(0:Int)))) (cond (a==1) (ob (gA n (yOf g dg x) ([p,r]:List (Int))) λi=>(some (i.1,i.2.1,i.2.2.1,i.2.2.2,0))) (cond (a==2) (ob (gx n (yOf g dg x) ([p,r]:List (Int))) λk=>(some (k.1,k.2.1,k.2.2.1,k.2.2.2,0))) (cond (a==3) (ob (gn n (yOf g dg x) ([p,r]:List (Int))) λo=>(some (o.1,o.2.1,o.2.2.1,o.2.2.2,0))) none)))))) =
   some (0,(pP g dg x m d).1,0,(pP g dg x m d).2,0):=by
 have M:jd n=some ():=rfl;have B:ix ([p,r]:List Int).length 0=some 0:=rfl;have N:ix ([p,r]:List Int).length 1=some 1:=rfl;have g0:([p,r]:List Int)[0]?=some p:=rfl;have I:([p,r]:List Int)[1]?=some r:=rfl;rw [M,Oj n g l dg x 0 m d k0 k1 k2 A];unfold pP;by_cases t:d=[]
 ·rw [ae t];by_cases q:m=[]
  ·have hs:sea m=0:=by rw [q];decide
   rw [ab (show ¬0<sea m by omega),ae q,ae q];unfold gA;rw [sI n E.cal,Dy n E.cal];rfl
  ·rw [ab q];by_cases hs:0<sea m
   ·rw [ae hs,ae hs];rcases E.mon with h | ⟨j,s,e,v⟩ | ⟨h,_⟩
    ·exact absurd h q
    ·obtain ⟨f,c,K,a1,a2,F,P,J,H,L⟩:=LR s;have w:p=((21+j:Nat):Int):=by rw [D q,ae hs,e,lE s]
     unfold gq;rw [B];simp only [ob,g0];rw [w,I7 n u E.cal s K a1 a2 F P (λh=>v (J.1 h)),e,H,L];rfl
    ·omega
   ·rw [ab hs,ab hs,ab q,ae t];rcases E.mon with h | ⟨j,s,e,v⟩ | ⟨_,a1,a2,_⟩
    ·exact absurd h q
    ·rw [e,lE s] at hs;omega
    ·have w:p=(twoV m:Int):=by rw [D q,ab hs]
     unfold gx;rw [B];simp only [ob,g0];rw [w,ut n u E.cal a1 a2,Fe n u E.cal a1 a2];rfl
 ·rw [ab t];rcases E.day with h | ⟨q,hs,b1,b2,Q,G⟩
  ·exact absurd h t
  ·rw [ab q,ab (show ¬0<sea m by omega),ab t];rcases E.mon with h | ⟨j,s,e,v⟩ | ⟨_,a1,a2,_⟩
   ·exact absurd h q
   ·rw [e,lE s] at hs;omega
   ·have z:p=(twoV m:Int):=by rw [D q,ab (by omega)]
    have y:=O t;unfold gn;rw [B,N];simp only [ob,g0,I];rw [z,y,Sm n u E.cal a1 a2 b1 G];rfl
theorem Pi (E:Exact g l dg x m d) (b:m≠[]):Lib.atoi m=some (if 0<sea m then sea m else (twoV m:Int)):=by
 rcases E.mon with h | ⟨j,a,e,_⟩ | ⟨f,a1,a2,c⟩
 ·exact absurd h b
 ·rw [e,lE a,ae (by omega)];exact yP a
 ·rw [ab (by omega)];have:=Hi (k:=twoV m) (by omega);rw [<-c] at this;exact this
theorem Py (E:Exact g l dg x m d) (a:d≠[]):Lib.atoi d=some (twoV d:Int):=by
 rcases E.day with h | ⟨_,_,a1,a2,b,_⟩
 ·exact absurd h a
 ·have:=Hi (k:=twoV d) (by omega);rw [<-b] at this;exact this
theorem BE:Lib.atoi []=none:=by kernel_rfl
theorem FR {q:Int} (b:m.length<=18) (e:dg.length<=100) (n:d.length<=18) (s:0<=k0) (t:0<=k1) (r:0<=k2):
  gB 20000000 g l dg x q m d k0 k1 k2=some (if chkF g l dg x q m d k0 k1 k2=0 then (if exD dg m d q=true then (0,(pP g dg x m d).1,0,(pP g dg x m d).2,0) else (0,0,0,0,1)) else (0,0,0,0,chkF g l dg x q m d k0 k1 k2)):=by
 have p:Nat.ble m.length 18=true:=cT b;have o:Nat.ble d.length 18=true:=cT n;unfold gB;rw [wC b e s t r];simp only [ob];by_cases hc:chkF g l dg x q m d k0 k1 k2=0
 ·rw [ae hc,hc,GX 20000000 g l dg x q m d k0 k1 k2 (by omega) (by omega) (by omega)];simp only [ob,eC,af];by_cases c:exD dg m d q=true
  ·rw [ae c,c];obtain ⟨rfl,E⟩:=vY hc c;have k:eO 20000000 g l dg x 0=some (yOf g dg x,0):=by
    rw [AU 20000000 g l dg x 0 (by omega) e,ae ⟨E.ok,E.num⟩];rfl
   rw [k,p,o];simp only [cZ,af,ah,ob];by_cases f:m=[]
   ·have a:d=[]:=by
     rcases E.day with h | ⟨h,_⟩
     ·exact h
     ·exact absurd f h
    have:=Fb (k0:=k0) (k1:=k1) (k2:=k2) 20000000 (by omega) b E 0 0 (λh=>absurd f h) (λh=>absurd a h);have i:Lib.atoi m=none:=by rw [f];exact BE
    have j:Lib.atoi d=none:=by rw [a];exact BE
    rw [i,j];simp only [opt];exact this
   ·have i:=Pi E f;by_cases a:d=[]
    ·have:=Fb (k0:=k0) (k1:=k1) (k2:=k2) 20000000 (by omega) b E (if 0<sea m then sea m else (twoV m:Int)) 0 (λ_=>rfl) (λh=>absurd a h);have j:Lib.atoi d=none:=by rw [a];exact BE
     rw [i,j];simp only [opt];exact this
    ·have:=Fb (k0:=k0) (k1:=k1) (k2:=k2) 20000000 (by omega) b E (if 0<sea m then sea m else (twoV m:Int)) (twoV d:Int) (λ_=>rfl) (λ_=>rfl);rw [i,Py E a];simp only [opt];exact this
  ·rw [ab c];rw [GV] at c;rw [c];rfl
 ·rw [ab hc,bne0 hc];rfl
theorem vp (E:Exact g l dg x m d) (L:dg.length<=100):bq 20000000 g l dg x 0 m d k0 k1 k2=some (pP g dg x m d):=by
 obtain ⟨k,q,rfl,Z,I⟩:=sW E.ok E.num;have Y:k<=17:=by have:=I.wide;omega
 have hs:=I.small;have H:ak 20000000 dg (k:Int)=some (((val dg k:Nat):Int),1):=by
  rw [jw 20000000 dg k I.dig L (by omega) (by omega),ae I.small];rfl
 have T:dval 0 dg*10 ^ k=val dg k:=rfl;rw [T] at hs;unfold E16 at hs;have hy:yOf g dg (k:Int)=if g then -((val dg k:Nat):Int) else ((val dg k:Nat):Int):=by unfold yOf;rw [bR]
 have F:=E.cal;unfold dW at F;have key:∀y:Int,y=yOf g dg (k:Int)->
   (ob (aN 20000000 g l dg (k:Int) 0 m d k0 k1 k2) λn=>(cond (m==([]:aa)) (ob (ci 20000000 y) λA=>(ob (ci 20000000 (IntKind.wrap .i64 (y+1))) λv=>(some (A,(IntKind.wrap .i64 (v - 1)))))) (cond (decide (n>0)) (ob (gQ 20000000 n) λa=>(ob (aS 20000000 y a.1) λt=>(ob (aS 20000000 y (IntKind.wrap .i64 (a.1+a.2))) λr=>(some (t,(IntKind.wrap .i64 (r - 1))))))) (cond (d==([]:aa)) (ob (ba 20000000 m) λp=>(ob (aS 20000000 y p) λz=>(ob (ba 20000000 m) λu=>(ob (aS 20000000 y (IntKind.wrap .i64 (u+1))) λs=>(some (z,(IntKind.wrap .i64 (s - 1)))))))) (ob (ba 20000000 m) λo=>(ob (aS 20000000 y o) λb=>(ob (ba 20000000 d) λi=>(some ((IntKind.wrap .i64 ((IntKind.wrap .i64 (b+i)) - 1)),(IntKind.wrap .i64 ((IntKind.wrap .i64 (b+i)) - 1)))))))))) )=some (pP g dg (k:Int) m d):=by
  intro y J;subst J;have hcal':=E.cal;have X:=kv (y:=yOf g dg (k:Int)+1) (by omega);rw [nE 20000000 (by omega)];simp only [ob];unfold pP;by_cases B:m=[]
  ·have e:(m==([]:aa))=true:=by rw [B];rfl
   rw [ae B,e,rZ 20000000 (by omega) (by omega),wrap_i64 (yOf g dg (k:Int)+1) (by omega) (by omega),rZ 20000000 (by omega) (by omega)];simp only [ah,ob];rw [wrap_i64 _ (by omega) (by omega)]
  ·rw [ab B,f7 B];simp only [af];by_cases hs:0<sea m
   ·rw [ae hs,am (show sea m>0 from hs)];rcases E.mon with h | ⟨j,G,e,_⟩ | ⟨h,_⟩
    ·exact absurd h B
    ·obtain ⟨f,c,R,a1,a2,N,a4,W,Q,S⟩:=LR G;have K:sea m=((21+j:Nat):Int):=by rw [e,lE G]
     have P:=o6 hcal' (m:=f+c) (by omega);rw [K,DI 20000000 G,R];simp only [ah,ob];rw [rI 20000000 (by omega) (by omega) a1 (by omega)];simp only [ob];rw [wrap_i64 ((f:Int)+(c:Int)) (by omega) (by omega),show (f:Int)+(c:Int)=((f+c:Nat):Int) by omega,rI 20000000 (by omega) (by omega) (by omega) (by omega)];simp only [ob];rw [wrap_i64 _ (by omega) (by omega),e,Q,S]
    ·omega
   ·rw [ab hs,ar (show ¬sea m>0 from hs)];simp only [af];rcases E.mon with h | ⟨j,G,e,_⟩ | ⟨_,a1,a2,N⟩
    ·exact absurd h B
    ·rw [e,lE G] at hs;omega
    ·have M:=zQ 20000000 (k:=twoV m) (by omega);rw [<-N] at M;have P:=o6 hcal' (m:=twoV m) (by omega);have O:=o6 hcal' (m:=twoV m+1) (by omega);by_cases C:d=[]
     ·have e:(d==([]:aa))=true:=by rw [C];rfl
      rw [ae C,e,M];simp only [ah,ob];rw [rI 20000000 (by omega) (by omega) a1 (by omega)];simp only [ob];rw [wrap_i64 ((twoV m:Int)+1) (by omega) (by omega),show (twoV m:Int)+1=((twoV m+1:Nat):Int) by omega,rI 20000000 (by omega) (by omega) (by omega) (by omega)];simp only [ob];rw [wrap_i64 _ (by omega) (by omega)]
     ·rw [ab C,f7 C];rcases E.day with h | ⟨_,_,b1,b2,U,V⟩
      ·exact absurd h C
      ·have D:=zQ 20000000 (k:=twoV d) (by omega);rw [<-U] at D;rw [M];simp only [af,ob];rw [rI 20000000 (by omega) (by omega) a1 (by omega),D];simp only [ob];rw [wrap_i64 (dayM (yOf g dg (k:Int)) (twoV m)+(twoV d:Int)) (by omega) (by omega),wrap_i64 _ (by omega) (by omega)]
 unfold bq;rw [H];simp only [ob];cases g with
 | true=>
  have w:IntKind.wrap .i64 (0 - ((val dg k:Nat):Int))=yOf true dg (k:Int):=by
   rw [wrap_i64 _ (by omega) (by omega),hy];simp
  rw [w];simp only [ah];exact key _ rfl
 | false=>
  have w:((val dg k:Nat):Int)=yOf false dg (k:Int):=by rw [hy];rfl
  rw [w];simp only [af];exact key _ rfl
end
end Go.Sh
