
/- Plain proofs, kept as far as they are needed here (printed by prune.py).
   Conditions: none. -/
import Derived.Test.YtfiponokimbeeaaGreatDoorLawRza
set_option linter.unusedVariables false
set_option linter.unusedSimpArgs false
set_option maxRecDepth 100000
namespace Go.Sh
open Go.Abs
def cc (A B:Nat) (w:aa):aa:=mt A++w++mt B
def qM (g l:Bool) (dg:aa) (x q:Int) (m d:aa) (k0 k1 k2:Nat):aa:=
 cc (plA (cw m d) k0 k1 k2).1 (plB (cw m d) k0 k1 k2).1 (fj g l dg x q)
  ++ ((if m=[] then [] else 45::cc (plA (cw m d) k0 k1 k2).2.1 (plB (cw m d) k0 k1 k2).2.1 m)
  ++ (if d=[] then [] else 45::cc (plA (cw m d) k0 k1 k2).2.2 (plB (cw m d) k0 k1 k2).2.2 d))
structure OkD (g l:Bool) (dg:aa) (x q:Nat) (m d:aa) (k0 k1 k2:Nat):Prop where
 yr:okY g l dg (x:Int) (q:Int)
 x16:x<=16
 q17:q<=17
 dg17:dg.length<=17
 noM:0<q->m=[]
 mon:m=[]\/(m.length=2/\∀c∈m,isDX c=true)
 day:d=[]\/(m≠[]/\d.length=2/\∀c∈d,isDX c=true)
 m0:k0<4
 m1:k1<4
 m2:k2<4
 z1:cw m d<2->k1=0
 z2:cw m d<3->k2=0
theorem Hj {g l:Bool} {dg:aa} {x q:Int} {m d:aa} {k0 k1 k2:Int} (C:0<=k0) (y:0<=k1) (w:0<=k2) (h:chkD g l dg x q m d k0 k1 k2=0):
  ∃o p a b c:Nat,x=(o:Int)/\q=(p:Int)/\k0=(a:Int)/\k1=(b:Int)/\k2=(c:Int)/\OkD g l dg o p m d a b c:=by
 obtain ⟨hy,f,j,k⟩:=IQ h;unfold yrD at hy;by_cases e:okY g l dg x q
 rotate_left
 ·rw [ab e] at hy;cases hy
 rw [ae e] at hy;obtain ⟨t,u,s,A,v,r⟩:=kA e;have hk':¬(3<k0\/3<k1\/3<k2\/(cw m d<2/\k1≠0)\/(cw m d<3/\k2≠0)):=by
  intro z;unfold allM at k;rw [ae z] at k;exact absurd k (by decide)
 refine ⟨x.toNat,q.toNat,k0.toNat,k1.toNat,k2.toNat,by omega,by omega,by omega,by omega,by omega,?_⟩;rw [<-E4 t,<-E4 s] at e;refine ⟨e,by omega,by omega,r,?_,?_,?_,by omega,by omega,by omega,by omega,by omega⟩
 ·intro B;unfold yrB at hy;have hq':decide (0<q)=true:=by simp;omega
  rw [hq'] at hy;by_cases i:m=[]
  ·exact i
  ·have:(m==[])=false:=aL.2 i;rw [this] at hy;simp at hy
 ·rcases f with f | f | f
  ·exact .inl f
  ·exact .inr (DN f)
  ·exact .inr (lO (by omega) f)
 ·rcases j with j | ⟨j,_,n⟩
  ·exact .inl j
  ·have:=lO (show 31<=31 by omega) n;exact .inr ⟨j,this.1,this.2⟩
theorem Nq (n k i:Nat) (hi:i<k) (C:k<=3) (A B:List Nat) (a b:Nat) (h:A[i]?=some a) (m:B[i]?=some b) (g:a<4) (f:b<4) (ws:List (aa)) (u:ws.length=k) (w:aa) (w0 d e:aa) (q:[w0,d,e][i]?=some w) (l:w.length<=1000):
  aK n (k,(k:Int),(i:Int),A.map cI,B.map cI,ws,[w0,d,e])=some (.inl (k,(k:Int),((i+1:Nat):Int),A.map cI,B.map cI,ws.set i (cc a b w),[w0,d,e])):=by
 have w2':IntKind.wrap .i64 ((i:Int)+1)=((i+1:Nat):Int):=by rw [wrap_i64 _ (by omega) (by omega)];omega
 have j:(A.map cI)[i]?=some (a:Int):=by rw [lX,h];rfl
 have s:(B.map cI)[i]?=some (b:Int):=by rw [lX,m];rfl
 have c:∀z:Nat,z<4->(mt z).length<=1:=λz t=>by
  unfold mt;split
  ·simp
  ·split
   ·simp
   ·split<;>simp
 unfold aK;rw [bC,ae (show (i:Int)<(k:Int) by omega)];simp only [fb hi,fb (show i<3 by omega),ob,q,d4,j,s,(RO n a g).1,(RO n b f).1];have x:=c a g;have y:=c b f;have r:cat (mt a) w=some (mt a++w):=dR (by omega);have o:cat (mt a++w) (mt b)=some (mt a++w++mt b):=dR (by rw [bE];omega);rw [r];simp only [ob];rw [o];simp only [ob];have hi':i<ws.length:=by omega
 obtain ⟨v,p⟩:∃v,ws[i]?=some v:=⟨ws[i],bn hi'⟩;rw [fb hi'];simp only [ob,p,w2'];rfl
theorem CM (n k:Nat) (A B:List Int) (ws V:List (aa)):aK n (k,(k:Int),(k:Int),A,B,ws,V)=some (.inr ws):=by
 unfold aK;rw [bC,ab (show ¬((k:Int)<(k:Int)) by omega)]
theorem lz (a b:Nat) (w:aa):(cc a b w).length<=w.length+2:=by
 have c:∀z:Nat,(mt z).length<=1:=λz=>by
  unfold mt;split
  ·simp
  ·split
   ·simp
   ·split<;>simp
 have:=c a;have:=c b;unfold cc;simp only [bE];omega
theorem Oe:cw [] []=1:=rfl
theorem G9 {m:aa} (h:m≠[]):cw m []=2:=by unfold cw;rw [aL.2 h];rfl
theorem IT {m d:aa} (h:m≠[]) (a:d≠[]):cw m d=3:=by unfold cw;rw [aL.2 h,aL.2 a];rfl
theorem nA {d:aa} (h:d.length=2):d≠[]:=by rintro rfl;simp at h
theorem PC (n:Nat) (g l:Bool) (dg:aa) (x q:Nat) (m d:aa) (k0 k1 k2:Nat) (R:m.length<=18) (P:dg.length<=100):
  bH (n+300) g l dg (x:Int) (q:Int) m d (k0:Int) (k1:Int) (k2:Int)=some (if chkD g l dg (x:Int) (q:Int) m d (k0:Int) (k1:Int) (k2:Int)=0 then (qM g l dg (x:Int) (q:Int) m d k0 k1 k2,0) else ([],chkD g l dg (x:Int) (q:Int) m d (k0:Int) (k1:Int) (k2:Int))):=by
 unfold bH;rw [ym (n+300) (by omega) g l dg _ _ m d _ _ _ R P (by omega) (by omega) (by omega)];show cond (chkD g l dg (x:Int) (q:Int) m d (k0:Int) (k1:Int) (k2:Int) != 0) _ _=_;rw [ua];by_cases E:chkD g l dg (x:Int) (q:Int) m d (k0:Int) (k1:Int) (k2:Int)=0
 rotate_left
 ·rw [ab E,ab E]
 rw [ae E,ae E];obtain ⟨U,X,a,b,c,e1,e2,e3,e4,e5,o⟩:=Hj (by omega) (by omega) (by omega) E;obtain rfl:x=U:=by omega
 obtain rfl:q=X:=by omega
 obtain rfl:k0=a:=by omega
 obtain rfl:k1=b:=by omega
 obtain rfl:k2=c:=by omega
 have hc:=oQ m d;have J:=(Un n (cw m d) k0 k1 k2 hc o.m0 o.m1 o.m2 o.z1 o.z2).1;obtain ⟨F,H,O,y,M,N⟩:=RI (k:=cw m d) o.m0 o.m1 o.m2;rw [rj (n+300) (by omega)];simp only [ob];rw [J,zu (n+300) g l dg _ _ (by omega) P,ae o.yr];simp only [ob,fD,af,Kx o.yr,aj];have D:(decide ((0:Int)<=((cw m d:Nat):Int))&&(decide (((cw m d:Nat):Int)<=((cw m d:Nat):Int))&&decide (((cw m d:Nat):Int)<=(67108864:Int))))=true:=by
  rw [am (by omega),am (by omega),am (by omega)];rfl
 rw [D,da (show cw m d<=3 by omega)];simp only [ob,aj,bR];have K:=uT o.yr;have Z:Nat.ble 1 140737488355328=true:=rfl;have W:Nat.ble 2 140737488355328=true:=rfl;have q3:Nat.ble 3 140737488355328=true:=rfl;unfold qM;generalize fj g l dg (x:Int) (q:Int)=Y at K;generalize B:plA (cw m d) k0 k1 k2=Q at *;generalize C:plB (cw m d) k0 k1 k2=PB at *;obtain ⟨f,p,t⟩:=Q;obtain ⟨j,r,s⟩:=PB;simp only at F H O y M N;have st:=λ(k i:Nat) (hi:i<k) (hk:k<=3) (a b:Nat) (ha:[f,p,t][i]?=some a) (hb:[j,r,s][i]?=some b) (a4:a<4) (b4:b<4) (ws:List (aa)) (hl:ws.length=k) (w:aa) (w0 w1 w2:aa) (G:[w0,w1,w2][i]?=some w) (hwl:w.length<=1000)=>Nq (n+300) k i hi hk [f,p,t] [j,r,s] a b ha hb a4 b4 ws hl w w0 w1 w2 G hwl;have A:∀L:aa,L.length<=1000->Nat.ble L.length 140737488355328=true:=λL h=>cG (by omega);by_cases u:m=[]
 ·have v:d=[]:=o.day.resolve_right (λz=>z.1 u);subst u v;show ob (ar (aK (n+300)) (n+299+1) (1,((1:Nat):Int),((0:Nat):Int),[f,p,t].map cI,[j,r,s].map cI,[[]],[Y,[],[]])) _=_;rw [ar,st 1 0 (by omega) (by omega) f j rfl rfl F y [[]] rfl Y Y [] [] rfl (by omega)];show ob (ar (aK (n+300)) (n+298+1) (1,((1:Nat):Int),((1:Nat):Int),[f,p,t].map cI,[j,r,s].map cI,[cc f j Y],[Y,[],[]])) _=_;rw [ar,CM];simp only [ob];have e:Lib.join [cc f j Y] [45]=cc f j Y:=Lib.join_one _ _;have G:=lz f j Y;rw [e,A _ (by omega)];simp [Z]
 ·have S:m.length=2:=(o.mon.resolve_left u).1;by_cases v:d=[]
  ·subst v;rw [G9 u] at B C ⊢;show ob (ar (aK (n+300)) (n+299+1) (2,((2:Nat):Int),((0:Nat):Int),[f,p,t].map cI,[j,r,s].map cI,[[],[]],[Y,m,[]])) _=_;rw [ar,st 2 0 (by omega) (by omega) f j rfl rfl F y [[],[]] rfl Y Y m [] rfl (by omega)];show ob (ar (aK (n+300)) (n+298+1) (2,((2:Nat):Int),((1:Nat):Int),[f,p,t].map cI,[j,r,s].map cI,[cc f j Y,[]],[Y,m,[]])) _=_;rw [ar,st 2 1 (by omega) (by omega) p r rfl rfl H M [cc f j Y,[]] rfl m Y m [] rfl (by omega)];show ob (ar (aK (n+300)) (n+297+1) (2,((2:Nat):Int),((2:Nat):Int),[f,p,t].map cI,[j,r,s].map cI,[cc f j Y,cc p r m],[Y,m,[]])) _=_;rw [ar,CM];simp only [ob];have e:Lib.join [cc f j Y,cc p r m] [45]=cc f j Y++(45::cc p r m):=by rw [Lib.join_cons];simp [Lib.joinTail]
   have G:=lz f j Y;have I:=lz p r m;rw [e,A _ (by simp only [bE,aJ];omega)];rw [ab u];simp [W]
  ·have T:d.length=2:=(o.day.resolve_left v).2.1;rw [IT u v] at B C ⊢;show ob (ar (aK (n+300)) (n+299+1) (3,((3:Nat):Int),((0:Nat):Int),[f,p,t].map cI,[j,r,s].map cI,[[],[],[]],[Y,m,d])) _=_;rw [ar,st 3 0 (by omega) (by omega) f j rfl rfl F y [[],[],[]] rfl Y Y m d rfl (by omega)];show ob (ar (aK (n+300)) (n+298+1) (3,((3:Nat):Int),((1:Nat):Int),[f,p,t].map cI,[j,r,s].map cI,[cc f j Y,[],[]],[Y,m,d])) _=_;rw [ar,st 3 1 (by omega) (by omega) p r rfl rfl H M [cc f j Y,[],[]] rfl m Y m d rfl (by omega)];show ob (ar (aK (n+300)) (n+297+1) (3,((3:Nat):Int),((2:Nat):Int),[f,p,t].map cI,[j,r,s].map cI,[cc f j Y,cc p r m,[]],[Y,m,d])) _=_;rw [ar,st 3 2 (by omega) (by omega) t s rfl rfl O N [cc f j Y,cc p r m,[]] rfl d Y m d rfl (by omega)];show ob (ar (aK (n+300)) (n+296+1) (3,((3:Nat):Int),((3:Nat):Int),[f,p,t].map cI,[j,r,s].map cI,[cc f j Y,cc p r m,cc t s d],[Y,m,d])) _=_;rw [ar,CM];simp only [ob];have e:Lib.join [cc f j Y,cc p r m,cc t s d] [45]=cc f j Y++(45::cc p r m++(45::cc t s d)):=by rw [Lib.join_cons];simp [Lib.joinTail]
   have G:=lz f j Y;have I:=lz p r m;have V:=lz t s d;rw [e,A _ (by simp only [bE,aJ];omega)];rw [ab u,ab v];simp [q3]
def isMk (c:UInt8):Bool:=decide (0<mkOf c)
theorem fR {S u v:aa} {a:Nat} (h:S.drop a=u++v):S.drop (a+u.length)=v:=by
 rw [<-gV,h,Br];rfl
theorem H9 {A:Nat} (d:A<4) {r:aa} (b:cv isMk r):mkS (mt A++r)=A/\mkN (mt A++r)=(mt A).length:=by
 have a:mkS r=0:=by
  cases r with
  | nil=>rfl
  | cons c r=>
   have:=b c rfl;unfold isMk at this;have:=of_decide_eq_false this;show mkOf c=0;omega
 have h:A=0\/A=1\/A=2\/A=3:=by omega
 rcases h with rfl | rfl | rfl | rfl
 ·refine ⟨a,?_⟩;show mkN r=0;unfold mkN;rw [ae a]
 ·exact ⟨rfl,rfl⟩
 ·exact ⟨rfl,rfl⟩
 ·exact ⟨rfl,rfl⟩
theorem dD {p:UInt8->Bool} {c:UInt8} {r:aa} (h:p c=false):cv p (c::r):=λa hc=>by
 simp only [oK,ak] at hc;rw [<-hc];exact h
theorem Ij {p:UInt8->Bool} (B:Nat) {r:aa} (d:p 63=false) (a:p 126=false) (b:p 37=false) (c:cv p r):cv p (mt B++r):=by
 unfold mt;split
 ·exact dD d
 ·split
  ·exact dD a
  ·split
   ·exact dD b
   ·exact c
theorem GO {c:UInt8} (h:isDX c=true):isMk c=false:=by
 have:=gH (λc=>!(isDX c)||!(isMk c)) (by decide +kernel) c;rw [h] at this;simpa using this
theorem uh {p q:UInt8->Bool} {w r:aa} (b:w≠[]) (h:∀c∈w,p c=true) (a:∀c,p c=true->q c=false):cv q (w++r):=by
 cases w with
 | nil=>exact absurd rfl b
 | cons c w=>exact dD (a c (h c ks))
theorem IE {g l:Bool} {d:aa} {x s:Int} (h:okY g l d x s):∀c∈d,isDX c=true:=by
 intro c hc;unfold okY at h;have:aS c=true\/c=88:=by
  split at h
  ·exact .inl (h.1.1 c hc)
  ·exact h.2.1 c hc
 unfold isDX;rcases this with a | a
 ·rw [a];rfl
 ·rw [a];decide
theorem G6 {g l:Bool} {d:aa} {x s:Nat} (h:okY g l d (x:Int) (s:Int)) (r:aa):cv isMk (fj g l d (x:Int) (s:Int)++r):=by
 have a:d≠[]:=by
  have:=(kA h).2.2.2.2.1;rintro rfl;simp at this
 rw [jV];cases l with
 | true=>exact dD (by decide)
 | false=>
  cases g with
  | true=>exact dD (by decide)
  | false=>
   simp only [bj,aE,dn,fN];exact uh a (IE h) (λc=>GO)
theorem rD {S:aa} {p A B:Nat} {w R:aa} (h:S.drop p=cc A B w++R) (m:A<4) (i:B<4) (k:cv isMk (w++(mt B++R))) (f:cv isMk R):
  mkS (S.drop p)=A/\S.drop (mkE S p)=w++(mt B++R)/\mkS (S.drop (mkE S p+w.length))=B/\S.drop (mkE S (mkE S p+w.length))=R/\mkE S (mkE S p+w.length)=p+(cc A B w).length:=by
 have h':S.drop p=mt A++(w++(mt B++R)):=by rw [h];unfold cc;simp
 obtain ⟨l,e⟩:=H9 m k;obtain ⟨j,g⟩:=H9 i f;have d:mkE S p=p+(mt A).length:=by unfold mkE;rw [h',e]
 have c:S.drop (mkE S p)=w++(mt B++R):=by rw [d];exact fR h'
 have b:S.drop (mkE S p+w.length)=mt B++R:=fR c;have a:mkE S (mkE S p+w.length)=mkE S p+w.length+(mt B).length:=by
  show mkE S p+w.length+mkN (S.drop (mkE S p+w.length))=_;rw [b,g]
 refine ⟨by rw [h',l],c,by rw [b,j],by rw [a];exact fR b,?_⟩;rw [a,d];unfold cc;simp only [bE];omega
theorem zb {m r:aa} (f:m.length=2) (h:∀c∈m,isDX c=true):twoN (m++r)=2/\(m++r).take 2=m:=by
 match m,f with
 | [a,b],_=>
  have d:=h a (by simp);have e:=h b (by simp);refine ⟨?_,rfl⟩;unfold twoN;show br isDX 2 (a::b::r)=2;simp [br,d,e]
theorem PN {k a b c:Nat} (e:k<2->b=0) (d:k<3->c=0) (f:1<=k):(k<2->(plA k a b c).2.1=0/\(plB k a b c).2.1=0)/\(k<3->(plA k a b c).2.2=0/\(plB k a b c).2.2=0):=by
 unfold plA plB;constructor
 ·intro h;have:k=1:=by omega
  subst this;have:=e h;split
  ·simp
  ·simp [this]
 ·intro h;have:=d h;split
  ·split
   ·simp
   ·have:k=2:=by omega
    simp [this]
  ·simp [this]
def rawD (A B:Nat×Nat×Nat) (g l:Bool) (dg:aa) (x q:Int) (m d:aa):aa:=
 cc A.1 B.1 (fj g l dg x q)++((if m=[] then [] else 45::cc A.2.1 B.2.1 m)++(if d=[] then [] else 45::cc A.2.2 B.2.2 d))
structure MkD (A B:Nat×Nat×Nat) (m d:aa):Prop where
 a0:A.1<4
 a1:A.2.1<4
 a2:A.2.2<4
 b0:B.1<4
 b1:B.2.1<4
 b2:B.2.2<4
 zm:m=[]->A.2.1=0/\B.2.1=0
 zd:d=[]->A.2.2=0/\B.2.2=0
structure ShD (g l:Bool) (dg:aa) (x q:Nat) (m d:aa):Prop where
 yr:okY g l dg (x:Int) (q:Int)
 noM:0<q->m=[]
 mon:m=[]\/(m.length=2/\∀c∈m,isDX c=true)
 day:d=[]\/(m≠[]/\d.length=2/\∀c∈d,isDX c=true)
theorem OkD.sh {g l:Bool} {dg:aa} {x q:Nat} {m d:aa} {k0 k1 k2:Nat} (h:OkD g l dg x q m d k0 k1 k2):ShD g l dg x q m d:=⟨h.yr,h.noM,h.mon,h.day⟩
theorem OkD.marks {g l:Bool} {dg:aa} {x q:Nat} {m d:aa} {k0 k1 k2:Nat} (h:OkD g l dg x q m d k0 k1 k2):MkD (plA (cw m d) k0 k1 k2) (plB (cw m d) k0 k1 k2) m d:=by
 obtain ⟨Q,X,U,F,W,O⟩:=RI (k:=cw m d) h.m0 h.m1 h.m2;obtain ⟨E,G⟩:=PN (a:=k0) h.z1 h.z2 (oQ m d).1;refine ⟨Q,X,U,F,W,O,λC=>E ?_,λY=>G ?_⟩
 ·have J:d=[]:=h.day.resolve_right (λz=>z.1 C);subst C J;rw [Oe];omega
 ·subst Y;by_cases C:m=[]
  ·subst C;rw [Oe];omega
  ·rw [G9 C];omega
theorem fS9 {A B:Nat×Nat×Nat} {g l:Bool} {dg:aa} {x q:Nat} {m d:aa} (f:ShD g l dg x q m d) (o:MkD A B m d) {S:aa} {a:Nat} {post:aa} (h:S.drop a=rawD A B g l dg (x:Int) (q:Int) m d++post)
  (hp1:cv isYC post) (E:cv isMk post) (Q:cv (λc=>c==45) post):
  ∃P:Nat×Nat×Nat,P.1=a+(mt A.1).length/\pw S a=.inr (g,l,dg,x,q,m,d,spM A B,P,a+(rawD A B g l dg (x:Int) (q:Int) m d).length):=by
 obtain ⟨l0,l1,l2,N,l4,l5,M,F⟩:=o;obtain ⟨j,t,J⟩:=A;obtain ⟨k,n,D⟩:=B;simp only at l0 l1 l2 N l4 l5 M F h;unfold rawD at h ⊢;simp only at h ⊢;have C:isMk 45=false:=by decide
 have y45:isYC 45=false:=by decide
 have W:∀r:aa,cv (λc=>c==45) r->eC 45 r=0:=λr hr=>by
  cases r with
  | nil=>rfl
  | cons c r=>
   have:=hr c rfl;exact nq (λe=>by rw [e] at this;exact absurd this (by decide)) r
 have hyx:=G7 f.yr;have X:=G6 f.yr;generalize hY:fj g l dg (x:Int) (q:Int)=Y at *;have I:∀R:aa,S.drop a=cc j k Y++R->cv isYC R->cv isMk R->
   mkE S a=a+(mt j).length/\mkS (S.drop a)=j/\nU (S.drop (mkE S a))=.inr (g,l,dg,x,q,Y.length)/\mkS (S.drop (mkE S a+Y.length))=k/\S.drop (mkE S (mkE S a+Y.length))=R/\mkE S (mkE S a+Y.length)=a+(cc j k Y).length:=by
  intro R hR h1 Z;obtain ⟨G,H,w,s,v⟩:=rD hR l0 N (X _) Z;refine ⟨?_,G,?_,w,s,v⟩
  ·have hR':S.drop a=mt j++(Y++(mt k++R)):=by rw [hR];unfold cc;simp
   unfold mkE;rw [hR',(H9 l0 (X _)).2]
  rw [H];exact hyx _ (Ij k (by decide) (by decide) (by decide) h1)
 unfold pw;by_cases b:m=[]
 ·have i:d=[]:=f.day.resolve_right (λz=>z.1 b);subst b i;simp only [aI,jP] at h ⊢;obtain ⟨w0,G,H,w,s,v⟩:=I post h hp1 E;rw [H];simp only [];rw [s,ae (.inr (W post Q)),G,w,v];obtain ⟨rfl,rfl⟩:=M rfl;obtain ⟨rfl,rfl⟩:=F rfl;exact ⟨_,w0,rfl⟩
 ·have V:¬0<q:=λz=>b (f.noM z);obtain ⟨p,y⟩:=f.mon.resolve_left b;rw [ab b] at h ⊢;have o:∀r,cv isMk (m++r):=λr=>uh b y (λc=>GO);by_cases i:d=[]
  ·subst i;rw [ae rfl,jP] at h ⊢;have h':S.drop a=cc j k Y++(45::(cc t n m++post)):=by rw [h];simp
   obtain ⟨w0,G,H,w,s,v⟩:=I _ h' (dD y45) (dD C);rw [H];simp only [];rw [s,mr,ab (λz=>z.elim V (by omega)),G,w];unfold rd2;have Z:S.drop (mkE S (mkE S a+Y.length)+1)=cc t n m++post:=fR (u:=[45]) s;obtain ⟨v1,v2,T,K,O⟩:=rD Z l1 l4 (o _) E;obtain ⟨u1,u2⟩:=zb (r:=mt n++post) p y;rw [<-v2] at u1 u2;rw [p] at T K O;rw [u1,ab (by omega),K,W post Q,ae rfl,u2,v1,T,O,v];obtain ⟨rfl,rfl⟩:=F rfl;have:a+(cc j k Y).length+1+(cc t n m).length=a+(cc j k Y++45::cc t n m).length:=by simp only [bE,aJ];omega
   rw [this];exact ⟨_,w0,rfl⟩
  ·obtain ⟨_,U,L⟩:=f.day.resolve_left i;rw [ab i] at h ⊢;have hdk:∀r,cv isMk (d++r):=λr=>uh i L (λc=>GO);have h':S.drop a=cc j k Y++(45::(cc t n m++(45::(cc J D d++post)))):=by rw [h];simp
   obtain ⟨w0,G,H,w,s,v⟩:=I _ h' (dD y45) (dD C);rw [H];simp only [];rw [s,mr,ab (λz=>z.elim V (by omega)),G,w];unfold rd2;have Z:S.drop (mkE S (mkE S a+Y.length)+1)=cc t n m++(45::(cc J D d++post)):=fR (u:=[45]) s;obtain ⟨v1,v2,T,K,O⟩:=rD Z l1 l4 (o _) (dD C);obtain ⟨u1,u2⟩:=zb (r:=mt n++(45::(cc J D d++post))) p y;rw [<-v2] at u1 u2;rw [p] at T K O;rw [u1,ab (by omega),K,mr,ab (by omega),u2,v1,T];unfold rd3;have h3:S.drop (mkE S (mkE S (mkE S (mkE S a+Y.length)+1)+2)+1)=cc J D d++post:=fR (u:=[45]) K;obtain ⟨x1,x2,x3,x4,x5⟩:=rD h3 l2 l5 (hdk _) E;obtain ⟨s1,s2⟩:=zb (r:=mt D++post) U L;rw [<-x2] at s1 s2;rw [U] at x3 x4 x5;rw [s1,ab (by omega),s2,x1,x3,x5,O,v];have:a+(cc j k Y).length+1+(cc t n m).length+1+(cc J D d).length=a+(cc j k Y++(45::cc t n m++45::cc J D d)).length:=by simp only [bE,aJ];omega
   rw [this];exact ⟨_,w0,rfl⟩
theorem F6 {g l:Bool} {dg:aa} {x q:Nat} {m d:aa} {k0 k1 k2:Nat} (b:OkD g l dg x q m d k0 k1 k2) {S:aa} {a:Nat} {post:aa} (h:S.drop a=qM g l dg (x:Int) (q:Int) m d k0 k1 k2++post)
  (e:cv isYC post) (i:cv isMk post) (f:cv (λc=>c==45) post):
  ∃P,pw S a=.inr (g,l,dg,x,q,m,d,(k0,k1,k2),P,a+(qM g l dg (x:Int) (q:Int) m d k0 k1 k2).length):=by
 obtain ⟨P,_,j⟩:=fS9 b.sh b.marks (S:=S) (a:=a) (post:=post) h e i f;rw [UI (cw m d) k0 k1 k2 (oQ m d) b.m0 b.m1 b.m2 b.z1 b.z2] at j;exact ⟨P,j⟩
theorem Hg {g l:Bool} {dg:aa} {x q:Nat} {m d:aa} {k0 k1 k2:Nat} (a:OkD g l dg x q m d k0 k1 k2):(qM g l dg (x:Int) (q:Int) m d k0 k1 k2).length<=37:=by
 have hy:=uT a.yr;have e:=lz (plA (cw m d) k0 k1 k2).1 (plB (cw m d) k0 k1 k2).1 (fj g l dg (x:Int) (q:Int));have f:=lz (plA (cw m d) k0 k1 k2).2.1 (plB (cw m d) k0 k1 k2).2.1 m;have i:=lz (plA (cw m d) k0 k1 k2).2.2 (plB (cw m d) k0 k1 k2).2.2 d;have b:m.length<=2:=by
  rcases a.mon with h | h
  ·rw [h];simp
  ·omega
 have c:d.length<=2:=by
  rcases a.day with h | h
  ·rw [h];simp
  ·omega
 unfold qM;simp only [bE];have a1:(if m=[] then [] else 45::cc (plA (cw m d) k0 k1 k2).2.1 (plB (cw m d) k0 k1 k2).2.1 m).length<=5:=by
  split
  ·simp
  ·simp only [aJ];omega
 have a2:(if d=[] then [] else 45::cc (plA (cw m d) k0 k1 k2).2.2 (plB (cw m d) k0 k1 k2).2.2 d).length<=5:=by
  split
  ·simp
  ·simp only [aJ];omega
 omega
theorem QE {A B:Nat×Nat×Nat} (d:A.1<4) (e:A.2.1<4) (f:A.2.2<4) (g0:B.1<4) (c:B.2.1<4) (b:B.2.2<4):(spM A B).1<4/\(spM A B).2.1<4/\(spM A B).2.2<4:=by
 have a:∀x y:Nat,x<4->y<4->x ||| y<4:=λx y hx hy=>(or4 hx hy).2;exact ⟨a _ _ (a _ _ (a _ _ d g0) c) b,a _ _ (a _ _ e c) b,a _ _ f b⟩
structure RdOK (S:aa) (a:Nat) (dg m d:aa) (M:Nat×Nat×Nat) (e:Nat):Prop where
 dg17:dg.length<=17
 m2:m.length<=2
 d2:d.length<=2
 all:inM (cw m d) M
 le:a<=e
 end_:e<=S.length
theorem FB {S:aa} {a:Nat} (h:a<=S.length) {g l:Bool} {dg:aa} {x s:Nat} {m d:aa} {M P:Nat×Nat×Nat} {e:Nat} (b:pw S a=.inr (g,l,dg,x,s,m,d,M,P,e)):RdOK S a dg m d M e:=by
 have c:∀p,mkS (S.drop p)<4:=λp=>AV _;have n:0<4:=by omega
 have b0:=js h;have g0:a<=mkE S a:=yV _ _;have o:∀p,p<=mkE S p:=λp=>yV _ _;unfold pw at b;cases hy:nU (S.drop (mkE S a)) with
 | inl k=>rw [hy] at b;cases b
 | inr y=>
  obtain ⟨G,H,D,L,s',k⟩:=y;obtain ⟨_,bk,_,_,i⟩:=pH hy;have bk:mkE S a+k<=S.length:=by
   rw [cu] at bk;omega
  have b1:=js bk;rw [hy] at b;simp only [] at b;by_cases hc:0<s'\/eC 45 (S.drop (mkE S (mkE S a+k)))=0
  ·rw [ae hc] at b;cases b;have:=QE (A:=(mkS (S.drop a),0,0)) (B:=(mkS (S.drop (mkE S a+k)),0,0)) (c _) n n (c _) n n;refine ⟨i,by simp,by simp,⟨this.1,this.2.1,this.2.2,λ_=>by simp [spM],λ_=>by simp [spM]⟩,?_,b1⟩;have:=o (mkE S a+k);omega
  ·rw [ab hc] at b;have r:=pX (λz=>hc (.inr z));have K:=js r;unfold rd2 at b;by_cases v:twoN (S.drop (mkE S (mkE S (mkE S a+k)+1)))<2
   ·rw [ae v] at b;cases b
   ·rw [ab v] at b;have b2:=tg v;have E:=js b2;have f:(List.take 2 (S.drop (mkE S (mkE S (mkE S a+k)+1)))).length=2:=by rw [e7,cu];omega
    have I:=o (mkE S a+k);have O:=o (mkE S (mkE S a+k)+1);have J:=o (mkE S (mkE S (mkE S a+k)+1)+2);by_cases j:eC 45 (S.drop (mkE S (mkE S (mkE S (mkE S a+k)+1)+2)))=0
    ·rw [ae j] at b;cases b;have:=QE (A:=(mkS (S.drop a),mkS (S.drop (mkE S (mkE S a+k)+1)),0)) (B:=(mkS (S.drop (mkE S a+k)),mkS (S.drop (mkE S (mkE S (mkE S a+k)+1)+2)),0)) (c _) (c _) n (c _) (c _) n;refine ⟨i,by omega,by simp,⟨this.1,this.2.1,this.2.2,λz=>?_,λ_=>by simp [spM]⟩,by omega,E⟩;rw [G9 (nA f)] at z;omega
    ·rw [ab j] at b;have u:=pX j;have F:=js u;unfold rd3 at b;by_cases t:twoN (S.drop (mkE S (mkE S (mkE S (mkE S (mkE S a+k)+1)+2)+1)))<2
     ·rw [ae t] at b;cases b
     ·rw [ab t] at b;have C:=tg t;have w:=js C;have q:(List.take 2 (S.drop (mkE S (mkE S (mkE S (mkE S (mkE S a+k)+1)+2)+1)))).length=2:=by rw [e7,cu];omega
      cases b;have N:=o (mkE S (mkE S (mkE S (mkE S a+k)+1)+2)+1);have Q:=o (mkE S (mkE S (mkE S (mkE S (mkE S a+k)+1)+2)+1)+2);have:=QE (A:=(mkS (S.drop a),mkS (S.drop (mkE S (mkE S a+k)+1)),mkS (S.drop (mkE S (mkE S (mkE S (mkE S a+k)+1)+2)+1)))) (B:=(mkS (S.drop (mkE S a+k)),mkS (S.drop (mkE S (mkE S (mkE S a+k)+1)+2)),mkS (S.drop (mkE S (mkE S (mkE S (mkE S (mkE S a+k)+1)+2)+1)+2)))) (c _) (c _) (c _) (c _) (c _) (c _);refine ⟨i,by omega,by omega,⟨this.1,this.2.1,this.2.2,λz=>?_,λz=>?_⟩,by omega,w⟩
      ·rw [IT (nA f) (nA q)] at z;omega
      ·rw [IT (nA f) (nA q)] at z;omega
theorem J9 {g l:Bool} {dg:aa} {x q:Int} {m d:aa} {k0 k1 k2:Int} (b:allM k0 k1 k2 (cw m d)=0):chkD g l dg x q m d k0 k1 k2=0\/chkD g l dg x q m d k0 k1 k2=6\/chkD g l dg x q m d k0 k1 k2=7\/chkD g l dg x q m d k0 k1 k2=8:=by
 unfold chkD;rw [b];generalize yrD g l dg x q m=b1;generalize (!(m==[])&&(!(decide (0<sea m))&&!(eZ m 12)))=b2;generalize (!(d==[])&&((m==[])||(decide (0<sea m)||!(eZ d 31))))=a;cases b1<;>cases b2<;>cases a<;>simp
theorem sA {p:UInt8->Bool}:cv p []:=λc hc=>by cases hc
def monT (j:Nat):aa:=if j=0 then [] else if j<=12 then two j else if j<=33 then two (j+8) else ([[48,88],[49,88],[88,50],[88,88],[88,48],[88,57]]:List (aa)).getD (j - 34) []
def UZ (m:aa):Nat:=if m=[48,50] then 28 else if m=[48,52]\/m=[48,54]\/m=[48,57]\/m=[49,49]\/m=[88,57] then 30 else 31
def dayT (j:Nat) (m:aa):aa:=if j=0 then [] else if j<=31 then two (min j (UZ m)) else if m=[48,50]/\j=35 then [50,88] else ([[48,88],[49,88],[50,88],[51,88],[88,48],[88,49],[88,88],[88,56]]:List (aa)).getD (j - 32) []
theorem r40 {p:Nat->Bool} (h:(List.range 40).all p=true) {a:Nat} (b:a<40):p a=true:=(bG.1 h) a (iH.2 b)
noncomputable def Oq (m:Nat) (a0:Int) (a1:Bool) (a2 e a f b c d:Int) (j:Nat):Bool:=fm (m+300) a0 a1 a2 e a (j:Int) f b c d==some (monT j)
theorem KC (m:Nat) (a0:Int) (a1:Bool) (a2 e a f b c d:Int):((List.range 40).all λj=>Oq m a0 a1 a2 e a f b c d j)=true:=by kernel_rfl
theorem Qw (a:Nat) (h:a<256):IntKind.wrap .i64 (Int.tmod (a:Int) 40)=((a%40:Nat):Int):=by
 have:Int.tmod (a:Int) 40=((a%40:Nat):Int):=rfl;rw [this,wrap_i64 _ (by omega) (by omega)]
theorem N3 (j:Nat) (h:j<40):IntKind.wrap .i64 (Int.tmod (j:Int) 40)=((j:Nat):Int):=by
 rw [Qw j (by omega)];have:j%40=j:=by omega
 rw [this]
theorem Gz (m:Nat) (a0:Int) (a1:Bool) (a2 i c:Int) (b:Nat) (j d e f:Int) (h:b<256):fm (m+300) a0 a1 a2 i c (b:Int) j d e f=some (monT (b%40)):=by
 have g:b%40<40:=by omega
 have a:=r40 (KC m a0 a1 a2 i c j d e f) g;unfold Oq at a;have a:=bp.1 a;unfold fm at a ⊢;rw [N3 _ g] at a;rw [Qw _ h];exact a
theorem QM {j:Nat} (h:j<40):monT j=[]\/0<sea (monT j)\/(sea (monT j)=0/\eZ (monT j) 12=true):=by
 have:((List.range 40).all λj=>decide (monT j=[])||(decide (0<sea (monT j))||(decide (sea (monT j)=0)&&eZ (monT j) 12)))=true:=by decide +kernel
 have:=r40 this h;simpa using this
theorem Hy {j:Nat} (h:j<40) (hs:sea (monT j)=0) (a:monT j≠[]):monT j∈((List.range 12).map λi=>two (i+1))++[[48,88],[49,88],[88,50],[88,88],[88,48],[88,57]]:=by
 have:((List.range 40).all λj=>!decide (sea (monT j)=0)||(decide (monT j=[])||decide (monT j∈((List.range 12).map λi=>two (i+1))++[[48,88],[49,88],[88,50],[88,88],[88,48],[88,57]])))=true:=by decide +kernel
 have:=r40 this h;rw [am hs,aq a] at this;simpa using this
noncomputable def OC (m:Nat) (a0:Int) (a1:Bool) (a2 g b d c e f:Int) (a:aa) (j:Nat):Bool:=gI (m+300) a0 a1 a2 g b d (j:Int) c e f a==some (dayT j a)
theorem JI (m:Nat) (a0:Int) (a1:Bool) (a2 g a c b d e:Int):((((List.range 12).map λi=>two (i+1))++[[48,88],[49,88],[88,50],[88,88],[88,48],[88,57]]).all λf=>(List.range 40).all λj=>OC m a0 a1 a2 g a c b d e f j)=true:=by kernel_rfl
theorem L6 (m:Nat) (a0:Int) (a1:Bool) (a2 l d f:Int) (c:Nat) (e g j:Int) (b:aa) (n:b∈((List.range 12).map λi=>two (i+1))++[[48,88],[49,88],[88,50],[88,88],[88,48],[88,57]]) (h:c<256):gI (m+300) a0 a1 a2 l d f (c:Int) e g j b=some (dayT (c%40) b):=by
 have k:c%40<40:=by omega
 have a:=r40 ((bG.1 (JI m a0 a1 a2 l d f e g j)) b n) k;unfold OC at a;have a:=bp.1 a;unfold gI at a ⊢;rw [N3 _ k] at a;rw [Qw _ h];exact a
theorem Qj {j:Nat} (h:j<40) {a:aa} (b:a∈((List.range 12).map λi=>two (i+1))++[[48,88],[49,88],[88,50],[88,88],[88,48],[88,57]]):dayT j a=[]\/eZ (dayT j a) 31=true:=by
 have:((((List.range 12).map λi=>two (i+1))++[[48,88],[49,88],[88,50],[88,88],[88,48],[88,57]]).all λa=>(List.range 40).all λj=>decide (dayT j a=[])||eZ (dayT j a) 31)=true:=by decide +kernel
 have:=r40 ((bG.1 this) a b) h;simpa using this
def mksT (k a b c:Nat):Nat×Nat×Nat:=(a%4,if 1<k then b%4 else 0,if 2<k then c%4 else 0)
theorem OL (k a b c:Nat):allM ((mksT k a b c).1:Int) ((mksT k a b c).2.1:Int) ((mksT k a b c).2.2:Int) k=0:=by
 apply vt;refine ⟨by simp only [mksT];omega,?_,?_,?_,?_⟩
 ·simp only [mksT];split<;>omega
 ·simp only [mksT];split<;>omega
 ·intro h;simp only [mksT];rw [ab (by omega)]
 ·intro h;simp only [mksT];rw [ab (by omega)]
theorem LA {g l:Bool} {d:aa} {x s:Int} (h:okY g l d x s) (e:d.length<=5) (b:x<=11):wv g d x=false:=by
 unfold wv;cases j:hasX d with
 | true=>rfl
 | false=>
  obtain ⟨k,q,rfl,rfl,f⟩:=xM h j;have a:=sI d 0 0 f.dig (by decide);rw [bZ] at a;have m:dval 0 d<10 ^ 5:=mI a (k9 (by omega) e);have i:10 ^ k<=10 ^ 11:=k9 (by omega) (by omega);have c:val d k≠E16:=by
   unfold val E16;have:dval 0 d*10 ^ k<=99999*10 ^ 11:=uK (by omega) i;omega
  rw [bR,aq c];simp
theorem Rw {g l:Bool} {dg:aa} {x q:Int} {m d:aa} {k0 k1 k2:Int} (h:okY g l dg x q) (e:wv g dg x=false) (k:0<q->m=[]) (b:m=[]\/0<sea m\/(sea m=0/\eZ m 12=true)) (p:d=[]\/(m≠[]/\sea m=0/\eZ d 31=true)) (f:allM k0 k1 k2 (cw m d)=0):chkD g l dg x q m d k0 k1 k2=0:=by
 have hy:yrD g l dg x q m=true:=by
  unfold yrD yrB;rw [ae h,e];by_cases a:0<q
  ·rw [k a];simp
  ·simp [a]
 unfold chkD;rw [hy,f];have i:(!(m==[])&&(!(decide (0<sea m))&&!(eZ m 12)))=false:=by
  rcases b with h | h | ⟨_,h⟩
  ·rw [h];rfl
  ·rw [am h];simp
  ·rw [h];simp
 have c:(!(d==[])&&((m==[])||(decide (0<sea m)||!(eZ d 31))))=false:=by
  rcases p with h | ⟨j,n,o⟩
  ·rw [h];rfl
  ·rw [aL.2 j,n,o];simp
 rw [i,c];rfl
def minL (a:Nat):Nat:=if a=2 then 28 else if a=4\/a=6\/a=9\/a=11 then 30 else 31
def fitD (a d:aa):Bool:=(List.range' 1 12).any λi=>agr a i&&(List.range' 1 (minL i)).any (agr d)
theorem Qy:((((List.range 12).map λi=>two (i+1))++[[48,88],[49,88],[88,50],[88,88],[88,48],[88,57]]).all λa=>(List.range 40).all λj=>(dayT j a==[])||fitD a (dayT j a))=true:=by decide +kernel
theorem MG {j:Nat} (h:j<40) {a:aa} (b:a∈((List.range 12).map λi=>two (i+1))++[[48,88],[49,88],[88,50],[88,88],[88,48],[88,57]]):dayT j a=[]\/fitD a (dayT j a)=true:=by
 have:=r40 ((bG.1 Qy) a b) h;simp only [f8,bp] at this;exact this
theorem Ht (n:Nat) (g l:Bool) (dg:aa) (x q:Int) (m d:aa) (k0 k1 k2:Int) (a:m.length<=18):aX n g l dg x q m d k0 k1 k2=some (if d=[] then (if 0<sea m then 0 else if m=[] then 1 else 2) else 3):=by
 unfold aX;rw [pt n g l dg x q m d k0 k1 k2 a];by_cases b:d=[]
 ·rw [ae b,b];show cond (decide (0<sea m)) _ _=_;rw [bC];by_cases hs:0<sea m
  ·rw [ae hs,ae hs]
  ·rw [ab hs,ab hs];by_cases a:m=[]
   ·rw [ae a,a];rfl
   ·rw [ab a,aL.2 a];rfl
 ·rw [ab b,aL.2 b];rfl
theorem FP (n:Nat) (g l:Bool) (dg:aa) (x q:Int) (m d:aa) (k0 k1 k2:Int) (e:m.length<=18) (j:dg.length<=100) (h:0<=k0) (i:0<=k1) (f:0<=k2):
  bH (n+300) g l dg x q m d k0 k1 k2=some (if chkD g l dg x q m d k0 k1 k2=0 then (qM g l dg x q m d k0.toNat k1.toNat k2.toNat,0) else ([],chkD g l dg x q m d k0 k1 k2)):=by
 by_cases hc:chkD g l dg x q m d k0 k1 k2=0
 ·obtain ⟨t,u,a,b,c,s,k,r,v,o,p⟩:=Hj h i f hc;subst s k r v o;exact PC n g l dg t u m d a b c e j
 ·rw [ab hc];unfold bH;rw [ym (n+300) (by omega) g l dg _ _ m d _ _ _ e j h i f];show cond (chkD g l dg x q m d k0 k1 k2 != 0) _ _=_;rw [ua,ab hc]
theorem ue (a b:aa):hasX (a++b)=(hasX a||hasX b):=by unfold hasX;rw [qx]
theorem Au (n:Nat) (g l:Bool) (dg:aa) (x q:Int) (m d:aa) (k0 k1 k2:Int) (a:m.length<=1000) (b:dg.length<=1000) (h:d.length<=1000):
  cJ n g l dg x q m d k0 k1 k2=some (hasX dg||(hasX m||hasX d)):=by
 unfold cJ;rw [dR (by omega)];simp only [ob];rw [dR (by simp only [bE];omega)];simp only [ob];rw [Ae,ue,ue,Bool.or_assoc]
def GV (d:aa) (k q:Nat):Nat×Nat:=if 0<q then (val d k / 10 ^ (d.length+k - q)*10 ^ (d.length+k - q),min (val d k / 10 ^ (d.length+k - q)*10 ^ (d.length+k - q)+10 ^ (d.length+k - q) - 1) E16) else (val d k,val d k)
def sgn (g:Bool) (p:Nat×Nat):Int×Int:=if g then (-(p.2:Int),-(p.1:Int)) else ((p.1:Int),(p.2:Int))
def jo (z:UInt8) (d:aa):aa:=d.map λc=>if c=88 then z else c
theorem rA (z:UInt8) (d:aa):(jo z d).length=d.length:=by simp [jo]
theorem uv {z:UInt8} (a:aS z=true) {d:aa} (h:∀c∈d,aS c=true\/c=88):∀c∈jo z d,aS c=true:=by
 intro c hc;obtain ⟨b,e,rfl⟩:=ek.1 hc;by_cases hx:b=88
 ·rw [ae hx];exact a
 ·rw [ab hx];exact (h b e).resolve_right hx
theorem JZ {z:UInt8} {d:aa} {i:Nat} {c:UInt8} (h:d[i]?=some c):(jo z d)[i]?=some (if c=88 then z else c):=by
 simp [jo,h]
def rH (d:aa):Nat:=10 ^ (d.reverse.takeWhile (λc=>c != 88)).length
def wW (g:Bool) (d:aa):Nat×Nat:=(if g=true/\dval 0 (jo 48 d)=0 then rH d else dval 0 (jo 48 d),dval 0 (jo 57 d))
theorem KU {d:aa} (j:d.length=4) (h:∀c∈d,aS c=true\/c=88) (i:dval 0 (jo 48 d)=0):∀c∈d,c=48\/c=88:=by
 match d,j with
 | [a,b,c,e],_=>
  have g:=uv (z:=48) (by decide) h;have l:dval 0 (jo 48 [a,b,c,e])=((((0*10+((if a=88 then (48:UInt8) else a).toNat - 48))*10+((if b=88 then (48:UInt8) else b).toNat - 48))*10+((if c=88 then (48:UInt8) else c).toNat - 48))*10+((if e=88 then (48:UInt8) else e).toNat - 48)):=by
   simp only [jo,iC,List.map_nil,mV,nZ,tD]
  rw [l] at i;have key:∀x:UInt8,aS (if x=88 then (48:UInt8) else x)=true->(if x=88 then (48:UInt8) else x).toNat - 48=0->x=48\/x=88:=by
   intro x hx k;by_cases f:x=88
   ·exact .inr f
   ·rw [ab f] at hx k;have:=(bJ x).1 hx;exact .inl (fZ.1 (by show x.toNat=48;omega))
  simp only [jo,iC,List.map_nil,cf,n7,o7,zU,forall_eq] at g ⊢;exact ⟨key a g.1 (by omega),key b g.2.1 (by omega),key c g.2.2.1 (by omega),key e g.2.2.2 (by omega)⟩
theorem Gl {d:aa} (m:d.length=4) (h:∀c∈d,c=48\/c=88) (s:hasX d=true) (P:aa->Prop) (w:P [48,48,48,88]) (x:P [48,48,88,48]) (z:P [48,48,88,88]) (q:P [48,88,48,48]) (l:P [48,88,48,88]) (o:P [48,88,88,48]) (y:P [48,88,88,88]) (n:P [88,48,48,48]) (t:P [88,48,48,88]) (p:P [88,48,88,48]) (j:P [88,48,88,88]) (i:P [88,88,48,48]) (k:P [88,88,48,88]) (g:P [88,88,88,48]) (f:P [88,88,88,88]):P d:=by
 match d,m with
 | [a,b,c,e],_=>
  simp only [cf,n7,o7,zU,forall_eq] at h;obtain ⟨r,u,hc,v⟩:=h;rcases r with rfl | rfl<;>rcases u with rfl | rfl<;>rcases hc with rfl | rfl<;>rcases v with rfl | rfl
  ·exact absurd s (by decide)
  ·exact w
  ·exact x
  ·exact z
  ·exact q
  ·exact l
  ·exact o
  ·exact y
  ·exact n
  ·exact t
  ·exact p
  ·exact j
  ·exact i
  ·exact k
  ·exact g
  ·exact f
def oa (g:Bool) (d:aa) (x s:Int):Nat×Nat:=if hasX d then wW g d else GV d x.toNat s.toNat
theorem Ph {d:aa} {k q:Nat} (h:Num d k q):(GV d k q).1<=val d k/\val d k<=(GV d k q).2/\(GV d k q).2<=E16:=by
 have hs:=h.small;have c:dval 0 d*10 ^ k=val d k:=rfl;rw [c] at hs;unfold GV;split
 ·have a:1<=10 ^ (d.length+k - q):=Nat.one_le_pow _ _ (by decide);generalize 10 ^ (d.length+k - q)=u at a ⊢;generalize val d k=v at hs ⊢;have b:=Nat.div_mul_le_self v u;have e:v<v / u*u+u:=by
   have h:=Nat.div_add_mod v u;have:=qS v a;rw [wE] at h;omega
  refine ⟨b,?_,Nat.min_le_right _ _⟩;rw [Nat.le_min];omega
 ·exact ⟨aQ _,aQ _,hs⟩
def mtk (d:aa):Nat->Nat->Bool
 | 0,_=>true
 | k+1,w=>(decide (d.getD k 0=88)||decide ((d.getD k 0).toNat=48+w%10))&&mtk d k (w / 10)
theorem EN (d:aa) (k w:Nat):mtk d (k+1) w=((decide (d.getD k 0=88)||decide ((d.getD k 0).toNat=48+w%10))&&mtk d k (w / 10)):=rfl
theorem EB {d:aa} {k:Nat} {c:UInt8} (h:d[k]?=some c):d.getD k 0=c:=by
 rw [B6,h];rfl
def G1 (d:aa) (k q:Nat):Nat:=if 0<q then 10 ^ (d.length+k - q) else 1
def memP (d:aa) (x s:Int) (w:Nat):Prop:=if hasX d=true then mtk d 4 w=true/\w / 10 ^ 4=0 else val d x.toNat / G1 d x.toNat s.toNat=w / G1 d x.toNat s.toNat
instance (d:aa) (x s:Int) (w:Nat):Decidable (memP d x s w):=by unfold memP;infer_instance
def wOf (g:Bool) (v:Int):Int:=if g then -v else v
def inP (g:Bool) (d:aa) (x s v:Int):Prop:=-10000000000000000<=v/\v<=10000000000000000/\0<=wOf g v/\¬(hasX d=true/\g=true/\wOf g v=0)/\memP d x s (wOf g v).toNat
instance (g:Bool) (d:aa) (x s v:Int):Decidable (inP g d x s v):=by unfold inP;infer_instance
theorem RU {d:aa} {x s:Int} {w:Nat} (a:hasX d=true):memP d x s w↔mtk d 4 w=true/\w / 10 ^ 4=0:=by unfold memP;rw [ae a]
theorem RB {d:aa} {x s:Int} {w:Nat} (a:hasX d=false):memP d x s w↔val d x.toNat / G1 d x.toNat s.toNat=w / G1 d x.toNat s.toNat:=by unfold memP;rw [ab (by rw [a];simp)]
def loK (d:aa) (k:Nat):Nat:=dval 0 ((jo 48 d).take k)
def hiK (d:aa) (k:Nat):Nat:=dval 0 ((jo 57 d).take k)
theorem va (z:UInt8) {d:aa} {k:Nat} {c:UInt8} (h:d[k]?=some c):dval 0 ((jo z d).take (k+1))=dval 0 ((jo z d).take k)*10+((if c=88 then z else c).toNat - 48):=by
 rw [Uj (JZ h),EV]
theorem Ah (d:aa) (f:d.length=4) (l:∀c∈d,aS c=true\/c=88):∀(k w:Nat),k<=4->w<10 ^ k->mtk d k w=true->loK d k<=w/\w<=hiK d k
 | 0,w,g,b,a=>by
  simp at b;subst b;simp [loK,hiK,nZ]
 | k+1,w,g,b,a=>by
  obtain ⟨c,hc⟩:∃c,d[k]?=some c:=⟨d[k],bn (by omega)⟩;rw [EN,EB hc,aB,f8,bV,bV] at a;have hp:(10:Nat) ^ (k+1)=10 ^ k*10:=sC 10 k;have ih:=Ah d f l k (w / 10) (by omega) (by omega) a.2;have h:=va 48 hc;have j:=va 57 hc;unfold loK hiK at ih ⊢;rw [h,j];by_cases hx:c=88
  ·rw [ae hx,ae hx];have i:(48:UInt8).toNat - 48=0:=rfl;have e:(57:UInt8).toNat - 48=9:=rfl;rw [i,e];omega
  ·rw [ab hx,ab hx];have:=a.1.resolve_left hx;omega
theorem yO (z:UInt8) (f:aS z=true) (d:aa) (j:d.length=4) (h:∀c∈d,aS c=true\/c=88):∀k,k<=4->mtk d k (dval 0 ((jo z d).take k))=true
 | 0,_=>rfl
 | k+1,n=>by
  obtain ⟨c,hc⟩:∃c,d[k]?=some c:=⟨d[k],bn (by omega)⟩;have ih:=yO z f d j h k (by omega);have e:aS (if c=88 then z else c)=true:=by
   by_cases hx:c=88
   ·rw [ae hx];exact f
   ·rw [ab hx];exact (h c (fH hc)).resolve_right hx
  have l:=(bJ _).1 e;rw [EN,EB hc,va z hc];generalize g:(if c=88 then z else c)=b at l ⊢;generalize dval 0 ((jo z d).take k)=a at ih ⊢;have m:(a*10+(b.toNat - 48)) / 10=a:=by omega
  have i:(a*10+(b.toNat - 48))%10=b.toNat - 48:=by omega
  rw [m,i,ih,D6];by_cases hx:c=88
  ·rw [am hx];rfl
  ·rw [ab hx] at g;rw [g,am (show b.toNat=48+(b.toNat - 48) by omega),Bool.or_true]
def zk:List (aa):=[[48,48,48,88],[48,48,88,48],[48,48,88,88],[48,88,48,48],[48,88,48,88],[48,88,88,48],[48,88,88,88],[88,48,48,48],[88,48,48,88],[88,48,88,48],[88,48,88,88],[88,88,48,48],[88,88,48,88],[88,88,88,48],[88,88,88,88]]
theorem Ui:zk.all (λd=>mtk d 4 (rH d)&&decide (1<=rH d)&&decide (rH d<=1000)&&(List.range 1000).all (λw=>decide (w=0)||!mtk d 4 w||decide (rH d<=w)))=true:=by decide +kernel
theorem BC {d:aa} (j:d∈zk):mtk d 4 (rH d)=true/\1<=rH d/\rH d<=1000/\∀w,1<=w->mtk d 4 w=true->rH d<=w:=by
 have h:=bG.1 Ui d j;simp only [aB,bV,bG,iH,f8,kU] at h;obtain ⟨⟨⟨e,g⟩,i⟩,c⟩:=h;refine ⟨e,g,i,λw k b=>?_⟩;rcases aF w 1000 with a | f
 ·rcases c w a with (h | h) | h
  ·omega
  ·rw [b] at h;cases h
  ·exact h
 ·omega
theorem Bm {d:aa} (a:d.length=4) (b:∀c∈d,aS c=true\/c=88) (f:hasX d=true) (e:dval 0 (jo 48 d)=0):d∈zk:=
 Gl a (KU a b e) f (λd=>d∈zk) (by decide) (by decide) (by decide) (by decide) (by decide) (by decide) (by decide) (by decide) (by decide) (by decide) (by decide) (by decide) (by decide) (by decide) (by decide)
theorem Qd {d:aa} (a:d.length=4):loK d 4=dval 0 (jo 48 d):=by
 unfold loK;rw [jc (by rw [rA];omega)]
theorem Px {d:aa} (a:d.length=4):hiK d 4=dval 0 (jo 57 d):=by
 unfold hiK;rw [jc (by rw [rA];omega)]
theorem LN {g:Bool} {d:aa} (b:d.length=4) (f:∀c∈d,aS c=true\/c=88) (q:hasX d=true):
  (wW g d).1<10000/\(wW g d).2<10000/\mtk d 4 (wW g d).1=true/\mtk d 4 (wW g d).2=true/\1<=(wW g d).2/\(g=true->1<=(wW g d).1)/\∀w,w<10000->mtk d 4 w=true->(g=true->1<=w)->(wW g d).1<=w/\w<=(wW g d).2:=by
 have r:(10:Nat) ^ 4=10000:=by decide
 have p:=uv (z:=48) (by decide) f;have n:=uv (z:=57) (by decide) f;have b1:=sI (jo 48 d) 0 0 p (by simp);have b2:=sI (jo 57 d) 0 0 n (by simp);rw [rA,b,bZ,r] at b1 b2;have m1:=yO 48 (by decide) d b f 4 (by omega);have m2:=yO 57 (by decide) d b f 4 (by omega);rw [jc (by rw [rA];omega)] at m1 m2;have k:∀w,w<10000->mtk d 4 w=true->dval 0 (jo 48 d)<=w/\w<=dval 0 (jo 57 d):=λw l h=>by
  have:=Ah d b f 4 w (by omega) (by omega) h;rw [Qd b,Px b] at this;exact this
 have j:1<=dval 0 (jo 57 d):=by
  rcases yB (dval 0 (jo 57 d)) with i | i
  ·exfalso;have e:dval 0 (jo 48 d)=0:=by
    have:=(k _ b1 m1).2;omega
   have o:=Bm b f q e;have a:=BC o;have:=(k _ (by omega) a.1).2;omega
  ·exact i
 unfold wW;by_cases e:g=true/\dval 0 (jo 48 d)=0
 ·rw [ae e];have a:=BC (Bm b f q e.2);refine ⟨by simp only;omega,b2,a.1,m2,j,λ_=>a.2.1,λw l h m=>⟨a.2.2.2 w (m e.1) h,(k w l h).2⟩⟩
 ·rw [ab e];refine ⟨b1,b2,m1,m2,j,λm=>?_,λw l h m=>k w l h⟩;simp only;rcases yB (dval 0 (jo 48 d)) with i | i
  ·exact absurd ⟨m,i⟩ e
  ·exact i
theorem Md {g l:Bool} {d:aa} {x s:Int} (c:okY g l d x s):(oa g d x s).1<=10000000000000000/\(oa g d x s).2<=10000000000000000/\memP d x s (oa g d x s).1/\memP d x s (oa g d x s).2/\(hasX d=true->1<=(oa g d x s).2/\(g=true->1<=(oa g d x s).1))/\
  ∀w,w<=10000000000000000->memP d x s w->(hasX d=true->g=true->1<=w)->(oa g d x s).1<=w/\w<=(oa g d x s).2:=by
 unfold oa memP;cases n:hasX d with
 | true=>
  obtain ⟨rfl,rfl,rfl,D,M⟩:=vF c n;obtain ⟨F,J,N,H,E,I,O⟩:=LN (g:=g) D M n;have C:(10:Nat) ^ 4=10000:=by decide
  simp only [aI,C];refine ⟨by omega,by omega,⟨N,Nat.div_eq_of_lt F⟩,⟨H,Nat.div_eq_of_lt J⟩,λ_=>⟨E,I⟩,λw z j G=>O w (by omega) j.1 (G trivial)⟩
 | false=>
  obtain ⟨k,q,rfl,rfl,t⟩:=xM c n;have hs:=t.small;have L:dval 0 d*10 ^ k=val d k:=rfl;rw [L] at hs;obtain ⟨f,e,b⟩:=Ph t;unfold E16 at b;simp only [bj,aE,bR];unfold G1;unfold GV at f e b ⊢;by_cases m:0<q
  ·rw [ae m] at f e b ⊢;rw [ae m];have A:1<=10 ^ (d.length+k - q):=Nat.one_le_pow _ _ (by decide);generalize 10 ^ (d.length+k - q)=u at *;generalize val d k=v at *;simp only at f e b ⊢;have i:v / u*u / u=v / u:=Nat.mul_div_cancel _ A;have r:∀w,v / u*u<=w->w<v / u*u+u->w / u=v / u:=by
    intro w B p;apply Nat.div_eq_of_lt_le
    ·exact B
    ·rw [Nat.succ_mul];exact p
   have a:∀w,v / u=w / u->v / u*u<=w/\w<v / u*u+u:=by
    intro w h;rw [h];have B:=Nat.div_mul_le_self w u;have p:=Nat.div_add_mod w u;have P:=qS w A;rw [wE] at p;omega
   have y:min (v / u*u+u - 1) E16<=v / u*u+u - 1:=Nat.min_le_left _ _;have o:=a v rfl;refine ⟨by omega,b,i.symm,(r _ (by omega) (by omega)).symm,λq=>(by cases q),λw z j _=>?_⟩;obtain ⟨K,Q⟩:=a w j;refine ⟨K,?_⟩;rw [Nat.le_min];unfold E16;omega
  ·rw [ab m] at f e b ⊢;rw [ab m];simp only [yF] at f e b ⊢;refine ⟨b,b,trivial,trivial,λq=>(by cases q),λw z j _=>by omega⟩
theorem KA {g l:Bool} {d:aa} {x s:Int} (m:okY g l d x s):inP g d x s (sgn g (oa g d x s)).1/\inP g d x s (sgn g (oa g d x s)).2/\∀v,inP g d x s v->(sgn g (oa g d x s)).1<=v/\v<=(sgn g (oa g d x s)).2:=by
 obtain ⟨i,n,t,j,f,k⟩:=Md m;generalize oa g d x s=B at *;obtain ⟨lo,hi⟩:=B;simp only at i n t j f k;cases g with
 | true=>
  have b:∀a:Nat,wOf true (-(a:Int))=(a:Int):=λa=>by unfold wOf;simp
  have mk:∀a:Nat,a<=10000000000000000->memP d x s a->(hasX d=true->1<=a)->inP true d x s (-(a:Int)):=by
   intro a D w A;refine ⟨by omega,by omega,by rw [b];omega,λq=>?_,by rw [b,bR];exact w⟩;have:=A q.1;have y:=q.2.2;rw [b] at y;omega
  simp only [sgn,aI];refine ⟨mk hi n j (λh=>(f h).1),mk lo i t (λh=>(f h).2 rfl),λv p=>?_⟩;obtain ⟨z,C,o,r,c⟩:=p;have u:wOf true v=-v:=rfl;rw [u] at o r c
  have:=k (-v).toNat (by omega) c (λhx _=>by
   have:¬-v=0:=λe=>r ⟨hx,rfl,e⟩;omega)
  omega
 | false=>
  have b:∀a:Int,wOf false a=a:=λa=>rfl;have mk:∀a:Nat,a<=10000000000000000->memP d x s a->inP false d x s (a:Int):=by
   intro a D w;exact ⟨by omega,by omega,by rw [b];omega,λq=>(by cases q.2.1),by rw [b,bR];exact w⟩
  simp only [sgn,bj,aE];refine ⟨mk lo i t,mk hi n j,λv p=>?_⟩;obtain ⟨z,C,o,r,c⟩:=p;rw [b] at o c;have:=k v.toNat (by omega) c (λ_ q=>by cases q);omega
end Go.Sh
namespace Go.Sh.Mk
open Go.Abs
def okB (c:UInt8):Bool:=c.toNat==88||(decide (48<=c.toNat)&&decide (c.toNat<=57))
def chk (s:aa):Int:=if 18<s.length then 3 else if s.all okB then (if s=[] then 5 else 0) else 5
theorem tO (n:Nat) (s0 s:aa) (r:s.length+1<n):
  ar (gO n) n (s0,s,0)=some (if s.all okB then .inr s0 else .inl 5):=by
 have:=fq (step:=gO n) (λx=>x.1=s0/\x.2.1=s/\x.2.2<=s.length) (λx=>s.length - x.2.2)
  (λx=>if (s.drop x.2.2).all okB then .inr s0 else .inl 5) ?_ n (s0,s,0) ⟨rfl,rfl,je _⟩ (by simp;omega)
 ·simpa using this
 rintro ⟨a,b,i⟩ ⟨rfl,rfl,hi⟩;simp only at hi ⊢;rcases aF i b.length with g | o
 ·obtain ⟨c,hc⟩:∃c,b[i]?=some c:=⟨b[i],bn g⟩;have m:Nat.blt i b.length=true:=cG g;rw [bS hc,lg];simp only [gO,m,aj];by_cases j:c.toNat<128
  ·rw [zq hc j];by_cases k:c.toNat=88
   ·refine .inl ⟨(a,b,i+1),by simp [k],⟨rfl,rfl,by simp only;omega⟩,by simp only;omega,?_⟩;simp [okB,k]
   ·by_cases q:c.toNat<48
    ·refine .inr ?_;have f:(((c.toNat:Nat):Int) != 88)=true:=by simp;omega
     have d:(decide (((c.toNat:Nat):Int)<48))=true:=by simp;omega
     have e:okB c=false:=by simp [okB];omega
     simp [f,d,e]
    ·by_cases p:57<c.toNat
     ·refine .inr ?_;have f:(((c.toNat:Nat):Int) != 88)=true:=by simp;omega
      have d:(decide (((c.toNat:Nat):Int)<48))=false:=by simp;omega
      have l:(decide (((c.toNat:Nat):Int)>57))=true:=by simp;omega
      have e:okB c=false:=by simp [okB];omega
      simp [f,d,e,l]
     ·have f:(((c.toNat:Nat):Int) != 88)=true:=by simp;omega
      have d:(decide (((c.toNat:Nat):Int)<48))=false:=by simp;omega
      have l:(decide (((c.toNat:Nat):Int)>57))=false:=by simp;omega
      have e:okB c=true:=by simp [okB];omega
      refine .inl ⟨(a,b,i+1),by simp only [f,d,l,aj,af],⟨rfl,rfl,by simp only;omega⟩,by simp only;omega,?_⟩;simp [e]
  ·obtain ⟨t,u⟩:=EY hc (by omega);refine .inr ?_;have f:((((dec b i).1:Nat):Int) != 88)=true:=by simp;omega
   have d:(decide ((((dec b i).1:Nat):Int)<48))=false:=by simp;omega
   have l:(decide ((((dec b i).1:Nat):Int)>57))=true:=by simp;omega
   have e:okB c=false:=by simp [okB];omega
   simp [f,d,e,l]
 ·have m:Nat.blt i b.length=false:=by
   cases h:Nat.blt i b.length with
   | false=>rfl
   | true=>have:i<b.length:=aG h;omega
  refine .inr ?_;simp only [gO,m,af];rw [iD o];rfl
theorem kw (n:Nat) (s:aa) (b:30<=n):ie n s=some (chk s):=by
 unfold ie chk;by_cases h:18<s.length
 ·have:(decide (((List.length s:Nat):Int)>18))=true:=by simp;omega
  simp [this,h]
 ·have e:(decide (((List.length s:Nat):Int)>18))=false:=by simp;omega
  simp only [e,af,h,aE];rw [tO n s s (by omega)];by_cases a:s.all okB=true
  ·simp only [a,aI,ob];by_cases hs:s=[]
   ·simp [hs]
   ·have:(s==([]:aa))=false:=by simpa using hs
    simp [this,hs]
  ·simp [a,ob]
theorem l7 {s:aa} (h:chk s=0):s.length<=18/\s≠[]/\∀c∈s,okB c=true:=by
 unfold chk at h;split at h
 ·simp at h
 ·split at h
  ·rename_i a;split at h
   ·simp at h
   ·rename_i hs;exact ⟨by omega,hs,by simpa using a⟩
  ·simp at h
def nums (l:aa):List Int:=l.map λb=>((b.toNat:Nat):Int)
def over (d:List Int) (i:Nat) (l:List Int):List Int:=d.take i++(l++d.drop (i+l.length))
theorem zF (d:List Int) (i:Nat) (x:Int) (l:List Int) (h:i<d.length):over (d.set i x) (i+1) l=over d i (x::l):=by
 unfold over;rw [show (d.set i x).take (i+1)=d.take i++[x] from by
  rw [HC (by simpa using h)];simp [List.take_set_of_le]]
 rw [List.drop_set_of_lt (by omega)];simp [gj,nL 1]
theorem DZ (d:List Int) (i:Nat):over d i []=d:=by simp [over]
theorem MJ (d:List Int) (i:Nat) (l:List Int) (h:i+l.length<=d.length):(over d i l).length=d.length:=by
 unfold over;simp;omega
theorem MF {x y:UInt8}:(((x.toNat:Nat):Int)==((y.toNat:Nat):Int))=decide (x=y):=by
 by_cases h:x=y
 ·simp [h]
 ·have:x.toNat≠y.toNat:=λe=>h (fZ.1 e);simp [h];omega
theorem yD {x:UInt8}:(((x.toNat:Nat):Int)==88)=decide (x=88):=by
 have:=MF (x:=x) (y:=88);simpa using this
def dg:Nat->Int->List Int
 | 0,_=>[]
 | L+1,k=>dg L (k / 10)++[48+k%10]
theorem vD:∀(L:Nat) (k:Int),(dg L k).length=L
 | 0,_=>rfl
 | L+1,k=>by simp [dg,vD L]
theorem si:∀(L:Nat) (k:Int),∀x∈dg L k,48<=x/\x<58
 | 0,_,x,h=>by simp [dg] at h
 | L+1,k,x,h=>by
  simp only [dg,kX,vQ] at h;rcases h with h | rfl
  ·exact si L _ x h
  ·omega
def iq:aa->List Int->Bool
 | c::m,d::l=>(c==88||decide (((c.toNat:Nat):Int)=d))&&iq m l
 | _,_=>true
theorem tA:∀{a c:aa} {b d:List Int},a.length=b.length->iq (a++c) (b++d)=(iq a b&&iq c d)
 | [],c,[],d,_=>by simp [iq]
 | x::a,c,y::b,d,h=>by
  simp only [aJ,vi] at h;simp only [dQ,iq,tA h,Bool.and_assoc]
def hasM (m:aa) (k:Int):Bool:=decide (0<=k)&&(decide (k<10 ^ m.length)&&iq m (dg m.length k))
theorem Nk (L:Nat) (h:L<=18):lZ 20000000 ((L:Nat):Int)=some (10 ^ L):=by
 have a:allN (λi=>match lZ 20000000 ((i:Nat):Int) with | some r=>decide (r=10 ^ i) | none=>false) 19=true:=by kernel_rfl
 have:=CV a L (by omega);split at this
 ·rename_i r b;rw [b];simpa using this
 ·cases this
theorem AP (L:Nat) (h:L<=18):(10:Int) ^ L<=1000000000000000000:=by
 have a:allN (λi=>decide ((10:Int) ^ i<=1000000000000000000)) 19=true:=by kernel_rfl
 simpa using CV a L (by omega)
theorem SE {k:Int} (h:0<=k):Int.tmod k 10=k%10:=Int.tmod_eq_emod_of_nonneg h
theorem Ta {k:Int} (h:0<=k):Int.tdiv k 10=k / 10:=Ox h
theorem Gs (k:Int) (i:Nat) (d:List Int) (a:0<=k) (c:k<9223372036854775808) (hi:i<=18) (b:d.length=18):
  ar (gM 20000000) 20000000 (k,(i:Int) - 1,d)=some (over d 0 (dg i k)):=by
 have:=fq (step:=gM 20000000) (λx=>(0<=x.1/\x.1<9223372036854775808)/\(-1<=x.2.1/\x.2.1<=17)/\x.2.2.length=18) (λx=>(x.2.1+1).toNat)
  (λx=>over x.2.2 0 (dg (x.2.1+1).toNat x.1)) ?_ 20000000 (k,(i:Int) - 1,d) ⟨⟨a,c⟩,⟨by simp only;omega,by simp only;omega⟩,b⟩ (by simp only;omega)
 ·simpa using this
 rintro ⟨k,i,d⟩ ⟨⟨a,c⟩,⟨p,q⟩,b⟩;simp only at a c p q b ⊢;by_cases hi:0<=i
 ·obtain ⟨j,rfl⟩:∃j:Nat,i=j:=⟨i.toNat,by omega⟩;have f:j<18:=by omega
  have e:decide ((j:Int)>=0)=true:=by simp
  have h:Nat.blt j 18=true:=cG f;have m:IntKind.wrap .i64 ((j:Int) - 1)=(j:Int) - 1:=wrap_i64 _ (by omega) (by omega);have g:IntKind.wrap .i64 (Int.tdiv k 10)=k / 10:=by rw [Ta a];exact wrap_i64 _ (by omega) (by omega)
  have o:IntKind.wrap .u8 (IntKind.wrap .i64 (48+Int.tmod k 10))=48+k%10:=by rw [SE a,wrap_i64 _ (by omega) (by omega),gh _ (by omega) (by omega)]
  refine .inl ⟨(k / 10,(j:Int) - 1,d.set j (48+k%10)),by simp only [gM,e,aj,fb f,ob,h,m,g,o],⟨⟨by simp only;omega,by simp only;omega⟩,⟨by simp only;omega,by simp only;omega⟩,by simpa using b⟩,by simp only;omega,?_⟩;have n:((j:Int) - 1+1).toNat=j:=by omega
  have l:((j:Int)+1).toNat=j+1:=by omega
  simp only [n,l,over,jU,dn,vD,cj,dg,fN];congr 1;rw [List.drop_set,ab (by omega),yK,rz (by omega)];simp only [List.set_cons_zero,bE,vD,aJ,dm,dQ,dn,cj]
 ·have e:decide (i>=0)=false:=by simp;omega
  have s:(i+1).toNat=0:=by omega
  refine .inr ?_;simp only [gM,e,af,s,dg,DZ]
theorem Ni (m:aa) (k:Int) (a:m.length<=18) (c:0<=k) (b:k<9223372036854775808):
  ke 20000000 m k=some (over [0,0,0,0,0,0,0,0,0,0,0,0,0,0,0,0,0,0] 0 (dg m.length k)):=by
 have w:IntKind.wrap .i64 (((List.length m:Nat):Int) - 1)=(m.length:Int) - 1:=wrap_i64 _ (by omega) (by omega);simp only [ke,w,Gs k m.length [0,0,0,0,0,0,0,0,0,0,0,0,0,0,0,0,0,0] c b a (by rfl),ob]
theorem tR {d l:List Int} {i:Nat} (h:i<l.length):(over d 0 l)[i]?=l[i]?:=by
 unfold over;simp only [jU,dn];rw [mg h]
theorem xR:∀(l:List Int),(∀x∈l,0<=x/\x<256)->nums (gp l)=l
 | [],_=>rfl
 | x::l,h=>by
  have ih:=xR l λy hy=>h y (eS _ hy);obtain ⟨a,c⟩:=h x (by simp);have e:(((UInt8.ofNat x.toNat).toNat:Nat):Int)=x:=by
   rw [CU,re (by omega)];omega
  simp only [nums,gp,xQ] at ih ⊢;simp only [iC,Function.comp,e];rw [show List.map ((λb:UInt8=>((b.toNat:Nat):Int)) ∘ λn:Int=>UInt8.ofNat n.toNat) l=l from ih]
theorem ML (l:aa):(nums l).length=l.length:=by simp [nums]
def cnt:aa->Nat
 | []=>0
 | c::r=>if c=88 then cnt r+1 else cnt r
def dv (c:UInt8):Int:=((c.toNat:Nat):Int) - 48
def nth:aa->Int->Int
 | [],_=>0
 | c::r,i=>if c=88 then 10*nth r (i / 10)+i%10 else 10*nth r i+dv c
def ag:aa->Int->Bool
 | [],_=>true
 | c::r,k=>ag r (k / 10)&&(decide (c=88)||decide (dv c=k%10))
def idx:aa->Int->Int
 | [],_=>0
 | c::r,k=>if c=88 then 10*idx r (k / 10)+k%10 else idx r (k / 10)
def okR (r:aa):Prop:=∀c∈r,c=88\/(0<=dv c/\dv c<10)
theorem xO {m:aa} (h:∀c∈m,okB c=true):okR m.reverse:=by
 intro c hc;have:=h c (CH.1 hc);simp only [okB,f8,bp,aB,bV] at this;rcases this with h | h
 ·exact .inl (fZ.1 (by simpa using h))
 ·exact .inr (by unfold dv;omega)
theorem qa {c:UInt8} {r:aa} (h:okR (c::r)):okR r:=λx hx=>h x (eS _ hx)
theorem gN (n:Nat):(10:Int) ^ (n+1)=10*10 ^ n:=by rw [Int.pow_succ,Int.mul_comm]
theorem ri (n:Nat):(0:Int)<10 ^ n:=Int.pow_pos (by omega)
theorem o9:∀{r:aa},okR r->∀i,0<=i->0<=nth r i/\nth r i<10 ^ r.length
 | [],_,i,_=>by simp [nth]
 | c::r,h,i,hi=>by
  simp only [nth,aJ,gN];split
  ·have:=o9 (qa h) (i / 10) (by omega);omega
  ·rename_i hc;have:=o9 (qa h) i hi;have:=(h c (by simp)).resolve_left hc;omega
theorem Im:∀{r:aa},okR r->∀i,0<=i->ag r (nth r i)=true
 | [],_,_,_=>rfl
 | c::r,h,i,hi=>by
  simp only [nth,ag];split
  ·rename_i hc;have e:(10*nth r (i / 10)+i%10) / 10=nth r (i / 10):=by omega
   rw [e,Im (qa h) (i / 10) (by omega)];simp [hc]
  ·rename_i hc;have b:=(h c (by simp)).resolve_left hc;have e:(10*nth r i+dv c) / 10=nth r i:=by omega
   have a:(10*nth r i+dv c)%10=dv c:=by omega
   rw [e,a,Im (qa h) i hi];simp
theorem wh:∀(r:aa) (k:Int),0<=k->0<=idx r k/\idx r k<10 ^ cnt r
 | [],k,_=>by simp [idx,cnt]
 | c::r,k,a=>by
  have:=wh r (k / 10) (by omega);simp only [idx,cnt];split
  ·rw [gN];omega
  ·exact this
theorem I3:∀{r:aa} {k:Int},0<=k->k<10 ^ r.length->ag r k=true->nth r (idx r k)=k
 | [],k,d,a,_=>by simp at a;simp [nth];omega
 | c::r,k,d,a,b=>by
  simp only [ag,aB,f8,bV] at b;rw [aJ,gN] at a;have ih:=I3 (r:=r) (k:=k / 10) (by omega) (by omega) b.1;simp only [nth,idx];split
  ·have:=wh r (k / 10) (by omega);have e:(10*idx r (k / 10)+k%10) / 10=idx r (k / 10):=by omega
   have f:(10*idx r (k / 10)+k%10)%10=k%10:=by omega
   rw [e,f,ih];omega
  ·rename_i hc;rw [ih];have:=b.2.resolve_left hc;omega
theorem zP:∀{r:aa},okR r->∀i j,0<=i->i<j->j<10 ^ cnt r->nth r i<nth r j
 | [],_,i,j,b,d,a=>by simp [cnt] at a;omega
 | c::r,h,i,j,b,d,a=>by
  simp only [nth,cnt] at a ⊢;split
  ·rename_i hc;rw [ae hc,gN] at a;by_cases e:i / 10=j / 10
   ·rw [e];omega
   ·have:=zP (qa h) (i / 10) (j / 10) (by omega) (by omega) (by omega);omega
  ·rename_i hc;rw [ab hc] at a;have:=zP (qa h) i j b d a;omega
theorem D3:∀(r:aa),∀k,iq r.reverse (dg r.length k)=ag r k
 | [],k=>rfl
 | c::r,k=>by
  simp only [List.reverse_cons,aJ,dg,ag];rw [tA (by rw [xI,vD]),D3 r];have b:decide (((c.toNat:Nat):Int)=48+k%10)=decide (dv c=k%10):=nY.2 (by unfold dv;omega);have a:(c==88)=decide (c=88):=by by_cases h:c=88<;>simp [h]
  simp only [iq,D6,b,a]
theorem Cj (m:aa) (k:Int):hasM m k=(decide (0<=k)&&(decide (k<10 ^ m.length)&&ag m.reverse k)):=by
 have:=D3 m.reverse k;rw [uz,xI] at this;unfold hasM;rw [this]
theorem uD:∀(m:aa),cnt m=m.count 88
 | []=>rfl
 | c::m=>by
  simp only [cnt,uD m,List.count_cons];by_cases h:c=88<;>simp [h]
theorem ra (m:aa):cnt m.reverse=cnt m:=by rw [uD,uD,List.count_reverse]
theorem KR:∀(m:aa),cnt m<=m.length
 | []=>by simp [cnt]
 | c::m=>by
  have:=KR m;simp only [cnt,aJ];split<;>omega
def fd (x y:Int):Int:=(if y=88 then x else y) - 48
def fval (x:Int) (l:List Int):Int:=l.foldl (λn y=>10*n+fd x y) 0
theorem zS (x:Int):∀(l:List Int) (n:Int),l.foldl (λn y=>10*n+fd x y) n=n*10 ^ l.length+fval x l
 | [],n=>by simp [fval]
 | y::l,n=>by
  have e:=zS x l (10*n+fd x y);have a:=zS x l (10*0+fd x y);simp only [fval,tz,aJ,gN] at e a ⊢;rw [e,a,Int.add_mul,Int.add_mul];have:10*n*10 ^ l.length=n*(10*10 ^ l.length):=by rw [Int.mul_comm 10 n,Int.mul_assoc]
  omega
theorem wH (s:aa) (x:Int) (v:s.length<=18) (hs:∀c∈s,0<=fd x ((c.toNat:Nat):Int)/\fd x ((c.toNat:Nat):Int)<10):kP 20000000 s x=some (fval x (nums s)):=by
 have hs':∀y∈nums s,0<=fd x y/\fd x y<10:=by
  intro y hy;obtain ⟨c,hc,rfl⟩:=ek.1 hy;exact hs c hc
 have t:(nums s).length=s.length:=ML s;have:=fq (step:=fW 20000000)
  (λst=>st.1=x/\st.2.2.1=((s.length:Nat):Int)/\st.2.2.2.2=nums s/\(0<=st.2.2.2.1/\st.2.2.2.1<=s.length)/\0<=st.2.1/\st.2.1<10 ^ st.2.2.2.1.toNat) (λst=>s.length - st.2.2.2.1.toNat)
  (λst=>((nums s).drop st.2.2.2.1.toNat).foldl (λn y=>10*n+fd x y) st.2.1) ?_ 20000000 (x,0,((s.length:Nat):Int),0,nums s) ⟨rfl,rfl,rfl,⟨by simp,by simp⟩,by simp,by simp⟩ (by simp;omega)
 ·show (ob (ar (fW 20000000) 20000000 (x,0,((List.length (nums s):Nat):Int),0,nums s)) λg=>some g)=_;rw [t,this];rfl
 rintro ⟨b,n,len,i,l⟩ ⟨q,o,r,⟨D,hi⟩,u,m⟩;simp only at q o r D hi u m ⊢;subst q o r;obtain ⟨j,rfl⟩:∃j:Nat,i=j:=⟨i.toNat,by omega⟩;simp only [bR] at m ⊢;rcases aF j s.length with C | A
 ·obtain ⟨y,hy⟩:∃c,(nums s)[j]?=some c:=⟨(nums s)[j]'(by omega),bn (by omega)⟩;obtain ⟨d0,d⟩:=hs' y (fH hy);have f:(decide ((j:Int)<((s.length:Nat):Int)))=true:=by simp;omega
  have B:IntKind.wrap .i64 ((j:Int)+1)=((j+1:Nat):Int):=by rw [wrap_i64 _ (by omega) (by omega)];omega
  have e:=AP (j+1) (by omega);rw [gN] at e;have w:IntKind.wrap .i64 (10*n)=10*n:=wrap_i64 _ (by omega) (by omega);have p:∀z:Int,0<=z->z<10->IntKind.wrap .i64 (10*n+IntKind.wrap .i64 (IntKind.wrap .u8 z))=10*n+z:=λz E z1=>by
   rw [gh z (by omega) (by omega),wrap_i64 z (by omega) (by omega),wrap_i64 _ (by omega) (by omega)]
  rw [bS hy,tz];simp only [fW,f,aj,fb (show j<(nums s).length by omega),ob,hy,B,w];have next:0<=10*n+fd b y/\10*n+fd b y<10 ^ (j+1):=by rw [gN];omega
  by_cases a:y=88
  ·have k:(y==88)=true:=by simpa using a
   have h:fd b y=b - 48:=by simp [fd,a]
   rw [h] at d0 d next ⊢;refine .inl ⟨(b,10*n+(b - 48),((s.length:Nat):Int),((j+1:Nat):Int),nums s),by simp only [k,aj,p _ d0 d],⟨rfl,rfl,rfl,⟨by simp only;omega,by simp only;omega⟩,next.1,by simpa only [bR] using next.2⟩,by simp only [bR];omega,by simp only [bR]⟩
  ·have k:(y==88)=false:=by simpa using a
   have h:fd b y=y - 48:=by simp [fd,a]
   rw [h] at d0 d next ⊢;refine .inl ⟨(b,10*n+(y - 48),((s.length:Nat):Int),((j+1:Nat):Int),nums s),by simp only [k,af,p _ d0 d],⟨rfl,rfl,rfl,⟨by simp only;omega,by simp only;omega⟩,next.1,by simpa only [bR] using next.2⟩,by simp only [bR];omega,by simp only [bR]⟩
 ·have f:(decide ((j:Int)<((s.length:Nat):Int)))=false:=by simp;omega
  refine .inr ?_;simp only [fW,f,af];rw [iD (by omega)];rfl
theorem uU (x:Int) (l:List Int) (y:Int):fval x (l++[y])=10*fval x l+fd x y:=by simp [fval,E8]
theorem Bq (r:aa) (c:UInt8):nums ((c::r).reverse)=nums r.reverse++[((c.toNat:Nat):Int)]:=by simp [nums]
theorem Cc (x:Int) (c:UInt8):fd x ((c.toNat:Nat):Int)=if c=88 then x - 48 else dv c:=by
 unfold fd dv;by_cases h:c=88
 ·simp [h]
 ·have:¬((c.toNat:Nat):Int)=88:=λe=>h (fZ.1 (by simpa using (by omega:c.toNat=88)));rw [ab this,ab h]
theorem xC:∀(r:aa),fval 48 (nums r.reverse)=nth r 0
 | []=>rfl
 | c::r=>by
  rw [Bq,uU,xC r,Cc];simp only [nth];split<;>simp
theorem rE:∀(r:aa),fval 57 (nums r.reverse)=nth r (10 ^ cnt r - 1)
 | []=>rfl
 | c::r=>by
  have hp:=ri (cnt r);rw [Bq,uU,rE r,Cc];simp only [nth,cnt];split
  ·rw [gN];have b:(10*(10:Int) ^ cnt r - 1) / 10=10 ^ cnt r - 1:=by omega
   have a:(10*(10:Int) ^ cnt r - 1)%10=9:=by omega
   rw [b,a];omega
  ·rfl
theorem TY {m:aa} (a:∀c∈m,okB c=true) {x:Int} (hx:48<=x/\x<58):∀c∈m,0<=fd x ((c.toNat:Nat):Int)/\fd x ((c.toNat:Nat):Int)<10:=by
 intro c hc;rw [Cc];have:=xO a c (CH.2 hc);split
 ·omega
 ·rename_i h;exact this.resolve_left h
theorem LR {m:aa} (c:chk m=0):nH 20000000 m=some (nth m.reverse 0,0):=by
 obtain ⟨a,_,b⟩:=l7 c;have d:((0:Int) != 0)=false:=by simp
 have:=xC m.reverse;rw [uz] at this;simp only [nH,kw 20000000 m (by omega),c,ob,d,af,wH m 48 a (TY b (by omega)),this]
theorem CB {m:aa} (c:chk m=0):kF 20000000 m=some (nth m.reverse (10 ^ cnt m - 1),0):=by
 obtain ⟨a,_,b⟩:=l7 c;have d:((0:Int) != 0)=false:=by simp
 have:=rE m.reverse;rw [uz,ra] at this;simp only [kF,kw 20000000 m (by omega),c,ob,d,af,wH m 57 a (TY b (by omega)),this]
theorem ND {m:aa} {l:List Int} (z:List Int) (b:m.length<=18) (g:l.length=m.length) (e:∀y∈l,48<=y/\y<58):fK 20000000 m (over z 0 l)=some (fval 0 l):=by
 have f:List.take m.length (over z 0 l)=l:=by
  unfold over;rw [jU,dn,sV (by omega),jc (by omega)]
 have d:nums (gp l)=l:=xR l λy hy=>by have:=e y hy;omega
 have h:(gp l).length=m.length:=by simp [gp,g]
 simp only [fK,da b,ob,cj,show Nat.ble m.length 18=true from cG b,aj,cg,f];rw [wH (gp l) 0 (by omega) ?_,d];intro c hc;have a:((c.toNat:Nat):Int)∈l:=by rw [<-d];exact ek.2 ⟨c,hc,rfl⟩
 have:=e _ a;unfold fd;rw [ab (by omega)];omega
theorem Fv {m:aa} (d:chk m=0) {i:Int} (c:0<=i):hasM m (nth m.reverse i)=true:=by
 obtain ⟨e,_,a⟩:=l7 d;have b:=o9 (xO a) i c;rw [xI] at b;rw [Cj,Im (xO a) i c,am b.1,am b.2];rfl
def vl:List Int->Int
 | []=>0
 | y::l=>(y - 48)*10 ^ l.length+vl l
def digl (l:List Int):Prop:=∀y∈l,48<=y/\y<58
theorem cU {y:Int} {l:List Int} (h:digl (y::l)):digl l:=λx hx=>h x (eS _ hx)
theorem uj:∀{l:List Int},digl l->0<=vl l/\vl l<10 ^ l.length
 | [],_=>by simp [vl]
 | y::l,h=>by
  have ih:=uj (cU h);have hy:=h y (by simp);have hp:=ri l.length;simp only [vl,aJ,gN];have a1:0<=(y - 48)*10 ^ l.length:=Int.mul_nonneg (by omega) (by omega);have a2:(y - 48)*10 ^ l.length<=9*10 ^ l.length:=N6 (by omega) (by omega);omega
theorem QH {y z:Int} {a b:List Int} (c:a.length=b.length) (f:digl a) (d:digl b) (h:y<z):vl (y::a)<vl (z::b):=by
 have g:=uj f;have e:=uj d;have hp:=ri a.length;simp only [vl];rw [<-c] at e ⊢;have a2:(y - 48+1)*10 ^ a.length<=(z - 48)*10 ^ a.length:=N6 (by omega) (by omega);rw [Int.add_mul] at a2;omega
theorem yp:∀{l:List Int},digl l->fval 0 l=vl l
 | [],_=>rfl
 | y::l,h=>by
  have hy:=h y (by simp);have e:fval 0 (y::l)=l.foldl (λn y=>10*n+fd 0 y) (10*0+fd 0 y):=rfl;have a:fd 0 y=y - 48:=by unfold fd;rw [ab (by omega)]
  rw [e,zS,yp (cU h),a];simp only [vl,Int.mul_zero,Int.zero_add]
theorem Ho {l:List Int} {y:Int} (h:digl (l++[y])):vl (l++[y])=10*vl l+(y - 48):=by
 have hy:=h y (by simp);have a:digl l:=λx hx=>h x (by simp [hx]);rw [<-yp h,<-yp a,uU];unfold fd;rw [ab (by omega)]
theorem LL:∀(L:Nat) (k:Int),0<=k->k<10 ^ L->vl (dg L k)=k
 | 0,k,c,a=>by simp at a;simp [dg,vl];omega
 | L+1,k,c,a=>by
  rw [gN] at a;have:=LL L (k / 10) (by omega) (by omega);have b:=si (L+1) k;simp only [dg] at b ⊢;rw [Ho b,this];omega
theorem UY {l:List Int} (h:digl l):dg l.length (vl l)=l:=by
 have c:∀(r:List Int),digl r.reverse->dg r.length (vl r.reverse)=r.reverse:=by
  intro r
  induction r with
  | nil=>intro _;rfl
  | cons y r ih=>
   intro h;simp only [List.reverse_cons,aJ] at h ⊢;have hy:=h y (by simp);rw [Ho h];simp only [dg];have b:(10*vl r.reverse+(y - 48)) / 10=vl r.reverse:=by omega
   have a:48+(10*vl r.reverse+(y - 48))%10=y:=by omega
   rw [b,a,ih λx hx=>h x (kX.2 (.inl hx))]
 have:=c l.reverse (by rw [uz];exact h);rwa [uz,xI] at this
def fst (up:Bool):Int:=cond up 48 57
def lst (up:Bool):Int:=cond up 57 48
def stp (up:Bool) (y:Int):Int:=cond up (y+1) (y - 1)
def fil (up:Bool) (m:aa):List Int:=m.map λc=>cond (decide (c=88)) (fst up) ((c.toNat:Nat):Int)
def nx (up:Bool):aa->List Int->Option (List Int)
 | c::m,y::l=>
  if c=88 then
   match nx up m l with
   | some r=>some (y::r)
   | none=>if y=lst up then none else some (stp up y::fil up m)
  else if ((c.toNat:Nat):Int)=y then (nx up m l).map λr=>y::r
  else if decide (((c.toNat:Nat):Int)>y)=up then some (((c.toNat:Nat):Int)::fil up m) else none
 | _,_=>some []
def okM (m:aa):Prop:=∀c∈m,okB c=true
theorem pK {c:UInt8} {m:aa} (h:okM (c::m)):okM m:=λx hx=>h x (eS _ hx)
theorem FG {c:UInt8} (h:okB c=true) (a:¬c=88):48<=((c.toNat:Nat):Int)/\((c.toNat:Nat):Int)<58:=by
 simp only [okB,f8,bp,aB,bV] at h;have:¬c.toNat=88:=λe=>a (fZ.1 (by simpa using e));omega
theorem y6 (up:Bool) (m:aa):(fil up m).length=m.length:=by simp [fil]
theorem HM (up:Bool) {m:aa} (h:okM m):digl (fil up m):=by
 intro y hy;obtain ⟨c,hc,rfl⟩:=ek.1 hy;by_cases a:c=88
 ·simp only [am a,aj];cases up<;>simp [fst]
 ·simp only [aq a,af];exact FG (h c hc) a
theorem wj (up:Bool):∀(m:aa),iq m (fil up m)=true
 | []=>rfl
 | c::m=>by
  have:=wj up m;simp only [fil,iC,iq] at this ⊢;rw [this];by_cases a:c=88
  ·simp [a]
  ·simp [a]
def eo (up:Bool) (a b:Int):Prop:=match up with | true=>a<=b | false=>b<=a
theorem zM (up:Bool):∀{m:aa} {e:List Int},okM m->m.length=e.length->digl e->iq m e=true->eo up (vl (fil up m)) (vl e)
 | [],[],_,_,_,_=>by cases up<;>simp [fil,vl,eo]
 | c::m,y::e,l,i,j,k=>by
  simp only [aJ,vi] at i;simp only [iq,aB,f8,bp,bV] at k;have ih:=zM up (pK l) i (cU j) k.2;have hy:=j y (by simp);have g:=y6 up m;have n:=HM up (pK l);have a:∀z:Int,vl (z::fil up m)=(z - 48)*10 ^ m.length+vl (fil up m):=λz=>by rw [vl,g]
  have f:fil up (c::m)=(cond (decide (c=88)) (fst up) ((c.toNat:Nat):Int))::fil up m:=rfl;rw [f];by_cases b:c=88
  ·simp only [am b,aj];by_cases d:y=fst up
   ·rw [<-d,a,vl,<-i];cases up<;>simp only [eo] at ih ⊢<;>omega
   ·cases up
    ·exact Int.le_of_lt (QH (by rw [g,i]) (cU j) n (by simp [fst] at d ⊢;omega))
    ·exact Int.le_of_lt (QH (by rw [g,i]) n (cU j) (by simp [fst] at d ⊢;omega))
  ·simp only [aq b,af];rw [k.1.resolve_left b,a,vl,<-i];cases up<;>simp only [eo] at ih ⊢<;>omega
 | [],_::_,_,h,_,_=>by simp at h
 | _::_,[],_,h,_,_=>by simp at h
theorem O7 (up:Bool):∀{m:aa} {l:List Int},okM m->m.length=l.length->digl l->
  match nx up m l with
  | some r=>r.length=m.length/\digl r/\iq m r=true/\eo up (vl l) (vl r)/\∀e,e.length=m.length->digl e->iq m e=true->eo up (vl l) (vl e)->eo up (vl r) (vl e)
  | none=>∀e,e.length=m.length->digl e->iq m e=true->¬eo up (vl l) (vl e)
 | [],[],_,_,_=>by
  simp only [nx];refine ⟨rfl,by intro y hy;simp at hy,rfl,by cases up<;>simp [eo],?_⟩;intro e E _ _ _;simp only [dm] at E;rw [pq E];cases up<;>simp [eo]
 | c::m,y::l,K,t,U=>by
  simp only [aJ,vi] at t;have ih:=O7 up (pK K) t (cU U);have hy:=U y (by simp);have v:=cU U;have u:=y6 up m;have B:=HM up (pK K);have M:∀{z w:Int} {a b:List Int},a.length=m.length->b.length=m.length->digl a->digl b->z<w->vl (z::a)<vl (w::b):=λE J O N Q=>QH (by rw [E,J]) O N Q;have d:∀(z:Int) {a b:List Int},a.length=m.length->b.length=m.length->(eo up (vl (z::a)) (vl (z::b))↔eo up (vl a) (vl b)):=λz a b E J=>by
   simp only [vl,E,J];cases up<;>simp only [eo]<;>omega
  have p:∀{z w:Int} {a b:List Int},a.length=m.length->b.length=m.length->digl a->digl b->z≠w->(eo up (vl (z::a)) (vl (w::b))↔eo up z w):=λ{z w a b} E J O N Q=>by
   rcases Int.lt_trichotomy z w with h | h | h
   ·have:=M E J O N h;cases up<;>simp only [eo]<;>omega
   ·exact absurd h Q
   ·have:=M J E N O h;cases up<;>simp only [eo]<;>omega
  have f:∀e:List Int,e.length=(c::m).length->∃w a,e=w::a/\a.length=m.length:=λe h=>by
   match e,h with
   | w::a,h=>exact ⟨w,a,rfl,by simpa using h⟩
  by_cases g:c=88
  ·cases D:nx up m l with
   | some r=>
    rw [D] at ih;obtain ⟨H,P,S,T,V⟩:=ih;simp only [nx,ae g,D];refine ⟨by simp [H],λz s=>?_,by simp [iq,g,S],(d y t.symm H).2 T,λe A j o q=>?_⟩
    ·rcases cf.1 s with rfl | s
     ·exact hy
     ·exact P z s
    ·obtain ⟨w,a,rfl,i⟩:=f e A;simp only [iq,g,om,Bool.true_or,qm] at o;by_cases C:y=w
     ·subst C;exact (d y H i).2 (V a i (cU j) o ((d y t.symm i).1 q))
     ·exact (p H i P (cU j) C).2 ((p t.symm i v (cU j) C).1 q)
   | none=>
    rw [D] at ih;by_cases k:y=lst up
    ·simp only [nx,ae g,D,ae k];intro e A j o q;obtain ⟨w,a,rfl,i⟩:=f e A;simp only [iq,g,om,Bool.true_or,qm] at o;have Y:=j w (by simp);by_cases C:y=w
     ·subst C;exact ih a i (cU j) o ((d y t.symm i).1 q)
     ·have:=(p t.symm i v (cU j) C).1 q;cases up<;>simp only [eo,lst,aj,af] at this k<;>omega
    ·simp only [nx,ae g,D,ab k];have hs:48<=stp up y/\stp up y<58/\y≠stp up y/\eo up y (stp up y)/\∀w,w≠y->eo up y w->eo up (stp up y) w:=by
      cases up<;>simp only [eo,lst,stp,aj,af] at k ⊢<;>exact ⟨by omega,by omega,by omega,by omega,λw E J=>by omega⟩
     obtain ⟨s1,X,s3,Z,s5⟩:=hs;refine ⟨by simp [u],λz s=>?_,by simp [iq,g,wj],(p t.symm u v B s3).2 Z,λe A j o q=>?_⟩
     ·rcases cf.1 s with rfl | s
      ·exact ⟨s1,X⟩
      ·exact B z s
     ·obtain ⟨w,a,rfl,i⟩:=f e A;simp only [iq,g,om,Bool.true_or,qm] at o;by_cases C:y=w
      ·subst C;exact absurd ((d y t.symm i).1 q) (ih a i (cU j) o)
      ·have W:=s5 w (λh=>C h.symm) ((p t.symm i v (cU j) C).1 q);by_cases L:stp up y=w
       ·rw [L];exact (d w u i).2 (zM up (pK K) i.symm (cU j) o)
       ·exact (p u i B (cU j) L).2 W
  ·have R:=FG (K c (by simp)) g;have G:∀w a,iq (c::m) (w::a)=true->w=((c.toNat:Nat):Int)/\iq m a=true:=λw a h=>by
    simp only [iq,aB,f8,bp,bV] at h;exact ⟨(h.1.resolve_left g).symm,h.2⟩
   by_cases n:((c.toNat:Nat):Int)=y
   ·cases D:nx up m l with
    | some r=>
     rw [D] at ih;obtain ⟨H,P,S,T,V⟩:=ih;simp only [nx,ab g,ae n,D,dU];refine ⟨by simp [H],λz s=>?_,by simp [iq,n,S],(d y t.symm H).2 T,λe A j o q=>?_⟩
     ·rcases cf.1 s with rfl | s
      ·exact hy
      ·exact P z s
     ·obtain ⟨w,a,rfl,i⟩:=f e A;obtain ⟨rfl,x⟩:=G w a o;rw [n] at q ⊢;exact (d y H i).2 (V a i (cU j) x ((d y t.symm i).1 q))
    | none=>
     rw [D] at ih;simp only [nx,ab g,ae n,D,gR];intro e A j o q;obtain ⟨w,a,rfl,i⟩:=f e A;obtain ⟨rfl,x⟩:=G w a o;rw [n] at q;exact ih a i (cU j) x ((d y t.symm i).1 q)
   ·have I:decide (((c.toNat:Nat):Int)>y)=up↔eo up y ((c.toNat:Nat):Int):=by
     cases up
     ·simp only [so,eo];omega
     ·simp only [bV,eo];omega
    by_cases F:decide (((c.toNat:Nat):Int)>y)=up
    ·simp only [nx,ab g,ab n,ae F];refine ⟨by simp [u],λz s=>?_,by simp [iq,wj],(p t.symm u v B (λh=>n h.symm)).2 (I.1 F),λe A j o q=>?_⟩
     ·rcases cf.1 s with rfl | s
      ·exact R
      ·exact B z s
     ·obtain ⟨w,a,rfl,i⟩:=f e A;obtain ⟨rfl,x⟩:=G w a o;exact (d _ u i).2 (zM up (pK K) i.symm (cU j) x)
    ·simp only [nx,ab g,ab n,ab F];intro e A j o q;obtain ⟨w,a,rfl,i⟩:=f e A;obtain ⟨rfl,x⟩:=G w a o;exact F (I.2 ((p t.symm i v (cU j) (λh=>n h.symm)).1 q))
 | [],_::_,_,h,_=>by simp at h
 | _::_,[],_,h,_=>by simp at h
def ap:aa->List Int->Nat
 | c::m,y::l=>if c=88\/((c.toNat:Nat):Int)=y then ap m l+1 else 0
 | _,_=>0
theorem Tm:∀(m:aa) (l:List Int),ap m l<=m.length
 | [],_=>by simp [ap]
 | c::m,[]=>by simp [ap]
 | c::m,y::l=>by
  have:=Tm m l;simp only [ap,aJ];split<;>omega
theorem Iz:∀(m:aa) (l:List Int),iq (m.take (ap m l)) (l.take (ap m l))=true
 | [],_=>by simp [ap,iq]
 | c::m,[]=>by simp [ap,iq]
 | c::m,y::l=>by
  have:=Iz m l;simp only [ap];split
  ·rename_i h;simp only [kn,iq,this,D6,f8,bp,bV];exact h
  ·rfl
theorem Kv:∀{m:aa} {l:List Int} {c:UInt8} {y:Int},m[ap m l]?=some c->l[ap m l]?=some y->¬c=88/\¬((c.toNat:Nat):Int)=y
 | [],_,c,y,h,_=>by simp at h
 | x::m,[],c,y,_,h=>by simp at h
 | x::m,z::l,c,y,b,a=>by
  by_cases h:x=88\/((x.toNat:Nat):Int)=z
  ·simp only [ap,ae h,EO] at b a;exact Kv b a
  ·simp only [ap,ab h,kV,ak] at b a;subst b a;exact ⟨λe=>h (.inl e),λe=>h (.inr e)⟩
def bkn (up:Bool):aa->List Int->aa->Option (List Int)
 | c::m,y::d,m'=>
  match bkn up m d m' with
  | some r=>some (y::r)
  | none=>if c=88/\y≠lst up then some (stp up y::fil up (m++m')) else none
 | _,_,_=>none
theorem AE (up:Bool):∀{m m':aa} {d d':List Int},m.length=d.length->iq m d=true->
  nx up (m++m') (d++d')=match nx up m' d' with | some r=>some (d++r) | none=>bkn up m d m'
 | [],m',[],d',_,_=>by
  simp only [dn];cases nx up m' d'<;>rfl
 | c::m,m',y::d,d',e,b=>by
  simp only [aJ,vi] at e;simp only [iq,aB,f8,bp,bV] at b;have ih:=AE up (m':=m') (d':=d') e b.2;simp only [dQ,nx,ih,bkn];by_cases a:c=88
  ·simp only [ae a];cases nx up m' d' with
   | some r=>rfl
   | none=>
    cases bkn up m d m' with
    | some r=>rfl
    | none=>
     by_cases hy:y=lst up
     ·simp [hy]
     ·simp [hy,a]
  ·simp only [ab a,ae (b.1.resolve_left a)];cases nx up m' d' with
   | some r=>rfl
   | none=>
    cases bkn up m d m' with
    | some r=>rfl
    | none=>simp [a]
 | [],_,_::_,_,h,_=>by simp at h
 | _::_,_,[],_,h,_=>by simp at h
theorem Ep (up:Bool) (c:UInt8) (y:Int):∀{m m':aa} {d:List Int},m.length=d.length->
  bkn up (m++[c]) (d++[y]) m'=if c=88/\y≠lst up then some (d++stp up y::fil up m') else bkn up m d (c::m')
 | [],m',[],_=>by simp [bkn]
 | x::m,m',z::d,a=>by
  simp only [aJ,vi] at a;have ih:=Ep up c y (m':=m') a;simp only [dQ,bkn,ih];by_cases h:c=88/\y≠lst up
  ·simp only [ae h]
  ·simp only [ab h,fN,dQ,dn]
 | [],_,_::_,h=>by simp at h
 | _::_,_,[],h=>by simp at h
def bki (up:Bool) (m:aa) (l:List Int):Nat->Option Nat
 | 0=>none
 | j+1=>if m[j]?=some 88/\l[j]?≠some (lst up) then some j else bki up m l j
theorem Om (up:Bool) (m:aa) (l:List Int):∀{j a:Nat},bki up m l j=some a->a<j
 | 0,a,h=>by simp [bki] at h
 | j+1,a,h=>by
  simp only [bki] at h;split at h
  ·simp only [ak] at h;omega
  ·have:=Om up m l h;omega
theorem ES (up:Bool) (m:aa) (l:List Int) (e:m.length=l.length):∀j,j<=m.length->
  bkn up (m.take j) (l.take j) (m.drop j)=(bki up m l j).map λa=>l.take a++stp up (l.getD a 0)::fil up (m.drop (a+1))
 | 0,_=>by simp [bkn,bki]
 | j+1,h=>by
  obtain ⟨c,hc⟩:∃c,m[j]?=some c:=⟨m[j]'(by omega),bn (by omega)⟩;obtain ⟨y,hy⟩:∃c,l[j]?=some c:=⟨l[j]'(by omega),bn (by omega)⟩;have ih:=ES up m l e j (by omega);rw [bS hc] at ih;rw [oL,oL,hc,hy];simp only [Option.toList_some];rw [Ep up c y (by simp;omega),ih];have d:l.getD j 0=y:=by rw [B6,hy];rfl
  simp only [bki,hc,hy,ne_eq,ak];by_cases b:c=88/\¬y=lst up
  ·rw [ae b,ae b,dU,d]
  ·rw [ab b,ab b]
section
variable {m:List UInt8} {l z:List Int}
theorem kQ (A:m.length=l.length) (w:m.length<=18) (k f g:Int) (up:Bool):
  ar (eV 20000000) 20000000 (m,k,up,f,g,0,over z 0 l,over z 0 l)=some (m,k,up,f,g,((ap m l:Nat):Int),over z 0 l,over z 0 l):=by
 have:=fq (step:=eV 20000000) (λx=>x.1=m/\(0<=x.2.2.2.2.2.1/\x.2.2.2.2.2.1<=m.length)/\x.2.2.2.2.2.2.1=over z 0 l) (λx=>m.length - x.2.2.2.2.2.1.toNat)
  (λx=>(x.1,x.2.1,x.2.2.1,x.2.2.2.1,x.2.2.2.2.1,x.2.2.2.2.2.1+((ap (m.drop x.2.2.2.2.2.1.toNat) (l.drop x.2.2.2.2.2.1.toNat):Nat):Int),x.2.2.2.2.2.2.1,x.2.2.2.2.2.2.2)) ?_ 20000000 (m,k,up,f,g,0,over z 0 l,over z 0 l) ⟨rfl,⟨by simp,by simp⟩,rfl⟩ (by simp;omega)
 ·simpa using this
 rintro ⟨m',k,up,f,g,i,d,o⟩ ⟨r,⟨t,hi⟩,s⟩;simp only at r t hi s ⊢;subst r s;obtain ⟨j,rfl⟩:∃j:Nat,i=j:=⟨i.toNat,by omega⟩;simp only [bR];rcases aF j m'.length with n | q
 ·obtain ⟨c,hc⟩:∃c,m'[j]?=some c:=⟨m'[j],bn n⟩;obtain ⟨y,hy⟩:∃c,l[j]?=some c:=⟨l[j]'(by omega),bn (by omega)⟩;have v:(over z 0 l)[j]?=some y:=by rw [tR (by omega)];exact hy
  have p:(decide ((j:Int)<((List.length m':Nat):Int)))=true:=by simp;omega
  have u:IntKind.wrap .i64 ((j:Int)+1)=((j+1:Nat):Int):=by rw [wrap_i64 _ (by omega) (by omega)];omega
  rw [bS hc,bS hy];simp only [eV,p,aj,dK hc,ob,yD,u,fb (show j<18 by omega),v,ap];by_cases a:c=88
  ·refine .inl ⟨(m',k,up,f,g,((j+1:Nat):Int),over z 0 l,o),by simp only [am a,aj],⟨rfl,⟨by simp only;omega,by simp only;omega⟩,rfl⟩,by simp only [bR];omega,?_⟩;simp only [bR,ae (show c=88\/((c.toNat:Nat):Int)=y from .inl a)];congr 6;omega
  ·simp only [aq a,af];by_cases b:((c.toNat:Nat):Int)=y
   ·have e:(((c.toNat:Nat):Int)==y)=true:=by simpa using b
    refine .inl ⟨(m',k,up,f,g,((j+1:Nat):Int),over z 0 l,o),by simp only [e,aj],⟨rfl,⟨by simp only;omega,by simp only;omega⟩,rfl⟩,by simp only [bR];omega,?_⟩;simp only [bR,ae (show c=88\/((c.toNat:Nat):Int)=y from .inr b)];congr 6;omega
   ·have e:(((c.toNat:Nat):Int)==y)=false:=by simpa using b
    refine .inr ?_;simp only [e,af,ab (show ¬(c=88\/((c.toNat:Nat):Int)=y) from λh=>h.elim a b),Int.ofNat_zero,Int.add_zero,Int.natCast_zero]
 ·have p:(decide ((j:Int)<((List.length m':Nat):Int)))=false:=by simp;omega
  refine .inr ?_;simp only [eV,p,af];rw [iD q];simp [ap]
theorem IA (A:m.length=l.length) (u:m.length<=18) (f:Int) (up:Bool) (o:List Int) (i:Nat) (hi:i<=m.length):
  ar (bY 20000000) 20000000 (m,up,f,lst up,(i:Int),over z 0 l,o) =
   some (match bki up m l i with | none=>.inl (0,16) | some a=>.inr (m,up,f,((a:Nat):Int),o)):=by
 have:=fq (step:=bY 20000000) (λx=>x.1=m/\x.2.2.2.1=lst up/\(0<=x.2.2.2.2.1/\x.2.2.2.2.1<=m.length)/\x.2.2.2.2.2.1=over z 0 l) (λx=>x.2.2.2.2.1.toNat)
  (λx=>match bki up m l x.2.2.2.2.1.toNat with | none=>.inl (0,16) | some a=>.inr (x.1,x.2.1,x.2.2.1,((a:Nat):Int),x.2.2.2.2.2.2)) ?_ 20000000 (m,up,f,lst up,(i:Int),over z 0 l,o) ⟨rfl,rfl,⟨by simp only;omega,by simp only;omega⟩,rfl⟩ (by simp;omega)
 ·simpa using this
 rintro ⟨m',n,f,g,i,d,o⟩ ⟨p,r,⟨s,hi⟩,q⟩;simp only at p r s hi q ⊢;subst p q r;obtain ⟨j,rfl⟩:∃j:Nat,i=j:=⟨i.toNat,by omega⟩;simp only [bR];rcases j with _ | j
 ·refine .inr ?_;have w:IntKind.wrap .i64 (((0:Nat):Int) - 1)=-1:=wrap_i64 _ (by omega) (by omega);simp only [bY,w,show decide ((-1:Int)<0)=true from rfl,aj,bki]
 ·have w:IntKind.wrap .i64 (((j+1:Nat):Int) - 1)=(j:Int):=by rw [wrap_i64 _ (by omega) (by omega)];omega
  have v:decide ((j:Int)<0)=false:=by simp
  obtain ⟨c,hc⟩:∃c,m'[j]?=some c:=⟨m'[j]'(by omega),bn (by omega)⟩;obtain ⟨y,hy⟩:∃c,l[j]?=some c:=⟨l[j]'(by omega),bn (by omega)⟩;have t:(over z 0 l)[j]?=some y:=by rw [tR (by omega)];exact hy
  simp only [bY,w,v,af,dK hc,ob,yD,fb (show j<18 by omega),t,bki,hc,hy,ak,ne_eq];by_cases b:c=88
  ·by_cases k:y=lst up
   ·have e:(y != lst up)=false:=by simpa using k
    refine .inl ⟨(m',n,f,lst up,(j:Int),over z 0 l,o),by simp only [am b,aj,e,af],⟨rfl,rfl,⟨by simp only;omega,by simp only;omega⟩,rfl⟩,by simp only [bR];omega,?_⟩;simp only [bR,ab (show ¬(c=88/\¬y=lst up) from λh=>h.2 k)]
   ·have e:(y != lst up)=true:=by simpa using k
    refine .inr ?_;simp only [am b,aj,e,ae (show c=88/\¬y=lst up from ⟨b,k⟩)]
  ·refine .inl ⟨(m',n,f,lst up,(j:Int),over z 0 l,o),by simp only [aq b,af],⟨rfl,rfl,⟨by simp only;omega,by simp only;omega⟩,rfl⟩,by simp only [bR];omega,?_⟩;simp only [bR,ab (show ¬(c=88/\¬y=lst up) from λh=>b h.1)]
theorem A6 (s:m.length<=18) (up:Bool) (d:List Int) (e:d.length=18) (i:Nat) (hi:i<=m.length):
  ar (bm 20000000) 20000000 (m,fst up,(i:Int),d)=some (m,over d i (fil up (m.drop i))):=by
 have:=fq (step:=bm 20000000) (λx=>x.1=m/\x.2.1=fst up/\(0<=x.2.2.1/\x.2.2.1<=m.length)/\x.2.2.2.length=18) (λx=>m.length - x.2.2.1.toNat)
  (λx=>(m,over x.2.2.2 x.2.2.1.toNat (fil up (m.drop x.2.2.1.toNat)))) ?_ 20000000 (m,fst up,(i:Int),d) ⟨rfl,rfl,⟨by simp only;omega,by simp only;omega⟩,e⟩ (by simp;omega)
 ·simpa using this
 rintro ⟨m',f,i,d⟩ ⟨l,n,⟨q,hi⟩,e⟩;simp only at l n q hi e ⊢;subst l n;obtain ⟨j,rfl⟩:∃j:Nat,i=j:=⟨i.toNat,by omega⟩;simp only [bR];rcases aF j m'.length with g | k
 ·obtain ⟨c,hc⟩:∃c,m'[j]?=some c:=⟨m'[j],bn g⟩;have o:j<18:=by omega
  have h:(decide ((j:Int)<((List.length m':Nat):Int)))=true:=by simp;omega
  have r:IntKind.wrap .i64 ((j:Int)+1)=((j+1:Nat):Int):=by rw [wrap_i64 _ (by omega) (by omega)];omega
  have p:Nat.blt j 18=true:=cG o;have b:∀c:UInt8,fil up (c::m'.drop (j+1))=(cond (decide (c=88)) (fst up) ((c.toNat:Nat):Int))::fil up (m'.drop (j+1)):=λ_=>rfl;rw [bS hc,b];simp only [bm,h,aj,dK hc,ob,yD,fb o,p,r];by_cases a:c=88
  ·refine .inl ⟨(m',fst up,((j+1:Nat):Int),(d.set j ((c.toNat:Nat):Int)).set j (fst up)),by simp only [am a,aj],⟨rfl,rfl,⟨by simp only;omega,by simp only;omega⟩,by simpa using e⟩,by simp only [bR];omega,?_⟩;simp only [bR,am a,aj];rw [List.set_set,zF _ _ _ _ (by omega)]
  ·refine .inl ⟨(m',fst up,((j+1:Nat):Int),d.set j ((c.toNat:Nat):Int)),by simp only [aq a,af],⟨rfl,rfl,⟨by simp only;omega,by simp only;omega⟩,by simpa using e⟩,by simp only [bR];omega,?_⟩;simp only [bR,aq a,af];rw [zF _ _ _ _ (by omega)]
 ·have h:(decide ((j:Int)<((List.length m':Nat):Int)))=false:=by simp;omega
  refine .inr ?_;simp only [bm,h,af];rw [iD k];simp [fil,DZ]
theorem zZ (z l F:List Int) (i:Nat) (h:i+F.length=l.length):over (over z 0 l) i F=over z 0 (l.take i++F):=by
 unfold over;simp only [jU,dn,cj,bE,e7,qJ (show i<=l.length by omega),h];rw [sV (by omega),List.drop_append_of_le_length (by omega),List.drop_of_length_le (aQ l.length)];simp
end
theorem K6 {m:aa} (Z:chk m=0) (up:Bool) (k:Int) (W:0<=k) (h1:k<10 ^ m.length):
  cR 20000000 m k up=some (match nx up m (dg m.length k) with | some r=>(vl r,0) | none=>(0,16)):=by
 obtain ⟨g,_,I⟩:=l7 Z;have hp:=AP m.length g;have f:=vD m.length k;have o:=si m.length k;have V:=LL m.length k W h1;have P:=O7 up I f.symm o;have j:=Ni m k g W (by omega);generalize dg m.length k=l at f o V P j ⊢;have n:(over [0,0,0,0,0,0,0,0,0,0,0,0,0,0,0,0,0,0] 0 l).length=18:=by rw [MJ _ _ _ (by simp;omega)];rfl
 have u:∀r:List Int,nx up m l=some r->fK 20000000 m (over [0,0,0,0,0,0,0,0,0,0,0,0,0,0,0,0,0,0] 0 r)=some (vl r):=by
  intro r hr;rw [hr] at P;obtain ⟨X,T,_⟩:=P;rw [ND _ g X T,yp T]
 have v:=Tm m l;have F:=Iz m l;have b:=AE up (m:=m.take (ap m l)) (m':=m.drop (ap m l)) (d:=l.take (ap m l)) (d':=l.drop (ap m l)) (by simp;omega) F;rw [rc,rc] at b;have h:ke 20000000 m k=some (over [0,0,0,0,0,0,0,0,0,0,0,0,0,0,0,0,0,0] 0 l):=j;generalize hzz:([0,0,0,0,0,0,0,0,0,0,0,0,0,0,0,0,0,0]:List Int)=z at n u h;rcases aF (ap m l) m.length with O | hge
 ·obtain ⟨c,hc⟩:∃c,m[ap m l]?=some c:=⟨m[ap m l],bn O⟩;obtain ⟨y,hy⟩:∃c,l[ap m l]?=some c:=⟨l[ap m l]'(by omega),bn (by omega)⟩;obtain ⟨G,R⟩:=Kv hc hy;have B:(over z 0 l)[ap m l]?=some y:=by rw [tR (by omega)];exact hy
  have s:(((ap m l:Nat):Int)==((List.length m:Nat):Int))=false:=by simp;omega
  have C:ap m l<18:=by omega
  have M:fil up (m.drop (ap m l))=((c.toNat:Nat):Int)::fil up (m.drop (ap m l+1)):=by
   rw [bS hc];simp [fil,G]
  have J:=ES up m l f.symm (ap m l) v;have Q:nx up (m.drop (ap m l)) (l.drop (ap m l))=if decide (((c.toNat:Nat):Int)>y)=up then some (fil up (m.drop (ap m l))) else none:=by
   rw [M,bS hc,bS hy];simp only [nx,ab G,ab R]
  rw [Q] at b;by_cases p:decide (((c.toNat:Nat):Int)>y)=up
  ·rw [ae p] at b;simp only at b;have x:=u _ b;rw [b];simp only [];rw [<-zZ z l _ _ (by rw [y6,cu];omega)] at x;have D:=A6 g up _ n (ap m l) v;cases up
   ·have i:=kQ (z:=z) f.symm g k 57 48 false;have l2':ar (bm 20000000) 20000000 (m,57,((ap m l:Nat):Int),over z 0 l)=_:=D;simp only [cR,g9,aj,h,ob,i,s,af,dK hc,fb C,B,p,om,cN,l2',x]
   ·have i:=kQ (z:=z) f.symm g k 48 57 true;have l2':ar (bm 20000000) 20000000 (m,48,((ap m l:Nat):Int),over z 0 l)=_:=D;simp only [cR,cN,aj,h,ob,i,s,af,dK hc,fb C,B,p,om,l2',x]
  ·rw [ab p] at b;simp only [J] at b;have q:(!(decide (((c.toNat:Nat):Int)>y)==up))=true:=by
    cases up<;>cases hh:decide (((c.toNat:Nat):Int)>y)<;>simp_all
   have t:=IA (z:=z) f.symm g (fst up) up (over z 0 l) (ap m l) v;cases K:bki up m l (ap m l) with
   | none=>
    rw [K] at b t;simp only [gR] at b;rw [b];simp only [] at t ⊢;cases up
    ·have i:=kQ (z:=z) f.symm g k 57 48 false;have l1':ar (bY 20000000) 20000000 (m,false,57,48,((ap m l:Nat):Int),over z 0 l,over z 0 l)=_:=t;simp only [cR,g9,aj,h,ob,i,s,af,dK hc,fb C,B,q,l1']
    ·have i:=kQ (z:=z) f.symm g k 48 57 true;have l1':ar (bY 20000000) 20000000 (m,true,48,57,((ap m l:Nat):Int),over z 0 l,over z 0 l)=_:=t;simp only [cR,cN,aj,h,ob,i,s,af,dK hc,fb C,B,q,l1']
   | some a=>
    have ha:=Om up m l K;obtain ⟨w,L⟩:∃c,l[a]?=some c:=⟨l[a]'(by omega),bn (by omega)⟩;have E:(over z 0 l)[a]?=some w:=by rw [tR (by omega)];exact L
    have H:l.getD a 0=w:=by rw [B6,L];rfl
    have Y:=o w (fH L);have A:a<18:=by omega
    have S:Nat.blt a 18=true:=cG A;have U:IntKind.wrap .i64 ((a:Int)+1)=((a+1:Nat):Int):=by rw [wrap_i64 _ (by omega) (by omega)];omega
    rw [K] at b t;simp only [dU,H] at b;have x:=u _ b;rw [b];simp only [] at t ⊢;rw [<-zZ z l _ _ (by rw [aJ,y6,cu];omega),<-zF _ _ _ _ (by omega)] at x;have D:=A6 g up ((over z 0 l).set a (stp up w)) (by simpa using n) (a+1) (by omega);cases up
    ·have i:=kQ (z:=z) f.symm g k 57 48 false;have l1':ar (bY 20000000) 20000000 (m,false,57,48,((ap m l:Nat):Int),over z 0 l,over z 0 l)=some (.inr (m,false,57,((a:Nat):Int),over z 0 l)):=t;have l2':ar (bm 20000000) 20000000 (m,57,((a+1:Nat):Int),(over z 0 l).set a (w - 1))=_:=D;have N:IntKind.wrap .u8 (w - 1)=w - 1:=gh _ (by omega) (by omega);simp only [cR,g9,aj,h,ob,i,s,af,dK hc,fb C,B,q,l1',fb A,E,S,U,N,l2',x]
    ·have i:=kQ (z:=z) f.symm g k 48 57 true;have l1':ar (bY 20000000) 20000000 (m,true,48,57,((ap m l:Nat):Int),over z 0 l,over z 0 l)=some (.inr (m,true,48,((a:Nat):Int),over z 0 l)):=t;have l2':ar (bm 20000000) 20000000 (m,48,((a+1:Nat):Int),(over z 0 l).set a (w+1))=_:=D;have N:IntKind.wrap .u8 (w+1)=w+1:=gh _ (by omega) (by omega);simp only [cR,cN,aj,h,ob,i,s,af,dK hc,fb C,B,q,l1',fb A,E,S,U,N,l2',x]
 ·have e:ap m l=m.length:=by omega
  rw [e,wI,<-f,wI,mf] at b;simp only [nx,jP] at b;have s:(((ap m l:Nat):Int)==((List.length m:Nat):Int))=true:=by rw [e];simp
  rw [b];simp only [V];cases up
  ·have i:=kQ (z:=z) f.symm g k 57 48 false;simp only [cR,g9,aj,h,ob,i,s]
  ·have i:=kQ (z:=z) f.symm g k 48 57 true;simp only [cR,cN,af,h,ob,i,s,aj]
def near (up:Bool) (m:aa) (k:Int):Option Int->Prop
 | some R=>hasM m R=true/\eo up k R/\∀e,hasM m e=true->eo up k e->eo up R e
 | none=>∀e,hasM m e=true->¬eo up k e
def res (o:Option Int):Int×Int:=match o with | some r=>(r,0) | none=>(0,16)
theorem mJ {m:aa} {e:Int} (h:hasM m e=true):(dg m.length e).length=m.length/\digl (dg m.length e)/\iq m (dg m.length e)=true/\vl (dg m.length e)=e/\0<=e/\e<10 ^ m.length:=by
 unfold hasM at h;simp only [aB,bV] at h;exact ⟨vD _ _,si _ _,h.2.2,LL _ _ h.1 h.2.1,h.1,h.2.1⟩
theorem QN {m:aa} {r:List Int} (d:r.length=m.length) (b:digl r) (e:iq m r=true):hasM m (vl r)=true:=by
 have a:=uj b;have c:=UY b;rw [d] at a c;unfold hasM;rw [c,e,am a.1,am a.2];rfl
theorem uP {m:aa} (l:chk m=0) (up:Bool) (k:Int) (n:0<=k) (p:k<10 ^ m.length):∃o,cR 20000000 m k up=some (res o)/\near up m k o:=by
 obtain ⟨v,_,d⟩:=l7 l;have a:=O7 up d (vD m.length k).symm (si m.length k);have h:=LL m.length k n p;refine ⟨(nx up m (dg m.length k)).map vl,?_,?_⟩
 ·rw [K6 l up k n p];cases nx up m (dg m.length k)<;>rfl
 ·cases hx:nx up m (dg m.length k) with
  | none=>
   rw [hx] at a;intro e g j;obtain ⟨i,c,f,b,_⟩:=mJ g;exact a _ i c f (by rw [h,b];exact j)
  | some r=>
   rw [hx] at a;obtain ⟨u,t,w,q,s⟩:=a;refine ⟨QN u t w,by rw [h] at q;exact q,λe g j=>?_⟩;obtain ⟨i,c,f,b,_⟩:=mJ g;have:=s _ i c f (by rw [h,b];exact j);rwa [b] at this
theorem Fb {m:aa} {e:Int} (h:hasM m e=true):0<=idx m.reverse e/\idx m.reverse e<10 ^ cnt m/\nth m.reverse (idx m.reverse e)=e:=by
 rw [Cj] at h;simp only [aB,bV] at h;obtain ⟨k0,k1,k2⟩:=h;have:=wh m.reverse e k0;rw [ra] at this;exact ⟨this.1,this.2,I3 k0 (by rw [xI];exact k1) k2⟩
section
variable {m:List UInt8} (hm:chk m=0)
include hm
theorem H5 {i j:Int} (b:0<=i) (d:i<=j) (e:j<10 ^ cnt m):nth m.reverse i<=nth m.reverse j:=by
 obtain ⟨c,_,a⟩:=l7 hm;rcases Int.lt_or_eq_of_le d with h | rfl
 ·exact Int.le_of_lt (zP (xO a) i j b h (by rw [ra];exact e))
 ·exact s9 _
theorem AT (k:Int):kM 20000000 m k=some (decide (0<=k/\k<10 ^ m.length)):=by
 obtain ⟨b,_,c⟩:=l7 hm;simp only [kM,Nk m.length b,ob];by_cases a:0<=k
 ·have d0:decide (k>=0)=true:=by simpa using a
  simp only [d0,aj,a,ku,mN]
 ·have d0:decide (k>=0)=false:=by simpa using a
  simp only [d0,af,a,false_and,mb]
theorem Ks (k:Int):∃o,pO 20000000 m k=some (res o)/\near true m k o:=by
 obtain ⟨n,_,a⟩:=l7 hm;have q:((0:Int) != 0)=false:=by simp
 simp only [pO,kw 20000000 m (by omega),hm,li,q,af,AT hm];by_cases b:k<0
 ·refine ⟨some (nth m.reverse 0),by simp only [am b,aj,LR hm,li,res],Fv hm (by omega),?_,λe c f=>?_⟩
  ·have:=(o9 (xO a) 0 (by omega)).1;simp only [eo];omega
  ·obtain ⟨l,j,r⟩:=Fb c;have:=H5 hm (s9 0) l j;simp only [eo];omega
 ·by_cases d:k<10 ^ m.length
  ·obtain ⟨o,g,p⟩:=uP hm true k (by omega) d;exact ⟨o,by simp only [aq b,af,am (show 0<=k/\k<10 ^ m.length from ⟨by omega,d⟩),cN,g,li],p⟩
  ·refine ⟨none,by simp only [aq b,af,aq (show ¬(0<=k/\k<10 ^ m.length) from λh=>d h.2),g9,aj,res],λe c f=>?_⟩;obtain ⟨_,_,_,_,_,i⟩:=mJ c;simp only [eo] at f;omega
theorem I5 (k:Int):∃o,pL 20000000 m k=some (res o)/\near false m k o:=by
 obtain ⟨g,_,a⟩:=l7 hm;have q:((0:Int) != 0)=false:=by simp
 simp only [pL,kw 20000000 m (by omega),hm,li,q,af,AT hm];by_cases b:k<0
 ·refine ⟨none,by simp only [am b,aj,res],λe c f=>?_⟩;obtain ⟨_,_,_,_,i,_⟩:=mJ c;simp only [eo] at f;omega
 ·by_cases d:k<10 ^ m.length
  ·obtain ⟨o,n,j⟩:=uP hm false k (by omega) d;exact ⟨o,by simp only [aq b,af,am (show 0<=k/\k<10 ^ m.length from ⟨by omega,d⟩),cN,n,li],j⟩
  ·have p:=ri (cnt m);refine ⟨some (nth m.reverse (10 ^ cnt m - 1)),by simp only [aq b,af,aq (show ¬(0<=k/\k<10 ^ m.length) from λh=>d h.2),g9,aj,CB hm,li,res],Fv hm (by omega),?_,λe c f=>?_⟩
   ·have:=(o9 (xO a) (10 ^ cnt m - 1) (by omega)).2;rw [xI] at this;simp only [eo];omega
   ·obtain ⟨l,s,r⟩:=Fb c;have:=H5 hm l (show idx m.reverse e<=10 ^ cnt m - 1 by omega) (by omega);simp only [eo];omega
end
end Go.Sh.Mk
namespace Go.Sh
open Go.Abs
def fitN (s:aa) (g:Nat):List Nat:=(List.range' 1 g).filter (agr s)
def wO (l:List Nat):List Int:=l.map λk:Nat=>(k:Int)
theorem Ap (l:List Nat):(wO l).length=l.length:=by simp [wO]
theorem Ab (c:UInt8) {j:Nat} (a:j<10):(IntKind.wrap .i64 (IntKind.wrap .u8 (((c.toNat:Nat):Int) - 48))==((j:Nat):Int))=(c==UInt8.ofNat (48+j)):=by
 have hc:=c.toNat_lt;have b:=yP (((c.toNat:Nat):Int) - 48);rw [wrap_i64 _ (by omega) (by omega),GP,ux,bp,bp];have d:(UInt8.ofNat (48+j)).toNat=48+j:=by simp;omega
 constructor
 ·intro h;apply fZ.1;omega
 ·rintro rfl;omega
theorem Ie (n:Nat) (a b:UInt8) {k:Nat} (l:k<=31):jH n [a,b] (k:Int)=some (agr [a,b] k):=by
 have i:IntKind.wrap .i64 (Int.tdiv (k:Int) 10)=((k / 10:Nat):Int):=by
  rw [show Int.tdiv (k:Int) 10=((k / 10:Nat):Int) from rfl,wrap_i64 _ (by omega) (by omega)]
 have d:Int.tmod (k:Int) 10=((k%10:Nat):Int):=rfl;have s0:sx [a,b] 0=some a:=rfl;have g:sx [a,b] 1=some b:=rfl;have c:(88:Int)=((88:Nat):Int):=rfl;unfold jH;simp only [s0,g,ob,i,d];rw [Ab a (show k / 10<10 by omega),Ab b (show k%10<10 by omega),c,xo (by omega),xo (by omega)];show _=some ((a==UInt8.ofNat 88||a==UInt8.ofNat (48+k / 10))&&(b==UInt8.ofNat 88||b==UInt8.ofNat (48+k%10)));generalize (a==UInt8.ofNat 88)=h;generalize (b==UInt8.ofNat 88)=f;generalize (a==UInt8.ofNat (48+k / 10))=e;generalize (b==UInt8.ofNat (48+k%10))=j;cases h<;>cases f<;>cases e<;>cases j<;>rfl
theorem room {k:Nat} (h:k<=60000000):Nat.ble (k+1) gf=true:=cG (by unfold gf;omega)
theorem Nv {X Y:Type} {step:X->Option (X⊕Y)} {f:Nat->List Int->X} {y:List Int->Y} {p:Nat->Bool} {g:Nat} (e:g<=1000)
  (h:∀i out,i<g->out.length<=1000->step (f i out)=some (.inl (f (i+1) (if p (i+1) then out++[((i+1:Nat):Int)] else out))))
  (c:∀out,step (f g out)=some (.inr (y out))) {N:Nat} (a:g<N):ar step N (f 0 [])=some (y (wO ((List.range' 1 g).filter p))):=by
 have b:∀(r i:Nat) (out:List Int),i+r=g->out.length<=i->∀N,r<N->ar step N (f i out)=some (y (out++wO ((List.range' (i+1) r).filter p))):=by
  intro r
  induction r with
  | zero=>
   intro i out hi d N a;obtain ⟨N,rfl⟩:∃q,N=q+1:=⟨N - 1,by omega⟩;obtain rfl:i=g:=by omega
   rw [ar,c];simp [wO]
  | succ r ih=>
   intro i out hi d N a;obtain ⟨N,rfl⟩:∃q,N=q+1:=⟨N - 1,by omega⟩;rw [ar,h i out (by omega) (by omega)];show ar step N _=_;by_cases hp:p (i+1)=true
   ·rw [ae hp,ih (i+1) _ (by omega) (by simp;omega) N (by omega),CO,List.filter_cons_of_pos hp];simp [wO]
   ·rw [ab hp,ih (i+1) _ (by omega) (by omega) N (by omega),CO,List.filter_cons_of_neg hp]
 have:=b g 0 [] (by omega) (by simp) N a;simpa using this
theorem Jl (n:Nat) (e:100<n) (a b:UInt8) {g:Nat} (h:g<=31):eH n [a,b] (g:Int)=some (wO (fitN [a,b] g)):=by
 unfold eH
 have:=Nv (step:=fg n) (f:=λi out=>([a,b],(g:Int),(i:Int),out)) (y:=λl=>l) (p:=agr [a,b]) (g:=g) (by omega)
  (λi out hi j=>by
   have d:IntKind.wrap .i64 ((i:Int)+1)=((i+1:Nat):Int):=by rw [wrap_i64 _ (by omega) (by omega)];omega
   unfold fg;simp only [d];rw [am (show (i:Int)<(g:Int) by omega),Ie n a b (by omega),room (by omega)];by_cases hp:agr [a,b] (i+1)=true
   ·rw [ae hp];simp only [ob,hp,aj]
   ·rw [ab hp];rw [Ft] at hp;simp only [ob,hp,aj,af])
  (λout=>by
   unfold fg;simp only [aq (show ¬(g:Int)<(g:Int) by omega),af])
  (N:=n) (by omega)
 have c:ar (fg n) n ([a,b],(g:Int),0,([]:List Int))=_:=this;rw [c];rfl
def monI (m:aa):List Int:=if m=[] then [0] else if 0<sea m then [sea m] else wO (fitN m 12)
def dayI (d:aa):List Int:=if d=[] then [0] else wO (fitN d 31)
theorem kr {l:aa} (h:l≠[]):(l==([]:aa))=false:=aL.2 h
theorem len2 {s:aa} (h:s.length=2):∃a b,s=[a,b]:=by
 match s,h with
 | [a,b],_=>exact ⟨a,b,rfl⟩
theorem U5 (n:Nat) (k:100<n) (g l:Bool) (dg:aa) (x q:Int) (m d:aa) (k0 k1 k2:Int) (j:m=[]\/m.length=2) (o:d=[]\/d.length=2):
  l6 n g l dg x q m d k0 k1 k2=some (g,l,dg,x,q,m,d,k0,k1,k2,monI m,dayI d):=by
 have f:m.length<=18:=by rcases j with h | h;(rw [h];simp);omega
 have i:d≠[]->eH n d 31=some (dayI d):=λh=>by
  obtain ⟨a,b,rfl⟩:=len2 (o.resolve_left h);rw [show (31:Int)=((31:Nat):Int) from rfl,Jl n k a b (by omega)];unfold dayI;rw [ab h]
 have c:d=[]->dayI d=[0]:=λh=>by unfold dayI;rw [ae h]
 have p:m≠[]->¬0<sea m->eH n m 12=some (monI m):=λh hs=>by
  obtain ⟨a,b,rfl⟩:=len2 (j.resolve_left h);rw [show (12:Int)=((12:Nat):Int) from rfl,Jl n k a b (by omega)];unfold monI;rw [ab h,ab hs]
 unfold l6;rw [pt n g l dg x q m d k0 k1 k2 f];simp only [ob];by_cases hs:0<sea m
 ·have e:m≠[]:=by rintro rfl;exact absurd hs (by decide)
  have hm':monI m=[sea m]:=by unfold monI;rw [ab e,ae hs]
  rw [am hs];by_cases h:d=[]
  ·rw [h,<-h,c h,hm',h];rfl
  ·rw [kr h,i h,hm'];rfl
 ·rw [aq hs];by_cases e:m=[]
  ·have hm':monI m=[0]:=by unfold monI;rw [ae e]
   by_cases h:d=[]
   ·rw [c h,hm',h,e];rfl
   ·rw [kr h,i h,hm',e];rfl
  ·rw [kr e,p e hs];by_cases h:d=[]
   ·rw [c h,h];rfl
   ·rw [kr h,i h];rfl
def ww (y:Int):Bool:=decide (y%4=0)&&(decide (y%100≠0)||decide (y%400=0))
def lenI (y m:Int):Int:=if m=4\/m=6\/m=9\/m=11 then 30 else if m=2 then (if ww y then 29 else 28) else 31
theorem vz (n:Nat) {y:Int} (h:-20000000000000000<=y/\y<=20000000000000000):eJ n y=some (1+(y - 1) / 4 - (y - 1) / 100+(y - 1) / 400):=by
 unfold eJ;rw [wrap_i64 (y - 1) (by omega) (by omega),wc n (by omega) (by omega) (by omega) (by omega),wc n (by omega) (by omega) (by omega) (by omega),wc n (by omega) (by omega) (by omega) (by omega)];show some _=some _;have f:-5000000000000001<=(y - 1) / 4/\(y - 1) / 4<=5000000000000001:=by omega
 have e:-5000000000000001<=(y - 1) / 100/\(y - 1) / 100<=5000000000000001:=by omega
 have d:-5000000000000001<=(y - 1) / 400/\(y - 1) / 400<=5000000000000001:=by omega
 generalize (y - 1) / 4=a at *;generalize (y - 1) / 100=b at *;generalize (y - 1) / 400=c at *;simp only [];rw [wrap_i64 (1*a) (by omega) (by omega),wrap_i64 (-1*b) (by omega) (by omega),wrap_i64 (1*c) (by omega) (by omega),wrap_i64 (1+1*a) (by omega) (by omega),wrap_i64 (1+1*a+-1*b) (by omega) (by omega),wrap_i64 _ (by omega) (by omega)];congr 1;omega
theorem Ny (y:Int):(1+y / 4 - y / 100+y / 400>1+(y - 1) / 4 - (y - 1) / 100+(y - 1) / 400)↔ww y=true:=by
 unfold ww;simp only [aB,f8,bV];omega
theorem PH (n:Nat) {y:Int} (h:du y):jl n y=some (ww y,0):=by
 unfold jl;have h':=h;unfold du at h';rw [fJ,ae h,wrap_i64 (y+1) (by omega) (by omega),vz n (by omega),vz n (by omega),show y+1 - 1=y by omega];have b:=Ny y;show some (decide (1+y / 4 - y / 100+y / 400>1+(y - 1) / 4 - (y - 1) / 100+(y - 1) / 400),(0:Int))=_;by_cases a:ww y=true
 ·rw [a,am (b.2 a)]
 ·rw [Ft] at a;rw [a,aq (λe=>by rw [b.1 e] at a;cases a)]
theorem uI (n:Nat) {y:Int} (h:du y) {m:Nat} (d:1<=m) (c:m<=12):dE n y (m:Int)=some (lenI y (m:Int)):=by
 unfold dE;rw [PH n h];show cond (ww y&&((m:Int)==2)) _ _=_;have a:IntKind.wrap .i64 ((m:Int) - 1)=((m - 1:Nat):Int):=by rw [wrap_i64 _ (by omega) (by omega)];omega
 rw [a,fb (show m - 1<12 by omega)];have b:m=1\/m=2\/m=3\/m=4\/m=5\/m=6\/m=7\/m=8\/m=9\/m=10\/m=11\/m=12:=by omega
 rcases b with rfl | rfl | rfl | rfl | rfl | rfl | rfl | rfl | rfl | rfl | rfl | rfl<;>unfold lenI<;>cases ww y<;>rfl
theorem KV (n:Nat) {y:Int} (h:du y) {m:Nat} (b:1<=m) (a:m<=12):mS n y (m:Int)=some (lenI y (m:Int),0):=by
 unfold mS;rw [FO n h b a,uI n h b a];rfl
theorem pW (y m:Int):28<=lenI y m/\lenI y m<=31:=by
 unfold lenI;split
 ·omega
 ·split
  ·split<;>omega
  ·omega
def uR (d:aa) (y m:Int):Int:=if d=[] then 0 else lenI y m
def N5 (d:aa) (y a:Int):List (Int×Int×Int):=((dayI d).filter λk=>decide (k<=uR d y a)).map λk=>(y,a,k)
def J2 (m d:aa) (y:Int):List (Int×Int×Int):=(monI m).flatMap (N5 d y)
theorem E7 (s:aa) (g:Nat):(fitN s g).length<=g:=by
 have:=HV (agr s) (List.range' 1 g);rw [List.length_range'] at this;exact this
theorem Mc (d:aa):(dayI d).length<=31:=by
 unfold dayI;split
 ·simp
 ·rw [Ap];exact E7 d 31
theorem Ll (m:aa):(monI m).length<=12:=by
 unfold monI;split
 ·simp
 ·split
  ·simp
  ·rw [Ap];exact E7 m 12
theorem Sm {a b c e:UInt8} (l:aS a=true\/a=88) (j:aS b=true\/b=88) (hc:aS c=true\/c=88) (k:aS e=true\/e=88) (w:Nat):
  mtk [a,b,c,e] 4 w=Mk.ag [e,c,b,a] (w:Int):=by
 have one:∀(z:UInt8) (v:Nat),(decide (z=88)||decide (z.toNat=48+v%10))=(decide (z=88)||decide (Mk.dv z=(v:Int)%10)):=by
  intro z v;have:(z.toNat=48+v%10)↔(Mk.dv z=(v:Int)%10):=by unfold Mk.dv;omega
  rw [nY.2 this]
 have d:∀v:Nat,(v:Int) / 10=((v / 10:Nat):Int):=λv=>by omega
 show ((decide (e=88)||decide (e.toNat=48+w%10))&&((decide (c=88)||decide (c.toNat=48+w / 10%10))&&((decide (b=88)||decide (b.toNat=48+w / 10 / 10%10))&&((decide (a=88)||decide (a.toNat=48+w / 10 / 10 / 10%10))&&true))))
  = ((((true&&(decide (a=88)||decide (Mk.dv a=(w:Int) / 10 / 10 / 10%10)))&&(decide (b=88)||decide (Mk.dv b=(w:Int) / 10 / 10%10)))&&(decide (c=88)||decide (Mk.dv c=(w:Int) / 10%10)))&&(decide (e=88)||decide (Mk.dv e=(w:Int)%10)))
 rw [one e w,one c (w / 10),one b (w / 10 / 10),one a (w / 10 / 10 / 10),d w,d (w / 10),d (w / 10 / 10)];generalize (decide (e=88)||decide (Mk.dv e=(w:Int)%10))=h;generalize (decide (c=88)||decide (Mk.dv c=((w / 10:Nat):Int)%10))=g;generalize (decide (b=88)||decide (Mk.dv b=((w / 10 / 10:Nat):Int)%10))=f;generalize (decide (a=88)||decide (Mk.dv a=((w / 10 / 10 / 10:Nat):Int)%10))=i;cases h<;>cases g<;>cases f<;>cases i<;>rfl
theorem PL {c:UInt8} (h:aS c=true\/c=88):Mk.okB c=true:=by
 rcases h with h | h
 ·have h:=(bJ c).1 h;unfold Mk.okB;simp only [f8,aB,bV];right
  first | omega | (obtain ⟨b,a⟩:=h;constructor<;>omega)
 ·subst h;decide
theorem Nr {d:aa} (a:d.length=4) (h:∀c∈d,aS c=true\/c=88):Mk.chk d=0:=by
 unfold Mk.chk;have:d.all Mk.okB=true:=bG.2 λc hc=>PL (h c hc);rw [ab (by omega),ae this,ab (by rintro rfl;simp at a)]
theorem E9 {d:aa} (j:d.length=4) (h:∀c∈d,aS c=true\/c=88) (w:Nat):Mk.hasM d (w:Int)=true↔mtk d 4 w=true/\w / 10 ^ 4=0:=by
 obtain ⟨a,b,c,e,rfl⟩:∃a b c e,d=[a,b,c,e]:=by
  match d,j with
  | [a,b,c,e],_=>exact ⟨a,b,c,e,rfl⟩
 rw [Mk.Cj,Sm (h a (by simp)) (h b (by simp)) (h c (by simp)) (h e (by simp)) w];simp only [aB,bV];show 0<=(w:Int)/\(w:Int)<10 ^ 4/\Mk.ag [e,c,b,a] (w:Int)=true↔Mk.ag [e,c,b,a] (w:Int)=true/\w / 10 ^ 4=0;have i:(10:Int) ^ 4=10000:=by decide
 have e4':(10:Nat) ^ 4=10000:=by decide
 rw [i,e4'];constructor
 ·rintro ⟨_,g,f⟩;exact ⟨f,by omega⟩
 ·rintro ⟨f,g⟩;exact ⟨by omega,by omega,f⟩
theorem Fh {g l:Bool} {d:aa} {x q:Int} (b:okY g l d x q) (h:hasX d=true) (v:Int):inP g d x q v↔(Mk.hasM d (wOf g v)=true/\(g=true->1<=wOf g v)):=by
 obtain ⟨rfl,rfl,rfl,a,j⟩:=vF b h;unfold inP;rw [RU h];have p:∀k:Int,Mk.hasM d k=true->0<=k/\k<10000:=λk r=>by
  have:=(Mk.mJ r).2.2.2.2;rw [a] at this;have t:(10:Int) ^ 4=10000:=by decide
  omega
 constructor
 ·rintro ⟨c,i,w,n,o⟩;have:=(E9 a j (wOf g v).toNat).2 o;rw [show (((wOf g v).toNat:Nat):Int)=wOf g v by omega] at this;refine ⟨this,λf=>?_⟩;have s:¬wOf g v=0:=λe=>n ⟨h,f,e⟩;omega
 ·rintro ⟨c,i⟩;have hr':=p _ c;have m:=(E9 a j (wOf g v).toNat).1 (by rw [show (((wOf g v).toNat:Nat):Int)=wOf g v by omega];exact c);have u:v=wOf g v\/v=- wOf g v:=by
   unfold wOf;split
   ·right;omega
   ·left;rfl
  refine ⟨by omega,by omega,hr'.1,?_,m⟩;rintro ⟨_,f,e⟩;have:=i f;omega
theorem Di {g l:Bool} {d:aa} {x:Int} (a:okY g l d x 0) (b:hasX d=false) (v:Int):inP g d x 0 v↔v=(if g then -((val d x.toNat:Nat):Int) else ((val d x.toNat:Nat):Int)):=by
 obtain ⟨k,q,rfl,n,e⟩:=xM a b;have hs:=e.small;have h:dval 0 d*10 ^ k=val d k:=rfl;rw [h] at hs;unfold E16 at hs;unfold inP;rw [RB b];have m:G1 d (k:Int).toNat (0:Int).toNat=1:=rfl;rw [m,bR,yF,yF,b];unfold wOf;cases g with
 | true=>
  simp only [aI];constructor
  ·rintro ⟨f,i,j,_,c⟩;omega
  ·rintro rfl;refine ⟨by omega,by omega,by omega,by simp,by omega⟩
 | false=>
  simp only [bj,aE];constructor
  ·rintro ⟨f,i,j,_,c⟩;omega
  ·rintro rfl;refine ⟨by omega,by omega,by omega,by simp,by omega⟩
def DU (up:Bool) (Y:Int->Prop) (v w:Int) (a:Bool):Prop:=
 (a=true->Y w/\Mk.eo up v w/\∀e,Y e->Mk.eo up v e->Mk.eo up w e)/\(a=false->∀e,Y e->¬Mk.eo up v e)
theorem eF (a b:Int):Mk.eo true a b↔a<=b:=Iff.rfl
theorem gn (a b:Int):Mk.eo false a b↔b<=a:=Iff.rfl
theorem OB (o:Option Int):(Mk.res o).2=0/\(∃r,o=some r/\(Mk.res o).1=r)\/(Mk.res o).2=16/\o=none/\(Mk.res o).1=0:=by
 cases o with
 | none=>exact .inr ⟨rfl,rfl,rfl⟩
 | some r=>exact .inl ⟨rfl,r,rfl,rfl⟩
theorem tf {m:aa} (j:Mk.chk m=0) (v a:Int) (q:0<=a):∃w f,eT 20000000 m v true a=some (w,f)/\DU true (λe=>Mk.hasM m e=true/\a<=e) v w f/\(0<=w/\w<1000000000000000000):=by
 obtain ⟨o,l,d⟩:=Mk.Ks j (cond (decide (a>v)) a v);unfold eT;rw [l];simp only [ob,aj];have hc:(cond (decide (a>v)) a v)=max v a:=by
  by_cases h:a>v
  ·rw [am h];show a=_;omega
  ·rw [aq h];show v=_;omega
 rw [hc] at d;rcases OB o with ⟨i,r,rfl,c⟩ | ⟨i,rfl,c⟩
 ·refine ⟨_,_,rfl,?_,?_⟩
  ·rw [i,c];obtain ⟨a1,a2,n⟩:=d;rw [eF] at a2;refine ⟨λ_=>⟨⟨a1,by omega⟩,?_,λe b g=>?_⟩,λh=>by cases h⟩
   ·rw [eF];omega
   ·rw [eF] at g;exact n e b.1 (by rw [eF];have:=b.2;omega)
  ·have:=(Mk.mJ d.1).2.2.2.2;have k:=Mk.l7 j;have hp:(10:Int) ^ m.length<=10 ^ 18:=by
    have:=k9 (show 0<10 by decide) k.1
    exact_mod_cast this
   have p:(10:Int) ^ 18=1000000000000000000:=by decide
   rw [c];omega
 ·refine ⟨_,_,rfl,?_,by rw [c];omega⟩;rw [i];refine ⟨(λh=>by cases h),λ_ e b g=>?_⟩;rw [eF] at g;exact d e b.1 (by rw [eF];have:=b.2;omega)
theorem tq {m:aa} (j:Mk.chk m=0) (v a:Int) (s:0<=a):∃w f,eT 20000000 m v false a=some (w,f)/\DU false (λe=>Mk.hasM m e=true/\a<=e) v w f/\(0<=w/\w<1000000000000000000):=by
 obtain ⟨o,p,k⟩:=Mk.I5 j v;unfold eT;rw [p];simp only [ob,af];rcases OB o with ⟨i,r,rfl,g⟩ | ⟨i,rfl,g⟩
 ·rw [i,g];obtain ⟨a1,a2,l⟩:=k;rw [gn] at a2;have t:=(Mk.mJ a1).2.2.2.2;have n:=Mk.l7 j;have hp:(10:Int) ^ m.length<=10 ^ 18:=by
   have:=k9 (show 0<10 by decide) n.1
   exact_mod_cast this
  have q:(10:Int) ^ 18=1000000000000000000:=by decide
  refine ⟨_,_,rfl,?_,by omega⟩;by_cases d:r>=a
  ·rw [am d];refine ⟨λ_=>⟨⟨a1,by omega⟩,by rw [gn];omega,λe b c=>l e b.1 c⟩,λh=>by cases h⟩
  ·rw [aq d];refine ⟨(λh=>by cases h),λ_ e b c=>?_⟩;have:=l e b.1 c;rw [gn] at this;have:=b.2;omega
 ·rw [i,g];refine ⟨_,_,rfl,?_,by omega⟩;refine ⟨(λh=>by cases h),λ_ e b c=>k e b.1 c⟩
theorem KW {g l:Bool} {dg:aa} {x:Int} (k:okY g l dg x 0) (m d:aa) (k0 k1 k2:Int) (v:Int) (G:-9223372036854775808<=v/\v<9223372036854775808) (up:Bool) (C E:List Int):
  ∃w f,aW 20000000 g l dg x 0 m d k0 k1 k2 v up C E=some (w,f)/\DU up (inP g dg x 0) v w f:=by
 have D:=kA k;unfold aW;rw [rS];simp only [ob];cases s:hasX dg with
 | false=>
  have c:=Di k s;rw [yL 20000000 g l dg x 0 (by omega) (by omega),ae ⟨k,s⟩];simp only [g9,aj];generalize (if g then -((val dg x.toNat:Nat):Int) else ((val dg x.toNat:Nat):Int))=w at *;cases up with
  | true=>
   by_cases h:w>=v
   ·refine ⟨w,true,?_,?_⟩
    ·simp only [am h,aj]
    ·refine ⟨λ_=>⟨(c w).2 rfl,h,λe b _=>?_⟩,λh=>by cases h⟩;rw [(c e).1 b];exact s9 _
   ·refine ⟨w,false,?_,?_⟩
    ·simp only [aq h,aj,af,cN]
    ·refine ⟨(λh=>by cases h),λ_ e b j=>?_⟩;rw [(c e).1 b,eF] at j;omega
  | false=>
   by_cases h:w<=v
   ·refine ⟨w,true,?_,?_⟩
    ·simp only [am h,aj,af,g9]
    ·refine ⟨λ_=>⟨(c w).2 rfl,h,λe b _=>?_⟩,λh=>by cases h⟩;rw [(c e).1 b];exact s9 _
   ·refine ⟨w,false,?_,?_⟩
    ·simp only [aq h,aj,af,g9]
    ·refine ⟨(λh=>by cases h),λ_ e b j=>?_⟩;rw [(c e).1 b,gn] at j;omega
 | true=>
  have c:=Fh k s;obtain ⟨rfl,rfl,_,z,F⟩:=vF k s;have t:=Nr z F;simp only [cN,af];cases g with
  | false=>
   simp only [g9,aj];have q:∀w f,DU up (λe=>Mk.hasM dg e=true/\0<=e) v w f->DU up (inP false dg 0 0) v w f:=λw f h=>by
    have a:∀e,(Mk.hasM dg e=true/\0<=e)↔inP false dg 0 0 e:=λe=>by
     rw [c e];constructor
     ·rintro ⟨i,_⟩;exact ⟨i,λh=>by cases h⟩
     ·rintro ⟨i,_⟩;exact ⟨i,(Mk.mJ i).2.2.2.2.1⟩
    refine ⟨λn=>?_,λn e b=>h.2 n e ((a e).2 b)⟩;obtain ⟨b1,b2,r⟩:=h.1 n;exact ⟨(a w).1 b1,b2,λe b=>r e ((a e).2 b)⟩
   cases up with
   | true=>
    obtain ⟨w,f,i,p,_⟩:=tf t v 0 (by omega);exact ⟨w,f,by rw [i],q w f p⟩
   | false=>
    obtain ⟨w,f,i,p,_⟩:=tq t v 0 (by omega);exact ⟨w,f,by rw [i],q w f p⟩
  | true=>
   simp only [cN,af];have hc:IntKind.wrap .i64 (0 - (cond (decide (((-9223372036854775807):Int)>v)) (-9223372036854775807) v))=min (-v) 9223372036854775807:=by
    by_cases h:((-9223372036854775807):Int)>v
    ·rw [am h,aj,wrap_i64 _ (by omega) (by omega)];omega
    ·rw [aq h,af,wrap_i64 _ (by omega) (by omega)];omega
   rw [hc];have y:∀e,Mk.hasM dg e=true->0<=e/\e<10000:=λe b=>by
    have:=(Mk.mJ b).2.2.2.2;rw [z] at this;have H:(10:Int) ^ 4=10000:=by decide
    omega
   have a:∀e,inP true dg 0 0 e↔(Mk.hasM dg (-e)=true/\1<=-e):=λe=>by
    rw [c e];exact ⟨λh=>⟨h.1,h.2 rfl⟩,λh=>⟨h.1,λ_=>h.2⟩⟩
   have A:∀w:Int,0<=w/\w<1000000000000000000->IntKind.wrap .i64 (0 - w)=-w:=λw h=>by rw [wrap_i64 _ (by omega) (by omega)];omega
   cases up with
   | true=>
    obtain ⟨w,f,i,p,u⟩:=tq t (min (-v) 9223372036854775807) 1 (by omega);refine ⟨-w,f,by rw [cN,i];simp only [A w u],?_,?_⟩
    ·intro n;obtain ⟨b1,b2,r⟩:=p.1 n;rw [gn] at b2;refine ⟨(a _).2 (by rw [Int.neg_neg];exact b1),by rw [eF];omega,λe b j=>?_⟩;rw [eF] at j;have o:=(a e).1 b;have:=r (-e) o (by rw [gn];have:=y _ o.1;omega);rw [gn] at this;rw [eF];omega
    ·intro n e b j;rw [eF] at j;have o:=(a e).1 b;exact p.2 n (-e) o (by rw [gn];have:=y _ o.1;omega)
   | false=>
    obtain ⟨w,f,i,p,u⟩:=tf t (min (-v) 9223372036854775807) 1 (by omega);refine ⟨-w,f,by rw [g9,i];simp only [A w u],?_,?_⟩
    ·intro n;obtain ⟨b1,b2,r⟩:=p.1 n;rw [eF] at b2;have B:=y _ b1.1;refine ⟨(a _).2 (by rw [Int.neg_neg];exact b1),by rw [gn];omega,λe b j=>?_⟩;rw [gn] at j;have o:=(a e).1 b;have:=r (-e) o (by rw [eF];omega);rw [eF] at this;rw [gn];omega
    ·intro n e b j;rw [gn] at j;have o:=(a e).1 b;exact p.2 n (-e) o (by rw [eF];omega)
theorem vv {X Y A:Type} {step:X->Option (X⊕Y)} {f:Nat->X} {L:List A} {G:A->Option Y} {e:Y}
  (h:∀i a,L[i]?=some a->step (f i)=some ((G a).elim (.inl (f (i+1))) Sum.inr)) (g:step (f L.length)=some (.inr e)) {N:Nat} (b:L.length<N):
  ar step N (f 0)=some ((L.findSome? G).getD e):=by
 have c:∀(r i:Nat),i+r=L.length->∀N,r<N->ar step N (f i)=some (((L.drop i).findSome? G).getD e):=by
  intro r
  induction r with
  | zero=>
   intro i hi N b;obtain ⟨N,rfl⟩:∃q,N=q+1:=⟨N - 1,by omega⟩;obtain rfl:i=L.length:=by omega
   rw [ar,g];simp
  | succ r ih=>
   intro i hi N b;obtain ⟨N,rfl⟩:∃q,N=q+1:=⟨N - 1,by omega⟩;have d:L[i]?=some L[i]:=bn (by omega);rw [ar,h i L[i] d,rz (show i<L.length by omega),By];cases j:G L[i] with
   | some y=>rfl
   | none=>exact ih (i+1) (by omega) N (by omega)
 have:=c L.length 0 (by omega) N b;simpa using this
def ahd (up:Bool) (a b:Int):Bool:=cond up (decide (a<b)) (decide (a>b))
theorem En (n:Nat) (a b:Int) (up:Bool):ci n a b up=some (ahd up a b):=by
 unfold ci ahd;cases up
 ·rfl
 ·simp only [aj,cN,af];cases decide (a<b)<;>rfl
def yM (up a:Bool) (d:aa) (b most k:Int):Bool:=decide (k<=most)&&!(a&&(!(d==([]:aa))&&ahd up k b))
def IG (up:Bool) (m:aa) (b c y a:Int):Bool:=(y==b)&&(!(m==([]:aa))&&ahd up a c)
def Gy (m:aa) (b c y a:Int):Bool:=(y==b)&&((m==([]:aa))||(a==c))
def DW (up:Bool) (m d:aa) (c b e y:Int) (f:List Int) (a:Int):Option (Int×Int×Int):=
 if IG up m c b y a then none else (f.find? (yM up (Gy m c b y a) d e (uR d y a))).map λk=>(y,a,k)
def Dj (up:Bool) (m d:aa) (f a c:Int) (b e:List Int) (y:Int):Option (Int×Int×Int):=b.findSome? (DW up m d f a c y e)
def IF (d:aa) (b:List Int):Prop:=b.length<=31/\(d≠[]->∀a∈b,1<=a/\a<=12)
theorem K8 (n:Nat) (g l:Bool) (dg:aa) (x q:Int) (m d:aa) (k0 k1 k2:Int) {y:Int} (hy:du y) {a:Int} (c:d≠[]->1<=a/\a<=12) (e f:List Int):
  di n g l dg x q m d k0 k1 k2 y a e f=some (uR d y a):=by
 unfold di uR;by_cases b:d=[]
 ·subst b;rfl
 ·rw [kr b,ab b];have:=c b;obtain ⟨k,rfl⟩:∃k:Nat,a=(k:Int):=⟨a.toNat,by omega⟩;rw [af,KV n hy (by omega) (by omega)];rfl
theorem Qi {A B Y:Type} (L:List A) (p:A->Bool) (F:A->B) (J:B->Y) (e:Y):(L.findSome? λa=>if p a then some (J (F a)) else none).getD e=((L.find? p).map F).elim e J:=by
 induction L with
 | nil=>rfl
 | cons a L ih=>
  rw [List.find?_cons,By];cases h:p a
  ·simpa using ih
  ·simp
theorem RE {A B Y:Type} (L:List A) (G:A->Option B) (J:B->Y) (e:Y):(L.findSome? λa=>(G a).map J).getD e=(L.findSome? G).elim e J:=by
 induction L with
 | nil=>rfl
 | cons a L ih=>
  rw [By,By];cases h:G a
  ·simpa using ih
  ·simp
theorem LQ (n:Nat) (s y f:Int) (a:Bool) (most p r:Int) (o b:List Int) (g l:Bool) (dg:aa) (x q:Int) (m d:aa) (k0 k1 k2 t h c:Int) (up:Bool) (v u rd:Int) (i:Nat) (k:Int) (hi:b[i]?=some k) (w:i<1000):
  bA n (s,y,f,a,most,p,r,((b.length:Nat):Int),(i:Int),o,b,g,l,dg,x,q,m,d,k0,k1,k2,t,h,c,up,v,u,rd)=some ((if yM up a d c most k then some (.inl (true,y,f,k)) else none).elim (.inl (s,y,f,a,most,p,r,((b.length:Nat):Int),((i+1:Nat):Int),o,b,g,l,dg,x,q,m,d,k0,k1,k2,t,h,c,up,v,u,rd)) Sum.inr):=by
 have e:i<b.length:=(tu.1 hi).1;have j:IntKind.wrap .i64 ((i:Int)+1)=((i+1:Nat):Int):=by rw [wrap_i64 _ (by omega) (by omega)];omega
 unfold bA gu yM;simp only [d4,d8,d16,fb e,hi,ob,j,En];rw [am (show (i:Int)<((b.length:Nat):Int) by omega)];simp only [aj];cases decide (k<=most)<;>cases a<;>cases (d==([]:aa))<;>cases ahd up k c<;>simp only [cN,g9,aj,af,j]<;>rfl
theorem Qu (n:Nat) (s y p:Int) (b:Bool) (most f i:Int) (e a:List Int) (g l:Bool) (dg:aa) (x q:Int) (m d:aa) (k0 k1 k2 j c h:Int) (up:Bool) (o k rd:Int):
  bA n (s,y,p,b,most,f,i,((a.length:Nat):Int),((a.length:Nat):Int),e,a,g,l,dg,x,q,m,d,k0,k1,k2,j,c,h,up,o,k,rd)=some (.inr (.inr (s,y,f,i,e,a,g,l,dg,x,q,m,d,k0,k1,k2,j,c,h,up,o,k,rd))):=by
 unfold bA;simp only [d4,d8,d16];rw [aq (show ¬((a.length:Nat):Int)<((a.length:Nat):Int) by omega)];rfl
theorem OH (n:Nat) (B:1000<n) (s y h:Int) (a:Bool) (most p r:Int) (o b:List Int) (g l:Bool) (dg:aa) (x q:Int) (m d:aa) (k0 k1 k2 t j c:Int) (up:Bool) (v u rd:Int) (A:b.length<=31):
  ar (bA n) n (s,y,h,a,most,p,r,((b.length:Nat):Int),0,o,b,g,l,dg,x,q,m,d,k0,k1,k2,t,j,c,up,v,u,rd)=some (((b.find? (yM up a d c most)).map (λk=>(y,h,k))).elim (.inr (s,y,p,r,o,b,g,l,dg,x,q,m,d,k0,k1,k2,t,j,c,up,v,u,rd)) (λz=>.inl (true,z))):=by
 have:=vv (step:=bA n) (f:=λi=>(s,y,h,a,most,p,r,((b.length:Nat):Int),(i:Int),o,b,g,l,dg,x,q,m,d,k0,k1,k2,t,j,c,up,v,u,rd)) (L:=b) (G:=λk=>if yM up a d c most k then some (.inl (true,y,h,k)) else none) (e:=.inr (s,y,p,r,o,b,g,l,dg,x,q,m,d,k0,k1,k2,t,j,c,up,v,u,rd))
  (λi k hi=>by
   have w:i<b.length:=(tu.1 hi).1;exact LQ n s y h a most p r o b g l dg x q m d k0 k1 k2 t j c up v u rd i k hi (by omega))
  (Qu n s y h a most p r o b g l dg x q m d k0 k1 k2 t j c up v u rd) (N:=n) (by omega)
 exact this.trans (bO some (Qi b (yM up a d c most) (λk=>(y,h,k)) (λz=>Sum.inl (true,z)) _))
theorem NR (n:Nat) (D:1000<n) (s y:Int) (hy:du y) (o p:List Int) (g l:Bool) (dg:aa) (x q:Int) (m d:aa) (k0 k1 k2 e j r:Int) (up:Bool) (u t rd:Int) (A:IF d o) (C:p.length<=31) (i:Nat) (f:Int) (hi:o[i]?=some f):
  bP n (s,y,((o.length:Nat):Int),(i:Int),o,p,g,l,dg,x,q,m,d,k0,k1,k2,e,j,r,up,u,t,rd)=some (((DW up m d e j r y p f).map (λz=>(.inl (true,z):(Bool×Int×Int×Int)⊕_))).elim (.inl (s,y,((o.length:Nat):Int),((i+1:Nat):Int),o,p,g,l,dg,x,q,m,d,k0,k1,k2,e,j,r,up,u,t,rd)) Sum.inr):=by
 have v:i<o.length:=(tu.1 hi).1;have E:=A.1;have B:IntKind.wrap .i64 ((i:Int)+1)=((i+1:Nat):Int):=by rw [wrap_i64 _ (by omega) (by omega)];omega
 have w:d≠[]->1<=f/\f<=12:=λh=>A.2 h f (fH hi);have j20:∀a b:Int,ei n s y f (y==e) a b o p g l dg x q m d k0 k1 k2 e j r up u t rd=some (s,y,f,(y==e),a,b,IG up m e j y f,o,p,g,l,dg,x,q,m,d,k0,k1,k2,e,j,r,up,u,t,rd):=by
  intro a b;unfold ei IG;simp only [En,ob];cases (y==e)<;>cases (m==([]:aa))<;>rfl
 have j23:∀a b c:Int,ef n s y f (y==e) a b c o p g l dg x q m d k0 k1 k2 e j r up u t rd=some (s,y,f,Gy m e j y f,a,b,c,o,p,g,l,dg,x,q,m,d,k0,k1,k2,e,j,r,up,u,t,rd):=by
  intro a b c;unfold ef Gy;cases (y==e)<;>cases (m==([]:aa))<;>rfl
 unfold bP gq DW;simp only [d4,d8,d16,fb v,hi,ob,j20];rw [am (show (i:Int)<((o.length:Nat):Int) by omega)];simp only [aj];cases hs:IG up m e j y f with
 | true=>simp only [aj,aI,gR,B];rfl
 | false=>
  simp only [af,bj,aE,K8 n g l dg x q m d k0 k1 k2 hy w,j23,OH n D s y f (Gy m e j y f) (uR d y f) _ _ o p g l dg x q m d k0 k1 k2 e j r up u t rd C];cases p.find? (yM up (Gy m e j y f) d r (uR d y f)) with
  | some k=>rfl
  | none=>simp only [gR,Option.elim_none,B]
theorem O5 (n:Nat) (u:1000<n) (s y:Int) (hy:du y) (a b:List Int) (g l:Bool) (dg:aa) (x q:Int) (m d:aa) (k0 k1 k2 j c h:Int) (up:Bool) (o k rd:Int) (r:IF d a) (t:b.length<=31):
  ar (bP n) n (s,y,((a.length:Nat):Int),0,a,b,g,l,dg,x,q,m,d,k0,k1,k2,j,c,h,up,o,k,rd)=some ((Dj up m d j c h a b y).elim (.inr (s,y,a,b,g,l,dg,x,q,m,d,k0,k1,k2,j,c,h,up,o,k,rd)) (λz=>.inl (true,z))):=by
 have v:=r.1;have:=vv (step:=bP n) (f:=λi=>(s,y,((a.length:Nat):Int),(i:Int),a,b,g,l,dg,x,q,m,d,k0,k1,k2,j,c,h,up,o,k,rd)) (L:=a) (G:=λp=>(DW up m d j c h y b p).map (λz=>(.inl (true,z):(Bool×Int×Int×Int)⊕_))) (e:=.inr (s,y,a,b,g,l,dg,x,q,m,d,k0,k1,k2,j,c,h,up,o,k,rd))
  (λi p hi=>NR n u s y hy a b g l dg x q m d k0 k1 k2 j c h up o k rd r t i p hi)
  (by
   unfold bP;simp only [d4,d8,d16];rw [aq (show ¬((a.length:Nat):Int)<((a.length:Nat):Int) by omega)];rfl)
  (N:=n) (by omega)
 exact this.trans (bO some (RE a (DW up m d j c h y b) (λz=>Sum.inl (true,z)) _))
theorem M8 (n:Nat) (o:1000<n) (s y:Int) (hy:du y) (a b:List Int) (g l:Bool) (dg:aa) (x q:Int) (m d:aa) (k0 k1 k2 f c e:Int) (up:Bool) (i h rd:Int) (j:IF d a) (k:b.length<=31):
  cA n (s,y,true,a,b,g,l,dg,x,q,m,d,k0,k1,k2,f,c,e,up,i,h,rd)=(Dj up m d f c e a b y).elim (ob (aW n g l dg x q m d k0 k1 k2 (IntKind.wrap .i64 (y+s)) up a b) λr=>some (.inl (s,r.1,r.2,a,b,g,l,dg,x,q,m,d,k0,k1,k2,f,c,e,up,i,h,rd))) (λz=>some (.inr (.inl (true,z)))):=by
 unfold cA;simp only [d4,d8,d16,aj,ob,O5 n o s y hy a b g l dg x q m d k0 k1 k2 f c e up i h rd j k];cases Dj up m d f c e a b y<;>rfl
def EX (up:Bool) (Y:Int->Prop) (F:Int->Option (Int×Int×Int)) (v:Int):Option (Int×Int×Int)->Prop
 | some z=>∃e,Y e/\Mk.eo up v e/\F e=some z/\∀a,Y a->Mk.eo up v a->¬Mk.eo up e a->F a=none
 | none=>∀e,Y e->Mk.eo up v e->F e=none
theorem GW {X:Type} {step:X->Option (X⊕((Bool×Int×Int×Int)⊕(Int×Int×Int)))} {st:Int->Bool->X} {F:Int->Option (Int×Int×Int)} {Y:Int->Prop} {up:Bool} {s lo hi:Int} {E:Int×Int×Int} {fy:Int->Option (Int×Bool)}
  (hs:s=if up then 1 else -1) (A:∀e,Y e->lo<=e/\e<=hi) (P:-10000000000000000<=lo) (d:hi<=10000000000000000)
  (a:∀y,Y y->step (st y true)=(F y).elim (ob (fy (IntKind.wrap .i64 (y+s))) λr=>some (.inl (st r.1 r.2))) (λz=>some (.inr (.inl (true,z)))))
  (c:∀y,step (st y false)=some (.inr (.inr E)))
  (p:∀v,-9223372036854775808<=v/\v<9223372036854775808->∃w f,fy v=some (w,f)/\DU up Y v w f):
  ∀(r:Nat) (v y:Int) (f:Bool),DU up Y v y f->(f=true->(if up then hi - y else y - lo)<(r:Int))->∀N,r<N->
   ∃o,ar step N (st y f)=some (o.elim (.inr E) (λz=>.inl (true,z)))/\EX up Y F v o:=by
 intro r
 induction r with
 | zero=>
  intro v y f l n N G;obtain ⟨N,rfl⟩:∃q,N=q+1:=⟨N - 1,by omega⟩;cases f with
  | true=>
   obtain ⟨a1,_,_⟩:=l.1 rfl;have:=A y a1;have:=n rfl;cases up<;>simp at this<;>omega
  | false=>
   refine ⟨none,by rw [ar,c];rfl,λe i k=>absurd k (l.2 rfl e i)⟩
 | succ r ih=>
  intro v y f l n N G;obtain ⟨N,rfl⟩:∃q,N=q+1:=⟨N - 1,by omega⟩;cases f with
  | false=>
   refine ⟨none,by rw [ar,c];rfl,λe i k=>absurd k (l.2 rfl e i)⟩
  | true=>
   obtain ⟨a1,a2,B⟩:=l.1 rfl;have O:=A y a1;cases j:F y with
   | some z=>
    refine ⟨some z,?_,y,a1,a2,j,λb d m g=>absurd (B b d m) g⟩;rw [ar,a y a1,j];rfl
   | none=>
    have J:IntKind.wrap .i64 (y+s)=y+s:=by
     have:-1<=s/\s<=1:=by rw [hs];cases up<;>simp
     exact wrap_i64 _ (by omega) (by omega)
    obtain ⟨w,t,L,u⟩:=p (y+s) (by
     have:-1<=s/\s<=1:=by rw [hs];cases up<;>simp
     omega)
    have hstep':step (st y true)=some (.inl (st w t)):=by
     rw [a y a1,j,J];show ob (fy (y+s)) _=_;rw [L];rfl
    obtain ⟨o,D,x⟩:=ih (y+s) w t u (λH=>by
     obtain ⟨b1,b2,_⟩:=u.1 H;have:=n rfl;cases up
     ·rw [gn] at b2;simp only [bj,aE] at hs this ⊢;omega
     ·rw [eF] at b2;simp only [aI] at hs this ⊢;omega) N (by omega)
    refine ⟨o,by rw [ar,hstep'];exact D,?_⟩;have split:∀b,Y b->Mk.eo up v b->b=y\/Mk.eo up (y+s) b:=λb d m=>by
     have g:=B b d m;cases up
     ·rw [gn] at g ⊢;simp only [bj,aE] at hs;omega
     ·rw [eF] at g ⊢;simp only [aI] at hs;omega
    cases o with
    | none=>
     intro e i k;rcases split e i k with rfl | h
     ·exact j
     ·exact x e i h
    | some z=>
     obtain ⟨e,I,C,K,M⟩:=x;refine ⟨e,I,?_,K,λb d m g=>?_⟩
     ·cases up
      ·rw [gn] at C a2 ⊢;simp only [bj,aE] at hs;omega
      ·rw [eF] at C a2 ⊢;simp only [aI] at hs;omega
     ·rcases split b d m with rfl | h
      ·exact j
      ·exact M b d h g
theorem F7 {g l:Bool} {dg:aa} {x:Int} (c:okY g l dg x 0):∃lo hi:Int,(∀e,inP g dg x 0 e->lo<=e/\e<=hi)/\hi - lo<=10000/\-10000000000000000<=lo/\hi<=10000000000000000:=by
 cases d:hasX dg with
 | false=>
  have a:=Di c d;by_cases f:-10000000000000000<=(if g then -((val dg x.toNat:Nat):Int) else ((val dg x.toNat:Nat):Int))/\(if g then -((val dg x.toNat:Nat):Int) else ((val dg x.toNat:Nat):Int))<=10000000000000000
  ·refine ⟨_,_,λe b=>?_,?_,f.1,f.2⟩
   ·rw [(a e).1 b];exact ⟨s9 _,s9 _⟩
   ·omega
  ·refine ⟨0,0,λe b=>?_,by omega,by omega,by omega⟩;exfalso;have:=(a e).1 b;unfold inP at b;exact f ⟨by rw [<-this];exact b.1,by rw [<-this];exact b.2.1⟩
 | true=>
  have a:=Fh c d;obtain ⟨_,_,_,i,k⟩:=vF c d;refine ⟨if g then -9999 else 0,if g then 0 else 9999,λe b=>?_,by cases g<;>simp,by cases g<;>simp,by cases g<;>simp⟩;have h:=((a e).1 b).1;have:=(Mk.mJ h).2.2.2.2;rw [i] at this;have j:(10:Int) ^ 4=10000:=by decide
  unfold wOf at this;cases g
  ·simp at this ⊢;omega
  ·simp at this ⊢;omega
theorem zi {g:Bool} {dg:aa} {x q e:Int} (h:inP g dg x q e):du e:=⟨h.1,h.2.1⟩
theorem Gh {g l:Bool} {dg:aa} {x:Int} (e:okY g l dg x 0) (m d:aa) (k0 k1 k2:Int) (a h i:Int) (n:-9223372036854775808<=a/\a<9223372036854775808) (b c:List Int) (t:IF d b) (C:c.length<=31):
  ∃o,gU 20000000 g l dg x 0 m d k0 k1 k2 a h i true b c=some (o.elim (0,0,0,false) λz=>(z.1,z.2.1,z.2.2,true))/\EX true (inP g dg x 0) (Dj true m d a h i b c) a o:=by
 obtain ⟨lo,hi,q,G,k,j⟩:=F7 e;obtain ⟨w,f,D,p⟩:=KW e m d k0 k1 k2 a n true b c;obtain ⟨o,r,u⟩:=GW (step:=cA 20000000) (st:=λy f=>(1,y,f,b,c,g,l,dg,x,0,m,d,k0,k1,k2,a,h,i,true,0,0,0)) (F:=Dj true m d a h i b c) (Y:=inP g dg x 0) (up:=true) (s:=1) (lo:=lo) (hi:=hi) (E:=(0,0,0)) (fy:=λv=>aW 20000000 g l dg x 0 m d k0 k1 k2 v true b c)
  rfl q k j
  (λy hy=>M8 20000000 (by omega) 1 y (zi hy) b c g l dg x 0 m d k0 k1 k2 a h i true 0 0 0 t C)
  (λy=>rfl)
  (λv B=>KW e m d k0 k1 k2 v B true b c)
  10002 a w f p (λA=>by have:=q w (p.1 A).1;simp;omega) 20000000 (by omega)
 refine ⟨o,?_,u⟩;unfold gU hO;simp only [cN,af,ob,d4,d8,d16,D];have i1':ar (cA 20000000) 20000000 (1,w,f,b,c,g,l,dg,x,0,m,d,k0,k1,k2,a,h,i,true,0,0,0)=_:=r;rw [i1'];cases o<;>rfl
theorem D8 (m d:aa) (l o:Int) {g e:Int} (h:e≠g) (n f:List Int):Dj true m d g l o n f e=none↔(n.flatMap λa=>(f.filter λk=>decide (k<=uR d e a)).map λk=>(e,a,k))=[]:=by
 have i:(e==g)=false:=aL.2 h;unfold Dj;rw [List.findSome?_eq_none_iff,List.flatMap_eq_nil_iff];have:∀a,DW true m d g l o e f a=none↔((f.filter λk=>decide (k<=uR d e a)).map λk=>(e,a,k))=[]:=by
  intro a;unfold DW IG Gy;rw [i];simp only [xz,bj,aE,Option.map_eq_none_iff,List.find?_eq_none,List.map_eq_nil_iff,List.filter_eq_nil_iff];constructor
  ·intro c k j;have:=c k j;unfold yM at this;simpa using this
  ·intro c k j;have:=c k j;unfold yM;simpa using this
 exact ⟨λc a b=>(this a).1 (c a b),λc a b=>(this a).2 (c a b)⟩
def hasF (g:Bool) (dg:aa) (x:Int) (m d:aa):Prop:=∃e,inP g dg x 0 e/\J2 m d e≠[]
open Classical in
noncomputable def chkF (g l:Bool) (dg:aa) (x q:Int) (m d:aa) (k0 k1 k2:Int):Int:=
 if chkD g l dg x q m d k0 k1 k2=0/\d≠[]/\¬hasF g dg x m d then 8 else chkD g l dg x q m d k0 k1 k2
theorem rq {g l:Bool} {dg:aa} {x q:Int} {m d:aa} {k0 k1 k2:Int} (h:chkD g l dg x q m d k0 k1 k2=0):okY g l dg x q/\(m=[]\/m.length=2)/\(d=[]\/d.length=2)/\(0<q->m=[])/\(d≠[]->m≠[]/\sea m=0):=by
 obtain ⟨b,f,e,o⟩:=IQ h;unfold yrD at b;by_cases a:okY g l dg x q
 ·rw [ae a] at b;refine ⟨a,?_,?_,λj=>?_,λn=>?_⟩
  ·rcases f with h | h | h
   ·exact .inl h
   ·exact .inr (DN h).1
   ·exact .inr (lO (by omega) h).1
  ·rcases e with h | ⟨_,_,h⟩
   ·exact .inl h
   ·exact .inr (lO (by omega) h).1
  ·unfold yrB at b;simp only [aB,kU] at b;have:=b.1;rw [am j,qm] at this;by_cases c:m=[]
   ·exact c
   ·rw [kr c] at this;cases this
  ·rcases e with h | ⟨i,k,_⟩
   ·exact absurd h n
   ·exact ⟨i,k⟩
 ·rw [ab a] at b;cases b
theorem PM {g l:Bool} {dg:aa} {x q:Int} (h:okY g l dg x q):0<=q:=(kA h).2.2.1
theorem IL {m d:aa} (h:d≠[]->m≠[]/\sea m=0):IF d (monI m):=by
 refine ⟨qO (Ll m) (by omega),λe f a=>?_⟩;obtain ⟨c,g⟩:=h e;unfold monI at a;rw [ab c,ab (by omega)] at a;obtain ⟨k,b,rfl⟩:=ek.1 a;have:=uO.1 (lT.1 b).1;omega
theorem uc {g l:Bool} {dg:aa} {x q:Int} {m d:aa} {k0 k1 k2:Int} (k:m.length<=18) (n:dg.length<=100) (D:0<=k0) (E:0<=k1) (F:0<=k2):
  bf 20000000 g l dg x q m d k0 k1 k2=some (chkF g l dg x q m d k0 k1 k2):=by
 unfold bf chkF;rw [ym 20000000 (by omega) g l dg x q m d k0 k1 k2 k n D E F];simp only [ob];by_cases hc:chkD g l dg x q m d k0 k1 k2=0
 ·obtain ⟨b,t,s,w,f⟩:=rq hc;rw [hc];simp only [fD,af];by_cases j:d=[]
  ·subst j;rw [ab (by simp)];rfl
  ·rw [kr j,af];have r:q=0:=by
    have:=PM b;by_cases h:0<q
    ·exact absurd (w h) (f j).1
    ·omega
   subst r;have e:=U5 20000000 (by omega) g l dg x 0 m d k0 k1 k2 t s;have p:=IL f;obtain ⟨o,o1,u⟩:=Gh b m d k0 k1 k2 (-9223372036854775808) 0 0 (by omega) (monI m) (dayI d) p (Mc d);have c:∀e,inP g dg x 0 e->e≠-9223372036854775808:=λe A=>by have:=zi A;unfold du at this;omega
   have key:(∃z,o=some z)↔hasF g dg x m d:=by
    constructor
    ·rintro ⟨z,rfl⟩;obtain ⟨e,a,_,v,_⟩:=u;refine ⟨e,a,λC=>?_⟩;have:=(D8 m d 0 0 (c e a) (monI m) (dayI d)).2 C;rw [this] at v;cases v
    ·rintro ⟨e,a,B⟩;cases o with
     | some z=>exact ⟨z,rfl⟩
     | none=>
      have:=u e a (by rw [eF];have:=zi a;unfold du at this;omega);exact absurd ((D8 m d 0 0 (c e a) (monI m) (dayI d)).1 this) B
   rw [e];by_cases i:hasF g dg x m d
   ·obtain ⟨z,rfl⟩:=key.2 i;rw [ab (λh=>h.2.2 i)]
    all_goals
     simp only [d4,d8,o1];rfl
   ·have y:o=none:=by
     cases o with
     | none=>rfl
     | some z=>exact absurd (key.1 ⟨z,rfl⟩) i
    subst y;rw [ae ⟨rfl,j,i⟩]
    all_goals
     simp only [d4,d8,o1];rfl
 ·rw [ab (λh=>hc h.1)];have:(chkD g l dg x q m d k0 k1 k2 != 0)=true:=by simp [hc]
  rw [this];rfl
theorem pF {g l:Bool} {dg:aa} {x q:Int} {m d:aa} {k0 k1 k2:Int} (h:chkF g l dg x q m d k0 k1 k2=0):chkD g l dg x q m d k0 k1 k2=0:=by
 unfold chkF at h;split at h
 ·cases h
 ·exact h
theorem bne0 {e:Int} (h:e≠0):(e != 0)=true:=by simp [h]
theorem ET {m d:aa} {y:Int} {z:Int×Int×Int}:z∈J2 m d y↔z.1=y/\z.2.1∈monI m/\z.2.2∈dayI d/\z.2.2<=uR d y z.2.1:=by
 unfold J2 N5;simp only [List.mem_flatMap,ek,lT,bV];constructor
 ·rintro ⟨f,a,k,⟨b,c⟩,rfl⟩;exact ⟨rfl,a,b,c⟩
 ·rintro ⟨e,a,b,c⟩;exact ⟨z.2.1,a,z.2.2,⟨b,c⟩,by rw [<-e]⟩
theorem QS (y:Int) (i:Nat):(minL i:Int)<=lenI y (i:Int):=by
 unfold minL lenI
 repeat' split
 all_goals omega
theorem Ns {g l:Bool} {dg:aa} {x:Int} (b:okY g l dg x 0) {m d:aa} (j:m≠[]) (hs:sea m=0) (h:d≠[]) (c:fitD m d=true):hasF g dg x m d:=by
 obtain ⟨o,_,_⟩:=KA b;refine ⟨_,o,?_⟩;unfold fitD at c;simp only [qw,aB] at c;obtain ⟨i,hi,q,k,n,a⟩:=c;have hi':=uO.1 hi;have hk':=uO.1 n;have p:minL i<=31:=by
  unfold minL
  repeat' split
  all_goals omega
 have f:((sgn g (oa g dg x 0)).1,(i:Int),(k:Int))∈J2 m d (sgn g (oa g dg x 0)).1:=by
  rw [ET];refine ⟨rfl,?_,?_,?_⟩
  ·unfold monI;rw [ab j,ab (by omega)];exact ek.2 ⟨i,lT.2 ⟨hi,q⟩,rfl⟩
  ·unfold dayI;rw [ab h];exact ek.2 ⟨k,lT.2 ⟨uO.2 (by omega),a⟩,rfl⟩
  ·unfold uR;rw [ab h];have:=QS (sgn g (oa g dg x 0)).1 i;show (k:Int)<=lenI (sgn g (oa g dg x 0)).1 (i:Int);omega
 intro e;rw [e] at f;cases f
theorem MO {g l:Bool} {dg:aa} {x q:Int} {m d:aa} {k0 k1 k2:Int} (hc:chkD g l dg x q m d k0 k1 k2=0) (i:d=[]\/fitD m d=true):chkF g l dg x q m d k0 k1 k2=0:=by
 obtain ⟨a,p,k,n,b⟩:=rq hc;unfold chkF;rw [ab,hc];rintro ⟨_,e,j⟩;obtain ⟨f,o⟩:=b e;have c:q=0:=by
  have:=PM a;by_cases h:0<q
  ·exact absurd (n h) f
  ·omega
 subst c;exact j (Ns a f o e (i.resolve_left e))
def plN (P:Nat×Nat×Nat) (i:Nat):Nat:=if i=0 then P.1 else if i=1 then P.2.1 else P.2.2
theorem xb {g l:Bool} {dg:aa} {x q:Int} {m d:aa} {k0 k1 k2:Int} (a:allM k0 k1 k2 (cw m d)=0):chkF g l dg x q m d k0 k1 k2=0\/chkF g l dg x q m d k0 k1 k2=6\/chkF g l dg x q m d k0 k1 k2=7\/chkF g l dg x q m d k0 k1 k2=8:=by
 unfold chkF;split
 ·exact .inr (.inr (.inr rfl))
 ·exact J9 a
noncomputable def chkR (r:DR):Nat:=(chkF r.1 r.2.1 r.2.2.1 (r.2.2.2.1:Int) (r.2.2.2.2.1:Int) r.2.2.2.2.2.1 r.2.2.2.2.2.2.1 (r.2.2.2.2.2.2.2.1.1:Int) (r.2.2.2.2.2.2.2.1.2.1:Int) (r.2.2.2.2.2.2.2.1.2.2:Int)).toNat
noncomputable def dX (S:aa) (a:Nat):(Nat×Nat×Nat)⊕DR:=
 match pw S a with
 | .inl k=>.inl (k,5,k)
 | .inr r=>if chkR r=0 then .inr r else .inl (plN r.2.2.2.2.2.2.2.2.1 (chkR r - 6),chkR r,r.2.2.2.2.2.2.2.2.2)
def RL (S:aa):(Nat×Nat×Nat)⊕DR->(Int×Int×aa×Int)⊕(Bool×Bool×aa×Int×Int×aa×aa×Int×Int×Int×Int×aa×Int)
 | .inl (k,E,p)=>.inl ((k:Int),(E:Int),S,(p:Int))
 | .inr (g,l,dg,x,s,m,d,M,P,e)=>.inr (g,l,dg,(x:Int),(s:Int),m,d,(M.1:Int),(M.2.1:Int),(M.2.2:Int),(P.1:Int),S,(e:Int))
theorem C0 (S:aa) (a:Nat) (h:a<=S.length) (o:S.length<100000):gy 20000000 S (a:Int)=some (RL S (dX S a)):=by
 have n:iS 20000000 S (a:Int)=_:=OM 19999700 S a h o (by omega);unfold gy dX;rw [n];cases p:pw S a with
 | inl k=>rfl
 | inr r=>
  obtain ⟨g,l,dg,x,s,f,d,M,P,e⟩:=r;have b:=FB h p;have i:=b.all;have t:=b.m2;have j:=b.dg17;simp only [ob,Tf,d4,d8];rw [uc (g:=g) (l:=l) (x:=(x:Int)) (q:=(s:Int)) (d:=d) (show f.length<=18 by omega) (show dg.length<=100 by omega) (show (0:Int)<=(M.1:Int) by omega) (show (0:Int)<=(M.2.1:Int) by omega) (show (0:Int)<=(M.2.2:Int) by omega)];simp only [ob];have c:=xb (g:=g) (l:=l) (dg:=dg) (x:=(x:Int)) (q:=(s:Int)) (m:=f) (d:=d) (k0:=(M.1:Int)) (k1:=(M.2.1:Int)) (k2:=(M.2.2:Int)) (vt i);unfold chkR;simp only [];rcases c with hc | hc | hc | hc<;>rw [hc]<;>rfl
def dayY (y:Int):Int:=365*y+(1+(y - 1) / 4 - (y - 1) / 100+(y - 1) / 400)
def cumM (y:Int):Nat->Int
 | 0=>0
 | k+1=>cumM y k+lenI y ((k+1:Nat):Int)
def dayM (y:Int) (m:Nat):Int:=if m<=12 then dayY y+cumM y (m - 1) else dayY (y+1)+cumM (y+1) (m - 13)
theorem He (y:Int):dayY (y+1)=dayY y+365+(if ww y then 1 else 0):=by
 unfold dayY ww;simp only [aB,f8,bV];split<;>omega
theorem mX {y:Int} (h:-20000000000000000<=y/\y<=20000000000000000):-8000000000000000000<=dayY y/\dayY y<=8000000000000000000:=by
 unfold dayY;omega
theorem U3 (y:Int):cumM y 12=365+(if ww y then 1 else 0):=by
 have e:∀k:Nat,cumM y (k+1)=cumM y k+lenI y ((k+1:Nat):Int):=λ_=>rfl;have z:cumM y 0=0:=rfl;rw [e 11,e 10,e 9,e 8,e 7,e 6,e 5,e 4,e 3,e 2,e 1,e 0,z];unfold lenI;cases ww y<;>rfl
theorem rt (y:Int):∀k:Nat,0<=cumM y k/\cumM y k<=31*(k:Int)
 | 0=>by simp [cumM]
 | k+1=>by
  have b:=rt y k;have a:=pW y ((k+1:Nat):Int);show 0<=cumM y k+lenI y ((k+1:Nat):Int)/\cumM y k+lenI y ((k+1:Nat):Int)<=_;omega
theorem xF {y:Int} (h:du y) {m:Nat} (a:m<=24):-8100000000000000000<=dayM y m/\dayM y m<=8100000000000000000:=by
 unfold du at h;unfold dayM;split
 ·have:=rt y (m - 1);have:=mX (y:=y) (by omega);omega
 ·have:=rt (y+1) (m - 13);have:=mX (y:=y+1) (by omega);omega
theorem Pl (y:Int):dayM y 13=dayY (y+1):=by
 unfold dayM;rw [ab (by omega)];simp [cumM]
theorem Ir (y:Int) {m:Nat} (b:1<=m) (a:m<=12):dayM y (m+1)=dayM y m+lenI y (m:Int):=by
 obtain ⟨k,rfl⟩:∃k,m=k+1:=⟨m - 1,by omega⟩;have e:dayM y (k+1)=dayY y+cumM y k:=by unfold dayM;rw [ae (by omega)];rfl
 rw [e];by_cases h:k+1=12
 ·obtain rfl:k=11:=by omega
  rw [Pl,He];have:=U3 y;have e:cumM y 12=cumM y 11+lenI y ((11+1:Nat):Int):=rfl;omega
 ·have:dayM y (k+1+1)=dayY y+cumM y (k+1):=by unfold dayM;rw [ae (by omega)];rfl
  rw [this];show dayY y+(cumM y k+lenI y ((k+1:Nat):Int))=_;omega
theorem J4 (y:Int) {m:Nat} (b:1<=m) (a:m<=12):dayM y (m+12)=dayM (y+1) m:=by
 unfold dayM;rw [ab (by omega),ae a];congr 2
theorem qA (n:Nat) {y:Int} (h:-10000000000000001<=y/\y<=10000000000000001):jW n y=some (dayY y):=by
 have a:=mX (y:=y) (by omega);unfold jW;rw [vz n (by omega),wrap_i64 (365*y) (by omega) (by omega)];show some (IntKind.wrap .i64 (dayY y))=_;rw [wrap_i64 _ (by omega) (by omega)]
theorem qC (n:Nat) {y:Int} (h:du y):kh n y=some (dayY y,0):=by
 unfold kh;have h':=h;unfold du at h';rw [fJ,ae h,qA n (by omega)];rfl
theorem A5 (n:Nat) {y:Int} (h:du y):rW n y=some (dayY (y+1) - 1,0):=by
 unfold rW;have h':=h;unfold du at h';have a:=mX (y:=y+1) (by omega);rw [fJ,ae h,wrap_i64 (y+1) (by omega) (by omega),qA n (by omega)];show some (IntKind.wrap .i64 (dayY (y+1) - 1),(0:Int))=_;rw [wrap_i64 _ (by omega) (by omega)]
theorem CW (n:Nat) {y:Int} (h:du y) {m:Nat} (c:m<=11):∀(r j:Nat),j+r=m->∀N,r<N->ar (bw n) N (y,dayY y+cumM y j,(m:Int),(j:Int))=some (dayY y+cumM y m):=by
 have h':=h;unfold du at h';have e:=mX (y:=y) (by omega);intro r
 induction r with
 | zero=>
  intro j b N a;obtain ⟨N,rfl⟩:∃k,N=k+1:=⟨N - 1,by omega⟩;obtain rfl:j=m:=by omega
  have:bw n (y,dayY y+cumM y j,(j:Int),(j:Int))=some (.inr (dayY y+cumM y j)):=by
   unfold bw;rw [bC,ab (show ¬((j:Int)<(j:Int)) by omega)]
  rw [ar,this]
 | succ r ih=>
  intro j b N a;obtain ⟨N,rfl⟩:∃k,N=k+1:=⟨N - 1,by omega⟩;have w:IntKind.wrap .i64 ((j:Int)+1)=((j+1:Nat):Int):=by rw [wrap_i64 _ (by omega) (by omega)];omega
  have hc:=rt y j;have d:=pW y ((j+1:Nat):Int);have:bw n (y,dayY y+cumM y j,(m:Int),(j:Int))=some (.inl (y,dayY y+cumM y (j+1),(m:Int),((j+1:Nat):Int))):=by
   unfold bw;rw [bC,ae (show ((j:Int)<(m:Int)) by omega)];simp only [w,uI n h (show 1<=j+1 by omega) (show j+1<=12 by omega),ob];rw [wrap_i64 (dayY y+cumM y j+lenI y ((j+1:Nat):Int)) (by omega) (by omega),Int.add_assoc];rfl
  rw [ar,this];exact ih (j+1) (by omega) N (by omega)
theorem sd (n:Nat) (c:100<n) {y:Int} (h:du y) {m:Nat} (b:1<=m) (a:m<=12):eK n y (m:Int)=some (dayM y m,0):=by
 unfold eK;have w:IntKind.wrap .i64 ((m:Int) - 1)=((m - 1:Nat):Int):=by rw [wrap_i64 _ (by omega) (by omega)];omega
 rw [FO n h b a,qC n h,w];have:=CW n h (m:=m - 1) (by omega) (m - 1) 0 (by omega) n (by omega);rw [show dayY y+cumM y 0=dayY y by simp [cumM]] at this;show ob (ar (bw n) n (y,dayY y,((m - 1:Nat):Int),((0:Nat):Int))) _=_;rw [this];unfold dayM;rw [ae a];rfl
theorem CN (n:Nat) (c:100<n) {y:Int} (h:du y) {m:Nat} (a:1<=m) (b:m<=12):fU n y (m:Int)=some (dayM y (m+1) - 1,0):=by
 unfold fU;have e:=xF h (m:=m) (by omega);have d:=pW y (m:Int);rw [sd n c h a b,uI n h a b,Ir y a b];show some (IntKind.wrap .i64 (IntKind.wrap .i64 (dayM y m+lenI y (m:Int)) - 1),(0:Int))=_;rw [wrap_i64 (dayM y m+lenI y (m:Int)) (by omega) (by omega),wrap_i64 _ (by omega) (by omega)]
theorem Gi (n:Nat) (d:100<n) {y:Int} (h:du y) {j m c:Nat} (l:j<21) (e:mz[j]?=some ((m:Int),(c:Int))) (f:1<=m) (g:m<=12) (k:1<=c) (i:c<=6) (hy:12<m+c - 1->y≠10000000000000000):
  gx n y ((21+j:Nat):Int)=some (0,dayM y m,0,dayM y (m+c) - 1,0):=by
 have o:eI n ((21+j:Nat):Int)=some ((m:Int),(c:Int),0):=by
  unfold eI cY;rw [bC,bC,ab (by omega),ab (by omega)];have:IntKind.wrap .i64 (((21+j:Nat):Int) - 21)=(j:Int):=by rw [wrap_i64 _ (by omega) (by omega)];omega
  rw [this,fb l];show ob (mz[j]?) _=_;rw [e];rfl
 unfold gx;rw [o];simp only [ob,fD,af];rw [sd n d h f g];simp only [ob,fD,af];rw [madd n h f g k i];have h':=h;unfold du at h';by_cases a:12<m+c - 1
 ·rw [ae a,ab (hy a)];have b:du (y+1):=by unfold du;have:=hy a;omega
  simp only [ob,fD,af];rw [CN n d b (m:=m+c - 1 - 12) (by omega) (by omega)];have:=J4 y (m:=m+c - 1 - 12+1) (by omega) (by omega);rw [show m+c - 1 - 12+1+12=m+c by omega] at this;rw [this]
 ·rw [ab a];simp only [ob,fD,af];rw [CN n d h (m:=m+c - 1) (by omega) (by omega),show m+c - 1+1=m+c by omega]
def twoV (s:aa):Nat:=match s with
 | [a,b]=>10*(a.toNat - 48)+(b.toNat - 48)
 | _=>0
def yOf (g:Bool) (dg:aa) (x:Int):Int:=if g then -((val dg x.toNat:Nat):Int) else ((val dg x.toNat:Nat):Int)
def spF (m:aa):Nat:=((mz.getD (sea m - 21).toNat (0,0)).1).toNat
def spC (m:aa):Nat:=((mz.getD (sea m - 21).toNat (0,0)).2).toNat
def tH (g:Bool) (dg:aa) (x:Int) (m d:aa):Int×Int:=
 if m=[] then (dayY (yOf g dg x),dayY (yOf g dg x+1) - 1)
 else if 0<sea m then (dayM (yOf g dg x) (spF m),dayM (yOf g dg x) (spF m+spC m) - 1)
 else if d=[] then (dayM (yOf g dg x) (twoV m),dayM (yOf g dg x) (twoV m+1) - 1)
 else (dayM (yOf g dg x) (twoV m)+(twoV d:Int) - 1,dayM (yOf g dg x) (twoV m)+(twoV d:Int) - 1)
def exD (dg m d:aa) (q:Int):Bool:=!(hasX dg||(hasX m||hasX d))&&(q==0)
theorem Oy {s:aa} (h:hasX s=false) {c:UInt8} (hc:c∈s):c≠88:=by
 rintro rfl;unfold hasX at h;rw [qk] at h;exact h 88 hc (by decide)
theorem Jz {s:aa} (h:hasX s=false) {k:Nat} (l:k<100) (c:agr s k=true):twoV s=k/\s=two k:=by
 unfold agr at c;split at c
 ·rename_i a b;have e:a≠88:=Oy h (by simp);have d:b≠88:=Oy h (by simp);simp only [aB,f8,bp] at c;obtain ⟨f,g⟩:=c;have f:=f.resolve_left e;have g:=g.resolve_left d;subst f g;refine ⟨?_,rfl⟩;unfold twoV;have j:(UInt8.ofNat (48+k / 10)).toNat=48+k / 10:=by simp;omega
  have i:(UInt8.ofNat (48+k%10)).toNat=48+k%10:=by simp;omega
  simp only [j,i];omega
 ·cases c
theorem xG {s:aa} (h:hasX s=false) {g:Nat} (d:g<100) (a:eZ s g=true):1<=twoV s/\twoV s<=g/\s=two (twoV s):=by
 unfold eZ at a;obtain ⟨i,hi,a⟩:=qw.1 a;have:=iH.1 hi;obtain ⟨c,b⟩:=Jz h (by omega) a;rw [c];exact ⟨by omega,by omega,b⟩
theorem Kr {s:aa} (h:hasX s=false) {g:Nat} (d:g<100) {k:Int} (b:k∈wO (fitN s g)):k=(twoV s:Int):=by
 obtain ⟨i,hi,rfl⟩:=ek.1 b;obtain ⟨c,a⟩:=lT.1 hi;have:=uO.1 c;rw [(Jz h (by omega) a).1]
theorem D4 {k:Nat} (c:k<100):Lib.atoi (two k)=some (k:Int):=by
 have a:(UInt8.ofNat (48+k / 10)).toNat=48+k / 10:=by simp;omega
 have b:(UInt8.ofNat (48+k%10)).toNat=48+k%10:=by simp;omega
 unfold two;rw [EL (by omega) (by omega),a,b];congr 2;omega
structure Exact (g l:Bool) (dg:aa) (x:Int) (m d:aa):Prop where
 ok:okY g l dg x 0
 num:hasX dg=false
 cal:du (yOf g dg x)
 mon:m=[]\/(∃j,j<21/\m=two (21+j)/\(j=3\/j=7\/j=9->yOf g dg x≠10000000000000000))\/(sea m=0/\1<=twoV m/\twoV m<=12/\m=two (twoV m))
 day:d=[]\/(m≠[]/\sea m=0/\1<=twoV d/\twoV d<=31/\d=two (twoV d)/\(twoV d:Int)<=lenI (yOf g dg x) (twoV m:Int))
theorem Nu {g l:Bool} {dg:aa} {x q:Int} {m d:aa} {k0 k1 k2:Int} (hc:chkF g l dg x q m d k0 k1 k2=0) (p:exD dg m d q=true):q=0/\Exact g l dg x m d:=by
 unfold exD at p;simp only [aB,kU,mW,bp] at p;obtain ⟨⟨w,s,f⟩,rfl⟩:=p;refine ⟨rfl,?_⟩;have v:=pF hc;obtain ⟨a,K,I,Q,B⟩:=rq v;obtain ⟨o,N,M,R⟩:=IQ v;have n:=Di a w;obtain ⟨G,_,_⟩:=KA a;have hy:inP g dg x 0 (yOf g dg x):=by
  have:=(n _).1 G;have e:yOf g dg x=(sgn g (oa g dg x 0)).1:=by rw [this];rfl
  rw [e];exact G
 have r:=zi hy;refine ⟨a,w,r,?_,?_⟩
 ·by_cases k:m=[]
  ·exact .inl k
  ·right;rcases nu m with P | ⟨j,F,e⟩
   ·right;rcases N with h | h | h
    ·exact absurd h k
    ·omega
    ·obtain ⟨a1,a2,D⟩:=xG s (by omega) h;exact ⟨P,a1,a2,D⟩
   ·left;refine ⟨j,F,e,λJ=>?_⟩;unfold yrD at o;rw [ae a] at o;unfold yrB at o;simp only [aB,kU] at o;have A:wint (sea m)=true:=by
     rw [e,ma F];rcases J with rfl | rfl | rfl<;>rfl
    have i:=o.2;rw [A,qm] at i;unfold wv at i;rw [w] at i;intro b;unfold yOf at b;cases g with
    | true=>
     simp only [aI] at b;omega
    | false=>
     simp only [bj,aE] at b;have:val dg x.toNat=E16:=by unfold E16;omega
     rw [am this] at i;cases i
 ·by_cases c:d=[]
  ·exact .inl c
  ·right;obtain ⟨k,hs⟩:=B c;rcases M with h | ⟨_,_,h⟩
   ·exact absurd h c
   ·obtain ⟨a1,a2,D⟩:=xG f (by omega) h;refine ⟨k,hs,a1,a2,D,?_⟩;have H:hasF g dg x m d:=by
     unfold chkF at hc;split at hc
     ·cases hc
     ·rename_i O;by_cases h:hasF g dg x m d
      ·exact h
      ·exact absurd ⟨v,c,h⟩ O
    obtain ⟨e,p,y⟩:=H;obtain ⟨z,L,t⟩:=List.exists_cons_of_ne_nil y;have t:z∈J2 m d e:=by rw [t];exact ks
    obtain ⟨z1,z2,u,E⟩:=ET.1 t;have C:e=yOf g dg x:=(n e).1 p;unfold monI at z2;rw [ab k,ab (by omega)] at z2;unfold dayI at u;rw [ab c] at u;unfold uR at E;rw [ab c,Kr f (by omega) u,Kr s (by omega) z2,C] at E;exact E
theorem Pn {j:Nat} (b:j<21):∃f c:Nat,mz[j]?=some ((f:Int),(c:Int))/\1<=f/\f<=12/\1<=c/\c<=6/\(12<f+c - 1↔j=3\/j=7\/j=9)/\spF (two (21+j))=f/\spC (two (21+j))=c:=by
 obtain ⟨f,c,e,i,k,h,d,g⟩:=D9 b;have hs:(sea (two (21+j)) - 21).toNat=j:=by rw [ma b];omega
 have a:mz.getD j (0,0)=((f:Int),(c:Int)):=by rw [B6,e];rfl
 refine ⟨f,c,e,i,k,h,d,g,?_,?_⟩
 ·unfold spF;rw [hs,a];rfl
 ·unfold spC;rw [hs,a];rfl
theorem Ff (n:Nat) (g l:Bool) (dg:aa) (x q:Int) (m d:aa) (k0 k1 k2:Int) (a:m.length<=1000) (b:dg.length<=1000) (h:d.length<=1000):kI n g l dg x q m d k0 k1 k2=some (exD dg m d q):=by
 unfold kI exD;rw [Au n g l dg x q m d k0 k1 k2 a b h];simp only [ob];cases (hasX dg||(hasX m||hasX d))<;>rfl
theorem N1 {Y:Type} (a b:Y):∀s:aa,((s.findSome? λc=>if c=88 then some a else none).getD b)=if hasX s then a else b
 | []=>rfl
 | c::s=>by
  have ih:=N1 a b s;unfold hasX at ih ⊢;rw [By,pG];by_cases hc:c=88
  ·subst hc;rfl
  ·rw [ab hc];have e:(c==88)=false:=aL.2 hc;rw [e,mY];exact ih
theorem wT (n:Nat) (s:aa) (g l:Bool) (dg:aa) (x q:Int) (m d:aa) (k0 k1 k2:Int) (hs:s.length<=100000) {N:Nat} (b:s.length<N):
  ar (eW n) N (s,0,g,l,dg,x,q,m,d,k0,k1,k2)=some (if hasX s then .inl 0 else .inr (g,l,dg,x,q,m,d,k0,k1,k2)):=by
 have:=vv (step:=eW n) (f:=λi=>(s,(i:Int),g,l,dg,x,q,m,d,k0,k1,k2)) (L:=s) (G:=λc=>if c=88 then some (.inl 0) else none) (e:=.inr (g,l,dg,x,q,m,d,k0,k1,k2))
  (λi c hi=>by
   have j:=(tu.1 hi).1;have a:IntKind.wrap .i64 ((i:Int)+1)=((i+1:Nat):Int):=by rw [wrap_i64 _ (by omega) (by omega)];omega
   unfold eW;simp only [d4,d8,a];rw [am (show (i:Int)<((s.length:Nat):Int) by omega),dK hi];simp only [aj,ob];by_cases hc:c=88
   ·subst hc;rw [ae rfl];rfl
   ·rw [ab hc];have:(((c.toNat:Nat):Int)==88)=false:=by
     rw [aL];intro h;apply hc;apply fZ.1;have:c.toNat=88:=by omega
     rw [this];rfl
    rw [this];rfl)
  (by
   unfold eW;simp only [d4,d8];rw [aq (show ¬((s.length:Nat):Int)<((s.length:Nat):Int) by omega)];rfl)
  b
 rw [show ((0:Nat):Int)=0 from rfl] at this;rw [this];rw [N1]
theorem Jy (n:Nat) (g l:Bool) (dg:aa) (x q:Int) (m d:aa) (k0 k1 k2:Int) (e:m.length<=1000) (i:dg.length<=1000) (h:d.length<=1000) (f:4000<n):kY n g l dg x q m d k0 k1 k2=some (if exD dg m d q then 1 else 0):=by
 unfold kY;rw [dR (by omega)];simp only [ob];rw [dR (by rw [bE];omega)];simp only [];rw [wT n _ _ _ _ _ _ _ _ _ _ _ (by simp only [bE];omega) (by simp only [bE];omega)];rw [ue,ue];unfold exD;cases hasX dg<;>cases hasX m<;>cases hasX d<;>(try rfl);simp only [uu,bj,aE,ob,d4,g9,qm];by_cases a:q=0
 ·subst a;rfl
 ·have c:(q != 0)=true:=by simp [a]
  have b:(q==0)=false:=aL.2 a;rw [c,b];rfl
theorem PR (n:Nat) (c:100<n) {y:Int} (h:du y) {m k:Nat} (a:1<=m) (b:m<=12) (k1:1<=k) (k2:(k:Int)<=lenI y (m:Int)):pQ n y (m:Int) (k:Int)=some (dayM y m+(k:Int) - 1,0):=by
 have e:=xF h (m:=m) (by omega);have d:=pW y (m:Int);unfold pQ o6;rw [KV n h a b];simp only [ob,fD,af];rw [aq (show ¬(k:Int)<1 by omega),aq (show ¬(k:Int)>lenI y (m:Int) by omega),sd n c h a b];simp only [ob,fD,af];rw [wrap_i64 (dayM y m+(k:Int)) (by omega) (by omega),wrap_i64 _ (by omega) (by omega)]
section
variable {g l:Bool} {dg:List UInt8} {x:Int} {m d:List UInt8} {k0 k1 k2:Int}
theorem C7 (n:Nat) (u:100<n) (v:m.length<=18) (E:Exact g l dg x m d) (p r:Int) (D:m≠[]->p=if 0<sea m then sea m else (twoV m:Int)) (P:d≠[]->r=(twoV d:Int)):
  (ob (hZ n) λy=>(ob (aX n g l dg x 0 m d k0 k1 k2) λk=>(cond (k==0) (ob (fA n (yOf g dg x) ([p,r]:List (Int))) λb=>(some (b.1,b.2.1,b.2.2.1,b.2.2.2,(0:Int)))) (cond (k==1) (ob (fF n (yOf g dg x) ([p,r]:List (Int))) λi=>(some (i.1,i.2.1,i.2.2.1,i.2.2.2,0))) (cond (k==2) (ob (fG n (yOf g dg x) ([p,r]:List (Int))) λa=>(some (a.1,a.2.1,a.2.2.1,a.2.2.2,0))) (cond (k==3) (ob (fB n (yOf g dg x) ([p,r]:List (Int))) λo=>(some (o.1,o.2.1,o.2.2.1,o.2.2.2,0))) none)))))) =
   some (0,(tH g dg x m d).1,0,(tH g dg x m d).2,0):=by
 have J:hZ n=some ():=rfl;have w:ix ([p,r]:List Int).length 0=some 0:=rfl;have G:ix ([p,r]:List Int).length 1=some 1:=rfl;have g0:([p,r]:List Int)[0]?=some p:=rfl;have I:([p,r]:List Int)[1]?=some r:=rfl;rw [J,Ht n g l dg x 0 m d k0 k1 k2 v];unfold tH;by_cases t:d=[]
 ·rw [ae t];by_cases q:m=[]
  ·have hs:sea m=0:=by rw [q];decide
   rw [ab (show ¬0<sea m by omega),ae q,ae q];unfold fF;rw [qC n E.cal,A5 n E.cal];rfl
  ·rw [ab q];by_cases hs:0<sea m
   ·rw [ae hs,ae hs];rcases E.mon with h | ⟨j,s,e,B⟩ | ⟨h,_⟩
    ·exact absurd h q
    ·obtain ⟨f,c,O,a1,a2,K,M,N,L,F⟩:=Pn s;have z:p=((21+j:Nat):Int):=by rw [D q,ae hs,e,ma s]
     unfold fA;rw [w];simp only [ob,g0];rw [z,Gi n u E.cal s O a1 a2 K M (λh=>B (N.1 h)),e,L,F];rfl
    ·omega
   ·rw [ab hs,ab hs,ab q,ae t];rcases E.mon with h | ⟨j,s,e,B⟩ | ⟨_,a1,a2,_⟩
    ·exact absurd h q
    ·rw [e,ma s] at hs;omega
    ·have z:p=(twoV m:Int):=by rw [D q,ab hs]
     unfold fG;rw [w];simp only [ob,g0];rw [z,sd n u E.cal a1 a2,CN n u E.cal a1 a2];rfl
 ·rw [ab t];rcases E.day with h | ⟨q,hs,b1,b2,Q,H⟩
  ·exact absurd h t
  ·rw [ab q,ab (show ¬0<sea m by omega),ab t];rcases E.mon with h | ⟨j,s,e,B⟩ | ⟨_,a1,a2,_⟩
   ·exact absurd h q
   ·rw [e,ma s] at hs;omega
   ·have A:p=(twoV m:Int):=by rw [D q,ab (by omega)]
    have C:=P t;unfold fB;rw [w,G];simp only [ob,g0,I];rw [A,C,PR n u E.cal a1 a2 b1 H];rfl
theorem NP (E:Exact g l dg x m d) (b:m≠[]):Lib.atoi m=some (if 0<sea m then sea m else (twoV m:Int)):=by
 rcases E.mon with h | ⟨j,a,e,_⟩ | ⟨f,a1,a2,c⟩
 ·exact absurd h b
 ·rw [e,ma a,ae (by omega)];exact vA a
 ·rw [ab (by omega)];have:=D4 (k:=twoV m) (by omega);rw [<-c] at this;exact this
theorem NI (E:Exact g l dg x m d) (b:d≠[]):Lib.atoi d=some (twoV d:Int):=by
 rcases E.day with h | ⟨_,_,a1,a2,a,_⟩
 ·exact absurd h b
 ·have:=D4 (k:=twoV d) (by omega);rw [<-a] at this;exact this
theorem zG:Lib.atoi []=none:=by kernel_rfl
theorem C3 {q:Int} (b:m.length<=18) (e:dg.length<=100) (t:d.length<=18) (k:0<=k0) (r:0<=k1) (s:0<=k2):
  ct 20000000 g l dg x q m d k0 k1 k2=some (if chkF g l dg x q m d k0 k1 k2=0 then (if exD dg m d q=true then (0,(tH g dg x m d).1,0,(tH g dg x m d).2,0) else (0,0,0,0,1)) else (0,0,0,0,chkF g l dg x q m d k0 k1 k2)):=by
 have p:Nat.ble m.length 18=true:=cG b;have n:Nat.ble d.length 18=true:=cG t;unfold ct;rw [uc b e k r s];simp only [ob];by_cases hc:chkF g l dg x q m d k0 k1 k2=0
 ·rw [ae hc,hc,Ff 20000000 g l dg x q m d k0 k1 k2 (by omega) (by omega) (by omega)];simp only [ob,fD,af];by_cases c:exD dg m d q=true
  ·rw [ae c,c];obtain ⟨rfl,E⟩:=Nu hc c;have o:dN 20000000 g l dg x 0=some (yOf g dg x,0):=by
    rw [yL 20000000 g l dg x 0 (by omega) e,ae ⟨E.ok,E.num⟩];rfl
   rw [o,p,n];simp only [cN,af,aj,ob];by_cases f:m=[]
   ·have a:d=[]:=by
     rcases E.day with h | ⟨h,_⟩
     ·exact h
     ·exact absurd f h
    have:=C7 (k0:=k0) (k1:=k1) (k2:=k2) 20000000 (by omega) b E 0 0 (λh=>absurd f h) (λh=>absurd a h);have i:Lib.atoi m=none:=by rw [f];exact zG
    have j:Lib.atoi d=none:=by rw [a];exact zG
    rw [i,j];simp only [opt];exact this
   ·have i:=NP E f;by_cases a:d=[]
    ·have:=C7 (k0:=k0) (k1:=k1) (k2:=k2) 20000000 (by omega) b E (if 0<sea m then sea m else (twoV m:Int)) 0 (λ_=>rfl) (λh=>absurd a h);have j:Lib.atoi d=none:=by rw [a];exact zG
     rw [i,j];simp only [opt];exact this
    ·have:=C7 (k0:=k0) (k1:=k1) (k2:=k2) 20000000 (by omega) b E (if 0<sea m then sea m else (twoV m:Int)) (twoV d:Int) (λ_=>rfl) (λ_=>rfl);rw [i,NI E a];simp only [opt];exact this
  ·rw [ab c];rw [Ft] at c;rw [c];rfl
 ·rw [ab hc,bne0 hc];rfl
end
end Go.Sh
